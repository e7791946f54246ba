/-
  The walks of the laws FnStateValid and FnLogPart: each returns true for every input, and leaves its arguments as they were.
-/
import Derived.Test.YtnbpckaplggkfaaDraw5
import Derived.Test.YtnbpckaplggkfaaStates1
import Derived.Test.YtnbpckaplggkfaaApp2
set_option linter.all false
namespace Go.Proofs.Ytnbpckaplggkfaa
open Go.RowKit

theorem len64' {n c : Nat} {w : World} {a : Option Addr} (h : CodeR w a n c) : n ≤ 9223372036854775807 := by have := h.1; have := h.2.1; unfold maxLen at this; omega

theorem implStateValid_n {A : Option Addr} {s : List Int} {n : Nat} (c : Nat) {w : World} (h : IntsR w A s) (hn : s.length = n) (hm : s.length ≤ 1048576) :
    Calls Try.prog 20 #[.slice A n c] w fun e w' => e = .returned (.bool (stateOk s)) ∧ Ext w w' := by
  subst hn; exact implStateValid_any c h hm

theorem fnStateValid.walk (a0 : Option Addr) (n0 c0 : Nat) (a1 : Option Addr) (n1 c1 : Nat) (w : World) (w0 : CodeR w a0 n0 c0) (w1 : CodeR w a1 n1 c1) :
    Calls Try.prog 7 #[.slice a0 n0 c0, .slice a1 n1 c1] w fun e w' => e = .returned (.bool true) ∧ Below w.heap.size w w' := by
  have hm := len64' w0
  have hm1 := len64' w1
  obtain ⟨i0, hi, hz0, hz1, hz2⟩ := info_parts infoI
  by_cases hn : 1048576 < n0
  · have hd : decide ((1048576 : Int) < (n0 : Int)) = true := by simp; omega
    go_enter Try.func7, Try.ntmps7
    go_wp2
    go_ret
    exact ⟨rfl, ext_refl _⟩
  by_cases hn1 : 1048576 < n1
  · have hd : decide ((1048576 : Int) < (n0 : Int)) = false := by simp; omega
    have hd1 : decide ((1048576 : Int) < (n1 : Int)) = true := by simp; omega
    go_enter Try.func7, Try.ntmps7
    go_wp2
    go_ret
    exact ⟨rfl, ext_refl _⟩
  · have hd : decide ((1048576 : Int) < (n0 : Int)) = false := by simp; omega
    have hd1 : decide ((1048576 : Int) < (n1 : Int)) = false := by simp; omega
    go_enter Try.func7, Try.ntmps7
    go_wp2_with fail
    refine (drawStateValid_any w0).mono ?_
    rintro e w1 ⟨A, c, l, rfl, hl, hlc, hcm, hA, hE1⟩
    have hcm' := hcm
    unfold maxLen at hcm'
    replace hA := hide hA
    replace hE1 := hide hE1
    go_wp2_with fail
    refine (implStateValid_any c hA.out (by omega)).mono ?_
    rintro e w2 ⟨rfl, hE2⟩
    replace hA := hide (hA.out.ext hE2)
    replace hE2 := hide (ext_trans hE1.out hE2)
    go_wp2_with fail
    refine (specStateValid_any c hA.out (by omega)).mono ?_
    rintro e w3 ⟨rfl, hE3⟩
    replace hA := hide (hA.out.ext hE3)
    replace hE3 := hide (ext_trans hE2.out hE3)
    by_cases hv : stateOk l = true
    · have h5 := hide (stateOk_len hv)
      have hpos : 0 < l.length := by rw [h5.out]; omega
      have hs3 := hE3.out.size
      have hoe3 := hide (World.ownsRow_made (base := w.heap.size) (e := 3) (size := 1) w3 #[] 0 hs3 (by simp [maxLen]) rfl)
      have hA3 := hide (hA.out.ext (ext_alloc (ext_refl w3) (.cells #[] 3)))
      go_wp2_with (at_builtin; refine wpList_append_cells _ rfl _ _ 29 rfl w.heap.size 3 i0 _ 1 8 Try.underlying29 hi hz0 hz1 hz2 rfl (by decide) _ 0 _ rfl hoe3.out A l.length c (icells l) rfl (by rw [icells_len]; omega) hA3.out (icells_one _) (by unfold maxLen; omega) (by omega) (by simp; omega) ?_)
      intro v4 w4 hv4 hg4 hat4
      have hE4 : Hid (Ext w w4) := hide (by
        have h1 := only_trans (g := w3.heap.size) (only_alloc (World.grownBy.refl w3 (some w3.heap.size)) (.cells #[] 3)) hg4 (by intro i e; simp [Value.ownBlock] at e; omega)
        exact ext_trans hE3.out (ext_of_only h1 (Nat.le_refl _)))
      have hA4 : Hid (IntsR w4 A l) := hide (hA.out.ext (by
        have h1 := only_trans (g := w3.heap.size) (only_alloc (World.grownBy.refl w3 (some w3.heap.size)) (.cells #[] 3)) hg4 (by intro i e; simp [Value.ownBlock] at e; omega)
        exact ext_of_only h1 (Nat.le_refl _)))
      have hgw3 : Hid (∀ i, v4.ownBlock = some i → w3.heap.size ≤ i) := hide (by
        intro i e
        rcases hat4 with h | h <;> rw [e] at h <;> simp [Value.ownBlock] at h <;> omega)
      clear hg4 hat4 hoe3 hA3
      obtain ⟨ga, c4, hvv, hga, hgl, hlc4, hcm4⟩ := own_at hv4 hpos
      subst hvv
      replace hv4 := hide hv4
      replace hga := hide hga
      obtain ⟨j, hj⟩ : ∃ j, n1 % l.length = j := ⟨_, rfl⟩
      have hjl : j < l.length := by rw [← hj]; exact Nat.mod_lt _ hpos
      have e1 : ((n1 : Int) % (l.length : Int)) = (j : Int) := by rw [← hj]; simp
      clear hj
      have ca0 : ∃ u, w4.cell? ⟨ga, j, none⟩ = some u := by
        rw [hv4.out.cellAt j (by omega)]
        exact ⟨_, List.getElem?_eq_getElem (by rw [icells_len]; omega)⟩
      obtain ⟨u0, ca0⟩ := ca0
      have fa0 := hv4.out.frozenAt j
      have h1 := hv4.out.stored j (.int .i64 (-2))
      have hX : Hid (IntsR (w4.setCell ⟨ga, j, none⟩ (.int .i64 (-2))) (some ⟨ga, 0, none⟩) (l.set j (-2))) := hide (by
        have := CellsR.of_own h1.1
        unfold IntsR icells
        rw [List.map_set]
        exact this)
      have hE5 : Hid (Ext w (w4.setCell ⟨ga, j, none⟩ (.int .i64 (-2)))) := hide (hE4.out.setCell hga.out _)
      have hA5 : Hid (IntsR (w4.setCell ⟨ga, j, none⟩ (.int .i64 (-2))) A l) := hide (by
        intro hp
        have hbl : ∀ b o, A = some ⟨b, o, none⟩ → b < w3.heap.size := fun b o e => by
          obtain ⟨b', o', e', hc'⟩ := hA.out (by rw [icells_len]; omega)
          rw [e] at e'
          injection e' with e'
          injection e' with e1 e2
          subst e1
          exact World.block_lt_of_cell? w3 _ (hc' 0 _ (icells_at l 0 hpos))
        obtain ⟨b, o, e, hc⟩ := hA4.out hp
        have hb := hbl b o e
        have hg3 := hgw3.out ga rfl
        exact ⟨b, o, e, fun q u hu => (World.cell?_of_block (w := w4) (Below.heap_setCell w4 _ _ b (by show b ≠ ga; omega))).trans (hc q u hu)⟩)
      clear h1 hA hE4 hA4
      go_wp2_with fail
      have hlen : (l.take (l.length - 1)).length = l.length - 1 := by rw [List.length_take]; omega
      refine (implStateValid_n c (s := l.take (l.length - 1)) (by
        have := CellsR.take hA5.out (l.length - 1)
        unfold IntsR icells
        rw [List.map_take]
        exact this) hlen (by omega)).mono ?_
      rintro e w6 ⟨rfl, hE6⟩
      have b1 : stateOk (l.take (l.length - 1)) = false := stateOk_ne (by have := h5.out; omega)
      replace hX := hide (hX.out.ext hE6)
      replace hE6 := hide (ext_trans hE5.out hE6)
      replace hlen := hide hlen
      go_wp2_with fail
      refine (implStateValid_n c4 hX.out (by simp) (by simp; omega)).mono ?_
      rintro e w7 ⟨rfl, hE7⟩
      have b2 : stateOk (l.set j (-2)) = false := stateOk_bad (i := j) (by simp; omega) (by simp [valOk])
      replace hE7 := hide (ext_trans hE6.out hE7)
      go_wp2_with fail
      go_ret
      exact ⟨rfl, hE7.out⟩
    · have hv : stateOk l = false := by simpa using hv
      go_wp2_with fail
      go_ret
      exact ⟨rfl, hE3.out⟩

theorem logOk_without {l : List Upd} (h : logOk l = true) (k : Nat) (hk : k < l.length) : logOk (l.take k ++ l.drop (k + 1)) = true := by
  have h12 := logOk_len h
  refine logOk_of (by simp; omega) fun i hi => ?_
  have hm : (l.take k ++ l.drop (k + 1))[i] ∈ l := by
    have := List.getElem_mem hi
    rcases List.mem_append.1 this with h1 | h1
    · exact List.mem_of_mem_take h1
    · exact List.mem_of_mem_drop h1
  obtain ⟨j, hj, e⟩ := List.mem_iff_getElem.1 hm
  rw [← e]
  exact logOk_at h hj

theorem implLogValid_n {A : Option Addr} {s : List Upd} {n : Nat} (c : Nat) {w : World} (h : LogR w A s) (hn : s.length = n) (hm : s.length ≤ 1048576) :
    Calls Try.prog 27 #[.slice A n c] w fun e w' => e = .returned (.bool (logOk s)) ∧ Ext w w' := by
  subst hn; exact implLogValid_any c h hm
theorem List.set_getElem?_self' {α : Type} {l : List α} {i : Nat} {x : α} (h : l[i]? = some x) : l.set i x = l := by
  apply List.ext_getElem?
  intro j
  by_cases e : i = j
  · subst e
    rw [List.getElem?_set_self (List.getElem?_eq_some_iff.1 h).1, h]
  · rw [List.getElem?_set_ne e]
theorem only_app {w w' : World} {t : TypeId} (h : (w.alloc (.cells #[] t)).grownBy w' (Value.slice (some ⟨w.heap.size, 0, none⟩) 0 0).ownBlock) : w.grownBy w' (some w.heap.size) :=
  only_trans (only_alloc (World.grownBy.refl w (some w.heap.size)) (.cells #[] t)) h (by intro i e; simp [Value.ownBlock] at e; omega)
theorem ext_app {w w' : World} {t : TypeId} (h : (w.alloc (.cells #[] t)).grownBy w' (Value.slice (some ⟨w.heap.size, 0, none⟩) 0 0).ownBlock) : Ext w w' := ext_of_only (only_app h) (Nat.le_refl _)
theorem undrew {w w' : World} {row : Option Nat} (h : w.drew.grownBy w' row) : w.grownBy w' row := ⟨h.os, h.tape, h.output, h.size, h.block⟩
theorem size_app {W w w' : World} {t : TypeId} (h : (w.alloc (.cells #[] t)).grownBy w' (Value.slice (some ⟨w.heap.size, 0, none⟩) 0 0).ownBlock) (hs : W.heap.size ≤ w.heap.size) : W.heap.size ≤ w'.heap.size :=
  Nat.le_trans hs (ext_app h).size
theorem ext_app2 {w w' w'' : World} {row : Option Nat} (h : w.grownBy w' (some w.heap.size)) (h' : w'.grownBy w'' row) (hr : ∀ i, row = some i → w.heap.size ≤ i) : Ext w w'' :=
  ext_of_only (only_trans h h' fun i e => .inr (hr i e)) (Nat.le_refl _)

set_option maxHeartbeats 1000000 in
theorem fnLogPart.walk (a0 : Option Addr) (n0 c0 : Nat) (a1 : Option Addr) (n1 c1 : Nat) (w : World) (w0 : CodeR w a0 n0 c0) (w1 : CodeR w a1 n1 c1) :
    Calls Try.prog 9 #[.slice a0 n0 c0, .slice a1 n1 c1] w fun e w' => e = .returned (.bool true) ∧ Below w.heap.size w w' := by
  have hm := len64' w0
  have hm1 := len64' w1
  obtain ⟨i0, hi, hz0, hz1, hz2⟩ := info_parts infoU
  by_cases hn : 1048576 < n0
  · have hd : decide ((1048576 : Int) < (n0 : Int)) = true := by simp; omega
    go_enter Try.func9, Try.ntmps9
    go_wp2
    go_ret
    exact ⟨rfl, ext_refl _⟩
  by_cases hn1 : 1048576 < n1
  · have hd : decide ((1048576 : Int) < (n0 : Int)) = false := by simp; omega
    have hd1 : decide ((1048576 : Int) < (n1 : Int)) = true := by simp; omega
    go_enter Try.func9, Try.ntmps9
    go_wp2
    go_ret
    exact ⟨rfl, ext_refl _⟩
  · have hd : decide ((1048576 : Int) < (n0 : Int)) = false := by simp; omega
    have hd1 : decide ((1048576 : Int) < (n1 : Int)) = false := by simp; omega
    go_enter Try.func9, Try.ntmps9
    go_wp2_with fail
    refine (drawLogValid_any w0).mono ?_
    rintro e w1 ⟨A, c, l, rfl, hl, hlc, hcm, hA, hE1⟩
    have hcm' := hcm
    unfold maxLen at hcm'
    replace hA := hide hA
    replace hE1 := hide hE1
    go_wp2_with fail
    refine (implLogValid_any c hA.out (by omega)).mono ?_
    rintro e w2 ⟨rfl, hE2⟩
    replace hA := hide (hA.out.ext hE2)
    replace hE2 := hide (ext_trans hE1.out hE2)
    go_wp2_with fail
    refine (specLogValid_any c hA.out (by omega)).mono ?_
    rintro e w3 ⟨rfl, hE3⟩
    replace hA := hide (hA.out.ext hE3)
    replace hE3 := hide (ext_trans hE2.out hE3)
    by_cases hv : logOk l = true
    · by_cases hl0 : l.length = 0
      · have e0 : ((l.length : Int) == 0) = true := by simp [hl0]
        replace hl0 := hide hl0
        go_wp2_with fail
        go_ret
        exact ⟨rfl, hE3.out⟩
      · have e0 : ((l.length : Int) == 0) = false := beq_eq_false_iff_ne.2 (by omega)
        have hpos : 0 < l.length := by omega
        obtain ⟨b, o, x0, y0, hAA, hbl, _, _, _⟩ := log_at hA.out hpos
        subst hAA
        obtain ⟨k, hk⟩ : ∃ k, n1 % l.length = k := ⟨_, rfl⟩
        have hkl : k < l.length := by rw [← hk]; exact Nat.mod_lt _ hpos
        have e1 : ((n1 : Int) % (l.length : Int)) = (k : Int) := by rw [← hk]; simp
        clear hk
        have hs3 := hE3.out.size
        have hoe3 := hide (World.ownsRow_made (base := w.heap.size) (e := 26) (size := 2) w3 #[] 0 hs3 (by simp [maxLen]) rfl)
        have hT := hide (show CellsR (w3.alloc (.cells #[] 26)) (some ⟨b, o, none⟩) ((ucells l).take (k * 2)) from CellsR.take (CellsR.alloc hA.out _) _)
        have hTl := hide (show ((ucells l).take (k * 2)).length = k * 2 by rw [List.length_take, ucells_len]; omega)
        by_cases hck : c = k + 1
        · subst hck
          have hD := hide (show CellsR w3 (some ⟨b, o, none⟩) ((ucells l).drop ((k + 1) * 2)) from by
            rw [List.drop_eq_nil_of_le (by rw [ucells_len]; omega)]; exact CellsR.nil _ _)
          have hDl := hide (show l.drop (k + 1) = [] from List.drop_eq_nil_of_le (by omega))
          have s4n : ∀ u ∈ ([] : List Value), u.oneCell' = true := by simp
          have s8n := hide (show 0 + k + 0 ≤ maxLen by unfold maxLen; omega)
          have s9n := hide (show (0 + k + 0) * 16 ≤ 140737488355328 by omega)
          have q1 : k ≤ k + 1 := by omega
          have q2 : k + 1 ≤ l.length := by omega
          have q3 : (k : Int) + 1 ≤ (l.length : Int) := by omega
          have q4 : IntKind.i64.wrap ((k : Int) + 1) = (k : Int) + 1 := IntWalk.i64_in _ (by omega)
          have q5 : ((k : Int) + 1).toNat = k + 1 := by omega
          have q6 : (0 : Int) ≤ (k : Int) + 1 := by omega
          have q7 : (k : Int) ≤ (k : Int) + 1 := by omega
          have s1 := hide (show World.ownsRow (w3.alloc (.cells #[] 26)).drew w.heap.size 26 2 (.slice (some ⟨w3.heap.size, 0, none⟩) 0 0) 0 [] from hoe3.out)
          have s2 := hide (show CellsR (w3.alloc (.cells #[] 26)).drew (some ⟨b, o, none⟩) ((ucells l).take (k * 2)) from hT.out)
          have s3 := hide (show ∀ u ∈ (ucells l).take (k * 2), u.oneCell' = true by rw [ucells_take]; exact ucells_one _)
          have s4 := hide (show ∀ u ∈ (ucells l).drop ((k + 1) * 2), u.oneCell' = true by rw [ucells_drop]; exact ucells_one _)
          have s5 := hide (show 0 + k ≤ maxLen by unfold maxLen; omega)
          have s6 := hide (show (0 + k) * 16 ≤ 140737488355328 by omega)
          have s7 := hide (show w.heap.size ≤ (w3.alloc (.cells #[] 26)).drew.heap.size by show _ ≤ (w3.alloc (.cells #[] 26)).heap.size; simp; omega)
          have s8 := hide (show 0 + k + (l.length - (k + 1)) ≤ maxLen by unfold maxLen; omega)
          have s9 := hide (show (0 + k + (l.length - (k + 1))) * 16 ≤ 140737488355328 by omega)
          have s0 : 0 < 2 := by omega
          go_wp2_with fail
          go_region_law (first
            | (refine step_append_cells rfl (.tmp 45) (.tmp 48) 41 rfl w.heap.size 26 i0 (.agg #[.int .i64 0, .int .i64 0]) 2 16 Try.underlying41 hi hz0 hz1 hz2 rfl s0 (.slice (some ⟨w3.heap.size, 0, none⟩) 0 0) 0 [] rfl s1.out (some ⟨b, o, none⟩) k (k + 1) ((ucells l).take (k * 2)) rfl hTl.out s2.out s3.out s5.out s6.out s7.out ?_; intro v4 w4 hv4 hg4 hat4; replace hg4 := undrew hg4; have hD4 := CellsR.ext hD.out (ext_app hg4); have s10 : w.heap.size ≤ w4.heap.size := size_app hg4 hs3)
            | (refine step_append_cells rfl (.tmp 49) (.tmp 53) 41 rfl w.heap.size 26 i0 (.agg #[.int .i64 0, .int .i64 0]) 2 16 Try.underlying41 hi hz0 hz1 hz2 rfl s0 v4 (0 + k) ([] ++ (ucells l).take (k * 2)) rfl hv4 (some ⟨b, o, none⟩) 0 _ [] rfl rfl (CellsR.nil _ _) s4n s8n.out s9n.out s10 ?_; intro v5 w5 hv5 hg5 hat5))
          have hE4 := ext_app hg4
          have hE5 : Ext w3 w5 := ext_app2 (show w3.grownBy w4 (some w3.heap.size) from only_app hg4) hg5 (by intro i e; rcases hat4 with h | h <;> rw [e] at h <;> simp [Value.ownBlock] at h <;> omega)
          have hX5 : Hid (w5.ownsRow w.heap.size 26 2 v5 (l.take k ++ l.drop (k + 1)).length (ucells (l.take k ++ l.drop (k + 1)))) := hide (by
            have e1 : (l.take k ++ l.drop (k + 1)).length = 0 + k + 0 := by simp; omega
            rw [e1, ucells_append, ← ucells_take, hDl.out]
            simpa [ucells] using hv5)
          clear hv4 hg4 hat4 hD4 s10 hv5 hg5 hat5 hE4 s1 s2 s3 s4 s5 s6 s7 s8 s9
          replace hE5 := hide hE5
          have hA5 := hide (hA.out.ext hE5.out)
          have hW5 := hide (ext_trans hE3.out hE5.out)
          have hs5 := hW5.out.size
          clear hA hoe3 hT hTl hD hDl
          obtain ⟨A5, c5, hv5, _, _⟩ := own_form hX5.out
          subst hv5
          have hX5' := hide (show LogR w5 A5 (l.take k ++ l.drop (k + 1)) from CellsR.of_own hX5.out)
          have hlx := hide (show (l.take k ++ l.drop (k + 1)).length ≤ 13 by simp; omega)
          have okx := logOk_without hv k hkl
          clear hX5
          generalize l.take k ++ l.drop (k + 1) = x at hX5' hlx okx
          have hoe5 := hide (World.ownsRow_made (base := w.heap.size) (e := 26) (size := 2) w5 #[] 0 hs5 (by simp [maxLen]) rfl)
          have hA6 := hide (show CellsR (w5.alloc (.cells #[] 26)) (some ⟨b, o, none⟩) (ucells l) from CellsR.alloc hA5.out _)
          go_wp2_with (at_builtin; refine wpList_append_cells _ rfl _ _ 41 rfl w.heap.size 26 i0 _ 2 16 Try.underlying41 hi hz0 hz1 hz2 rfl (by decide) _ 0 _ rfl hoe5.out (some ⟨b, o, none⟩) l.length (k + 1) (ucells l) rfl (ucells_len l) hA6.out (ucells_one l) (by unfold maxLen; omega) (by omega) (by simp; omega) ?_)
          intro v6 w6 hv6 hg6 hat6
          obtain ⟨gy, cy, hvy, hgy0, hgy1, _, hcy⟩ := own_at hv6 hpos
          subst hvy
          have hE6 := hide (ext_app hg6)
          have hgy : w5.heap.size ≤ gy := by
            rcases hat6 with e | e <;> simp [Value.ownBlock] at e <;> omega
          clear hg6 hat6 hoe5 hA6 hA5 hgy0
          replace hv6 := hide hv6
          have ca0 : ∃ u, w6.cell? ⟨gy, k * 2, none⟩ = some u := by
            rw [hv6.out.cellAt (k * 2) (by omega)]
            exact ⟨_, List.getElem?_eq_getElem (by rw [ucells_len]; omega)⟩
          obtain ⟨u0, ca0⟩ := ca0
          have fa0 := hv6.out.frozenAt (k * 2)
          have h1 := hv6.out.stored (k * 2) (.int .i64 5)
          obtain ⟨y, hy1, hy2, hy3⟩ : ∃ y : List Upd, y.length = l.length ∧ logOk y = false ∧ (ucells l).set (k * 2) (.int .i64 5) = ucells y := by
            refine ⟨l.set k (5, (l[k]).2), by simp, logOk_bad (i := k) (by simp; exact hkl) (by simp [updOk]), ?_⟩
            have e2 := ucells_set l k (5, (l[k]).2)
            rw [← e2, List.set_comm _ _ (by omega)]
            rw [List.set_getElem?_self' (ucells_snd l k hkl)]
          have hY := hide (show LogR (w6.setCell ⟨gy, k * 2, none⟩ (.int .i64 5)) (some ⟨gy, 0, none⟩) y from by
            have e3 := CellsR.of_own h1.1
            rw [hy3] at e3
            exact e3)
          have hE7 : Hid (Ext w5 (w6.setCell ⟨gy, k * 2, none⟩ (.int .i64 5))) := hide (hE6.out.setCell hgy _)
          have hX7 := hide (hX5'.out.ext hE7.out)
          have hW7 := hide (ext_trans hW5.out hE7.out)
          replace hy1 := hide hy1
          clear h1 hv6 hy3 hX5'
          go_wp2_with fail
          refine (implLogValid_any _ hX7.out (by have := hlx.out; omega)).mono ?_
          rintro e w8 ⟨rfl, hE8⟩
          replace hY := hide (hY.out.ext hE8)
          have hW8 := hide (ext_trans hW7.out hE8)
          go_wp2_with fail
          refine (implLogValid_n _ hY.out hy1.out (by rw [hy1.out]; omega)).mono ?_
          rintro e w9 ⟨rfl, hE9⟩
          have hW9 := hide (ext_trans hW8.out hE9)
          go_wp2_with fail
          go_ret
          exact ⟨rfl, hW9.out⟩
        · have hD := hide (show CellsR w3 (some ⟨b, o + (k + 1) * 2, none⟩) ((ucells l).drop ((k + 1) * 2)) from CellsR.drop hA.out _ (by intro _ b' o' e; injection e with e; injection e with e1 e2; subst e1 e2; rfl))
          have hDl := hide (show ((ucells l).drop ((k + 1) * 2)).length = (l.length - (k + 1)) * 2 by rw [List.length_drop, ucells_len]; omega)
          have q1 : k ≤ c := by omega
          have q2 : k + 1 ≤ l.length := by omega
          have q3 : (k : Int) + 1 ≤ (l.length : Int) := by omega
          have q4 : IntKind.i64.wrap ((k : Int) + 1) = (k : Int) + 1 := IntWalk.i64_in _ (by omega)
          have q5 : ((k : Int) + 1).toNat = k + 1 := by omega
          have q6 : (0 : Int) ≤ (k : Int) + 1 := by omega
          have q7 : (k : Int) ≤ (k : Int) + 1 := by omega
          have s1 := hide (show World.ownsRow (w3.alloc (.cells #[] 26)).drew w.heap.size 26 2 (.slice (some ⟨w3.heap.size, 0, none⟩) 0 0) 0 [] from hoe3.out)
          have s2 := hide (show CellsR (w3.alloc (.cells #[] 26)).drew (some ⟨b, o, none⟩) ((ucells l).take (k * 2)) from hT.out)
          have s3 := hide (show ∀ u ∈ (ucells l).take (k * 2), u.oneCell' = true by rw [ucells_take]; exact ucells_one _)
          have s4 := hide (show ∀ u ∈ (ucells l).drop ((k + 1) * 2), u.oneCell' = true by rw [ucells_drop]; exact ucells_one _)
          have s5 := hide (show 0 + k ≤ maxLen by unfold maxLen; omega)
          have s6 := hide (show (0 + k) * 16 ≤ 140737488355328 by omega)
          have s7 := hide (show w.heap.size ≤ (w3.alloc (.cells #[] 26)).drew.heap.size by show _ ≤ (w3.alloc (.cells #[] 26)).heap.size; simp; omega)
          have s8 := hide (show 0 + k + (l.length - (k + 1)) ≤ maxLen by unfold maxLen; omega)
          have s9 := hide (show (0 + k + (l.length - (k + 1))) * 16 ≤ 140737488355328 by omega)
          have s0 : 0 < 2 := by omega
          go_wp2_with fail
          go_region_law (first
            | (refine step_append_cells rfl (.tmp 45) (.tmp 48) 41 rfl w.heap.size 26 i0 (.agg #[.int .i64 0, .int .i64 0]) 2 16 Try.underlying41 hi hz0 hz1 hz2 rfl s0 (.slice (some ⟨w3.heap.size, 0, none⟩) 0 0) 0 [] rfl s1.out (some ⟨b, o, none⟩) k c ((ucells l).take (k * 2)) rfl hTl.out s2.out s3.out s5.out s6.out s7.out ?_; intro v4 w4 hv4 hg4 hat4; replace hg4 := undrew hg4; have hD4 := CellsR.ext hD.out (ext_app hg4); have s10 : w.heap.size ≤ w4.heap.size := size_app hg4 hs3)
            | (refine step_append_cells rfl (.tmp 49) (.tmp 53) 41 rfl w.heap.size 26 i0 (.agg #[.int .i64 0, .int .i64 0]) 2 16 Try.underlying41 hi hz0 hz1 hz2 rfl s0 v4 (0 + k) ([] ++ (ucells l).take (k * 2)) rfl hv4 (some ⟨b, o + (k + 1) * 2, none⟩) (l.length - (k + 1)) (c - (k + 1)) ((ucells l).drop ((k + 1) * 2)) rfl hDl.out hD4 s4.out s8.out s9.out s10 ?_; intro v5 w5 hv5 hg5 hat5))
          have hE4 := ext_app hg4
          have hE5 : Ext w3 w5 := ext_app2 (show w3.grownBy w4 (some w3.heap.size) from only_app hg4) hg5 (by intro i e; rcases hat4 with h | h <;> rw [e] at h <;> simp [Value.ownBlock] at h <;> omega)
          have hX5 : Hid (w5.ownsRow w.heap.size 26 2 v5 (l.take k ++ l.drop (k + 1)).length (ucells (l.take k ++ l.drop (k + 1)))) := hide (by
            have e1 : (l.take k ++ l.drop (k + 1)).length = 0 + k + (l.length - (k + 1)) := by simp; omega
            rw [e1, ucells_append, ← ucells_take, ← ucells_drop]
            simpa using hv5)
          clear hv4 hg4 hat4 hD4 s10 hv5 hg5 hat5 hE4 s1 s2 s3 s4 s5 s6 s7 s8 s9
          replace hE5 := hide hE5
          have hA5 := hide (hA.out.ext hE5.out)
          have hW5 := hide (ext_trans hE3.out hE5.out)
          have hs5 := hW5.out.size
          clear hA hoe3 hT hTl hD hDl
          obtain ⟨A5, c5, hv5, _, _⟩ := own_form hX5.out
          subst hv5
          have hX5' := hide (show LogR w5 A5 (l.take k ++ l.drop (k + 1)) from CellsR.of_own hX5.out)
          have hlx := hide (show (l.take k ++ l.drop (k + 1)).length ≤ 13 by simp; omega)
          have okx := logOk_without hv k hkl
          clear hX5
          generalize l.take k ++ l.drop (k + 1) = x at hX5' hlx okx
          have hoe5 := hide (World.ownsRow_made (base := w.heap.size) (e := 26) (size := 2) w5 #[] 0 hs5 (by simp [maxLen]) rfl)
          have hA6 := hide (show CellsR (w5.alloc (.cells #[] 26)) (some ⟨b, o, none⟩) (ucells l) from CellsR.alloc hA5.out _)
          go_wp2_with (at_builtin; refine wpList_append_cells _ rfl _ _ 41 rfl w.heap.size 26 i0 _ 2 16 Try.underlying41 hi hz0 hz1 hz2 rfl (by decide) _ 0 _ rfl hoe5.out (some ⟨b, o, none⟩) l.length c (ucells l) rfl (ucells_len l) hA6.out (ucells_one l) (by unfold maxLen; omega) (by omega) (by simp; omega) ?_)
          intro v6 w6 hv6 hg6 hat6
          obtain ⟨gy, cy, hvy, hgy0, hgy1, _, hcy⟩ := own_at hv6 hpos
          subst hvy
          have hE6 := hide (ext_app hg6)
          have hgy : w5.heap.size ≤ gy := by
            rcases hat6 with e | e <;> simp [Value.ownBlock] at e <;> omega
          clear hg6 hat6 hoe5 hA6 hA5 hgy0
          replace hv6 := hide hv6
          have ca0 : ∃ u, w6.cell? ⟨gy, k * 2, none⟩ = some u := by
            rw [hv6.out.cellAt (k * 2) (by omega)]
            exact ⟨_, List.getElem?_eq_getElem (by rw [ucells_len]; omega)⟩
          obtain ⟨u0, ca0⟩ := ca0
          have fa0 := hv6.out.frozenAt (k * 2)
          have h1 := hv6.out.stored (k * 2) (.int .i64 5)
          obtain ⟨y, hy1, hy2, hy3⟩ : ∃ y : List Upd, y.length = l.length ∧ logOk y = false ∧ (ucells l).set (k * 2) (.int .i64 5) = ucells y := by
            refine ⟨l.set k (5, (l[k]).2), by simp, logOk_bad (i := k) (by simp; exact hkl) (by simp [updOk]), ?_⟩
            have e2 := ucells_set l k (5, (l[k]).2)
            rw [← e2, List.set_comm _ _ (by omega)]
            rw [List.set_getElem?_self' (ucells_snd l k hkl)]
          have hY := hide (show LogR (w6.setCell ⟨gy, k * 2, none⟩ (.int .i64 5)) (some ⟨gy, 0, none⟩) y from by
            have e3 := CellsR.of_own h1.1
            rw [hy3] at e3
            exact e3)
          have hE7 : Hid (Ext w5 (w6.setCell ⟨gy, k * 2, none⟩ (.int .i64 5))) := hide (hE6.out.setCell hgy _)
          have hX7 := hide (hX5'.out.ext hE7.out)
          have hW7 := hide (ext_trans hW5.out hE7.out)
          replace hy1 := hide hy1
          clear h1 hv6 hy3 hX5'
          go_wp2_with fail
          refine (implLogValid_any _ hX7.out (by have := hlx.out; omega)).mono ?_
          rintro e w8 ⟨rfl, hE8⟩
          replace hY := hide (hY.out.ext hE8)
          have hW8 := hide (ext_trans hW7.out hE8)
          go_wp2_with fail
          refine (implLogValid_n _ hY.out hy1.out (by rw [hy1.out]; omega)).mono ?_
          rintro e w9 ⟨rfl, hE9⟩
          have hW9 := hide (ext_trans hW8.out hE9)
          go_wp2_with fail
          go_ret
          exact ⟨rfl, hW9.out⟩
    · have hv : logOk l = false := by simpa using hv
      go_wp2_with fail
      go_ret
      exact ⟨rfl, hE3.out⟩
end Go.Proofs.Ytnbpckaplggkfaa
