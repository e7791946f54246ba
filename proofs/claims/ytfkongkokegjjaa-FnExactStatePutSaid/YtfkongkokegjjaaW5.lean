/-
  The walks of the laws FnStatePart, FnStateAll: each returns true for every input, and leaves its arguments as they were.
-/
import Derived.Test.YtfkongkokegjjaaStates4
import Derived.Test.YtfkongkokegjjaaDraw6
import Derived.Test.YtfkongkokegjjaaSame
set_option linter.all false
namespace Go.Proofs.Ytfkongkokegjjaa
open Go.RowKit

theorem len64c {n c : Nat} {w : World} {a : Option Addr} (h : CodeR w a n c) : n ≤ 9223372036854775807 := by have := h.1; have := h.2.1; unfold maxLen at this; omega
theorem GotRowI.use {w w' : World} {xs : List Int} {e : Ending} (h : GotRowI w xs e w') : ∃ A c, e = .returned (.slice A xs.length c) ∧ xs.length ≤ c ∧ c ≤ maxLen ∧ Hid (IntsR w' A xs) ∧ Hid (Ext w w') := by
  obtain ⟨A, c, rfl, h1, h2, h3, h4⟩ := h
  exact ⟨A, c, rfl, h1, h2, CellsR.of_own h3, h4⟩

theorem stateOk_put {s : List Int} {u : Upd} (h : stateOk s = true) (hu : updOk u = true) : stateOk (putAt s u) = true := by
  refine stateOk_of (by rw [putAt_len]; exact stateOk_len h) fun i hi => ?_
  simp only [putAt, List.getElem_set]
  split
  · simp [updOk] at hu; simp [valOk]; omega
  · exact stateOk_at h _
theorem stateOk_behind {l : List Upd} (h : logOk l = true) : stateOk (stBehind l) = true := by
  unfold stBehind
  suffices ∀ (l : List Upd) (s : List Int), (∀ u ∈ l, updOk u = true) → stateOk s = true → stateOk (l.foldl putAt s) = true by
    refine this _ _ (fun u hu => ?_) (by decide)
    obtain ⟨j, hj, e⟩ := List.mem_iff_getElem.1 hu
    rw [← e]; exact logOk_at h hj
  intro l
  induction l with
  | nil => intro s _ hs; simpa using hs
  | cons u l ih => intro s hu hs; exact ih _ (fun v hv => hu v (List.mem_cons_of_mem _ hv)) (stateOk_put hs (hu u (List.mem_cons_self ..)))
theorem stateAt_len (l : List Upd) (k : Int) : (stateAt l k).length ≤ 5 := by unfold stateAt; split <;> simp [stBehind_len]
theorem stateOf_len (l : List Upd) : (stateOf l).length ≤ 5 := by unfold stateOf; split <;> simp [stBehind_len]
theorem stateAt_yes {l : List Upd} {k : Int} {s : List Int} (hs : stateAt l k = s) (hz : s.length ≠ 0) : logOk l = true ∧ 0 ≤ k ∧ k ≤ l.length ∧ s = stBehind (l.take k.toNat) := by
  unfold stateAt at hs
  split at hs
  · rename_i h; simp at h; exact ⟨h.1, h.2.1, h.2.2, hs.symm⟩
  · subst hs; simp at hz
theorem stateOf_yes {l : List Upd} {s : List Int} (hs : stateOf l = s) (hz : s.length ≠ 0) : logOk l = true ∧ s = stBehind l := by
  unfold stateOf at hs
  split at hs
  · rename_i h; exact ⟨h, hs.symm⟩
  · subst hs; simp at hz

theorem implStateAt_s {A : Option Addr} {l : List Upd} {n : Nat} {s : List Int} (c : Nat) (many : Int) {w : World} (h : LogR w A l) (hn : l.length = n) (hm : l.length ≤ 1048576) (hlc : l.length ≤ c) (hs : stateAt l many = s) :
    Calls Try.prog 43 #[.slice A n c, .int .i64 many] w (GotRowI w s) := by subst hs hn; exact implStateAt_any c many h hm hlc
theorem specStateAt_s {A : Option Addr} {l : List Upd} {s : List Int} (c : Nat) (many : Int) {w : World} (h : LogR w A l) (hm : l.length ≤ 1048576) (hs : stateAt l many = s) :
    Calls Try.prog 45 #[.slice A l.length c, .int .i64 many] w (GotRowI w s) := by subst hs; exact specStateAt_any c many h hm
theorem implStateOf_s {A : Option Addr} {l : List Upd} {n : Nat} {s : List Int} (c : Nat) {w : World} (h : LogR w A l) (hn : l.length = n) (hm : l.length ≤ 1048576) (hlc : l.length ≤ c) (hs : stateOf l = s) :
    Calls Try.prog 41 #[.slice A n c] w (GotRowI w s) := by subst hs hn; exact implStateOf_any c h hm hlc
theorem specStateOf_s {A : Option Addr} {l : List Upd} {s : List Int} (c : Nat) {w : World} (h : LogR w A l) (hm : l.length ≤ 1048576) (hs : stateOf l = s) :
    Calls Try.prog 42 #[.slice A l.length c] w (GotRowI w s) := by subst hs; exact specStateOf_any c h hm

theorem fnStatePart.walk (a0 : Option Addr) (n0 c0 : Nat) (w : World) (w0 : CodeR w a0 n0 c0) :
    Calls Try.prog 14 #[.slice a0 n0 c0] w fun e w' => e = .returned (.bool true) ∧ Below w.heap.size w w' := by
  have hm := len64c w0
  by_cases hn : 1048576 < n0
  · go_enter Try.func14, Try.ntmps14
    go_wp2
    go_ret
    exact ⟨rfl, ext_refl _⟩
  · go_enter Try.func14, Try.ntmps14
    go_wp2_with fail
    refine (drawStateAt_any w0).mono ?_
    rintro e w1 ⟨A, c, l, k, rfl, hl, hlc, hcm, hk0, hk1, hA, hE1⟩
    replace hA := hide hA
    replace hE1 := hide hE1
    obtain ⟨s, hs⟩ : ∃ s, stateAt l k = s := ⟨_, rfl⟩
    have hs5 : s.length ≤ 5 := by rw [← hs]; exact stateAt_len l k
    replace hs := hide hs
    go_wp2_with fail
    refine (implStateAt_s c k hA.out rfl (by omega) hlc hs.out).mono ?_
    intro e w2 hG
    obtain ⟨A2, c2, rfl, -, -, hI2, hE2⟩ := hG.use
    clear hG
    replace hA := hide (hA.out.ext hE2.out)
    replace hE2 := hide (ext_trans hE1.out hE2.out)
    go_wp2_with fail
    refine (specStateAt_s c k hA.out (by omega) hs.out).mono ?_
    intro e w3 hG
    obtain ⟨A3, c3, rfl, -, -, hI3, hE3⟩ := hG.use
    clear hG
    replace hA := hide (hA.out.ext hE3.out)
    replace hI2 := hide (hI2.out.ext hE3.out)
    replace hE3 := hide (ext_trans hE2.out hE3.out)
    go_wp2_with fail
    refine (sameInts_any c2 c3 hI2.out hI3.out (by omega) (by omega)).mono ?_
    rintro e w4 ⟨rfl, hE4⟩
    replace hA := hide (hA.out.ext hE4)
    replace hI2 := hide (hI2.out.ext hE4)
    replace hI3 := hide (hI3.out.ext hE4)
    replace hE4 := hide (ext_trans hE3.out hE4)
    by_cases hz : s.length = 0
    · have hz' : ((s.length : Int) == 0) = true := by rw [beq_iff_eq]; omega
      replace hz := hide hz
      go_wp2_with fail
      refine (sameInts_any c2 c3 hI2.out hI3.out (by omega) (by omega)).mono ?_
      rintro e w5 ⟨rfl, hE5⟩
      replace hE5 := hide (ext_trans hE4.out hE5)
      go_wp2_with fail
      go_ret
      exact ⟨by simp, hE5.out⟩
    · have hz' : ((s.length : Int) == 0) = false := by rw [beq_eq_false_iff_ne]; omega
      obtain ⟨hok, h0, h1, hsb⟩ := stateAt_yes hs.out hz
      obtain ⟨kn, rfl⟩ := Int.eq_ofNat_of_zero_le h0
      have hs2 : stateOf (l.take kn) = s := by unfold stateOf; rw [if_pos (logOk_take hok kn), hsb]; simp
      have hsok : stateOk s = true := by rw [hsb]; exact stateOk_behind (logOk_take hok _)
      have hkl : kn ≤ l.length := by omega
      have hkc : kn ≤ c := by omega
      have hlen : (l.take kn).length = kn := by rw [List.length_take]; omega
      replace hsb := hide hsb
      replace hlen := hide hlen
      unfold maxLen at hcm
      go_wp2_with fail
      refine (implStateOf_s c (hA.out.take kn) hlen.out (by rw [hlen.out]; omega) (by rw [hlen.out]; omega) hs2).mono ?_
      intro e w5 hG
      obtain ⟨A5, c5, rfl, -, -, hI5, hE5⟩ := hG.use
      clear hG
      replace hI2 := hide (hI2.out.ext hE5.out)
      replace hE5 := hide (ext_trans hE4.out hE5.out)
      go_wp2_with fail
      refine (sameInts_any c5 c2 hI5.out hI2.out (by omega) (by omega)).mono ?_
      rintro e w6 ⟨rfl, hE6⟩
      replace hI2 := hide (hI2.out.ext hE6)
      replace hE6 := hide (ext_trans hE5.out hE6)
      go_wp2_with fail
      refine (implStateValid_any c2 hI2.out (by omega)).mono ?_
      rintro e w7 ⟨rfl, hE7⟩
      replace hE7 := hide (ext_trans hE6.out hE7)
      go_wp2_with fail
      go_ret
      exact ⟨by simp [hsok], hE7.out⟩

theorem fnStateAll.walk (a0 : Option Addr) (n0 c0 : Nat) (w : World) (w0 : CodeR w a0 n0 c0) :
    Calls Try.prog 12 #[.slice a0 n0 c0] w fun e w' => e = .returned (.bool true) ∧ Below w.heap.size w w' := by
  have hm := len64c w0
  by_cases hn : 1048576 < n0
  · go_enter Try.func12, Try.ntmps12
    go_wp2
    go_ret
    exact ⟨rfl, ext_refl _⟩
  · go_enter Try.func12, Try.ntmps12
    go_wp2_with fail
    refine (drawStateOf_any w0).mono ?_
    rintro e w1 ⟨A, c, l, rfl, hl, hlc, hcm, hA, hE1⟩
    replace hA := hide hA
    replace hE1 := hide hE1
    obtain ⟨s, hs⟩ : ∃ s, stateOf l = s := ⟨_, rfl⟩
    have hs5 : s.length ≤ 5 := by rw [← hs]; exact stateOf_len l
    replace hs := hide hs
    go_wp2_with fail
    refine (implStateOf_s c hA.out rfl (by omega) hlc hs.out).mono ?_
    intro e w2 hG
    obtain ⟨A2, c2, rfl, -, -, hI2, hE2⟩ := hG.use
    clear hG
    replace hA := hide (hA.out.ext hE2.out)
    replace hE2 := hide (ext_trans hE1.out hE2.out)
    go_wp2_with fail
    refine (specStateOf_s c hA.out (by omega) hs.out).mono ?_
    intro e w3 hG
    obtain ⟨A3, c3, rfl, -, -, hI3, hE3⟩ := hG.use
    clear hG
    replace hA := hide (hA.out.ext hE3.out)
    replace hI2 := hide (hI2.out.ext hE3.out)
    replace hE3 := hide (ext_trans hE2.out hE3.out)
    go_wp2_with fail
    refine (sameInts_any c2 c3 hI2.out hI3.out (by omega) (by omega)).mono ?_
    rintro e w4 ⟨rfl, hE4⟩
    replace hA := hide (hA.out.ext hE4)
    replace hI2 := hide (hI2.out.ext hE4)
    replace hI3 := hide (hI3.out.ext hE4)
    replace hE4 := hide (ext_trans hE3.out hE4)
    by_cases hz : s.length = 0
    · have hz' : ((s.length : Int) == 0) = true := by rw [beq_iff_eq]; omega
      replace hz := hide hz
      go_wp2_with fail
      refine (sameInts_any c2 c3 hI2.out hI3.out (by omega) (by omega)).mono ?_
      rintro e w5 ⟨rfl, hE5⟩
      replace hE5 := hide (ext_trans hE4.out hE5)
      go_wp2_with fail
      go_ret
      exact ⟨by simp, hE5.out⟩
    · have hz' : ((s.length : Int) == 0) = false := by rw [beq_eq_false_iff_ne]; omega
      obtain ⟨hok, hsb⟩ := stateOf_yes hs.out hz
      obtain ⟨s0, hs0⟩ : ∃ s0, stateAt l 0 = s0 := ⟨_, rfl⟩
      have hs0' : s0 = [-1, -1, -1, -1, -1] := by rw [← hs0]; simp [stateAt, hok, stBehind]
      have hall := hide (show ∀ (i : Nat) (x : Int), s0[i]? = some x → x = -1 by
        subst hs0'
        intro i x hx
        match i, hx with
        | 0, hx => simp at hx; omega
        | 1, hx => simp at hx; omega
        | 2, hx => simp at hx; omega
        | 3, hx => simp at hx; omega
        | 4, hx => simp at hx; omega
        | i + 5, hx => simp at hx)
      have hs05 : s0.length ≤ 5 := by rw [hs0']; simp
      clear hs0'
      replace hs0 := hide hs0
      replace hsb := hide hsb
      have hsL := hide (show stateAt l l.length = s by rw [stateOf_at]; exact hs.out)
      go_wp2_with fail
      refine (implStateAt_s c 0 hA.out rfl (by omega) hlc hs0.out).mono ?_
      intro e w5 hG
      obtain ⟨A5, c5, rfl, -, -, hI5, hE5⟩ := hG.use
      clear hG
      replace hA := hide (hA.out.ext hE5.out)
      replace hI2 := hide (hI2.out.ext hE5.out)
      replace hE5 := hide (ext_trans hE4.out hE5.out)
      go_wp2_with fail
      go_loop [7] (fun i => ∃ k : Nat, k ≤ s0.length ∧ i = .int .i64 k) (fun i => s0.length - (intOf i).toNat)
      case atStart => exact ⟨0, Nat.zero_le _, rfl⟩
      case round =>
        obtain ⟨k, hk, rfl⟩ := hrel
        by_cases hlt : k < s0.length
        · obtain ⟨b, o, x, hAA, hb, hx, hc0⟩ := int_at hI5.out hlt
          subst hAA
          have hx1 : x = -1 := hall.out k x (by rw [List.getElem?_eq_getElem hlt, hx])
          subst hx1
          replace hx := hide hx
          go_wp2
          go_round
          case rel => exact ⟨k + 1, by omega, by go_num⟩
          case measure => simp [intOf]; omega
        · go_wp2_with fail
          refine (implStateAt_s c l.length hA.out rfl (by omega) hlc hsL.out).mono ?_
          intro e w6 hG
          obtain ⟨A6, c6, rfl, -, -, hI6, hE6⟩ := hG.use
          clear hG
          replace hI2 := hide (hI2.out.ext hE6.out)
          replace hE6 := hide (ext_trans hE5.out hE6.out)
          go_wp2_with fail
          refine (sameInts_any c6 c2 hI6.out hI2.out (by omega) (by omega)).mono ?_
          rintro e w7 ⟨rfl, hE7⟩
          replace hE7 := hide (ext_trans hE6.out hE7)
          go_wp2_with fail
          go_ret
          exact ⟨by simp, hE7.out⟩
end Go.Proofs.Ytfkongkokegjjaa
