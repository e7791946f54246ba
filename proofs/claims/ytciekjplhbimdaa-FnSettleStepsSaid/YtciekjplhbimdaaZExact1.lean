/-
  Contracts of the exact laws' small functions: copies, sizes, comparisons.
-/
import Derived.Test.YtciekjplhbimdaaZLogs
import Derived.Test.YtciekjplhbimdaaZBApp
import Derived.Deep.RegionWith
set_option linter.all false
set_option maxRecDepth 100000
namespace Go.Proofs.YtciekjplhbimdaaZ
open Go.RowKit

theorem infoU' : (Alt.prog.info? 39).map (fun i => (i.zero, i.size, i.bytes)) = some (some (.agg #[.int .i64 0, .int .i64 0]), 2, 16) := by kernel_rfl
theorem infoI' : (Alt.prog.info? 3).map (fun i => (i.zero, i.size, i.bytes)) = some (some (.int .i64 0), 1, 8) := by kernel_rfl

theorem int_at {w : World} {A : Option Addr} {l : List Int} (h : IntsR w A l) {i : Nat} (hi : i < l.length) :
    ∃ b o x, A = some ⟨b, o, none⟩ ∧ b < w.heap.size ∧ l[i] = x ∧ w.cell? ⟨b, o + i, none⟩ = some (.int .i64 x) := by
  obtain ⟨b, o, h1, h2, h3⟩ := h.at_ hi
  exact ⟨b, o, l[i], h1, h2, rfl, h3⟩

theorem set_two {α : Type} : ∀ (xs : List α) (n : Nat) (a b x y : α) (rest : List α), xs.length = n → ((xs ++ a :: b :: rest).set n x).set (n + 1) y = xs ++ x :: y :: rest
  | [], _, a, b, x, y, rest, rfl => rfl
  | z :: xs, _, a, b, x, y, rest, rfl => by
    simp only [List.length_cons, List.cons_append, List.set_cons_succ]
    rw [set_two xs xs.length a b x y rest rfl]
theorem set_one {α : Type} : ∀ (xs : List α) (n : Nat) (a x : α) (rest : List α), xs.length = n → (xs ++ a :: rest).set n x = xs ++ x :: rest
  | [], _, a, x, rest, rfl => rfl
  | z :: xs, _, a, x, rest, rfl => by
    simp only [List.length_cons, List.cons_append, List.set_cons_succ]
    rw [set_one xs xs.length a x rest rfl]
theorem ucells_take_succ {l : List Upd} {k : Nat} {x y : Int} (h : k < l.length) (hxy : l[k] = (x, y)) : ucells (l.take (k + 1)) = ucells (l.take k) ++ [.int .i64 x, .int .i64 y] := by
  rw [List.take_succ_eq_append_getElem h, ucells_append, hxy]; rfl
theorem icells_take_succ {l : List Int} {k : Nat} {x : Int} (h : k < l.length) (hx : l[k] = x) : icells (l.take (k + 1)) = icells (l.take k) ++ [.int .i64 x] := by
  rw [List.take_succ_eq_append_getElem h, hx]; simp [icells]

/-- A copy of updates under way: the first k are there. -/
def CopiedU (w : World) (l : List Upd) (k : Nat) (wr : World) : Prop :=
  ∃ rest : List Value, rest.length = (l.length - k) * 2 ∧ wr.ownsRow w.heap.size 39 2 (.slice (some ⟨w.heap.size, 0, none⟩) l.length l.length) l.length (ucells (l.take k) ++ rest)
def CopiedI (w : World) (l : List Int) (k : Nat) (wr : World) : Prop :=
  ∃ rest : List Value, rest.length = l.length - k ∧ wr.ownsRow w.heap.size 3 1 (.slice (some ⟨w.heap.size, 0, none⟩) l.length l.length) l.length (icells (l.take k) ++ rest)

theorem copiedU_step {w wr w2 : World} {l : List Upd} {k : Nat} {x y : Int} (h : CopiedU w l k wr) (hE : Ext wr w2) (hk : k < l.length) (hxy : l[k] = (x, y)) :
    (∃ u, w2.cell? ⟨w.heap.size, k * 2, none⟩ = some u) ∧ (∃ u, w2.cell? ⟨w.heap.size, k * 2 + 1, none⟩ = some u) ∧ w2.frozen? ⟨w.heap.size, k * 2, none⟩ = false ∧ w2.frozen? ⟨w.heap.size, k * 2 + 1, none⟩ = false ∧
    CopiedU w l (k + 1) ((w2.setCell ⟨w.heap.size, k * 2, none⟩ (.int .i64 x)).setCell ⟨w.heap.size, k * 2 + 1, none⟩ (.int .i64 y)) := by
  obtain ⟨rest, hr, hown⟩ := h
  have hown := hown.kept (only_of_ext hE none) (by cases hv : (Value.slice (some ⟨w.heap.size, 0, none⟩) l.length l.length).ownBlock <;> simp)
  have hl := hown.1
  have htl : (ucells (l.take k)).length = k * 2 := by rw [ucells_len, List.length_take]; congr 1; omega
  have c0 := hown.cellAt (k * 2) (by omega)
  have c1 := hown.cellAt (k * 2 + 1) (by omega)
  refine ⟨⟨_, c0.trans (List.getElem?_eq_getElem (by omega))⟩, ⟨_, c1.trans (List.getElem?_eq_getElem (by omega))⟩, hown.frozenAt _, hown.frozenAt _, ?_⟩
  match rest, hr with
  | [], hr => simp at hr; omega
  | [a], hr => simp at hr; omega
  | a :: b :: rest, hr =>
    refine ⟨rest, by simp at hr; omega, ?_⟩
    have h2 := ((hown.stored (k * 2) (.int .i64 x)).1.stored (k * 2 + 1) (.int .i64 y)).1
    rw [set_two _ _ _ _ _ _ _ htl] at h2
    rw [ucells_take_succ hk hxy, List.append_assoc]
    exact h2
theorem copiedI_step {w wr : World} {l : List Int} {k : Nat} {x : Int} (h : CopiedI w l k wr) (hk : k < l.length) (hx : l[k] = x) :
    (∃ u, wr.cell? ⟨w.heap.size, k, none⟩ = some u) ∧ wr.frozen? ⟨w.heap.size, k, none⟩ = false ∧ CopiedI w l (k + 1) (wr.setCell ⟨w.heap.size, k, none⟩ (.int .i64 x)) := by
  obtain ⟨rest, hr, hown⟩ := h
  have hl := hown.1
  have htl : (icells (l.take k)).length = k := by rw [icells_len, List.length_take]; omega
  have c0 := hown.cellAt k (by omega)
  refine ⟨⟨_, c0.trans (List.getElem?_eq_getElem (by omega))⟩, hown.frozenAt _, ?_⟩
  match rest, hr with
  | [], hr => simp at hr; omega
  | a :: rest, hr =>
    refine ⟨rest, by simp at hr; omega, ?_⟩
    have h2 := (hown.stored k (.int .i64 x)).1
    rw [set_one _ _ _ _ _ htl] at h2
    rw [icells_take_succ hk hx, List.append_assoc]
    exact h2

/-- A copy of a log in new memory. -/
theorem toUpdateS_any {A : Option Addr} {l : List Upd} (c : Nat) {w : World} (h : LogR w A l) (hm : l.length ≤ 1048576) :
    Calls Alt.prog 106 #[.slice A l.length c] w fun e w' => e = .returned (.slice (some ⟨w.heap.size, 0, none⟩) l.length l.length) ∧
      w'.ownsRow w.heap.size 39 2 (.slice (some ⟨w.heap.size, 0, none⟩) l.length l.length) l.length (ucells l) ∧ Ext w w' := by
  have h := hide h
  obtain ⟨i0, hi, hz0, hz1, hz2⟩ := info_parts infoU'
  go_enter Alt.func106, Try.ntmps106
  go_wp2_with (at_make; refine wpList_make_full _ rfl _ _ 34 rfl w.heap.size 39 i0 _ 2 Alt.underlying34 hi hz0 hz1 _ _ _ _ l.length rfl rfl rfl rfl (by rw [hz2]; omega) (by unfold maxLen; omega) (Nat.le_refl _) ?_)
  intro w1 hown hgr
  have hst := hide (show CopiedU w l 0 w1 from ⟨_, by rw [hown.1]; omega, by simpa [ucells] using hown⟩)
  have hE1 : Hid (Ext w w1) := hide ⟨hgr.os, hgr.tape, hgr.output, hgr.size, fun i hi => hgr.block i hi (by simp)⟩
  clear hown hgr
  go_wp2_with fail
  go_loopw [4] (fun i wr => ∃ k : Nat, k ≤ l.length ∧ i = .int .i64 k ∧ Hid (CopiedU w l k wr) ∧ Hid (Ext w wr)) (fun i _ => l.length - (intOf i).toNat)
  case atStart => exact ⟨0, Nat.zero_le _, rfl, hst, hE1⟩
  case round =>
    obtain ⟨k, hk, rfl, hC, hE⟩ := hrel
    by_cases hlt : k < l.length
    · obtain ⟨b, o, x, y, hA, hb, hxy, hc0, hc1⟩ := log_at (h.out.ext hE.out) hlt
      subst hA
      have hxy := hide hxy
      go_wp2_with fail
      refine (toUpdate_any x y _).mono ?_
      rintro e w2 ⟨rfl, hF⟩
      obtain ⟨⟨u0, d0⟩, ⟨u1, d1⟩, f0, f1, hC'⟩ := copiedU_step hC.out hF hlt hxy.out
      have hC' := hide hC'
      have hE' : Hid (Ext w ((w2.setCell ⟨w.heap.size, k * 2, none⟩ (.int .i64 x)).setCell ⟨w.heap.size, k * 2 + 1, none⟩ (.int .i64 y))) := hide (((ext_trans hE.out hF).setCell (Nat.le_refl _) _).setCell (Nat.le_refl _) _)
      clear hC hE
      go_wp2_with fail
      go_roundw
      case rel => exact ⟨k + 1, by omega, by go_num, hC', hE'⟩
      case measure => simp [intOf]; omega
    · have hkn : k = l.length := by omega
      obtain ⟨rest, hr, hown⟩ := hC.out
      have hown := hide hown
      have hkn := hide hkn
      go_wp2
      go_ret
      have hr0 : rest = [] := List.eq_nil_of_length_eq_zero (by rw [hr, hkn.out]; omega)
      have := hown.out
      rw [hr0, List.append_nil, hkn.out, List.take_length] at this
      exact ⟨rfl, this, hE.out⟩


theorem szUpdateS_yes {A : Option Addr} (n c : Nat) (left : Int) (w : World) (h0 : 0 ≤ left) (h1 : left ≤ 1048576) (hn : (n : Int) ≤ left) :
    Calls Alt.prog 105 #[.slice A n c, .int .i64 left] w fun e w' => e = .returned (.int .i64 (left - n)) ∧ w = w' := by
  go_enter Alt.func105, Try.ntmps105
  go_wp2
  go_ret
  exact ⟨rfl, rfl⟩
theorem szUpdateS_no {A : Option Addr} (n c : Nat) (left : Int) (w : World) (h0 : 0 ≤ left) (h1 : left ≤ 1048576) (hn : left < (n : Int)) (hm : n ≤ 9223372036854775807) :
    Calls Alt.prog 105 #[.slice A n c, .int .i64 left] w fun e w' => e = .returned (.int .i64 (-1)) ∧ w = w' := by
  go_enter Alt.func105, Try.ntmps105
  go_wp2
  go_ret
  exact ⟨rfl, rfl⟩

theorem list_eq_ofI {α : Type} {l m : List α} (hn : l.length = m.length) (h : ∀ j, j < l.length → l[j]? = m[j]?) : l = m := by
  apply List.ext_getElem? 
  intro i
  by_cases hi : i < l.length
  · exact h i hi
  · rw [List.getElem?_eq_none (by omega), List.getElem?_eq_none (by omega)]

theorem list_eq_of {α : Type} {l m : List α} (hn : l.length = m.length) (h : ∀ j, j < l.length → l[j]? = m[j]?) : l = m := by
  apply List.ext_getElem? 
  intro i
  by_cases hi : i < l.length
  · exact h i hi
  · rw [List.getElem?_eq_none (by omega), List.getElem?_eq_none (by omega)]

theorem eqUpdateS_any {A B : Option Addr} {l m : List Upd} (c d : Nat) {w : World} (h : LogR w A l) (h' : LogR w B m) (hm : l.length ≤ 1048576) (hm' : m.length ≤ 1048576) :
    Calls Alt.prog 107 #[.slice A l.length c, .slice B m.length d] w fun e w' => e = .returned (.bool (decide (l = m))) ∧ Ext w w' := by
  replace h := hide h
  replace h' := hide h'
  by_cases hn : l.length = m.length
  · have hn' : ((l.length : Int) != (m.length : Int)) = false := by simp [hn]
    replace hn := hide hn
    go_enter Alt.func107, Try.ntmps107
    go_wp2_with fail
    go_loopw [5] (fun i wr => ∃ k : Nat, k ≤ l.length ∧ i = .int .i64 k ∧ Hid (Ext w wr) ∧ Hid (∀ j, j < k → l[j]? = m[j]?)) (fun i _ => l.length - (intOf i).toNat)
    case atStart => exact ⟨0, Nat.zero_le _, rfl, hide (ext_refl _), hide (fun j hj => absurd hj (Nat.not_lt_zero _))⟩
    case round =>
      obtain ⟨k, hk, rfl, hE, hT⟩ := hrel
      by_cases h1 : k < l.length
      · have h2 : k < m.length := by have := hn.out; omega
        obtain ⟨b, o, x, y, hA, hb, hxy, hc0, hc1⟩ := log_at (h.out.ext hE.out) h1
        subst hA
        obtain ⟨b', o', x', y', hA', hb', hxy', hc0', hc1'⟩ := log_at (h'.out.ext hE.out) h2
        subst hA'
        replace hxy := hide hxy
        replace hxy' := hide hxy'
        by_cases hv : x = x' ∧ y = y'
        · have hd : decide (x = x' ∧ y = y') = true := by simpa using hv
          replace hv := hide hv
          go_wp2_with fail
          go_region_with (go_at_call 114; refine (eqUpdate_any _ _ _ _ _).mono ?_; rintro e w' ⟨rfl, hF⟩)
          all_goals replace hF := hide hF
          all_goals go_wp2_with fail
          all_goals go_roundw
          all_goals first
            | (show ∃ k : Nat, _
               refine ⟨k + 1, by omega, by go_num, hide (by first | exact ext_trans hE.out hF.out | exact ext_trans (ext_drew hE.out) hF.out), hide (fun j hj => ?_)⟩
               by_cases e : j = k
               · subst e; rw [List.getElem?_eq_getElem h1, List.getElem?_eq_getElem h2, hxy.out, hxy'.out, hv.out.1, hv.out.2]
               · exact hT.out j (by omega))
            | (simp [intOf]; omega)
        · have hd : decide (x = x' ∧ y = y') = false := by simpa using hv
          replace hv := hide hv
          have fin : Hid (l ≠ m) := hide (by
            intro e
            subst e
            have := hxy.out.symm.trans hxy'.out
            injection this with e1 e2
            exact hv.out ⟨e1, e2⟩)
          go_wp2_with fail
          go_region_with (go_at_call 114; refine (eqUpdate_any _ _ _ _ _).mono ?_; rintro e w' ⟨rfl, hF⟩)
          all_goals replace hF := hide hF
          all_goals go_wp2_with fail
          all_goals go_ret
          all_goals exact ⟨ret_bool (by simpa using fin.out), by first | exact ext_trans hE.out hF.out | exact ext_trans (ext_drew hE.out) hF.out⟩
      · have fin : Hid (l = m) := hide (list_eq_of hn.out fun j hj => hT.out j (by omega))
        go_wp2
        go_ret
        exact ⟨ret_bool (by simpa using fin.out), hE.out⟩
  · have hn' : ((l.length : Int) != (m.length : Int)) = true := by simp; omega
    replace hn := hide hn
    go_enter Alt.func107, Try.ntmps107
    go_wp2
    go_ret
    exact ⟨ret_bool (by simp; intro e; exact hn.out (by rw [e])), ext_refl _⟩

end Go.Proofs.YtciekjplhbimdaaZ
