/-
  The walk of the law FnExactLogKey: it returns true for every input, and leaves its arguments as they were.
-/
import Derived.Test.YtfkongkokegjjaaW6
import Derived.Test.YtfkongkokegjjaaMark2
import Derived.Test.YtfkongkokegjjaaFrame2
set_option linter.all false
namespace Go.Proofs.Ytfkongkokegjjaa
open Go.RowKit

theorem row_ne {w : World} {base g : Nat} {e : TypeId} {size n : Nat} {v : Value} {xs : List Value} (h : w.ownsRow base e size v n xs) (hg : g < base) : v.ownBlock = none ∨ v.ownBlock ≠ some g :=
  .inr fun e => by have := (h.lt g e).1; omega
theorem row_lt {w : World} {base g : Nat} {e : TypeId} {size n : Nat} {v : Value} {xs : List Value} (h : w.ownsRow base e size v n xs) (hg : w.heap.size ≤ g) : v.ownBlock = none ∨ v.ownBlock ≠ some g :=
  .inr fun e => by have := (h.lt g e).2; omega
/-- Two rows, the second made after the first. -/
theorem row_row {w w' : World} {base : Nat} {e e' : TypeId} {size size' n n' : Nat} {v v' : Value} {xs xs' : List Value} (h : w.ownsRow base e size v n xs) (h' : w'.ownsRow w.heap.size e' size' v' n' xs') :
    v.ownBlock = none ∨ v.ownBlock ≠ v'.ownBlock := by
  cases hv : v.ownBlock with
  | none => exact .inl rfl
  | some g => exact .inr fun e => by have := (h.lt g hv).2; have := (h'.lt g e.symm).1; omega
theorem row_row' {w w' : World} {base : Nat} {e e' : TypeId} {size size' n n' : Nat} {v v' : Value} {xs xs' : List Value} (h : w.ownsRow base e size v n xs) (h' : w'.ownsRow w.heap.size e' size' v' n' xs') :
    v'.ownBlock = none ∨ v'.ownBlock ≠ v.ownBlock := by
  cases hv : v'.ownBlock with
  | none => exact .inl rfl
  | some g => exact .inr fun e => by have := (h.lt g e.symm).2; have := (h'.lt g hv).1; omega
theorem GotRowI.row {w w' : World} {xs : List Int} {e : Ending} (h : GotRowI w xs e w') : ∃ A c, e = .returned (.slice A xs.length c) ∧ Hid (w'.ownsRow w.heap.size 3 1 (.slice A xs.length c) xs.length (icells xs)) ∧ Hid (Ext w w') := by
  obtain ⟨A, c, rfl, h1, h2, h3, h4⟩ := h
  exact ⟨A, c, rfl, h3, h4⟩
theorem only_base {w w1 w' : World} {v : Value} (hE : Ext w w1) (hg : w1.grownBy w' v.ownBlock) (hb : ∀ g, v.ownBlock = some g → w.heap.size ≤ g) : Ext w w' := by
  refine ⟨hg.os.trans hE.os, hg.tape.trans hE.tape, hg.output.trans hE.output, Nat.le_trans hE.size hg.size, fun i hi => ?_⟩
  exact (hg.block i (Nat.lt_of_lt_of_le hi hE.size) (fun e => by have := hb i e.symm; omega)).trans (hE.block i hi)
theorem row_ext {w w' : World} {base : Nat} {e : TypeId} {size n : Nat} {v : Value} {xs : List Value} (h : w.ownsRow base e size v n xs) (hE : Ext w w') : w'.ownsRow base e size v n xs :=
  h.kept (only_of_ext hE none) (by cases v.ownBlock <;> simp)

set_option maxHeartbeats 1600000 in
theorem fnExactLogKey.walk (a0 : Option Addr) (n0 c0 : Nat) (l0 : List Upd) (key : Int) (w : World) (w0 : UpdsArg w a0 n0 c0 l0) (w1 : (Lit.int .i64 key).wf = true) :
    Calls Try.prog 7 #[.slice a0 n0 c0, .int .i64 key] w fun e w' => e = .returned (.bool true) ∧ Below w.heap.size w w' := by
  clear w1
  obtain ⟨rfl, hnc, hcm, hL⟩ := w0
  have hL := hide hL
  unfold maxLen at hcm
  by_cases hn : 1048576 < l0.length
  · go_enter Try.func7, Try.ntmps7
    go_wp2_with (go_at_call 27; refine (szUpdateS_no _ _ _ _ (by omega) (by omega) (by omega) (by omega)).mono ?_; rintro e w' ⟨rfl, rfl⟩)
    go_ret
    exact ⟨rfl, ext_refl _⟩
  · obtain ⟨s, hs⟩ : ∃ s, logKey l0 key = s := ⟨_, rfl⟩
    have hsl : s.length ≤ l0.length := by rw [← hs]; exact logKey_len _ _
    replace hs := hide hs
    go_enter Try.func7, Try.ntmps7
    go_wp2_with (go_at_call 27; refine (szUpdateS_yes _ _ _ _ (by omega) (by omega) (by omega)).mono ?_; rintro e w' ⟨rfl, rfl⟩)
    refine (toUpdateS_any c0 hL.out (by omega)).mono ?_
    rintro e w1 ⟨rfl, hO1, hE1⟩
    have hA := hide (show LogR w1 _ l0 from CellsR.of_own hO1)
    replace hE1 := hide hE1
    clear hO1
    go_wp2_with fail
    refine (specLogKey_s _ key hA.out (by omega) hs.out).mono ?_
    intro e w2 hG
    obtain ⟨A2, c2, rfl, hW, hE2⟩ := hG.row
    clear hG hA
    replace hE2 := hide (ext_trans hE1.out hE2.out)
    replace hW := hide (own_mono hW.out hE1.out.size)
    go_wp2_with fail
    refine (toUpdateS_any c0 (hL.out.ext hE2.out) (by omega)).mono ?_
    rintro e w3 ⟨rfl, hX, hE3⟩
    have n23 := hide (row_row hW.out hX)
    replace hX := hide hX
    replace hW := hide (row_ext hW.out hE3)
    have hs2 := hE2.out.size
    replace hE3 := hide (ext_trans hE2.out hE3)
    go_wp2_with fail
    refine (implLogKey_s _ key (CellsR.of_own hX.out) (by omega) hs.out).mono ?_
    intro e w4 hG
    obtain ⟨A4, c4, rfl, hR, hE4⟩ := hG.row
    clear hG
    have n34 := hide (row_row' hX.out hR.out)
    have n24 := hide (row_row hW.out hR.out)
    have hs3 := hE3.out.size
    replace hX := hide (row_ext hX.out hE4.out)
    replace hW := hide (row_ext hW.out hE4.out)
    replace hR := hide (own_mono hR.out hs3)
    replace hE4 := hide (ext_trans hE3.out hE4.out)
    go_wp2_with fail
    refine (eqIntS_any c4 c2 (CellsR.of_own hR.out) (CellsR.of_own hW.out) (by omega) (by omega)).mono ?_
    rintro e w5 ⟨rfl, hE5⟩
    replace hX := hide (row_ext hX.out hE5)
    replace hW := hide (row_ext hW.out hE5)
    replace hR := hide (row_ext hR.out hE5)
    replace hE5 := hide (ext_trans hE4.out hE5)
    go_wp2_with fail
    refine (toUpdateS_any c0 (hL.out.ext hE5.out) (by omega)).mono ?_
    rintro e w6 ⟨rfl, hO6, hE6⟩
    replace hX := hide (row_ext hX.out hE6)
    replace hW := hide (row_ext hW.out hE6)
    replace hR := hide (row_ext hR.out hE6)
    replace hE6 := hide (ext_trans hE5.out hE6)
    replace hO6 := hide hO6
    go_wp2_with fail
    refine (eqUpdateS_any _ _ (CellsR.of_own hX.out) (CellsR.of_own hO6.out) (by omega) (by omega)).mono ?_
    rintro e w7 ⟨rfl, hE7⟩
    replace hX := hide (row_ext hX.out hE7)
    replace hW := hide (row_ext hW.out hE7)
    replace hR := hide (row_ext hR.out hE7)
    replace hE7 := hide (ext_trans hE6.out hE7)
    clear hO6
    go_wp2_with fail
    refine (markUpdateS_any 1 hX.out (by omega) (by omega) (by omega)).mono ?_
    rintro e w8 ⟨rfl, hg8⟩
    replace hW := hide (hW.out.kept hg8 n23.out)
    replace hR := hide (hR.out.kept hg8 n34.out)
    replace hE8 := hide (ext_only hE7.out hg8 hs2)
    clear hg8 hX
    go_wp2_with fail
    refine (eqIntS_any c4 c2 (CellsR.of_own hR.out) (CellsR.of_own hW.out) (by omega) (by omega)).mono ?_
    rintro e w9 ⟨rfl, hE9⟩
    replace hW := hide (row_ext hW.out hE9)
    replace hR := hide (row_ext hR.out hE9)
    replace hE9 := hide (ext_trans hE8.out hE9)
    go_wp2_with fail
    refine (markIntS_any 1 hR.out (by omega) (by omega) (by omega)).mono ?_
    rintro e w10 ⟨rfl, hR', hg10⟩
    have hE10 := hide (only_base hE9.out hg10 (fun g e => (hR.out.lt g e).1))
    replace hW := hide (hW.out.kept hg10 n24.out)
    replace hR' := hide hR'
    clear hg10 hR
    go_wp2_with fail
    refine (heldIntS_any _ _ 1 (CellsR.of_own hR'.out) (by omega) (by omega) (by omega)).mono ?_
    rintro e w11 ⟨rfl, rfl⟩
    go_wp2_with fail
    refine (toUpdateS_any c0 (hL.out.ext hE10.out) (by omega)).mono ?_
    rintro e w12 ⟨rfl, hO12, hE12⟩
    replace hO12 := hide hO12
    replace hW := hide (row_ext hW.out hE12)
    replace hR' := hide (row_ext hR'.out hE12)
    replace hE12 := hide (ext_trans hE10.out hE12)
    go_wp2_with fail
    refine (implLogKey_s _ key (CellsR.of_own hO12.out) (by omega) hs.out).mono ?_
    intro e w13 hG
    obtain ⟨A13, c13, rfl, hS, hE13⟩ := hG.row
    clear hG hO12
    replace hW := hide (row_ext hW.out hE13.out)
    replace hR' := hide (row_ext hR'.out hE13.out)
    replace hE13 := hide (ext_trans hE12.out hE13.out)
    go_wp2_with fail
    refine (eqIntS_any c13 c2 (CellsR.of_own hS.out) (CellsR.of_own hW.out) (by omega) (by omega)).mono ?_
    rintro e w14 ⟨rfl, hE14⟩
    replace hR' := hide (row_ext hR'.out hE14)
    replace hE14 := hide (ext_trans hE13.out hE14)
    go_wp2_with fail
    refine (heldIntS_any _ _ 1 (CellsR.of_own hR'.out) (by omega) (by omega) (by omega)).mono ?_
    rintro e w15 ⟨rfl, rfl⟩
    go_wp2_with fail
    go_ret
    exact ⟨rfl, hE14.out⟩
end Go.Proofs.Ytfkongkokegjjaa
