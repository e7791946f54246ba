/-
  The walks of the laws FnExactStateAt, FnExactStateOf: each returns true for every input, and leaves its arguments as they were.
-/
import Derived.Test.YthhlimpmjmnmfaaW9
set_option linter.all false
namespace Go.Proofs.Ythhlimpmjmnmfaa
open Go.RowKit

set_option maxHeartbeats 1600000 in
theorem fnExactStateAt.walk (a0 : Option Addr) (n0 c0 : Nat) (l0 : List Upd) (key : Int) (w : World) (w0 : UpdsArg w a0 n0 c0 l0) (w1 : (Lit.int .i64 key).wf = true) :
    Calls Try.prog 10 #[.slice a0 n0 c0, .int .i64 key] w fun e w' => e = .returned (.bool true) ∧ Below w.heap.size w w' := by
  clear w1
  obtain ⟨rfl, hnc, hcm, hL⟩ := w0
  have hL := hide hL
  unfold maxLen at hcm
  by_cases hn : 1048576 < l0.length
  · go_enter Try.func10, Try.ntmps10
    go_wp2_with (go_at_call 32; refine (szUpdateS_no _ _ _ _ (by omega) (by omega) (by omega) (by omega)).mono ?_; rintro e w' ⟨rfl, rfl⟩)
    go_ret
    exact ⟨rfl, ext_refl _⟩
  · obtain ⟨s, hs⟩ : ∃ s, stateAt l0 key = s := ⟨_, rfl⟩
    have hsl : s.length ≤ 5 := by rw [← hs]; exact stateAt_len _ _
    replace hs := hide hs
    go_enter Try.func10, Try.ntmps10
    go_wp2_with (go_at_call 32; refine (szUpdateS_yes _ _ _ _ (by omega) (by omega) (by omega)).mono ?_; rintro e w' ⟨rfl, rfl⟩)
    refine (toUpdateS_any c0 hL.out (by omega)).mono ?_
    rintro e w1 ⟨rfl, hO1, hE1⟩
    have hA := hide (show LogR w1 _ l0 from CellsR.of_own hO1)
    replace hE1 := hide hE1
    clear hO1
    go_wp2_with fail
    refine (specStateAt_s _ key hA.out (by omega) hs.out).mono ?_
    intro e w2 hG
    obtain ⟨A2, c2, rfl, hW, hE2⟩ := hG.row
    clear hG hA
    replace hE2 := hide (ext_trans hE1.out hE2.out)
    replace hW := hide (own_mono hW.out hE1.out.size)
    go_wp2_with fail
    refine (toUpdateS_any c0 (hL.out.ext hE2.out) (by omega)).mono ?_
    rintro e w3 ⟨rfl, hX, hE3⟩
    have n23 := hide (row_row hW.out hX)
    replace hX := hide hX
    replace hW := hide (row_ext hW.out hE3)
    have hs2 := hE2.out.size
    replace hE3 := hide (ext_trans hE2.out hE3)
    go_wp2_with fail
    refine (implStateAt_s _ key (CellsR.of_own hX.out) rfl (by omega) (Nat.le_refl _) hs.out).mono ?_
    intro e w4 hG
    obtain ⟨A4, c4, rfl, hR, hE4⟩ := hG.row
    clear hG
    have n34 := hide (row_row' hX.out hR.out)
    have n24 := hide (row_row hW.out hR.out)
    have hs3 := hE3.out.size
    replace hX := hide (row_ext hX.out hE4.out)
    replace hW := hide (row_ext hW.out hE4.out)
    replace hR := hide (own_mono hR.out hs3)
    replace hE4 := hide (ext_trans hE3.out hE4.out)
    go_wp2_with fail
    refine (eqIntS_any c4 c2 (CellsR.of_own hR.out) (CellsR.of_own hW.out) (by omega) (by omega)).mono ?_
    rintro e w5 ⟨rfl, hE5⟩
    replace hX := hide (row_ext hX.out hE5)
    replace hW := hide (row_ext hW.out hE5)
    replace hR := hide (row_ext hR.out hE5)
    replace hE5 := hide (ext_trans hE4.out hE5)
    go_wp2_with fail
    refine (toUpdateS_any c0 (hL.out.ext hE5.out) (by omega)).mono ?_
    rintro e w6 ⟨rfl, hO6, hE6⟩
    replace hX := hide (row_ext hX.out hE6)
    replace hW := hide (row_ext hW.out hE6)
    replace hR := hide (row_ext hR.out hE6)
    replace hE6 := hide (ext_trans hE5.out hE6)
    replace hO6 := hide hO6
    go_wp2_with fail
    refine (eqUpdateS_any _ _ (CellsR.of_own hX.out) (CellsR.of_own hO6.out) (by omega) (by omega)).mono ?_
    rintro e w7 ⟨rfl, hE7⟩
    replace hX := hide (row_ext hX.out hE7)
    replace hW := hide (row_ext hW.out hE7)
    replace hR := hide (row_ext hR.out hE7)
    replace hE7 := hide (ext_trans hE6.out hE7)
    clear hO6
    go_wp2_with fail
    refine (markUpdateS_any 1 hX.out (by omega) (by omega) (by omega)).mono ?_
    rintro e w8 ⟨rfl, hg8⟩
    replace hW := hide (hW.out.kept hg8 n23.out)
    replace hR := hide (hR.out.kept hg8 n34.out)
    replace hE8 := hide (ext_only hE7.out hg8 hs2)
    clear hg8 hX
    go_wp2_with fail
    refine (eqIntS_any c4 c2 (CellsR.of_own hR.out) (CellsR.of_own hW.out) (by omega) (by omega)).mono ?_
    rintro e w9 ⟨rfl, hE9⟩
    replace hW := hide (row_ext hW.out hE9)
    replace hR := hide (row_ext hR.out hE9)
    replace hE9 := hide (ext_trans hE8.out hE9)
    go_wp2_with fail
    refine (markIntS_any 1 hR.out (by omega) (by omega) (by omega)).mono ?_
    rintro e w10 ⟨rfl, hR', hg10⟩
    have hE10 := hide (only_base hE9.out hg10 (fun g e => (hR.out.lt g e).1))
    replace hW := hide (hW.out.kept hg10 n24.out)
    replace hR' := hide hR'
    clear hg10 hR
    go_wp2_with fail
    refine (heldIntS_any _ _ 1 (CellsR.of_own hR'.out) (by omega) (by omega) (by omega)).mono ?_
    rintro e w11 ⟨rfl, rfl⟩
    go_wp2_with fail
    refine (toUpdateS_any c0 (hL.out.ext hE10.out) (by omega)).mono ?_
    rintro e w12 ⟨rfl, hO12, hE12⟩
    replace hO12 := hide hO12
    replace hW := hide (row_ext hW.out hE12)
    replace hR' := hide (row_ext hR'.out hE12)
    replace hE12 := hide (ext_trans hE10.out hE12)
    go_wp2_with fail
    refine (implStateAt_s _ key (CellsR.of_own hO12.out) rfl (by omega) (Nat.le_refl _) hs.out).mono ?_
    intro e w13 hG
    obtain ⟨A13, c13, rfl, hS, hE13⟩ := hG.row
    clear hG hO12
    replace hW := hide (row_ext hW.out hE13.out)
    replace hR' := hide (row_ext hR'.out hE13.out)
    replace hE13 := hide (ext_trans hE12.out hE13.out)
    go_wp2_with fail
    refine (eqIntS_any c13 c2 (CellsR.of_own hS.out) (CellsR.of_own hW.out) (by omega) (by omega)).mono ?_
    rintro e w14 ⟨rfl, hE14⟩
    replace hR' := hide (row_ext hR'.out hE14)
    replace hE14 := hide (ext_trans hE13.out hE14)
    go_wp2_with fail
    refine (heldIntS_any _ _ 1 (CellsR.of_own hR'.out) (by omega) (by omega) (by omega)).mono ?_
    rintro e w15 ⟨rfl, rfl⟩
    go_wp2_with fail
    go_ret
    exact ⟨rfl, hE14.out⟩

set_option maxHeartbeats 1600000 in
theorem fnExactStateOf.walk (a0 : Option Addr) (n0 c0 : Nat) (l0 : List Upd) (w : World) (w0 : UpdsArg w a0 n0 c0 l0) :
    Calls Try.prog 11 #[.slice a0 n0 c0] w fun e w' => e = .returned (.bool true) ∧ Below w.heap.size w w' := by
  obtain ⟨rfl, hnc, hcm, hL⟩ := w0
  have hL := hide hL
  unfold maxLen at hcm
  by_cases hn : 1048576 < l0.length
  · go_enter Try.func11, Try.ntmps11
    go_wp2_with (go_at_call 32; refine (szUpdateS_no _ _ _ _ (by omega) (by omega) (by omega) (by omega)).mono ?_; rintro e w' ⟨rfl, rfl⟩)
    go_ret
    exact ⟨rfl, ext_refl _⟩
  · obtain ⟨s, hs⟩ : ∃ s, stateOf l0 = s := ⟨_, rfl⟩
    have hsl : s.length ≤ 5 := by rw [← hs]; exact stateOf_len _
    replace hs := hide hs
    go_enter Try.func11, Try.ntmps11
    go_wp2_with (go_at_call 32; refine (szUpdateS_yes _ _ _ _ (by omega) (by omega) (by omega)).mono ?_; rintro e w' ⟨rfl, rfl⟩)
    refine (toUpdateS_any c0 hL.out (by omega)).mono ?_
    rintro e w1 ⟨rfl, hO1, hE1⟩
    have hA := hide (show LogR w1 _ l0 from CellsR.of_own hO1)
    replace hE1 := hide hE1
    clear hO1
    go_wp2_with fail
    refine (specStateOf_s _ hA.out (by omega) hs.out).mono ?_
    intro e w2 hG
    obtain ⟨A2, c2, rfl, hW, hE2⟩ := hG.row
    clear hG hA
    replace hE2 := hide (ext_trans hE1.out hE2.out)
    replace hW := hide (own_mono hW.out hE1.out.size)
    go_wp2_with fail
    refine (toUpdateS_any c0 (hL.out.ext hE2.out) (by omega)).mono ?_
    rintro e w3 ⟨rfl, hX, hE3⟩
    have n23 := hide (row_row hW.out hX)
    replace hX := hide hX
    replace hW := hide (row_ext hW.out hE3)
    have hs2 := hE2.out.size
    replace hE3 := hide (ext_trans hE2.out hE3)
    go_wp2_with fail
    refine (implStateOf_s _ (CellsR.of_own hX.out) rfl (by omega) (Nat.le_refl _) hs.out).mono ?_
    intro e w4 hG
    obtain ⟨A4, c4, rfl, hR, hE4⟩ := hG.row
    clear hG
    have n34 := hide (row_row' hX.out hR.out)
    have n24 := hide (row_row hW.out hR.out)
    have hs3 := hE3.out.size
    replace hX := hide (row_ext hX.out hE4.out)
    replace hW := hide (row_ext hW.out hE4.out)
    replace hR := hide (own_mono hR.out hs3)
    replace hE4 := hide (ext_trans hE3.out hE4.out)
    go_wp2_with fail
    refine (eqIntS_any c4 c2 (CellsR.of_own hR.out) (CellsR.of_own hW.out) (by omega) (by omega)).mono ?_
    rintro e w5 ⟨rfl, hE5⟩
    replace hX := hide (row_ext hX.out hE5)
    replace hW := hide (row_ext hW.out hE5)
    replace hR := hide (row_ext hR.out hE5)
    replace hE5 := hide (ext_trans hE4.out hE5)
    go_wp2_with fail
    refine (toUpdateS_any c0 (hL.out.ext hE5.out) (by omega)).mono ?_
    rintro e w6 ⟨rfl, hO6, hE6⟩
    replace hX := hide (row_ext hX.out hE6)
    replace hW := hide (row_ext hW.out hE6)
    replace hR := hide (row_ext hR.out hE6)
    replace hE6 := hide (ext_trans hE5.out hE6)
    replace hO6 := hide hO6
    go_wp2_with fail
    refine (eqUpdateS_any _ _ (CellsR.of_own hX.out) (CellsR.of_own hO6.out) (by omega) (by omega)).mono ?_
    rintro e w7 ⟨rfl, hE7⟩
    replace hX := hide (row_ext hX.out hE7)
    replace hW := hide (row_ext hW.out hE7)
    replace hR := hide (row_ext hR.out hE7)
    replace hE7 := hide (ext_trans hE6.out hE7)
    clear hO6
    go_wp2_with fail
    refine (markUpdateS_any 1 hX.out (by omega) (by omega) (by omega)).mono ?_
    rintro e w8 ⟨rfl, hg8⟩
    replace hW := hide (hW.out.kept hg8 n23.out)
    replace hR := hide (hR.out.kept hg8 n34.out)
    replace hE8 := hide (ext_only hE7.out hg8 hs2)
    clear hg8 hX
    go_wp2_with fail
    refine (eqIntS_any c4 c2 (CellsR.of_own hR.out) (CellsR.of_own hW.out) (by omega) (by omega)).mono ?_
    rintro e w9 ⟨rfl, hE9⟩
    replace hW := hide (row_ext hW.out hE9)
    replace hR := hide (row_ext hR.out hE9)
    replace hE9 := hide (ext_trans hE8.out hE9)
    go_wp2_with fail
    refine (markIntS_any 1 hR.out (by omega) (by omega) (by omega)).mono ?_
    rintro e w10 ⟨rfl, hR', hg10⟩
    have hE10 := hide (only_base hE9.out hg10 (fun g e => (hR.out.lt g e).1))
    replace hW := hide (hW.out.kept hg10 n24.out)
    replace hR' := hide hR'
    clear hg10 hR
    go_wp2_with fail
    refine (heldIntS_any _ _ 1 (CellsR.of_own hR'.out) (by omega) (by omega) (by omega)).mono ?_
    rintro e w11 ⟨rfl, rfl⟩
    go_wp2_with fail
    refine (toUpdateS_any c0 (hL.out.ext hE10.out) (by omega)).mono ?_
    rintro e w12 ⟨rfl, hO12, hE12⟩
    replace hO12 := hide hO12
    replace hW := hide (row_ext hW.out hE12)
    replace hR' := hide (row_ext hR'.out hE12)
    replace hE12 := hide (ext_trans hE10.out hE12)
    go_wp2_with fail
    refine (implStateOf_s _ (CellsR.of_own hO12.out) rfl (by omega) (Nat.le_refl _) hs.out).mono ?_
    intro e w13 hG
    obtain ⟨A13, c13, rfl, hS, hE13⟩ := hG.row
    clear hG hO12
    replace hW := hide (row_ext hW.out hE13.out)
    replace hR' := hide (row_ext hR'.out hE13.out)
    replace hE13 := hide (ext_trans hE12.out hE13.out)
    go_wp2_with fail
    refine (eqIntS_any c13 c2 (CellsR.of_own hS.out) (CellsR.of_own hW.out) (by omega) (by omega)).mono ?_
    rintro e w14 ⟨rfl, hE14⟩
    replace hR' := hide (row_ext hR'.out hE14)
    replace hE14 := hide (ext_trans hE13.out hE14)
    go_wp2_with fail
    refine (heldIntS_any _ _ 1 (CellsR.of_own hR'.out) (by omega) (by omega) (by omega)).mono ?_
    rintro e w15 ⟨rfl, rfl⟩
    go_wp2_with fail
    go_ret
    exact ⟨rfl, hE14.out⟩
end Go.Proofs.Ythhlimpmjmnmfaa
