/-
  The walks of the laws FnExactConstants, FnExactUpdateValid, FnExactLogValid, FnExactLogCommon, FnExactLogBegins, FnExactStateValid: each returns true for every input, and leaves its arguments as they were.
-/
import Derived.Test.YtnbpckaplggkfaaLogs2
import Derived.Test.YtnbpckaplggkfaaStates1
import Derived.Test.YtnbpckaplggkfaaFrame2
set_option linter.all false
namespace Go.Proofs.Ytnbpckaplggkfaa
open Go.RowKit

theorem fnExactConstants.walk (w : World) : Calls Try.prog 3 #[] w fun e w' => e = .returned (.bool true) ∧ Below w.heap.size w w' := by
  go_enter Try.func3, Try.ntmps3
  go_wp2
  go_ret
  exact ⟨rfl, ext_refl _⟩

theorem fnExactUpdateValid.walk (a0 b0 : Int) (w : World) (w0 : True) :
    Calls Try.prog 4 #[.agg #[.int .i64 a0, .int .i64 b0]] w fun e w' => e = .returned (.bool true) ∧ Below w.heap.size w w' := by
  clear w0
  go_enter Try.func4, Try.ntmps4
  go_wp2_with fail
  refine (toUpdate_any a0 b0 _).mono ?_
  rintro e w1 ⟨rfl, hE1⟩
  have cu0 : w1.cell? ⟨w.heap.size, 0, none⟩ = some (.int .i64 a0) := by simpa using ((Blk.new w 24 #[.int .i64 a0, .int .i64 b0]).ext hE1).cell 0
  have cu1 : w1.cell? ⟨w.heap.size, 1, none⟩ = some (.int .i64 b0) := by simpa using ((Blk.new w 24 #[.int .i64 a0, .int .i64 b0]).ext hE1).cell 1
  replace hE1 := hide (ext_trans (ext_alloc (ext_refl w) _) hE1)
  go_wp2_with fail
  refine (specUpdateValid_any a0 b0 _).mono ?_
  rintro e w2 ⟨rfl, hE2⟩
  replace cu0 := ext_cell hE2 cu0
  replace cu1 := ext_cell hE2 cu1
  replace hE2 := hide (ext_trans hE1.out hE2)
  go_wp2_with fail
  refine (toUpdate_any a0 b0 _).mono ?_
  rintro e w3 ⟨rfl, hE3⟩
  have hE3 := hide (ext_trans hE2.out hE3)
  go_wp2_with fail
  refine (implUpdateValid_any a0 b0 _).mono ?_
  rintro e w4 ⟨rfl, hE4⟩
  have hE4 := hide (ext_trans hE3.out hE4)
  go_wp2_with fail
  go_ret
  exact ⟨by simp, hE4.out⟩

theorem fnExactLogValid.walk (a0 : Option Addr) (n0 c0 : Nat) (l0 : List Upd) (w : World) (w0 : UpdsArg w a0 n0 c0 l0) :
    Calls Try.prog 8 #[.slice a0 n0 c0] w fun e w' => e = .returned (.bool true) ∧ Below w.heap.size w w' := by
  obtain ⟨rfl, hnc, hcm, hL⟩ := w0
  have hL := hide hL
  unfold maxLen at hcm
  by_cases hn : 1048576 < l0.length
  · go_enter Try.func8, Try.ntmps8
    go_wp2_with (go_at_call 24; refine (szUpdateS_no _ _ _ _ (by omega) (by omega) (by omega) (by omega)).mono ?_; rintro e w' ⟨rfl, rfl⟩)
    go_ret
    exact ⟨rfl, ext_refl _⟩
  · go_enter Try.func8, Try.ntmps8
    go_wp2_with (go_at_call 24; refine (szUpdateS_yes _ _ _ _ (by omega) (by omega) (by omega)).mono ?_; rintro e w' ⟨rfl, rfl⟩)
    refine (toUpdateS_any c0 hL.out (by omega)).mono ?_
    rintro e w1 ⟨rfl, hO1, hE1⟩
    have hE1 := hide hE1
    have hA := hide (show LogR w1 _ l0 from CellsR.of_own hO1)
    clear hO1
    go_wp2_with fail
    refine (specLogValid_any _ hA.out (by omega)).mono ?_
    rintro e w2 ⟨rfl, hE2⟩
    have hE2 := hide (ext_trans hE1.out hE2)
    go_wp2_with fail
    refine (toUpdateS_any c0 (hL.out.ext hE2.out) (by omega)).mono ?_
    rintro e w3 ⟨rfl, hO3, hE3⟩
    have hX := hide (show LogR w3 _ l0 from CellsR.of_own hO3)
    have hE3 := hide (ext_trans hE2.out hE3)
    clear hO3
    go_wp2_with fail
    refine (implLogValid_any _ hX.out (by omega)).mono ?_
    rintro e w4 ⟨rfl, hE4⟩
    have hX := hide (hX.out.ext hE4)
    have hE4 := hide (ext_trans hE3.out hE4)
    go_wp2_with fail
    refine (toUpdateS_any c0 (hL.out.ext hE4.out) (by omega)).mono ?_
    rintro e w5 ⟨rfl, hO5, hE5⟩
    have hX := hide (hX.out.ext hE5)
    have hY := hide (show LogR w5 _ l0 from CellsR.of_own hO5)
    have hE5 := hide (ext_trans hE4.out hE5)
    clear hO5
    go_wp2_with fail
    refine (eqUpdateS_any _ _ hX.out hY.out (by omega) (by omega)).mono ?_
    rintro e w6 ⟨rfl, hE6⟩
    have hE6 := hide (ext_trans hE5.out hE6)
    have hd : decide (l0 = l0) = true := by simp
    go_wp2_with fail
    go_ret
    exact ⟨rfl, hE6.out⟩
theorem fnExactLogCommon.walk (a0 : Option Addr) (n0 c0 : Nat) (l0 : List Upd) (a1 : Option Addr) (n1 c1 : Nat) (l1 : List Upd) (w : World) (w0 : UpdsArg w a0 n0 c0 l0) (w1 : UpdsArg w a1 n1 c1 l1) :
    Calls Try.prog 10 #[.slice a0 n0 c0, .slice a1 n1 c1] w fun e w' => e = .returned (.bool true) ∧ Below w.heap.size w w' := by
  obtain ⟨rfl, hnc, hcm, hL⟩ := w0
  obtain ⟨rfl, hnc', hcm', hM⟩ := w1
  have hL := hide hL
  have hM := hide hM
  unfold maxLen at hcm hcm'
  by_cases hn : 1048576 < l0.length
  · go_enter Try.func10, Try.ntmps10
    go_wp2_with (go_at_call 24; refine (szUpdateS_no _ _ _ _ (by omega) (by omega) (by omega) (by omega)).mono ?_; rintro e w' ⟨rfl, rfl⟩)
    go_ret
    exact ⟨rfl, ext_refl _⟩
  by_cases hn' : 1048576 < l0.length + l1.length
  · go_enter Try.func10, Try.ntmps10
    go_wp2_with fail
    refine (szUpdateS_yes _ _ _ _ (by omega) (by omega) (by omega)).mono ?_
    rintro e w' ⟨rfl, rfl⟩
    go_wp2_with fail
    refine (szUpdateS_no _ _ _ _ (by omega) (by omega) (by omega) (by omega)).mono ?_
    rintro e w' ⟨rfl, rfl⟩
    go_wp2_with fail
    go_ret
    exact ⟨rfl, ext_refl _⟩
  · go_enter Try.func10, Try.ntmps10
    go_wp2_with fail
    refine (szUpdateS_yes _ _ _ _ (by omega) (by omega) (by omega)).mono ?_
    rintro e w' ⟨rfl, rfl⟩
    go_wp2_with fail
    refine (szUpdateS_yes _ _ _ _ (by omega) (by omega) (by omega)).mono ?_
    rintro e w' ⟨rfl, rfl⟩
    go_wp2_with fail
    refine (toUpdateS_any c0 hL.out (by omega)).mono ?_
    rintro e w1 ⟨rfl, hO1, hE1⟩
    have hE1 := hide hE1
    have hA := hide (show LogR w1 _ l0 from CellsR.of_own hO1)
    clear hO1
    go_wp2_with fail
    refine (toUpdateS_any c1 (hM.out.ext hE1.out) (by omega)).mono ?_
    rintro e w2 ⟨rfl, hO2, hE2⟩
    have hA := hide (hA.out.ext hE2)
    have hE2 := hide (ext_trans hE1.out hE2)
    have hB := hide (show LogR w2 _ l1 from CellsR.of_own hO2)
    clear hO2
    go_wp2_with fail
    refine (specLogCommon_any _ _ hA.out hB.out (by omega) (by omega)).mono ?_
    rintro e w3 ⟨rfl, hE3⟩
    have hE3 := hide (ext_trans hE2.out hE3)
    clear hA hB
    go_wp2_with fail
    refine (toUpdateS_any c0 (hL.out.ext hE3.out) (by omega)).mono ?_
    rintro e w4 ⟨rfl, hO4, hE4⟩
    have hE4 := hide (ext_trans hE3.out hE4)
    have hA := hide (show LogR w4 _ l0 from CellsR.of_own hO4)
    clear hO4
    go_wp2_with fail
    refine (toUpdateS_any c1 (hM.out.ext hE4.out) (by omega)).mono ?_
    rintro e w5 ⟨rfl, hO5, hE5⟩
    have hA := hide (hA.out.ext hE5)
    have hE5 := hide (ext_trans hE4.out hE5)
    have hB := hide (show LogR w5 _ l1 from CellsR.of_own hO5)
    clear hO5
    go_wp2_with fail
    refine (implLogCommon_any _ _ hA.out hB.out (by omega) (by omega)).mono ?_
    rintro e w6 ⟨rfl, hE6⟩
    have hA := hide (hA.out.ext hE6)
    have hB := hide (hB.out.ext hE6)
    have hE6 := hide (ext_trans hE5.out hE6)
    go_wp2_with fail
    refine (toUpdateS_any c0 (hL.out.ext hE6.out) (by omega)).mono ?_
    rintro e w7 ⟨rfl, hO7, hE7⟩
    have hA := hide (hA.out.ext hE7)
    have hB := hide (hB.out.ext hE7)
    have hE7 := hide (ext_trans hE6.out hE7)
    have hY := hide (show LogR w7 _ l0 from CellsR.of_own hO7)
    clear hO7
    go_wp2_with fail
    refine (eqUpdateS_any _ _ hA.out hY.out (by omega) (by omega)).mono ?_
    rintro e w8 ⟨rfl, hE8⟩
    have hB := hide (hB.out.ext hE8)
    have hE8 := hide (ext_trans hE7.out hE8)
    have hd : decide (l0 = l0) = true := by simp
    go_wp2_with fail
    refine (toUpdateS_any c1 (hM.out.ext hE8.out) (by omega)).mono ?_
    rintro e w9 ⟨rfl, hO9, hE9⟩
    have hB := hide (hB.out.ext hE9)
    have hE9 := hide (ext_trans hE8.out hE9)
    have hY := hide (show LogR w9 _ l1 from CellsR.of_own hO9)
    clear hO9
    go_wp2_with fail
    refine (eqUpdateS_any _ _ hB.out hY.out (by omega) (by omega)).mono ?_
    rintro e w10 ⟨rfl, hE10⟩
    have hE10 := hide (ext_trans hE9.out hE10)
    have hd' : decide (l1 = l1) = true := by simp
    go_wp2_with fail
    go_ret
    exact ⟨rfl, hE10.out⟩
theorem fnExactLogBegins.walk (a0 : Option Addr) (n0 c0 : Nat) (l0 : List Upd) (a1 : Option Addr) (n1 c1 : Nat) (l1 : List Upd) (w : World) (w0 : UpdsArg w a0 n0 c0 l0) (w1 : UpdsArg w a1 n1 c1 l1) :
    Calls Try.prog 11 #[.slice a0 n0 c0, .slice a1 n1 c1] w fun e w' => e = .returned (.bool true) ∧ Below w.heap.size w w' := by
  obtain ⟨rfl, hnc, hcm, hL⟩ := w0
  obtain ⟨rfl, hnc', hcm', hM⟩ := w1
  have hL := hide hL
  have hM := hide hM
  unfold maxLen at hcm hcm'
  by_cases hn : 1048576 < l0.length
  · go_enter Try.func11, Try.ntmps11
    go_wp2_with (go_at_call 24; refine (szUpdateS_no _ _ _ _ (by omega) (by omega) (by omega) (by omega)).mono ?_; rintro e w' ⟨rfl, rfl⟩)
    go_ret
    exact ⟨rfl, ext_refl _⟩
  by_cases hn' : 1048576 < l0.length + l1.length
  · go_enter Try.func11, Try.ntmps11
    go_wp2_with fail
    refine (szUpdateS_yes _ _ _ _ (by omega) (by omega) (by omega)).mono ?_
    rintro e w' ⟨rfl, rfl⟩
    go_wp2_with fail
    refine (szUpdateS_no _ _ _ _ (by omega) (by omega) (by omega) (by omega)).mono ?_
    rintro e w' ⟨rfl, rfl⟩
    go_wp2_with fail
    go_ret
    exact ⟨rfl, ext_refl _⟩
  · go_enter Try.func11, Try.ntmps11
    go_wp2_with fail
    refine (szUpdateS_yes _ _ _ _ (by omega) (by omega) (by omega)).mono ?_
    rintro e w' ⟨rfl, rfl⟩
    go_wp2_with fail
    refine (szUpdateS_yes _ _ _ _ (by omega) (by omega) (by omega)).mono ?_
    rintro e w' ⟨rfl, rfl⟩
    go_wp2_with fail
    refine (toUpdateS_any c0 hL.out (by omega)).mono ?_
    rintro e w1 ⟨rfl, hO1, hE1⟩
    have hE1 := hide hE1
    have hA := hide (show LogR w1 _ l0 from CellsR.of_own hO1)
    clear hO1
    go_wp2_with fail
    refine (toUpdateS_any c1 (hM.out.ext hE1.out) (by omega)).mono ?_
    rintro e w2 ⟨rfl, hO2, hE2⟩
    have hA := hide (hA.out.ext hE2)
    have hE2 := hide (ext_trans hE1.out hE2)
    have hB := hide (show LogR w2 _ l1 from CellsR.of_own hO2)
    clear hO2
    go_wp2_with fail
    refine (specLogBegins_any _ _ hA.out hB.out (by omega) (by omega)).mono ?_
    rintro e w3 ⟨rfl, hE3⟩
    have hE3 := hide (ext_trans hE2.out hE3)
    clear hA hB
    go_wp2_with fail
    refine (toUpdateS_any c0 (hL.out.ext hE3.out) (by omega)).mono ?_
    rintro e w4 ⟨rfl, hO4, hE4⟩
    have hE4 := hide (ext_trans hE3.out hE4)
    have hA := hide (show LogR w4 _ l0 from CellsR.of_own hO4)
    clear hO4
    go_wp2_with fail
    refine (toUpdateS_any c1 (hM.out.ext hE4.out) (by omega)).mono ?_
    rintro e w5 ⟨rfl, hO5, hE5⟩
    have hA := hide (hA.out.ext hE5)
    have hE5 := hide (ext_trans hE4.out hE5)
    have hB := hide (show LogR w5 _ l1 from CellsR.of_own hO5)
    clear hO5
    go_wp2_with fail
    refine (implLogBegins_any _ _ hA.out hB.out (by omega) (by omega)).mono ?_
    rintro e w6 ⟨rfl, hE6⟩
    have hA := hide (hA.out.ext hE6)
    have hB := hide (hB.out.ext hE6)
    have hE6 := hide (ext_trans hE5.out hE6)
    go_wp2_with fail
    refine (toUpdateS_any c0 (hL.out.ext hE6.out) (by omega)).mono ?_
    rintro e w7 ⟨rfl, hO7, hE7⟩
    have hA := hide (hA.out.ext hE7)
    have hB := hide (hB.out.ext hE7)
    have hE7 := hide (ext_trans hE6.out hE7)
    have hY := hide (show LogR w7 _ l0 from CellsR.of_own hO7)
    clear hO7
    go_wp2_with fail
    refine (eqUpdateS_any _ _ hA.out hY.out (by omega) (by omega)).mono ?_
    rintro e w8 ⟨rfl, hE8⟩
    have hB := hide (hB.out.ext hE8)
    have hE8 := hide (ext_trans hE7.out hE8)
    have hd : decide (l0 = l0) = true := by simp
    go_wp2_with fail
    refine (toUpdateS_any c1 (hM.out.ext hE8.out) (by omega)).mono ?_
    rintro e w9 ⟨rfl, hO9, hE9⟩
    have hB := hide (hB.out.ext hE9)
    have hE9 := hide (ext_trans hE8.out hE9)
    have hY := hide (show LogR w9 _ l1 from CellsR.of_own hO9)
    clear hO9
    go_wp2_with fail
    refine (eqUpdateS_any _ _ hB.out hY.out (by omega) (by omega)).mono ?_
    rintro e w10 ⟨rfl, hE10⟩
    have hE10 := hide (ext_trans hE9.out hE10)
    have hd' : decide (l1 = l1) = true := by simp
    go_wp2_with fail
    go_ret
    exact ⟨rfl, hE10.out⟩
theorem fnExactStateValid.walk (a0 : Option Addr) (n0 c0 : Nat) (l0 : List Int) (w : World) (w0 : IntsArg w a0 n0 c0 l0) :
    Calls Try.prog 5 #[.slice a0 n0 c0] w fun e w' => e = .returned (.bool true) ∧ Below w.heap.size w w' := by
  obtain ⟨rfl, hnc, hcm, hL⟩ := w0
  have hL := hide hL
  unfold maxLen at hcm
  by_cases hn : 1048576 < l0.length
  · go_enter Try.func5, Try.ntmps5
    go_wp2
    go_ret
    exact ⟨rfl, ext_refl _⟩
  · go_enter Try.func5, Try.ntmps5
    go_wp2_with fail
    refine (toIntS_any c0 hL.out (by omega)).mono ?_
    rintro e w1 ⟨rfl, hO1, hE1⟩
    have hE1 := hide hE1
    have hA := hide (show IntsR w1 _ l0 from CellsR.of_own hO1)
    clear hO1
    go_wp2_with fail
    refine (specStateValid_any _ hA.out (by omega)).mono ?_
    rintro e w2 ⟨rfl, hE2⟩
    have hE2 := hide (ext_trans hE1.out hE2)
    go_wp2_with fail
    refine (toIntS_any c0 (hL.out.ext hE2.out) (by omega)).mono ?_
    rintro e w3 ⟨rfl, hO3, hE3⟩
    have hX := hide (show IntsR w3 _ l0 from CellsR.of_own hO3)
    have hE3 := hide (ext_trans hE2.out hE3)
    clear hO3
    go_wp2_with fail
    refine (implStateValid_any _ hX.out (by omega)).mono ?_
    rintro e w4 ⟨rfl, hE4⟩
    have hX := hide (hX.out.ext hE4)
    have hE4 := hide (ext_trans hE3.out hE4)
    go_wp2_with fail
    refine (toIntS_any c0 (hL.out.ext hE4.out) (by omega)).mono ?_
    rintro e w5 ⟨rfl, hO5, hE5⟩
    have hX := hide (hX.out.ext hE5)
    have hY := hide (show IntsR w5 _ l0 from CellsR.of_own hO5)
    have hE5 := hide (ext_trans hE4.out hE5)
    clear hO5
    go_wp2_with fail
    refine (eqIntS_any _ _ hX.out hY.out (by omega) (by omega)).mono ?_
    rintro e w6 ⟨rfl, hE6⟩
    have hE6 := hide (ext_trans hE5.out hE6)
    have hd : decide (l0 = l0) = true := by simp
    go_wp2_with fail
    go_ret
    exact ⟨rfl, hE6.out⟩
end Go.Proofs.Ytnbpckaplggkfaa
