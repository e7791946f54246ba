/-
  The walks of the laws FnExactNodeValid, FnExactNodePending, FnExactNodeAck: each returns true for every input, and leaves its arguments as they were.
-/
import Derived.Test.YthhlimpmjmnmfaaW14
import Derived.Test.YthhlimpmjmnmfaaNFrame
set_option linter.all false
namespace Go.Proofs.Ythhlimpmjmnmfaa
open Go.RowKit
attribute [local go_sem ↓] Go.wp_at_zero Go.wp_at_succ

theorem eqNode_same {A B : Option Addr} {l : List Upd} (c d : Nat) (i j : Int) {w : World} (h : LogR w A l) (h' : LogR w B l) (hm : l.length ≤ 1048576) :
    Calls Try.prog 19 #[.agg #[.int .i64 i, .slice A l.length c, .int .i64 j], .agg #[.int .i64 i, .slice B l.length d, .int .i64 j]] w fun e w' => e = .returned (.bool true) ∧ Ext w w' :=
  (eqNode_any c d i j i j h h' hm hm).mono fun e w' ⟨h1, h2⟩ => ⟨by rw [h1]; simp, h2⟩
theorem eqUpdateS_same {A B : Option Addr} {l : List Upd} (c d : Nat) {w : World} (h : LogR w A l) (h' : LogR w B l) (hm : l.length ≤ 1048576) :
    Calls Try.prog 28 #[.slice A l.length c, .slice B l.length d] w fun e w' => e = .returned (.bool true) ∧ Ext w w' :=
  (eqUpdateS_any c d h h' hm hm).mono fun e w' ⟨h1, h2⟩ => ⟨by rw [h1]; simp, h2⟩

set_option maxHeartbeats 1600000 in
theorem fnExactNodeValid.walk (i0 : Int) (a0 : Option Addr) (n0 c0 : Nat) (j0 : Int) (l0 : List Upd) (w : World) (w0 : UpdsArg w a0 n0 c0 l0) :
    Calls Try.prog 4 #[.agg #[.int .i64 i0, .slice a0 n0 c0, .int .i64 j0]] w fun e w' => e = .returned (.bool true) ∧ Below w.heap.size w w' := by
  obtain ⟨rfl, hnc, hcm, hL⟩ := w0
  replace hL := hide hL
  unfold maxLen at hcm
  have hE := hide (ext_refl w)
  have P := hide (Blk.newAt (w) 31 #[.int .i64 i0, .slice a0 l0.length c0, .int .i64 j0] (g := w.heap.size) (by simp))
  replace hL := hide (hL.out.ext (ext_alloc (ext_refl (w)) (.cells #[.int .i64 i0, .slice a0 l0.length c0, .int .i64 j0] 31)))
  replace hE := hide (ext_alloc hE.out (.cells #[.int .i64 i0, .slice a0 l0.length c0, .int .i64 j0] 31))
  by_cases hn : 1048576 < l0.length
  · go_enter Try.func4, Try.ntmps4
    go_wp2_with fail
    refine (szNode_no i0 j0 l0.length c0 1048576 _ (by omega) (by omega) (by omega) (by omega)).mono ?_
    rintro e w1 ⟨rfl, hF⟩
    replace hE := hide (ext_trans hE.out hF)
    clear hF
    go_wp2_with fail
    go_ret
    exact ⟨rfl, hE.out⟩
  · go_enter Try.func4, Try.ntmps4
    go_wp2_with fail
    refine (szNode_yes i0 j0 l0.length c0 1048576 _ (by omega) (by omega) (by omega)).mono ?_
    rintro e w1 ⟨rfl, hF⟩
    have hm : l0.length ≤ 1048576 := by omega
    replace hL := hide (hL.out.ext hF)
    replace P := hide (P.out.ext hF)
    try clear P_0 P_1 P_2 P_lt
    obtain ⟨P_0, P_1, P_2, P_lt⟩ := P.out.at3
    replace hE := hide (ext_trans hE.out hF)
    clear hF
    go_wp2_with fail
    refine (toNode_any c0 i0 j0 hL.out hm).mono ?_
    intro e w2 hG
    obtain ⟨A2, c2, rfl, hlc2, -, hX, hF⟩ := hG.use
    replace hX := hide hX.out.log
    clear hG
    replace hL := hide (hL.out.ext hF)
    replace P := hide (P.out.ext hF)
    try clear P_0 P_1 P_2 P_lt
    obtain ⟨P_0, P_1, P_2, P_lt⟩ := P.out.at3
    replace hE := hide (ext_trans hE.out hF)
    clear hF
    go_wp2_with fail
    refine (specNodeValid_any c2 i0 j0 hX.out hm).mono ?_
    rintro e w3 ⟨rfl, hF⟩
    clear hX
    replace hL := hide (hL.out.ext hF)
    replace P := hide (P.out.ext hF)
    try clear P_0 P_1 P_2 P_lt
    obtain ⟨P_0, P_1, P_2, P_lt⟩ := P.out.at3
    replace hE := hide (ext_trans hE.out hF)
    clear hF
    go_wp2_with fail
    refine (toNode_any c0 i0 j0 hL.out hm).mono ?_
    intro e w4 hG
    obtain ⟨A4, c4, rfl, -, -, hX, hF⟩ := hG.use
    replace hX := hide hX.out.log
    clear hG
    replace hL := hide (hL.out.ext hF)
    replace P := hide (P.out.ext hF)
    try clear P_0 P_1 P_2 P_lt
    obtain ⟨P_0, P_1, P_2, P_lt⟩ := P.out.at3
    replace hE := hide (ext_trans hE.out hF)
    clear hF
    have X := hide (Blk.newAt (w4) 25 #[.int .i64 i0, .slice A4 l0.length c4, .int .i64 j0] (g := (w4).heap.size) (by simp))
    replace hL := hide (hL.out.ext (ext_alloc (ext_refl (w4)) (.cells #[.int .i64 i0, .slice A4 l0.length c4, .int .i64 j0] 25)))
    replace hX := hide (hX.out.ext (ext_alloc (ext_refl (w4)) (.cells #[.int .i64 i0, .slice A4 l0.length c4, .int .i64 j0] 25)))
    replace P := hide (P.out.ext (ext_alloc (ext_refl (w4)) (.cells #[.int .i64 i0, .slice A4 l0.length c4, .int .i64 j0] 25)))
    replace hE := hide (ext_alloc hE.out (.cells #[.int .i64 i0, .slice A4 l0.length c4, .int .i64 j0] 25))
    go_wp2_with fail
    refine (implNodeValid_any c4 i0 j0 hX.out hm).mono ?_
    rintro e w5 ⟨rfl, hF⟩
    replace hL := hide (hL.out.ext hF)
    replace hX := hide (hX.out.ext hF)
    replace P := hide (P.out.ext hF)
    replace X := hide (X.out.ext hF)
    try clear P_0 P_1 P_2 P_lt
    obtain ⟨P_0, P_1, P_2, P_lt⟩ := P.out.at3
    try clear X_0 X_1 X_2 X_lt
    obtain ⟨X_0, X_1, X_2, X_lt⟩ := X.out.at3
    replace hE := hide (ext_trans hE.out hF)
    clear hF
    obtain ⟨v, hv⟩ : ∃ v, ndOk ⟨i0, l0, j0⟩ = v := ⟨_, rfl⟩
    rw [hv]
    clear hv
    go_wp2_with fail
    have hLd := hide (show LogR w5.drew a0 l0 from hL.out)
    have hXd := hide (show LogR w5.drew A4 l0 from hX.out)
    have hEd := hide (show Ext w w5.drew from ext_drew hE.out)
    have bX := hide (show Blk w5.drew w4.heap.size 25 #[.int .i64 i0, .slice A4 l0.length c4, .int .i64 j0] from X.out)
    have bP := hide (show Blk w5.drew w.heap.size 31 #[.int .i64 i0, .slice a0 l0.length c0, .int .i64 j0] from P.out)
    go_region_held3 (fun w' => (w'.cell? ⟨w4.heap.size, 0, none⟩ = some (.int .i64 i0) ∧ w'.cell? ⟨w4.heap.size, 1, none⟩ = some (.slice A4 l0.length c4) ∧ w'.cell? ⟨w4.heap.size, 2, none⟩ = some (.int .i64 j0) ∧ w4.heap.size < w'.heap.size) ∧ (w'.cell? ⟨w.heap.size, 0, none⟩ = some (.int .i64 i0) ∧ w'.cell? ⟨w.heap.size, 1, none⟩ = some (.slice a0 l0.length c0) ∧ w'.cell? ⟨w.heap.size, 2, none⟩ = some (.int .i64 j0) ∧ w.heap.size < w'.heap.size))
      (first | exact ⟨bX2.at3, bP2.at3⟩ | exact ⟨bX1.at3, bP1.at3⟩ | exact ⟨bX.out.at3, bP.out.at3⟩ | go_keep)
      (first
        | ((go_at_call 18; refine (toNode_any c0 i0 j0 hLd.out hm).mono ?_; intro e w6 hG; obtain ⟨A6, c6, rfl, -, -, hY, hF1⟩ := hG.use; clear hG; have bX1 := bX.out.ext hF1; have bP1 := bP.out.ext hF1))
        | ((go_at_call 19; refine (eqNode_same c4 c6 i0 j0 (hXd.out.ext hF1) hY.out.log hm).mono ?_; rintro e w7 ⟨rfl, hF2⟩; have bX2 := bX1.ext hF2; have bP2 := bP1.ext hF2)))
    have fin := hide (ext_trans (ext_trans hEd.out hF1) hF2)
    clear hF1 hF2
    go_wp2_with fail
    go_ret
    exact ⟨rfl, fin.out⟩
end Go.Proofs.Ythhlimpmjmnmfaa
