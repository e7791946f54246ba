/-
  The walk of the law FnExactChainRead: it returns true for every input, and leaves its arguments as they were.
-/
import Derived.Test.YtkmfjiepkdidgaaChain5
import Derived.Test.YtkmfjiepkdidgaaCExact2
import Derived.Test.YtkmfjiepkdidgaaCFrame
set_option linter.all false
set_option maxRecDepth 100000
namespace Go.Proofs.Ytkmfjiepkdidgaa
open Go.RowKit
attribute [local go_sem ↓] Go.wp_at_zero Go.wp_at_succ

set_option maxHeartbeats 3200000 in
theorem fnExactChainRead.walk (i0 : Int) (a0 : Option Addr) (n0 c0 : Nat) (l0 : List Nd) (key : Int) (w : World) (w0 : NodesArg w a0 n0 c0 l0) (w1 : (Lit.int .i64 key).wf = true) :
    Calls Try.prog 14 #[.agg #[.int .i64 i0, .slice a0 n0 c0], .int .i64 key] w fun e w' => e = .returned (.bool true) ∧ Below w.heap.size w w' := by
  obtain ⟨rfl, hnc, hcm, hL⟩ := w0
  replace hL := hide hL
  unfold maxLen at hcm
  have hE := hide (ext_refl w)
  have P := hide (Blk.newAt (w) 38 #[.int .i64 i0, .slice a0 l0.length c0] (g := w.heap.size) (by simp))
  replace hL := hide (hL.out.ext (ext_alloc (ext_refl (w)) (.cells #[.int .i64 i0, .slice a0 l0.length c0] 38)))
  replace hE := hide (ext_alloc hE.out (.cells #[.int .i64 i0, .slice a0 l0.length c0] 38))
  by_cases hn : (1048576 : Int) < (bulk l0 : Int)
  · go_enter Try.func14, Try.ntmps14
    go_wp2_with fail
    refine (szChain_no c0 i0 1048576 hL.out (by omega) (by omega) (by omega) hn).mono ?_
    rintro e w1 ⟨rfl, hF⟩
    replace hE := hide (ext_trans hE.out hF)
    clear hF
    go_wp2_with fail
    go_ret
    exact ⟨rfl, hE.out⟩
  · have hb : bulk l0 ≤ 1048576 := by omega
    obtain ⟨r, b, hr⟩ := rdRes_ex i0 l0 key
    have hP1 : ∀ (w' : World) (A : Option Addr) (c : Nat), NodesR w' A l0 → l0.length ≤ c → Calls Try.prog 42 #[.agg #[.int .i64 i0, .slice A l0.length c], .int .i64 key] w' (fun e w'' => e = .returned (.tuple #[.int .i64 r, .bool b]) ∧ Ext w' w'') := fun w' A c h hlc => specChainRead_any c i0 key r b h hb hlc hr
    replace hP1 := hide hP1
    have hP2 : ∀ (w' : World) (A : Option Addr) (c : Nat), NodesR w' A l0 → l0.length ≤ c → Calls Try.prog 38 #[.agg #[.int .i64 i0, .slice A l0.length c], .int .i64 key] w' (fun e w'' => e = .returned (.tuple #[.int .i64 r, .bool b]) ∧ Ext w' w'') := fun w' A c h hlc => implChainRead_any c i0 key r b h hb hr
    replace hP2 := hide hP2
    clear hr
    go_enter Try.func14, Try.ntmps14
    go_wp2_with fail
    refine (szChain_yes c0 i0 1048576 hL.out (by omega) (by omega)).mono ?_
    rintro e w1 ⟨rfl, hF⟩
    replace hL := hide (hL.out.ext hF)
    replace P := hide (P.out.ext hF)
    try clear P_0 P_1 P_lt
    obtain ⟨P_0, P_1, P_lt⟩ := P.out.at2
    replace hE := hide (ext_trans hE.out hF)
    clear hF
    go_wp2_with fail
    refine (toChain_any c0 i0 hL.out hb).mono ?_
    intro e w2 hG
    obtain ⟨A2, c2, rfl, hlc2, -, hX, hF⟩ := hG.use
    replace hX := hide hX.out.read
    clear hG
    replace hL := hide (hL.out.ext hF)
    replace P := hide (P.out.ext hF)
    try clear P_0 P_1 P_lt
    obtain ⟨P_0, P_1, P_lt⟩ := P.out.at2
    replace hE := hide (ext_trans hE.out hF)
    clear hF
    go_wp2_with fail
    refine (hP1.out _ A2 c2 hX.out hlc2).mono ?_
    rintro e w3 ⟨rfl, hF⟩
    clear hX
    replace hL := hide (hL.out.ext hF)
    replace P := hide (P.out.ext hF)
    try clear P_0 P_1 P_lt
    obtain ⟨P_0, P_1, P_lt⟩ := P.out.at2
    replace hE := hide (ext_trans hE.out hF)
    clear hF
    go_wp2_with fail
    refine (toChain_any c0 i0 hL.out hb).mono ?_
    intro e w4 hG
    obtain ⟨A4, c4, rfl, hlc4, -, hX, hF⟩ := hG.use
    replace hX := hide hX.out.read
    clear hG
    replace hL := hide (hL.out.ext hF)
    replace P := hide (P.out.ext hF)
    try clear P_0 P_1 P_lt
    obtain ⟨P_0, P_1, P_lt⟩ := P.out.at2
    replace hE := hide (ext_trans hE.out hF)
    clear hF
    have X := hide (Blk.newAt (w4) 25 #[.int .i64 i0, .slice A4 l0.length c4] (g := (w4).heap.size) (by simp))
    replace hL := hide (hL.out.ext (ext_alloc (ext_refl (w4)) (.cells #[.int .i64 i0, .slice A4 l0.length c4] 25)))
    replace hX := hide (hX.out.ext (ext_alloc (ext_refl (w4)) (.cells #[.int .i64 i0, .slice A4 l0.length c4] 25)))
    replace P := hide (P.out.ext (ext_alloc (ext_refl (w4)) (.cells #[.int .i64 i0, .slice A4 l0.length c4] 25)))
    replace hE := hide (ext_alloc hE.out (.cells #[.int .i64 i0, .slice A4 l0.length c4] 25))
    go_wp2_with fail
    refine (hP2.out _ A4 c4 hX.out hlc4).mono ?_
    rintro e w5 ⟨rfl, hF⟩
    replace hL := hide (hL.out.ext hF)
    replace hX := hide (hX.out.ext hF)
    replace P := hide (P.out.ext hF)
    replace X := hide (X.out.ext hF)
    try clear P_0 P_1 P_lt
    obtain ⟨P_0, P_1, P_lt⟩ := P.out.at2
    try clear X_0 X_1 X_lt
    obtain ⟨X_0, X_1, X_lt⟩ := X.out.at2
    replace hE := hide (ext_trans hE.out hF)
    clear hF
    go_wp2_with fail
    have hLd := hide (show NodesR w5.drew a0 l0 from hL.out)
    have hXd := hide (show NodesR w5.drew A4 l0 from hX.out)
    have hEd := hide (show Ext w w5.drew from ext_drew hE.out)
    have bX := hide (show Blk w5.drew w4.heap.size 25 #[.int .i64 i0, .slice A4 l0.length c4] from X.out)
    have bP := hide (show Blk w5.drew w.heap.size 38 #[.int .i64 i0, .slice a0 l0.length c0] from P.out)
    go_region_held3 (fun w' => (w'.cell? ⟨w4.heap.size, 0, none⟩ = some (.int .i64 i0) ∧ w'.cell? ⟨w4.heap.size, 1, none⟩ = some (.slice A4 l0.length c4) ∧ w4.heap.size < w'.heap.size) ∧ (w'.cell? ⟨w.heap.size, 0, none⟩ = some (.int .i64 i0) ∧ w'.cell? ⟨w.heap.size, 1, none⟩ = some (.slice a0 l0.length c0) ∧ w.heap.size < w'.heap.size))
      (first | exact ⟨bX2.at2, bP2.at2⟩ | exact ⟨bX1.at2, bP1.at2⟩ | exact ⟨bX.out.at2, bP.out.at2⟩ | go_keep)
      (first
        | ((go_at_call 28; refine (toChain_any c0 i0 hLd.out hb).mono ?_; intro e w6 hG; obtain ⟨A6, c6, rfl, -, -, hY, hF1⟩ := hG.use; clear hG; have bX1 := bX.out.ext hF1; have bP1 := bP.out.ext hF1))
        | ((go_at_call 29; refine (eqChain_same c4 c6 i0 (hXd.out.ext hF1) hY.out.read hb).mono ?_; rintro e w7 ⟨rfl, hF2⟩; have bX2 := bX1.ext hF2; have bP2 := bP1.ext hF2)))
    have fin := hide (ext_trans (ext_trans hEd.out hF1) hF2)
    clear hF1 hF2 bX1 bX2 bP1 bP2
    go_wp2_with fail
    go_ret
    exact ⟨rfl, fin.out⟩
end Go.Proofs.Ytkmfjiepkdidgaa
