/-
  The walk of the law FnExactChainLag: it returns true for every input, and leaves its arguments as they were.
-/
import Derived.Test.YtkmfjiepkdidgaaChain6
import Derived.Test.YtkmfjiepkdidgaaCExact2
import Derived.Test.YtkmfjiepkdidgaaCFrame
import Derived.Test.YtkmfjiepkdidgaaCMark2
import Derived.Test.YtkmfjiepkdidgaaMark2
set_option linter.all false
set_option maxRecDepth 100000
namespace Go.Proofs.Ytkmfjiepkdidgaa
open Go.RowKit
attribute [local go_sem ↓] Go.wp_at_zero Go.wp_at_succ

theorem eqIntS_same {A B : Option Addr} {l : List Int} (c d : Nat) {w : World} (h : IntsR w A l) (h' : IntsR w B l) (hm : l.length ≤ 1048576) :
    Calls Try.prog 30 #[.slice A l.length c, .slice B l.length d] w fun e w' => e = .returned (.bool true) ∧ Ext w w' :=
  (eqIntS_any c d h h' hm hm).mono fun e w' ⟨h1, h2⟩ => ⟨by rw [h1]; simp, h2⟩
theorem gotRowI_in {w w' : World} {xs : List Int} {e : Ending} (h : GotRowI w xs e w') : ∃ A c, e = .returned (.slice A xs.length c) ∧ Hid (RowIn w' w.heap.size w'.heap.size 3 1 (.slice A xs.length c) xs.length (icells xs)) ∧ Ext w w' := by
  obtain ⟨A, c, rfl, -, -, h3, h4⟩ := h
  exact ⟨A, c, rfl, RowIn.of h3, h4⟩
set_option maxHeartbeats 6400000 in
theorem fnExactChainLag.walk (i0 : Int) (a0 : Option Addr) (n0 c0 : Nat) (l0 : List Nd) (w : World) (w0 : NodesArg w a0 n0 c0 l0) :
    Calls Try.prog 10 #[.agg #[.int .i64 i0, .slice a0 n0 c0]] w fun e w' => e = .returned (.bool true) ∧ Below w.heap.size w w' := by
  obtain ⟨rfl, hnc, hcm, hL⟩ := w0
  replace hL := hide hL
  have hL0 := hL
  unfold maxLen at hcm
  have hE := hide (ext_refl w)
  have P := hide (Blk.newAt (w) 38 #[.int .i64 i0, .slice a0 l0.length c0] (g := w.heap.size) (by simp))
  replace hL := hide (hL.out.ext (ext_alloc (ext_refl (w)) (.cells #[.int .i64 i0, .slice a0 l0.length c0] 38)))
  replace hE := hide (ext_alloc hE.out (.cells #[.int .i64 i0, .slice a0 l0.length c0] 38))
  by_cases hn : (1048576 : Int) < (bulk l0 : Int)
  · go_enter Try.func10, Try.ntmps10
    go_wp2_with fail
    refine (szChain_no c0 i0 1048576 hL.out (by omega) (by omega) (by omega) hn).mono ?_
    rintro e w1 ⟨rfl, hF⟩
    replace hE := hide (ext_trans hE.out hF)
    clear hF
    go_wp2_with fail
    go_ret
    exact ⟨rfl, hE.out⟩
  · have hb : bulk l0 ≤ 1048576 := by omega
    obtain ⟨s, hs⟩ := lagRes_ex i0 l0
    have hsl := lagRes_len hs
    have hms : s.length ≤ 1048576 := by omega
    have hP1 : ∀ (w' : World) (A : Option Addr) (c : Nat), NodesR w' A l0 → l0.length ≤ c → Calls Try.prog 22 #[.agg #[.int .i64 i0, .slice A l0.length c]] w' (GotRowI w' s) := fun w' A c h hlc => specChainLag_any c i0 h hb hlc hs
    replace hP1 := hide hP1
    have hP2 : ∀ (w' : World) (A : Option Addr) (c : Nat), NodesR w' A l0 → l0.length ≤ c → Calls Try.prog 21 #[.agg #[.int .i64 i0, .slice A l0.length c]] w' (GotRowI w' s) := fun w' A c h hlc => implChainLag_any c i0 h hb hs
    replace hP2 := hide hP2
    clear hs
    go_enter Try.func10, Try.ntmps10
    go_wp2_with fail
    refine (szChain_yes c0 i0 1048576 hL.out (by omega) (by omega)).mono ?_
    rintro e w1 ⟨rfl, hF⟩
    have s01 := hF.size
    simp only [World.size_alloc] at s01
    replace hL := hide (hL.out.ext hF)
    replace P := hide (P.out.ext hF)
    try clear P_0 P_1 P_lt
    obtain ⟨P_0, P_1, P_lt⟩ := P.out.at2
    replace hE := hide (ext_trans hE.out hF)
    clear hF
    go_wp2_with fail
    refine (toChain_any c0 i0 hL.out hb).mono ?_
    intro e w2 hG
    obtain ⟨A2, c2, rfl, hlc2, -, hX, hF⟩ := hG.use
    replace hX := hide hX.out.read
    clear hG
    have s12 := hF.size
    replace hL := hide (hL.out.ext hF)
    replace P := hide (P.out.ext hF)
    try clear P_0 P_1 P_lt
    obtain ⟨P_0, P_1, P_lt⟩ := P.out.at2
    replace hE := hide (ext_trans hE.out hF)
    clear hF
    go_wp2_with fail
    refine (hP1.out _ A2 c2 hX.out hlc2).mono ?_
    intro e w3 hG
    obtain ⟨A3, c3, rfl, hW, hF⟩ := gotRowI_in hG
    clear hG hX
    have s23 := hF.size
    replace hL := hide (hL.out.ext hF)
    replace P := hide (P.out.ext hF)
    try clear P_0 P_1 P_lt
    obtain ⟨P_0, P_1, P_lt⟩ := P.out.at2
    replace hE := hide (ext_trans hE.out hF)
    clear hF
    go_wp2_with fail
    refine (toChain_any c0 i0 hL.out hb).mono ?_
    intro e w4 hG
    obtain ⟨A4, c4, rfl, hlc4, -, hX, hF⟩ := hG.use
    clear hG
    have s34 := hF.size
    replace hX := hide (hX.out.wide (show w3.heap.size ≤ _ by simp) (Nat.le_refl _))
    replace hL := hide (hL.out.ext hF)
    replace hW := hide (hW.out.ext hF)
    replace P := hide (P.out.ext hF)
    try clear P_0 P_1 P_lt
    obtain ⟨P_0, P_1, P_lt⟩ := P.out.at2
    replace hE := hide (ext_trans hE.out hF)
    clear hF
    have X := hide (Blk.newAt (w4) 25 #[.int .i64 i0, .slice A4 l0.length c4] (g := (w4).heap.size) (by simp))
    replace hL := hide (hL.out.ext (ext_alloc (ext_refl (w4)) (.cells #[.int .i64 i0, .slice A4 l0.length c4] 25)))
    replace hW := hide (hW.out.ext (ext_alloc (ext_refl (w4)) (.cells #[.int .i64 i0, .slice A4 l0.length c4] 25)))
    replace hX := hide (hX.out.ext (ext_alloc (ext_refl (w4)) (.cells #[.int .i64 i0, .slice A4 l0.length c4] 25)))
    replace P := hide (P.out.ext (ext_alloc (ext_refl (w4)) (.cells #[.int .i64 i0, .slice A4 l0.length c4] 25)))
    replace hE := hide (ext_alloc hE.out (.cells #[.int .i64 i0, .slice A4 l0.length c4] 25))
    go_wp2_with fail
    refine (hP2.out _ A4 c4 hX.out.read hlc4).mono ?_
    intro e w5 hG
    obtain ⟨A5, c5, rfl, hR, hF⟩ := gotRowI_in hG
    clear hG
    have s45 := hF.size
    simp only [World.size_alloc] at s45
    replace hR := hide (hR.out.wide (show w4.heap.size + 1 ≤ _ by simp) (Nat.le_refl _))
    replace hL := hide (hL.out.ext hF)
    replace hW := hide (hW.out.ext hF)
    replace hX := hide (hX.out.ext hF)
    replace P := hide (P.out.ext hF)
    replace X := hide (X.out.ext hF)
    try clear P_0 P_1 P_lt
    obtain ⟨P_0, P_1, P_lt⟩ := P.out.at2
    try clear X_0 X_1 X_lt
    obtain ⟨X_0, X_1, X_lt⟩ := X.out.at2
    replace hE := hide (ext_trans hE.out hF)
    clear hF
    go_wp2_with fail
    refine (eqIntS_same c5 c3 (CellsR.of_own hR.out.1) (CellsR.of_own hW.out.1) hms).mono ?_
    rintro e w6 ⟨rfl, hF⟩
    have s6 := hF.size
    try simp only [World.size_alloc] at s6
    replace hL := hide (hL.out.ext hF)
    replace hW := hide (hW.out.ext hF)
    replace hX := hide (hX.out.ext hF)
    replace hR := hide (hR.out.ext hF)
    replace P := hide (P.out.ext hF)
    replace X := hide (X.out.ext hF)
    try clear P_0 P_1 P_lt
    obtain ⟨P_0, P_1, P_lt⟩ := P.out.at2
    try clear X_0 X_1 X_lt
    obtain ⟨X_0, X_1, X_lt⟩ := X.out.at2
    replace hE := hide (ext_trans hE.out hF)
    clear hF
    go_wp2_with fail
    have hLd := hide (show NodesR w6.drew a0 l0 from hL.out)
    have hXd := hide (show NodesR w6.drew A4 l0 from hX.out.read)
    have bX := hide (show Blk w6.drew w4.heap.size 25 #[.int .i64 i0, .slice A4 l0.length c4] from X.out)
    have bP := hide (show Blk w6.drew w.heap.size 38 #[.int .i64 i0, .slice a0 l0.length c0] from P.out)
    go_region_held3 (fun w' => (w'.cell? ⟨w4.heap.size, 0, none⟩ = some (.int .i64 i0) ∧ w'.cell? ⟨w4.heap.size, 1, none⟩ = some (.slice A4 l0.length c4) ∧ w4.heap.size < w'.heap.size) ∧ (w'.cell? ⟨w.heap.size, 0, none⟩ = some (.int .i64 i0) ∧ w'.cell? ⟨w.heap.size, 1, none⟩ = some (.slice a0 l0.length c0) ∧ w.heap.size < w'.heap.size))
      (first | exact ⟨bX2.at2, bP2.at2⟩ | exact ⟨bX1.at2, bP1.at2⟩ | exact ⟨bX.out.at2, bP.out.at2⟩ | go_keep)
      (first
        | ((go_at_call 28; refine (toChain_any c0 i0 hLd.out hb).mono ?_; intro e w7 hG; obtain ⟨A7, c7, rfl, -, -, hY, hF1⟩ := hG.use; clear hG; have bX1 := bX.out.ext hF1; have bP1 := bP.out.ext hF1))
        | ((go_at_call 29; refine (eqChain_same c4 c7 i0 (hXd.out.ext hF1) hY.out.read hb).mono ?_; rintro e w8 ⟨rfl, hF2⟩; have bX2 := bX1.ext hF2; have bP2 := bP1.ext hF2)))
    have hF : Ext w6 w8 := ext_trans (ext_over (ext_refl w6) hF1 rfl rfl rfl rfl) hF2
    clear hF1 hF2 bX1 bX2 bP1 bP2 bX bP hXd hLd hY
    have s8 := hF.size
    replace hL := hide (hL.out.ext hF)
    replace hW := hide (hW.out.ext hF)
    replace hX := hide (hX.out.ext hF)
    replace hR := hide (hR.out.ext hF)
    replace P := hide (P.out.ext hF)
    replace X := hide (X.out.ext hF)
    try clear P_0 P_1 P_lt
    obtain ⟨P_0, P_1, P_lt⟩ := P.out.at2
    try clear X_0 X_1 X_lt
    obtain ⟨X_0, X_1, X_lt⟩ := X.out.at2
    replace hE := hide (ext_trans hE.out hF)
    clear hF
    go_wp2_with fail
    refine (markChain_in i0 1 hX.out hb (by omega) (by omega)).mono ?_
    rintro e w9 ⟨rfl, -, ht⟩
    clear hX hL
    have s9 := ht.size
    replace hW := hide (hW.out.turned ht (by omega))
    replace hR := hide (hR.out.turned ht (by omega))
    replace P := hide (P.out.turned ht (by omega))
    replace X := hide (X.out.turned ht (by omega))
    try clear P_0 P_1 P_lt
    obtain ⟨P_0, P_1, P_lt⟩ := P.out.at2
    try clear X_0 X_1 X_lt
    obtain ⟨X_0, X_1, X_lt⟩ := X.out.at2
    replace hE := hide (Turned.ext hE.out ht (by omega))
    clear ht
    go_wp2_with fail
    refine (eqIntS_same c5 c3 (CellsR.of_own hR.out.1) (CellsR.of_own hW.out.1) hms).mono ?_
    rintro e w10 ⟨rfl, hF⟩
    have s10 := hF.size
    try simp only [World.size_alloc] at s10
    replace hW := hide (hW.out.ext hF)
    replace hR := hide (hR.out.ext hF)
    replace P := hide (P.out.ext hF)
    replace X := hide (X.out.ext hF)
    try clear P_0 P_1 P_lt
    obtain ⟨P_0, P_1, P_lt⟩ := P.out.at2
    try clear X_0 X_1 X_lt
    obtain ⟨X_0, X_1, X_lt⟩ := X.out.at2
    replace hE := hide (ext_trans hE.out hF)
    clear hF
    go_wp2_with fail
    refine (markIntS_any 1 hR.out.1 hms (by omega) (by omega)).mono ?_
    rintro e w11 ⟨rfl, hR', hg⟩
    have ht := Turned.of_row hg (fun g hgg => ⟨(hR.out.1.lt g hgg).1, hR.out.2 g hgg⟩)
    replace hR' := hide (show RowIn w11 _ _ 3 1 _ _ _ from ⟨hR', hR.out.2⟩)
    clear hg
    clear hR
    have s11 := ht.size
    replace hW := hide (hW.out.turned ht (by omega))
    replace P := hide (P.out.turned ht (by omega))
    replace X := hide (X.out.turned ht (by omega))
    try clear P_0 P_1 P_lt
    obtain ⟨P_0, P_1, P_lt⟩ := P.out.at2
    try clear X_0 X_1 X_lt
    obtain ⟨X_0, X_1, X_lt⟩ := X.out.at2
    replace hE := hide (Turned.ext hE.out ht (by omega))
    clear ht
    go_wp2_with fail
    refine (heldIntS_any s.length c5 1 (CellsR.of_own hR'.out.1) hms (by omega) (by omega)).mono ?_
    rintro e w12 ⟨rfl, rfl⟩
    have hL := hide (hL0.out.ext hE.out)
    go_wp2_with fail
    refine (toChain_any c0 i0 hL.out hb).mono ?_
    intro e w13 hG
    obtain ⟨A13, c13, rfl, hlc13, -, hY, hF⟩ := hG.use
    replace hY := hide hY.out.read
    clear hG hL
    replace hW := hide (hW.out.ext hF)
    replace hR' := hide (hR'.out.ext hF)
    replace P := hide (P.out.ext hF)
    replace X := hide (X.out.ext hF)
    try clear P_0 P_1 P_lt
    obtain ⟨P_0, P_1, P_lt⟩ := P.out.at2
    try clear X_0 X_1 X_lt
    obtain ⟨X_0, X_1, X_lt⟩ := X.out.at2
    replace hE := hide (ext_trans hE.out hF)
    clear hF
    go_wp2_with fail
    refine (hP2.out _ A13 c13 hY.out hlc13).mono ?_
    intro e w14 hG
    obtain ⟨A14, c14, rfl, hH, hF⟩ := gotRowI_in hG
    clear hG hY
    replace hW := hide (hW.out.ext hF)
    replace hR' := hide (hR'.out.ext hF)
    replace P := hide (P.out.ext hF)
    replace X := hide (X.out.ext hF)
    try clear P_0 P_1 P_lt
    obtain ⟨P_0, P_1, P_lt⟩ := P.out.at2
    try clear X_0 X_1 X_lt
    obtain ⟨X_0, X_1, X_lt⟩ := X.out.at2
    replace hE := hide (ext_trans hE.out hF)
    clear hF
    go_wp2_with fail
    refine (eqIntS_same c14 c3 (CellsR.of_own hH.out.1) (CellsR.of_own hW.out.1) hms).mono ?_
    rintro e w15 ⟨rfl, hF⟩
    have s15 := hF.size
    try simp only [World.size_alloc] at s15
    replace hW := hide (hW.out.ext hF)
    replace hR' := hide (hR'.out.ext hF)
    replace hH := hide (hH.out.ext hF)
    replace P := hide (P.out.ext hF)
    replace X := hide (X.out.ext hF)
    try clear P_0 P_1 P_lt
    obtain ⟨P_0, P_1, P_lt⟩ := P.out.at2
    try clear X_0 X_1 X_lt
    obtain ⟨X_0, X_1, X_lt⟩ := X.out.at2
    replace hE := hide (ext_trans hE.out hF)
    clear hF
    go_wp2_with fail
    refine (heldIntS_any s.length c5 1 (CellsR.of_own hR'.out.1) hms (by omega) (by omega)).mono ?_
    rintro e w16 ⟨rfl, rfl⟩
    go_wp2_with fail
    go_ret
    exact ⟨rfl, hE.out⟩
end Go.Proofs.Ytkmfjiepkdidgaa
