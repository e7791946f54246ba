/-
  The walk of the law FnExactChainPass over the turned program: it returns true for every input, and leaves its arguments as they were.
-/
import Derived.Test.YtciekjplhbimdaaZChain13
import Derived.Test.YtciekjplhbimdaaZChain14
import Derived.Test.YtciekjplhbimdaaZCExact2
import Derived.Test.YtciekjplhbimdaaZCFrame
import Derived.Test.YtciekjplhbimdaaZCMark2
set_option linter.all false
set_option maxRecDepth 100000
namespace Go.Proofs.YtciekjplhbimdaaZ
open Go.RowKit
attribute [local go_sem ↓] Go.wp_at_zero Go.wp_at_succ

set_option maxHeartbeats 6400000 in
theorem fnExactChainPass.walk (i0 : Int) (a0 : Option Addr) (n0 c0 : Nat) (l0 : List Nd) (at_ : Int) (w : World) (w0 : NodesArg w a0 n0 c0 l0) (w1 : (Lit.int .i64 at_).wf = true) :
    Calls Alt.prog 7 #[.agg #[.int .i64 i0, .slice a0 n0 c0], .int .i64 at_] w fun e w' => e = .returned (.bool true) ∧ Below w.heap.size w w' := by
  obtain ⟨rfl, hnc, hcm, hL⟩ := w0
  replace hL := hide hL
  have hL0 := hL
  unfold maxLen at hcm
  have hE := hide (ext_refl w)
  have P := hide (Blk.newAt (w) 45 #[.int .i64 i0, .slice a0 l0.length c0] (g := w.heap.size) (by simp))
  replace hL := hide (hL.out.ext (ext_alloc (ext_refl (w)) (.cells #[.int .i64 i0, .slice a0 l0.length c0] 45)))
  replace hE := hide (ext_alloc hE.out (.cells #[.int .i64 i0, .slice a0 l0.length c0] 45))
  by_cases hn : (1048576 : Int) < (bulk l0 : Int)
  · go_enter Alt.func7, Try.ntmps7
    go_wp2_with fail
    refine (szChain_no c0 i0 1048576 hL.out (by omega) (by omega) (by omega) hn).mono ?_
    rintro e w1 ⟨rfl, hF⟩
    replace hE := hide (ext_trans hE.out hF)
    clear hF
    go_wp2_with fail
    go_ret
    exact ⟨rfl, hE.out⟩
  · have hb : bulk l0 ≤ 1048576 := by omega
    obtain ⟨rv, rl, rb, hs⟩ := passRes_ex i0 l0 at_
    have hms : bulk rl ≤ 1048576 := passRes_small hs
    have hP1 : ∀ (w' : World) (A : Option Addr) (c : Nat), NodesR w' A l0 → l0.length ≤ c → Calls Alt.prog 17 #[.agg #[.int .i64 i0, .slice A l0.length c], .int .i64 at_] w' (GotChB w' rv rl rb) := fun w' A c h hlc => specChainPass_any c i0 at_ h hb hlc hs
    replace hP1 := hide hP1
    have hP2 : ∀ (w' : World) (A : Option Addr) (c : Nat), NodesR w' A l0 → l0.length ≤ c → Calls Alt.prog 13 #[.agg #[.int .i64 i0, .slice A l0.length c], .int .i64 at_] w' (GotChB w' rv rl rb) := fun w' A c h hlc => implChainPass_any c i0 at_ h hb hs
    replace hP2 := hide hP2
    clear hs
    go_enter Alt.func7, Try.ntmps7
    go_wp2_with fail
    refine (szChain_yes c0 i0 1048576 hL.out (by omega) (by omega)).mono ?_
    rintro e w1 ⟨rfl, hF⟩
    have s01 := hF.size
    simp only [World.size_alloc] at s01
    replace hL := hide (hL.out.ext hF)
    replace P := hide (P.out.ext hF)
    try clear P_0 P_1 P_lt
    obtain ⟨P_0, P_1, P_lt⟩ := P.out.at2
    replace hE := hide (ext_trans hE.out hF)
    clear hF
    go_wp2_with fail
    refine (toChain_any c0 i0 hL.out hb).mono ?_
    intro e w2 hG
    obtain ⟨A2, c2, rfl, hlc2, -, hX, hF⟩ := hG.use
    replace hX := hide hX.out.read
    clear hG
    have s12 := hF.size
    replace hL := hide (hL.out.ext hF)
    replace P := hide (P.out.ext hF)
    try clear P_0 P_1 P_lt
    obtain ⟨P_0, P_1, P_lt⟩ := P.out.at2
    replace hE := hide (ext_trans hE.out hF)
    clear hF
    go_wp2_with fail
    refine (hP1.out _ A2 c2 hX.out hlc2).mono ?_
    intro e w3 hG
    obtain ⟨A3, c3, rfl, -, -, hW, hF⟩ := hG.use
    clear hG hX
    have s23 := hF.size
    replace hL := hide (hL.out.ext hF)
    replace P := hide (P.out.ext hF)
    try clear P_0 P_1 P_lt
    obtain ⟨P_0, P_1, P_lt⟩ := P.out.at2
    replace hE := hide (ext_trans hE.out hF)
    clear hF
    have W := hide (Blk.newAt (w3) 25 #[.int .i64 rv, .slice A3 rl.length c3] (g := (w3).heap.size) (by simp))
    replace hL := hide (hL.out.ext (ext_alloc (ext_refl (w3)) (.cells #[.int .i64 rv, .slice A3 rl.length c3] 25)))
    replace hW := hide (hW.out.ext (ext_alloc (ext_refl (w3)) (.cells #[.int .i64 rv, .slice A3 rl.length c3] 25)))
    replace P := hide (P.out.ext (ext_alloc (ext_refl (w3)) (.cells #[.int .i64 rv, .slice A3 rl.length c3] 25)))
    replace hE := hide (ext_alloc hE.out (.cells #[.int .i64 rv, .slice A3 rl.length c3] 25))
    go_wp2_with fail
    refine (toChain_any c0 i0 hL.out hb).mono ?_
    intro e w4 hG
    obtain ⟨A4, c4, rfl, hlc4, -, hX, hF⟩ := hG.use
    clear hG
    have s34 := hF.size
    replace hX := hide (hX.out.wide (show w3.heap.size + 1 ≤ _ by simp) (Nat.le_refl _))
    simp only [World.size_alloc] at s34
    replace hL := hide (hL.out.ext hF)
    replace hW := hide (hW.out.ext hF)
    replace P := hide (P.out.ext hF)
    replace W := hide (W.out.ext hF)
    try clear P_0 P_1 P_lt
    obtain ⟨P_0, P_1, P_lt⟩ := P.out.at2
    try clear W_0 W_1 W_lt
    obtain ⟨W_0, W_1, W_lt⟩ := W.out.at2
    replace hE := hide (ext_trans hE.out hF)
    clear hF
    have X := hide (Blk.newAt (w4) 25 #[.int .i64 i0, .slice A4 l0.length c4] (g := (w4).heap.size) (by simp))
    replace hL := hide (hL.out.ext (ext_alloc (ext_refl (w4)) (.cells #[.int .i64 i0, .slice A4 l0.length c4] 25)))
    replace hW := hide (hW.out.ext (ext_alloc (ext_refl (w4)) (.cells #[.int .i64 i0, .slice A4 l0.length c4] 25)))
    replace hX := hide (hX.out.ext (ext_alloc (ext_refl (w4)) (.cells #[.int .i64 i0, .slice A4 l0.length c4] 25)))
    replace P := hide (P.out.ext (ext_alloc (ext_refl (w4)) (.cells #[.int .i64 i0, .slice A4 l0.length c4] 25)))
    replace W := hide (W.out.ext (ext_alloc (ext_refl (w4)) (.cells #[.int .i64 i0, .slice A4 l0.length c4] 25)))
    replace hE := hide (ext_alloc hE.out (.cells #[.int .i64 i0, .slice A4 l0.length c4] 25))
    go_wp2_with fail
    refine (hP2.out _ A4 c4 hX.out.read hlc4).mono ?_
    intro e w5 hG
    obtain ⟨A5, c5, rfl, -, -, hR, hF⟩ := hG.use
    clear hG
    have s45 := hF.size
    simp only [World.size_alloc] at s45
    replace hR := hide (hR.out.wide (show w4.heap.size + 1 ≤ _ by simp) (Nat.le_refl _))
    replace hL := hide (hL.out.ext hF)
    replace hW := hide (hW.out.ext hF)
    replace hX := hide (hX.out.ext hF)
    replace P := hide (P.out.ext hF)
    replace W := hide (W.out.ext hF)
    replace X := hide (X.out.ext hF)
    try clear P_0 P_1 P_lt
    obtain ⟨P_0, P_1, P_lt⟩ := P.out.at2
    try clear W_0 W_1 W_lt
    obtain ⟨W_0, W_1, W_lt⟩ := W.out.at2
    try clear X_0 X_1 X_lt
    obtain ⟨X_0, X_1, X_lt⟩ := X.out.at2
    replace hE := hide (ext_trans hE.out hF)
    clear hF
    have G := hide (Blk.newAt (w5) 25 #[.int .i64 rv, .slice A5 rl.length c5] (g := (w5).heap.size) (by simp))
    replace hL := hide (hL.out.ext (ext_alloc (ext_refl (w5)) (.cells #[.int .i64 rv, .slice A5 rl.length c5] 25)))
    replace hW := hide (hW.out.ext (ext_alloc (ext_refl (w5)) (.cells #[.int .i64 rv, .slice A5 rl.length c5] 25)))
    replace hX := hide (hX.out.ext (ext_alloc (ext_refl (w5)) (.cells #[.int .i64 rv, .slice A5 rl.length c5] 25)))
    replace hR := hide (hR.out.ext (ext_alloc (ext_refl (w5)) (.cells #[.int .i64 rv, .slice A5 rl.length c5] 25)))
    replace P := hide (P.out.ext (ext_alloc (ext_refl (w5)) (.cells #[.int .i64 rv, .slice A5 rl.length c5] 25)))
    replace W := hide (W.out.ext (ext_alloc (ext_refl (w5)) (.cells #[.int .i64 rv, .slice A5 rl.length c5] 25)))
    replace X := hide (X.out.ext (ext_alloc (ext_refl (w5)) (.cells #[.int .i64 rv, .slice A5 rl.length c5] 25)))
    replace hE := hide (ext_alloc hE.out (.cells #[.int .i64 rv, .slice A5 rl.length c5] 25))
    go_wp2_with fail
    refine (eqChain_same c5 c3 rv hR.out.read hW.out.read hms).mono ?_
    rintro e w6 ⟨rfl, hF⟩
    have s6 := hF.size
    try simp only [World.size_alloc] at s6
    replace hL := hide (hL.out.ext hF)
    replace hW := hide (hW.out.ext hF)
    replace hX := hide (hX.out.ext hF)
    replace hR := hide (hR.out.ext hF)
    replace P := hide (P.out.ext hF)
    replace W := hide (W.out.ext hF)
    replace X := hide (X.out.ext hF)
    replace G := hide (G.out.ext hF)
    try clear P_0 P_1 P_lt
    obtain ⟨P_0, P_1, P_lt⟩ := P.out.at2
    try clear W_0 W_1 W_lt
    obtain ⟨W_0, W_1, W_lt⟩ := W.out.at2
    try clear X_0 X_1 X_lt
    obtain ⟨X_0, X_1, X_lt⟩ := X.out.at2
    try clear G_0 G_1 G_lt
    obtain ⟨G_0, G_1, G_lt⟩ := G.out.at2
    replace hE := hide (ext_trans hE.out hF)
    clear hF
    go_wp2_with fail
    have hLd := hide (show NodesR w6.drew a0 l0 from hL.out)
    have hXd := hide (show NodesR w6.drew A4 l0 from hX.out.read)
    have bX := hide (show Blk w6.drew w4.heap.size 25 #[.int .i64 i0, .slice A4 l0.length c4] from X.out)
    have bP := hide (show Blk w6.drew w.heap.size 45 #[.int .i64 i0, .slice a0 l0.length c0] from P.out)
    go_region_held3 (fun w' => (w'.cell? ⟨w4.heap.size, 0, none⟩ = some (.int .i64 i0) ∧ w'.cell? ⟨w4.heap.size, 1, none⟩ = some (.slice A4 l0.length c4) ∧ w4.heap.size < w'.heap.size) ∧ (w'.cell? ⟨w.heap.size, 0, none⟩ = some (.int .i64 i0) ∧ w'.cell? ⟨w.heap.size, 1, none⟩ = some (.slice a0 l0.length c0) ∧ w.heap.size < w'.heap.size))
      (first | exact ⟨bX2.at2, bP2.at2⟩ | exact ⟨bX1.at2, bP1.at2⟩ | exact ⟨bX.out.at2, bP.out.at2⟩ | go_keep)
      (first
        | ((go_at_call 23; refine (toChain_any c0 i0 hLd.out hb).mono ?_; intro e w7 hG; obtain ⟨A7, c7, rfl, -, -, hY, hF1⟩ := hG.use; clear hG; have bX1 := bX.out.ext hF1; have bP1 := bP.out.ext hF1))
        | ((go_at_call 24; refine (eqChain_same c4 c7 i0 (hXd.out.ext hF1) hY.out.read hb).mono ?_; rintro e w8 ⟨rfl, hF2⟩; have bX2 := bX1.ext hF2; have bP2 := bP1.ext hF2)))
    have hF : Ext w6 w8 := ext_trans (ext_over (ext_refl w6) hF1 rfl rfl rfl rfl) hF2
    clear hF1 hF2 bX1 bX2 bP1 bP2 bX bP hXd hLd hY
    have s8 := hF.size
    replace hL := hide (hL.out.ext hF)
    replace hW := hide (hW.out.ext hF)
    replace hX := hide (hX.out.ext hF)
    replace hR := hide (hR.out.ext hF)
    replace P := hide (P.out.ext hF)
    replace W := hide (W.out.ext hF)
    replace X := hide (X.out.ext hF)
    replace G := hide (G.out.ext hF)
    try clear P_0 P_1 P_lt
    obtain ⟨P_0, P_1, P_lt⟩ := P.out.at2
    try clear W_0 W_1 W_lt
    obtain ⟨W_0, W_1, W_lt⟩ := W.out.at2
    try clear X_0 X_1 X_lt
    obtain ⟨X_0, X_1, X_lt⟩ := X.out.at2
    try clear G_0 G_1 G_lt
    obtain ⟨G_0, G_1, G_lt⟩ := G.out.at2
    replace hE := hide (ext_trans hE.out hF)
    clear hF
    go_wp2_with fail
    refine (markChain_in i0 1 hX.out hb (by omega) (by omega)).mono ?_
    rintro e w9 ⟨rfl, -, ht⟩
    clear hX hL
    have s9 := ht.size
    replace hW := hide (hW.out.turned ht (by omega))
    replace hR := hide (hR.out.turned ht (by omega))
    replace P := hide (P.out.turned ht (by omega))
    replace W := hide (W.out.turned ht (by omega))
    replace X := hide (X.out.turned ht (by omega))
    replace G := hide (G.out.turned ht (by omega))
    try clear P_0 P_1 P_lt
    obtain ⟨P_0, P_1, P_lt⟩ := P.out.at2
    try clear W_0 W_1 W_lt
    obtain ⟨W_0, W_1, W_lt⟩ := W.out.at2
    try clear X_0 X_1 X_lt
    obtain ⟨X_0, X_1, X_lt⟩ := X.out.at2
    try clear G_0 G_1 G_lt
    obtain ⟨G_0, G_1, G_lt⟩ := G.out.at2
    replace hE := hide (Turned.ext hE.out ht (by omega))
    clear ht
    go_wp2_with fail
    refine (eqChain_same c5 c3 rv hR.out.read hW.out.read hms).mono ?_
    rintro e w10 ⟨rfl, hF⟩
    have s10 := hF.size
    try simp only [World.size_alloc] at s10
    replace hW := hide (hW.out.ext hF)
    replace hR := hide (hR.out.ext hF)
    replace P := hide (P.out.ext hF)
    replace W := hide (W.out.ext hF)
    replace X := hide (X.out.ext hF)
    replace G := hide (G.out.ext hF)
    try clear P_0 P_1 P_lt
    obtain ⟨P_0, P_1, P_lt⟩ := P.out.at2
    try clear W_0 W_1 W_lt
    obtain ⟨W_0, W_1, W_lt⟩ := W.out.at2
    try clear X_0 X_1 X_lt
    obtain ⟨X_0, X_1, X_lt⟩ := X.out.at2
    try clear G_0 G_1 G_lt
    obtain ⟨G_0, G_1, G_lt⟩ := G.out.at2
    replace hE := hide (ext_trans hE.out hF)
    clear hF
    go_wp2_with fail
    refine (markChain_in rv 1 hR.out hms (by omega) (by omega)).mono ?_
    rintro e w11 ⟨rfl, hR', ht⟩
    replace hR' := hide hR'
    clear hR
    have s11 := ht.size
    replace hW := hide (hW.out.turned ht (by omega))
    replace P := hide (P.out.turned ht (by omega))
    replace W := hide (W.out.turned ht (by omega))
    replace X := hide (X.out.turned ht (by omega))
    replace G := hide (G.out.turned ht (by omega))
    try clear P_0 P_1 P_lt
    obtain ⟨P_0, P_1, P_lt⟩ := P.out.at2
    try clear W_0 W_1 W_lt
    obtain ⟨W_0, W_1, W_lt⟩ := W.out.at2
    try clear X_0 X_1 X_lt
    obtain ⟨X_0, X_1, X_lt⟩ := X.out.at2
    try clear G_0 G_1 G_lt
    obtain ⟨G_0, G_1, G_lt⟩ := G.out.at2
    replace hE := hide (Turned.ext hE.out ht (by omega))
    clear ht
    go_wp2_with fail
    refine (heldChain_any (ns := rl) (n := rl.length) c5 rv 1 (hide rfl) hR'.out.read hms (by omega) (by omega)).mono ?_
    rintro e w12 ⟨rfl, hF⟩
    replace hW := hide (hW.out.ext hF)
    replace hR' := hide (hR'.out.ext hF)
    replace P := hide (P.out.ext hF)
    replace W := hide (W.out.ext hF)
    replace X := hide (X.out.ext hF)
    replace G := hide (G.out.ext hF)
    try clear P_0 P_1 P_lt
    obtain ⟨P_0, P_1, P_lt⟩ := P.out.at2
    try clear W_0 W_1 W_lt
    obtain ⟨W_0, W_1, W_lt⟩ := W.out.at2
    try clear X_0 X_1 X_lt
    obtain ⟨X_0, X_1, X_lt⟩ := X.out.at2
    try clear G_0 G_1 G_lt
    obtain ⟨G_0, G_1, G_lt⟩ := G.out.at2
    replace hE := hide (ext_trans hE.out hF)
    clear hF
    have hL := hide (hL0.out.ext hE.out)
    go_wp2_with fail
    refine (toChain_any c0 i0 hL.out hb).mono ?_
    intro e w13 hG
    obtain ⟨A13, c13, rfl, hlc13, -, hY, hF⟩ := hG.use
    replace hY := hide hY.out.read
    clear hG hL
    replace hW := hide (hW.out.ext hF)
    replace hR' := hide (hR'.out.ext hF)
    replace P := hide (P.out.ext hF)
    replace W := hide (W.out.ext hF)
    replace X := hide (X.out.ext hF)
    replace G := hide (G.out.ext hF)
    try clear P_0 P_1 P_lt
    obtain ⟨P_0, P_1, P_lt⟩ := P.out.at2
    try clear W_0 W_1 W_lt
    obtain ⟨W_0, W_1, W_lt⟩ := W.out.at2
    try clear X_0 X_1 X_lt
    obtain ⟨X_0, X_1, X_lt⟩ := X.out.at2
    try clear G_0 G_1 G_lt
    obtain ⟨G_0, G_1, G_lt⟩ := G.out.at2
    replace hE := hide (ext_trans hE.out hF)
    clear hF
    go_wp2_with fail
    refine (hP2.out _ A13 c13 hY.out hlc13).mono ?_
    intro e w14 hG
    obtain ⟨A14, c14, rfl, -, -, hH, hF⟩ := hG.use
    clear hG hY
    replace hW := hide (hW.out.ext hF)
    replace hR' := hide (hR'.out.ext hF)
    replace P := hide (P.out.ext hF)
    replace W := hide (W.out.ext hF)
    replace X := hide (X.out.ext hF)
    replace G := hide (G.out.ext hF)
    try clear P_0 P_1 P_lt
    obtain ⟨P_0, P_1, P_lt⟩ := P.out.at2
    try clear W_0 W_1 W_lt
    obtain ⟨W_0, W_1, W_lt⟩ := W.out.at2
    try clear X_0 X_1 X_lt
    obtain ⟨X_0, X_1, X_lt⟩ := X.out.at2
    try clear G_0 G_1 G_lt
    obtain ⟨G_0, G_1, G_lt⟩ := G.out.at2
    replace hE := hide (ext_trans hE.out hF)
    clear hF
    have Z := hide (Blk.newAt (w14) 25 #[.int .i64 rv, .slice A14 rl.length c14] (g := (w14).heap.size) (by simp))
    replace hW := hide (hW.out.ext (ext_alloc (ext_refl (w14)) (.cells #[.int .i64 rv, .slice A14 rl.length c14] 25)))
    replace hR' := hide (hR'.out.ext (ext_alloc (ext_refl (w14)) (.cells #[.int .i64 rv, .slice A14 rl.length c14] 25)))
    replace hH := hide (hH.out.ext (ext_alloc (ext_refl (w14)) (.cells #[.int .i64 rv, .slice A14 rl.length c14] 25)))
    replace P := hide (P.out.ext (ext_alloc (ext_refl (w14)) (.cells #[.int .i64 rv, .slice A14 rl.length c14] 25)))
    replace W := hide (W.out.ext (ext_alloc (ext_refl (w14)) (.cells #[.int .i64 rv, .slice A14 rl.length c14] 25)))
    replace X := hide (X.out.ext (ext_alloc (ext_refl (w14)) (.cells #[.int .i64 rv, .slice A14 rl.length c14] 25)))
    replace G := hide (G.out.ext (ext_alloc (ext_refl (w14)) (.cells #[.int .i64 rv, .slice A14 rl.length c14] 25)))
    replace hE := hide (ext_alloc hE.out (.cells #[.int .i64 rv, .slice A14 rl.length c14] 25))
    go_wp2_with fail
    refine (eqChain_same c14 c3 rv hH.out.read hW.out.read hms).mono ?_
    rintro e w15 ⟨rfl, hF⟩
    have s15 := hF.size
    try simp only [World.size_alloc] at s15
    replace hW := hide (hW.out.ext hF)
    replace hR' := hide (hR'.out.ext hF)
    replace hH := hide (hH.out.ext hF)
    replace P := hide (P.out.ext hF)
    replace W := hide (W.out.ext hF)
    replace X := hide (X.out.ext hF)
    replace G := hide (G.out.ext hF)
    replace Z := hide (Z.out.ext hF)
    try clear P_0 P_1 P_lt
    obtain ⟨P_0, P_1, P_lt⟩ := P.out.at2
    try clear W_0 W_1 W_lt
    obtain ⟨W_0, W_1, W_lt⟩ := W.out.at2
    try clear X_0 X_1 X_lt
    obtain ⟨X_0, X_1, X_lt⟩ := X.out.at2
    try clear G_0 G_1 G_lt
    obtain ⟨G_0, G_1, G_lt⟩ := G.out.at2
    try clear Z_0 Z_1 Z_lt
    obtain ⟨Z_0, Z_1, Z_lt⟩ := Z.out.at2
    replace hE := hide (ext_trans hE.out hF)
    clear hF
    go_wp2_with fail
    refine (heldChain_any (ns := rl) (n := rl.length) c5 rv 1 (hide rfl) hR'.out.read hms (by omega) (by omega)).mono ?_
    rintro e w16 ⟨rfl, hF⟩
    replace hE := hide (ext_trans hE.out hF)
    clear hF
    go_wp2_with fail
    go_ret
    exact ⟨rfl, hE.out⟩
end Go.Proofs.YtciekjplhbimdaaZ
