/-
  The walk of the law FnExactChainNew: it returns true for every input, and leaves its arguments as they were.
-/
import Derived.Test.YtkmfjiepkdidgaaChain7
import Derived.Test.YtkmfjiepkdidgaaCExact2
import Derived.Test.YtkmfjiepkdidgaaCMark2
import Derived.Test.YtkmfjiepkdidgaaFrame2
import Derived.Test.YtkmfjiepkdidgaaMark2
set_option linter.all false
set_option maxRecDepth 100000
namespace Go.Proofs.Ytkmfjiepkdidgaa
open Go.RowKit
attribute [local go_sem ↓] Go.wp_at_zero Go.wp_at_succ

theorem eqIntS_sm {A B : Option Addr} {l : List Int} (c d : Nat) {w : World} (h : IntsR w A l) (h' : IntsR w B l) (hm : l.length ≤ 1048576) :
    Calls Try.prog 30 #[.slice A l.length c, .slice B l.length d] w fun e w' => e = .returned (.bool true) ∧ Ext w w' :=
  (eqIntS_any c d h h' hm hm).mono fun e w' ⟨h1, h2⟩ => ⟨by rw [h1]; simp, h2⟩
theorem toIntS_row {A : Option Addr} {l : List Int} (c : Nat) {w : World} (h : IntsR w A l) (hm : l.length ≤ 1048576) :
    Calls Try.prog 39 #[.slice A l.length c] w fun e w' => ∃ A' c', e = .returned (.slice A' l.length c') ∧ RowIn w' w.heap.size w'.heap.size 3 1 (.slice A' l.length c') l.length (icells l) ∧ Ext w w' :=
  (toIntS_any c h hm).mono fun e w' ⟨h1, h2, h3⟩ => ⟨_, _, h1, RowIn.of h2, h3⟩
set_option maxHeartbeats 6400000 in
theorem fnExactChainNew.walk (a0 : Option Addr) (n0 c0 : Nat) (l0 : List Int) (w : World) (w0 : IntsArg w a0 n0 c0 l0) :
    Calls Try.prog 12 #[.slice a0 n0 c0] w fun e w' => e = .returned (.bool true) ∧ Below w.heap.size w w' := by
  obtain ⟨rfl, hnc, hcm, hL⟩ := w0
  replace hL := hide hL
  have hL0 := hL
  unfold maxLen at hcm
  have hE := hide (ext_refl w)
  by_cases hn : (1048576 : Int) < (l0.length : Int)
  · go_enter Try.func12, Try.ntmps12
    go_wp2_with fail
    go_ret
    exact ⟨rfl, hE.out⟩
  · have hb : l0.length ≤ 1048576 := by omega
    obtain ⟨rv, rl, rb, hs⟩ := newRes_ex l0
    have hms : bulk rl ≤ 1048576 := Nat.le_trans (newRes_bulk hs) (by omega)
    have hP1 : ∀ (w' : World) (A : Option Addr) (c : Nat), IntsR w' A l0 → Calls Try.prog 36 #[.slice A l0.length c] w' (GotChB w' rv rl rb) := fun w' A c h => specChainNew_any c h hb hs
    replace hP1 := hide hP1
    have hP2 : ∀ (w' : World) (A : Option Addr) (c : Nat), IntsR w' A l0 → Calls Try.prog 35 #[.slice A l0.length c] w' (GotChB w' rv rl rb) := fun w' A c h => implChainNew_any c h hb hs
    replace hP2 := hide hP2
    clear hs
    go_enter Try.func12, Try.ntmps12
    go_wp2_with fail
    refine (toIntS_row c0 hL.out hb).mono ?_
    rintro e w2 ⟨A2, c2, rfl, hO, hF⟩
    have hX := hide (show IntsR w2 _ l0 from CellsR.of_own hO.1)
    clear hO
    have s12 := hF.size
    replace hL := hide (hL.out.ext hF)
    replace hE := hide (ext_trans hE.out hF)
    clear hF
    go_wp2_with fail
    refine (hP1.out _ A2 c2 hX.out).mono ?_
    intro e w3 hG
    obtain ⟨A3, c3, rfl, -, -, hW, hF⟩ := hG.use
    clear hG hX
    have s23 := hF.size
    replace hL := hide (hL.out.ext hF)
    replace hE := hide (ext_trans hE.out hF)
    clear hF
    have W := hide (Blk.newAt (w3) 25 #[.int .i64 rv, .slice A3 rl.length c3] (g := (w3).heap.size) (by simp))
    replace hL := hide (hL.out.ext (ext_alloc (ext_refl (w3)) (.cells #[.int .i64 rv, .slice A3 rl.length c3] 25)))
    replace hW := hide (hW.out.ext (ext_alloc (ext_refl (w3)) (.cells #[.int .i64 rv, .slice A3 rl.length c3] 25)))
    replace hE := hide (ext_alloc hE.out (.cells #[.int .i64 rv, .slice A3 rl.length c3] 25))
    go_wp2_with fail
    refine (toIntS_row c0 hL.out hb).mono ?_
    rintro e w4 ⟨A4, c4, rfl, hO, hF⟩
    have s34 := hF.size
    simp only [World.size_alloc] at s34
    have hX := hide hO
    clear hO
    replace hX := hide (hX.out.wide (show w3.heap.size + 1 ≤ _ by simp) (Nat.le_refl _))
    replace hL := hide (hL.out.ext hF)
    replace hW := hide (hW.out.ext hF)
    replace W := hide (W.out.ext hF)
    try clear W_0 W_1 W_lt
    obtain ⟨W_0, W_1, W_lt⟩ := W.out.at2
    replace hE := hide (ext_trans hE.out hF)
    clear hF
    have hIX := hide (show IntsR w4 _ l0 from CellsR.of_own hX.out.1)
    go_wp2_with fail
    refine (hP2.out _ A4 c4 hIX.out).mono ?_
    intro e w5 hG
    obtain ⟨A5, c5, rfl, -, -, hR, hF⟩ := hG.use
    clear hG hIX
    have s45 := hF.size
    replace hL := hide (hL.out.ext hF)
    replace hW := hide (hW.out.ext hF)
    replace hX := hide (hX.out.ext hF)
    replace W := hide (W.out.ext hF)
    try clear W_0 W_1 W_lt
    obtain ⟨W_0, W_1, W_lt⟩ := W.out.at2
    replace hE := hide (ext_trans hE.out hF)
    clear hF
    have G := hide (Blk.newAt (w5) 25 #[.int .i64 rv, .slice A5 rl.length c5] (g := (w5).heap.size) (by simp))
    replace hL := hide (hL.out.ext (ext_alloc (ext_refl (w5)) (.cells #[.int .i64 rv, .slice A5 rl.length c5] 25)))
    replace hW := hide (hW.out.ext (ext_alloc (ext_refl (w5)) (.cells #[.int .i64 rv, .slice A5 rl.length c5] 25)))
    replace hX := hide (hX.out.ext (ext_alloc (ext_refl (w5)) (.cells #[.int .i64 rv, .slice A5 rl.length c5] 25)))
    replace hR := hide (hR.out.ext (ext_alloc (ext_refl (w5)) (.cells #[.int .i64 rv, .slice A5 rl.length c5] 25)))
    replace W := hide (W.out.ext (ext_alloc (ext_refl (w5)) (.cells #[.int .i64 rv, .slice A5 rl.length c5] 25)))
    replace hE := hide (ext_alloc hE.out (.cells #[.int .i64 rv, .slice A5 rl.length c5] 25))
    go_wp2_with fail
    refine (eqChain_same c5 c3 rv hR.out.read hW.out.read hms).mono ?_
    rintro e w6 ⟨rfl, hF⟩
    have s6 := hF.size
    try simp only [World.size_alloc] at s6
    replace hL := hide (hL.out.ext hF)
    replace hW := hide (hW.out.ext hF)
    replace hX := hide (hX.out.ext hF)
    replace hR := hide (hR.out.ext hF)
    replace W := hide (W.out.ext hF)
    replace G := hide (G.out.ext hF)
    try clear W_0 W_1 W_lt
    obtain ⟨W_0, W_1, W_lt⟩ := W.out.at2
    try clear G_0 G_1 G_lt
    obtain ⟨G_0, G_1, G_lt⟩ := G.out.at2
    replace hE := hide (ext_trans hE.out hF)
    clear hF
    go_wp2_with fail
    refine (toIntS_row c0 hL.out hb).mono ?_
    rintro e w7 ⟨A7, c7, rfl, hO, hF⟩
    have s7 := hF.size
    have hY := hide (show IntsR w7 _ l0 from CellsR.of_own hO.1)
    clear hO
    replace hL := hide (hL.out.ext hF)
    replace hW := hide (hW.out.ext hF)
    replace hX := hide (hX.out.ext hF)
    replace hR := hide (hR.out.ext hF)
    replace W := hide (W.out.ext hF)
    replace G := hide (G.out.ext hF)
    try clear W_0 W_1 W_lt
    obtain ⟨W_0, W_1, W_lt⟩ := W.out.at2
    try clear G_0 G_1 G_lt
    obtain ⟨G_0, G_1, G_lt⟩ := G.out.at2
    replace hE := hide (ext_trans hE.out hF)
    clear hF
    have hIX := hide (show IntsR w7 _ l0 from CellsR.of_own hX.out.1)
    go_wp2_with fail
    refine (eqIntS_sm c4 c7 hIX.out hY.out hb).mono ?_
    rintro e w8 ⟨rfl, hF⟩
    clear hIX hY
    have s8 := hF.size
    replace hL := hide (hL.out.ext hF)
    replace hW := hide (hW.out.ext hF)
    replace hX := hide (hX.out.ext hF)
    replace hR := hide (hR.out.ext hF)
    replace W := hide (W.out.ext hF)
    replace G := hide (G.out.ext hF)
    try clear W_0 W_1 W_lt
    obtain ⟨W_0, W_1, W_lt⟩ := W.out.at2
    try clear G_0 G_1 G_lt
    obtain ⟨G_0, G_1, G_lt⟩ := G.out.at2
    replace hE := hide (ext_trans hE.out hF)
    clear hF
    go_wp2_with fail
    refine (markIntS_any 1 hX.out.1 hb (by omega) (by omega)).mono ?_
    rintro e w9 ⟨rfl, -, hg⟩
    have ht := Turned.of_row hg (fun g hgg => ⟨(hX.out.1.lt g hgg).1, hX.out.2 g hgg⟩)
    clear hg hX hL
    have s9 := ht.size
    replace hW := hide (hW.out.turned ht (by omega))
    replace hR := hide (hR.out.turned ht (by omega))
    replace W := hide (W.out.turned ht (by omega))
    replace G := hide (G.out.turned ht (by omega))
    try clear W_0 W_1 W_lt
    obtain ⟨W_0, W_1, W_lt⟩ := W.out.at2
    try clear G_0 G_1 G_lt
    obtain ⟨G_0, G_1, G_lt⟩ := G.out.at2
    replace hE := hide (Turned.ext hE.out ht (by omega))
    clear ht
    go_wp2_with fail
    refine (eqChain_same c5 c3 rv hR.out.read hW.out.read hms).mono ?_
    rintro e w10 ⟨rfl, hF⟩
    have s10 := hF.size
    try simp only [World.size_alloc] at s10
    replace hW := hide (hW.out.ext hF)
    replace hR := hide (hR.out.ext hF)
    replace W := hide (W.out.ext hF)
    replace G := hide (G.out.ext hF)
    try clear W_0 W_1 W_lt
    obtain ⟨W_0, W_1, W_lt⟩ := W.out.at2
    try clear G_0 G_1 G_lt
    obtain ⟨G_0, G_1, G_lt⟩ := G.out.at2
    replace hE := hide (ext_trans hE.out hF)
    clear hF
    go_wp2_with fail
    refine (markChain_in rv 1 hR.out hms (by omega) (by omega)).mono ?_
    rintro e w11 ⟨rfl, hR', ht⟩
    replace hR' := hide hR'
    clear hR
    have s11 := ht.size
    replace hW := hide (hW.out.turned ht (by omega))
    replace W := hide (W.out.turned ht (by omega))
    replace G := hide (G.out.turned ht (by omega))
    try clear W_0 W_1 W_lt
    obtain ⟨W_0, W_1, W_lt⟩ := W.out.at2
    try clear G_0 G_1 G_lt
    obtain ⟨G_0, G_1, G_lt⟩ := G.out.at2
    replace hE := hide (Turned.ext hE.out ht (by omega))
    clear ht
    go_wp2_with fail
    refine (heldChain_any (ns := rl) (n := rl.length) c5 rv 1 (hide rfl) hR'.out.read hms (by omega) (by omega)).mono ?_
    rintro e w12 ⟨rfl, hF⟩
    replace hW := hide (hW.out.ext hF)
    replace hR' := hide (hR'.out.ext hF)
    replace W := hide (W.out.ext hF)
    replace G := hide (G.out.ext hF)
    try clear W_0 W_1 W_lt
    obtain ⟨W_0, W_1, W_lt⟩ := W.out.at2
    try clear G_0 G_1 G_lt
    obtain ⟨G_0, G_1, G_lt⟩ := G.out.at2
    replace hE := hide (ext_trans hE.out hF)
    clear hF
    have hL := hide (hL0.out.ext hE.out)
    go_wp2_with fail
    refine (toIntS_row c0 hL.out hb).mono ?_
    rintro e w13 ⟨A13, c13, rfl, hO, hF⟩
    have hY := hide (show IntsR w13 _ l0 from CellsR.of_own hO.1)
    clear hO hL
    replace hW := hide (hW.out.ext hF)
    replace hR' := hide (hR'.out.ext hF)
    replace W := hide (W.out.ext hF)
    replace G := hide (G.out.ext hF)
    try clear W_0 W_1 W_lt
    obtain ⟨W_0, W_1, W_lt⟩ := W.out.at2
    try clear G_0 G_1 G_lt
    obtain ⟨G_0, G_1, G_lt⟩ := G.out.at2
    replace hE := hide (ext_trans hE.out hF)
    clear hF
    go_wp2_with fail
    refine (hP2.out _ A13 c13 hY.out).mono ?_
    intro e w14 hG
    obtain ⟨A14, c14, rfl, -, -, hH, hF⟩ := hG.use
    clear hG hY
    replace hW := hide (hW.out.ext hF)
    replace hR' := hide (hR'.out.ext hF)
    replace W := hide (W.out.ext hF)
    replace G := hide (G.out.ext hF)
    try clear W_0 W_1 W_lt
    obtain ⟨W_0, W_1, W_lt⟩ := W.out.at2
    try clear G_0 G_1 G_lt
    obtain ⟨G_0, G_1, G_lt⟩ := G.out.at2
    replace hE := hide (ext_trans hE.out hF)
    clear hF
    have Z := hide (Blk.newAt (w14) 25 #[.int .i64 rv, .slice A14 rl.length c14] (g := (w14).heap.size) (by simp))
    replace hW := hide (hW.out.ext (ext_alloc (ext_refl (w14)) (.cells #[.int .i64 rv, .slice A14 rl.length c14] 25)))
    replace hR' := hide (hR'.out.ext (ext_alloc (ext_refl (w14)) (.cells #[.int .i64 rv, .slice A14 rl.length c14] 25)))
    replace hH := hide (hH.out.ext (ext_alloc (ext_refl (w14)) (.cells #[.int .i64 rv, .slice A14 rl.length c14] 25)))
    replace W := hide (W.out.ext (ext_alloc (ext_refl (w14)) (.cells #[.int .i64 rv, .slice A14 rl.length c14] 25)))
    replace G := hide (G.out.ext (ext_alloc (ext_refl (w14)) (.cells #[.int .i64 rv, .slice A14 rl.length c14] 25)))
    replace hE := hide (ext_alloc hE.out (.cells #[.int .i64 rv, .slice A14 rl.length c14] 25))
    go_wp2_with fail
    refine (eqChain_same c14 c3 rv hH.out.read hW.out.read hms).mono ?_
    rintro e w15 ⟨rfl, hF⟩
    have s15 := hF.size
    try simp only [World.size_alloc] at s15
    replace hW := hide (hW.out.ext hF)
    replace hR' := hide (hR'.out.ext hF)
    replace hH := hide (hH.out.ext hF)
    replace W := hide (W.out.ext hF)
    replace G := hide (G.out.ext hF)
    replace Z := hide (Z.out.ext hF)
    try clear W_0 W_1 W_lt
    obtain ⟨W_0, W_1, W_lt⟩ := W.out.at2
    try clear G_0 G_1 G_lt
    obtain ⟨G_0, G_1, G_lt⟩ := G.out.at2
    try clear Z_0 Z_1 Z_lt
    obtain ⟨Z_0, Z_1, Z_lt⟩ := Z.out.at2
    replace hE := hide (ext_trans hE.out hF)
    clear hF
    go_wp2_with fail
    refine (heldChain_any (ns := rl) (n := rl.length) c5 rv 1 (hide rfl) hR'.out.read hms (by omega) (by omega)).mono ?_
    rintro e w16 ⟨rfl, hF⟩
    replace hE := hide (ext_trans hE.out hF)
    clear hF
    go_wp2_with fail
    go_ret
    exact ⟨rfl, hE.out⟩
end Go.Proofs.Ytkmfjiepkdidgaa
