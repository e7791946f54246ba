/-
  The walks of the laws FnExactNodePending, FnExactNodeAck: each returns true for every input, and leaves its arguments as they were.
-/
import Derived.Test.YthhlimpmjmnmfaaW15
set_option linter.all false
namespace Go.Proofs.Ythhlimpmjmnmfaa
open Go.RowKit
attribute [local go_sem ↓] Go.wp_at_zero Go.wp_at_succ

set_option maxHeartbeats 6400000 in
theorem fnExactNodePending.walk (i0 : Int) (a0 : Option Addr) (n0 c0 : Nat) (j0 : Int) (l0 : List Upd) (w : World) (w0 : UpdsArg w a0 n0 c0 l0) :
    Calls Try.prog 9 #[.agg #[.int .i64 i0, .slice a0 n0 c0, .int .i64 j0]] w fun e w' => e = .returned (.bool true) ∧ Below w.heap.size w w' := by
  obtain ⟨rfl, hnc, hcm, hL⟩ := w0
  replace hL := hide hL
  have hL0 := hL
  unfold maxLen at hcm
  have hE := hide (ext_refl w)
  have P := hide (Blk.newAt (w) 31 #[.int .i64 i0, .slice a0 l0.length c0, .int .i64 j0] (g := w.heap.size) (by simp))
  replace hL := hide (hL.out.ext (ext_alloc (ext_refl (w)) (.cells #[.int .i64 i0, .slice a0 l0.length c0, .int .i64 j0] 31)))
  replace hE := hide (ext_alloc hE.out (.cells #[.int .i64 i0, .slice a0 l0.length c0, .int .i64 j0] 31))
  by_cases hn : 1048576 < l0.length
  · go_enter Try.func9, Try.ntmps9
    go_wp2_with fail
    refine (szNode_no i0 j0 l0.length c0 1048576 _ (by omega) (by omega) (by omega) (by omega)).mono ?_
    rintro e w1 ⟨rfl, hF⟩
    replace hE := hide (ext_trans hE.out hF)
    clear hF
    go_wp2_with fail
    go_ret
    exact ⟨rfl, hE.out⟩
  · have hm : l0.length ≤ 1048576 := by omega
    obtain ⟨s, hs⟩ : ∃ s, ndPend ⟨i0, l0, j0⟩ = s := ⟨_, rfl⟩
    have hsl : s.length ≤ l0.length := by rw [← hs]; exact ndPend_len _ _ (Nat.le_refl _)
    have hms : s.length ≤ 1048576 := by omega
    have hP1 : ∀ (w' : World) (A : Option Addr) (c : Nat), LogR w' A l0 → l0.length ≤ c → Calls Try.prog 22 #[.agg #[.int .i64 i0, .slice A l0.length c, .int .i64 j0]] w' (GotRowU w' s) := fun w' A c h hlc => by rw [← hs]; exact specNodePending_any c i0 j0 h hm hlc
    replace hP1 := hide hP1
    have hP2 : ∀ (w' : World) (A : Option Addr) (c : Nat), LogR w' A l0 → l0.length ≤ c → Calls Try.prog 21 #[.agg #[.int .i64 i0, .slice A l0.length c, .int .i64 j0]] w' (GotRowU w' s) := fun w' A c h hlc => by rw [← hs]; exact implNodePending_any c i0 j0 h hm hlc
    replace hP2 := hide hP2
    replace hs := hide hs
    go_enter Try.func9, Try.ntmps9
    go_wp2_with fail
    refine (szNode_yes i0 j0 l0.length c0 1048576 _ (by omega) (by omega) (by omega)).mono ?_
    rintro e w1 ⟨rfl, hF⟩
    have s01 := hF.size
    simp only [World.size_alloc] at s01
    replace hL := hide (hL.out.ext hF)
    replace P := hide (P.out.ext hF)
    try clear P_0 P_1 P_2 P_lt
    obtain ⟨P_0, P_1, P_2, P_lt⟩ := P.out.at3
    replace hE := hide (ext_trans hE.out hF)
    clear hF
    have hE1 := hE
    go_wp2_with fail
    refine (toNode_any c0 i0 j0 hL.out hm).mono ?_
    intro e w2 hG
    obtain ⟨A2, c2, rfl, hlc2, -, hX, hF⟩ := hG.use
    replace hX := hide hX.out.log
    clear hG
    have s12 := hF.size
    replace hL := hide (hL.out.ext hF)
    replace P := hide (P.out.ext hF)
    try clear P_0 P_1 P_2 P_lt
    obtain ⟨P_0, P_1, P_2, P_lt⟩ := P.out.at3
    replace hE := hide (ext_trans hE.out hF)
    clear hF
    go_wp2_with fail
    refine (hP1.out _ A2 c2 hX.out hlc2).mono ?_
    intro e w3 hG
    obtain ⟨A3, c3, rfl, -, -, hW, hF⟩ := hG.useIn
    clear hG hX
    have s23 := hF.size
    replace hL := hide (hL.out.ext hF)
    replace P := hide (P.out.ext hF)
    try clear P_0 P_1 P_2 P_lt
    obtain ⟨P_0, P_1, P_2, P_lt⟩ := P.out.at3
    replace hE := hide (ext_trans hE.out hF)
    clear hF
    go_wp2_with fail
    refine (toNode_any c0 i0 j0 hL.out hm).mono ?_
    intro e w4 hG
    obtain ⟨A4, c4, rfl, hlc4, -, hX, hF⟩ := hG.useIn
    clear hG
    have s34 := hF.size
    replace hX := hide (hX.out.wide (show w3.heap.size ≤ _ by simp) (Nat.le_refl _))
    replace hL := hide (hL.out.ext hF)
    replace hW := hide (hW.out.ext hF)
    replace P := hide (P.out.ext hF)
    try clear P_0 P_1 P_2 P_lt
    obtain ⟨P_0, P_1, P_2, P_lt⟩ := P.out.at3
    replace hE := hide (ext_trans hE.out hF)
    clear hF
    have X := hide (Blk.newAt (w4) 25 #[.int .i64 i0, .slice A4 l0.length c4, .int .i64 j0] (g := (w4).heap.size) (by simp))
    replace hL := hide (hL.out.ext (ext_alloc (ext_refl (w4)) (.cells #[.int .i64 i0, .slice A4 l0.length c4, .int .i64 j0] 25)))
    replace hW := hide (hW.out.ext (ext_alloc (ext_refl (w4)) (.cells #[.int .i64 i0, .slice A4 l0.length c4, .int .i64 j0] 25)))
    replace hX := hide (hX.out.ext (ext_alloc (ext_refl (w4)) (.cells #[.int .i64 i0, .slice A4 l0.length c4, .int .i64 j0] 25)))
    replace P := hide (P.out.ext (ext_alloc (ext_refl (w4)) (.cells #[.int .i64 i0, .slice A4 l0.length c4, .int .i64 j0] 25)))
    replace hE := hide (ext_alloc hE.out (.cells #[.int .i64 i0, .slice A4 l0.length c4, .int .i64 j0] 25))
    go_wp2_with fail
    refine (hP2.out _ A4 c4 hX.out.log hlc4).mono ?_
    intro e w5 hG
    obtain ⟨A5, c5, rfl, -, -, hR, hF⟩ := hG.useIn
    clear hG
    have s45 := hF.size
    simp only [World.size_alloc] at s45
    replace hR := hide (hR.out.wide (show w4.heap.size + 1 ≤ _ by simp) (Nat.le_refl _))
    replace hL := hide (hL.out.ext hF)
    replace hW := hide (hW.out.ext hF)
    replace hX := hide (hX.out.ext hF)
    replace P := hide (P.out.ext hF)
    replace X := hide (X.out.ext hF)
    try clear P_0 P_1 P_2 P_lt
    obtain ⟨P_0, P_1, P_2, P_lt⟩ := P.out.at3
    try clear X_0 X_1 X_2 X_lt
    obtain ⟨X_0, X_1, X_2, X_lt⟩ := X.out.at3
    replace hE := hide (ext_trans hE.out hF)
    clear hF
    go_wp2_with fail
    refine (eqUpdateS_same c5 c3 hR.out.log hW.out.log hms).mono ?_
    rintro e w6 ⟨rfl, hF⟩
    have s6 := hF.size
    try simp only [World.size_alloc] at s6
    replace hL := hide (hL.out.ext hF)
    replace hW := hide (hW.out.ext hF)
    replace hX := hide (hX.out.ext hF)
    replace hR := hide (hR.out.ext hF)
    replace P := hide (P.out.ext hF)
    replace X := hide (X.out.ext hF)
    try clear P_0 P_1 P_2 P_lt
    obtain ⟨P_0, P_1, P_2, P_lt⟩ := P.out.at3
    try clear X_0 X_1 X_2 X_lt
    obtain ⟨X_0, X_1, X_2, X_lt⟩ := X.out.at3
    replace hE := hide (ext_trans hE.out hF)
    clear hF
    go_wp2_with fail
    have hLd := hide (show LogR w6.drew a0 l0 from hL.out)
    have hXd := hide (show LogR w6.drew A4 l0 from hX.out.log)
    have bX := hide (show Blk w6.drew w4.heap.size 25 #[.int .i64 i0, .slice A4 l0.length c4, .int .i64 j0] from X.out)
    have bP := hide (show Blk w6.drew w.heap.size 31 #[.int .i64 i0, .slice a0 l0.length c0, .int .i64 j0] from P.out)
    go_region_held3 (fun w' => (w'.cell? ⟨w4.heap.size, 0, none⟩ = some (.int .i64 i0) ∧ w'.cell? ⟨w4.heap.size, 1, none⟩ = some (.slice A4 l0.length c4) ∧ w'.cell? ⟨w4.heap.size, 2, none⟩ = some (.int .i64 j0) ∧ w4.heap.size < w'.heap.size) ∧ (w'.cell? ⟨w.heap.size, 0, none⟩ = some (.int .i64 i0) ∧ w'.cell? ⟨w.heap.size, 1, none⟩ = some (.slice a0 l0.length c0) ∧ w'.cell? ⟨w.heap.size, 2, none⟩ = some (.int .i64 j0) ∧ w.heap.size < w'.heap.size))
      (first | exact ⟨bX2.at3, bP2.at3⟩ | exact ⟨bX1.at3, bP1.at3⟩ | exact ⟨bX.out.at3, bP.out.at3⟩ | go_keep)
      (first
        | ((go_at_call 18; refine (toNode_any c0 i0 j0 hLd.out hm).mono ?_; intro e w7 hG; obtain ⟨A7, c7, rfl, -, -, hY, hF1⟩ := hG.use; clear hG; have bX1 := bX.out.ext hF1; have bP1 := bP.out.ext hF1))
        | ((go_at_call 19; refine (eqNode_same c4 c7 i0 j0 (hXd.out.ext hF1) hY.out.log hm).mono ?_; rintro e w8 ⟨rfl, hF2⟩; have bX2 := bX1.ext hF2; have bP2 := bP1.ext hF2)))
    have hF : Ext w6 w8 := ext_trans (ext_over (ext_refl w6) hF1 rfl rfl rfl rfl) hF2
    clear hF1 hF2 bX1 bX2 bP1 bP2 bX bP hXd hLd hY
    have s8 := hF.size
    replace hL := hide (hL.out.ext hF)
    replace hW := hide (hW.out.ext hF)
    replace hX := hide (hX.out.ext hF)
    replace hR := hide (hR.out.ext hF)
    replace P := hide (P.out.ext hF)
    replace X := hide (X.out.ext hF)
    try clear P_0 P_1 P_2 P_lt
    obtain ⟨P_0, P_1, P_2, P_lt⟩ := P.out.at3
    try clear X_0 X_1 X_2 X_lt
    obtain ⟨X_0, X_1, X_2, X_lt⟩ := X.out.at3
    replace hE := hide (ext_trans hE.out hF)
    clear hF
    go_wp2_with fail
    refine (markNode_in i0 j0 1 hX.out hm (by omega) (by omega)).mono ?_
    rintro e w9 ⟨rfl, -, ht⟩
    clear hX hL
    have s9 := ht.size
    replace hW := hide (hW.out.turned ht (by omega))
    replace hR := hide (hR.out.turned ht (by omega))
    replace P := hide (P.out.turned ht (by omega))
    replace X := hide (X.out.turned ht (by omega))
    try clear P_0 P_1 P_2 P_lt
    obtain ⟨P_0, P_1, P_2, P_lt⟩ := P.out.at3
    try clear X_0 X_1 X_2 X_lt
    obtain ⟨X_0, X_1, X_2, X_lt⟩ := X.out.at3
    replace hE := hide (Turned.ext hE.out ht (by omega))
    clear ht
    go_wp2_with fail
    refine (eqUpdateS_same c5 c3 hR.out.log hW.out.log hms).mono ?_
    rintro e w10 ⟨rfl, hF⟩
    have s10 := hF.size
    try simp only [World.size_alloc] at s10
    replace hW := hide (hW.out.ext hF)
    replace hR := hide (hR.out.ext hF)
    replace P := hide (P.out.ext hF)
    replace X := hide (X.out.ext hF)
    try clear P_0 P_1 P_2 P_lt
    obtain ⟨P_0, P_1, P_2, P_lt⟩ := P.out.at3
    try clear X_0 X_1 X_2 X_lt
    obtain ⟨X_0, X_1, X_2, X_lt⟩ := X.out.at3
    replace hE := hide (ext_trans hE.out hF)
    clear hF
    go_wp2_with fail
    refine (markUpdateS_in 1 hR.out hms (by omega) (by omega)).mono ?_
    rintro e w11 ⟨rfl, hR', hg⟩
    have ht := Turned.of_row hg (fun g hgg => ⟨(hR.out.1.lt g hgg).1, hR.out.2 g hgg⟩)
    clear hg
    replace hR' := hide hR'
    clear hR
    have s11 := ht.size
    replace hW := hide (hW.out.turned ht (by omega))
    replace P := hide (P.out.turned ht (by omega))
    replace X := hide (X.out.turned ht (by omega))
    try clear P_0 P_1 P_2 P_lt
    obtain ⟨P_0, P_1, P_2, P_lt⟩ := P.out.at3
    try clear X_0 X_1 X_2 X_lt
    obtain ⟨X_0, X_1, X_2, X_lt⟩ := X.out.at3
    replace hE := hide (Turned.ext hE.out ht (by omega))
    clear ht
    go_wp2_with fail
    refine (heldUpdateS_any s.length c5 1 hR'.out.log hms (by omega) (by omega)).mono ?_
    rintro e w12 ⟨rfl, rfl⟩
    have hL := hide (hL0.out.ext hE.out)
    go_wp2_with fail
    refine (toNode_any c0 i0 j0 hL.out hm).mono ?_
    intro e w13 hG
    obtain ⟨A13, c13, rfl, hlc13, -, hY, hF⟩ := hG.use
    replace hY := hide hY.out.log
    clear hG hL
    replace hW := hide (hW.out.ext hF)
    replace hR' := hide (hR'.out.ext hF)
    replace P := hide (P.out.ext hF)
    replace X := hide (X.out.ext hF)
    try clear P_0 P_1 P_2 P_lt
    obtain ⟨P_0, P_1, P_2, P_lt⟩ := P.out.at3
    try clear X_0 X_1 X_2 X_lt
    obtain ⟨X_0, X_1, X_2, X_lt⟩ := X.out.at3
    replace hE := hide (ext_trans hE.out hF)
    clear hF
    go_wp2_with fail
    refine (hP2.out _ A13 c13 hY.out hlc13).mono ?_
    intro e w14 hG
    obtain ⟨A14, c14, rfl, -, -, hH, hF⟩ := hG.useIn
    clear hG hY
    replace hW := hide (hW.out.ext hF)
    replace hR' := hide (hR'.out.ext hF)
    replace P := hide (P.out.ext hF)
    replace X := hide (X.out.ext hF)
    try clear P_0 P_1 P_2 P_lt
    obtain ⟨P_0, P_1, P_2, P_lt⟩ := P.out.at3
    try clear X_0 X_1 X_2 X_lt
    obtain ⟨X_0, X_1, X_2, X_lt⟩ := X.out.at3
    replace hE := hide (ext_trans hE.out hF)
    clear hF
    go_wp2_with fail
    refine (eqUpdateS_same c14 c3 hH.out.log hW.out.log hms).mono ?_
    rintro e w15 ⟨rfl, hF⟩
    have s15 := hF.size
    try simp only [World.size_alloc] at s15
    replace hW := hide (hW.out.ext hF)
    replace hR' := hide (hR'.out.ext hF)
    replace hH := hide (hH.out.ext hF)
    replace P := hide (P.out.ext hF)
    replace X := hide (X.out.ext hF)
    try clear P_0 P_1 P_2 P_lt
    obtain ⟨P_0, P_1, P_2, P_lt⟩ := P.out.at3
    try clear X_0 X_1 X_2 X_lt
    obtain ⟨X_0, X_1, X_2, X_lt⟩ := X.out.at3
    replace hE := hide (ext_trans hE.out hF)
    clear hF
    go_wp2_with fail
    refine (heldUpdateS_any s.length c5 1 hR'.out.log hms (by omega) (by omega)).mono ?_
    rintro e w16 ⟨rfl, rfl⟩
    go_wp2_with fail
    go_ret
    exact ⟨rfl, hE.out⟩

set_option maxHeartbeats 6400000 in
theorem fnExactNodeAck.walk (i0 : Int) (a0 : Option Addr) (n0 c0 : Nat) (j0 : Int) (l0 : List Upd) (d : Int) (w : World) (w0 : UpdsArg w a0 n0 c0 l0) (w1 : (Lit.int .i64 d).wf = true) :
    Calls Try.prog 13 #[.agg #[.int .i64 i0, .slice a0 n0 c0, .int .i64 j0], .int .i64 d] w fun e w' => e = .returned (.bool true) ∧ Below w.heap.size w w' := by
  obtain ⟨rfl, hnc, hcm, hL⟩ := w0
  replace hL := hide hL
  have hL0 := hL
  unfold maxLen at hcm
  have hE := hide (ext_refl w)
  have P := hide (Blk.newAt (w) 31 #[.int .i64 i0, .slice a0 l0.length c0, .int .i64 j0] (g := w.heap.size) (by simp))
  replace hL := hide (hL.out.ext (ext_alloc (ext_refl (w)) (.cells #[.int .i64 i0, .slice a0 l0.length c0, .int .i64 j0] 31)))
  replace hE := hide (ext_alloc hE.out (.cells #[.int .i64 i0, .slice a0 l0.length c0, .int .i64 j0] 31))
  by_cases hn : 1048576 < l0.length
  · go_enter Try.func13, Try.ntmps13
    go_wp2_with fail
    refine (szNode_no i0 j0 l0.length c0 1048576 _ (by omega) (by omega) (by omega) (by omega)).mono ?_
    rintro e w1 ⟨rfl, hF⟩
    replace hE := hide (ext_trans hE.out hF)
    clear hF
    go_wp2_with fail
    go_ret
    exact ⟨rfl, hE.out⟩
  · have hm : l0.length ≤ 1048576 := by omega
    obtain ⟨⟨xi, xl, xj⟩, hs⟩ : ∃ s, ndAck ⟨i0, l0, j0⟩ d = s := ⟨_, rfl⟩
    obtain ⟨xb, hb⟩ : ∃ b, ackOk ⟨i0, l0, j0⟩ d = b := ⟨_, rfl⟩
    have hsl : xl.length ≤ l0.length := by have := ndAck_len ⟨i0, l0, j0⟩ d _ (Nat.le_refl _); rw [hs] at this; exact this
    have hms : xl.length ≤ 1048576 := by omega
    have hP1 : ∀ (w' : World) (A : Option Addr) (c : Nat), LogR w' A l0 → l0.length ≤ c → Calls Try.prog 26 #[.agg #[.int .i64 i0, .slice A l0.length c, .int .i64 j0], .int .i64 d] w' (GotNodeB w' ⟨xi, xl, xj⟩ xb) := fun w' A c h hlc => by rw [← hs, ← hb]; exact specNodeAck_any c i0 j0 d h hm
    replace hP1 := hide hP1
    have hP2 : ∀ (w' : World) (A : Option Addr) (c : Nat), LogR w' A l0 → l0.length ≤ c → Calls Try.prog 25 #[.agg #[.int .i64 i0, .slice A l0.length c, .int .i64 j0], .int .i64 d] w' (GotNodeB w' ⟨xi, xl, xj⟩ xb) := fun w' A c h hlc => by rw [← hs, ← hb]; exact implNodeAck_any c i0 j0 d h hm
    replace hP2 := hide hP2
    replace hs := hide hs
    replace hb := hide hb
    go_enter Try.func13, Try.ntmps13
    go_wp2_with fail
    refine (szNode_yes i0 j0 l0.length c0 1048576 _ (by omega) (by omega) (by omega)).mono ?_
    rintro e w1 ⟨rfl, hF⟩
    have s01 := hF.size
    simp only [World.size_alloc] at s01
    replace hL := hide (hL.out.ext hF)
    replace P := hide (P.out.ext hF)
    try clear P_0 P_1 P_2 P_lt
    obtain ⟨P_0, P_1, P_2, P_lt⟩ := P.out.at3
    replace hE := hide (ext_trans hE.out hF)
    clear hF
    have hE1 := hE
    go_wp2_with fail
    refine (toNode_any c0 i0 j0 hL.out hm).mono ?_
    intro e w2 hG
    obtain ⟨A2, c2, rfl, hlc2, -, hX, hF⟩ := hG.use
    replace hX := hide hX.out.log
    clear hG
    have s12 := hF.size
    replace hL := hide (hL.out.ext hF)
    replace P := hide (P.out.ext hF)
    try clear P_0 P_1 P_2 P_lt
    obtain ⟨P_0, P_1, P_2, P_lt⟩ := P.out.at3
    replace hE := hide (ext_trans hE.out hF)
    clear hF
    go_wp2_with fail
    refine (hP1.out _ A2 c2 hX.out hlc2).mono ?_
    intro e w3 hG
    obtain ⟨A3, c3, rfl, -, -, hW, hF⟩ := hG.useIn
    clear hG hX
    have s23 := hF.size
    replace hL := hide (hL.out.ext hF)
    replace P := hide (P.out.ext hF)
    try clear P_0 P_1 P_2 P_lt
    obtain ⟨P_0, P_1, P_2, P_lt⟩ := P.out.at3
    replace hE := hide (ext_trans hE.out hF)
    clear hF
    have W := hide (Blk.newAt (w3) 25 #[.int .i64 xi, .slice A3 xl.length c3, .int .i64 xj] (g := (w3).heap.size) (by simp))
    replace hL := hide (hL.out.ext (ext_alloc (ext_refl (w3)) (.cells #[.int .i64 xi, .slice A3 xl.length c3, .int .i64 xj] 25)))
    replace hW := hide (hW.out.ext (ext_alloc (ext_refl (w3)) (.cells #[.int .i64 xi, .slice A3 xl.length c3, .int .i64 xj] 25)))
    replace P := hide (P.out.ext (ext_alloc (ext_refl (w3)) (.cells #[.int .i64 xi, .slice A3 xl.length c3, .int .i64 xj] 25)))
    replace hE := hide (ext_alloc hE.out (.cells #[.int .i64 xi, .slice A3 xl.length c3, .int .i64 xj] 25))
    go_wp2_with fail
    refine (toNode_any c0 i0 j0 hL.out hm).mono ?_
    intro e w4 hG
    obtain ⟨A4, c4, rfl, hlc4, -, hX, hF⟩ := hG.useIn
    clear hG
    have s34 := hF.size
    replace hX := hide (hX.out.wide (show w3.heap.size + 1 ≤ _ by simp) (Nat.le_refl _))
    simp only [World.size_alloc] at s34
    replace hL := hide (hL.out.ext hF)
    replace hW := hide (hW.out.ext hF)
    replace P := hide (P.out.ext hF)
    replace W := hide (W.out.ext hF)
    try clear P_0 P_1 P_2 P_lt
    obtain ⟨P_0, P_1, P_2, P_lt⟩ := P.out.at3
    try clear W_0 W_1 W_2 W_lt
    obtain ⟨W_0, W_1, W_2, W_lt⟩ := W.out.at3
    replace hE := hide (ext_trans hE.out hF)
    clear hF
    have X := hide (Blk.newAt (w4) 25 #[.int .i64 i0, .slice A4 l0.length c4, .int .i64 j0] (g := (w4).heap.size) (by simp))
    replace hL := hide (hL.out.ext (ext_alloc (ext_refl (w4)) (.cells #[.int .i64 i0, .slice A4 l0.length c4, .int .i64 j0] 25)))
    replace hW := hide (hW.out.ext (ext_alloc (ext_refl (w4)) (.cells #[.int .i64 i0, .slice A4 l0.length c4, .int .i64 j0] 25)))
    replace hX := hide (hX.out.ext (ext_alloc (ext_refl (w4)) (.cells #[.int .i64 i0, .slice A4 l0.length c4, .int .i64 j0] 25)))
    replace P := hide (P.out.ext (ext_alloc (ext_refl (w4)) (.cells #[.int .i64 i0, .slice A4 l0.length c4, .int .i64 j0] 25)))
    replace W := hide (W.out.ext (ext_alloc (ext_refl (w4)) (.cells #[.int .i64 i0, .slice A4 l0.length c4, .int .i64 j0] 25)))
    replace hE := hide (ext_alloc hE.out (.cells #[.int .i64 i0, .slice A4 l0.length c4, .int .i64 j0] 25))
    go_wp2_with fail
    refine (hP2.out _ A4 c4 hX.out.log hlc4).mono ?_
    intro e w5 hG
    obtain ⟨A5, c5, rfl, -, -, hR, hF⟩ := hG.useIn
    clear hG
    have s45 := hF.size
    simp only [World.size_alloc] at s45
    replace hR := hide (hR.out.wide (show w4.heap.size + 1 ≤ _ by simp) (Nat.le_refl _))
    replace hL := hide (hL.out.ext hF)
    replace hW := hide (hW.out.ext hF)
    replace hX := hide (hX.out.ext hF)
    replace P := hide (P.out.ext hF)
    replace W := hide (W.out.ext hF)
    replace X := hide (X.out.ext hF)
    try clear P_0 P_1 P_2 P_lt
    obtain ⟨P_0, P_1, P_2, P_lt⟩ := P.out.at3
    try clear W_0 W_1 W_2 W_lt
    obtain ⟨W_0, W_1, W_2, W_lt⟩ := W.out.at3
    try clear X_0 X_1 X_2 X_lt
    obtain ⟨X_0, X_1, X_2, X_lt⟩ := X.out.at3
    replace hE := hide (ext_trans hE.out hF)
    clear hF
    have G := hide (Blk.newAt (w5) 25 #[.int .i64 xi, .slice A5 xl.length c5, .int .i64 xj] (g := (w5).heap.size) (by simp))
    replace hL := hide (hL.out.ext (ext_alloc (ext_refl (w5)) (.cells #[.int .i64 xi, .slice A5 xl.length c5, .int .i64 xj] 25)))
    replace hW := hide (hW.out.ext (ext_alloc (ext_refl (w5)) (.cells #[.int .i64 xi, .slice A5 xl.length c5, .int .i64 xj] 25)))
    replace hX := hide (hX.out.ext (ext_alloc (ext_refl (w5)) (.cells #[.int .i64 xi, .slice A5 xl.length c5, .int .i64 xj] 25)))
    replace hR := hide (hR.out.ext (ext_alloc (ext_refl (w5)) (.cells #[.int .i64 xi, .slice A5 xl.length c5, .int .i64 xj] 25)))
    replace P := hide (P.out.ext (ext_alloc (ext_refl (w5)) (.cells #[.int .i64 xi, .slice A5 xl.length c5, .int .i64 xj] 25)))
    replace W := hide (W.out.ext (ext_alloc (ext_refl (w5)) (.cells #[.int .i64 xi, .slice A5 xl.length c5, .int .i64 xj] 25)))
    replace X := hide (X.out.ext (ext_alloc (ext_refl (w5)) (.cells #[.int .i64 xi, .slice A5 xl.length c5, .int .i64 xj] 25)))
    replace hE := hide (ext_alloc hE.out (.cells #[.int .i64 xi, .slice A5 xl.length c5, .int .i64 xj] 25))
    go_wp2_with fail
    refine (eqNode_same c5 c3 xi xj hR.out.log hW.out.log hms).mono ?_
    rintro e w6 ⟨rfl, hF⟩
    have s6 := hF.size
    try simp only [World.size_alloc] at s6
    replace hL := hide (hL.out.ext hF)
    replace hW := hide (hW.out.ext hF)
    replace hX := hide (hX.out.ext hF)
    replace hR := hide (hR.out.ext hF)
    replace P := hide (P.out.ext hF)
    replace W := hide (W.out.ext hF)
    replace X := hide (X.out.ext hF)
    replace G := hide (G.out.ext hF)
    try clear P_0 P_1 P_2 P_lt
    obtain ⟨P_0, P_1, P_2, P_lt⟩ := P.out.at3
    try clear W_0 W_1 W_2 W_lt
    obtain ⟨W_0, W_1, W_2, W_lt⟩ := W.out.at3
    try clear X_0 X_1 X_2 X_lt
    obtain ⟨X_0, X_1, X_2, X_lt⟩ := X.out.at3
    try clear G_0 G_1 G_2 G_lt
    obtain ⟨G_0, G_1, G_2, G_lt⟩ := G.out.at3
    replace hE := hide (ext_trans hE.out hF)
    clear hF
    go_wp2_with fail
    have hLd := hide (show LogR w6.drew a0 l0 from hL.out)
    have hXd := hide (show LogR w6.drew A4 l0 from hX.out.log)
    have bX := hide (show Blk w6.drew w4.heap.size 25 #[.int .i64 i0, .slice A4 l0.length c4, .int .i64 j0] from X.out)
    have bP := hide (show Blk w6.drew w.heap.size 31 #[.int .i64 i0, .slice a0 l0.length c0, .int .i64 j0] from P.out)
    go_region_held3 (fun w' => (w'.cell? ⟨w4.heap.size, 0, none⟩ = some (.int .i64 i0) ∧ w'.cell? ⟨w4.heap.size, 1, none⟩ = some (.slice A4 l0.length c4) ∧ w'.cell? ⟨w4.heap.size, 2, none⟩ = some (.int .i64 j0) ∧ w4.heap.size < w'.heap.size) ∧ (w'.cell? ⟨w.heap.size, 0, none⟩ = some (.int .i64 i0) ∧ w'.cell? ⟨w.heap.size, 1, none⟩ = some (.slice a0 l0.length c0) ∧ w'.cell? ⟨w.heap.size, 2, none⟩ = some (.int .i64 j0) ∧ w.heap.size < w'.heap.size))
      (first | exact ⟨bX2.at3, bP2.at3⟩ | exact ⟨bX1.at3, bP1.at3⟩ | exact ⟨bX.out.at3, bP.out.at3⟩ | go_keep)
      (first
        | ((go_at_call 18; refine (toNode_any c0 i0 j0 hLd.out hm).mono ?_; intro e w7 hG; obtain ⟨A7, c7, rfl, -, -, hY, hF1⟩ := hG.use; clear hG; have bX1 := bX.out.ext hF1; have bP1 := bP.out.ext hF1))
        | ((go_at_call 19; refine (eqNode_same c4 c7 i0 j0 (hXd.out.ext hF1) hY.out.log hm).mono ?_; rintro e w8 ⟨rfl, hF2⟩; have bX2 := bX1.ext hF2; have bP2 := bP1.ext hF2)))
    have hF : Ext w6 w8 := ext_trans (ext_over (ext_refl w6) hF1 rfl rfl rfl rfl) hF2
    clear hF1 hF2 bX1 bX2 bP1 bP2 bX bP hXd hLd hY
    have s8 := hF.size
    replace hL := hide (hL.out.ext hF)
    replace hW := hide (hW.out.ext hF)
    replace hX := hide (hX.out.ext hF)
    replace hR := hide (hR.out.ext hF)
    replace P := hide (P.out.ext hF)
    replace W := hide (W.out.ext hF)
    replace X := hide (X.out.ext hF)
    replace G := hide (G.out.ext hF)
    try clear P_0 P_1 P_2 P_lt
    obtain ⟨P_0, P_1, P_2, P_lt⟩ := P.out.at3
    try clear W_0 W_1 W_2 W_lt
    obtain ⟨W_0, W_1, W_2, W_lt⟩ := W.out.at3
    try clear X_0 X_1 X_2 X_lt
    obtain ⟨X_0, X_1, X_2, X_lt⟩ := X.out.at3
    try clear G_0 G_1 G_2 G_lt
    obtain ⟨G_0, G_1, G_2, G_lt⟩ := G.out.at3
    replace hE := hide (ext_trans hE.out hF)
    clear hF
    go_wp2_with fail
    refine (markNode_in i0 j0 1 hX.out hm (by omega) (by omega)).mono ?_
    rintro e w9 ⟨rfl, -, ht⟩
    clear hX hL
    have s9 := ht.size
    replace hW := hide (hW.out.turned ht (by omega))
    replace hR := hide (hR.out.turned ht (by omega))
    replace P := hide (P.out.turned ht (by omega))
    replace W := hide (W.out.turned ht (by omega))
    replace X := hide (X.out.turned ht (by omega))
    replace G := hide (G.out.turned ht (by omega))
    try clear P_0 P_1 P_2 P_lt
    obtain ⟨P_0, P_1, P_2, P_lt⟩ := P.out.at3
    try clear W_0 W_1 W_2 W_lt
    obtain ⟨W_0, W_1, W_2, W_lt⟩ := W.out.at3
    try clear X_0 X_1 X_2 X_lt
    obtain ⟨X_0, X_1, X_2, X_lt⟩ := X.out.at3
    try clear G_0 G_1 G_2 G_lt
    obtain ⟨G_0, G_1, G_2, G_lt⟩ := G.out.at3
    replace hE := hide (Turned.ext hE.out ht (by omega))
    clear ht
    go_wp2_with fail
    refine (eqNode_same c5 c3 xi xj hR.out.log hW.out.log hms).mono ?_
    rintro e w10 ⟨rfl, hF⟩
    have s10 := hF.size
    try simp only [World.size_alloc] at s10
    replace hW := hide (hW.out.ext hF)
    replace hR := hide (hR.out.ext hF)
    replace P := hide (P.out.ext hF)
    replace W := hide (W.out.ext hF)
    replace X := hide (X.out.ext hF)
    replace G := hide (G.out.ext hF)
    try clear P_0 P_1 P_2 P_lt
    obtain ⟨P_0, P_1, P_2, P_lt⟩ := P.out.at3
    try clear W_0 W_1 W_2 W_lt
    obtain ⟨W_0, W_1, W_2, W_lt⟩ := W.out.at3
    try clear X_0 X_1 X_2 X_lt
    obtain ⟨X_0, X_1, X_2, X_lt⟩ := X.out.at3
    try clear G_0 G_1 G_2 G_lt
    obtain ⟨G_0, G_1, G_2, G_lt⟩ := G.out.at3
    replace hE := hide (ext_trans hE.out hF)
    clear hF
    go_wp2_with fail
    refine (markNode_in xi xj 1 hR.out hms (by omega) (by omega)).mono ?_
    rintro e w11 ⟨rfl, hR', ht⟩
    replace hR' := hide hR'
    clear hR
    have s11 := ht.size
    replace hW := hide (hW.out.turned ht (by omega))
    replace P := hide (P.out.turned ht (by omega))
    replace W := hide (W.out.turned ht (by omega))
    replace X := hide (X.out.turned ht (by omega))
    replace G := hide (G.out.turned ht (by omega))
    try clear P_0 P_1 P_2 P_lt
    obtain ⟨P_0, P_1, P_2, P_lt⟩ := P.out.at3
    try clear W_0 W_1 W_2 W_lt
    obtain ⟨W_0, W_1, W_2, W_lt⟩ := W.out.at3
    try clear X_0 X_1 X_2 X_lt
    obtain ⟨X_0, X_1, X_2, X_lt⟩ := X.out.at3
    try clear G_0 G_1 G_2 G_lt
    obtain ⟨G_0, G_1, G_2, G_lt⟩ := G.out.at3
    replace hE := hide (Turned.ext hE.out ht (by omega))
    clear ht
    go_wp2_with fail
    refine (heldNode_any xl.length c5 xi xj 1 hR'.out.log hms (by omega) (by omega)).mono ?_
    rintro e w12 ⟨rfl, hF⟩
    have s12' := hF.size
    replace hW := hide (hW.out.ext hF)
    replace hR' := hide (hR'.out.ext hF)
    replace P := hide (P.out.ext hF)
    replace W := hide (W.out.ext hF)
    replace X := hide (X.out.ext hF)
    replace G := hide (G.out.ext hF)
    try clear P_0 P_1 P_2 P_lt
    obtain ⟨P_0, P_1, P_2, P_lt⟩ := P.out.at3
    try clear W_0 W_1 W_2 W_lt
    obtain ⟨W_0, W_1, W_2, W_lt⟩ := W.out.at3
    try clear X_0 X_1 X_2 X_lt
    obtain ⟨X_0, X_1, X_2, X_lt⟩ := X.out.at3
    try clear G_0 G_1 G_2 G_lt
    obtain ⟨G_0, G_1, G_2, G_lt⟩ := G.out.at3
    replace hE := hide (ext_trans hE.out hF)
    clear hF
    have hL := hide (hL0.out.ext hE.out)
    go_wp2_with fail
    refine (toNode_any c0 i0 j0 hL.out hm).mono ?_
    intro e w13 hG
    obtain ⟨A13, c13, rfl, hlc13, -, hY, hF⟩ := hG.use
    replace hY := hide hY.out.log
    clear hG hL
    replace hW := hide (hW.out.ext hF)
    replace hR' := hide (hR'.out.ext hF)
    replace P := hide (P.out.ext hF)
    replace W := hide (W.out.ext hF)
    replace X := hide (X.out.ext hF)
    replace G := hide (G.out.ext hF)
    try clear P_0 P_1 P_2 P_lt
    obtain ⟨P_0, P_1, P_2, P_lt⟩ := P.out.at3
    try clear W_0 W_1 W_2 W_lt
    obtain ⟨W_0, W_1, W_2, W_lt⟩ := W.out.at3
    try clear X_0 X_1 X_2 X_lt
    obtain ⟨X_0, X_1, X_2, X_lt⟩ := X.out.at3
    try clear G_0 G_1 G_2 G_lt
    obtain ⟨G_0, G_1, G_2, G_lt⟩ := G.out.at3
    replace hE := hide (ext_trans hE.out hF)
    clear hF
    go_wp2_with fail
    refine (hP2.out _ A13 c13 hY.out hlc13).mono ?_
    intro e w14 hG
    obtain ⟨A14, c14, rfl, -, -, hH, hF⟩ := hG.useIn
    clear hG hY
    replace hW := hide (hW.out.ext hF)
    replace hR' := hide (hR'.out.ext hF)
    replace P := hide (P.out.ext hF)
    replace W := hide (W.out.ext hF)
    replace X := hide (X.out.ext hF)
    replace G := hide (G.out.ext hF)
    try clear P_0 P_1 P_2 P_lt
    obtain ⟨P_0, P_1, P_2, P_lt⟩ := P.out.at3
    try clear W_0 W_1 W_2 W_lt
    obtain ⟨W_0, W_1, W_2, W_lt⟩ := W.out.at3
    try clear X_0 X_1 X_2 X_lt
    obtain ⟨X_0, X_1, X_2, X_lt⟩ := X.out.at3
    try clear G_0 G_1 G_2 G_lt
    obtain ⟨G_0, G_1, G_2, G_lt⟩ := G.out.at3
    replace hE := hide (ext_trans hE.out hF)
    clear hF
    have Z := hide (Blk.newAt (w14) 25 #[.int .i64 xi, .slice A14 xl.length c14, .int .i64 xj] (g := (w14).heap.size) (by simp))
    replace hW := hide (hW.out.ext (ext_alloc (ext_refl (w14)) (.cells #[.int .i64 xi, .slice A14 xl.length c14, .int .i64 xj] 25)))
    replace hR' := hide (hR'.out.ext (ext_alloc (ext_refl (w14)) (.cells #[.int .i64 xi, .slice A14 xl.length c14, .int .i64 xj] 25)))
    replace hH := hide (hH.out.ext (ext_alloc (ext_refl (w14)) (.cells #[.int .i64 xi, .slice A14 xl.length c14, .int .i64 xj] 25)))
    replace P := hide (P.out.ext (ext_alloc (ext_refl (w14)) (.cells #[.int .i64 xi, .slice A14 xl.length c14, .int .i64 xj] 25)))
    replace W := hide (W.out.ext (ext_alloc (ext_refl (w14)) (.cells #[.int .i64 xi, .slice A14 xl.length c14, .int .i64 xj] 25)))
    replace X := hide (X.out.ext (ext_alloc (ext_refl (w14)) (.cells #[.int .i64 xi, .slice A14 xl.length c14, .int .i64 xj] 25)))
    replace G := hide (G.out.ext (ext_alloc (ext_refl (w14)) (.cells #[.int .i64 xi, .slice A14 xl.length c14, .int .i64 xj] 25)))
    replace hE := hide (ext_alloc hE.out (.cells #[.int .i64 xi, .slice A14 xl.length c14, .int .i64 xj] 25))
    go_wp2_with fail
    refine (eqNode_same c14 c3 xi xj hH.out.log hW.out.log hms).mono ?_
    rintro e w15 ⟨rfl, hF⟩
    have s15 := hF.size
    try simp only [World.size_alloc] at s15
    replace hW := hide (hW.out.ext hF)
    replace hR' := hide (hR'.out.ext hF)
    replace hH := hide (hH.out.ext hF)
    replace P := hide (P.out.ext hF)
    replace W := hide (W.out.ext hF)
    replace X := hide (X.out.ext hF)
    replace G := hide (G.out.ext hF)
    replace Z := hide (Z.out.ext hF)
    try clear P_0 P_1 P_2 P_lt
    obtain ⟨P_0, P_1, P_2, P_lt⟩ := P.out.at3
    try clear W_0 W_1 W_2 W_lt
    obtain ⟨W_0, W_1, W_2, W_lt⟩ := W.out.at3
    try clear X_0 X_1 X_2 X_lt
    obtain ⟨X_0, X_1, X_2, X_lt⟩ := X.out.at3
    try clear G_0 G_1 G_2 G_lt
    obtain ⟨G_0, G_1, G_2, G_lt⟩ := G.out.at3
    try clear Z_0 Z_1 Z_2 Z_lt
    obtain ⟨Z_0, Z_1, Z_2, Z_lt⟩ := Z.out.at3
    replace hE := hide (ext_trans hE.out hF)
    clear hF
    go_wp2_with fail
    refine (heldNode_any xl.length c5 xi xj 1 hR'.out.log hms (by omega) (by omega)).mono ?_
    rintro e w16 ⟨rfl, hF⟩
    replace hE := hide (ext_trans hE.out hF)
    clear hF
    go_wp2_with fail
    go_ret
    exact ⟨rfl, hE.out⟩
end Go.Proofs.Ythhlimpmjmnmfaa
