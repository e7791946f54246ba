/-
  The walk of the law FnExactNodeTake: it returns true for every input at which the listed variable holds its error, and leaves its arguments as they were.
-/
import Derived.Test.YtjheeeilcfbdbaaDoorNTake
import Derived.Test.YtjheeeilcfbdbaaDoorNFrame
import Derived.Test.YtjheeeilcfbdbaaDoorNMark
import Derived.Test.YtjheeeilcfbdbaaDoorNodes4
import Derived.Deep.DeepCutAuto
set_option linter.all false
set_option maxRecDepth 100000
namespace Go.Proofs.YtjheeeilcfbdbaaDoor
open Go.RowKit
attribute [local go_sem ↓] Go.wp_at_zero Go.wp_at_succ

theorem eqNode_same {A B : Option Addr} {l : List Upd} (c d : Nat) (i j : Int) {w : World} (h : LogR w A l) (h' : LogR w B l) (hm : l.length ≤ 1048576) :
    Calls Tryd.prog 19 #[.agg #[.int .i64 i, .slice A l.length c, .int .i64 j], .agg #[.int .i64 i, .slice B l.length d, .int .i64 j]] w fun e w' => e = .returned (.bool true) ∧ Ext w w' :=
  (eqNode_any c d i j i j h h' hm hm).mono fun e w' ⟨h1, h2⟩ => ⟨by rw [h1]; simp, h2⟩
theorem ndTake_len12 (n : Nd) (u : Upd) : (ndTake n u).log.length ≤ 12 := by
  by_cases h : takeOk n u = true
  · rw [ndTake_yes h]
    have := (takeOk_yes h).2.2
    simp; omega
  · rw [ndTake_no (by simpa using h)]
    simp [Nd.zero]
/-- What stands behind `take, then a new node for it`: the node's block g, its log's row. -/
structure Ended (win w3 : World) (xi xj : Int) (xl : List Upd) (g : Nat) (A : Option Addr) (c : Nat) : Prop where
  ext : Ext win w3
  blk : Blk w3 g 25 #[.int .i64 xi, .slice A xl.length c, .int .i64 xj]
  ge : win.heap.size ≤ g
  log : ∃ lo hi, Hid (LogIn w3 lo hi A c xl) ∧ win.heap.size ≤ lo ∧ hi ≤ w3.heap.size ∧ (g < lo ∨ hi ≤ g)
theorem ended_last {win wb v : World} {xi xj : Int} {xl : List Upd} {A : Option Addr} {c : Nat} (h2 : Ext win wb) (h3 : Ext win v) (hW : LogIn v wb.heap.size v.heap.size A c xl) :
    Ended win (v.alloc (.cells #[.int .i64 xi, .slice A xl.length c, .int .i64 xj] 25)) xi xj xl v.heap.size A c :=
  ⟨ext_alloc h3 _, Blk.new _ _ _, h3.size, _, _, hide (hW.ext (ext_alloc (ext_refl _) _)), h2.size, by simp, .inr (Nat.le_refl _)⟩
theorem ended_in {win v : World} {xi xj : Int} {xl : List Upd} {A : Option Addr} {c g lo : Nat} {u0 u1 u2 : Value} (h3 : Ext win v) (hg : win.heap.size ≤ g) (hb : Blk v g 25 #[u0, u1, u2]) (hl : g < lo) (hW : LogIn v lo v.heap.size A c xl) :
    Ended win (((v.setCell ⟨g, 0, none⟩ (.int .i64 xi)).setCell ⟨g, 1, none⟩ (.slice A xl.length c)).setCell ⟨g, 2, none⟩ (.int .i64 xj)) xi xj xl g A c :=
  ⟨((h3.setCell (p := ⟨g, 0, none⟩) hg _).setCell (p := ⟨g, 1, none⟩) hg _).setCell (p := ⟨g, 2, none⟩) hg _, ((hb.set30 _).set31 _).set32 _, hg, lo, v.heap.size,
    hide (hW.turned (Turned.set3 g (.int .i64 xi) (.slice A xl.length c) (.int .i64 xj)) (.inr hl)), by omega, by simp, .inl hl⟩

set_option maxHeartbeats 6400000 in
theorem fnExactNodeTake.walk (i0 : Int) (a0 : Option Addr) (n0 c0 : Nat) (j0 : Int) (l0 : List Upd) (ux uy : Int) (w : World) (w0 : UpdsArg w a0 n0 c0 l0) (w1 : True) (sa : Addr) (hS0 : SentAt w sa) :
    Calls Tryd.prog 5 #[.agg #[.int .i64 i0, .slice a0 n0 c0, .int .i64 j0], .agg #[.int .i64 ux, .int .i64 uy]] w fun e w' => e = .returned (.bool true) ∧ Below w.heap.size w w' := by
  obtain ⟨rfl, hnc, hcm, hL⟩ := w0
  replace hL := hide hL
  replace hS0 := hide hS0
  have hL0 := hL
  unfold maxLen at hcm
  have hE := hide (ext_refl w)
  have P := hide (Blk.newAt (w) 39 #[.int .i64 i0, .slice a0 l0.length c0, .int .i64 j0] (g := w.heap.size) (by simp))
  replace hL := hide (hL.out.ext (ext_alloc (ext_refl (w)) (.cells #[.int .i64 i0, .slice a0 l0.length c0, .int .i64 j0] 39)))
  replace hE := hide (ext_alloc hE.out (.cells #[.int .i64 i0, .slice a0 l0.length c0, .int .i64 j0] 39))
  have U := hide (Blk.newAt (w.alloc (.cells #[.int .i64 i0, .slice a0 l0.length c0, .int .i64 j0] 39)) 40 #[.int .i64 ux, .int .i64 uy] (g := w.heap.size + 1) (by simp))
  replace hL := hide (hL.out.ext (ext_alloc (ext_refl (w.alloc (.cells #[.int .i64 i0, .slice a0 l0.length c0, .int .i64 j0] 39))) (.cells #[.int .i64 ux, .int .i64 uy] 40)))
  replace P := hide (P.out.ext (ext_alloc (ext_refl (w.alloc (.cells #[.int .i64 i0, .slice a0 l0.length c0, .int .i64 j0] 39))) (.cells #[.int .i64 ux, .int .i64 uy] 40)))
  replace hE := hide (ext_alloc hE.out (.cells #[.int .i64 ux, .int .i64 uy] 40))
  by_cases hn : 1048576 < l0.length
  · go_enter Tryd.func5, Tryd.ntmps5
    go_wp2_with fail
    refine (szNode_no i0 j0 l0.length c0 1048576 _ (by omega) (by omega) (by omega) (by omega)).mono ?_
    rintro e w1 ⟨rfl, hF⟩
    replace hE := hide (ext_trans hE.out hF)
    clear hF
    go_wp2_with fail
    go_ret
    exact ⟨rfl, hE.out⟩
  · have hm : l0.length ≤ 1048576 := by omega
    obtain ⟨⟨xi, xl, xj⟩, hs⟩ : ∃ s, ndTake ⟨i0, l0, j0⟩ (ux, uy) = s := ⟨_, rfl⟩
    obtain ⟨xb, hb⟩ : ∃ b, takeOk ⟨i0, l0, j0⟩ (ux, uy) = b := ⟨_, rfl⟩
    have hsl : xl.length ≤ 12 := by have := ndTake_len12 ⟨i0, l0, j0⟩ (ux, uy); rw [hs] at this; exact this
    have hms : xl.length ≤ 1048576 := by omega
    have hP1 : ∀ (w' : World) (A : Option Addr) (c : Nat), LogR w' A l0 → Calls Tryd.prog 11 #[.agg #[.int .i64 i0, .slice A l0.length c, .int .i64 j0], .agg #[.int .i64 ux, .int .i64 uy]] w' (GotNodeB w' ⟨xi, xl, xj⟩ xb) := fun w' A c h => by rw [← hs, ← hb]; exact specNodeTake_any c i0 j0 ux uy h hm
    replace hP1 := hide hP1
    have hP2 : ∀ (w' : World) (A : Option Addr) (c : Nat), SentAt w' sa → LogR w' A l0 → Calls Tryd.prog 10 #[.agg #[.int .i64 i0, .slice A l0.length c, .int .i64 j0], .agg #[.int .i64 ux, .int .i64 uy]] w' (GotNodeB w' ⟨xi, xl, xj⟩ xb) := fun w' A c hq h => by rw [← hs, ← hb]; exact implNodeTake_any c i0 j0 ux uy h hm hq
    replace hP2 := hide hP2
    replace hs := hide hs
    replace hb := hide hb
    go_enter Tryd.func5, Tryd.ntmps5
    go_wp2_with fail
    refine (szNode_yes i0 j0 l0.length c0 1048576 _ (by omega) (by omega) (by omega)).mono ?_
    rintro e w1 ⟨rfl, hF⟩
    have s01 := hF.size
    simp only [World.size_alloc] at s01
    replace hL := hide (hL.out.ext hF)
    replace P := hide (P.out.ext hF)
    replace U := hide (U.out.ext hF)
    try clear P_0 P_1 P_2 P_lt
    obtain ⟨P_0, P_1, P_2, P_lt⟩ := P.out.at3
    try clear U_0 U_1 U_lt
    obtain ⟨U_0, U_1, U_lt⟩ := U.out.at2
    replace hE := hide (ext_trans hE.out hF)
    clear hF
    have hE1 := hE
    go_upto_region 5 with fail
    go_cut [6, 7] (fun s6 s7 wx => ∃ (g : Nat) (A : Option Addr) (c : Nat), s6 = .pointer (some ⟨g, 0, none⟩) ∧ s7 = .bool xb ∧ Hid (Ended w1 wx xi xj xl g A c))
    case first =>
      have hLd := hide (show LogR w1.drew a0 l0 from (show LogR w1 a0 l0 from hL.out))
      have bPd := hide (show Blk w1.drew w.heap.size 39 #[.int .i64 i0, .slice a0 l0.length c0, .int .i64 j0] from (show Blk w1 w.heap.size 39 #[.int .i64 i0, .slice a0 l0.length c0, .int .i64 j0] from P.out))
      have bUd := hide (show Blk w1.drew (w.heap.size + 1) 40 #[.int .i64 ux, .int .i64 uy] from (show Blk w1 (w.heap.size + 1) 40 #[.int .i64 ux, .int .i64 uy] from U.out))
      have hLa := hide (show LogR (w1.alloc (.cells #[.int .i64 0, .slice none 0 0, .int .i64 0] 25)).drew a0 l0 from (show LogR (w1.alloc (.cells #[.int .i64 0, .slice none 0 0, .int .i64 0] 25)) a0 l0 from hL.out.ext (ext_alloc (ext_refl _) _)))
      have bPa := hide (show Blk (w1.alloc (.cells #[.int .i64 0, .slice none 0 0, .int .i64 0] 25)).drew w.heap.size 39 #[.int .i64 i0, .slice a0 l0.length c0, .int .i64 j0] from (show Blk (w1.alloc (.cells #[.int .i64 0, .slice none 0 0, .int .i64 0] 25)) w.heap.size 39 #[.int .i64 i0, .slice a0 l0.length c0, .int .i64 j0] from P.out.alloc _))
      have bUa := hide (show Blk (w1.alloc (.cells #[.int .i64 0, .slice none 0 0, .int .i64 0] 25)).drew (w.heap.size + 1) 40 #[.int .i64 ux, .int .i64 uy] from (show Blk (w1.alloc (.cells #[.int .i64 0, .slice none 0 0, .int .i64 0] 25)) (w.heap.size + 1) 40 #[.int .i64 ux, .int .i64 uy] from U.out.alloc _))
      have bNa := hide (show Blk (w1.alloc (.cells #[.int .i64 0, .slice none 0 0, .int .i64 0] 25)).drew (w1.heap.size) 25 #[.int .i64 0, .slice none 0 0, .int .i64 0] from Blk.newAt w1 25 #[.int .i64 0, .slice none 0 0, .int .i64 0] (g := w1.heap.size) (by first | rfl | simp))
      have lt0P : w.heap.size < w1.heap.size := by first | exact P.out.lt | (have := P.out.lt; simpa using this)
      have lt0U : (w.heap.size + 1) < w1.heap.size := by first | exact U.out.lt | (have := U.out.lt; simpa using this)
      have hEd := hide (show Ext w1 w1.drew from ext_drew (ext_refl _))
      have hEa := hide (show Ext w1 (w1.alloc (.cells #[.int .i64 0, .slice none 0 0, .int .i64 0] 25)).drew from ext_drew (ext_alloc (ext_refl _) _))
      have bN : True := trivial
      have lN : True := trivial
      go_region_held3 (fun w' => (w'.cell? ⟨w.heap.size, 0, none⟩ = some (.int .i64 i0) ∧ w'.cell? ⟨w.heap.size, 1, none⟩ = some (.slice a0 l0.length c0) ∧ w'.cell? ⟨w.heap.size, 2, none⟩ = some (.int .i64 j0) ∧ w.heap.size < w'.heap.size) ∧ (w'.cell? ⟨(w.heap.size + 1), 0, none⟩ = some (.int .i64 ux) ∧ w'.cell? ⟨(w.heap.size + 1), 1, none⟩ = some (.int .i64 uy) ∧ (w.heap.size + 1) < w'.heap.size))
        (first | with_reducible exact ⟨(((bP3.far (by first | exact Nat.ne_of_lt lt0P | exact Nat.ne_of_lt bP1.lt | exact Nat.ne_of_lt bP2.lt | exact Nat.ne_of_lt bP3.lt) _).far (by first | exact Nat.ne_of_lt lt0P | exact Nat.ne_of_lt bP1.lt | exact Nat.ne_of_lt bP2.lt | exact Nat.ne_of_lt bP3.lt) _).far (by first | exact Nat.ne_of_lt lt0P | exact Nat.ne_of_lt bP1.lt | exact Nat.ne_of_lt bP2.lt | exact Nat.ne_of_lt bP3.lt) _).at3, (((bU3.far (by first | exact Nat.ne_of_lt lt0U | exact Nat.ne_of_lt bU1.lt | exact Nat.ne_of_lt bU2.lt | exact Nat.ne_of_lt bU3.lt) _).far (by first | exact Nat.ne_of_lt lt0U | exact Nat.ne_of_lt bU1.lt | exact Nat.ne_of_lt bU2.lt | exact Nat.ne_of_lt bU3.lt) _).far (by first | exact Nat.ne_of_lt lt0U | exact Nat.ne_of_lt bU1.lt | exact Nat.ne_of_lt bU2.lt | exact Nat.ne_of_lt bU3.lt) _).at2⟩ | with_reducible exact ⟨bPa.out.at3, bUa.out.at2⟩ | with_reducible exact ⟨bP3.at3, bU3.at2⟩ | with_reducible exact ⟨(bP3.alloc _).at3, (bU3.alloc _).at2⟩ | with_reducible exact ⟨bP2.at3, bU2.at2⟩ | with_reducible exact ⟨(bP2.alloc _).at3, (bU2.alloc _).at2⟩ | with_reducible exact ⟨bP1.at3, bU1.at2⟩ | with_reducible exact ⟨(bP1.alloc _).at3, (bU1.alloc _).at2⟩ | with_reducible exact ⟨bPd.out.at3, bUd.out.at2⟩ | with_reducible exact ⟨(bPd.out.alloc _).at3, (bUd.out.alloc _).at2⟩ | go_keep)
        (first
          | ((go_at_call 17; with_reducible refine (toNode_any (w := w1.drew) c0 i0 j0 hLd.out hm).mono ?_; intro e u1 hG0; obtain ⟨Aa, ca, rfl, hlca, -, hY, hG⟩ := hG0.use; clear hG0; replace hY := hide hY.out.log; have bP1 := bPd.out.ext hG; have bU1 := bUd.out.ext hG; have hYb := ext_refl u1; have hF1 := ext_trans hEd.out hG; clear hG))
          | ((go_at_call 17; with_reducible refine (toNode_any (w := (w1.alloc (.cells #[.int .i64 0, .slice none 0 0, .int .i64 0] 25)).drew) c0 i0 j0 hLa.out hm).mono ?_; intro e u1 hG0; obtain ⟨Aa, ca, rfl, hlca, -, hY, hG⟩ := hG0.use; clear hG0; replace hY := hide hY.out.log; have bP1 := bPa.out.ext hG; have bU1 := bUa.out.ext hG; have bN := bNa.out.ext hG; have hYb := ext_refl u1; have hF1 := ext_trans hEa.out hG; clear hG))
          | ((go_at_call 18; with_reducible refine (toUpdate_any ux uy u1).mono ?_; rintro e u2 ⟨rfl, hG⟩; have bP2 := bP1.ext hG; have bU2 := bU1.ext hG; (try have bN := Blk.ext bN hG); have hYb := hG; have hF2 := ext_trans hF1 hG; clear hG))
          | ((go_at_call 18; with_reducible refine (toUpdate_any ux uy (u1.alloc _)).mono ?_; rintro e u2 ⟨rfl, hG⟩; have bP2 := (bP1.alloc _).ext hG; have bU2 := (bU1.alloc _).ext hG; have bN := (Blk.new u1 25 #[.int .i64 0, .slice none 0 0, .int .i64 0]).ext hG; have hYb := ext_trans (ext_alloc (ext_refl _) _) hG; have hF2 := ext_trans (ext_alloc hF1 _) hG; clear hG))
          | ((go_at_call 11; with_reducible refine (hP1.out u2 Aa ca (hY.out.ext hYb)).mono ?_; intro e u3 hG0; obtain ⟨A5, c5, rfl, -, -, hR, hG⟩ := hG0.useIn; clear hG0; (first | (have lN := Blk.lt bN) | skip); have bP3 := bP2.ext hG; have bU3 := bU2.ext hG; (try have bN := Blk.ext bN hG); have hF3 := ext_trans hF2 hG; clear hG; (first | (have bM := Blk.at3f bN; obtain ⟨n_0, n_1, n_2, n_lt, n_f0, n_f1, n_f2⟩ := bM) | skip)))
          | ((go_at_call 11; with_reducible refine (hP1.out (u2.alloc _) Aa ca (hY.out.ext (ext_alloc hYb _))).mono ?_; intro e u3 hG0; obtain ⟨A5, c5, rfl, -, -, hR, hG⟩ := hG0.useIn; clear hG0; have lN := Blk.lt (Blk.new u2 25 #[.int .i64 0, .slice none 0 0, .int .i64 0]); have bP3 := (bP2.alloc _).ext hG; have bU3 := (bU2.alloc _).ext hG; have bN := (Blk.new u2 25 #[.int .i64 0, .slice none 0 0, .int .i64 0]).ext hG; have hF3 := ext_trans (ext_alloc hF2 _) hG; clear hG; (first | (have bM := Blk.at3f bN; obtain ⟨n_0, n_1, n_2, n_lt, n_f0, n_f1, n_f2⟩ := bM) | skip))) | fail)
      all_goals go_wp2_with fail
      all_goals go_meet
      all_goals exact ⟨_, A5, c5, rfl, rfl, hide (by first | with_reducible exact ended_last hF2 hF3 hR.out | with_reducible exact ended_in hF3 (by first | exact Nat.le_refl _ | (simp; done) | exact hF1.size | exact hF2.size) bN lN hR.out)⟩
    case rest =>
      obtain ⟨gW, A3, c3, rfl, rfl, hEn⟩ := hcut
      obtain ⟨hF, W, hgeW, loW, hiW, hW, hloW, hhiW, hglW⟩ := hEn.out
      clear hEn
      have szw3 := hF.size
      have ltW := W.lt
      rename World => w3
      replace W := hide W
      replace hL := hide (hL.out.ext hF)
      replace P := hide (P.out.ext hF)
      replace U := hide (U.out.ext hF)
      try clear P_0 P_1 P_2 P_lt
      obtain ⟨P_0, P_1, P_2, P_lt⟩ := P.out.at3
      try clear U_0 U_1 U_lt
      obtain ⟨U_0, U_1, U_lt⟩ := U.out.at2
      replace hE := hide (ext_trans hE.out hF)
      clear hF
      try clear W_0 W_1 W_2 W_lt
      obtain ⟨W_0, W_1, W_2, W_lt⟩ := W.out.at3
      go_wp2_with fail
      refine (toNode_any c0 i0 j0 hL.out hm).mono ?_
      intro e w4 hG
      obtain ⟨A4, c4, rfl, hlc4, -, hX, hF⟩ := hG.useIn
      clear hG
      have s34 := hF.size
      replace hL := hide (hL.out.ext hF)
      replace hW := hide (hW.out.ext hF)
      replace P := hide (P.out.ext hF)
      replace U := hide (U.out.ext hF)
      replace W := hide (W.out.ext hF)
      try clear P_0 P_1 P_2 P_lt
      obtain ⟨P_0, P_1, P_2, P_lt⟩ := P.out.at3
      try clear U_0 U_1 U_lt
      obtain ⟨U_0, U_1, U_lt⟩ := U.out.at2
      try clear W_0 W_1 W_2 W_lt
      obtain ⟨W_0, W_1, W_2, W_lt⟩ := W.out.at3
      replace hE := hide (ext_trans hE.out hF)
      clear hF
      have X := hide (Blk.newAt (w4) 25 #[.int .i64 i0, .slice A4 l0.length c4, .int .i64 j0] (g := (w4).heap.size) (by simp))
      replace hL := hide (hL.out.ext (ext_alloc (ext_refl (w4)) (.cells #[.int .i64 i0, .slice A4 l0.length c4, .int .i64 j0] 25)))
      replace hW := hide (hW.out.ext (ext_alloc (ext_refl (w4)) (.cells #[.int .i64 i0, .slice A4 l0.length c4, .int .i64 j0] 25)))
      replace hX := hide (hX.out.ext (ext_alloc (ext_refl (w4)) (.cells #[.int .i64 i0, .slice A4 l0.length c4, .int .i64 j0] 25)))
      replace P := hide (P.out.ext (ext_alloc (ext_refl (w4)) (.cells #[.int .i64 i0, .slice A4 l0.length c4, .int .i64 j0] 25)))
      replace U := hide (U.out.ext (ext_alloc (ext_refl (w4)) (.cells #[.int .i64 i0, .slice A4 l0.length c4, .int .i64 j0] 25)))
      replace W := hide (W.out.ext (ext_alloc (ext_refl (w4)) (.cells #[.int .i64 i0, .slice A4 l0.length c4, .int .i64 j0] 25)))
      replace hE := hide (ext_alloc hE.out (.cells #[.int .i64 i0, .slice A4 l0.length c4, .int .i64 j0] 25))

      go_upto_region 7 with fail
      go_cut [9, 10] (fun s9 s10 wx => ∃ (g : Nat) (A : Option Addr) (c : Nat), s9 = .pointer (some ⟨g, 0, none⟩) ∧ s10 = .bool xb ∧ Hid (Ended (w4.alloc (.cells #[.int .i64 i0, .slice A4 l0.length c4, .int .i64 j0] 25)) wx xi xj xl g A c))
      case first =>
        have hLd := hide (show LogR (w4.alloc (.cells #[.int .i64 i0, .slice A4 l0.length c4, .int .i64 j0] 25)).drew A4 l0 from (show LogR (w4.alloc (.cells #[.int .i64 i0, .slice A4 l0.length c4, .int .i64 j0] 25)) A4 l0 from hX.out.log))
        have hSd := hide (show SentAt (w4.alloc (.cells #[.int .i64 i0, .slice A4 l0.length c4, .int .i64 j0] 25)).drew sa from (show SentAt (w4.alloc (.cells #[.int .i64 i0, .slice A4 l0.length c4, .int .i64 j0] 25)) sa from (hS0.out.ext hE.out)))
        have bXd := hide (show Blk (w4.alloc (.cells #[.int .i64 i0, .slice A4 l0.length c4, .int .i64 j0] 25)).drew w4.heap.size 25 #[.int .i64 i0, .slice A4 l0.length c4, .int .i64 j0] from (show Blk (w4.alloc (.cells #[.int .i64 i0, .slice A4 l0.length c4, .int .i64 j0] 25)) w4.heap.size 25 #[.int .i64 i0, .slice A4 l0.length c4, .int .i64 j0] from X.out))
        have bUd := hide (show Blk (w4.alloc (.cells #[.int .i64 i0, .slice A4 l0.length c4, .int .i64 j0] 25)).drew (w.heap.size + 1) 40 #[.int .i64 ux, .int .i64 uy] from (show Blk (w4.alloc (.cells #[.int .i64 i0, .slice A4 l0.length c4, .int .i64 j0] 25)) (w.heap.size + 1) 40 #[.int .i64 ux, .int .i64 uy] from U.out))
        have hLa := hide (show LogR ((w4.alloc (.cells #[.int .i64 i0, .slice A4 l0.length c4, .int .i64 j0] 25)).alloc (.cells #[.int .i64 0, .slice none 0 0, .int .i64 0] 25)).drew A4 l0 from (show LogR ((w4.alloc (.cells #[.int .i64 i0, .slice A4 l0.length c4, .int .i64 j0] 25)).alloc (.cells #[.int .i64 0, .slice none 0 0, .int .i64 0] 25)) A4 l0 from hX.out.log.ext (ext_alloc (ext_refl _) _)))
        have hSa := hide (show SentAt ((w4.alloc (.cells #[.int .i64 i0, .slice A4 l0.length c4, .int .i64 j0] 25)).alloc (.cells #[.int .i64 0, .slice none 0 0, .int .i64 0] 25)).drew sa from (show SentAt ((w4.alloc (.cells #[.int .i64 i0, .slice A4 l0.length c4, .int .i64 j0] 25)).alloc (.cells #[.int .i64 0, .slice none 0 0, .int .i64 0] 25)) sa from (hS0.out.ext hE.out).ext (ext_alloc (ext_refl _) _)))
        have bXa := hide (show Blk ((w4.alloc (.cells #[.int .i64 i0, .slice A4 l0.length c4, .int .i64 j0] 25)).alloc (.cells #[.int .i64 0, .slice none 0 0, .int .i64 0] 25)).drew w4.heap.size 25 #[.int .i64 i0, .slice A4 l0.length c4, .int .i64 j0] from (show Blk ((w4.alloc (.cells #[.int .i64 i0, .slice A4 l0.length c4, .int .i64 j0] 25)).alloc (.cells #[.int .i64 0, .slice none 0 0, .int .i64 0] 25)) w4.heap.size 25 #[.int .i64 i0, .slice A4 l0.length c4, .int .i64 j0] from X.out.alloc _))
        have bUa := hide (show Blk ((w4.alloc (.cells #[.int .i64 i0, .slice A4 l0.length c4, .int .i64 j0] 25)).alloc (.cells #[.int .i64 0, .slice none 0 0, .int .i64 0] 25)).drew (w.heap.size + 1) 40 #[.int .i64 ux, .int .i64 uy] from (show Blk ((w4.alloc (.cells #[.int .i64 i0, .slice A4 l0.length c4, .int .i64 j0] 25)).alloc (.cells #[.int .i64 0, .slice none 0 0, .int .i64 0] 25)) (w.heap.size + 1) 40 #[.int .i64 ux, .int .i64 uy] from U.out.alloc _))
        have bNa := hide (show Blk ((w4.alloc (.cells #[.int .i64 i0, .slice A4 l0.length c4, .int .i64 j0] 25)).alloc (.cells #[.int .i64 0, .slice none 0 0, .int .i64 0] 25)).drew (w4.heap.size + 1) 25 #[.int .i64 0, .slice none 0 0, .int .i64 0] from Blk.newAt (w4.alloc (.cells #[.int .i64 i0, .slice A4 l0.length c4, .int .i64 j0] 25)) 25 #[.int .i64 0, .slice none 0 0, .int .i64 0] (g := w4.heap.size + 1) (by first | rfl | simp))
        have lt0X : w4.heap.size < w4.heap.size + 1 := by first | exact X.out.lt | (have := X.out.lt; simpa using this)
        have lt0U : (w.heap.size + 1) < w4.heap.size + 1 := by first | exact U.out.lt | (have := U.out.lt; simpa using this)
        have hEd := hide (show Ext (w4.alloc (.cells #[.int .i64 i0, .slice A4 l0.length c4, .int .i64 j0] 25)) (w4.alloc (.cells #[.int .i64 i0, .slice A4 l0.length c4, .int .i64 j0] 25)).drew from ext_drew (ext_refl _))
        have hEa := hide (show Ext (w4.alloc (.cells #[.int .i64 i0, .slice A4 l0.length c4, .int .i64 j0] 25)) ((w4.alloc (.cells #[.int .i64 i0, .slice A4 l0.length c4, .int .i64 j0] 25)).alloc (.cells #[.int .i64 0, .slice none 0 0, .int .i64 0] 25)).drew from ext_drew (ext_alloc (ext_refl _) _))
        have bN : True := trivial
        have lN : True := trivial
        go_region_held3 (fun w' => (w'.cell? ⟨w4.heap.size, 0, none⟩ = some (.int .i64 i0) ∧ w'.cell? ⟨w4.heap.size, 1, none⟩ = some (.slice A4 l0.length c4) ∧ w'.cell? ⟨w4.heap.size, 2, none⟩ = some (.int .i64 j0) ∧ w4.heap.size < w'.heap.size) ∧ (w'.cell? ⟨(w.heap.size + 1), 0, none⟩ = some (.int .i64 ux) ∧ w'.cell? ⟨(w.heap.size + 1), 1, none⟩ = some (.int .i64 uy) ∧ (w.heap.size + 1) < w'.heap.size))
          (first | with_reducible exact ⟨(((bX2.far (by first | exact Nat.ne_of_lt lt0X | exact Nat.ne_of_lt bX1.lt | exact Nat.ne_of_lt bX2.lt) _).far (by first | exact Nat.ne_of_lt lt0X | exact Nat.ne_of_lt bX1.lt | exact Nat.ne_of_lt bX2.lt) _).far (by first | exact Nat.ne_of_lt lt0X | exact Nat.ne_of_lt bX1.lt | exact Nat.ne_of_lt bX2.lt) _).at3, (((bU2.far (by first | exact Nat.ne_of_lt lt0U | exact Nat.ne_of_lt bU1.lt | exact Nat.ne_of_lt bU2.lt) _).far (by first | exact Nat.ne_of_lt lt0U | exact Nat.ne_of_lt bU1.lt | exact Nat.ne_of_lt bU2.lt) _).far (by first | exact Nat.ne_of_lt lt0U | exact Nat.ne_of_lt bU1.lt | exact Nat.ne_of_lt bU2.lt) _).at2⟩ | with_reducible exact ⟨bXa.out.at3, bUa.out.at2⟩ | with_reducible exact ⟨bX2.at3, bU2.at2⟩ | with_reducible exact ⟨(bX2.alloc _).at3, (bU2.alloc _).at2⟩ | with_reducible exact ⟨bX1.at3, bU1.at2⟩ | with_reducible exact ⟨(bX1.alloc _).at3, (bU1.alloc _).at2⟩ | with_reducible exact ⟨bXd.out.at3, bUd.out.at2⟩ | with_reducible exact ⟨(bXd.out.alloc _).at3, (bUd.out.alloc _).at2⟩ | go_keep)
          (first
            | ((go_at_call 18; with_reducible refine (toUpdate_any ux uy (w4.alloc (.cells #[.int .i64 i0, .slice A4 l0.length c4, .int .i64 j0] 25)).drew).mono ?_; rintro e u1 ⟨rfl, hG⟩; have bX1 := bXd.out.ext hG; have bU1 := bUd.out.ext hG; have hF1 := ext_trans hEd.out hG; clear hG))
            | ((go_at_call 18; with_reducible refine (toUpdate_any ux uy ((w4.alloc (.cells #[.int .i64 i0, .slice A4 l0.length c4, .int .i64 j0] 25)).alloc (.cells #[.int .i64 0, .slice none 0 0, .int .i64 0] 25)).drew).mono ?_; rintro e u1 ⟨rfl, hG⟩; have bX1 := bXa.out.ext hG; have bU1 := bUa.out.ext hG; have bN := bNa.out.ext hG; have hF1 := ext_trans hEa.out hG; clear hG))
            | ((go_at_call 10; with_reducible refine (hP2.out u1 A4 c4 ((hS0.out.ext hE.out).ext hF1) (LogR.ext hX.out.log hF1)).mono ?_; intro e u2 hG0; obtain ⟨A5, c5, rfl, -, -, hR, hG⟩ := hG0.useIn; clear hG0; (first | (have lN := Blk.lt bN) | skip); have bX2 := bX1.ext hG; have bU2 := bU1.ext hG; (try have bN := Blk.ext bN hG); have hF2 := ext_trans hF1 hG; clear hG; (first | (have bM := Blk.at3f bN; obtain ⟨n_0, n_1, n_2, n_lt, n_f0, n_f1, n_f2⟩ := bM) | skip)))
            | ((go_at_call 10; with_reducible refine (hP2.out (u1.alloc _) A4 c4 ((hS0.out.ext hE.out).ext (ext_alloc hF1 _)) (LogR.ext hX.out.log (ext_alloc hF1 _))).mono ?_; intro e u2 hG0; obtain ⟨A5, c5, rfl, -, -, hR, hG⟩ := hG0.useIn; clear hG0; have lN := Blk.lt (Blk.new u1 25 #[.int .i64 0, .slice none 0 0, .int .i64 0]); have bX2 := (bX1.alloc _).ext hG; have bU2 := (bU1.alloc _).ext hG; have bN := (Blk.new u1 25 #[.int .i64 0, .slice none 0 0, .int .i64 0]).ext hG; have hF2 := ext_trans (ext_alloc hF1 _) hG; clear hG; (first | (have bM := Blk.at3f bN; obtain ⟨n_0, n_1, n_2, n_lt, n_f0, n_f1, n_f2⟩ := bM) | skip))) | fail)
        all_goals go_wp2_with fail
        all_goals go_meet
        all_goals exact ⟨_, A5, c5, rfl, rfl, hide (by first | with_reducible exact ended_last hF1 hF2 hR.out | with_reducible exact ended_in hF2 (by first | exact Nat.le_refl _ | (simp; done) | exact hF1.size) bN lN hR.out)⟩
      case rest =>
        obtain ⟨gG, A5, c5, rfl, rfl, hEn⟩ := hcut
        obtain ⟨hF, G, hgeG, loG, hiG, hR, hloG, hhiG, hglG⟩ := hEn.out
        clear hEn
        have szw5 := hF.size
        have ltG := G.lt
        rename World => w5
        replace G := hide G
        replace hL := hide (hL.out.ext hF)
        replace hW := hide (hW.out.ext hF)
        replace hX := hide (hX.out.ext hF)
        replace P := hide (P.out.ext hF)
        replace U := hide (U.out.ext hF)
        replace W := hide (W.out.ext hF)
        replace X := hide (X.out.ext hF)
        try clear P_0 P_1 P_2 P_lt
        obtain ⟨P_0, P_1, P_2, P_lt⟩ := P.out.at3
        try clear U_0 U_1 U_lt
        obtain ⟨U_0, U_1, U_lt⟩ := U.out.at2
        try clear W_0 W_1 W_2 W_lt
        obtain ⟨W_0, W_1, W_2, W_lt⟩ := W.out.at3
        try clear X_0 X_1 X_2 X_lt
        obtain ⟨X_0, X_1, X_2, X_lt⟩ := X.out.at3
        replace hE := hide (ext_trans hE.out hF)
        clear hF
        try clear G_0 G_1 G_2 G_lt
        obtain ⟨G_0, G_1, G_2, G_lt⟩ := G.out.at3
        simp only [World.size_alloc] at szw5 hgeG hloG
        go_wp2_with fail
        refine (eqNode_same c5 c3 xi xj hR.out.log hW.out.log hms).mono ?_
        rintro e w6 ⟨rfl, hF⟩
        have s6 := hF.size
        replace hL := hide (hL.out.ext hF)
        replace hW := hide (hW.out.ext hF)
        replace hX := hide (hX.out.ext hF)
        replace hR := hide (hR.out.ext hF)
        replace P := hide (P.out.ext hF)
        replace U := hide (U.out.ext hF)
        replace W := hide (W.out.ext hF)
        replace X := hide (X.out.ext hF)
        replace G := hide (G.out.ext hF)
        try clear P_0 P_1 P_2 P_lt
        obtain ⟨P_0, P_1, P_2, P_lt⟩ := P.out.at3
        try clear U_0 U_1 U_lt
        obtain ⟨U_0, U_1, U_lt⟩ := U.out.at2
        try clear W_0 W_1 W_2 W_lt
        obtain ⟨W_0, W_1, W_2, W_lt⟩ := W.out.at3
        try clear X_0 X_1 X_2 X_lt
        obtain ⟨X_0, X_1, X_2, X_lt⟩ := X.out.at3
        try clear G_0 G_1 G_2 G_lt
        obtain ⟨G_0, G_1, G_2, G_lt⟩ := G.out.at3
        replace hE := hide (ext_trans hE.out hF)
        clear hF
        go_wp2_with fail
        have hLd := hide (show LogR w6.drew a0 l0 from hL.out)
        have hXd := hide (show LogR w6.drew A4 l0 from hX.out.log)
        have bX := hide (show Blk w6.drew w4.heap.size 25 #[.int .i64 i0, .slice A4 l0.length c4, .int .i64 j0] from X.out)
        have bP := hide (show Blk w6.drew w.heap.size 39 #[.int .i64 i0, .slice a0 l0.length c0, .int .i64 j0] from P.out)
        go_region_held3 (fun w' => (w'.cell? ⟨w4.heap.size, 0, none⟩ = some (.int .i64 i0) ∧ w'.cell? ⟨w4.heap.size, 1, none⟩ = some (.slice A4 l0.length c4) ∧ w'.cell? ⟨w4.heap.size, 2, none⟩ = some (.int .i64 j0) ∧ w4.heap.size < w'.heap.size) ∧ (w'.cell? ⟨w.heap.size, 0, none⟩ = some (.int .i64 i0) ∧ w'.cell? ⟨w.heap.size, 1, none⟩ = some (.slice a0 l0.length c0) ∧ w'.cell? ⟨w.heap.size, 2, none⟩ = some (.int .i64 j0) ∧ w.heap.size < w'.heap.size))
          (first | exact ⟨bX2.at3, bP2.at3⟩ | exact ⟨bX1.at3, bP1.at3⟩ | exact ⟨bX.out.at3, bP.out.at3⟩ | go_keep)
          (first
            | ((go_at_call 17; refine (toNode_any c0 i0 j0 hLd.out hm).mono ?_; intro e w7 hG; obtain ⟨A7, c7, rfl, -, -, hY, hF1⟩ := hG.use; clear hG; have bX1 := bX.out.ext hF1; have bP1 := bP.out.ext hF1))
            | ((go_at_call 19; refine (eqNode_same c4 c7 i0 j0 (hXd.out.ext hF1) hY.out.log hm).mono ?_; rintro e w8 ⟨rfl, hF2⟩; have bX2 := bX1.ext hF2; have bP2 := bP1.ext hF2)))
        have hF : Ext w6 w8 := ext_trans (ext_over (ext_refl w6) hF1 rfl rfl rfl rfl) hF2
        clear hF1 hF2 bX1 bX2 bP1 bP2 bX bP hXd hLd hY
        have s8 := hF.size
        replace hL := hide (hL.out.ext hF)
        replace hW := hide (hW.out.ext hF)
        replace hX := hide (hX.out.ext hF)
        replace hR := hide (hR.out.ext hF)
        replace P := hide (P.out.ext hF)
        replace U := hide (U.out.ext hF)
        replace W := hide (W.out.ext hF)
        replace X := hide (X.out.ext hF)
        replace G := hide (G.out.ext hF)
        try clear P_0 P_1 P_2 P_lt
        obtain ⟨P_0, P_1, P_2, P_lt⟩ := P.out.at3
        try clear U_0 U_1 U_lt
        obtain ⟨U_0, U_1, U_lt⟩ := U.out.at2
        try clear W_0 W_1 W_2 W_lt
        obtain ⟨W_0, W_1, W_2, W_lt⟩ := W.out.at3
        try clear X_0 X_1 X_2 X_lt
        obtain ⟨X_0, X_1, X_2, X_lt⟩ := X.out.at3
        try clear G_0 G_1 G_2 G_lt
        obtain ⟨G_0, G_1, G_2, G_lt⟩ := G.out.at3
        replace hE := hide (ext_trans hE.out hF)
        clear hF
        go_wp2_with fail
        refine (markNode_in i0 j0 1 hX.out hm (by omega) (by omega)).mono ?_
        rintro e w9 ⟨rfl, -, ht⟩
        clear hX hL
        have s9 := ht.size
        replace hW := hide (hW.out.turned ht (by omega))
        replace hR := hide (hR.out.turned ht (by omega))
        replace P := hide (P.out.turned ht (by omega))
        replace U := hide (U.out.turned ht (by omega))
        replace W := hide (W.out.turned ht (by omega))
        replace X := hide (X.out.turned ht (by omega))
        replace G := hide (G.out.turned ht (by omega))
        try clear P_0 P_1 P_2 P_lt
        obtain ⟨P_0, P_1, P_2, P_lt⟩ := P.out.at3
        try clear U_0 U_1 U_lt
        obtain ⟨U_0, U_1, U_lt⟩ := U.out.at2
        try clear W_0 W_1 W_2 W_lt
        obtain ⟨W_0, W_1, W_2, W_lt⟩ := W.out.at3
        try clear X_0 X_1 X_2 X_lt
        obtain ⟨X_0, X_1, X_2, X_lt⟩ := X.out.at3
        try clear G_0 G_1 G_2 G_lt
        obtain ⟨G_0, G_1, G_2, G_lt⟩ := G.out.at3
        replace hE := hide (Turned.ext hE.out ht (by omega))
        clear ht
        go_wp2_with fail
        refine (eqNode_same c5 c3 xi xj hR.out.log hW.out.log hms).mono ?_
        rintro e w10 ⟨rfl, hF⟩
        have s10 := hF.size
        replace hW := hide (hW.out.ext hF)
        replace hR := hide (hR.out.ext hF)
        replace P := hide (P.out.ext hF)
        replace U := hide (U.out.ext hF)
        replace W := hide (W.out.ext hF)
        replace X := hide (X.out.ext hF)
        replace G := hide (G.out.ext hF)
        try clear P_0 P_1 P_2 P_lt
        obtain ⟨P_0, P_1, P_2, P_lt⟩ := P.out.at3
        try clear U_0 U_1 U_lt
        obtain ⟨U_0, U_1, U_lt⟩ := U.out.at2
        try clear W_0 W_1 W_2 W_lt
        obtain ⟨W_0, W_1, W_2, W_lt⟩ := W.out.at3
        try clear X_0 X_1 X_2 X_lt
        obtain ⟨X_0, X_1, X_2, X_lt⟩ := X.out.at3
        try clear G_0 G_1 G_2 G_lt
        obtain ⟨G_0, G_1, G_2, G_lt⟩ := G.out.at3
        replace hE := hide (ext_trans hE.out hF)
        clear hF
        go_wp2_with fail
        refine (markNode_in xi xj 1 hR.out hms (by omega) (by omega)).mono ?_
        rintro e w11 ⟨rfl, hR', ht⟩
        replace hR' := hide hR'
        clear hR
        have s11 := ht.size
        replace hW := hide (hW.out.turned ht (by omega))
        replace P := hide (P.out.turned ht (by omega))
        replace U := hide (U.out.turned ht (by omega))
        replace W := hide (W.out.turned ht (by omega))
        replace X := hide (X.out.turned ht (by omega))
        replace G := hide (G.out.turned ht (by omega))
        try clear P_0 P_1 P_2 P_lt
        obtain ⟨P_0, P_1, P_2, P_lt⟩ := P.out.at3
        try clear U_0 U_1 U_lt
        obtain ⟨U_0, U_1, U_lt⟩ := U.out.at2
        try clear W_0 W_1 W_2 W_lt
        obtain ⟨W_0, W_1, W_2, W_lt⟩ := W.out.at3
        try clear X_0 X_1 X_2 X_lt
        obtain ⟨X_0, X_1, X_2, X_lt⟩ := X.out.at3
        try clear G_0 G_1 G_2 G_lt
        obtain ⟨G_0, G_1, G_2, G_lt⟩ := G.out.at3
        replace hE := hide (Turned.ext hE.out ht (by omega))
        clear ht
        go_wp2_with fail
        refine (heldNode_any xl.length c5 xi xj 1 hR'.out.log hms (by omega) (by omega)).mono ?_
        rintro e w12 ⟨rfl, hF⟩
        have s12' := hF.size
        replace hW := hide (hW.out.ext hF)
        replace hR' := hide (hR'.out.ext hF)
        replace P := hide (P.out.ext hF)
        replace U := hide (U.out.ext hF)
        replace W := hide (W.out.ext hF)
        replace X := hide (X.out.ext hF)
        replace G := hide (G.out.ext hF)
        try clear P_0 P_1 P_2 P_lt
        obtain ⟨P_0, P_1, P_2, P_lt⟩ := P.out.at3
        try clear U_0 U_1 U_lt
        obtain ⟨U_0, U_1, U_lt⟩ := U.out.at2
        try clear W_0 W_1 W_2 W_lt
        obtain ⟨W_0, W_1, W_2, W_lt⟩ := W.out.at3
        try clear X_0 X_1 X_2 X_lt
        obtain ⟨X_0, X_1, X_2, X_lt⟩ := X.out.at3
        try clear G_0 G_1 G_2 G_lt
        obtain ⟨G_0, G_1, G_2, G_lt⟩ := G.out.at3
        replace hE := hide (ext_trans hE.out hF)
        clear hF
        have hL := hide (hL0.out.ext hE.out)
        go_upto_region 24 with fail
        go_cut [14, 15] (fun s14 s15 wx => ∃ (g : Nat) (A : Option Addr) (c : Nat), s14 = .pointer (some ⟨g, 0, none⟩) ∧ s15 = .bool xb ∧ Hid (Ended w12 wx xi xj xl g A c))
        case first =>
          have hLd := hide (show LogR w12.drew a0 l0 from (show LogR w12 a0 l0 from hL.out))
          have hSd := hide (show SentAt w12.drew sa from (show SentAt w12 sa from (hS0.out.ext hE.out)))
          have bPd := hide (show Blk w12.drew w.heap.size 39 #[.int .i64 i0, .slice a0 l0.length c0, .int .i64 j0] from (show Blk w12 w.heap.size 39 #[.int .i64 i0, .slice a0 l0.length c0, .int .i64 j0] from P.out))
          have bUd := hide (show Blk w12.drew (w.heap.size + 1) 40 #[.int .i64 ux, .int .i64 uy] from (show Blk w12 (w.heap.size + 1) 40 #[.int .i64 ux, .int .i64 uy] from U.out))
          have hLa := hide (show LogR (w12.alloc (.cells #[.int .i64 0, .slice none 0 0, .int .i64 0] 25)).drew a0 l0 from (show LogR (w12.alloc (.cells #[.int .i64 0, .slice none 0 0, .int .i64 0] 25)) a0 l0 from hL.out.ext (ext_alloc (ext_refl _) _)))
          have hSa := hide (show SentAt (w12.alloc (.cells #[.int .i64 0, .slice none 0 0, .int .i64 0] 25)).drew sa from (show SentAt (w12.alloc (.cells #[.int .i64 0, .slice none 0 0, .int .i64 0] 25)) sa from (hS0.out.ext hE.out).ext (ext_alloc (ext_refl _) _)))
          have bPa := hide (show Blk (w12.alloc (.cells #[.int .i64 0, .slice none 0 0, .int .i64 0] 25)).drew w.heap.size 39 #[.int .i64 i0, .slice a0 l0.length c0, .int .i64 j0] from (show Blk (w12.alloc (.cells #[.int .i64 0, .slice none 0 0, .int .i64 0] 25)) w.heap.size 39 #[.int .i64 i0, .slice a0 l0.length c0, .int .i64 j0] from P.out.alloc _))
          have bUa := hide (show Blk (w12.alloc (.cells #[.int .i64 0, .slice none 0 0, .int .i64 0] 25)).drew (w.heap.size + 1) 40 #[.int .i64 ux, .int .i64 uy] from (show Blk (w12.alloc (.cells #[.int .i64 0, .slice none 0 0, .int .i64 0] 25)) (w.heap.size + 1) 40 #[.int .i64 ux, .int .i64 uy] from U.out.alloc _))
          have bNa := hide (show Blk (w12.alloc (.cells #[.int .i64 0, .slice none 0 0, .int .i64 0] 25)).drew (w12.heap.size) 25 #[.int .i64 0, .slice none 0 0, .int .i64 0] from Blk.newAt w12 25 #[.int .i64 0, .slice none 0 0, .int .i64 0] (g := w12.heap.size) (by first | rfl | simp))
          have lt0P : w.heap.size < w12.heap.size := by first | exact P.out.lt | (have := P.out.lt; simpa using this)
          have lt0U : (w.heap.size + 1) < w12.heap.size := by first | exact U.out.lt | (have := U.out.lt; simpa using this)
          have hEd := hide (show Ext w12 w12.drew from ext_drew (ext_refl _))
          have hEa := hide (show Ext w12 (w12.alloc (.cells #[.int .i64 0, .slice none 0 0, .int .i64 0] 25)).drew from ext_drew (ext_alloc (ext_refl _) _))
          have bN : True := trivial
          have lN : True := trivial
          go_region_held3 (fun w' => (w'.cell? ⟨w.heap.size, 0, none⟩ = some (.int .i64 i0) ∧ w'.cell? ⟨w.heap.size, 1, none⟩ = some (.slice a0 l0.length c0) ∧ w'.cell? ⟨w.heap.size, 2, none⟩ = some (.int .i64 j0) ∧ w.heap.size < w'.heap.size) ∧ (w'.cell? ⟨(w.heap.size + 1), 0, none⟩ = some (.int .i64 ux) ∧ w'.cell? ⟨(w.heap.size + 1), 1, none⟩ = some (.int .i64 uy) ∧ (w.heap.size + 1) < w'.heap.size))
            (first | with_reducible exact ⟨(((bP3.far (by first | exact Nat.ne_of_lt lt0P | exact Nat.ne_of_lt bP1.lt | exact Nat.ne_of_lt bP2.lt | exact Nat.ne_of_lt bP3.lt) _).far (by first | exact Nat.ne_of_lt lt0P | exact Nat.ne_of_lt bP1.lt | exact Nat.ne_of_lt bP2.lt | exact Nat.ne_of_lt bP3.lt) _).far (by first | exact Nat.ne_of_lt lt0P | exact Nat.ne_of_lt bP1.lt | exact Nat.ne_of_lt bP2.lt | exact Nat.ne_of_lt bP3.lt) _).at3, (((bU3.far (by first | exact Nat.ne_of_lt lt0U | exact Nat.ne_of_lt bU1.lt | exact Nat.ne_of_lt bU2.lt | exact Nat.ne_of_lt bU3.lt) _).far (by first | exact Nat.ne_of_lt lt0U | exact Nat.ne_of_lt bU1.lt | exact Nat.ne_of_lt bU2.lt | exact Nat.ne_of_lt bU3.lt) _).far (by first | exact Nat.ne_of_lt lt0U | exact Nat.ne_of_lt bU1.lt | exact Nat.ne_of_lt bU2.lt | exact Nat.ne_of_lt bU3.lt) _).at2⟩ | with_reducible exact ⟨bPa.out.at3, bUa.out.at2⟩ | with_reducible exact ⟨bP3.at3, bU3.at2⟩ | with_reducible exact ⟨(bP3.alloc _).at3, (bU3.alloc _).at2⟩ | with_reducible exact ⟨bP2.at3, bU2.at2⟩ | with_reducible exact ⟨(bP2.alloc _).at3, (bU2.alloc _).at2⟩ | with_reducible exact ⟨bP1.at3, bU1.at2⟩ | with_reducible exact ⟨(bP1.alloc _).at3, (bU1.alloc _).at2⟩ | with_reducible exact ⟨bPd.out.at3, bUd.out.at2⟩ | with_reducible exact ⟨(bPd.out.alloc _).at3, (bUd.out.alloc _).at2⟩ | go_keep)
            (first
              | ((go_at_call 17; with_reducible refine (toNode_any (w := w12.drew) c0 i0 j0 hLd.out hm).mono ?_; intro e u1 hG0; obtain ⟨Aa, ca, rfl, hlca, -, hY, hG⟩ := hG0.use; clear hG0; replace hY := hide hY.out.log; have bP1 := bPd.out.ext hG; have bU1 := bUd.out.ext hG; have hYb := ext_refl u1; have hF1 := ext_trans hEd.out hG; clear hG))
              | ((go_at_call 17; with_reducible refine (toNode_any (w := (w12.alloc (.cells #[.int .i64 0, .slice none 0 0, .int .i64 0] 25)).drew) c0 i0 j0 hLa.out hm).mono ?_; intro e u1 hG0; obtain ⟨Aa, ca, rfl, hlca, -, hY, hG⟩ := hG0.use; clear hG0; replace hY := hide hY.out.log; have bP1 := bPa.out.ext hG; have bU1 := bUa.out.ext hG; have bN := bNa.out.ext hG; have hYb := ext_refl u1; have hF1 := ext_trans hEa.out hG; clear hG))
              | ((go_at_call 18; with_reducible refine (toUpdate_any ux uy u1).mono ?_; rintro e u2 ⟨rfl, hG⟩; have bP2 := bP1.ext hG; have bU2 := bU1.ext hG; (try have bN := Blk.ext bN hG); have hYb := hG; have hF2 := ext_trans hF1 hG; clear hG))
              | ((go_at_call 18; with_reducible refine (toUpdate_any ux uy (u1.alloc _)).mono ?_; rintro e u2 ⟨rfl, hG⟩; have bP2 := (bP1.alloc _).ext hG; have bU2 := (bU1.alloc _).ext hG; have bN := (Blk.new u1 25 #[.int .i64 0, .slice none 0 0, .int .i64 0]).ext hG; have hYb := ext_trans (ext_alloc (ext_refl _) _) hG; have hF2 := ext_trans (ext_alloc hF1 _) hG; clear hG))
              | ((go_at_call 10; with_reducible refine (hP2.out u2 Aa ca ((hS0.out.ext hE.out).ext hF2) (hY.out.ext hYb)).mono ?_; intro e u3 hG0; obtain ⟨A5, c5, rfl, -, -, hR, hG⟩ := hG0.useIn; clear hG0; (first | (have lN := Blk.lt bN) | skip); have bP3 := bP2.ext hG; have bU3 := bU2.ext hG; (try have bN := Blk.ext bN hG); have hF3 := ext_trans hF2 hG; clear hG; (first | (have bM := Blk.at3f bN; obtain ⟨n_0, n_1, n_2, n_lt, n_f0, n_f1, n_f2⟩ := bM) | skip)))
              | ((go_at_call 10; with_reducible refine (hP2.out (u2.alloc _) Aa ca ((hS0.out.ext hE.out).ext (ext_alloc hF2 _)) (hY.out.ext (ext_alloc hYb _))).mono ?_; intro e u3 hG0; obtain ⟨A5, c5, rfl, -, -, hR, hG⟩ := hG0.useIn; clear hG0; have lN := Blk.lt (Blk.new u2 25 #[.int .i64 0, .slice none 0 0, .int .i64 0]); have bP3 := (bP2.alloc _).ext hG; have bU3 := (bU2.alloc _).ext hG; have bN := (Blk.new u2 25 #[.int .i64 0, .slice none 0 0, .int .i64 0]).ext hG; have hF3 := ext_trans (ext_alloc hF2 _) hG; clear hG; (first | (have bM := Blk.at3f bN; obtain ⟨n_0, n_1, n_2, n_lt, n_f0, n_f1, n_f2⟩ := bM) | skip))) | fail)
          all_goals go_wp2_with fail
          all_goals go_meet
          all_goals exact ⟨_, A5, c5, rfl, rfl, hide (by first | with_reducible exact ended_last hF2 hF3 hR.out | with_reducible exact ended_in hF3 (by first | exact Nat.le_refl _ | (simp; done) | exact hF1.size | exact hF2.size) bN lN hR.out)⟩
        case rest =>
          obtain ⟨gZ, A14, c14, rfl, rfl, hEn⟩ := hcut
          obtain ⟨hF, Z, hgeZ, loZ, hiZ, hH, hloZ, hhiZ, hglZ⟩ := hEn.out
          clear hEn
          have szw14 := hF.size
          have ltZ := Z.lt
          rename World => w14
          replace Z := hide Z
          replace hW := hide (hW.out.ext hF)
          replace hR' := hide (hR'.out.ext hF)
          replace W := hide (W.out.ext hF)
          replace G := hide (G.out.ext hF)
          try clear W_0 W_1 W_2 W_lt
          obtain ⟨W_0, W_1, W_2, W_lt⟩ := W.out.at3
          try clear G_0 G_1 G_2 G_lt
          obtain ⟨G_0, G_1, G_2, G_lt⟩ := G.out.at3
          replace hE := hide (ext_trans hE.out hF)
          clear hF
          try clear Z_0 Z_1 Z_2 Z_lt
          obtain ⟨Z_0, Z_1, Z_2, Z_lt⟩ := Z.out.at3
          go_wp2_with fail
          refine (eqNode_same c14 c3 xi xj hH.out.log hW.out.log hms).mono ?_
          rintro e w15 ⟨rfl, hF⟩
          replace hW := hide (hW.out.ext hF)
          replace hR' := hide (hR'.out.ext hF)
          replace hH := hide (hH.out.ext hF)
          replace W := hide (W.out.ext hF)
          replace G := hide (G.out.ext hF)
          replace Z := hide (Z.out.ext hF)
          try clear W_0 W_1 W_2 W_lt
          obtain ⟨W_0, W_1, W_2, W_lt⟩ := W.out.at3
          try clear G_0 G_1 G_2 G_lt
          obtain ⟨G_0, G_1, G_2, G_lt⟩ := G.out.at3
          try clear Z_0 Z_1 Z_2 Z_lt
          obtain ⟨Z_0, Z_1, Z_2, Z_lt⟩ := Z.out.at3
          replace hE := hide (ext_trans hE.out hF)
          clear hF
          go_wp2_with fail
          refine (heldNode_any xl.length c5 xi xj 1 hR'.out.log hms (by omega) (by omega)).mono ?_
          rintro e w16 ⟨rfl, hF⟩
          replace hE := hide (ext_trans hE.out hF)
          clear hF
          go_wp2_with fail
          go_ret
          exact ⟨rfl, hE.out⟩

end Go.Proofs.YtjheeeilcfbdbaaDoor
