/-
  The walk of the law FnExactChainWrite: it returns true for every input at which the listed variable holds its error, and leaves its arguments as they were.
-/
import Derived.Test.YtjheeeilcfbdbaaDoorChain11
import Derived.Test.YtjheeeilcfbdbaaDoorCExact2
import Derived.Test.YtjheeeilcfbdbaaDoorCFrame
import Derived.Test.YtjheeeilcfbdbaaDoorCMark2
import Derived.Deep.DeepCutAuto
set_option linter.all false
set_option maxRecDepth 100000
namespace Go.Proofs.YtjheeeilcfbdbaaDoor
open Go.RowKit
attribute [local go_sem ↓] Go.wp_at_zero Go.wp_at_succ

/-- What stands behind `write, then a new chain for it`: the chain's block g, its nodes. -/
structure EndedC (win w3 : World) (rv : Int) (rl : List Nd) (g : Nat) (A : Option Addr) (c : Nat) : Prop where
  ext : Ext win w3
  blk : Blk w3 g 48 #[.int .i64 rv, .slice A rl.length c]
  ge : win.heap.size ≤ g
  log : ∃ lo hi, Hid (NodesOwn w3 lo hi A c rl) ∧ win.heap.size ≤ lo ∧ hi ≤ w3.heap.size ∧ (g < lo ∨ hi ≤ g)
theorem endedC_last {win wb v : World} {rv : Int} {rl : List Nd} {A : Option Addr} {c : Nat} (h2 : Ext win wb) (h3 : Ext win v) (hW : NodesOwn v wb.heap.size v.heap.size A c rl) :
    EndedC win (v.alloc (.cells #[.int .i64 rv, .slice A rl.length c] 48)) rv rl v.heap.size A c :=
  ⟨ext_alloc h3 _, Blk.new _ _ _, h3.size, _, _, hide (hW.ext (ext_alloc (ext_refl _) _)), h2.size, by simp, .inr (Nat.le_refl _)⟩
theorem endedC_in {win v : World} {rv : Int} {rl : List Nd} {A : Option Addr} {c g lo : Nat} {u0 u1 : Value} (h3 : Ext win v) (hg : win.heap.size ≤ g) (hb : Blk v g 48 #[u0, u1]) (hl : g < lo) (hW : NodesOwn v lo v.heap.size A c rl) :
    EndedC win ((v.setCell ⟨g, 0, none⟩ (.int .i64 rv)).setCell ⟨g, 1, none⟩ (.slice A rl.length c)) rv rl g A c :=
  ⟨(h3.setCell (p := ⟨g, 0, none⟩) hg _).setCell (p := ⟨g, 1, none⟩) hg _, (hb.set20 _).set21 _, hg, lo, v.heap.size,
    hide (hW.turned (Turned.set2 g (.int .i64 rv) (.slice A rl.length c)) (.inr hl)), by omega, by simp, .inl hl⟩
theorem chOk_bulk {v : Int} {ns : List Nd} (h : ChOk v ns) : bulk ns ≤ 1048576 := by
  have h5 := h.2.1
  have := bulk_le 12 ns fun n hn => by
    obtain ⟨i, hi⟩ := List.getElem?_of_mem hn
    exact (ndOk_all (h.at_ hi)).2.2.1
  have : ns.length * 13 ≤ 5 * 13 := Nat.mul_le_mul_right _ h5.2
  omega
theorem writeRes_small {v : Int} {ns : List Nd} {u : Upd} {rv : Int} {rl : List Nd} {rb : Bool} (h : WriteRes v ns u rv rl rb) : bulk rl ≤ 1048576 := by
  rcases h with ⟨x, hT, -, e, -⟩ | ⟨-, -, e, -⟩
  · rw [e]; exact chOk_bulk (writeAt_ok hT)
  · rw [e]; simp [bulk]
set_option maxHeartbeats 6400000 in
theorem fnExactChainWrite.walk (i0 : Int) (a0 : Option Addr) (n0 c0 : Nat) (l0 : List Nd) (ux uy : Int) (w : World) (w0 : NodesArg w a0 n0 c0 l0) (w1 : True) (sa : Addr) (hS0 : SentAt w sa) :
    Calls Tryd.prog 8 #[.agg #[.int .i64 i0, .slice a0 n0 c0], .agg #[.int .i64 ux, .int .i64 uy]] w fun e w' => e = .returned (.bool true) ∧ Below w.heap.size w w' := by
  obtain ⟨rfl, hnc, hcm, hL⟩ := w0
  replace hL := hide hL
  replace hS0 := hide hS0
  have hL0 := hL
  unfold maxLen at hcm
  have hE := hide (ext_refl w)
  have P := hide (Blk.newAt (w) 61 #[.int .i64 i0, .slice a0 l0.length c0] (g := w.heap.size) (by simp))
  replace hL := hide (hL.out.ext (ext_alloc (ext_refl (w)) (.cells #[.int .i64 i0, .slice a0 l0.length c0] 61)))
  replace hE := hide (ext_alloc hE.out (.cells #[.int .i64 i0, .slice a0 l0.length c0] 61))
  have U := hide (Blk.newAt (w.alloc (.cells #[.int .i64 i0, .slice a0 l0.length c0] 61)) 40 #[.int .i64 ux, .int .i64 uy] (g := w.heap.size + 1) (by simp))
  replace hL := hide (hL.out.ext (ext_alloc (ext_refl (w.alloc (.cells #[.int .i64 i0, .slice a0 l0.length c0] 61))) (.cells #[.int .i64 ux, .int .i64 uy] 40)))
  replace P := hide (P.out.ext (ext_alloc (ext_refl (w.alloc (.cells #[.int .i64 i0, .slice a0 l0.length c0] 61))) (.cells #[.int .i64 ux, .int .i64 uy] 40)))
  replace hE := hide (ext_alloc hE.out (.cells #[.int .i64 ux, .int .i64 uy] 40))
  by_cases hn : (1048576 : Int) < (bulk l0 : Int)
  · go_enter Tryd.func8, Tryd.ntmps8
    go_wp2_with fail
    refine (szChain_no c0 i0 1048576 hL.out (by omega) (by omega) (by omega) hn).mono ?_
    rintro e w1 ⟨rfl, hF⟩
    replace hE := hide (ext_trans hE.out hF)
    clear hF
    go_wp2_with fail
    go_ret
    exact ⟨rfl, hE.out⟩
  · have hb : bulk l0 ≤ 1048576 := by omega
    obtain ⟨rv, rl, rb, hs⟩ := writeRes_ex i0 l0 (ux, uy)
    have hms : bulk rl ≤ 1048576 := writeRes_small hs
    have hP1 : ∀ (w' : World) (A : Option Addr) (c : Nat), NodesR w' A l0 → l0.length ≤ c → Calls Tryd.prog 24 #[.agg #[.int .i64 i0, .slice A l0.length c], .agg #[.int .i64 ux, .int .i64 uy]] w' (GotChB w' rv rl rb) := fun w' A c h hlc => specChainWrite_any c i0 ux uy h hb hlc hs
    replace hP1 := hide hP1
    have hP2 : ∀ (w' : World) (A : Option Addr) (c : Nat), SentAt w' sa → NodesR w' A l0 → l0.length ≤ c → Calls Tryd.prog 23 #[.agg #[.int .i64 i0, .slice A l0.length c], .agg #[.int .i64 ux, .int .i64 uy]] w' (GotChB w' rv rl rb) := fun w' A c hq h hlc => implChainWrite_any c i0 ux uy h hb hq hs
    replace hP2 := hide hP2
    clear hs
    go_enter Tryd.func8, Tryd.ntmps8
    go_wp2_with fail
    refine (szChain_yes c0 i0 1048576 hL.out (by omega) (by omega)).mono ?_
    rintro e w1 ⟨rfl, hF⟩
    have s01 := hF.size
    simp only [World.size_alloc] at s01
    replace hL := hide (hL.out.ext hF)
    replace P := hide (P.out.ext hF)
    replace U := hide (U.out.ext hF)
    try clear P_0 P_1 P_lt
    obtain ⟨P_0, P_1, P_lt⟩ := P.out.at2
    try clear U_0 U_1 U_lt
    obtain ⟨U_0, U_1, U_lt⟩ := U.out.at2
    replace hE := hide (ext_trans hE.out hF)
    clear hF
    go_upto_region 5 with fail
    go_cut [6, 7] (fun s6 s7 wx => ∃ (g : Nat) (A : Option Addr) (c : Nat), s6 = .pointer (some ⟨g, 0, none⟩) ∧ s7 = .bool rb ∧ Hid (EndedC w1 wx rv rl g A c))
    case first =>
      try clear P_0 P_1 P_lt
      obtain ⟨P_0, P_1, P_lt⟩ := P.out.at2
      try clear U_0 U_1 U_lt
      obtain ⟨U_0, U_1, U_lt⟩ := U.out.at2
      have hS : ∀ w', Ext w1 w' → w'.cell? ⟨w.heap.size, 0, none⟩ = some (.int .i64 i0) ∧ w'.cell? ⟨w.heap.size, 1, none⟩ = some (.slice a0 l0.length c0) ∧ w'.cell? ⟨w.heap.size + 1, 0, none⟩ = some (.int .i64 ux) ∧ w'.cell? ⟨w.heap.size + 1, 1, none⟩ = some (.int .i64 uy) := fun w' hC => ⟨ext_cell hC P_0, ext_cell hC P_1, ext_cell hC U_0, ext_cell hC U_1⟩
      replace hS := hide hS
      have hEd := hide (show Ext w1 w1.drew from ext_drew (ext_refl _))
      have hEa := hide (show Ext w1 (w1.alloc (.cells #[.int .i64 0, .slice none 0 0] 48)).drew from ext_drew (ext_alloc (ext_refl _) _))
      have bNa := hide (show Blk (w1.alloc (.cells #[.int .i64 0, .slice none 0 0] 48)).drew (w1.heap.size) 48 #[.int .i64 0, .slice none 0 0] from Blk.newAt w1 48 #[.int .i64 0, .slice none 0 0] (g := w1.heap.size) (by first | rfl | simp))
      have hS9 := hide (show SentAt w1 sa from (hS0.out.ext hE.out))
      have bN : True := trivial
      have lN : True := trivial
      go_region_held3 (fun w' => w'.cell? ⟨w.heap.size, 0, none⟩ = some (.int .i64 i0) ∧ w'.cell? ⟨w.heap.size, 1, none⟩ = some (.slice a0 l0.length c0) ∧ w'.cell? ⟨w.heap.size + 1, 0, none⟩ = some (.int .i64 ux) ∧ w'.cell? ⟨w.heap.size + 1, 1, none⟩ = some (.int .i64 uy))
        (first | with_reducible exact hS.out _ ((hF3.setCell (p := ⟨w1.heap.size, 0, none⟩) (by first | exact Nat.le_refl _ | (simp; done)) _).setCell (p := ⟨w1.heap.size, 1, none⟩) (by first | exact Nat.le_refl _ | (simp; done)) _) | with_reducible exact hS.out _ ((hF3.setCell (p := ⟨u1.heap.size, 0, none⟩) hF1.size _).setCell (p := ⟨u1.heap.size, 1, none⟩) hF1.size _) | with_reducible exact hS.out _ ((hF3.setCell (p := ⟨u2.heap.size, 0, none⟩) hF2.size _).setCell (p := ⟨u2.heap.size, 1, none⟩) hF2.size _) | with_reducible exact hS.out _ hF3 | with_reducible exact hS.out _ (ext_alloc hF3 _) | with_reducible exact hS.out _ hF2 | with_reducible exact hS.out _ (ext_alloc hF2 _) | with_reducible exact hS.out _ hF1 | with_reducible exact hS.out _ (ext_alloc hF1 _) | with_reducible exact hS.out _ hEd.out | with_reducible exact hS.out _ hEa.out | with_reducible exact hS.out _ (ext_alloc hEd.out _) | go_keep)
        (first
          | ((go_at_call 30; with_reducible refine (toChain_any (w := w1.drew) c0 i0 (hL.out.ext hEd.out) hb).mono ?_; intro e u1 hG0; obtain ⟨Aa, ca, rfl, hlca, -, hY0, hG⟩ := hG0.use; clear hG0; have hY := hide hY0.out.read; clear hY0; have hYb := ext_refl u1; have hF1 := ext_trans hEd.out hG; clear hG))
          | ((go_at_call 30; with_reducible refine (toChain_any (w := (w1.alloc (.cells #[.int .i64 0, .slice none 0 0] 48)).drew) c0 i0 (hL.out.ext hEa.out) hb).mono ?_; intro e u1 hG0; obtain ⟨Aa, ca, rfl, hlca, -, hY0, hG⟩ := hG0.use; clear hG0; have hY := hide hY0.out.read; clear hY0; have bN := bNa.out.ext hG; have hYb := ext_refl u1; have hF1 := ext_trans hEa.out hG; clear hG))
          | ((go_at_call 18; with_reducible refine (toUpdate_any ux uy u1).mono ?_; rintro e u2 ⟨rfl, hG⟩; (try have bN := Blk.ext bN hG); have hYb := hG; have hF2 := ext_trans hF1 hG; clear hG))
          | ((go_at_call 18; with_reducible refine (toUpdate_any ux uy (u1.alloc _)).mono ?_; rintro e u2 ⟨rfl, hG⟩; have bN := (Blk.new u1 48 #[.int .i64 0, .slice none 0 0]).ext hG; have hYb := ext_trans (ext_alloc (ext_refl _) _) hG; have hF2 := ext_trans (ext_alloc hF1 _) hG; clear hG))
          | ((go_at_call 24; with_reducible refine (hP1.out u2 Aa ca (hY.out.ext hYb) hlca).mono ?_; intro e u3 hG0; obtain ⟨A5, c5, rfl, -, -, hR, hG⟩ := hG0.use; clear hG0; (first | (have lN := Blk.lt bN) | skip); (try have bN := Blk.ext bN hG); have hF3 := ext_trans hF2 hG; clear hG; (first | (have bM := Blk.at2f bN; obtain ⟨n_0, n_1, n_lt, n_f0, n_f1⟩ := bM) | skip)))
          | ((go_at_call 24; with_reducible refine (hP1.out (u2.alloc _) Aa ca (hY.out.ext (ext_alloc hYb _)) hlca).mono ?_; intro e u3 hG0; obtain ⟨A5, c5, rfl, -, -, hR, hG⟩ := hG0.use; clear hG0; have lN := Blk.lt (Blk.new u2 48 #[.int .i64 0, .slice none 0 0]); have bN := (Blk.new u2 48 #[.int .i64 0, .slice none 0 0]).ext hG; have hF3 := ext_trans (ext_alloc hF2 _) hG; clear hG; (first | (have bM := Blk.at2f bN; obtain ⟨n_0, n_1, n_lt, n_f0, n_f1⟩ := bM) | skip))) | fail)
      all_goals go_wp2_with fail
      all_goals go_meet
      all_goals exact ⟨_, A5, c5, rfl, rfl, hide (by first | with_reducible exact endedC_last hF2 hF3 hR.out | with_reducible exact endedC_in hF3 (by first | exact Nat.le_refl _ | (simp; done) | exact hF1.size | exact hF2.size) bN lN hR.out)⟩
    case rest =>
      obtain ⟨gW, A3, c3, rfl, rfl, hEn⟩ := hcut
      obtain ⟨hF, W, hgeW, loW, hiW, hW, hloW, hhiW, hglW⟩ := hEn.out
      clear hEn
      have szw3 := hF.size
      have ltW := W.lt
      rename World => w3
      replace W := hide W
      replace hL := hide (hL.out.ext hF)
      replace P := hide (P.out.ext hF)
      replace U := hide (U.out.ext hF)
      try clear P_0 P_1 P_lt
      obtain ⟨P_0, P_1, P_lt⟩ := P.out.at2
      try clear U_0 U_1 U_lt
      obtain ⟨U_0, U_1, U_lt⟩ := U.out.at2
      replace hE := hide (ext_trans hE.out hF)
      clear hF
      try clear W_0 W_1 W_lt
      obtain ⟨W_0, W_1, W_lt⟩ := W.out.at2
      go_wp2_with fail
      refine (toChain_any c0 i0 hL.out hb).mono ?_
      intro e w4 hG
      obtain ⟨A4, c4, rfl, hlc4, -, hX, hF⟩ := hG.use
      clear hG
      have s34 := hF.size
      replace hL := hide (hL.out.ext hF)
      replace hW := hide (hW.out.ext hF)
      replace P := hide (P.out.ext hF)
      replace U := hide (U.out.ext hF)
      replace W := hide (W.out.ext hF)
      try clear P_0 P_1 P_lt
      obtain ⟨P_0, P_1, P_lt⟩ := P.out.at2
      try clear U_0 U_1 U_lt
      obtain ⟨U_0, U_1, U_lt⟩ := U.out.at2
      try clear W_0 W_1 W_lt
      obtain ⟨W_0, W_1, W_lt⟩ := W.out.at2
      replace hE := hide (ext_trans hE.out hF)
      clear hF
      have X := hide (Blk.newAt (w4) 48 #[.int .i64 i0, .slice A4 l0.length c4] (g := (w4).heap.size) (by simp))
      replace hL := hide (hL.out.ext (ext_alloc (ext_refl (w4)) (.cells #[.int .i64 i0, .slice A4 l0.length c4] 48)))
      replace hW := hide (hW.out.ext (ext_alloc (ext_refl (w4)) (.cells #[.int .i64 i0, .slice A4 l0.length c4] 48)))
      replace hX := hide (hX.out.ext (ext_alloc (ext_refl (w4)) (.cells #[.int .i64 i0, .slice A4 l0.length c4] 48)))
      replace P := hide (P.out.ext (ext_alloc (ext_refl (w4)) (.cells #[.int .i64 i0, .slice A4 l0.length c4] 48)))
      replace U := hide (U.out.ext (ext_alloc (ext_refl (w4)) (.cells #[.int .i64 i0, .slice A4 l0.length c4] 48)))
      replace W := hide (W.out.ext (ext_alloc (ext_refl (w4)) (.cells #[.int .i64 i0, .slice A4 l0.length c4] 48)))
      replace hE := hide (ext_alloc hE.out (.cells #[.int .i64 i0, .slice A4 l0.length c4] 48))
      go_upto_region 7 with fail
      go_cut [9, 10] (fun s9 s10 wx => ∃ (g : Nat) (A : Option Addr) (c : Nat), s9 = .pointer (some ⟨g, 0, none⟩) ∧ s10 = .bool rb ∧ Hid (EndedC (w4.alloc (.cells #[.int .i64 i0, .slice A4 l0.length c4] 48)) wx rv rl g A c))
      case first =>
        try clear X_0 X_1 X_lt
        obtain ⟨X_0, X_1, X_lt⟩ := X.out.at2
        try clear U_0 U_1 U_lt
        obtain ⟨U_0, U_1, U_lt⟩ := U.out.at2
        have hS : ∀ w', Ext (w4.alloc (.cells #[.int .i64 i0, .slice A4 l0.length c4] 48)) w' → w'.cell? ⟨w4.heap.size, 0, none⟩ = some (.int .i64 i0) ∧ w'.cell? ⟨w4.heap.size, 1, none⟩ = some (.slice A4 l0.length c4) ∧ w'.cell? ⟨w.heap.size + 1, 0, none⟩ = some (.int .i64 ux) ∧ w'.cell? ⟨w.heap.size + 1, 1, none⟩ = some (.int .i64 uy) := fun w' hC => ⟨ext_cell hC X_0, ext_cell hC X_1, ext_cell hC U_0, ext_cell hC U_1⟩
        replace hS := hide hS
        have hEd := hide (show Ext (w4.alloc (.cells #[.int .i64 i0, .slice A4 l0.length c4] 48)) (w4.alloc (.cells #[.int .i64 i0, .slice A4 l0.length c4] 48)).drew from ext_drew (ext_refl _))
        have hEa := hide (show Ext (w4.alloc (.cells #[.int .i64 i0, .slice A4 l0.length c4] 48)) ((w4.alloc (.cells #[.int .i64 i0, .slice A4 l0.length c4] 48)).alloc (.cells #[.int .i64 0, .slice none 0 0] 48)).drew from ext_drew (ext_alloc (ext_refl _) _))
        have bNa := hide (show Blk ((w4.alloc (.cells #[.int .i64 i0, .slice A4 l0.length c4] 48)).alloc (.cells #[.int .i64 0, .slice none 0 0] 48)).drew (w4.heap.size + 1) 48 #[.int .i64 0, .slice none 0 0] from Blk.newAt (w4.alloc (.cells #[.int .i64 i0, .slice A4 l0.length c4] 48)) 48 #[.int .i64 0, .slice none 0 0] (g := w4.heap.size + 1) (by first | rfl | simp))
        have hS9 := hide (show SentAt (w4.alloc (.cells #[.int .i64 i0, .slice A4 l0.length c4] 48)) sa from (hS0.out.ext hE.out))
        have bN : True := trivial
        have lN : True := trivial
        go_region_held3 (fun w' => w'.cell? ⟨w4.heap.size, 0, none⟩ = some (.int .i64 i0) ∧ w'.cell? ⟨w4.heap.size, 1, none⟩ = some (.slice A4 l0.length c4) ∧ w'.cell? ⟨w.heap.size + 1, 0, none⟩ = some (.int .i64 ux) ∧ w'.cell? ⟨w.heap.size + 1, 1, none⟩ = some (.int .i64 uy))
          (first | with_reducible exact hS.out _ ((hF2.setCell (p := ⟨w4.heap.size + 1, 0, none⟩) (by first | exact Nat.le_refl _ | (simp; done)) _).setCell (p := ⟨w4.heap.size + 1, 1, none⟩) (by first | exact Nat.le_refl _ | (simp; done)) _) | with_reducible exact hS.out _ ((hF2.setCell (p := ⟨u1.heap.size, 0, none⟩) hF1.size _).setCell (p := ⟨u1.heap.size, 1, none⟩) hF1.size _) | with_reducible exact hS.out _ hF2 | with_reducible exact hS.out _ (ext_alloc hF2 _) | with_reducible exact hS.out _ hF1 | with_reducible exact hS.out _ (ext_alloc hF1 _) | with_reducible exact hS.out _ hEd.out | with_reducible exact hS.out _ hEa.out | with_reducible exact hS.out _ (ext_alloc hEd.out _) | go_keep)
          (first
            | ((go_at_call 18; with_reducible refine (toUpdate_any ux uy (w4.alloc (.cells #[.int .i64 i0, .slice A4 l0.length c4] 48)).drew).mono ?_; rintro e u1 ⟨rfl, hG⟩; have hF1 := ext_trans hEd.out hG; clear hG))
            | ((go_at_call 18; with_reducible refine (toUpdate_any ux uy ((w4.alloc (.cells #[.int .i64 i0, .slice A4 l0.length c4] 48)).alloc (.cells #[.int .i64 0, .slice none 0 0] 48)).drew).mono ?_; rintro e u1 ⟨rfl, hG⟩; have bN := bNa.out.ext hG; have hF1 := ext_trans hEa.out hG; clear hG))
            | ((go_at_call 23; with_reducible refine (hP2.out u1 A4 c4 (hS9.out.ext hF1) (NodesR.ext hX.out.read hF1) hlc4).mono ?_; intro e u2 hG0; obtain ⟨A5, c5, rfl, -, -, hR, hG⟩ := hG0.use; clear hG0; (first | (have lN := Blk.lt bN) | skip); (try have bN := Blk.ext bN hG); have hF2 := ext_trans hF1 hG; clear hG; (first | (have bM := Blk.at2f bN; obtain ⟨n_0, n_1, n_lt, n_f0, n_f1⟩ := bM) | skip)))
            | ((go_at_call 23; with_reducible refine (hP2.out (u1.alloc _) A4 c4 (hS9.out.ext (ext_alloc hF1 _)) (NodesR.ext hX.out.read (ext_alloc hF1 _)) hlc4).mono ?_; intro e u2 hG0; obtain ⟨A5, c5, rfl, -, -, hR, hG⟩ := hG0.use; clear hG0; have lN := Blk.lt (Blk.new u1 48 #[.int .i64 0, .slice none 0 0]); have bN := (Blk.new u1 48 #[.int .i64 0, .slice none 0 0]).ext hG; have hF2 := ext_trans (ext_alloc hF1 _) hG; clear hG; (first | (have bM := Blk.at2f bN; obtain ⟨n_0, n_1, n_lt, n_f0, n_f1⟩ := bM) | skip))) | fail)
        all_goals go_wp2_with fail
        all_goals go_meet
        all_goals exact ⟨_, A5, c5, rfl, rfl, hide (by first | with_reducible exact endedC_last hF1 hF2 hR.out | with_reducible exact endedC_in hF2 (by first | exact Nat.le_refl _ | (simp; done) | exact hF1.size) bN lN hR.out)⟩
      case rest =>
        obtain ⟨gG, A5, c5, rfl, rfl, hEn⟩ := hcut
        obtain ⟨hF, G, hgeG, loG, hiG, hR, hloG, hhiG, hglG⟩ := hEn.out
        clear hEn
        have szw5 := hF.size
        have ltG := G.lt
        rename World => w5
        replace G := hide G
        replace hL := hide (hL.out.ext hF)
        replace hW := hide (hW.out.ext hF)
        replace hX := hide (hX.out.ext hF)
        replace P := hide (P.out.ext hF)
        replace U := hide (U.out.ext hF)
        replace W := hide (W.out.ext hF)
        replace X := hide (X.out.ext hF)
        try clear P_0 P_1 P_lt
        obtain ⟨P_0, P_1, P_lt⟩ := P.out.at2
        try clear U_0 U_1 U_lt
        obtain ⟨U_0, U_1, U_lt⟩ := U.out.at2
        try clear W_0 W_1 W_lt
        obtain ⟨W_0, W_1, W_lt⟩ := W.out.at2
        try clear X_0 X_1 X_lt
        obtain ⟨X_0, X_1, X_lt⟩ := X.out.at2
        replace hE := hide (ext_trans hE.out hF)
        clear hF
        try clear G_0 G_1 G_lt
        obtain ⟨G_0, G_1, G_lt⟩ := G.out.at2
        simp only [World.size_alloc] at szw5 hgeG hloG
        go_wp2_with fail
        refine (eqChain_same c5 c3 rv hR.out.read hW.out.read hms).mono ?_
        rintro e w6 ⟨rfl, hF⟩
        have s6 := hF.size
        try simp only [World.size_alloc] at s6
        replace hL := hide (hL.out.ext hF)
        replace hW := hide (hW.out.ext hF)
        replace hX := hide (hX.out.ext hF)
        replace hR := hide (hR.out.ext hF)
        replace P := hide (P.out.ext hF)
        replace U := hide (U.out.ext hF)
        replace W := hide (W.out.ext hF)
        replace X := hide (X.out.ext hF)
        replace G := hide (G.out.ext hF)
        try clear P_0 P_1 P_lt
        obtain ⟨P_0, P_1, P_lt⟩ := P.out.at2
        try clear U_0 U_1 U_lt
        obtain ⟨U_0, U_1, U_lt⟩ := U.out.at2
        try clear W_0 W_1 W_lt
        obtain ⟨W_0, W_1, W_lt⟩ := W.out.at2
        try clear X_0 X_1 X_lt
        obtain ⟨X_0, X_1, X_lt⟩ := X.out.at2
        try clear G_0 G_1 G_lt
        obtain ⟨G_0, G_1, G_lt⟩ := G.out.at2
        replace hE := hide (ext_trans hE.out hF)
        clear hF
        go_wp2_with fail
        have hLd := hide (show NodesR w6.drew a0 l0 from hL.out)
        have hXd := hide (show NodesR w6.drew A4 l0 from hX.out.read)
        have bX := hide (show Blk w6.drew w4.heap.size 48 #[.int .i64 i0, .slice A4 l0.length c4] from X.out)
        have bP := hide (show Blk w6.drew w.heap.size 61 #[.int .i64 i0, .slice a0 l0.length c0] from P.out)
        go_region_held3 (fun w' => (w'.cell? ⟨w4.heap.size, 0, none⟩ = some (.int .i64 i0) ∧ w'.cell? ⟨w4.heap.size, 1, none⟩ = some (.slice A4 l0.length c4) ∧ w4.heap.size < w'.heap.size) ∧ (w'.cell? ⟨w.heap.size, 0, none⟩ = some (.int .i64 i0) ∧ w'.cell? ⟨w.heap.size, 1, none⟩ = some (.slice a0 l0.length c0) ∧ w.heap.size < w'.heap.size))
          (first | exact ⟨bX2.at2, bP2.at2⟩ | exact ⟨bX1.at2, bP1.at2⟩ | exact ⟨bX.out.at2, bP.out.at2⟩ | go_keep)
          (first
            | ((go_at_call 30; refine (toChain_any c0 i0 hLd.out hb).mono ?_; intro e w7 hG; obtain ⟨A7, c7, rfl, -, -, hY, hF1⟩ := hG.use; clear hG; have bX1 := bX.out.ext hF1; have bP1 := bP.out.ext hF1))
            | ((go_at_call 31; refine (eqChain_same c4 c7 i0 (hXd.out.ext hF1) hY.out.read hb).mono ?_; rintro e w8 ⟨rfl, hF2⟩; have bX2 := bX1.ext hF2; have bP2 := bP1.ext hF2)))
        have hF : Ext w6 w8 := ext_trans (ext_over (ext_refl w6) hF1 rfl rfl rfl rfl) hF2
        clear hF1 hF2 bX1 bX2 bP1 bP2 bX bP hXd hLd hY
        have s8 := hF.size
        replace hL := hide (hL.out.ext hF)
        replace hW := hide (hW.out.ext hF)
        replace hX := hide (hX.out.ext hF)
        replace hR := hide (hR.out.ext hF)
        replace P := hide (P.out.ext hF)
        replace U := hide (U.out.ext hF)
        replace W := hide (W.out.ext hF)
        replace X := hide (X.out.ext hF)
        replace G := hide (G.out.ext hF)
        try clear P_0 P_1 P_lt
        obtain ⟨P_0, P_1, P_lt⟩ := P.out.at2
        try clear U_0 U_1 U_lt
        obtain ⟨U_0, U_1, U_lt⟩ := U.out.at2
        try clear W_0 W_1 W_lt
        obtain ⟨W_0, W_1, W_lt⟩ := W.out.at2
        try clear X_0 X_1 X_lt
        obtain ⟨X_0, X_1, X_lt⟩ := X.out.at2
        try clear G_0 G_1 G_lt
        obtain ⟨G_0, G_1, G_lt⟩ := G.out.at2
        replace hE := hide (ext_trans hE.out hF)
        clear hF
        go_wp2_with fail
        refine (markChain_in i0 1 hX.out hb (by omega) (by omega)).mono ?_
        rintro e w9 ⟨rfl, -, ht⟩
        clear hX hL
        have s9 := ht.size
        replace hW := hide (hW.out.turned ht (by omega))
        replace hR := hide (hR.out.turned ht (by omega))
        replace P := hide (P.out.turned ht (by omega))
        replace U := hide (U.out.turned ht (by omega))
        replace W := hide (W.out.turned ht (by omega))
        replace X := hide (X.out.turned ht (by omega))
        replace G := hide (G.out.turned ht (by omega))
        try clear P_0 P_1 P_lt
        obtain ⟨P_0, P_1, P_lt⟩ := P.out.at2
        try clear U_0 U_1 U_lt
        obtain ⟨U_0, U_1, U_lt⟩ := U.out.at2
        try clear W_0 W_1 W_lt
        obtain ⟨W_0, W_1, W_lt⟩ := W.out.at2
        try clear X_0 X_1 X_lt
        obtain ⟨X_0, X_1, X_lt⟩ := X.out.at2
        try clear G_0 G_1 G_lt
        obtain ⟨G_0, G_1, G_lt⟩ := G.out.at2
        replace hE := hide (Turned.ext hE.out ht (by omega))
        clear ht
        go_wp2_with fail
        refine (eqChain_same c5 c3 rv hR.out.read hW.out.read hms).mono ?_
        rintro e w10 ⟨rfl, hF⟩
        have s10 := hF.size
        try simp only [World.size_alloc] at s10
        replace hW := hide (hW.out.ext hF)
        replace hR := hide (hR.out.ext hF)
        replace P := hide (P.out.ext hF)
        replace U := hide (U.out.ext hF)
        replace W := hide (W.out.ext hF)
        replace X := hide (X.out.ext hF)
        replace G := hide (G.out.ext hF)
        try clear P_0 P_1 P_lt
        obtain ⟨P_0, P_1, P_lt⟩ := P.out.at2
        try clear U_0 U_1 U_lt
        obtain ⟨U_0, U_1, U_lt⟩ := U.out.at2
        try clear W_0 W_1 W_lt
        obtain ⟨W_0, W_1, W_lt⟩ := W.out.at2
        try clear X_0 X_1 X_lt
        obtain ⟨X_0, X_1, X_lt⟩ := X.out.at2
        try clear G_0 G_1 G_lt
        obtain ⟨G_0, G_1, G_lt⟩ := G.out.at2
        replace hE := hide (ext_trans hE.out hF)
        clear hF
        go_wp2_with fail
        refine (markChain_in rv 1 hR.out hms (by omega) (by omega)).mono ?_
        rintro e w11 ⟨rfl, hR', ht⟩
        replace hR' := hide hR'
        clear hR
        have s11 := ht.size
        replace hW := hide (hW.out.turned ht (by omega))
        replace P := hide (P.out.turned ht (by omega))
        replace U := hide (U.out.turned ht (by omega))
        replace W := hide (W.out.turned ht (by omega))
        replace X := hide (X.out.turned ht (by omega))
        replace G := hide (G.out.turned ht (by omega))
        try clear P_0 P_1 P_lt
        obtain ⟨P_0, P_1, P_lt⟩ := P.out.at2
        try clear U_0 U_1 U_lt
        obtain ⟨U_0, U_1, U_lt⟩ := U.out.at2
        try clear W_0 W_1 W_lt
        obtain ⟨W_0, W_1, W_lt⟩ := W.out.at2
        try clear X_0 X_1 X_lt
        obtain ⟨X_0, X_1, X_lt⟩ := X.out.at2
        try clear G_0 G_1 G_lt
        obtain ⟨G_0, G_1, G_lt⟩ := G.out.at2
        replace hE := hide (Turned.ext hE.out ht (by omega))
        clear ht
        go_wp2_with fail
        refine (heldChain_any (ns := rl) (n := rl.length) c5 rv 1 (hide rfl) hR'.out.read hms (by omega) (by omega)).mono ?_
        rintro e w12 ⟨rfl, hF⟩
        replace hW := hide (hW.out.ext hF)
        replace hR' := hide (hR'.out.ext hF)
        replace P := hide (P.out.ext hF)
        replace U := hide (U.out.ext hF)
        replace W := hide (W.out.ext hF)
        replace X := hide (X.out.ext hF)
        replace G := hide (G.out.ext hF)
        try clear P_0 P_1 P_lt
        obtain ⟨P_0, P_1, P_lt⟩ := P.out.at2
        try clear U_0 U_1 U_lt
        obtain ⟨U_0, U_1, U_lt⟩ := U.out.at2
        try clear W_0 W_1 W_lt
        obtain ⟨W_0, W_1, W_lt⟩ := W.out.at2
        try clear X_0 X_1 X_lt
        obtain ⟨X_0, X_1, X_lt⟩ := X.out.at2
        try clear G_0 G_1 G_lt
        obtain ⟨G_0, G_1, G_lt⟩ := G.out.at2
        replace hE := hide (ext_trans hE.out hF)
        clear hF
        have hL := hide (hL0.out.ext hE.out)
        go_upto_region 24 with fail
        go_cut [14, 15] (fun s14 s15 wx => ∃ (g : Nat) (A : Option Addr) (c : Nat), s14 = .pointer (some ⟨g, 0, none⟩) ∧ s15 = .bool rb ∧ Hid (EndedC w12 wx rv rl g A c))
        case first =>
          try clear P_0 P_1 P_lt
          obtain ⟨P_0, P_1, P_lt⟩ := P.out.at2
          try clear U_0 U_1 U_lt
          obtain ⟨U_0, U_1, U_lt⟩ := U.out.at2
          have hS : ∀ w', Ext w12 w' → w'.cell? ⟨w.heap.size, 0, none⟩ = some (.int .i64 i0) ∧ w'.cell? ⟨w.heap.size, 1, none⟩ = some (.slice a0 l0.length c0) ∧ w'.cell? ⟨w.heap.size + 1, 0, none⟩ = some (.int .i64 ux) ∧ w'.cell? ⟨w.heap.size + 1, 1, none⟩ = some (.int .i64 uy) := fun w' hC => ⟨ext_cell hC P_0, ext_cell hC P_1, ext_cell hC U_0, ext_cell hC U_1⟩
          replace hS := hide hS
          have hEd := hide (show Ext w12 w12.drew from ext_drew (ext_refl _))
          have hEa := hide (show Ext w12 (w12.alloc (.cells #[.int .i64 0, .slice none 0 0] 48)).drew from ext_drew (ext_alloc (ext_refl _) _))
          have bNa := hide (show Blk (w12.alloc (.cells #[.int .i64 0, .slice none 0 0] 48)).drew (w12.heap.size) 48 #[.int .i64 0, .slice none 0 0] from Blk.newAt w12 48 #[.int .i64 0, .slice none 0 0] (g := w12.heap.size) (by first | rfl | simp))
          have hS9 := hide (show SentAt w12 sa from (hS0.out.ext hE.out))
          have bN : True := trivial
          have lN : True := trivial
          go_region_held3 (fun w' => w'.cell? ⟨w.heap.size, 0, none⟩ = some (.int .i64 i0) ∧ w'.cell? ⟨w.heap.size, 1, none⟩ = some (.slice a0 l0.length c0) ∧ w'.cell? ⟨w.heap.size + 1, 0, none⟩ = some (.int .i64 ux) ∧ w'.cell? ⟨w.heap.size + 1, 1, none⟩ = some (.int .i64 uy))
            (first | with_reducible exact hS.out _ ((hF3.setCell (p := ⟨w12.heap.size, 0, none⟩) (by first | exact Nat.le_refl _ | (simp; done)) _).setCell (p := ⟨w12.heap.size, 1, none⟩) (by first | exact Nat.le_refl _ | (simp; done)) _) | with_reducible exact hS.out _ ((hF3.setCell (p := ⟨u1.heap.size, 0, none⟩) hF1.size _).setCell (p := ⟨u1.heap.size, 1, none⟩) hF1.size _) | with_reducible exact hS.out _ ((hF3.setCell (p := ⟨u2.heap.size, 0, none⟩) hF2.size _).setCell (p := ⟨u2.heap.size, 1, none⟩) hF2.size _) | with_reducible exact hS.out _ hF3 | with_reducible exact hS.out _ (ext_alloc hF3 _) | with_reducible exact hS.out _ hF2 | with_reducible exact hS.out _ (ext_alloc hF2 _) | with_reducible exact hS.out _ hF1 | with_reducible exact hS.out _ (ext_alloc hF1 _) | with_reducible exact hS.out _ hEd.out | with_reducible exact hS.out _ hEa.out | with_reducible exact hS.out _ (ext_alloc hEd.out _) | go_keep)
            (first
              | ((go_at_call 30; with_reducible refine (toChain_any (w := w12.drew) c0 i0 (hL.out.ext hEd.out) hb).mono ?_; intro e u1 hG0; obtain ⟨Aa, ca, rfl, hlca, -, hY0, hG⟩ := hG0.use; clear hG0; have hY := hide hY0.out.read; clear hY0; have hYb := ext_refl u1; have hF1 := ext_trans hEd.out hG; clear hG))
              | ((go_at_call 30; with_reducible refine (toChain_any (w := (w12.alloc (.cells #[.int .i64 0, .slice none 0 0] 48)).drew) c0 i0 (hL.out.ext hEa.out) hb).mono ?_; intro e u1 hG0; obtain ⟨Aa, ca, rfl, hlca, -, hY0, hG⟩ := hG0.use; clear hG0; have hY := hide hY0.out.read; clear hY0; have bN := bNa.out.ext hG; have hYb := ext_refl u1; have hF1 := ext_trans hEa.out hG; clear hG))
              | ((go_at_call 18; with_reducible refine (toUpdate_any ux uy u1).mono ?_; rintro e u2 ⟨rfl, hG⟩; (try have bN := Blk.ext bN hG); have hYb := hG; have hF2 := ext_trans hF1 hG; clear hG))
              | ((go_at_call 18; with_reducible refine (toUpdate_any ux uy (u1.alloc _)).mono ?_; rintro e u2 ⟨rfl, hG⟩; have bN := (Blk.new u1 48 #[.int .i64 0, .slice none 0 0]).ext hG; have hYb := ext_trans (ext_alloc (ext_refl _) _) hG; have hF2 := ext_trans (ext_alloc hF1 _) hG; clear hG))
              | ((go_at_call 23; with_reducible refine (hP2.out u2 Aa ca (hS9.out.ext hF2) (hY.out.ext hYb) hlca).mono ?_; intro e u3 hG0; obtain ⟨A5, c5, rfl, -, -, hR, hG⟩ := hG0.use; clear hG0; (first | (have lN := Blk.lt bN) | skip); (try have bN := Blk.ext bN hG); have hF3 := ext_trans hF2 hG; clear hG; (first | (have bM := Blk.at2f bN; obtain ⟨n_0, n_1, n_lt, n_f0, n_f1⟩ := bM) | skip)))
              | ((go_at_call 23; with_reducible refine (hP2.out (u2.alloc _) Aa ca (hS9.out.ext (ext_alloc hF2 _)) (hY.out.ext (ext_alloc hYb _)) hlca).mono ?_; intro e u3 hG0; obtain ⟨A5, c5, rfl, -, -, hR, hG⟩ := hG0.use; clear hG0; have lN := Blk.lt (Blk.new u2 48 #[.int .i64 0, .slice none 0 0]); have bN := (Blk.new u2 48 #[.int .i64 0, .slice none 0 0]).ext hG; have hF3 := ext_trans (ext_alloc hF2 _) hG; clear hG; (first | (have bM := Blk.at2f bN; obtain ⟨n_0, n_1, n_lt, n_f0, n_f1⟩ := bM) | skip))) | fail)
          all_goals go_wp2_with fail
          all_goals go_meet
          all_goals exact ⟨_, A5, c5, rfl, rfl, hide (by first | with_reducible exact endedC_last hF2 hF3 hR.out | with_reducible exact endedC_in hF3 (by first | exact Nat.le_refl _ | (simp; done) | exact hF1.size | exact hF2.size) bN lN hR.out)⟩
        case rest =>
          obtain ⟨gZ, A14, c14, rfl, rfl, hEn⟩ := hcut
          obtain ⟨hF, Z, hgeZ, loZ, hiZ, hH, hloZ, hhiZ, hglZ⟩ := hEn.out
          clear hEn
          have szw14 := hF.size
          have ltZ := Z.lt
          rename World => w14
          replace Z := hide Z
          replace hW := hide (hW.out.ext hF)
          replace hR' := hide (hR'.out.ext hF)
          replace W := hide (W.out.ext hF)
          replace G := hide (G.out.ext hF)
          try clear W_0 W_1 W_lt
          obtain ⟨W_0, W_1, W_lt⟩ := W.out.at2
          try clear G_0 G_1 G_lt
          obtain ⟨G_0, G_1, G_lt⟩ := G.out.at2
          replace hE := hide (ext_trans hE.out hF)
          clear hF
          try clear Z_0 Z_1 Z_lt
          obtain ⟨Z_0, Z_1, Z_lt⟩ := Z.out.at2
          go_wp2_with fail
          refine (eqChain_same c14 c3 rv hH.out.read hW.out.read hms).mono ?_
          rintro e w15 ⟨rfl, hF⟩
          have s15 := hF.size
          try simp only [World.size_alloc] at s15
          replace hW := hide (hW.out.ext hF)
          replace hR' := hide (hR'.out.ext hF)
          replace hH := hide (hH.out.ext hF)
          replace W := hide (W.out.ext hF)
          replace G := hide (G.out.ext hF)
          replace Z := hide (Z.out.ext hF)
          try clear W_0 W_1 W_lt
          obtain ⟨W_0, W_1, W_lt⟩ := W.out.at2
          try clear G_0 G_1 G_lt
          obtain ⟨G_0, G_1, G_lt⟩ := G.out.at2
          try clear Z_0 Z_1 Z_lt
          obtain ⟨Z_0, Z_1, Z_lt⟩ := Z.out.at2
          replace hE := hide (ext_trans hE.out hF)
          clear hF
          go_wp2_with fail
          refine (heldChain_any (ns := rl) (n := rl.length) c5 rv 1 (hide rfl) hR'.out.read hms (by omega) (by omega)).mono ?_
          rintro e w16 ⟨rfl, hF⟩
          replace hE := hide (ext_trans hE.out hF)
          clear hF
          go_wp2_with fail
          go_ret
          exact ⟨rfl, hE.out⟩
end Go.Proofs.YtjheeeilcfbdbaaDoor
