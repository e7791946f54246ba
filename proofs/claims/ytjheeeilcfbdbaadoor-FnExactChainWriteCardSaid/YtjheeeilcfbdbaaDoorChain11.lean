/-
  Contracts: writing to a chain, both.
-/
import Derived.Test.YtjheeeilcfbdbaaDoorChain10
import Derived.Test.YtjheeeilcfbdbaaDoorBChain
set_option linter.all false
set_option maxRecDepth 100000
namespace Go.Proofs.YtjheeeilcfbdbaaDoor
open Go.RowKit
attribute [local go_sem ↓] Go.wp_at_zero Go.wp_at_succ


theorem write_take {v : Int} {ns : List Nd} {u : Upd} {rv : Int} {rl : List Nd} {rb : Bool} (h : WriteRes v ns u rv rl rb) (hok : ChOk v ns) : ∃ x, ns[0]? = some x ∧ TakeRes v ns 0 x u rv rl rb := by
  have h1 := hok.2.1
  obtain ⟨x, hx⟩ : ∃ x, ns[0]? = some x := ⟨_, List.getElem?_eq_getElem (by omega)⟩
  have hnd := hok.at_ hx
  rcases h with ⟨x', ⟨-, hx', hu, hl⟩, e1, e2, e3⟩ | ⟨hno, e1, e2, e3⟩
  · rw [hx] at hx'
    cases hx'
    exact ⟨x, hx, .inl ⟨takeOk_mk hnd hu hl, e1, by rw [e2, written_grown], e3⟩⟩
  · refine ⟨x, hx, .inr ⟨?_, e1, e2, e3⟩⟩
    cases ht : takeOk x u with
    | false => rfl
    | true =>
      obtain ⟨q1, q2, q3⟩ := takeOk_yes ht
      exact absurd ⟨x, hok, hx, q2, q3⟩ hno
theorem write_bad {v : Int} {ns : List Nd} {u : Upd} {rv : Int} {rl : List Nd} {rb : Bool} (h : WriteRes v ns u rv rl rb) (hok : ¬ ChOk v ns) : rv = 0 ∧ rl = [] ∧ rb = false := by
  rcases h with ⟨x', ⟨h, -⟩, -⟩ | ⟨-, e⟩
  · exact absurd h hok
  · exact e
set_option maxHeartbeats 3200000 in
theorem specChainWrite_any {A : Option Addr} {ns : List Nd} {rv : Int} {rl : List Nd} {rb : Bool} (c : Nat) (v ux uy : Int) {w : World} (h : NodesR w A ns) (hb : bulk ns ≤ 1048576) (hlc : ns.length ≤ c) (hs : WriteRes v ns (ux, uy) rv rl rb) :
    Calls Tryd.prog 24 #[.agg #[.int .i64 v, .slice A ns.length c], .agg #[.int .i64 ux, .int .i64 uy]] w (GotChB w rv rl rb) := by
  have hl := bulk_len ns
  have hE := hide (ext_refl w)
  replace h := hide h
  have b := hide (Blk.newAt (w) 48 #[.int .i64 v, .slice A ns.length c] (g := w.heap.size) (by simp))
  replace h := hide (h.out.ext (ext_alloc (ext_refl (w)) (.cells #[.int .i64 v, .slice A ns.length c] 48)))
  replace hE := hide (ext_alloc hE.out (.cells #[.int .i64 v, .slice A ns.length c] 48))
  have u := hide (Blk.newAt ((w.alloc (.cells #[.int .i64 v, .slice A ns.length c] 48))) 27 #[.int .i64 ux, .int .i64 uy] (g := w.heap.size + 1) (by simp))
  replace h := hide (h.out.ext (ext_alloc (ext_refl ((w.alloc (.cells #[.int .i64 v, .slice A ns.length c] 48)))) (.cells #[.int .i64 ux, .int .i64 uy] 27)))
  replace b := hide (b.out.ext (ext_alloc (ext_refl ((w.alloc (.cells #[.int .i64 v, .slice A ns.length c] 48)))) (.cells #[.int .i64 ux, .int .i64 uy] 27)))
  replace hE := hide (ext_alloc hE.out (.cells #[.int .i64 ux, .int .i64 uy] 27))
  have r := hide (Blk.newAt (((w.alloc (.cells #[.int .i64 v, .slice A ns.length c] 48)).alloc (.cells #[.int .i64 ux, .int .i64 uy] 27))) 48 #[.int .i64 0, .slice none 0 0] (g := w.heap.size + 1 + 1) (by simp))
  replace h := hide (h.out.ext (ext_alloc (ext_refl (((w.alloc (.cells #[.int .i64 v, .slice A ns.length c] 48)).alloc (.cells #[.int .i64 ux, .int .i64 uy] 27)))) (.cells #[.int .i64 0, .slice none 0 0] 48)))
  replace b := hide (b.out.ext (ext_alloc (ext_refl (((w.alloc (.cells #[.int .i64 v, .slice A ns.length c] 48)).alloc (.cells #[.int .i64 ux, .int .i64 uy] 27)))) (.cells #[.int .i64 0, .slice none 0 0] 48)))
  replace u := hide (u.out.ext (ext_alloc (ext_refl (((w.alloc (.cells #[.int .i64 v, .slice A ns.length c] 48)).alloc (.cells #[.int .i64 ux, .int .i64 uy] 27)))) (.cells #[.int .i64 0, .slice none 0 0] 48)))
  replace hE := hide (ext_alloc hE.out (.cells #[.int .i64 0, .slice none 0 0] 48))
  by_cases hok : ChOk v ns
  · obtain ⟨x, hx, hT⟩ := write_take hs hok
    clear hs
    replace hok := hide hok
    replace hT := hide hT
    replace hx := hide hx
    go_enter Tryd.func24, Tryd.ntmps24
    go_wp2_with fail
    refine (specChainValid_yes c v h.out hb hlc hok.out).mono ?_
    rintro e w1 ⟨rfl, hF⟩
    replace h := hide (h.out.ext hF)
    replace b := hide (b.out.ext hF)
    replace u := hide (u.out.ext hF)
    replace r := hide (r.out.ext hF)
    try clear b_0 b_1 b_lt
    obtain ⟨b_0, b_1, b_lt⟩ := b.out.at2
    try clear u_0 u_1 u_lt
    obtain ⟨u_0, u_1, u_lt⟩ := u.out.at2
    try clear r_0 r_1 r_lt r_f0 r_f1
    obtain ⟨r_0, r_1, r_lt, r_f0, r_f1⟩ := r.out.at2f
    replace hE := hide (ext_trans hE.out hF)
    clear hF
    go_wp2_with fail
    refine (l4Take_any (k := 0) c v ux uy h.out hb hx.out hT.out).mono ?_
    intro e w2 hG
    obtain ⟨A2, c2, rfl, -, -, hP, hF⟩ := hG.use
    clear hG
    obtain ⟨n2, hn2⟩ : ∃ n, rl.length = n := ⟨_, rfl⟩
    rw [hn2]
    replace hn2 := hide hn2
    have hz1 := hE.out.size
    have hlo : w.heap.size ≤ w1.heap.size := hz1
    replace b := hide (b.out.ext hF)
    replace u := hide (u.out.ext hF)
    replace r := hide (r.out.ext hF)
    try clear b_0 b_1 b_lt
    obtain ⟨b_0, b_1, b_lt⟩ := b.out.at2
    try clear u_0 u_1 u_lt
    obtain ⟨u_0, u_1, u_lt⟩ := u.out.at2
    try clear r_0 r_1 r_lt r_f0 r_f1
    obtain ⟨r_0, r_1, r_lt, r_f0, r_f1⟩ := r.out.at2f
    replace hE := hide (ext_trans hE.out hF)
    clear hF
    have r3 := hide ((r.out.set20 (.int .i64 rv)).set21 (.slice A2 n2 c2))
    try clear r3_0 r3_1 r3_lt r3_f0 r3_f1
    obtain ⟨r3_0, r3_1, r3_lt, r3_f0, r3_f1⟩ := r3.out.at2f
    go_wp2_with fail
    refine bodyPost_ret (v := .tuple #[.agg #[.int .i64 rv, .slice A2 n2 c2], .bool rb]) (by simp [results, Tryd.results24, go_sem, r3_0, r3_1, r_0, r_1, r_lt]) rfl ?_
    exact gotChB_of rfl rfl rfl hn2.out ((hP.out.handed r.out _ _).wide hlo (by simp [World.setCell])) ((hE.out.setCell (show w.heap.size ≤ w.heap.size + 1 + 1 by omega) _).setCell (show w.heap.size ≤ w.heap.size + 1 + 1 by omega) _)
  · obtain ⟨e1, e2, e3⟩ := write_bad hs hok
    clear hs
    replace hok := hide hok
    replace e1 := hide e1
    replace e2 := hide e2
    replace e3 := hide e3
    go_enter Tryd.func24, Tryd.ntmps24
    go_wp2_with fail
    refine (specChainValid_no c v h.out hb hlc hok.out).mono ?_
    rintro e w1 ⟨rfl, hF⟩
    replace b := hide (b.out.ext hF)
    replace u := hide (u.out.ext hF)
    replace r := hide (r.out.ext hF)
    try clear b_0 b_1 b_lt
    obtain ⟨b_0, b_1, b_lt⟩ := b.out.at2
    try clear u_0 u_1 u_lt
    obtain ⟨u_0, u_1, u_lt⟩ := u.out.at2
    try clear r_0 r_1 r_lt r_f0 r_f1
    obtain ⟨r_0, r_1, r_lt, r_f0, r_f1⟩ := r.out.at2f
    replace hE := hide (ext_trans hE.out hF)
    clear hF
    go_wp2_with fail
    refine bodyPost_ret (v := .tuple #[.agg #[.int .i64 0, .slice none 0 0], .bool false]) (by simp [results, Tryd.results24, go_sem, r_0, r_1]) rfl ?_
    exact gotChB_zero e1.out e2.out e3.out ((hE.out.setCell (by show w.heap.size ≤ w.heap.size + 1 + 1; omega) _).setCell (by show w.heap.size ≤ w.heap.size + 1 + 1; omega) _)
set_option maxHeartbeats 6400000 in
theorem implChainWrite_any {A : Option Addr} {ns : List Nd} {rv : Int} {rl : List Nd} {rb : Bool} (c : Nat) (v ux uy : Int) {w : World} {sa : Addr} (h : NodesR w A ns) (hb : bulk ns ≤ 1048576) (hS0 : SentAt w sa) (hs : WriteRes v ns (ux, uy) rv rl rb) :
    Calls Tryd.prog 23 #[.agg #[.int .i64 v, .slice A ns.length c], .agg #[.int .i64 ux, .int .i64 uy]] w (GotChB w rv rl rb) := by
  have hl := bulk_len ns
  have hE := hide (ext_refl w)
  replace h := hide h
  have b := hide (Blk.newAt (w) 48 #[.int .i64 v, .slice A ns.length c] (g := w.heap.size) (by simp))
  replace h := hide (h.out.ext (ext_alloc (ext_refl (w)) (.cells #[.int .i64 v, .slice A ns.length c] 48)))
  replace hE := hide (ext_alloc hE.out (.cells #[.int .i64 v, .slice A ns.length c] 48))
  have u := hide (Blk.newAt ((w.alloc (.cells #[.int .i64 v, .slice A ns.length c] 48))) 27 #[.int .i64 ux, .int .i64 uy] (g := w.heap.size + 1) (by simp))
  replace h := hide (h.out.ext (ext_alloc (ext_refl ((w.alloc (.cells #[.int .i64 v, .slice A ns.length c] 48)))) (.cells #[.int .i64 ux, .int .i64 uy] 27)))
  replace b := hide (b.out.ext (ext_alloc (ext_refl ((w.alloc (.cells #[.int .i64 v, .slice A ns.length c] 48)))) (.cells #[.int .i64 ux, .int .i64 uy] 27)))
  replace hE := hide (ext_alloc hE.out (.cells #[.int .i64 ux, .int .i64 uy] 27))
  have r := hide (Blk.newAt (((w.alloc (.cells #[.int .i64 v, .slice A ns.length c] 48)).alloc (.cells #[.int .i64 ux, .int .i64 uy] 27))) 48 #[.int .i64 0, .slice none 0 0] (g := w.heap.size + 1 + 1) (by simp))
  replace h := hide (h.out.ext (ext_alloc (ext_refl (((w.alloc (.cells #[.int .i64 v, .slice A ns.length c] 48)).alloc (.cells #[.int .i64 ux, .int .i64 uy] 27)))) (.cells #[.int .i64 0, .slice none 0 0] 48)))
  replace b := hide (b.out.ext (ext_alloc (ext_refl (((w.alloc (.cells #[.int .i64 v, .slice A ns.length c] 48)).alloc (.cells #[.int .i64 ux, .int .i64 uy] 27)))) (.cells #[.int .i64 0, .slice none 0 0] 48)))
  replace u := hide (u.out.ext (ext_alloc (ext_refl (((w.alloc (.cells #[.int .i64 v, .slice A ns.length c] 48)).alloc (.cells #[.int .i64 ux, .int .i64 uy] 27)))) (.cells #[.int .i64 0, .slice none 0 0] 48)))
  replace hE := hide (ext_alloc hE.out (.cells #[.int .i64 0, .slice none 0 0] 48))
  replace hS0 := hide (hS0.ext hE.out)
  by_cases hok : ChOk v ns
  · obtain ⟨y, hy, hs⟩ := write_take hs hok
    obtain ⟨yi, yl, yj, ey⟩ := nd_cases y
    subst ey
    have hkl := getElem_some hy
    replace hok := hide hok
    rcases hs with ⟨ht, e1, e2, e3⟩ | ⟨ht, e1, e2, e3⟩
    · replace e1 := hide e1
      replace e2 := hide e2
      replace e3 := hide e3

      obtain ⟨b9, o9, _, _, _, B1, d1, hA, hbl, hy', hld1, hdm1, hB1, y_0, -, -, y_1, y_2⟩ := node_at h.out hkl
      cases hA
      rw [hy] at hy'
      cases hy'
      have hm1 : yl.length ≤ 1048576 := bulk_of hb hy
      replace hB1 := hide hB1
      try clear b_0 b_1 b_lt
      obtain ⟨b_0, b_1, b_lt⟩ := b.out.at2
      try clear u_0 u_1 u_lt
      obtain ⟨u_0, u_1, u_lt⟩ := u.out.at2
      simp only [Nat.zero_mul, Nat.add_zero] at y_0 y_1 y_2
      by_cases hlast : 0 + 1 = ns.length
      · have hi1 : (0 : Int) < (ns.length : Int) := by omega
        have hi0 : (0 : Int) ≤ (0 : Int) := by omega
        have hd1 : ((ns.length : Int) == 1) = true := by simp; omega
        have hd2 : (ns.length == 1) = true := by simp; omega
        replace hlast := hide hlast
        obtain ⟨xi, hxi⟩ : ∃ x : Int, yi = x := ⟨_, rfl⟩
        obtain ⟨xl, hxl⟩ : ∃ x : List Upd, yl ++ [(ux, uy)] = x := ⟨_, rfl⟩
        obtain ⟨xj, hxj⟩ : ∃ x : Int, yj = x := ⟨_, rfl⟩
        obtain ⟨m, hm⟩ : ∃ m, m = yl.length + 1 := ⟨_, rfl⟩
        obtain ⟨xn, hxn⟩ : ∃ n, m = n := ⟨_, rfl⟩
        have hxs : xl.length = xn := by rw [← hxl, ← hxn, hm]; simp
        have hP : ∀ w', SentAt w' sa → LogR w' B1 yl → Calls Tryd.prog 10 #[.agg #[.int .i64 yi, .slice B1 yl.length d1, .int .i64 yj], .agg #[.int .i64 ux, .int .i64 uy]] w' (GotNodeB w' ⟨xi, xl, xj⟩ true) := fun w' hq h => by
          have e1 : ndTake ⟨yi, yl, yj⟩ (ux, uy) = ⟨xi, xl, xj⟩ := by rw [ndTake_yes ht, ← hxi, ← hxl, ← hxj]
          have e2 := implNodeTake_any d1 yi yj ux uy h hm1 hq
          rw [e1, ht] at e2
          exact e2
        replace hP := hide hP
        replace hxs := hide hxs
        replace hxi := hide hxi
        replace hxl := hide hxl
        replace hxj := hide hxj
        replace hxn := hide hxn
        replace hm := hide hm
        replace hy := hide hy
        go_enter Tryd.func23, Tryd.ntmps23
        go_wp2_with fail

        refine (implChainValid_yes c v h.out hb hok.out).mono ?_
        rintro e w1 ⟨rfl, hF⟩

        replace y_0 := ext_cell hF y_0
        replace y_1 := ext_cell hF y_1
        replace y_2 := ext_cell hF y_2
        replace hB1 := hide (LogR.ext hB1.out hF)
        replace hS0 := hide (hS0.out.ext hF)
        have hlow := hF.size
        simp only [World.size_alloc] at hlow
        replace h := hide (h.out.ext hF)
        replace b := hide (b.out.ext hF)
        replace u := hide (u.out.ext hF)
        replace r := hide (r.out.ext hF)
        try clear b_0 b_1 b_lt
        obtain ⟨b_0, b_1, b_lt⟩ := b.out.at2
        try clear u_0 u_1 u_lt
        obtain ⟨u_0, u_1, u_lt⟩ := u.out.at2
        try clear r_0 r_1 r_lt r_f0 r_f1
        obtain ⟨r_0, r_1, r_lt, r_f0, r_f1⟩ := r.out.at2f
        replace hE := hide (ext_trans hE.out hF)
        clear hF
        have hN0 := hide h.out
        go_upto_region 3 with fail
        go_cut [6, 7] (fun s6 s7 wx => ∃ (g : Nat) (A3 : Option Addr) (c3 : Nat), s6 = .pointer (some ⟨g, 0, none⟩) ∧ s7 = .bool true ∧ Hid (Made w1 wx xi xj xl xn g A3 c3))
        case first =>
          have hS : ∀ w', Ext w1 w' → w'.cell? ⟨w.heap.size, 0, none⟩ = some (.int .i64 v) ∧ w'.cell? ⟨w.heap.size, 1, none⟩ = some (.slice (some ⟨b9, o9, none⟩) ns.length c) ∧ w'.cell? ⟨w.heap.size + 1, 0, none⟩ = some (.int .i64 ux) ∧ w'.cell? ⟨w.heap.size + 1, 1, none⟩ = some (.int .i64 uy) ∧ w'.cell? ⟨b9, o9, none⟩ = some (.int .i64 yi) ∧ w'.cell? ⟨b9, o9 + 1, none⟩ = some (.slice B1 yl.length d1) ∧ w'.cell? ⟨b9, o9 + 2, none⟩ = some (.int .i64 yj) := fun w' hC => ⟨ext_cell hC b_0, ext_cell hC b_1, ext_cell hC u_0, ext_cell hC u_1, ext_cell hC y_0, ext_cell hC y_1, ext_cell hC y_2⟩
          replace hS := hide hS
          have hEd := hide (show Ext w1 w1.drew from ext_drew (ext_refl _))
          have hEa := hide (show Ext w1 (w1.alloc (.cells #[.int .i64 0, .slice none 0 0, .int .i64 0] 25)).drew from ext_drew (ext_alloc (ext_refl _) _))
          have bNa := hide (show Blk (w1.alloc (.cells #[.int .i64 0, .slice none 0 0, .int .i64 0] 25)).drew (w1.heap.size) 25 #[.int .i64 0, .slice none 0 0, .int .i64 0] from Blk.newAt w1 25 #[.int .i64 0, .slice none 0 0, .int .i64 0] (g := w1.heap.size) (by first | rfl | simp))
          have hge : (w1).heap.size ≤ w1.heap.size := by first | exact Nat.le_refl _ | simp
          have bN : True := trivial
          go_region_held3 (fun w' => w'.cell? ⟨w.heap.size, 0, none⟩ = some (.int .i64 v) ∧ w'.cell? ⟨w.heap.size, 1, none⟩ = some (.slice (some ⟨b9, o9, none⟩) ns.length c) ∧ w'.cell? ⟨w.heap.size + 1, 0, none⟩ = some (.int .i64 ux) ∧ w'.cell? ⟨w.heap.size + 1, 1, none⟩ = some (.int .i64 uy) ∧ w'.cell? ⟨b9, o9, none⟩ = some (.int .i64 yi) ∧ w'.cell? ⟨b9, o9 + 1, none⟩ = some (.slice B1 yl.length d1) ∧ w'.cell? ⟨b9, o9 + 2, none⟩ = some (.int .i64 yj))
            (first | with_reducible exact hS.out _ (((hF1.setCell (p := ⟨w1.heap.size, 0, none⟩) hge _).setCell (p := ⟨w1.heap.size, 1, none⟩) hge _).setCell (p := ⟨w1.heap.size, 2, none⟩) hge _) | with_reducible exact hS.out _ hF1 | with_reducible exact hS.out _ (ext_alloc hF1 _) | with_reducible exact hS.out _ hEd.out | with_reducible exact hS.out _ hEa.out | with_reducible exact hS.out _ (ext_alloc hEd.out _) | go_keep)
            (first
              | ((go_at_call 10; with_reducible refine (hP.out w1.drew (hS0.out.ext hEd.out) (LogR.ext hB1.out hEd.out)).mono ?_; intro e u1 hG0; obtain ⟨A5, c5, rfl, hR, hG⟩ := takenIn hG0 hxs.out; clear hG0; have hF1 := ext_trans hEd.out hG; clear hG))
              | ((go_at_call 10; with_reducible refine (hP.out (w1.alloc (.cells #[.int .i64 0, .slice none 0 0, .int .i64 0] 25)).drew (hS0.out.ext hEa.out) (LogR.ext hB1.out hEa.out)).mono ?_; intro e u1 hG0; obtain ⟨A5, c5, rfl, hR, hG⟩ := takenIn hG0 hxs.out; clear hG0; have lN := Blk.lt bNa.out; have bN := bNa.out.ext hG; have hF1 := ext_trans hEa.out hG; clear hG; have bM := Blk.at3f bN; obtain ⟨n_0, n_1, n_2, n_lt, n_f0, n_f1, n_f2⟩ := bM)) | fail)
          all_goals go_wp2_with fail
          all_goals go_meet
          all_goals exact ⟨_, A5, c5, rfl, rfl, hide (by first | with_reducible exact made_last hEd.out hF1 hR.out | with_reducible exact made_in hF1 hge bN lN hR.out)⟩
        case rest =>
          obtain ⟨g, A3, c3, rfl, rfl, hEn⟩ := hcut
          obtain ⟨hF, G, hgeG, loG, hiG, hL3, hloG, hhiG, hglG⟩ := hEn.out
          clear hEn hxs
          have sz3 := hF.size
          have gG := G.lt
          have hgeG0 := hgeG
          rename World => w3
          replace G := hide G
          have hF0 := hide hF
          replace h := hide (h.out.ext hF)
          replace b := hide (b.out.ext hF)
          replace r := hide (r.out.ext hF)
          try clear b_0 b_1 b_lt
          obtain ⟨b_0, b_1, b_lt⟩ := b.out.at2
          try clear r_0 r_1 r_lt r_f0 r_f1
          obtain ⟨r_0, r_1, r_lt, r_f0, r_f1⟩ := r.out.at2f
          replace hE := hide (ext_trans hE.out hF)
          clear hF
          try clear G_0 G_1 G_2 G_lt G_f0 G_f1 G_f2
          obtain ⟨G_0, G_1, G_2, G_lt, G_f0, G_f1, G_f2⟩ := G.out.at3f
          try simp only [World.size_alloc] at sz3 hgeG hloG
          replace hxi := hxi.out
          replace hxj := hxj.out
          replace hxn := hxn.out
          subst hxi hxj hxn
          try clear G_0 G_1 G_2 G_lt G_f0 G_f1 G_f2
          obtain ⟨G_0, G_1, G_2, G_lt, G_f0, G_f1, G_f2⟩ := G.out.at3f
          have hE3 := hide hE.out

          have G' := hide (G.out.set32 (.int .i64 (m : Int)))
          have hEw := hide (hE.out.setCell (p := ⟨g, 2, none⟩) (show w.heap.size ≤ g by omega) (.int .i64 (m : Int)))
          have ht9 : Turned g (g + 1) w3 (w3.setCell ⟨g, 2, none⟩ (.int .i64 (m : Int))) := Turned.set (p := ⟨g, 2, none⟩) (Nat.le_refl _) (Nat.lt_succ_self _) _
          have hl9 := hide (LogIn.turned hL3.out ht9 (by omega))
          have hb9 := hide (b.out.turned ht9 (by omega))
          have hr9 := hide (r.out.turned ht9 (by omega))
          have hn9 := hide (hN0.out.ext (hF0.out.setCell (p := ⟨g, 2, none⟩) hgeG0 (.int .i64 (m : Int))))
          have hz9 : (w3.setCell ⟨g, 2, none⟩ (.int .i64 (m : Int))).heap.size = w3.heap.size := by simp
          try clear hb9_0 hb9_1 hb9_lt
          obtain ⟨hb9_0, hb9_1, hb9_lt⟩ := hb9.out.at2
          try clear hr9_0 hr9_1 hr9_lt hr9_f0 hr9_f1
          obtain ⟨hr9_0, hr9_1, hr9_lt, hr9_f0, hr9_f1⟩ := hr9.out.at2f
          try clear G'_0 G'_1 G'_2 G'_lt G'_f0 G'_f1 G'_f2
          obtain ⟨G'_0, G'_1, G'_2, G'_lt, G'_f0, G'_f1, G'_f2⟩ := G'.out.at3f
          clear G_0 G_1 G_2 G_f0 G_f1 G_f2
          try clear G_0 G_1 G_2 G_lt G_f0 G_f1 G_f2
          obtain ⟨G_0, G_1, G_2, G_lt, G_f0, G_f1, G_f2⟩ := G.out.at3f
          go_wp2_with fail
          clear G_0 G_1 G_2 G_lt G_f0 G_f1 G_f2 b_0 b_1 b_lt r_0 r_1 r_lt r_f0 r_f1 hb9_0 hb9_1 hb9_lt hr9_0 hr9_1 hr9_lt hr9_f0 hr9_f1 G'_0 G'_1 G'_2 G'_lt G'_f0 G'_f1 G'_f2 ht9
          clear G hE hL3 b r h hF0 hE3

          have G := G'
          have hE := hEw
          have hL3 := hl9
          have b := hb9
          have r := hr9
          have h := hn9
          clear G' hEw hl9 hb9 hr9 hn9
          generalize w3.setCell ⟨g, 2, none⟩ (.int .i64 (m : Int)) = w4 at G hE hL3 b r h hz9 ⊢

          refine (copyChain_any c v h.out hb).mono ?_
          intro e w5 hG
          obtain ⟨A2, c2, rfl, -, -, hP2, hF⟩ := hG.use
          obtain ⟨gA, rfl, hgl, hgh, hgs⟩ := hP2.out.addr (by omega)
          clear hG
          have hz5 := hF.size
          replace hL3 := hide (hL3.out.ext hF)
          replace b := hide (b.out.ext hF)
          replace r := hide (r.out.ext hF)
          replace G := hide (G.out.ext hF)
          try clear b_0 b_1 b_lt
          obtain ⟨b_0, b_1, b_lt⟩ := b.out.at2
          try clear r_0 r_1 r_lt r_f0 r_f1
          obtain ⟨r_0, r_1, r_lt, r_f0, r_f1⟩ := r.out.at2f
          try clear G_0 G_1 G_2 G_lt G_f0 G_f1 G_f2
          obtain ⟨G_0, G_1, G_2, G_lt, G_f0, G_f1, G_f2⟩ := G.out.at3f
          replace hE := hide (ext_trans hE.out hF)
          clear hF
          have Q := hide (Blk.newAt (w5) 48 #[.int .i64 v, .slice (some ⟨gA, 0, none⟩) ns.length c2] (g := (w5).heap.size) (by simp))
          replace hP2 := hide (hP2.out.ext (ext_alloc (ext_refl (w5)) (.cells #[.int .i64 v, .slice (some ⟨gA, 0, none⟩) ns.length c2] 48)))
          replace hL3 := hide (hL3.out.ext (ext_alloc (ext_refl (w5)) (.cells #[.int .i64 v, .slice (some ⟨gA, 0, none⟩) ns.length c2] 48)))
          replace r := hide (r.out.ext (ext_alloc (ext_refl (w5)) (.cells #[.int .i64 v, .slice (some ⟨gA, 0, none⟩) ns.length c2] 48)))
          replace b := hide (b.out.ext (ext_alloc (ext_refl (w5)) (.cells #[.int .i64 v, .slice (some ⟨gA, 0, none⟩) ns.length c2] 48)))
          replace G := hide (G.out.ext (ext_alloc (ext_refl (w5)) (.cells #[.int .i64 v, .slice (some ⟨gA, 0, none⟩) ns.length c2] 48)))
          replace hE := hide (ext_alloc hE.out (.cells #[.int .i64 v, .slice (some ⟨gA, 0, none⟩) ns.length c2] 48))
          have hz6 : w5.heap.size ≤ (w5.alloc (.cells #[.int .i64 v, .slice (some ⟨gA, 0, none⟩) ns.length c2] 48)).heap.size := by simp
          clear b_0 b_1 b_lt r_0 r_1 r_lt r_f0 r_f1 G_0 G_1 G_2 G_lt G_f0 G_f1 G_f2
          try clear b_0 b_1 b_lt
          obtain ⟨b_0, b_1, b_lt⟩ := b.out.at2
          try clear r_0 r_1 r_lt r_f0 r_f1
          obtain ⟨r_0, r_1, r_lt, r_f0, r_f1⟩ := r.out.at2f
          try clear G_0 G_1 G_2 G_lt G_f0 G_f1 G_f2
          obtain ⟨G_0, G_1, G_2, G_lt, G_f0, G_f1, G_f2⟩ := G.out.at3f

          go_upto_region 9 with fail
          clear b_0 b_1 b_lt r_0 r_1 r_lt r_f0 r_f1 G_0 G_1 G_2 G_lt G_f0 G_f1 G_f2
          generalize w5.alloc (.cells #[.int .i64 v, .slice (some ⟨gA, 0, none⟩) ns.length c2] 48) = w6 at hP2 hL3 r b G Q hE hz6 ⊢
          obtain ⟨⟨u5, hu5⟩, hf5⟩ := hP2.out.cellsAt (j := 0) (by omega)
          obtain ⟨⟨u6, hu6⟩, hf6⟩ := hP2.out.cellsAt (j := 1) (by omega)
          obtain ⟨⟨u7, hu7⟩, hf7⟩ := hP2.out.cellsAt (j := 2) (by omega)
          have hq9 : w5.heap.size ≠ gA := by omega
          have hr9 : w.heap.size + 1 + 1 ≠ gA := by omega
          have hP3 := hide (hP2.out.putNode (i := 0) (y := yi) (z := (m : Int)) hy.out hL3.out (by omega) (show w.heap.size ≤ _ by omega) (show w.heap.size ≤ _ by omega) (show _ ≤ w6.heap.size by omega) (by omega) (by omega))
          have Q3 := hide (((Q.out.far (p := ⟨gA, 0, none⟩) hq9 (.int .i64 yi)).far (p := ⟨gA, 1, none⟩) hq9 (.slice A3 m c3)).far (p := ⟨gA, 2, none⟩) hq9 (.int .i64 (m : Int)))
          have r3 := hide (((r.out.far (p := ⟨gA, 0, none⟩) hr9 (.int .i64 yi)).far (p := ⟨gA, 1, none⟩) hr9 (.slice A3 m c3)).far (p := ⟨gA, 2, none⟩) hr9 (.int .i64 (m : Int)))
          have hE4 := hide (((hE.out.setCell (p := ⟨gA, 0, none⟩) (show w.heap.size ≤ gA by omega) (.int .i64 yi)).setCell (p := ⟨gA, 1, none⟩) (show w.heap.size ≤ gA by omega) (.slice A3 m c3)).setCell (p := ⟨gA, 2, none⟩) (show w.heap.size ≤ gA by omega) (.int .i64 (m : Int)))
          have hxl2 : xl.length = m := by rw [← hxl.out, hm.out]; simp
          rw [hxl2] at hP3
          replace hxl2 := hide hxl2
          try clear Q_0 Q_1 Q_lt Q_f0 Q_f1
          obtain ⟨Q_0, Q_1, Q_lt, Q_f0, Q_f1⟩ := Q.out.at2f
          try clear r_0 r_1 r_lt r_f0 r_f1
          obtain ⟨r_0, r_1, r_lt, r_f0, r_f1⟩ := r.out.at2f
          try clear G_0 G_1 G_2 G_lt G_f0 G_f1 G_f2
          obtain ⟨G_0, G_1, G_2, G_lt, G_f0, G_f1, G_f2⟩ := G.out.at3f
          try clear Q3_0 Q3_1 Q3_lt Q3_f0 Q3_f1
          obtain ⟨Q3_0, Q3_1, Q3_lt, Q3_f0, Q3_f1⟩ := Q3.out.at2f
          try clear r3_0 r3_1 r3_lt r3_f0 r3_f1
          obtain ⟨r3_0, r3_1, r3_lt, r3_f0, r3_f1⟩ := r3.out.at2f
          go_wp2_with fail
          refine bodyPost_ret (v := .tuple #[.agg #[.int .i64 v, .slice (some ⟨gA, 0, none⟩) ns.length c2], .bool true]) (by simp [results, Tryd.results23, go_sem, r3_0, r3_1]) rfl ?_
          exact gotChB_of e1.out (by rw [e2.out]; unfold grown; rw [← hxl.out]; rw [if_pos (by have := hlast.out; omega)]; simp [hm.out]) e3.out (by simp) ((hP3.out.handed r3.out _ _).wide (Nat.le_refl _) (by simp [World.setCell])) ((hE4.out.setCell (show w.heap.size ≤ w.heap.size + 1 + 1 by omega) _).setCell (show w.heap.size ≤ w.heap.size + 1 + 1 by omega) _)
      · have hi1 : (0 : Int) < (ns.length : Int) := by omega
        have hi0 : (0 : Int) ≤ (0 : Int) := by omega
        have hd1 : ((ns.length : Int) == 1) = false := by simp; omega
        have hd2 : (ns.length == 1) = false := by simp; omega
        replace hlast := hide hlast
        obtain ⟨xi, hxi⟩ : ∃ x : Int, yi = x := ⟨_, rfl⟩
        obtain ⟨xl, hxl⟩ : ∃ x : List Upd, yl ++ [(ux, uy)] = x := ⟨_, rfl⟩
        obtain ⟨xj, hxj⟩ : ∃ x : Int, yj = x := ⟨_, rfl⟩
        obtain ⟨m, hm⟩ : ∃ m, m = yl.length + 1 := ⟨_, rfl⟩
        obtain ⟨xn, hxn⟩ : ∃ n, m = n := ⟨_, rfl⟩
        have hxs : xl.length = xn := by rw [← hxl, ← hxn, hm]; simp
        have hP : ∀ w', SentAt w' sa → LogR w' B1 yl → Calls Tryd.prog 10 #[.agg #[.int .i64 yi, .slice B1 yl.length d1, .int .i64 yj], .agg #[.int .i64 ux, .int .i64 uy]] w' (GotNodeB w' ⟨xi, xl, xj⟩ true) := fun w' hq h => by
          have e1 : ndTake ⟨yi, yl, yj⟩ (ux, uy) = ⟨xi, xl, xj⟩ := by rw [ndTake_yes ht, ← hxi, ← hxl, ← hxj]
          have e2 := implNodeTake_any d1 yi yj ux uy h hm1 hq
          rw [e1, ht] at e2
          exact e2
        replace hP := hide hP
        replace hxs := hide hxs
        replace hxi := hide hxi
        replace hxl := hide hxl
        replace hxj := hide hxj
        replace hxn := hide hxn
        replace hm := hide hm
        replace hy := hide hy
        go_enter Tryd.func23, Tryd.ntmps23
        go_wp2_with fail

        refine (implChainValid_yes c v h.out hb hok.out).mono ?_
        rintro e w1 ⟨rfl, hF⟩

        replace y_0 := ext_cell hF y_0
        replace y_1 := ext_cell hF y_1
        replace y_2 := ext_cell hF y_2
        replace hB1 := hide (LogR.ext hB1.out hF)
        replace hS0 := hide (hS0.out.ext hF)
        have hlow := hF.size
        simp only [World.size_alloc] at hlow
        replace h := hide (h.out.ext hF)
        replace b := hide (b.out.ext hF)
        replace u := hide (u.out.ext hF)
        replace r := hide (r.out.ext hF)
        try clear b_0 b_1 b_lt
        obtain ⟨b_0, b_1, b_lt⟩ := b.out.at2
        try clear u_0 u_1 u_lt
        obtain ⟨u_0, u_1, u_lt⟩ := u.out.at2
        try clear r_0 r_1 r_lt r_f0 r_f1
        obtain ⟨r_0, r_1, r_lt, r_f0, r_f1⟩ := r.out.at2f
        replace hE := hide (ext_trans hE.out hF)
        clear hF
        have hN0 := hide h.out
        go_upto_region 3 with fail
        go_cut [6, 7] (fun s6 s7 wx => ∃ (g : Nat) (A3 : Option Addr) (c3 : Nat), s6 = .pointer (some ⟨g, 0, none⟩) ∧ s7 = .bool true ∧ Hid (Made w1 wx xi xj xl xn g A3 c3))
        case first =>
          have hS : ∀ w', Ext w1 w' → w'.cell? ⟨w.heap.size, 0, none⟩ = some (.int .i64 v) ∧ w'.cell? ⟨w.heap.size, 1, none⟩ = some (.slice (some ⟨b9, o9, none⟩) ns.length c) ∧ w'.cell? ⟨w.heap.size + 1, 0, none⟩ = some (.int .i64 ux) ∧ w'.cell? ⟨w.heap.size + 1, 1, none⟩ = some (.int .i64 uy) ∧ w'.cell? ⟨b9, o9, none⟩ = some (.int .i64 yi) ∧ w'.cell? ⟨b9, o9 + 1, none⟩ = some (.slice B1 yl.length d1) ∧ w'.cell? ⟨b9, o9 + 2, none⟩ = some (.int .i64 yj) := fun w' hC => ⟨ext_cell hC b_0, ext_cell hC b_1, ext_cell hC u_0, ext_cell hC u_1, ext_cell hC y_0, ext_cell hC y_1, ext_cell hC y_2⟩
          replace hS := hide hS
          have hEd := hide (show Ext w1 w1.drew from ext_drew (ext_refl _))
          have hEa := hide (show Ext w1 (w1.alloc (.cells #[.int .i64 0, .slice none 0 0, .int .i64 0] 25)).drew from ext_drew (ext_alloc (ext_refl _) _))
          have bNa := hide (show Blk (w1.alloc (.cells #[.int .i64 0, .slice none 0 0, .int .i64 0] 25)).drew (w1.heap.size) 25 #[.int .i64 0, .slice none 0 0, .int .i64 0] from Blk.newAt w1 25 #[.int .i64 0, .slice none 0 0, .int .i64 0] (g := w1.heap.size) (by first | rfl | simp))
          have hge : (w1).heap.size ≤ w1.heap.size := by first | exact Nat.le_refl _ | simp
          have bN : True := trivial
          go_region_held3 (fun w' => w'.cell? ⟨w.heap.size, 0, none⟩ = some (.int .i64 v) ∧ w'.cell? ⟨w.heap.size, 1, none⟩ = some (.slice (some ⟨b9, o9, none⟩) ns.length c) ∧ w'.cell? ⟨w.heap.size + 1, 0, none⟩ = some (.int .i64 ux) ∧ w'.cell? ⟨w.heap.size + 1, 1, none⟩ = some (.int .i64 uy) ∧ w'.cell? ⟨b9, o9, none⟩ = some (.int .i64 yi) ∧ w'.cell? ⟨b9, o9 + 1, none⟩ = some (.slice B1 yl.length d1) ∧ w'.cell? ⟨b9, o9 + 2, none⟩ = some (.int .i64 yj))
            (first | with_reducible exact hS.out _ (((hF1.setCell (p := ⟨w1.heap.size, 0, none⟩) hge _).setCell (p := ⟨w1.heap.size, 1, none⟩) hge _).setCell (p := ⟨w1.heap.size, 2, none⟩) hge _) | with_reducible exact hS.out _ hF1 | with_reducible exact hS.out _ (ext_alloc hF1 _) | with_reducible exact hS.out _ hEd.out | with_reducible exact hS.out _ hEa.out | with_reducible exact hS.out _ (ext_alloc hEd.out _) | go_keep)
            (first
              | ((go_at_call 10; with_reducible refine (hP.out w1.drew (hS0.out.ext hEd.out) (LogR.ext hB1.out hEd.out)).mono ?_; intro e u1 hG0; obtain ⟨A5, c5, rfl, hR, hG⟩ := takenIn hG0 hxs.out; clear hG0; have hF1 := ext_trans hEd.out hG; clear hG))
              | ((go_at_call 10; with_reducible refine (hP.out (w1.alloc (.cells #[.int .i64 0, .slice none 0 0, .int .i64 0] 25)).drew (hS0.out.ext hEa.out) (LogR.ext hB1.out hEa.out)).mono ?_; intro e u1 hG0; obtain ⟨A5, c5, rfl, hR, hG⟩ := takenIn hG0 hxs.out; clear hG0; have lN := Blk.lt bNa.out; have bN := bNa.out.ext hG; have hF1 := ext_trans hEa.out hG; clear hG; have bM := Blk.at3f bN; obtain ⟨n_0, n_1, n_2, n_lt, n_f0, n_f1, n_f2⟩ := bM)) | fail)
          all_goals go_wp2_with fail
          all_goals go_meet
          all_goals exact ⟨_, A5, c5, rfl, rfl, hide (by first | with_reducible exact made_last hEd.out hF1 hR.out | with_reducible exact made_in hF1 hge bN lN hR.out)⟩
        case rest =>
          obtain ⟨g, A3, c3, rfl, rfl, hEn⟩ := hcut
          obtain ⟨hF, G, hgeG, loG, hiG, hL3, hloG, hhiG, hglG⟩ := hEn.out
          clear hEn hxs
          have sz3 := hF.size
          have gG := G.lt
          have hgeG0 := hgeG
          rename World => w3
          replace G := hide G
          have hF0 := hide hF
          replace h := hide (h.out.ext hF)
          replace b := hide (b.out.ext hF)
          replace r := hide (r.out.ext hF)
          try clear b_0 b_1 b_lt
          obtain ⟨b_0, b_1, b_lt⟩ := b.out.at2
          try clear r_0 r_1 r_lt r_f0 r_f1
          obtain ⟨r_0, r_1, r_lt, r_f0, r_f1⟩ := r.out.at2f
          replace hE := hide (ext_trans hE.out hF)
          clear hF
          try clear G_0 G_1 G_2 G_lt G_f0 G_f1 G_f2
          obtain ⟨G_0, G_1, G_2, G_lt, G_f0, G_f1, G_f2⟩ := G.out.at3f
          try simp only [World.size_alloc] at sz3 hgeG hloG
          replace hxi := hxi.out
          replace hxj := hxj.out
          replace hxn := hxn.out
          subst hxi hxj hxn
          try clear G_0 G_1 G_2 G_lt G_f0 G_f1 G_f2
          obtain ⟨G_0, G_1, G_2, G_lt, G_f0, G_f1, G_f2⟩ := G.out.at3f
          have hE3 := hide hE.out

          go_wp2_with fail
          clear G_0 G_1 G_2 G_lt G_f0 G_f1 G_f2 b_0 b_1 b_lt r_0 r_1 r_lt r_f0 r_f1
          obtain ⟨w4, hw4⟩ : ∃ x, x = w3 := ⟨_, rfl⟩
          have hz9 : w4.heap.size = w3.heap.size := by rw [hw4]
          rw [← hw4] at G hE hL3 b r h
          rw [← hw4]
          clear hw4 hF0 hE3

          refine (copyChain_any c v h.out hb).mono ?_
          intro e w5 hG
          obtain ⟨A2, c2, rfl, -, -, hP2, hF⟩ := hG.use
          obtain ⟨gA, rfl, hgl, hgh, hgs⟩ := hP2.out.addr (by omega)
          clear hG
          have hz5 := hF.size
          replace hL3 := hide (hL3.out.ext hF)
          replace b := hide (b.out.ext hF)
          replace r := hide (r.out.ext hF)
          replace G := hide (G.out.ext hF)
          try clear b_0 b_1 b_lt
          obtain ⟨b_0, b_1, b_lt⟩ := b.out.at2
          try clear r_0 r_1 r_lt r_f0 r_f1
          obtain ⟨r_0, r_1, r_lt, r_f0, r_f1⟩ := r.out.at2f
          try clear G_0 G_1 G_2 G_lt G_f0 G_f1 G_f2
          obtain ⟨G_0, G_1, G_2, G_lt, G_f0, G_f1, G_f2⟩ := G.out.at3f
          replace hE := hide (ext_trans hE.out hF)
          clear hF
          have Q := hide (Blk.newAt (w5) 48 #[.int .i64 v, .slice (some ⟨gA, 0, none⟩) ns.length c2] (g := (w5).heap.size) (by simp))
          replace hP2 := hide (hP2.out.ext (ext_alloc (ext_refl (w5)) (.cells #[.int .i64 v, .slice (some ⟨gA, 0, none⟩) ns.length c2] 48)))
          replace hL3 := hide (hL3.out.ext (ext_alloc (ext_refl (w5)) (.cells #[.int .i64 v, .slice (some ⟨gA, 0, none⟩) ns.length c2] 48)))
          replace r := hide (r.out.ext (ext_alloc (ext_refl (w5)) (.cells #[.int .i64 v, .slice (some ⟨gA, 0, none⟩) ns.length c2] 48)))
          replace b := hide (b.out.ext (ext_alloc (ext_refl (w5)) (.cells #[.int .i64 v, .slice (some ⟨gA, 0, none⟩) ns.length c2] 48)))
          replace G := hide (G.out.ext (ext_alloc (ext_refl (w5)) (.cells #[.int .i64 v, .slice (some ⟨gA, 0, none⟩) ns.length c2] 48)))
          replace hE := hide (ext_alloc hE.out (.cells #[.int .i64 v, .slice (some ⟨gA, 0, none⟩) ns.length c2] 48))
          have hz6 : w5.heap.size ≤ (w5.alloc (.cells #[.int .i64 v, .slice (some ⟨gA, 0, none⟩) ns.length c2] 48)).heap.size := by simp
          clear b_0 b_1 b_lt r_0 r_1 r_lt r_f0 r_f1 G_0 G_1 G_2 G_lt G_f0 G_f1 G_f2
          try clear b_0 b_1 b_lt
          obtain ⟨b_0, b_1, b_lt⟩ := b.out.at2
          try clear r_0 r_1 r_lt r_f0 r_f1
          obtain ⟨r_0, r_1, r_lt, r_f0, r_f1⟩ := r.out.at2f
          try clear G_0 G_1 G_2 G_lt G_f0 G_f1 G_f2
          obtain ⟨G_0, G_1, G_2, G_lt, G_f0, G_f1, G_f2⟩ := G.out.at3f

          go_upto_region 9 with fail
          clear b_0 b_1 b_lt r_0 r_1 r_lt r_f0 r_f1 G_0 G_1 G_2 G_lt G_f0 G_f1 G_f2
          generalize w5.alloc (.cells #[.int .i64 v, .slice (some ⟨gA, 0, none⟩) ns.length c2] 48) = w6 at hP2 hL3 r b G Q hE hz6 ⊢
          obtain ⟨⟨u5, hu5⟩, hf5⟩ := hP2.out.cellsAt (j := 0) (by omega)
          obtain ⟨⟨u6, hu6⟩, hf6⟩ := hP2.out.cellsAt (j := 1) (by omega)
          obtain ⟨⟨u7, hu7⟩, hf7⟩ := hP2.out.cellsAt (j := 2) (by omega)
          have hq9 : w5.heap.size ≠ gA := by omega
          have hr9 : w.heap.size + 1 + 1 ≠ gA := by omega
          have hP3 := hide (hP2.out.putNode (i := 0) (y := yi) (z := yj) hy.out hL3.out (by omega) (show w.heap.size ≤ _ by omega) (show w.heap.size ≤ _ by omega) (show _ ≤ w6.heap.size by omega) (by omega) (by omega))
          have Q3 := hide (((Q.out.far (p := ⟨gA, 0, none⟩) hq9 (.int .i64 yi)).far (p := ⟨gA, 1, none⟩) hq9 (.slice A3 m c3)).far (p := ⟨gA, 2, none⟩) hq9 (.int .i64 yj))
          have r3 := hide (((r.out.far (p := ⟨gA, 0, none⟩) hr9 (.int .i64 yi)).far (p := ⟨gA, 1, none⟩) hr9 (.slice A3 m c3)).far (p := ⟨gA, 2, none⟩) hr9 (.int .i64 yj))
          have hE4 := hide (((hE.out.setCell (p := ⟨gA, 0, none⟩) (show w.heap.size ≤ gA by omega) (.int .i64 yi)).setCell (p := ⟨gA, 1, none⟩) (show w.heap.size ≤ gA by omega) (.slice A3 m c3)).setCell (p := ⟨gA, 2, none⟩) (show w.heap.size ≤ gA by omega) (.int .i64 yj))
          have hxl2 : xl.length = m := by rw [← hxl.out, hm.out]; simp
          rw [hxl2] at hP3
          replace hxl2 := hide hxl2
          try clear Q_0 Q_1 Q_lt Q_f0 Q_f1
          obtain ⟨Q_0, Q_1, Q_lt, Q_f0, Q_f1⟩ := Q.out.at2f
          try clear r_0 r_1 r_lt r_f0 r_f1
          obtain ⟨r_0, r_1, r_lt, r_f0, r_f1⟩ := r.out.at2f
          try clear G_0 G_1 G_2 G_lt G_f0 G_f1 G_f2
          obtain ⟨G_0, G_1, G_2, G_lt, G_f0, G_f1, G_f2⟩ := G.out.at3f
          try clear Q3_0 Q3_1 Q3_lt Q3_f0 Q3_f1
          obtain ⟨Q3_0, Q3_1, Q3_lt, Q3_f0, Q3_f1⟩ := Q3.out.at2f
          try clear r3_0 r3_1 r3_lt r3_f0 r3_f1
          obtain ⟨r3_0, r3_1, r3_lt, r3_f0, r3_f1⟩ := r3.out.at2f
          go_wp2_with fail
          refine bodyPost_ret (v := .tuple #[.agg #[.int .i64 v, .slice (some ⟨gA, 0, none⟩) ns.length c2], .bool true]) (by simp [results, Tryd.results23, go_sem, r3_0, r3_1]) rfl ?_
          exact gotChB_of e1.out (by rw [e2.out]; unfold grown; rw [← hxl.out]; rw [if_neg (by have := hlast.out; omega)]) e3.out (by simp) ((hP3.out.handed r3.out _ _).wide (Nat.le_refl _) (by simp [World.setCell])) ((hE4.out.setCell (show w.heap.size ≤ w.heap.size + 1 + 1 by omega) _).setCell (show w.heap.size ≤ w.heap.size + 1 + 1 by omega) _)
    · replace e1 := hide e1
      replace e2 := hide e2
      replace e3 := hide e3

      obtain ⟨b9, o9, _, _, _, B1, d1, hA, hbl, hy', hld1, hdm1, hB1, y_0, -, -, y_1, y_2⟩ := node_at h.out hkl
      cases hA
      rw [hy] at hy'
      cases hy'
      have hm1 : yl.length ≤ 1048576 := bulk_of hb hy
      replace hB1 := hide hB1
      try clear b_0 b_1 b_lt
      obtain ⟨b_0, b_1, b_lt⟩ := b.out.at2
      try clear u_0 u_1 u_lt
      obtain ⟨u_0, u_1, u_lt⟩ := u.out.at2
      simp only [Nat.zero_mul, Nat.add_zero] at y_0 y_1 y_2

      have hi1 : (0 : Int) < (ns.length : Int) := by omega
      have hi0 : (0 : Int) ≤ (0 : Int) := by omega
      obtain ⟨xi, hxi⟩ : ∃ x : Int, 0 = x := ⟨_, rfl⟩
      obtain ⟨xl, hxl⟩ : ∃ x : List Upd, [] = x := ⟨_, rfl⟩
      obtain ⟨xj, hxj⟩ : ∃ x : Int, 0 = x := ⟨_, rfl⟩
      obtain ⟨xn, hxn⟩ : ∃ n, 0 = n := ⟨_, rfl⟩
      have hxs : xl.length = xn := by rw [← hxl, ← hxn]; rfl
      have hP : ∀ w', SentAt w' sa → LogR w' B1 yl → Calls Tryd.prog 10 #[.agg #[.int .i64 yi, .slice B1 yl.length d1, .int .i64 yj], .agg #[.int .i64 ux, .int .i64 uy]] w' (GotNodeB w' ⟨xi, xl, xj⟩ false) := fun w' hq h => by
        have e1 : ndTake ⟨yi, yl, yj⟩ (ux, uy) = ⟨xi, xl, xj⟩ := by rw [ndTake_no ht, ← hxi, ← hxl, ← hxj]; rfl
        have e2 := implNodeTake_any d1 yi yj ux uy h hm1 hq
        rw [e1, ht] at e2
        exact e2
      replace hP := hide hP
      replace hxs := hide hxs
      replace hxi := hide hxi
      replace hxl := hide hxl
      replace hxj := hide hxj
      replace hxn := hide hxn
      replace hy := hide hy
      go_enter Tryd.func23, Tryd.ntmps23
      go_wp2_with fail

      refine (implChainValid_yes c v h.out hb hok.out).mono ?_
      rintro e w1 ⟨rfl, hF⟩

      replace y_0 := ext_cell hF y_0
      replace y_1 := ext_cell hF y_1
      replace y_2 := ext_cell hF y_2
      replace hB1 := hide (LogR.ext hB1.out hF)
      replace hS0 := hide (hS0.out.ext hF)
      have hlow := hF.size
      simp only [World.size_alloc] at hlow
      replace h := hide (h.out.ext hF)
      replace b := hide (b.out.ext hF)
      replace u := hide (u.out.ext hF)
      replace r := hide (r.out.ext hF)
      try clear b_0 b_1 b_lt
      obtain ⟨b_0, b_1, b_lt⟩ := b.out.at2
      try clear u_0 u_1 u_lt
      obtain ⟨u_0, u_1, u_lt⟩ := u.out.at2
      try clear r_0 r_1 r_lt r_f0 r_f1
      obtain ⟨r_0, r_1, r_lt, r_f0, r_f1⟩ := r.out.at2f
      replace hE := hide (ext_trans hE.out hF)
      clear hF
      go_upto_region 3 with fail
      go_cut [6, 7] (fun s6 s7 wx => ∃ (g : Nat) (A3 : Option Addr) (c3 : Nat), s6 = .pointer (some ⟨g, 0, none⟩) ∧ s7 = .bool false ∧ Hid (Made w1 wx xi xj xl xn g A3 c3))
      case first =>
        have hS : ∀ w', Ext w1 w' → w'.cell? ⟨w.heap.size, 0, none⟩ = some (.int .i64 v) ∧ w'.cell? ⟨w.heap.size, 1, none⟩ = some (.slice (some ⟨b9, o9, none⟩) ns.length c) ∧ w'.cell? ⟨w.heap.size + 1, 0, none⟩ = some (.int .i64 ux) ∧ w'.cell? ⟨w.heap.size + 1, 1, none⟩ = some (.int .i64 uy) ∧ w'.cell? ⟨b9, o9, none⟩ = some (.int .i64 yi) ∧ w'.cell? ⟨b9, o9 + 1, none⟩ = some (.slice B1 yl.length d1) ∧ w'.cell? ⟨b9, o9 + 2, none⟩ = some (.int .i64 yj) := fun w' hC => ⟨ext_cell hC b_0, ext_cell hC b_1, ext_cell hC u_0, ext_cell hC u_1, ext_cell hC y_0, ext_cell hC y_1, ext_cell hC y_2⟩
        replace hS := hide hS
        have hEd := hide (show Ext w1 w1.drew from ext_drew (ext_refl _))
        have hEa := hide (show Ext w1 (w1.alloc (.cells #[.int .i64 0, .slice none 0 0, .int .i64 0] 25)).drew from ext_drew (ext_alloc (ext_refl _) _))
        have bNa := hide (show Blk (w1.alloc (.cells #[.int .i64 0, .slice none 0 0, .int .i64 0] 25)).drew (w1.heap.size) 25 #[.int .i64 0, .slice none 0 0, .int .i64 0] from Blk.newAt w1 25 #[.int .i64 0, .slice none 0 0, .int .i64 0] (g := w1.heap.size) (by first | rfl | simp))
        have hge : (w1).heap.size ≤ w1.heap.size := by first | exact Nat.le_refl _ | simp
        have bN : True := trivial
        go_region_held3 (fun w' => w'.cell? ⟨w.heap.size, 0, none⟩ = some (.int .i64 v) ∧ w'.cell? ⟨w.heap.size, 1, none⟩ = some (.slice (some ⟨b9, o9, none⟩) ns.length c) ∧ w'.cell? ⟨w.heap.size + 1, 0, none⟩ = some (.int .i64 ux) ∧ w'.cell? ⟨w.heap.size + 1, 1, none⟩ = some (.int .i64 uy) ∧ w'.cell? ⟨b9, o9, none⟩ = some (.int .i64 yi) ∧ w'.cell? ⟨b9, o9 + 1, none⟩ = some (.slice B1 yl.length d1) ∧ w'.cell? ⟨b9, o9 + 2, none⟩ = some (.int .i64 yj))
          (first | with_reducible exact hS.out _ (((hF1.setCell (p := ⟨w1.heap.size, 0, none⟩) hge _).setCell (p := ⟨w1.heap.size, 1, none⟩) hge _).setCell (p := ⟨w1.heap.size, 2, none⟩) hge _) | with_reducible exact hS.out _ hF1 | with_reducible exact hS.out _ (ext_alloc hF1 _) | with_reducible exact hS.out _ hEd.out | with_reducible exact hS.out _ hEa.out | with_reducible exact hS.out _ (ext_alloc hEd.out _) | go_keep)
          (first
            | ((go_at_call 10; with_reducible refine (hP.out w1.drew (hS0.out.ext hEd.out) (LogR.ext hB1.out hEd.out)).mono ?_; intro e u1 hG0; obtain ⟨A5, c5, rfl, hR, hG⟩ := takenIn hG0 hxs.out; clear hG0; have hF1 := ext_trans hEd.out hG; clear hG))
            | ((go_at_call 10; with_reducible refine (hP.out (w1.alloc (.cells #[.int .i64 0, .slice none 0 0, .int .i64 0] 25)).drew (hS0.out.ext hEa.out) (LogR.ext hB1.out hEa.out)).mono ?_; intro e u1 hG0; obtain ⟨A5, c5, rfl, hR, hG⟩ := takenIn hG0 hxs.out; clear hG0; have lN := Blk.lt bNa.out; have bN := bNa.out.ext hG; have hF1 := ext_trans hEa.out hG; clear hG; have bM := Blk.at3f bN; obtain ⟨n_0, n_1, n_2, n_lt, n_f0, n_f1, n_f2⟩ := bM)) | fail)
        all_goals go_wp2_with fail
        all_goals go_meet
        all_goals exact ⟨_, A5, c5, rfl, rfl, hide (by first | with_reducible exact made_last hEd.out hF1 hR.out | with_reducible exact made_in hF1 hge bN lN hR.out)⟩
      case rest =>
        obtain ⟨g, A3, c3, rfl, rfl, hEn⟩ := hcut
        obtain ⟨hF, G, hgeG, loG, hiG, hL3, hloG, hhiG, hglG⟩ := hEn.out
        clear hEn hxs
        have sz3 := hF.size
        have gG := G.lt
        have hgeG0 := hgeG
        rename World => w3
        replace G := hide G
        replace h := hide (h.out.ext hF)
        replace b := hide (b.out.ext hF)
        replace r := hide (r.out.ext hF)
        try clear b_0 b_1 b_lt
        obtain ⟨b_0, b_1, b_lt⟩ := b.out.at2
        try clear r_0 r_1 r_lt r_f0 r_f1
        obtain ⟨r_0, r_1, r_lt, r_f0, r_f1⟩ := r.out.at2f
        replace hE := hide (ext_trans hE.out hF)
        clear hF
        try clear G_0 G_1 G_2 G_lt G_f0 G_f1 G_f2
        obtain ⟨G_0, G_1, G_2, G_lt, G_f0, G_f1, G_f2⟩ := G.out.at3f
        try simp only [World.size_alloc] at sz3 hgeG hloG
        go_wp2_with fail
        refine bodyPost_ret (v := .tuple #[.agg #[.int .i64 0, .slice none 0 0], .bool false]) (by simp [results, Tryd.results23, go_sem, r_0, r_1]) rfl ?_
        exact gotChB_zero e1.out e2.out e3.out ((hE.out.setCell (by show w.heap.size ≤ w.heap.size + 1 + 1; omega) _).setCell (by show w.heap.size ≤ w.heap.size + 1 + 1; omega) _)
  · obtain ⟨e1, e2, e3⟩ := write_bad hs hok
    clear hs
    replace hok := hide hok
    replace e1 := hide e1
    replace e2 := hide e2
    replace e3 := hide e3
    go_enter Tryd.func23, Tryd.ntmps23
    go_wp2_with fail

    refine (implChainValid_no c v h.out hb hok.out).mono ?_
    rintro e w1 ⟨rfl, hF⟩
    replace b := hide (b.out.ext hF)
    replace u := hide (u.out.ext hF)
    replace r := hide (r.out.ext hF)
    try clear b_0 b_1 b_lt
    obtain ⟨b_0, b_1, b_lt⟩ := b.out.at2
    try clear u_0 u_1 u_lt
    obtain ⟨u_0, u_1, u_lt⟩ := u.out.at2
    try clear r_0 r_1 r_lt r_f0 r_f1
    obtain ⟨r_0, r_1, r_lt, r_f0, r_f1⟩ := r.out.at2f
    replace hE := hide (ext_trans hE.out hF)
    clear hF

    go_wp2_with fail
    refine bodyPost_ret (v := .tuple #[.agg #[.int .i64 0, .slice none 0 0], .bool false]) (by simp [results, Tryd.results23, go_sem, r_0, r_1]) rfl ?_
    exact gotChB_zero e1.out e2.out e3.out ((hE.out.setCell (by show w.heap.size ≤ w.heap.size + 1 + 1; omega) _).setCell (by show w.heap.size ≤ w.heap.size + 1 + 1; omega) _)
end Go.Proofs.YtjheeeilcfbdbaaDoor
