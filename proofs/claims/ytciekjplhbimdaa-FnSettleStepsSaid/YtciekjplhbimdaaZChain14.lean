/-
  Contract: an update is passed on in a chain, by the reference.
-/
import Derived.Test.YtciekjplhbimdaaZChain12
import Derived.Test.YtciekjplhbimdaaZChain10
set_option linter.all false
set_option maxRecDepth 100000
namespace Go.Proofs.YtciekjplhbimdaaZ
open Go.RowKit
attribute [local go_sem ↓] Go.wp_at_zero Go.wp_at_succ

theorem pass_takeOk {v at_ : Int} {ns : List Nd} {k : Nat} {x y : Nd} {u : Upd} (hp : PassAt v ns at_ k x y) (hu : x.log[y.log.length]? = some u) : takeOk y u = true := by
  have hlt := passAt_lt hp
  obtain ⟨hok, -, hx, hy, -⟩ := hp
  have h1 := logOk_at (ndOk_all (hok.at_ hx)).2.1 hlt.1
  have e : x.log[y.log.length]'hlt.1 = u := by
    rw [List.getElem?_eq_getElem hlt.1] at hu
    exact Option.some.inj hu
  rw [e] at h1
  exact takeOk_mk (hok.at_ hy) h1 (by omega)
set_option maxHeartbeats 6400000 in
theorem specChainPass_yes {A : Option Addr} {ns : List Nd} {k : Nat} {x y : Nd} {u : Upd} (c : Nat) (v at_ : Int) {w : World} (h : NodesR w A ns) (hb : bulk ns ≤ 1048576) (hlc : ns.length ≤ c) (hp : PassAt v ns at_ k x y) (hu : x.log[y.log.length]? = some u) :
    Calls Alt.prog 17 #[.agg #[.int .i64 v, .slice A ns.length c], .int .i64 at_] w (GotChB w v (ns.set (k + 1) (passed ns k y u)) true) := by
  obtain ⟨ux, uy⟩ := u
  have htk := pass_takeOk hp hu
  have hlt := (passAt_lt hp).1
  obtain ⟨hok, rfl, hx, hy, hne⟩ := hp
  have hl := bulk_len ns
  obtain ⟨k1, hk1⟩ : ∃ k1, k1 = k + 1 := ⟨_, rfl⟩
  rw [← hk1] at hy
  obtain ⟨xi, xl, xj, ex⟩ := nd_cases x
  obtain ⟨yi, yl, yj, ey⟩ := nd_cases y
  subst ex ey
  have hkl := getElem_some hx
  have hkl1 := getElem_some hy
  have hw1 : IntKind.i64.wrap ((k : Int) + 1) = (k1 : Int) := by rw [show ((k : Int) + 1) = (k1 : Int) by omega]; exact IntWalk.i64_in _ (by omega)
  have hi0 : (0 : Int) ≤ (k : Int) := by omega
  have hi1 : (k : Int) < (ns.length : Int) := by omega
  have hi2 : (0 : Int) ≤ (k1 : Int) := by omega
  have hi3 : (k1 : Int) < (ns.length : Int) := by omega
  have h5 := hok.2.1
  have hw2 : IntKind.i64.wrap ((ns.length : Int) - 2) = (ns.length : Int) - 2 := IntWalk.i64_in _ (by omega)
  have hd2 : decide (0 ≤ (k : Int) ∧ (k : Int) ≤ (ns.length : Int) - 2) = true := decide_eq_true ⟨by omega, by omega⟩
  simp only at hne hu hlt
  have hT : TakeRes v ns k1 ⟨yi, yl, yj⟩ (ux, uy) v (ns.set (k + 1) (passed ns k ⟨yi, yl, yj⟩ (ux, uy))) true := .inl ⟨htk, rfl, by rw [passed_grown, hk1], rfl⟩
  obtain ⟨rl, hrl⟩ : ∃ rl, ns.set (k + 1) (passed ns k ⟨yi, yl, yj⟩ (ux, uy)) = rl := ⟨_, rfl⟩
  rw [hrl] at hT ⊢
  have hd : ((yl.length : Int) == (xl.length : Int)) = false := by simp; omega
  have hd' : (yl.length == xl.length) = false := by simp; omega
  have hg9 : xl[yl.length] = (ux, uy) := by rw [List.getElem?_eq_getElem hlt] at hu; exact Option.some.inj hu
  have hj0 : (0 : Int) ≤ (yl.length : Int) := by omega
  have hj1 : (yl.length : Int) < (xl.length : Int) := by omega
  replace hne := hide hne
  replace hu := hide hu
  replace hok := hide hok
  replace hx := hide hx
  replace hy := hide hy
  replace hk1 := hide hk1
  replace hT := hide hT
  replace hrl := hide hrl
  replace htk := hide htk
  obtain ⟨b9, o9, _, _, _, B1, d1, hA, hbl, hx', hld1, hdm1, hB1, c0, -, -, c1, c2⟩ := node_at h hkl
  cases hA
  rw [hx.out] at hx'
  cases hx'
  obtain ⟨b8, o8, _, _, _, B2, d2, hA, hbl2, hy', hld2, hdm2, hB2, e0, -, -, e1, e2⟩ := node_at h hkl1
  cases hA
  rw [hy.out] at hy'
  cases hy'
  obtain ⟨bx, ox, rfl, hbx, q0, q1⟩ := hB1.at_ hlt
  rw [hg9] at q0 q1
  simp only at q0 q1
  rw [← Nat.add_assoc] at q1
  clear hB1 hB2 hg9 c0 c2 e0 e2
  have hE := hide (ext_refl w)
  replace h := hide h
  have b := hide (Blk.newAt (w) 25 #[.int .i64 v, .slice (some ⟨b9, o9, none⟩) ns.length c] (g := w.heap.size) (by simp))
  replace h := hide (h.out.ext (ext_alloc (ext_refl (w)) (.cells #[.int .i64 v, .slice (some ⟨b9, o9, none⟩) ns.length c] 25)))
  replace hE := hide (ext_alloc hE.out (.cells #[.int .i64 v, .slice (some ⟨b9, o9, none⟩) ns.length c] 25))
  have r := hide (Blk.newAt (w.alloc (.cells #[.int .i64 v, .slice (some ⟨b9, o9, none⟩) ns.length c] 25)) 25 #[.int .i64 0, .slice none 0 0] (g := w.heap.size + 1) (by simp))
  replace h := hide (h.out.ext (ext_alloc (ext_refl (w.alloc (.cells #[.int .i64 v, .slice (some ⟨b9, o9, none⟩) ns.length c] 25))) (.cells #[.int .i64 0, .slice none 0 0] 25)))
  replace b := hide (b.out.ext (ext_alloc (ext_refl (w.alloc (.cells #[.int .i64 v, .slice (some ⟨b9, o9, none⟩) ns.length c] 25))) (.cells #[.int .i64 0, .slice none 0 0] 25)))
  replace hE := hide (ext_alloc hE.out (.cells #[.int .i64 0, .slice none 0 0] 25))

  have hEs := ext_alloc (ext_alloc (ext_refl w) (.cells #[.int .i64 v, .slice (some ⟨b9, o9, none⟩) ns.length c] 25)) (.cells #[.int .i64 0, .slice none 0 0] 25)
  replace c1 := ext_cell hEs c1
  replace e1 := ext_cell hEs e1
  replace q0 := ext_cell hEs q0
  replace q1 := ext_cell hEs q1
  clear hEs
  go_enter Alt.func17, Try.ntmps17
  go_wp2_with fail
  refine (specChainValid_yes c v h.out hb hlc hok.out).mono ?_
  rintro e w1 ⟨rfl, hF⟩
  have hz1 := hF.size
  simp only [World.size_alloc] at hz1
  replace c1 := ext_cell hF c1
  replace e1 := ext_cell hF e1
  replace q0 := ext_cell hF q0
  replace q1 := ext_cell hF q1
  replace h := hide (h.out.ext hF)
  replace b := hide (b.out.ext hF)
  replace r := hide (r.out.ext hF)
  try clear b_0 b_1 b_lt
  obtain ⟨b_0, b_1, b_lt⟩ := b.out.at2
  try clear r_0 r_1 r_lt r_f0 r_f1
  obtain ⟨r_0, r_1, r_lt, r_f0, r_f1⟩ := r.out.at2f
  replace hE := hide (ext_trans hE.out hF)
  clear hF
  go_wp2_with fail
  refine (l6In_any _ _ _ _).mono ?_
  rintro e w1' ⟨rfl, rfl⟩
  rw [hd2]
  go_upto_region 6 with fail
  have hEd := ext_drew (ext_refl w1)
  have hS : (w1.drew.cell? ⟨w.heap.size, 0, none⟩ = some (.int .i64 v) ∧ w1.drew.cell? ⟨w.heap.size, 1, none⟩ = some (.slice (some ⟨b9, o9, none⟩) ns.length c) ∧ w1.drew.cell? ⟨b9, o9 + k * 3 + 1, none⟩ = some (.slice (some ⟨bx, ox, none⟩) xl.length d1) ∧ w1.drew.cell? ⟨bx, ox + yl.length * 2, none⟩ = some (.int .i64 ux) ∧ w1.drew.cell? ⟨bx, ox + yl.length * 2 + 1, none⟩ = some (.int .i64 uy)) := ⟨ext_cell hEd b_0, ext_cell hEd b_1, ext_cell hEd c1, ext_cell hEd q0, ext_cell hEd q1⟩
  have hNd := NodesR.ext h.out hEd
  have hSe : ∀ wb : World, Ext w1.drew wb → (fun w' : World => w'.cell? ⟨w.heap.size, 0, none⟩ = some (.int .i64 v) ∧ w'.cell? ⟨w.heap.size, 1, none⟩ = some (.slice (some ⟨b9, o9, none⟩) ns.length c) ∧ w'.cell? ⟨b9, o9 + k * 3 + 1, none⟩ = some (.slice (some ⟨bx, ox, none⟩) xl.length d1) ∧ w'.cell? ⟨bx, ox + yl.length * 2, none⟩ = some (.int .i64 ux) ∧ w'.cell? ⟨bx, ox + yl.length * 2 + 1, none⟩ = some (.int .i64 uy)) wb := fun wb hF => ⟨ext_cell hF hS.1, ext_cell hF hS.2.1, ext_cell hF hS.2.2.1, ext_cell hF hS.2.2.2.1, ext_cell hF hS.2.2.2.2⟩
  have hSf : ∀ (wa : World) (u u' : Value), (fun w' : World => w'.cell? ⟨w.heap.size, 0, none⟩ = some (.int .i64 v) ∧ w'.cell? ⟨w.heap.size, 1, none⟩ = some (.slice (some ⟨b9, o9, none⟩) ns.length c) ∧ w'.cell? ⟨b9, o9 + k * 3 + 1, none⟩ = some (.slice (some ⟨bx, ox, none⟩) xl.length d1) ∧ w'.cell? ⟨bx, ox + yl.length * 2, none⟩ = some (.int .i64 ux) ∧ w'.cell? ⟨bx, ox + yl.length * 2 + 1, none⟩ = some (.int .i64 uy)) wa → (fun w' : World => w'.cell? ⟨w.heap.size, 0, none⟩ = some (.int .i64 v) ∧ w'.cell? ⟨w.heap.size, 1, none⟩ = some (.slice (some ⟨b9, o9, none⟩) ns.length c) ∧ w'.cell? ⟨b9, o9 + k * 3 + 1, none⟩ = some (.slice (some ⟨bx, ox, none⟩) xl.length d1) ∧ w'.cell? ⟨bx, ox + yl.length * 2, none⟩ = some (.int .i64 ux) ∧ w'.cell? ⟨bx, ox + yl.length * 2 + 1, none⟩ = some (.int .i64 uy)) ((wa.setCell ⟨w.heap.size + 1, 0, none⟩ u).setCell ⟨w.heap.size + 1, 1, none⟩ u') := fun wa u u' hs => by
    obtain ⟨s1, s2, s3, s4, s5⟩ := hs
    have cs : ∀ (p : Addr) (x : Value), p.block ≠ w.heap.size + 1 → wa.cell? p = some x → ((wa.setCell ⟨w.heap.size + 1, 0, none⟩ u).setCell ⟨w.heap.size + 1, 1, none⟩ u').cell? p = some x := fun p x hne hc => by
      rw [World.cell?_setCell_other (h := fun e => hne (congrArg Addr.block e).symm), World.cell?_setCell_other (h := fun e => hne (congrArg Addr.block e).symm)]
      exact hc
    exact ⟨cs _ _ (show w.heap.size ≠ w.heap.size + 1 by omega) s1, cs _ _ (show w.heap.size ≠ w.heap.size + 1 by omega) s2, cs _ _ (show b9 ≠ w.heap.size + 1 by omega) s3, cs _ _ (show bx ≠ w.heap.size + 1 by omega) s4, cs _ _ (show bx ≠ w.heap.size + 1 by omega) s5⟩
  have hz0 : w1.drew.heap.size = w1.heap.size := rfl
  replace hEd := hide hEd
  have rd := hide (r.out.ext hEd.out)
  clear b_0 b_1 b_lt r_0 r_1 r_lt r_f0 r_f1 c1 q0 q1
  try clear rd_0 rd_1 rd_lt rd_f0 rd_f1
  obtain ⟨rd_0, rd_1, rd_lt, rd_f0, rd_f1⟩ := rd.out.at2f
  go_region_held3 (fun w' : World => w'.cell? ⟨w.heap.size, 0, none⟩ = some (.int .i64 v) ∧ w'.cell? ⟨w.heap.size, 1, none⟩ = some (.slice (some ⟨b9, o9, none⟩) ns.length c) ∧ w'.cell? ⟨b9, o9 + k * 3 + 1, none⟩ = some (.slice (some ⟨bx, ox, none⟩) xl.length d1) ∧ w'.cell? ⟨bx, ox + yl.length * 2, none⟩ = some (.int .i64 ux) ∧ w'.cell? ⟨bx, ox + yl.length * 2 + 1, none⟩ = some (.int .i64 uy)) (first | with_reducible exact hS | with_reducible exact hSx | with_reducible exact hSf _ _ _ hSx | fail)
    ((go_at_call 44; refine (l4Take_any c v ux uy hNd hb hy.out hT.out).mono ?_; intro e w2 hG; obtain ⟨A2, c2, rfl, -, -, hP, hF⟩ := hG.use; clear hG; have hEw := hide (ext_trans hEd.out hF); have hSx := hSe _ hF; have r2 := hide (r.out.ext hEw.out); obtain ⟨r2_0, r2_1, r2_lt, r2_f0, r2_f1⟩ := r2.out.at2f))
  have r3 := hide ((r2.out.set20 (.int .i64 v)).set21 (.slice A2 rl.length c2))
  try clear r3_0 r3_1 r3_lt r3_f0 r3_f1
  obtain ⟨r3_0, r3_1, r3_lt, r3_f0, r3_f1⟩ := r3.out.at2f
  go_wp2_with fail
  refine bodyPost_ret (v := .tuple #[.agg #[.int .i64 v, .slice A2 rl.length c2], .bool true]) (by simp [results, Try.results17, go_sem, r3_0, r3_1]) rfl ?_
  exact gotChB_of rfl rfl rfl rfl ((hP.out.handed r2.out _ _).wide (by omega) (by simp)) (((ext_trans hE.out hEw.out).setCell (Nat.le_succ _) _).setCell (Nat.le_succ _) _)
set_option maxHeartbeats 6400000 in
theorem specChainPass_no {A : Option Addr} {ns : List Nd} (c : Nat) (v at_ : Int) {w : World} (h : NodesR w A ns) (hb : bulk ns ≤ 1048576) (hlc : ns.length ≤ c) (hno : ¬ ∃ k x y, PassAt v ns at_ k x y) :
    Calls Alt.prog 17 #[.agg #[.int .i64 v, .slice A ns.length c], .int .i64 at_] w (GotChB w 0 [] false) := by
  have hl := bulk_len ns
  have hE := hide (ext_refl w)
  replace h := hide h
  have b := hide (Blk.newAt (w) 25 #[.int .i64 v, .slice A ns.length c] (g := w.heap.size) (by simp))
  replace h := hide (h.out.ext (ext_alloc (ext_refl (w)) (.cells #[.int .i64 v, .slice A ns.length c] 25)))
  replace hE := hide (ext_alloc hE.out (.cells #[.int .i64 v, .slice A ns.length c] 25))
  have r := hide (Blk.newAt (w.alloc (.cells #[.int .i64 v, .slice A ns.length c] 25)) 25 #[.int .i64 0, .slice none 0 0] (g := w.heap.size + 1) (by simp))
  replace h := hide (h.out.ext (ext_alloc (ext_refl (w.alloc (.cells #[.int .i64 v, .slice A ns.length c] 25))) (.cells #[.int .i64 0, .slice none 0 0] 25)))
  replace b := hide (b.out.ext (ext_alloc (ext_refl (w.alloc (.cells #[.int .i64 v, .slice A ns.length c] 25))) (.cells #[.int .i64 0, .slice none 0 0] 25)))
  replace hE := hide (ext_alloc hE.out (.cells #[.int .i64 0, .slice none 0 0] 25))
  by_cases hok : ChOk v ns
  · by_cases hlk : LinkOk v ns at_
    · obtain ⟨k, x, y, rfl, hx, hy, hne⟩ := pass_not hno hlk
      obtain ⟨k1, hk1⟩ : ∃ k1, k1 = k + 1 := ⟨_, rfl⟩
      rw [← hk1] at hy
      obtain ⟨xi, xl, xj, ex⟩ := nd_cases x
      obtain ⟨yi, yl, yj, ey⟩ := nd_cases y
      subst ex ey
      have hkl := getElem_some hx
      have hkl1 := getElem_some hy
      have hw1 : IntKind.i64.wrap ((k : Int) + 1) = (k1 : Int) := by rw [show ((k : Int) + 1) = (k1 : Int) by omega]; exact IntWalk.i64_in _ (by omega)
      have hi0 : (0 : Int) ≤ (k : Int) := by omega
      have hi1 : (k : Int) < (ns.length : Int) := by omega
      have hi2 : (0 : Int) ≤ (k1 : Int) := by omega
      have hi3 : (k1 : Int) < (ns.length : Int) := by omega
      have h5 := hok.2.1
      have hw2 : IntKind.i64.wrap ((ns.length : Int) - 2) = (ns.length : Int) - 2 := IntWalk.i64_in _ (by omega)
      have hd2 : decide (0 ≤ (k : Int) ∧ (k : Int) ≤ (ns.length : Int) - 2) = true := decide_eq_true ⟨by omega, by omega⟩
      simp only at hne
      have hd : ((yl.length : Int) == (xl.length : Int)) = true := by simp; omega
      have hd' : (yl.length == xl.length) = true := by simp; omega
      replace hne := hide hne
      replace hno := hide hno
      replace hlk := hide hlk
      replace hok := hide hok
      replace hx := hide hx
      replace hy := hide hy
      replace hk1 := hide hk1
      go_enter Alt.func17, Try.ntmps17
      go_wp2_with fail
      refine (specChainValid_yes c v h.out hb hlc hok.out).mono ?_
      rintro e w1 ⟨rfl, hF⟩
      have hz1 := hF.size
      simp only [World.size_alloc] at hz1
      replace h := hide (h.out.ext hF)
      replace b := hide (b.out.ext hF)
      replace r := hide (r.out.ext hF)
      try clear b_0 b_1 b_lt
      obtain ⟨b_0, b_1, b_lt⟩ := b.out.at2
      try clear r_0 r_1 r_lt r_f0 r_f1
      obtain ⟨r_0, r_1, r_lt, r_f0, r_f1⟩ := r.out.at2f
      replace hE := hide (ext_trans hE.out hF)
      clear hF
      go_wp2_with fail
      refine (l6In_any _ _ _ _).mono ?_
      rintro e w1' ⟨rfl, rfl⟩
      rw [hd2]
      obtain ⟨b9, o9, _, _, _, B1, d1, hA, hbl, hx', hld1, hdm1, hB1, c0, -, -, c1, c2⟩ := node_at h.out hkl
      cases hA
      rw [hx.out] at hx'
      cases hx'
      obtain ⟨b8, o8, _, _, _, B2, d2, hA, hbl2, hy', hld2, hdm2, hB2, e0, -, -, e1, e2⟩ := node_at h.out hkl1
      cases hA
      rw [hy.out] at hy'
      cases hy'
      clear hB1 hB2 c0 c2 e0 e2
      go_wp2_with fail
      refine bodyPost_ret (v := .tuple #[.agg #[.int .i64 0, .slice none 0 0], .bool false]) (by simp [results, Try.results17, go_sem, r_0, r_1]) rfl ?_
      exact gotChB_zero rfl rfl rfl ((hE.out.setCell (Nat.le_succ _) _).setCell (Nat.le_succ _) _)
    · have h5 := hok.2.1
      have hw2 : IntKind.i64.wrap ((ns.length : Int) - 2) = (ns.length : Int) - 2 := IntWalk.i64_in _ (by omega)
      have hd2 : decide (0 ≤ at_ ∧ at_ ≤ (ns.length : Int) - 2) = false := decide_eq_false fun h => hlk ⟨hok, by omega, by omega⟩
      replace hno := hide hno
      replace hlk := hide hlk
      replace hok := hide hok
      go_enter Alt.func17, Try.ntmps17
      go_wp2_with fail
      refine (specChainValid_yes c v h.out hb hlc hok.out).mono ?_
      rintro e w1 ⟨rfl, hF⟩
      have hz1 := hF.size
      simp only [World.size_alloc] at hz1
      replace h := hide (h.out.ext hF)
      replace b := hide (b.out.ext hF)
      replace r := hide (r.out.ext hF)
      try clear b_0 b_1 b_lt
      obtain ⟨b_0, b_1, b_lt⟩ := b.out.at2
      try clear r_0 r_1 r_lt r_f0 r_f1
      obtain ⟨r_0, r_1, r_lt, r_f0, r_f1⟩ := r.out.at2f
      replace hE := hide (ext_trans hE.out hF)
      clear hF
      go_wp2_with fail
      refine (l6In_any _ _ _ _).mono ?_
      rintro e w1' ⟨rfl, rfl⟩
      rw [hd2]
      go_wp2_with fail
      refine bodyPost_ret (v := .tuple #[.agg #[.int .i64 0, .slice none 0 0], .bool false]) (by simp [results, Try.results17, go_sem, r_0, r_1]) rfl ?_
      exact gotChB_zero rfl rfl rfl ((hE.out.setCell (Nat.le_succ _) _).setCell (Nat.le_succ _) _)
  · replace hno := hide hno
    replace hok := hide hok
    go_enter Alt.func17, Try.ntmps17
    go_wp2_with fail
    refine (specChainValid_no c v h.out hb hlc hok.out).mono ?_
    rintro e w1 ⟨rfl, hF⟩
    replace h := hide (h.out.ext hF)
    replace b := hide (b.out.ext hF)
    replace r := hide (r.out.ext hF)
    try clear b_0 b_1 b_lt
    obtain ⟨b_0, b_1, b_lt⟩ := b.out.at2
    try clear r_0 r_1 r_lt r_f0 r_f1
    obtain ⟨r_0, r_1, r_lt, r_f0, r_f1⟩ := r.out.at2f
    replace hE := hide (ext_trans hE.out hF)
    clear hF
    go_wp2_with fail
    refine bodyPost_ret (v := .tuple #[.agg #[.int .i64 0, .slice none 0 0], .bool false]) (by simp [results, Try.results17, go_sem, r_0, r_1]) rfl ?_
    exact gotChB_zero rfl rfl rfl ((hE.out.setCell (Nat.le_succ _) _).setCell (Nat.le_succ _) _)
theorem specChainPass_any {A : Option Addr} {ns : List Nd} {rv : Int} {rl : List Nd} {rb : Bool} (c : Nat) (v at_ : Int) {w : World} (h : NodesR w A ns) (hb : bulk ns ≤ 1048576) (hlc : ns.length ≤ c) (hs : PassRes v ns at_ rv rl rb) :
    Calls Alt.prog 17 #[.agg #[.int .i64 v, .slice A ns.length c], .int .i64 at_] w (GotChB w rv rl rb) := by
  rcases hs with ⟨k, x, y, u, hp, hu, rfl, rfl, rfl⟩ | ⟨hno, rfl, rfl, rfl⟩
  · exact specChainPass_yes c rv at_ h hb hlc hp hu
  · exact specChainPass_no c v at_ h hb hlc hno
theorem chOk_bulk {v : Int} {ns : List Nd} (h : ChOk v ns) : bulk ns ≤ 65 := by
  have h1 := h.2.1
  have h2 := bulk_le 12 ns fun x hx => by
    obtain ⟨i, hi⟩ := List.getElem?_of_mem hx
    exact (ndOk_all (h.at_ hi)).2.2.1
  have : ns.length * 13 ≤ 65 := by omega
  omega
theorem passRes_small {v at_ rv : Int} {ns rl : List Nd} {rb : Bool} (h : PassRes v ns at_ rv rl rb) : bulk rl ≤ 1048576 := by
  rcases h with ⟨k, x, y, u, hp, hu, -, rfl, -⟩ | ⟨-, -, rfl, -⟩
  · exact Nat.le_trans (chOk_bulk (passAt_ok hp hu)) (by decide)
  · simp [bulk]
theorem pass_yes {v at_ rv : Int} {ns rl : List Nd} (h : PassRes v ns at_ rv rl true) : ∃ (k : Nat) (x y : Nd) (u : Upd), PassAt v ns at_ k x y ∧ x.log[y.log.length]? = some u ∧ rv = v ∧ rl = ns.set (k + 1) (passed ns k y u) := by
  rcases h with ⟨k, x, y, u, h1, h2, h3, h4, -⟩ | ⟨-, -, -, h⟩
  · exact ⟨k, x, y, u, h1, h2, h3, h4⟩
  · cases h
end Go.Proofs.YtciekjplhbimdaaZ
