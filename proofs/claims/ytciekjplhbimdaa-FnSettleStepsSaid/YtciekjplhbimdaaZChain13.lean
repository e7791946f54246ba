/-
  Contracts: an update is passed on in a chain, both (impl.ChainPass over the turned program).
-/
import Derived.Test.YtciekjplhbimdaaZChain12
import Derived.Test.YtciekjplhbimdaaZChain10
import Derived.Test.YtciekjplhbimdaaZAlt1
set_option linter.all false
set_option maxRecDepth 100000
namespace Go.Proofs.YtciekjplhbimdaaZ
open Go.RowKit
attribute [local go_sem ↓] Go.wp_at_zero Go.wp_at_succ

set_option maxHeartbeats 6400000 in
theorem implChainPass_yes {A : Option Addr} {ns : List Nd} {k : Nat} {x y : Nd} {u : Upd} (c : Nat) (v at_ : Int) {w : World} (h : NodesR w A ns) (hb : bulk ns ≤ 1048576) (hp : PassAt v ns at_ k x y) (hu : x.log[y.log.length]? = some u) :
    Calls Alt.prog 13 #[.agg #[.int .i64 v, .slice A ns.length c], .int .i64 at_] w (GotChB w v (ns.set (k + 1) (passed ns k y u)) true) := by
  have hl := bulk_len ns
  have hE := hide (ext_refl w)
  replace h := hide h
  have b := hide (Blk.newAt (w) 25 #[.int .i64 v, .slice A ns.length c] (g := w.heap.size) (by simp))
  replace h := hide (h.out.ext (ext_alloc (ext_refl (w)) (.cells #[.int .i64 v, .slice A ns.length c] 25)))
  replace hE := hide (ext_alloc hE.out (.cells #[.int .i64 v, .slice A ns.length c] 25))
  have r := hide (Blk.newAt (w.alloc (.cells #[.int .i64 v, .slice A ns.length c] 25)) 25 #[.int .i64 0, .slice none 0 0] (g := w.heap.size + 1) (by simp))
  replace h := hide (h.out.ext (ext_alloc (ext_refl (w.alloc (.cells #[.int .i64 v, .slice A ns.length c] 25))) (.cells #[.int .i64 0, .slice none 0 0] 25)))
  replace b := hide (b.out.ext (ext_alloc (ext_refl (w.alloc (.cells #[.int .i64 v, .slice A ns.length c] 25))) (.cells #[.int .i64 0, .slice none 0 0] 25)))
  replace hE := hide (ext_alloc hE.out (.cells #[.int .i64 0, .slice none 0 0] 25))
  have hW : ((w.alloc (.cells #[.int .i64 v, .slice A ns.length c] 25)).alloc (.cells #[.int .i64 0, .slice none 0 0] 25)).heap.size = w.heap.size + 2 := by simp
  have hlk := hide (passAt_link hp)
  obtain ⟨ux, uy⟩ := u
  have hlt := (passAt_lt hp).1
  obtain ⟨hok, rfl, hx, hy, hne⟩ := hp
  replace hok := hide hok
  obtain ⟨k1, hk1⟩ : ∃ k1, k1 = k + 1 := ⟨_, rfl⟩
  rw [← hk1] at hy
  obtain ⟨xi, xl, xj, ex⟩ := nd_cases x
  obtain ⟨yi, yl, yj, ey⟩ := nd_cases y
  subst ex ey
  have hkl := getElem_some hx
  have hkl1 := getElem_some hy
  obtain ⟨b9, o9, _, _, _, B1, d1, hA, hbl, hx', hld1, hdm1, hB1, c0, -, -, c1, c2⟩ := node_at h.out hkl
  cases hA
  rw [hx] at hx'
  cases hx'
  obtain ⟨b8, o8, _, _, _, B2, d2, hA, hbl2, hy', hld2, hdm2, hB2, e0, -, -, e1, e2⟩ := node_at h.out hkl1
  cases hA
  rw [hy] at hy'
  cases hy'
  have hw1 : IntKind.i64.wrap ((k : Int) + 1) = (k1 : Int) := by rw [show ((k : Int) + 1) = (k1 : Int) by omega]; exact IntWalk.i64_in _ (by omega)
  have hi0 : (0 : Int) ≤ (k : Int) := by omega
  have hi1 : (k : Int) < (ns.length : Int) := by omega
  have hi2 : (0 : Int) ≤ (k1 : Int) := by omega
  have hi3 : (k1 : Int) < (ns.length : Int) := by omega
  have hkk : k ≠ k1 := by omega
  have hm1 : xl.length ≤ 1048576 := bulk_of hb hx
  replace hx := hide hx
  replace hy := hide hy
  replace hB1 := hide hB1
  replace hB2 := hide hB2
  have hq0 : ∀ w', Ext ((w.alloc (.cells #[.int .i64 v, .slice (some ⟨b9, o9, none⟩) ns.length c] 25)).alloc (.cells #[.int .i64 0, .slice none 0 0] 25)) w' → w'.cell? ⟨w.heap.size, 0, none⟩ = some (.int .i64 v) := fun w' hC => (b.out.ext hC).at2.1
  have hq1 : ∀ w', Ext ((w.alloc (.cells #[.int .i64 v, .slice (some ⟨b9, o9, none⟩) ns.length c] 25)).alloc (.cells #[.int .i64 0, .slice none 0 0] 25)) w' → w'.cell? ⟨w.heap.size, 1, none⟩ = some (.slice (some ⟨b9, o9, none⟩) ns.length c) := fun w' hC => (b.out.ext hC).at2.2.1
  have hq2 : ∀ w', Ext ((w.alloc (.cells #[.int .i64 v, .slice (some ⟨b9, o9, none⟩) ns.length c] 25)).alloc (.cells #[.int .i64 0, .slice none 0 0] 25)) w' → w'.cell? ⟨b9, o9 + k * 3 + 1, none⟩ = some (.slice B1 xl.length d1) := fun w' hC => ext_cell hC c1
  have hq3 : ∀ w', Ext ((w.alloc (.cells #[.int .i64 v, .slice (some ⟨b9, o9, none⟩) ns.length c] 25)).alloc (.cells #[.int .i64 0, .slice none 0 0] 25)) w' → w'.cell? ⟨b9, o9 + k1 * 3 + 1, none⟩ = some (.slice B2 yl.length d2) := fun w' hC => ext_cell hC e1
  simp only at hne hu hlt
  have hd : ((xl.length : Int) == (yl.length : Int)) = false := by simp; omega
  have hd' : (xl.length == yl.length) = false := by simp; omega
  replace hne := hide hne
  replace hu := hide hu
  replace hlt := hide hlt
  replace hk1 := hide hk1
  have hcl : ∀ w', Ext ((w.alloc (.cells #[.int .i64 v, .slice (some ⟨b9, o9, none⟩) ns.length c] 25)).alloc (.cells #[.int .i64 0, .slice none 0 0] 25)) w' → Calls Alt.prog 35 #[.agg #[.int .i64 v, .slice (some ⟨b9, o9, none⟩) ns.length c], .int .i64 (k : Int)] w' (fun e w'' => e = .returned (.bool true) ∧ Ext ((w.alloc (.cells #[.int .i64 v, .slice (some ⟨b9, o9, none⟩) ns.length c] 25)).alloc (.cells #[.int .i64 0, .slice none 0 0] 25)) w'') := fun w' hC =>
    (linkAt_yes c v k (h.out.ext hC) hb hlk.out).mono fun e w'' ⟨f1, f2⟩ => ⟨f1, ext_trans hC f2⟩
  go_enter Alt.func13, Try.ntmps13
  go_wp2_with fail
  refine wp_region_quietE (by kernel_rfl) (by kernel_rfl) ?_
  repeat (
    refine QW.step (fun K hK => ?_)
    go_simp
    first
    | (refine hK _ ?_; clear hK K)
    | (apply Exists.intro
       refine ⟨fun w5 hC => ?_, hK _ ?_⟩
       · first
         | rfl
         | exact hcl w5 hC
         | (simp only [hq0 w5 hC, hq1 w5 hC, hq2 w5 hC, hq3 w5 hC, Result.andThen_ok, true_and]; rfl)
       clear hK K))
  refine QW.nil ?_
  intro w1 hF
  replace hE := hide (ext_trans hE.out hF)
  have hN1 := hide (h.out.ext hF)
  have r1 := hide (r.out.ext hF)
  have b1 := hide (b.out.ext hF)
  have hS1 : (fun w' : World => w'.cell? ⟨w.heap.size, 1, none⟩ = some (.slice (some ⟨b9, o9, none⟩) ns.length c) ∧ w'.cell? ⟨b9, o9 + k * 3, none⟩ = some (.int .i64 xi) ∧ w'.cell? ⟨b9, o9 + k * 3 + 1, none⟩ = some (.slice B1 xl.length d1) ∧ w'.cell? ⟨b9, o9 + k * 3 + 2, none⟩ = some (.int .i64 xj) ∧ w'.cell? ⟨b9, o9 + k1 * 3, none⟩ = some (.int .i64 yi) ∧ w'.cell? ⟨b9, o9 + k1 * 3 + 1, none⟩ = some (.slice B2 yl.length d2) ∧ w'.cell? ⟨b9, o9 + k1 * 3 + 2, none⟩ = some (.int .i64 yj)) w1 := ⟨hq1 w1 hF, ext_cell hF c0, hq2 w1 hF, ext_cell hF c2, ext_cell hF e0, hq3 w1 hF, ext_cell hF e2⟩
  replace hB1 := hide (hB1.out.ext hF)
  replace hB2 := hide (hB2.out.ext hF)
  have hs1 : w.heap.size + 2 ≤ w1.heap.size := by have := hF.size; rw [hW] at this; exact this
  have hbs : b9 < w1.heap.size := Nat.lt_of_lt_of_le (by simpa using hbl) hF.size
  clear hF hq0 hq1 hq2 hq3 hcl c0 c1 c2 e0 e1 e2 r b h hW hbl hbl2
  try clear b1_0 b1_1 b1_lt
  obtain ⟨b1_0, b1_1, b1_lt⟩ := b1.out.at2
  try clear r1_0 r1_1 r1_lt r1_f0 r1_f1
  obtain ⟨r1_0, r1_1, r1_lt, r1_f0, r1_f1⟩ := r1.out.at2f
  go_wp2_with fail
  refine (copyChain_any c v hN1.out hb).mono ?_
  intro e w2 hG
  obtain ⟨A2, c2, rfl, -, -, hP, hF⟩ := hG.use
  obtain ⟨gA, rfl, hgl, hgh, hgs⟩ := hP.out.addr (by omega)
  clear hG
  have hSe : ∀ (wa wb : World), (fun w' : World => w'.cell? ⟨w.heap.size, 1, none⟩ = some (.slice (some ⟨b9, o9, none⟩) ns.length c) ∧ w'.cell? ⟨b9, o9 + k * 3, none⟩ = some (.int .i64 xi) ∧ w'.cell? ⟨b9, o9 + k * 3 + 1, none⟩ = some (.slice B1 xl.length d1) ∧ w'.cell? ⟨b9, o9 + k * 3 + 2, none⟩ = some (.int .i64 xj) ∧ w'.cell? ⟨b9, o9 + k1 * 3, none⟩ = some (.int .i64 yi) ∧ w'.cell? ⟨b9, o9 + k1 * 3 + 1, none⟩ = some (.slice B2 yl.length d2) ∧ w'.cell? ⟨b9, o9 + k1 * 3 + 2, none⟩ = some (.int .i64 yj)) wa → Ext wa wb → wa.heap.size ≥ w1.heap.size → (fun w' : World => w'.cell? ⟨w.heap.size, 1, none⟩ = some (.slice (some ⟨b9, o9, none⟩) ns.length c) ∧ w'.cell? ⟨b9, o9 + k * 3, none⟩ = some (.int .i64 xi) ∧ w'.cell? ⟨b9, o9 + k * 3 + 1, none⟩ = some (.slice B1 xl.length d1) ∧ w'.cell? ⟨b9, o9 + k * 3 + 2, none⟩ = some (.int .i64 xj) ∧ w'.cell? ⟨b9, o9 + k1 * 3, none⟩ = some (.int .i64 yi) ∧ w'.cell? ⟨b9, o9 + k1 * 3 + 1, none⟩ = some (.slice B2 yl.length d2) ∧ w'.cell? ⟨b9, o9 + k1 * 3 + 2, none⟩ = some (.int .i64 yj)) wb := fun wa wb hs hx hge => by
    obtain ⟨s1, s2, s3, s4, s5, s6, s7⟩ := hs
    exact ⟨ext_cell hx s1, ext_cell hx s2, ext_cell hx s3, ext_cell hx s4, ext_cell hx s5, ext_cell hx s6, ext_cell hx s7⟩
  have hSf : ∀ (wa : World) (j : Nat) (u : Value), (fun w' : World => w'.cell? ⟨w.heap.size, 1, none⟩ = some (.slice (some ⟨b9, o9, none⟩) ns.length c) ∧ w'.cell? ⟨b9, o9 + k * 3, none⟩ = some (.int .i64 xi) ∧ w'.cell? ⟨b9, o9 + k * 3 + 1, none⟩ = some (.slice B1 xl.length d1) ∧ w'.cell? ⟨b9, o9 + k * 3 + 2, none⟩ = some (.int .i64 xj) ∧ w'.cell? ⟨b9, o9 + k1 * 3, none⟩ = some (.int .i64 yi) ∧ w'.cell? ⟨b9, o9 + k1 * 3 + 1, none⟩ = some (.slice B2 yl.length d2) ∧ w'.cell? ⟨b9, o9 + k1 * 3 + 2, none⟩ = some (.int .i64 yj)) wa → (fun w' : World => w'.cell? ⟨w.heap.size, 1, none⟩ = some (.slice (some ⟨b9, o9, none⟩) ns.length c) ∧ w'.cell? ⟨b9, o9 + k * 3, none⟩ = some (.int .i64 xi) ∧ w'.cell? ⟨b9, o9 + k * 3 + 1, none⟩ = some (.slice B1 xl.length d1) ∧ w'.cell? ⟨b9, o9 + k * 3 + 2, none⟩ = some (.int .i64 xj) ∧ w'.cell? ⟨b9, o9 + k1 * 3, none⟩ = some (.int .i64 yi) ∧ w'.cell? ⟨b9, o9 + k1 * 3 + 1, none⟩ = some (.slice B2 yl.length d2) ∧ w'.cell? ⟨b9, o9 + k1 * 3 + 2, none⟩ = some (.int .i64 yj)) (wa.setCell ⟨gA, j, none⟩ u) := fun wa j u hs => by
    obtain ⟨s1, s2, s3, s4, s5, s6, s7⟩ := hs
    have ne1 : w.heap.size ≠ gA := by omega
    have ne2 : b9 ≠ gA := by omega
    have cs : ∀ (p : Addr) (x : Value), p.block ≠ gA → wa.cell? p = some x → (wa.setCell ⟨gA, j, none⟩ u).cell? p = some x := fun p x hne hc => by
      rw [World.cell?_setCell_other (h := fun e => hne (congrArg Addr.block e).symm)]
      exact hc
    exact ⟨cs _ _ ne1 s1, cs _ _ ne2 s2, cs _ _ ne2 s3, cs _ _ ne2 s4, cs _ _ ne2 s5, cs _ _ ne2 s6, cs _ _ ne2 s7⟩
  replace hS1 := hSe _ _ hS1 hF (Nat.le_refl _)
  replace hB1 := hide (hB1.out.ext hF)
  replace hB2 := hide (hB2.out.ext hF)
  have hs2 := hF.size
  replace hN1 := hide (hN1.out.ext hF)
  replace b1 := hide (b1.out.ext hF)
  replace r1 := hide (r1.out.ext hF)
  try clear b1_0 b1_1 b1_lt
  obtain ⟨b1_0, b1_1, b1_lt⟩ := b1.out.at2
  try clear r1_0 r1_1 r1_lt r1_f0 r1_f1
  obtain ⟨r1_0, r1_1, r1_lt, r1_f0, r1_f1⟩ := r1.out.at2f
  replace hE := hide (ext_trans hE.out hF)
  clear hF
  have Q := hide (Blk.newAt (w2) 25 #[.int .i64 v, .slice (some ⟨gA, 0, none⟩) ns.length c2] (g := (w2).heap.size) (by simp))
  replace hP := hide (hP.out.ext (ext_alloc (ext_refl (w2)) (.cells #[.int .i64 v, .slice (some ⟨gA, 0, none⟩) ns.length c2] 25)))
  replace r1 := hide (r1.out.ext (ext_alloc (ext_refl (w2)) (.cells #[.int .i64 v, .slice (some ⟨gA, 0, none⟩) ns.length c2] 25)))
  replace b1 := hide (b1.out.ext (ext_alloc (ext_refl (w2)) (.cells #[.int .i64 v, .slice (some ⟨gA, 0, none⟩) ns.length c2] 25)))
  replace hB1 := hide (hB1.out.ext (ext_alloc (ext_refl (w2)) (.cells #[.int .i64 v, .slice (some ⟨gA, 0, none⟩) ns.length c2] 25)))
  replace hB2 := hide (hB2.out.ext (ext_alloc (ext_refl (w2)) (.cells #[.int .i64 v, .slice (some ⟨gA, 0, none⟩) ns.length c2] 25)))
  replace hE := hide (ext_alloc hE.out (.cells #[.int .i64 v, .slice (some ⟨gA, 0, none⟩) ns.length c2] 25))
  replace hS1 := hSe _ _ hS1 (ext_alloc (ext_refl w2) (.cells #[.int .i64 v, .slice (some ⟨gA, 0, none⟩) ns.length c2] 25)) hs2
  have hs3 : w2.heap.size < (w2.alloc (.cells #[.int .i64 v, .slice (some ⟨gA, 0, none⟩) ns.length c2] 25)).heap.size := by simp
  try clear b1_0 b1_1 b1_lt
  obtain ⟨b1_0, b1_1, b1_lt⟩ := b1.out.at2
  try clear r1_0 r1_1 r1_lt r1_f0 r1_f1
  obtain ⟨r1_0, r1_1, r1_lt, r1_f0, r1_f1⟩ := r1.out.at2f
  try clear Q_0 Q_1 Q_lt Q_f0 Q_f1
  obtain ⟨Q_0, Q_1, Q_lt, Q_f0, Q_f1⟩ := Q.out.at2f
  go_upto_region 5 with fail
  clear b1_0 b1_1 b1_lt r1_0 r1_1 r1_lt r1_f0 r1_f1 Q_0 Q_1 Q_lt Q_f0 Q_f1
  generalize w2.alloc (.cells #[.int .i64 v, .slice (some ⟨gA, 0, none⟩) ns.length c2] 25) = w3 at hP r1 b1 Q hS1 hE hs3 hB1 hB2 ⊢
  have hEd := ext_drew (ext_refl w3)
  have hSd := hSe _ _ hS1 hEd (by omega)
  have hBx := LogR.ext hB1.out hEd
  have hBy := LogR.ext hB2.out hEd
  replace hEd := hide hEd
  have hz3 : w3.drew.heap.size = w3.heap.size := rfl
  go_region_held3 (fun w' : World => w'.cell? ⟨w.heap.size, 1, none⟩ = some (.slice (some ⟨b9, o9, none⟩) ns.length c) ∧ w'.cell? ⟨b9, o9 + k * 3, none⟩ = some (.int .i64 xi) ∧ w'.cell? ⟨b9, o9 + k * 3 + 1, none⟩ = some (.slice B1 xl.length d1) ∧ w'.cell? ⟨b9, o9 + k * 3 + 2, none⟩ = some (.int .i64 xj) ∧ w'.cell? ⟨b9, o9 + k1 * 3, none⟩ = some (.int .i64 yi) ∧ w'.cell? ⟨b9, o9 + k1 * 3 + 1, none⟩ = some (.slice B2 yl.length d2) ∧ w'.cell? ⟨b9, o9 + k1 * 3 + 2, none⟩ = some (.int .i64 yj)) (first | with_reducible exact hSd | with_reducible exact hSx | with_reducible exact hSf _ _ _ hSx | fail)
    ((go_at_call 37; refine (altPass_any d1 d2 xi xj yi yj hBx hBy hm1 hu.out).mono ?_; rintro e w4 ⟨A', c', rfl, hz4, hO, hF1⟩; have hEw := hide (ext_trans hEd.out hF1); have hSx := hSe _ _ hSd hF1 (by omega); obtain ⟨⟨u5, hu5⟩, hf5⟩ := (hP.out.ext hEw.out).cellsAt (j := k1 * 3 + 1) (by omega)))
  have hz4' : w3.heap.size < w4.heap.size := hz4
  have hP4 := hP.out.ext hEw.out
  have hln : (yl ++ [(ux, uy)]).length = yl.length + 1 := by simp
  have hL9 : LogIn w4 (w3.drew.heap.size + 4) w4.heap.size A' c' (yl ++ [(ux, uy)]) := RowIn.of hO
  have hP5 := NodesOwn.putLog (lo2 := w.heap.size) (hi2 := w4.heap.size) hP4 hy.out hL9 (.inr (by omega)) (by omega) (by omega) (by omega) (Nat.le_refl _)
  rw [hln] at hP5
  have hq9 : w2.heap.size ≠ gA := by omega
  have hr9 : w.heap.size + 1 ≠ gA := by omega
  have Q5 := hide ((Q.out.ext hEw.out).far (p := ⟨gA, k1 * 3 + 1, none⟩) hq9 (.slice A' (yl.length + 1) c'))
  have r5 := hide ((r1.out.ext hEw.out).far (p := ⟨gA, k1 * 3 + 1, none⟩) hr9 (.slice A' (yl.length + 1) c'))
  have hE5 := hide ((ext_trans hE.out hEw.out).setCell (p := ⟨gA, k1 * 3 + 1, none⟩) (show w.heap.size ≤ gA by omega) (.slice A' (yl.length + 1) c'))
  have g5 : (w4.setCell ⟨gA, k1 * 3 + 1, none⟩ (.slice A' (yl.length + 1) c')).cell? ⟨gA, k1 * 3 + 1, none⟩ = some (.slice A' (yl.length + 1) c') := by simp [go_sem, hu5, hf5]
  have hz5 : (w4.setCell ⟨gA, k1 * 3 + 1, none⟩ (.slice A' (yl.length + 1) c')).heap.size = w4.heap.size := by simp
  clear hSe hSf hS1 hSd hSx hBx hBy hB1 hB2 hN1 hP hO hF1 hP4 hL9 Q r1 b1 hE hu5 hf5 hEw hEd
  generalize w4.setCell ⟨gA, k1 * 3 + 1, none⟩ (.slice A' (yl.length + 1) c') = w5 at hP5 Q5 r5 hE5 g5 hz5 ⊢
  replace hP5 := hide hP5
  obtain ⟨z1, hz1⟩ : ∃ z1, IntKind.i64.wrap ((ns.length : Int) - 1) = z1 := ⟨_, rfl⟩
  have hz1' : z1 = (ns.length : Int) - 1 := by rw [← hz1]; exact IntWalk.i64_in _ (by omega)
  try clear Q5_0 Q5_1 Q5_lt Q5_f0 Q5_f1
  obtain ⟨Q5_0, Q5_1, Q5_lt, Q5_f0, Q5_f1⟩ := Q5.out.at2f
  try clear r5_0 r5_1 r5_lt r5_f0 r5_f1
  obtain ⟨r5_0, r5_1, r5_lt, r5_f0, r5_f1⟩ := r5.out.at2f
  by_cases hlast : k1 + 1 = ns.length
  · have hc1 : ((k1 : Int) == z1) = true := by simp; omega
    have hpd : passed ns k ⟨yi, yl, yj⟩ (ux, uy) = ⟨yi, yl ++ [(ux, uy)], (yl.length : Int) + 1⟩ := by
      have := hk1.out
      unfold passed
      simp only
      rw [if_pos (by omega)]
      congr 1
    have hset : ns.set (k + 1) (passed ns k ⟨yi, yl, yj⟩ (ux, uy)) = (ns.set k1 ⟨yi, yl ++ [(ux, uy)], yj⟩).set k1 ⟨yi, yl ++ [(ux, uy)], (yl.length : Int) + 1⟩ := by
      rw [hpd, List.set_set, hk1.out]
    have hnn : (ns.set k1 ⟨yi, yl ++ [(ux, uy)], yj⟩)[k1]? = some ⟨yi, yl ++ [(ux, uy)], yj⟩ := set_at hy.out
    obtain ⟨⟨u6, hu6⟩, hf6⟩ := hP5.out.cellsAt (j := k1 * 3 + 2) (by rw [List.length_set]; omega)
    have hP6 := hide (hP5.out.setDone (y := (yl.length : Int) + 1) hnn)
    have Q6 := hide (Q5.out.far (p := ⟨gA, k1 * 3 + 2, none⟩) hq9 (.int .i64 ((yl.length : Int) + 1)))
    have r6 := hide (r5.out.far (p := ⟨gA, k1 * 3 + 2, none⟩) hr9 (.int .i64 ((yl.length : Int) + 1)))
    have hE6 := hide (hE5.out.setCell (p := ⟨gA, k1 * 3 + 2, none⟩) (show w.heap.size ≤ gA by omega) (.int .i64 ((yl.length : Int) + 1)))
    replace hnn := hide hnn
    replace hpd := hide hpd
    replace hset := hide hset
    replace hln := hide hln
    replace hlast := hide hlast
    replace hz1' := hide hz1'
    try clear Q6_0 Q6_1 Q6_lt Q6_f0 Q6_f1
    obtain ⟨Q6_0, Q6_1, Q6_lt, Q6_f0, Q6_f1⟩ := Q6.out.at2f
    try clear r6_0 r6_1 r6_lt r6_f0 r6_f1
    obtain ⟨r6_0, r6_1, r6_lt, r6_f0, r6_f1⟩ := r6.out.at2f
    go_wp2_with fail
    refine bodyPost_ret (v := .tuple #[.agg #[.int .i64 v, .slice (some ⟨gA, 0, none⟩) ns.length c2], .bool true]) (by simp [results, Try.results13, go_sem, r6_0, r6_1]) rfl ?_
    exact gotChB_of rfl hset.out rfl (by simp) ((hP6.out.handed r6.out _ _).wide (Nat.le_refl _) (by simp; omega)) ((hE6.out.setCell (Nat.le_succ _) _).setCell (Nat.le_succ _) _)
  · have hc1 : ((k1 : Int) == z1) = false := by simp; omega
    have hpd : passed ns k ⟨yi, yl, yj⟩ (ux, uy) = ⟨yi, yl ++ [(ux, uy)], yj⟩ := by
      have := hk1.out
      unfold passed
      simp only
      rw [if_neg (by omega)]
    have hset : ns.set (k + 1) (passed ns k ⟨yi, yl, yj⟩ (ux, uy)) = ns.set k1 ⟨yi, yl ++ [(ux, uy)], yj⟩ := by
      rw [hpd, hk1.out]
    replace hpd := hide hpd
    replace hset := hide hset
    replace hln := hide hln
    replace hlast := hide hlast
    replace hz1' := hide hz1'
    go_wp2_with fail
    refine bodyPost_ret (v := .tuple #[.agg #[.int .i64 v, .slice (some ⟨gA, 0, none⟩) ns.length c2], .bool true]) (by simp [results, Try.results13, go_sem, r5_0, r5_1]) rfl ?_
    exact gotChB_of rfl hset.out rfl (by simp) ((hP5.out.handed r5.out _ _).wide (Nat.le_refl _) (by simp; omega)) ((hE5.out.setCell (Nat.le_succ _) _).setCell (Nat.le_succ _) _)
theorem implChainPass_any {A : Option Addr} {ns : List Nd} {rv : Int} {rl : List Nd} {rb : Bool} (c : Nat) (v at_ : Int) {w : World} (h : NodesR w A ns) (hb : bulk ns ≤ 1048576) (hs : PassRes v ns at_ rv rl rb) :
    Calls Alt.prog 13 #[.agg #[.int .i64 v, .slice A ns.length c], .int .i64 at_] w (GotChB w rv rl rb) := by
  rcases hs with ⟨k, x, y, u, hp, hu, rfl, rfl, rfl⟩ | ⟨hno, rfl, rfl, rfl⟩
  · exact implChainPass_yes c rv at_ h hb hp hu
  · exact implChainPass_no c v at_ h hb hno
end Go.Proofs.YtciekjplhbimdaaZ
