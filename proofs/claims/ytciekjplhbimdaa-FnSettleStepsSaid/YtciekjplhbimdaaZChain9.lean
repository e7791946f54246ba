/-
  Contracts: telling, both.
-/
import Derived.Test.YtciekjplhbimdaaZChain8
import Derived.Test.YtciekjplhbimdaaZBChain
import Derived.Test.YtciekjplhbimdaaZBPure
import Derived.Test.YtciekjplhbimdaaZQE
set_option linter.all false
set_option maxRecDepth 100000
namespace Go.Proofs.YtciekjplhbimdaaZ
open Go.RowKit
attribute [local go_sem ↓] Go.wp_at_zero Go.wp_at_succ

/-- A link: the node at place k has one behind it. -/
def LinkOk (v : Int) (ns : List Nd) (at_ : Int) : Prop := ChOk v ns ∧ 0 ≤ at_ ∧ at_ + 1 < ns.length
theorem linkAt_yes {A : Option Addr} {ns : List Nd} (c : Nat) (v at_ : Int) {w : World} (h : NodesR w A ns) (hb : bulk ns ≤ 1048576) (hk : LinkOk v ns at_) :
    Calls Alt.prog 35 #[.agg #[.int .i64 v, .slice A ns.length c], .int .i64 at_] w fun e w' => e = .returned (.bool true) ∧ Ext w w' := by
  obtain ⟨hok, h0, h1⟩ := hk
  have h5 := hok.2.1
  have hE := hide (ext_refl w)
  replace h := hide h
  have b := hide (Blk.newAt (w) 25 #[.int .i64 v, .slice A ns.length c] (g := w.heap.size) (by simp))
  replace h := hide (h.out.ext (ext_alloc (ext_refl (w)) (.cells #[.int .i64 v, .slice A ns.length c] 25)))
  replace hE := hide (ext_alloc hE.out (.cells #[.int .i64 v, .slice A ns.length c] 25))
  have hw1 : IntKind.i64.wrap ((ns.length : Int) - 1) = (ns.length : Int) - 1 := IntWalk.i64_in _ (by omega)
  have hd1 : decide (at_ ≥ 0) = true := by simp; omega
  have hd2 : decide (at_ < (ns.length : Int) - 1) = true := by simp; omega
  replace hok := hide hok
  go_enter Alt.func35, Try.ntmps35
  go_wp2_with fail
  refine (implChainValid_yes c v h.out hb hok.out).mono ?_
  rintro e w1 ⟨rfl, hF⟩
  replace b := hide (b.out.ext hF)
  try clear b_0 b_1 b_lt
  obtain ⟨b_0, b_1, b_lt⟩ := b.out.at2
  replace hE := hide (ext_trans hE.out hF)
  clear hF
  go_wp2_with fail
  go_ret
  exact ⟨rfl, hE.out⟩
theorem linkAt_no {A : Option Addr} {ns : List Nd} (c : Nat) (v at_ : Int) {w : World} (h : NodesR w A ns) (hb : bulk ns ≤ 1048576) (hat : (Lit.int .i64 at_).wf = true ∨ True) (hk : ¬ LinkOk v ns at_) :
    Calls Alt.prog 35 #[.agg #[.int .i64 v, .slice A ns.length c], .int .i64 at_] w fun e w' => e = .returned (.bool false) ∧ Ext w w' := by
  clear hat
  have hE := hide (ext_refl w)
  replace h := hide h
  have b := hide (Blk.newAt (w) 25 #[.int .i64 v, .slice A ns.length c] (g := w.heap.size) (by simp))
  replace h := hide (h.out.ext (ext_alloc (ext_refl (w)) (.cells #[.int .i64 v, .slice A ns.length c] 25)))
  replace hE := hide (ext_alloc hE.out (.cells #[.int .i64 v, .slice A ns.length c] 25))
  by_cases hok : ChOk v ns
  · have h5 := hok.2.1
    have hw1 : IntKind.i64.wrap ((ns.length : Int) - 1) = (ns.length : Int) - 1 := IntWalk.i64_in _ (by omega)
    by_cases h0 : 0 ≤ at_
    · have hd1 : decide (at_ ≥ 0) = true := by simp; omega
      have hd2 : decide (at_ < (ns.length : Int) - 1) = false := by
        have : ¬ at_ + 1 < ns.length := fun h => hk ⟨hok, h0, h⟩
        simp; omega
      replace hok := hide hok
      replace hk := hide hk
      go_enter Alt.func35, Try.ntmps35
      go_wp2_with fail
      refine (implChainValid_yes c v h.out hb hok.out).mono ?_
      rintro e w1 ⟨rfl, hF⟩
      replace b := hide (b.out.ext hF)
      try clear b_0 b_1 b_lt
      obtain ⟨b_0, b_1, b_lt⟩ := b.out.at2
      replace hE := hide (ext_trans hE.out hF)
      clear hF
      go_wp2_with fail
      go_ret
      exact ⟨rfl, hE.out⟩
    · have hd1 : decide (at_ ≥ 0) = false := by simp; omega
      replace hok := hide hok
      replace hk := hide hk
      go_enter Alt.func35, Try.ntmps35
      go_wp2_with fail
      refine (implChainValid_yes c v h.out hb hok.out).mono ?_
      rintro e w1 ⟨rfl, hF⟩
      replace b := hide (b.out.ext hF)
      try clear b_0 b_1 b_lt
      obtain ⟨b_0, b_1, b_lt⟩ := b.out.at2
      replace hE := hide (ext_trans hE.out hF)
      clear hF
      go_wp2_with fail
      go_ret
      exact ⟨rfl, hE.out⟩
  · replace hok := hide hok
    replace hk := hide hk
    go_enter Alt.func35, Try.ntmps35
    go_wp2_with fail
    refine (implChainValid_no c v h.out hb hok.out).mono ?_
    rintro e w1 ⟨rfl, hF⟩
    replace b := hide (b.out.ext hF)
    try clear b_0 b_1 b_lt
    obtain ⟨b_0, b_1, b_lt⟩ := b.out.at2
    replace hE := hide (ext_trans hE.out hF)
    clear hF
    go_wp2_with fail
    go_ret
    exact ⟨rfl, hE.out⟩

theorem tell_not {v at_ : Int} {ns : List Nd} (h : ¬ ∃ k x y, TellAt v ns at_ k x y) (hl : LinkOk v ns at_) : ∃ (k : Nat) (x y : Nd), at_ = k ∧ ns[k]? = some x ∧ ns[k + 1]? = some y ∧ x.done = y.done := by
  obtain ⟨h1, h2, h3⟩ := hl
  have e1 : ns[at_.toNat]? = some (ns[at_.toNat]'(by omega)) := List.getElem?_eq_getElem _
  have e2 : ns[at_.toNat + 1]? = some (ns[at_.toNat + 1]'(by omega)) := List.getElem?_eq_getElem _
  refine ⟨at_.toNat, _, _, by omega, e1, e2, ?_⟩
  refine Classical.byContradiction fun hne => h ⟨at_.toNat, _, _, h1, by omega, e1, e2, hne⟩
theorem tellAt_link {v at_ : Int} {ns : List Nd} {k : Nat} {x y : Nd} (h : TellAt v ns at_ k x y) : LinkOk v ns at_ := by
  obtain ⟨h1, h2, h3, h4, -⟩ := h
  have := getElem_some h4
  exact ⟨h1, by omega, by omega⟩
set_option maxHeartbeats 6400000 in
theorem implChainTell_any {A : Option Addr} {ns : List Nd} {rv : Int} {rl : List Nd} {rb : Bool} (c : Nat) (v at_ : Int) {w : World} (h : NodesR w A ns) (hb : bulk ns ≤ 1048576) (hs : TellRes v ns at_ rv rl rb) :
    Calls Alt.prog 14 #[.agg #[.int .i64 v, .slice A ns.length c], .int .i64 at_] w (GotChB w rv rl rb) := by
  have hl := bulk_len ns
  have hE := hide (ext_refl w)
  replace h := hide h
  have b := hide (Blk.newAt (w) 25 #[.int .i64 v, .slice A ns.length c] (g := w.heap.size) (by simp))
  replace h := hide (h.out.ext (ext_alloc (ext_refl (w)) (.cells #[.int .i64 v, .slice A ns.length c] 25)))
  replace hE := hide (ext_alloc hE.out (.cells #[.int .i64 v, .slice A ns.length c] 25))
  have r := hide (Blk.newAt (w.alloc (.cells #[.int .i64 v, .slice A ns.length c] 25)) 25 #[.int .i64 0, .slice none 0 0] (g := w.heap.size + 1) (by simp))
  replace h := hide (h.out.ext (ext_alloc (ext_refl (w.alloc (.cells #[.int .i64 v, .slice A ns.length c] 25))) (.cells #[.int .i64 0, .slice none 0 0] 25)))
  replace b := hide (b.out.ext (ext_alloc (ext_refl (w.alloc (.cells #[.int .i64 v, .slice A ns.length c] 25))) (.cells #[.int .i64 0, .slice none 0 0] 25)))
  replace hE := hide (ext_alloc hE.out (.cells #[.int .i64 0, .slice none 0 0] 25))
  have hW : ((w.alloc (.cells #[.int .i64 v, .slice A ns.length c] 25)).alloc (.cells #[.int .i64 0, .slice none 0 0] 25)).heap.size = w.heap.size + 2 := by simp
  rcases hs with ⟨k, x, y, hT, e1, e2, e3⟩ | ⟨hno, e1, e2, e3⟩
  · have hlk := hide (tellAt_link hT)
    obtain ⟨hok, rfl, hx, hy, hne⟩ := hT
    replace e1 := hide e1
    replace e2 := hide e2
    replace e3 := hide e3
    obtain ⟨k1, hk1⟩ : ∃ k1, k1 = k + 1 := ⟨_, rfl⟩
    rw [← hk1] at hy
    obtain ⟨xi, xl, xj, ex⟩ := nd_cases x
    obtain ⟨yi, yl, yj, ey⟩ := nd_cases y
    subst ex ey
    have hkl := getElem_some hx
    have hkl1 := getElem_some hy
    obtain ⟨b9, o9, _, _, _, B1, d1, hA, hbl, hx', hld1, hdm1, hB1, c0, c1, c2, c1', c2'⟩ := node_at h.out hkl
    cases hA
    rw [hx] at hx'
    cases hx'
    obtain ⟨b8, o8, _, _, _, B2, d2, hA, hbl2, hy', hld2, hdm2, hB2, e0, e1, e2, e1', e2'⟩ := node_at h.out hkl1
    cases hA
    rw [hy] at hy'
    cases hy'
    have hw1 : IntKind.i64.wrap ((k : Int) + 1) = (k1 : Int) := by rw [show ((k : Int) + 1) = (k1 : Int) by omega]; exact IntWalk.i64_in _ (by omega)
    have hi0 : (0 : Int) ≤ (k : Int) := by omega
    have hi1 : (k : Int) < (ns.length : Int) := by omega
    have hi2 : (0 : Int) ≤ (k1 : Int) := by omega
    have hi3 : (k1 : Int) < (ns.length : Int) := by omega
    have hkk : k ≠ k1 := by omega
    replace hx := hide hx
    replace hy := hide hy
    replace hk1 := hide hk1
    clear hB1 hB2 c0 c1 c2 c1' e0 e1 e2 e1'
    have hq0 : ∀ w', Ext ((w.alloc (.cells #[.int .i64 v, .slice (some ⟨b9, o9, none⟩) ns.length c] 25)).alloc (.cells #[.int .i64 0, .slice none 0 0] 25)) w' → w'.cell? ⟨w.heap.size, 0, none⟩ = some (.int .i64 v) := fun w' hC => (b.out.ext hC).at2.1
    have hq1 : ∀ w', Ext ((w.alloc (.cells #[.int .i64 v, .slice (some ⟨b9, o9, none⟩) ns.length c] 25)).alloc (.cells #[.int .i64 0, .slice none 0 0] 25)) w' → w'.cell? ⟨w.heap.size, 1, none⟩ = some (.slice (some ⟨b9, o9, none⟩) ns.length c) := fun w' hC => (b.out.ext hC).at2.2.1
    have hq2 : ∀ w', Ext ((w.alloc (.cells #[.int .i64 v, .slice (some ⟨b9, o9, none⟩) ns.length c] 25)).alloc (.cells #[.int .i64 0, .slice none 0 0] 25)) w' → w'.cell? ⟨b9, o9 + k * 3 + 2, none⟩ = some (.int .i64 xj) := fun w' hC => ext_cell hC c2'
    have hq3 : ∀ w', Ext ((w.alloc (.cells #[.int .i64 v, .slice (some ⟨b9, o9, none⟩) ns.length c] 25)).alloc (.cells #[.int .i64 0, .slice none 0 0] 25)) w' → w'.cell? ⟨b9, o9 + k1 * 3 + 2, none⟩ = some (.int .i64 yj) := fun w' hC => ext_cell hC e2'
    have hd : (xj == yj) = false := by simpa using hne
    replace hok := hide hok
    clear hne
    have hcl : ∀ w', Ext ((w.alloc (.cells #[.int .i64 v, .slice (some ⟨b9, o9, none⟩) ns.length c] 25)).alloc (.cells #[.int .i64 0, .slice none 0 0] 25)) w' → Calls Alt.prog 35 #[.agg #[.int .i64 v, .slice (some ⟨b9, o9, none⟩) ns.length c], .int .i64 (k : Int)] w' (fun e w'' => e = .returned (.bool true) ∧ Ext ((w.alloc (.cells #[.int .i64 v, .slice (some ⟨b9, o9, none⟩) ns.length c] 25)).alloc (.cells #[.int .i64 0, .slice none 0 0] 25)) w'') := fun w' hC =>
      (linkAt_yes c v k (h.out.ext hC) hb hlk.out).mono fun e w'' ⟨f1, f2⟩ => ⟨f1, ext_trans hC f2⟩
    go_enter Alt.func14, Try.ntmps14
    go_wp2_with fail
    refine wp_region_quietE (by kernel_rfl) (by kernel_rfl) ?_
    repeat (
      refine QW.step (fun K hK => ?_)
      go_simp
      first
      | (refine hK _ ?_; clear hK K)
      | (apply Exists.intro
         refine ⟨fun w5 hC => ?_, hK _ ?_⟩
         · first
           | rfl
           | exact hcl w5 hC
           | (simp only [hq0 w5 hC, hq1 w5 hC, hq2 w5 hC, hq3 w5 hC, Result.andThen_ok, true_and]; rfl)
         clear hK K))
    refine QW.nil ?_
    intro w1 hF
    replace hE := hide (ext_trans hE.out hF)
    have hN1 := hide (h.out.ext hF)
    have r1 := hide (r.out.ext hF)
    have b1 := hide (b.out.ext hF)
    have c21 := ext_cell hF c2'
    have e21 := ext_cell hF e2'
    have hs1 : w.heap.size + 2 ≤ w1.heap.size := by have := hF.size; rw [hW] at this; exact this
    clear hF hq0 hq1 hq2 hq3 hcl c2' e2' r b h hW
    try clear b1_0 b1_1 b1_lt
    obtain ⟨b1_0, b1_1, b1_lt⟩ := b1.out.at2
    try clear r1_0 r1_1 r1_lt r1_f0 r1_f1
    obtain ⟨r1_0, r1_1, r1_lt, r1_f0, r1_f1⟩ := r1.out.at2f
    go_wp2_with fail
    refine (copyChain_any c v hN1.out hb).mono ?_
    intro e w2 hG
    obtain ⟨A2, c2, rfl, -, -, hP, hF⟩ := hG.use
    obtain ⟨gA, rfl, hgl, hgh, hgs⟩ := hP.out.addr (by omega)
    clear hG
    replace c21 := ext_cell hF c21
    replace e21 := ext_cell hF e21
    replace hN1 := hide (hN1.out.ext hF)
    replace b1 := hide (b1.out.ext hF)
    replace r1 := hide (r1.out.ext hF)
    try clear b1_0 b1_1 b1_lt
    obtain ⟨b1_0, b1_1, b1_lt⟩ := b1.out.at2
    try clear r1_0 r1_1 r1_lt r1_f0 r1_f1
    obtain ⟨r1_0, r1_1, r1_lt, r1_f0, r1_f1⟩ := r1.out.at2f
    replace hE := hide (ext_trans hE.out hF)
    clear hF
    have Q := hide (Blk.newAt (w2) 25 #[.int .i64 v, .slice (some ⟨gA, 0, none⟩) ns.length c2] (g := (w2).heap.size) (by simp))
    replace hP := hide (hP.out.ext (ext_alloc (ext_refl (w2)) (.cells #[.int .i64 v, .slice (some ⟨gA, 0, none⟩) ns.length c2] 25)))
    replace r1 := hide (r1.out.ext (ext_alloc (ext_refl (w2)) (.cells #[.int .i64 v, .slice (some ⟨gA, 0, none⟩) ns.length c2] 25)))
    replace b1 := hide (b1.out.ext (ext_alloc (ext_refl (w2)) (.cells #[.int .i64 v, .slice (some ⟨gA, 0, none⟩) ns.length c2] 25)))
    replace hE := hide (ext_alloc hE.out (.cells #[.int .i64 v, .slice (some ⟨gA, 0, none⟩) ns.length c2] 25))
    replace c21 := ext_cell (ext_alloc (ext_refl w2) (.cells #[.int .i64 v, .slice (some ⟨gA, 0, none⟩) ns.length c2] 25)) c21
    replace e21 := ext_cell (ext_alloc (ext_refl w2) (.cells #[.int .i64 v, .slice (some ⟨gA, 0, none⟩) ns.length c2] 25)) e21
    have hs3 : w2.heap.size ≤ (w2.alloc (.cells #[.int .i64 v, .slice (some ⟨gA, 0, none⟩) ns.length c2] 25)).heap.size := by simp
    try clear b1_0 b1_1 b1_lt
    obtain ⟨b1_0, b1_1, b1_lt⟩ := b1.out.at2
    try clear r1_0 r1_1 r1_lt r1_f0 r1_f1
    obtain ⟨r1_0, r1_1, r1_lt, r1_f0, r1_f1⟩ := r1.out.at2f
    go_wp2_with fail
    clear b1_0 b1_1 b1_lt r1_0 r1_1 r1_lt r1_f0 r1_f1
    generalize w2.alloc (.cells #[.int .i64 v, .slice (some ⟨gA, 0, none⟩) ns.length c2] 25) = w3 at hP r1 b1 Q c21 e21 hE hs3 ⊢

    obtain ⟨_, _, _, _, _, B3, d3, hA, hbl3, hy3, hld3, hdm3, hB3, g0, g1, g2, g1', g2'⟩ := node_at hP.out.read hkl1
    cases hA
    rw [hy.out] at hy3
    cases hy3
    simp only [Nat.zero_add] at g2'
    clear hB3 g0 g1 g2 g1'

    obtain ⟨⟨u5, hu5⟩, hf5⟩ := hP.out.cellsAt (j := k * 3 + 2) (by omega)
    have hq9 : w2.heap.size ≠ gA := by omega
    have hr9 : w.heap.size + 1 ≠ gA := by omega
    have hb9 : w.heap.size ≠ gA := by omega
    have hP3 := hide (((hP.out.ext (ext_drew (ext_refl w3))).setDone (y := yj) hx.out).wide (show w.heap.size ≤ w1.heap.size by omega) (Nat.le_refl _))
    have Q3 := hide ((Q.out.ext (ext_drew (ext_refl w3))).far (p := ⟨gA, k * 3 + 2, none⟩) hq9 (.int .i64 yj))
    have r3 := hide ((r1.out.ext (ext_drew (ext_refl w3))).far (p := ⟨gA, k * 3 + 2, none⟩) hr9 (.int .i64 yj))
    have Q4 := hide (Q.out.far (p := ⟨gA, k * 3 + 2, none⟩) hq9 (.int .i64 yj))
    have r4 := hide (r1.out.far (p := ⟨gA, k * 3 + 2, none⟩) hr9 (.int .i64 yj))
    have hE3 := hide ((ext_drew hE.out).setCell (p := ⟨gA, k * 3 + 2, none⟩) (show w.heap.size ≤ gA by omega) (.int .i64 yj))
    try clear Q_0 Q_1 Q_lt Q_f0 Q_f1
    obtain ⟨Q_0, Q_1, Q_lt, Q_f0, Q_f1⟩ := Q.out.at2f
    try clear r1_0 r1_1 r1_lt r1_f0 r1_f1
    obtain ⟨r1_0, r1_1, r1_lt, r1_f0, r1_f1⟩ := r1.out.at2f
    try clear b1_0 b1_1 b1_lt
    obtain ⟨b1_0, b1_1, b1_lt⟩ := b1.out.at2
    try clear Q3_0 Q3_1 Q3_lt Q3_f0 Q3_f1
    obtain ⟨Q3_0, Q3_1, Q3_lt, Q3_f0, Q3_f1⟩ := Q3.out.at2f
    try clear r3_0 r3_1 r3_lt r3_f0 r3_f1
    obtain ⟨r3_0, r3_1, r3_lt, r3_f0, r3_f1⟩ := r3.out.at2f
    try clear Q4_0 Q4_1 Q4_lt Q4_f0 Q4_f1
    obtain ⟨Q4_0, Q4_1, Q4_lt, Q4_f0, Q4_f1⟩ := Q4.out.at2f
    try clear r4_0 r4_1 r4_lt r4_f0 r4_f1
    obtain ⟨r4_0, r4_1, r4_lt, r4_f0, r4_f1⟩ := r4.out.at2f
    go_region
    go_wp2_with fail
    refine bodyPost_ret (v := .tuple #[.agg #[.int .i64 v, .slice (some ⟨gA, 0, none⟩) ns.length c2], .bool true]) (by simp [results, Try.results14, go_sem, r3_0, r3_1, r4_0, r4_1]) rfl ?_
    exact gotChB_of e1.out e2.out e3.out (by simp) ((hP3.out.handed r3.out _ _).wide (Nat.le_refl _) (by simpa [World.setCell] using hs3)) ((hE3.out.setCell (Nat.le_succ _) _).setCell (Nat.le_succ _) _)
  · replace e1 := hide e1
    replace e2 := hide e2
    replace e3 := hide e3
    by_cases hlk : LinkOk v ns at_
    · obtain ⟨k, x, y, rfl, hx, hy, hne⟩ := tell_not hno hlk
      have hok := hlk.1
      replace hno := hide hno
      replace hlk := hide hlk
      obtain ⟨k1, hk1⟩ : ∃ k1, k1 = k + 1 := ⟨_, rfl⟩
      rw [← hk1] at hy
      obtain ⟨xi, xl, xj, ex⟩ := nd_cases x
      obtain ⟨yi, yl, yj, ey⟩ := nd_cases y
      subst ex ey
      have hkl := getElem_some hx
      have hkl1 := getElem_some hy
      obtain ⟨b9, o9, _, _, _, B1, d1, hA, hbl, hx', hld1, hdm1, hB1, c0, c1, c2, c1', c2'⟩ := node_at h.out hkl
      cases hA
      rw [hx] at hx'
      cases hx'
      obtain ⟨b8, o8, _, _, _, B2, d2, hA, hbl2, hy', hld2, hdm2, hB2, e0, e1, e2, e1', e2'⟩ := node_at h.out hkl1
      cases hA
      rw [hy] at hy'
      cases hy'
      have hw1 : IntKind.i64.wrap ((k : Int) + 1) = (k1 : Int) := by rw [show ((k : Int) + 1) = (k1 : Int) by omega]; exact IntWalk.i64_in _ (by omega)
      have hi0 : (0 : Int) ≤ (k : Int) := by omega
      have hi1 : (k : Int) < (ns.length : Int) := by omega
      have hi2 : (0 : Int) ≤ (k1 : Int) := by omega
      have hi3 : (k1 : Int) < (ns.length : Int) := by omega
      have hkk : k ≠ k1 := by omega
      replace hx := hide hx
      replace hy := hide hy
      replace hk1 := hide hk1
      clear hB1 hB2 c0 c1 c2 c1' e0 e1 e2 e1'
      have hq0 : ∀ w', Ext ((w.alloc (.cells #[.int .i64 v, .slice (some ⟨b9, o9, none⟩) ns.length c] 25)).alloc (.cells #[.int .i64 0, .slice none 0 0] 25)) w' → w'.cell? ⟨w.heap.size, 0, none⟩ = some (.int .i64 v) := fun w' hC => (b.out.ext hC).at2.1
      have hq1 : ∀ w', Ext ((w.alloc (.cells #[.int .i64 v, .slice (some ⟨b9, o9, none⟩) ns.length c] 25)).alloc (.cells #[.int .i64 0, .slice none 0 0] 25)) w' → w'.cell? ⟨w.heap.size, 1, none⟩ = some (.slice (some ⟨b9, o9, none⟩) ns.length c) := fun w' hC => (b.out.ext hC).at2.2.1
      have hq2 : ∀ w', Ext ((w.alloc (.cells #[.int .i64 v, .slice (some ⟨b9, o9, none⟩) ns.length c] 25)).alloc (.cells #[.int .i64 0, .slice none 0 0] 25)) w' → w'.cell? ⟨b9, o9 + k * 3 + 2, none⟩ = some (.int .i64 xj) := fun w' hC => ext_cell hC c2'
      have hq3 : ∀ w', Ext ((w.alloc (.cells #[.int .i64 v, .slice (some ⟨b9, o9, none⟩) ns.length c] 25)).alloc (.cells #[.int .i64 0, .slice none 0 0] 25)) w' → w'.cell? ⟨b9, o9 + k1 * 3 + 2, none⟩ = some (.int .i64 yj) := fun w' hC => ext_cell hC e2'
      simp only at hne
      subst hne
      have hd : (xj == xj) = true := by simp
      replace hok := hide hok
      have hcl : ∀ w', Ext ((w.alloc (.cells #[.int .i64 v, .slice (some ⟨b9, o9, none⟩) ns.length c] 25)).alloc (.cells #[.int .i64 0, .slice none 0 0] 25)) w' → Calls Alt.prog 35 #[.agg #[.int .i64 v, .slice (some ⟨b9, o9, none⟩) ns.length c], .int .i64 (k : Int)] w' (fun e w'' => e = .returned (.bool true) ∧ Ext ((w.alloc (.cells #[.int .i64 v, .slice (some ⟨b9, o9, none⟩) ns.length c] 25)).alloc (.cells #[.int .i64 0, .slice none 0 0] 25)) w'') := fun w' hC =>
        (linkAt_yes c v k (h.out.ext hC) hb hlk.out).mono fun e w'' ⟨f1, f2⟩ => ⟨f1, ext_trans hC f2⟩
      go_enter Alt.func14, Try.ntmps14
      go_wp2_with fail
      refine wp_region_quietE (by kernel_rfl) (by kernel_rfl) ?_
      repeat (
        refine QW.step (fun K hK => ?_)
        go_simp
        first
        | (refine hK _ ?_; clear hK K)
        | (apply Exists.intro
           refine ⟨fun w5 hC => ?_, hK _ ?_⟩
           · first
             | rfl
             | exact hcl w5 hC
             | (simp only [hq0 w5 hC, hq1 w5 hC, hq2 w5 hC, hq3 w5 hC, Result.andThen_ok, true_and]; rfl)
           clear hK K))
      refine QW.nil ?_
      intro w1 hF
      replace hE := hide (ext_trans hE.out hF)
      have hN1 := hide (h.out.ext hF)
      have r1 := hide (r.out.ext hF)
      have b1 := hide (b.out.ext hF)
      have c21 := ext_cell hF c2'
      have e21 := ext_cell hF e2'
      have hs1 : w.heap.size + 2 ≤ w1.heap.size := by have := hF.size; rw [hW] at this; exact this
      clear hF hq0 hq1 hq2 hq3 hcl c2' e2' r b h hW
      try clear b1_0 b1_1 b1_lt
      obtain ⟨b1_0, b1_1, b1_lt⟩ := b1.out.at2
      try clear r1_0 r1_1 r1_lt r1_f0 r1_f1
      obtain ⟨r1_0, r1_1, r1_lt, r1_f0, r1_f1⟩ := r1.out.at2f
      go_wp2_with fail
      refine bodyPost_ret (v := .tuple #[.agg #[.int .i64 0, .slice none 0 0], .bool false]) (by simp [results, Try.results14, go_sem, r1_0, r1_1]) rfl ?_
      exact gotChB_zero e1.out e2.out e3.out ((hE.out.setCell (Nat.le_succ _) _).setCell (Nat.le_succ _) _)
    · replace hno := hide hno
      replace hlk := hide hlk
      have hq0 : ∀ w', Ext ((w.alloc (.cells #[.int .i64 v, .slice A ns.length c] 25)).alloc (.cells #[.int .i64 0, .slice none 0 0] 25)) w' → w'.cell? ⟨w.heap.size, 0, none⟩ = some (.int .i64 v) := fun w' hC => (b.out.ext hC).at2.1
      have hq1 : ∀ w', Ext ((w.alloc (.cells #[.int .i64 v, .slice A ns.length c] 25)).alloc (.cells #[.int .i64 0, .slice none 0 0] 25)) w' → w'.cell? ⟨w.heap.size, 1, none⟩ = some (.slice A ns.length c) := fun w' hC => (b.out.ext hC).at2.2.1
      have hcl : ∀ w', Ext ((w.alloc (.cells #[.int .i64 v, .slice A ns.length c] 25)).alloc (.cells #[.int .i64 0, .slice none 0 0] 25)) w' → Calls Alt.prog 35 #[.agg #[.int .i64 v, .slice A ns.length c], .int .i64 at_] w' (fun e w'' => e = .returned (.bool false) ∧ Ext ((w.alloc (.cells #[.int .i64 v, .slice A ns.length c] 25)).alloc (.cells #[.int .i64 0, .slice none 0 0] 25)) w'') := fun w' hC =>
        (linkAt_no c v at_ (h.out.ext hC) hb (.inr trivial) hlk.out).mono fun e w'' ⟨f1, f2⟩ => ⟨f1, ext_trans hC f2⟩
      go_enter Alt.func14, Try.ntmps14
      go_wp2_with fail
      refine wp_region_quietE (by kernel_rfl) (by kernel_rfl) ?_
      repeat (
        refine QW.step (fun K hK => ?_)
        go_simp
        first
        | (refine hK _ ?_; clear hK K)
        | (apply Exists.intro
           refine ⟨fun w5 hC => ?_, hK _ ?_⟩
           · first
             | rfl
             | exact hcl w5 hC
             | (simp only [hq0 w5 hC, hq1 w5 hC, Result.andThen_ok, true_and]; rfl)
           clear hK K))
      refine QW.nil ?_
      intro w1 hF
      replace hE := hide (ext_trans hE.out hF)
      have r1 := hide (r.out.ext hF)
      clear hF r b h hW hq0 hq1 hcl
      try clear r1_0 r1_1 r1_lt r1_f0 r1_f1
      obtain ⟨r1_0, r1_1, r1_lt, r1_f0, r1_f1⟩ := r1.out.at2f
      go_wp2_with fail
      refine bodyPost_ret (v := .tuple #[.agg #[.int .i64 0, .slice none 0 0], .bool false]) (by simp [results, Try.results14, go_sem, r1_0, r1_1]) rfl ?_
      exact gotChB_zero e1.out e2.out e3.out ((hE.out.setCell (Nat.le_succ _) _).setCell (Nat.le_succ _) _)
set_option maxHeartbeats 6400000 in
theorem specChainTell_any {A : Option Addr} {ns : List Nd} {rv : Int} {rl : List Nd} {rb : Bool} (c : Nat) (v at_ : Int) {w : World} (h : NodesR w A ns) (hb : bulk ns ≤ 1048576) (hlc : ns.length ≤ c) (hs : TellRes v ns at_ rv rl rb) :
    Calls Alt.prog 80 #[.agg #[.int .i64 v, .slice A ns.length c], .int .i64 at_] w (GotChB w rv rl rb) := by
  have hl := bulk_len ns
  have hE := hide (ext_refl w)
  replace h := hide h
  have b := hide (Blk.newAt (w) 25 #[.int .i64 v, .slice A ns.length c] (g := w.heap.size) (by simp))
  replace h := hide (h.out.ext (ext_alloc (ext_refl (w)) (.cells #[.int .i64 v, .slice A ns.length c] 25)))
  replace hE := hide (ext_alloc hE.out (.cells #[.int .i64 v, .slice A ns.length c] 25))
  have r := hide (Blk.newAt (w.alloc (.cells #[.int .i64 v, .slice A ns.length c] 25)) 25 #[.int .i64 0, .slice none 0 0] (g := w.heap.size + 1) (by simp))
  replace h := hide (h.out.ext (ext_alloc (ext_refl (w.alloc (.cells #[.int .i64 v, .slice A ns.length c] 25))) (.cells #[.int .i64 0, .slice none 0 0] 25)))
  replace b := hide (b.out.ext (ext_alloc (ext_refl (w.alloc (.cells #[.int .i64 v, .slice A ns.length c] 25))) (.cells #[.int .i64 0, .slice none 0 0] 25)))
  replace hE := hide (ext_alloc hE.out (.cells #[.int .i64 0, .slice none 0 0] 25))
  have hW : ((w.alloc (.cells #[.int .i64 v, .slice A ns.length c] 25)).alloc (.cells #[.int .i64 0, .slice none 0 0] 25)).heap.size = w.heap.size + 2 := by simp
  rcases hs with ⟨k, x, y, hT, e1, e2, e3⟩ | ⟨hno, e1, e2, e3⟩
  · have hlk := hide (tellAt_link hT)
    obtain ⟨hok, rfl, hx, hy, hne⟩ := hT
    replace e1 := hide e1
    replace e2 := hide e2
    replace e3 := hide e3
    obtain ⟨k1, hk1⟩ : ∃ k1, k1 = k + 1 := ⟨_, rfl⟩
    rw [← hk1] at hy
    obtain ⟨xi, xl, xj, ex⟩ := nd_cases x
    obtain ⟨yi, yl, yj, ey⟩ := nd_cases y
    subst ex ey
    have hkl := getElem_some hx
    have hkl1 := getElem_some hy
    obtain ⟨b9, o9, _, _, _, B1, d1, hA, hbl, hx', hld1, hdm1, hB1, c0, c1, c2, c1', c2'⟩ := node_at h.out hkl
    cases hA
    rw [hx] at hx'
    cases hx'
    obtain ⟨b8, o8, _, _, _, B2, d2, hA, hbl2, hy', hld2, hdm2, hB2, e0, e1, e2, e1', e2'⟩ := node_at h.out hkl1
    cases hA
    rw [hy] at hy'
    cases hy'
    have hw1 : IntKind.i64.wrap ((k : Int) + 1) = (k1 : Int) := by rw [show ((k : Int) + 1) = (k1 : Int) by omega]; exact IntWalk.i64_in _ (by omega)
    have hi0 : (0 : Int) ≤ (k : Int) := by omega
    have hi1 : (k : Int) < (ns.length : Int) := by omega
    have hi2 : (0 : Int) ≤ (k1 : Int) := by omega
    have hi3 : (k1 : Int) < (ns.length : Int) := by omega
    have hkk : k ≠ k1 := by omega
    replace hx := hide hx
    replace hy := hide hy
    replace hk1 := hide hk1
    clear hB1 hB2 c0 c1 c2 c1' e0 e1 e2 e1'
    have hq0 : ∀ w', Ext ((w.alloc (.cells #[.int .i64 v, .slice (some ⟨b9, o9, none⟩) ns.length c] 25)).alloc (.cells #[.int .i64 0, .slice none 0 0] 25)) w' → w'.cell? ⟨w.heap.size, 0, none⟩ = some (.int .i64 v) := fun w' hC => (b.out.ext hC).at2.1
    have hq1 : ∀ w', Ext ((w.alloc (.cells #[.int .i64 v, .slice (some ⟨b9, o9, none⟩) ns.length c] 25)).alloc (.cells #[.int .i64 0, .slice none 0 0] 25)) w' → w'.cell? ⟨w.heap.size, 1, none⟩ = some (.slice (some ⟨b9, o9, none⟩) ns.length c) := fun w' hC => (b.out.ext hC).at2.2.1
    have hq2 : ∀ w', Ext ((w.alloc (.cells #[.int .i64 v, .slice (some ⟨b9, o9, none⟩) ns.length c] 25)).alloc (.cells #[.int .i64 0, .slice none 0 0] 25)) w' → w'.cell? ⟨b9, o9 + k * 3 + 2, none⟩ = some (.int .i64 xj) := fun w' hC => ext_cell hC c2'
    have hq3 : ∀ w', Ext ((w.alloc (.cells #[.int .i64 v, .slice (some ⟨b9, o9, none⟩) ns.length c] 25)).alloc (.cells #[.int .i64 0, .slice none 0 0] 25)) w' → w'.cell? ⟨b9, o9 + k1 * 3 + 2, none⟩ = some (.int .i64 yj) := fun w' hC => ext_cell hC e2'
    have h5 := hok.2.1
    have hw2 : IntKind.i64.wrap ((ns.length : Int) - 2) = (ns.length : Int) - 2 := IntWalk.i64_in _ (by omega)
    have hd2 : decide (0 ≤ (k : Int) ∧ (k : Int) ≤ (ns.length : Int) - 2) = true := decide_eq_true ⟨by omega, by have := hk1.out; omega⟩
    have hd : (xj == yj) = false := by simpa using hne
    replace hok := hide hok
    clear hne
    have hcl : ∀ w', Ext ((w.alloc (.cells #[.int .i64 v, .slice (some ⟨b9, o9, none⟩) ns.length c] 25)).alloc (.cells #[.int .i64 0, .slice none 0 0] 25)) w' → Calls Alt.prog 20 #[.agg #[.int .i64 v, .slice (some ⟨b9, o9, none⟩) ns.length c]] w' (fun e w'' => e = .returned (.bool true) ∧ Ext ((w.alloc (.cells #[.int .i64 v, .slice (some ⟨b9, o9, none⟩) ns.length c] 25)).alloc (.cells #[.int .i64 0, .slice none 0 0] 25)) w'') := fun w' hC =>
      (specChainValid_yes c v (h.out.ext hC) hb hlc hok.out).mono fun e w'' ⟨f1, f2⟩ => ⟨f1, ext_trans hC f2⟩
    have hc6 : ∀ w', Ext ((w.alloc (.cells #[.int .i64 v, .slice (some ⟨b9, o9, none⟩) ns.length c] 25)).alloc (.cells #[.int .i64 0, .slice none 0 0] 25)) w' → Calls Alt.prog 43 #[.int .i64 (k : Int), .int .i64 0, .int .i64 ((ns.length : Int) - 2)] w' (fun e w'' => e = .returned (.bool true) ∧ Ext ((w.alloc (.cells #[.int .i64 v, .slice (some ⟨b9, o9, none⟩) ns.length c] 25)).alloc (.cells #[.int .i64 0, .slice none 0 0] 25)) w'') := fun w' hC =>
      (l6In_any _ _ _ _).mono fun e w'' ⟨f1, f2⟩ => ⟨by rw [f1, hd2], by rw [← f2]; exact hC⟩
    go_enter Alt.func80, Try.ntmps80
    go_wp2_with fail
    refine wp_region_quietE (by kernel_rfl) (by kernel_rfl) ?_
    repeat (
      refine QW.step (fun K hK => ?_)
      go_simp
      first
      | (refine hK _ ?_; clear hK K)
      | (apply Exists.intro
         refine ⟨fun w5 hC => ?_, hK _ ?_⟩
         · first
           | rfl
           | exact hcl w5 hC
           | exact hc6 w5 hC
           | (simp only [hq0 w5 hC, hq1 w5 hC, hq2 w5 hC, hq3 w5 hC, Result.andThen_ok, true_and]; rfl)
         clear hK K))
    refine QW.nil ?_
    intro w1 hF
    replace hE := hide (ext_trans hE.out hF)
    have hN1 := hide (h.out.ext hF)
    have r1 := hide (r.out.ext hF)
    have b1 := hide (b.out.ext hF)
    have c21 := ext_cell hF c2'
    have e21 := ext_cell hF e2'
    have hs1 : w.heap.size + 2 ≤ w1.heap.size := by have := hF.size; rw [hW] at this; exact this
    clear hF hq0 hq1 hq2 hq3 hcl c2' e2' r b h hW
    try clear b1_0 b1_1 b1_lt
    obtain ⟨b1_0, b1_1, b1_lt⟩ := b1.out.at2
    try clear r1_0 r1_1 r1_lt r1_f0 r1_f1
    obtain ⟨r1_0, r1_1, r1_lt, r1_f0, r1_f1⟩ := r1.out.at2f
    go_wp2_with fail
    refine (l4Copy_any c v hN1.out hb).mono ?_
    intro e w2 hG
    obtain ⟨A2, c2, rfl, -, -, hP, hF⟩ := hG.use
    obtain ⟨gA, rfl, hgl, hgh, hgs⟩ := hP.out.addr (by omega)
    clear hG
    replace c21 := ext_cell hF c21
    replace e21 := ext_cell hF e21
    replace hN1 := hide (hN1.out.ext hF)
    replace b1 := hide (b1.out.ext hF)
    replace r1 := hide (r1.out.ext hF)
    try clear b1_0 b1_1 b1_lt
    obtain ⟨b1_0, b1_1, b1_lt⟩ := b1.out.at2
    try clear r1_0 r1_1 r1_lt r1_f0 r1_f1
    obtain ⟨r1_0, r1_1, r1_lt, r1_f0, r1_f1⟩ := r1.out.at2f
    replace hE := hide (ext_trans hE.out hF)
    clear hF
    have Q := hide (Blk.newAt (w2) 25 #[.int .i64 v, .slice (some ⟨gA, 0, none⟩) ns.length c2] (g := (w2).heap.size) (by simp))
    replace hP := hide (hP.out.ext (ext_alloc (ext_refl (w2)) (.cells #[.int .i64 v, .slice (some ⟨gA, 0, none⟩) ns.length c2] 25)))
    replace r1 := hide (r1.out.ext (ext_alloc (ext_refl (w2)) (.cells #[.int .i64 v, .slice (some ⟨gA, 0, none⟩) ns.length c2] 25)))
    replace b1 := hide (b1.out.ext (ext_alloc (ext_refl (w2)) (.cells #[.int .i64 v, .slice (some ⟨gA, 0, none⟩) ns.length c2] 25)))
    replace hE := hide (ext_alloc hE.out (.cells #[.int .i64 v, .slice (some ⟨gA, 0, none⟩) ns.length c2] 25))
    replace c21 := ext_cell (ext_alloc (ext_refl w2) (.cells #[.int .i64 v, .slice (some ⟨gA, 0, none⟩) ns.length c2] 25)) c21
    replace e21 := ext_cell (ext_alloc (ext_refl w2) (.cells #[.int .i64 v, .slice (some ⟨gA, 0, none⟩) ns.length c2] 25)) e21
    have hs3 : w2.heap.size ≤ (w2.alloc (.cells #[.int .i64 v, .slice (some ⟨gA, 0, none⟩) ns.length c2] 25)).heap.size := by simp
    try clear b1_0 b1_1 b1_lt
    obtain ⟨b1_0, b1_1, b1_lt⟩ := b1.out.at2
    try clear r1_0 r1_1 r1_lt r1_f0 r1_f1
    obtain ⟨r1_0, r1_1, r1_lt, r1_f0, r1_f1⟩ := r1.out.at2f
    go_wp2_with fail
    clear b1_0 b1_1 b1_lt r1_0 r1_1 r1_lt r1_f0 r1_f1
    generalize w2.alloc (.cells #[.int .i64 v, .slice (some ⟨gA, 0, none⟩) ns.length c2] 25) = w3 at hP r1 b1 Q c21 e21 hE hs3 ⊢

    have g2' := e21

    obtain ⟨⟨u5, hu5⟩, hf5⟩ := hP.out.cellsAt (j := k * 3 + 2) (by omega)
    have hq9 : w2.heap.size ≠ gA := by omega
    have hr9 : w.heap.size + 1 ≠ gA := by omega
    have hb9 : w.heap.size ≠ gA := by omega
    have hP3 := hide (((hP.out.ext (ext_drew (ext_refl w3))).setDone (y := yj) hx.out).wide (show w.heap.size ≤ w1.heap.size by omega) (Nat.le_refl _))
    have Q3 := hide ((Q.out.ext (ext_drew (ext_refl w3))).far (p := ⟨gA, k * 3 + 2, none⟩) hq9 (.int .i64 yj))
    have r3 := hide ((r1.out.ext (ext_drew (ext_refl w3))).far (p := ⟨gA, k * 3 + 2, none⟩) hr9 (.int .i64 yj))
    have Q4 := hide (Q.out.far (p := ⟨gA, k * 3 + 2, none⟩) hq9 (.int .i64 yj))
    have r4 := hide (r1.out.far (p := ⟨gA, k * 3 + 2, none⟩) hr9 (.int .i64 yj))
    have hE3 := hide ((ext_drew hE.out).setCell (p := ⟨gA, k * 3 + 2, none⟩) (show w.heap.size ≤ gA by omega) (.int .i64 yj))
    try clear Q_0 Q_1 Q_lt Q_f0 Q_f1
    obtain ⟨Q_0, Q_1, Q_lt, Q_f0, Q_f1⟩ := Q.out.at2f
    try clear r1_0 r1_1 r1_lt r1_f0 r1_f1
    obtain ⟨r1_0, r1_1, r1_lt, r1_f0, r1_f1⟩ := r1.out.at2f
    try clear b1_0 b1_1 b1_lt
    obtain ⟨b1_0, b1_1, b1_lt⟩ := b1.out.at2
    try clear Q3_0 Q3_1 Q3_lt Q3_f0 Q3_f1
    obtain ⟨Q3_0, Q3_1, Q3_lt, Q3_f0, Q3_f1⟩ := Q3.out.at2f
    try clear r3_0 r3_1 r3_lt r3_f0 r3_f1
    obtain ⟨r3_0, r3_1, r3_lt, r3_f0, r3_f1⟩ := r3.out.at2f
    try clear Q4_0 Q4_1 Q4_lt Q4_f0 Q4_f1
    obtain ⟨Q4_0, Q4_1, Q4_lt, Q4_f0, Q4_f1⟩ := Q4.out.at2f
    try clear r4_0 r4_1 r4_lt r4_f0 r4_f1
    obtain ⟨r4_0, r4_1, r4_lt, r4_f0, r4_f1⟩ := r4.out.at2f
    go_region
    go_wp2_with fail
    refine bodyPost_ret (v := .tuple #[.agg #[.int .i64 v, .slice (some ⟨gA, 0, none⟩) ns.length c2], .bool true]) (by simp [results, Try.results80, go_sem, r3_0, r3_1, r4_0, r4_1]) rfl ?_
    exact gotChB_of e1.out e2.out e3.out (by simp) ((hP3.out.handed r3.out _ _).wide (Nat.le_refl _) (by simpa [World.setCell] using hs3)) ((hE3.out.setCell (Nat.le_succ _) _).setCell (Nat.le_succ _) _)
  · replace e1 := hide e1
    replace e2 := hide e2
    replace e3 := hide e3
    by_cases hlk : LinkOk v ns at_
    · obtain ⟨k, x, y, rfl, hx, hy, hne⟩ := tell_not hno hlk
      have hok := hlk.1
      replace hno := hide hno
      replace hlk := hide hlk
      obtain ⟨k1, hk1⟩ : ∃ k1, k1 = k + 1 := ⟨_, rfl⟩
      rw [← hk1] at hy
      obtain ⟨xi, xl, xj, ex⟩ := nd_cases x
      obtain ⟨yi, yl, yj, ey⟩ := nd_cases y
      subst ex ey
      have hkl := getElem_some hx
      have hkl1 := getElem_some hy
      obtain ⟨b9, o9, _, _, _, B1, d1, hA, hbl, hx', hld1, hdm1, hB1, c0, c1, c2, c1', c2'⟩ := node_at h.out hkl
      cases hA
      rw [hx] at hx'
      cases hx'
      obtain ⟨b8, o8, _, _, _, B2, d2, hA, hbl2, hy', hld2, hdm2, hB2, e0, e1, e2, e1', e2'⟩ := node_at h.out hkl1
      cases hA
      rw [hy] at hy'
      cases hy'
      have hw1 : IntKind.i64.wrap ((k : Int) + 1) = (k1 : Int) := by rw [show ((k : Int) + 1) = (k1 : Int) by omega]; exact IntWalk.i64_in _ (by omega)
      have hi0 : (0 : Int) ≤ (k : Int) := by omega
      have hi1 : (k : Int) < (ns.length : Int) := by omega
      have hi2 : (0 : Int) ≤ (k1 : Int) := by omega
      have hi3 : (k1 : Int) < (ns.length : Int) := by omega
      have hkk : k ≠ k1 := by omega
      replace hx := hide hx
      replace hy := hide hy
      replace hk1 := hide hk1
      clear hB1 hB2 c0 c1 c2 c1' e0 e1 e2 e1'
      have hq0 : ∀ w', Ext ((w.alloc (.cells #[.int .i64 v, .slice (some ⟨b9, o9, none⟩) ns.length c] 25)).alloc (.cells #[.int .i64 0, .slice none 0 0] 25)) w' → w'.cell? ⟨w.heap.size, 0, none⟩ = some (.int .i64 v) := fun w' hC => (b.out.ext hC).at2.1
      have hq1 : ∀ w', Ext ((w.alloc (.cells #[.int .i64 v, .slice (some ⟨b9, o9, none⟩) ns.length c] 25)).alloc (.cells #[.int .i64 0, .slice none 0 0] 25)) w' → w'.cell? ⟨w.heap.size, 1, none⟩ = some (.slice (some ⟨b9, o9, none⟩) ns.length c) := fun w' hC => (b.out.ext hC).at2.2.1
      have hq2 : ∀ w', Ext ((w.alloc (.cells #[.int .i64 v, .slice (some ⟨b9, o9, none⟩) ns.length c] 25)).alloc (.cells #[.int .i64 0, .slice none 0 0] 25)) w' → w'.cell? ⟨b9, o9 + k * 3 + 2, none⟩ = some (.int .i64 xj) := fun w' hC => ext_cell hC c2'
      have hq3 : ∀ w', Ext ((w.alloc (.cells #[.int .i64 v, .slice (some ⟨b9, o9, none⟩) ns.length c] 25)).alloc (.cells #[.int .i64 0, .slice none 0 0] 25)) w' → w'.cell? ⟨b9, o9 + k1 * 3 + 2, none⟩ = some (.int .i64 yj) := fun w' hC => ext_cell hC e2'
      have h5 := hok.2.1
      have hw2 : IntKind.i64.wrap ((ns.length : Int) - 2) = (ns.length : Int) - 2 := IntWalk.i64_in _ (by omega)
      have hd2 : decide (0 ≤ (k : Int) ∧ (k : Int) ≤ (ns.length : Int) - 2) = true := decide_eq_true ⟨by omega, by have := hk1.out; omega⟩
      simp only at hne
      subst hne
      have hd : (xj == xj) = true := by simp
      replace hok := hide hok
      have hcl : ∀ w', Ext ((w.alloc (.cells #[.int .i64 v, .slice (some ⟨b9, o9, none⟩) ns.length c] 25)).alloc (.cells #[.int .i64 0, .slice none 0 0] 25)) w' → Calls Alt.prog 20 #[.agg #[.int .i64 v, .slice (some ⟨b9, o9, none⟩) ns.length c]] w' (fun e w'' => e = .returned (.bool true) ∧ Ext ((w.alloc (.cells #[.int .i64 v, .slice (some ⟨b9, o9, none⟩) ns.length c] 25)).alloc (.cells #[.int .i64 0, .slice none 0 0] 25)) w'') := fun w' hC =>
        (specChainValid_yes c v (h.out.ext hC) hb hlc hok.out).mono fun e w'' ⟨f1, f2⟩ => ⟨f1, ext_trans hC f2⟩
      have hc6 : ∀ w', Ext ((w.alloc (.cells #[.int .i64 v, .slice (some ⟨b9, o9, none⟩) ns.length c] 25)).alloc (.cells #[.int .i64 0, .slice none 0 0] 25)) w' → Calls Alt.prog 43 #[.int .i64 (k : Int), .int .i64 0, .int .i64 ((ns.length : Int) - 2)] w' (fun e w'' => e = .returned (.bool true) ∧ Ext ((w.alloc (.cells #[.int .i64 v, .slice (some ⟨b9, o9, none⟩) ns.length c] 25)).alloc (.cells #[.int .i64 0, .slice none 0 0] 25)) w'') := fun w' hC =>
        (l6In_any _ _ _ _).mono fun e w'' ⟨f1, f2⟩ => ⟨by rw [f1, hd2], by rw [← f2]; exact hC⟩
      go_enter Alt.func80, Try.ntmps80
      go_wp2_with fail
      refine wp_region_quietE (by kernel_rfl) (by kernel_rfl) ?_
      repeat (
        refine QW.step (fun K hK => ?_)
        go_simp
        first
        | (refine hK _ ?_; clear hK K)
        | (apply Exists.intro
           refine ⟨fun w5 hC => ?_, hK _ ?_⟩
           · first
             | rfl
             | exact hcl w5 hC
             | exact hc6 w5 hC
             | (simp only [hq0 w5 hC, hq1 w5 hC, hq2 w5 hC, hq3 w5 hC, Result.andThen_ok, true_and]; rfl)
           clear hK K))
      refine QW.nil ?_
      intro w1 hF
      replace hE := hide (ext_trans hE.out hF)
      have hN1 := hide (h.out.ext hF)
      have r1 := hide (r.out.ext hF)
      have b1 := hide (b.out.ext hF)
      have c21 := ext_cell hF c2'
      have e21 := ext_cell hF e2'
      have hs1 : w.heap.size + 2 ≤ w1.heap.size := by have := hF.size; rw [hW] at this; exact this
      clear hF hq0 hq1 hq2 hq3 hcl c2' e2' r b h hW
      try clear b1_0 b1_1 b1_lt
      obtain ⟨b1_0, b1_1, b1_lt⟩ := b1.out.at2
      try clear r1_0 r1_1 r1_lt r1_f0 r1_f1
      obtain ⟨r1_0, r1_1, r1_lt, r1_f0, r1_f1⟩ := r1.out.at2f
      go_wp2_with fail
      refine bodyPost_ret (v := .tuple #[.agg #[.int .i64 0, .slice none 0 0], .bool false]) (by simp [results, Try.results80, go_sem, r1_0, r1_1]) rfl ?_
      exact gotChB_zero e1.out e2.out e3.out ((hE.out.setCell (Nat.le_succ _) _).setCell (Nat.le_succ _) _)
    · by_cases hok : ChOk v ns
      · have h5 := hok.2.1
        have hw2 : IntKind.i64.wrap ((ns.length : Int) - 2) = (ns.length : Int) - 2 := IntWalk.i64_in _ (by omega)
        have hd2 : decide (0 ≤ at_ ∧ at_ ≤ (ns.length : Int) - 2) = false := decide_eq_false fun hh => hlk ⟨hok, by omega, by omega⟩
        replace hok := hide hok
        replace hno := hide hno
        replace hlk := hide hlk
        have hq0 : ∀ w', Ext ((w.alloc (.cells #[.int .i64 v, .slice A ns.length c] 25)).alloc (.cells #[.int .i64 0, .slice none 0 0] 25)) w' → w'.cell? ⟨w.heap.size, 0, none⟩ = some (.int .i64 v) := fun w' hC => (b.out.ext hC).at2.1
        have hq1 : ∀ w', Ext ((w.alloc (.cells #[.int .i64 v, .slice A ns.length c] 25)).alloc (.cells #[.int .i64 0, .slice none 0 0] 25)) w' → w'.cell? ⟨w.heap.size, 1, none⟩ = some (.slice A ns.length c) := fun w' hC => (b.out.ext hC).at2.2.1
        have hcl : ∀ w', Ext ((w.alloc (.cells #[.int .i64 v, .slice A ns.length c] 25)).alloc (.cells #[.int .i64 0, .slice none 0 0] 25)) w' → Calls Alt.prog 20 #[.agg #[.int .i64 v, .slice A ns.length c]] w' (fun e w'' => e = .returned (.bool true) ∧ Ext ((w.alloc (.cells #[.int .i64 v, .slice A ns.length c] 25)).alloc (.cells #[.int .i64 0, .slice none 0 0] 25)) w'') := fun w' hC =>
          (specChainValid_yes c v (h.out.ext hC) hb hlc hok.out).mono fun e w'' ⟨f1, f2⟩ => ⟨f1, ext_trans hC f2⟩
        have hc6 : ∀ w', Ext ((w.alloc (.cells #[.int .i64 v, .slice A ns.length c] 25)).alloc (.cells #[.int .i64 0, .slice none 0 0] 25)) w' → Calls Alt.prog 43 #[.int .i64 at_, .int .i64 0, .int .i64 ((ns.length : Int) - 2)] w' (fun e w'' => e = .returned (.bool false) ∧ Ext ((w.alloc (.cells #[.int .i64 v, .slice A ns.length c] 25)).alloc (.cells #[.int .i64 0, .slice none 0 0] 25)) w'') := fun w' hC =>
          (l6In_any _ _ _ _).mono fun e w'' ⟨f1, f2⟩ => ⟨by rw [f1, hd2], by rw [← f2]; exact hC⟩
        go_enter Alt.func80, Try.ntmps80
        go_wp2_with fail
        refine wp_region_quietE (by kernel_rfl) (by kernel_rfl) ?_
        repeat (
          refine QW.step (fun K hK => ?_)
          go_simp
          first
          | (refine hK _ ?_; clear hK K)
          | (apply Exists.intro
             refine ⟨fun w5 hC => ?_, hK _ ?_⟩
             · first
               | rfl
               | exact hcl w5 hC
               | exact hc6 w5 hC
               | (simp only [hq0 w5 hC, hq1 w5 hC, Result.andThen_ok, true_and]; rfl)
             clear hK K))
        refine QW.nil ?_
        intro w1 hF
        replace hE := hide (ext_trans hE.out hF)
        have r1 := hide (r.out.ext hF)
        clear hF r b h hW hq0 hq1 hcl
        try clear r1_0 r1_1 r1_lt r1_f0 r1_f1
        obtain ⟨r1_0, r1_1, r1_lt, r1_f0, r1_f1⟩ := r1.out.at2f
        go_wp2_with fail
        refine bodyPost_ret (v := .tuple #[.agg #[.int .i64 0, .slice none 0 0], .bool false]) (by simp [results, Try.results80, go_sem, r1_0, r1_1]) rfl ?_
        exact gotChB_zero e1.out e2.out e3.out ((hE.out.setCell (Nat.le_succ _) _).setCell (Nat.le_succ _) _)
      · replace hok := hide hok
        replace hno := hide hno
        replace hlk := hide hlk
        have hq0 : ∀ w', Ext ((w.alloc (.cells #[.int .i64 v, .slice A ns.length c] 25)).alloc (.cells #[.int .i64 0, .slice none 0 0] 25)) w' → w'.cell? ⟨w.heap.size, 0, none⟩ = some (.int .i64 v) := fun w' hC => (b.out.ext hC).at2.1
        have hq1 : ∀ w', Ext ((w.alloc (.cells #[.int .i64 v, .slice A ns.length c] 25)).alloc (.cells #[.int .i64 0, .slice none 0 0] 25)) w' → w'.cell? ⟨w.heap.size, 1, none⟩ = some (.slice A ns.length c) := fun w' hC => (b.out.ext hC).at2.2.1
        have hcl : ∀ w', Ext ((w.alloc (.cells #[.int .i64 v, .slice A ns.length c] 25)).alloc (.cells #[.int .i64 0, .slice none 0 0] 25)) w' → Calls Alt.prog 20 #[.agg #[.int .i64 v, .slice A ns.length c]] w' (fun e w'' => e = .returned (.bool false) ∧ Ext ((w.alloc (.cells #[.int .i64 v, .slice A ns.length c] 25)).alloc (.cells #[.int .i64 0, .slice none 0 0] 25)) w'') := fun w' hC =>
          (specChainValid_no c v (h.out.ext hC) hb hlc hok.out).mono fun e w'' ⟨f1, f2⟩ => ⟨f1, ext_trans hC f2⟩
        go_enter Alt.func80, Try.ntmps80
        go_wp2_with fail
        refine wp_region_quietE (by kernel_rfl) (by kernel_rfl) ?_
        repeat (
          refine QW.step (fun K hK => ?_)
          go_simp
          first
          | (refine hK _ ?_; clear hK K)
          | (apply Exists.intro
             refine ⟨fun w5 hC => ?_, hK _ ?_⟩
             · first
               | rfl
               | exact hcl w5 hC
               | (simp only [hq0 w5 hC, hq1 w5 hC, Result.andThen_ok, true_and]; rfl)
             clear hK K))
        refine QW.nil ?_
        intro w1 hF
        replace hE := hide (ext_trans hE.out hF)
        have r1 := hide (r.out.ext hF)
        clear hF r b h hW hq0 hq1 hcl
        try clear r1_0 r1_1 r1_lt r1_f0 r1_f1
        obtain ⟨r1_0, r1_1, r1_lt, r1_f0, r1_f1⟩ := r1.out.at2f
        go_wp2_with fail
        refine bodyPost_ret (v := .tuple #[.agg #[.int .i64 0, .slice none 0 0], .bool false]) (by simp [results, Try.results80, go_sem, r1_0, r1_1]) rfl ?_
        exact gotChB_zero e1.out e2.out e3.out ((hE.out.setCell (Nat.le_succ _) _).setCell (Nat.le_succ _) _)
end Go.Proofs.YtciekjplhbimdaaZ
