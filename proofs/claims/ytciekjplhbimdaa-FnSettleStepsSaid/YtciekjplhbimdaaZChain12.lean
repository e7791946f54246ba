/-
  Contract: an update is passed on in a chain, where the program refuses.
-/
import Derived.Test.YtciekjplhbimdaaZChain9
set_option linter.all false
set_option maxRecDepth 100000
namespace Go.Proofs.YtciekjplhbimdaaZ
open Go.RowKit
attribute [local go_sem ↓] Go.wp_at_zero Go.wp_at_succ

theorem pass_not {v at_ : Int} {ns : List Nd} (h : ¬ ∃ k x y, PassAt v ns at_ k x y) (hl : LinkOk v ns at_) : ∃ (k : Nat) (x y : Nd), at_ = k ∧ ns[k]? = some x ∧ ns[k + 1]? = some y ∧ x.log.length = y.log.length := by
  obtain ⟨h1, h2, h3⟩ := hl
  have e1 : ns[at_.toNat]? = some (ns[at_.toNat]'(by omega)) := List.getElem?_eq_getElem _
  have e2 : ns[at_.toNat + 1]? = some (ns[at_.toNat + 1]'(by omega)) := List.getElem?_eq_getElem _
  refine ⟨at_.toNat, _, _, by omega, e1, e2, ?_⟩
  refine Classical.byContradiction fun hne => h ⟨at_.toNat, _, _, h1, by omega, e1, e2, hne⟩
theorem passAt_link {v at_ : Int} {ns : List Nd} {k : Nat} {x y : Nd} (h : PassAt v ns at_ k x y) : LinkOk v ns at_ := by
  obtain ⟨h1, h2, h3, h4, -⟩ := h
  have := getElem_some h4
  exact ⟨h1, by omega, by omega⟩
set_option maxHeartbeats 6400000 in
theorem implChainPass_no {A : Option Addr} {ns : List Nd} (c : Nat) (v at_ : Int) {w : World} (h : NodesR w A ns) (hb : bulk ns ≤ 1048576) (hno : ¬ ∃ k x y, PassAt v ns at_ k x y) :
    Calls Alt.prog 13 #[.agg #[.int .i64 v, .slice A ns.length c], .int .i64 at_] w (GotChB w 0 [] false) := by
  have hl := bulk_len ns
  have hE := hide (ext_refl w)
  replace h := hide h
  have b := hide (Blk.newAt (w) 25 #[.int .i64 v, .slice A ns.length c] (g := w.heap.size) (by simp))
  replace h := hide (h.out.ext (ext_alloc (ext_refl (w)) (.cells #[.int .i64 v, .slice A ns.length c] 25)))
  replace hE := hide (ext_alloc hE.out (.cells #[.int .i64 v, .slice A ns.length c] 25))
  have r := hide (Blk.newAt (w.alloc (.cells #[.int .i64 v, .slice A ns.length c] 25)) 25 #[.int .i64 0, .slice none 0 0] (g := w.heap.size + 1) (by simp))
  replace h := hide (h.out.ext (ext_alloc (ext_refl (w.alloc (.cells #[.int .i64 v, .slice A ns.length c] 25))) (.cells #[.int .i64 0, .slice none 0 0] 25)))
  replace b := hide (b.out.ext (ext_alloc (ext_refl (w.alloc (.cells #[.int .i64 v, .slice A ns.length c] 25))) (.cells #[.int .i64 0, .slice none 0 0] 25)))
  replace hE := hide (ext_alloc hE.out (.cells #[.int .i64 0, .slice none 0 0] 25))
  have hW : ((w.alloc (.cells #[.int .i64 v, .slice A ns.length c] 25)).alloc (.cells #[.int .i64 0, .slice none 0 0] 25)).heap.size = w.heap.size + 2 := by simp
  by_cases hlk : LinkOk v ns at_
  · obtain ⟨k, x, y, rfl, hx, hy, hne⟩ := pass_not hno hlk
    have hok := hlk.1
    replace hno := hide hno
    replace hlk := hide hlk
    obtain ⟨k1, hk1⟩ : ∃ k1, k1 = k + 1 := ⟨_, rfl⟩
    rw [← hk1] at hy
    obtain ⟨xi, xl, xj, ex⟩ := nd_cases x
    obtain ⟨yi, yl, yj, ey⟩ := nd_cases y
    subst ex ey
    have hkl := getElem_some hx
    have hkl1 := getElem_some hy
    obtain ⟨b9, o9, _, _, _, B1, d1, hA, hbl, hx', hld1, hdm1, hB1, c0, c1, c2, c1', c2'⟩ := node_at h.out hkl
    cases hA
    rw [hx] at hx'
    cases hx'
    obtain ⟨b8, o8, _, _, _, B2, d2, hA, hbl2, hy', hld2, hdm2, hB2, e0', e1', e2', e1'', e2''⟩ := node_at h.out hkl1
    cases hA
    rw [hy] at hy'
    cases hy'
    have hw1 : IntKind.i64.wrap ((k : Int) + 1) = (k1 : Int) := by rw [show ((k : Int) + 1) = (k1 : Int) by omega]; exact IntWalk.i64_in _ (by omega)
    have hi0 : (0 : Int) ≤ (k : Int) := by omega
    have hi1 : (k : Int) < (ns.length : Int) := by omega
    have hi2 : (0 : Int) ≤ (k1 : Int) := by omega
    have hi3 : (k1 : Int) < (ns.length : Int) := by omega
    have hkk : k ≠ k1 := by omega
    replace hx := hide hx
    replace hy := hide hy
    replace hk1 := hide hk1
    clear hB1 hB2 c0 c1 c2 c2' e0' e1' e2' e2''
    have hq0 : ∀ w', Ext ((w.alloc (.cells #[.int .i64 v, .slice (some ⟨b9, o9, none⟩) ns.length c] 25)).alloc (.cells #[.int .i64 0, .slice none 0 0] 25)) w' → w'.cell? ⟨w.heap.size, 0, none⟩ = some (.int .i64 v) := fun w' hC => (b.out.ext hC).at2.1
    have hq1 : ∀ w', Ext ((w.alloc (.cells #[.int .i64 v, .slice (some ⟨b9, o9, none⟩) ns.length c] 25)).alloc (.cells #[.int .i64 0, .slice none 0 0] 25)) w' → w'.cell? ⟨w.heap.size, 1, none⟩ = some (.slice (some ⟨b9, o9, none⟩) ns.length c) := fun w' hC => (b.out.ext hC).at2.2.1
    have hq2 : ∀ w', Ext ((w.alloc (.cells #[.int .i64 v, .slice (some ⟨b9, o9, none⟩) ns.length c] 25)).alloc (.cells #[.int .i64 0, .slice none 0 0] 25)) w' → w'.cell? ⟨b9, o9 + k * 3 + 1, none⟩ = some (.slice B1 xl.length d1) := fun w' hC => ext_cell hC c1'
    have hq3 : ∀ w', Ext ((w.alloc (.cells #[.int .i64 v, .slice (some ⟨b9, o9, none⟩) ns.length c] 25)).alloc (.cells #[.int .i64 0, .slice none 0 0] 25)) w' → w'.cell? ⟨b9, o9 + k1 * 3 + 1, none⟩ = some (.slice B2 yl.length d2) := fun w' hC => ext_cell hC e1''
    simp only at hne
    have hd : ((xl.length : Int) == (yl.length : Int)) = true := by simp; omega
    have hd' : (xl.length == yl.length) = true := by simp; omega
    replace hne := hide hne
    replace hok := hide hok
    have hcl : ∀ w', Ext ((w.alloc (.cells #[.int .i64 v, .slice (some ⟨b9, o9, none⟩) ns.length c] 25)).alloc (.cells #[.int .i64 0, .slice none 0 0] 25)) w' → Calls Alt.prog 35 #[.agg #[.int .i64 v, .slice (some ⟨b9, o9, none⟩) ns.length c], .int .i64 (k : Int)] w' (fun e w'' => e = .returned (.bool true) ∧ Ext ((w.alloc (.cells #[.int .i64 v, .slice (some ⟨b9, o9, none⟩) ns.length c] 25)).alloc (.cells #[.int .i64 0, .slice none 0 0] 25)) w'') := fun w' hC =>
      (linkAt_yes c v k (h.out.ext hC) hb hlk.out).mono fun e w'' ⟨f1, f2⟩ => ⟨f1, ext_trans hC f2⟩
    go_enter Alt.func13, Try.ntmps13
    go_wp2_with fail
    refine wp_region_quietE (by kernel_rfl) (by kernel_rfl) ?_
    repeat (
      refine QW.step (fun K hK => ?_)
      go_simp
      first
      | (refine hK _ ?_; clear hK K)
      | (apply Exists.intro
         refine ⟨fun w5 hC => ?_, hK _ ?_⟩
         · first
           | rfl
           | exact hcl w5 hC
           | (simp only [hq0 w5 hC, hq1 w5 hC, hq2 w5 hC, hq3 w5 hC, Result.andThen_ok, true_and]; rfl)
         clear hK K))
    refine QW.nil ?_
    intro w1 hF
    replace hE := hide (ext_trans hE.out hF)
    have r1 := hide (r.out.ext hF)
    clear hF r b h hW hq0 hq1 hq2 hq3 hcl
    try clear r1_0 r1_1 r1_lt r1_f0 r1_f1
    obtain ⟨r1_0, r1_1, r1_lt, r1_f0, r1_f1⟩ := r1.out.at2f
    go_wp2_with fail
    refine bodyPost_ret (v := .tuple #[.agg #[.int .i64 0, .slice none 0 0], .bool false]) (by simp [results, Try.results13, go_sem, r1_0, r1_1]) rfl ?_
    exact gotChB_zero rfl rfl rfl ((hE.out.setCell (Nat.le_succ _) _).setCell (Nat.le_succ _) _)
  · replace hno := hide hno
    replace hlk := hide hlk
    have hq0 : ∀ w', Ext ((w.alloc (.cells #[.int .i64 v, .slice A ns.length c] 25)).alloc (.cells #[.int .i64 0, .slice none 0 0] 25)) w' → w'.cell? ⟨w.heap.size, 0, none⟩ = some (.int .i64 v) := fun w' hC => (b.out.ext hC).at2.1
    have hq1 : ∀ w', Ext ((w.alloc (.cells #[.int .i64 v, .slice A ns.length c] 25)).alloc (.cells #[.int .i64 0, .slice none 0 0] 25)) w' → w'.cell? ⟨w.heap.size, 1, none⟩ = some (.slice A ns.length c) := fun w' hC => (b.out.ext hC).at2.2.1
    have hcl : ∀ w', Ext ((w.alloc (.cells #[.int .i64 v, .slice A ns.length c] 25)).alloc (.cells #[.int .i64 0, .slice none 0 0] 25)) w' → Calls Alt.prog 35 #[.agg #[.int .i64 v, .slice A ns.length c], .int .i64 at_] w' (fun e w'' => e = .returned (.bool false) ∧ Ext ((w.alloc (.cells #[.int .i64 v, .slice A ns.length c] 25)).alloc (.cells #[.int .i64 0, .slice none 0 0] 25)) w'') := fun w' hC =>
      (linkAt_no c v at_ (h.out.ext hC) hb (.inr trivial) hlk.out).mono fun e w'' ⟨f1, f2⟩ => ⟨f1, ext_trans hC f2⟩
    go_enter Alt.func13, Try.ntmps13
    go_wp2_with fail
    refine wp_region_quietE (by kernel_rfl) (by kernel_rfl) ?_
    repeat (
      refine QW.step (fun K hK => ?_)
      go_simp
      first
      | (refine hK _ ?_; clear hK K)
      | (apply Exists.intro
         refine ⟨fun w5 hC => ?_, hK _ ?_⟩
         · first
           | rfl
           | exact hcl w5 hC
           | (simp only [hq0 w5 hC, hq1 w5 hC, Result.andThen_ok, true_and]; rfl)
         clear hK K))
    refine QW.nil ?_
    intro w1 hF
    replace hE := hide (ext_trans hE.out hF)
    have r1 := hide (r.out.ext hF)
    clear hF r b h hW hq0 hq1 hcl
    try clear r1_0 r1_1 r1_lt r1_f0 r1_f1
    obtain ⟨r1_0, r1_1, r1_lt, r1_f0, r1_f1⟩ := r1.out.at2f
    go_wp2_with fail
    refine bodyPost_ret (v := .tuple #[.agg #[.int .i64 0, .slice none 0 0], .bool false]) (by simp [results, Try.results13, go_sem, r1_0, r1_1]) rfl ?_
    exact gotChB_zero rfl rfl rfl ((hE.out.setCell (Nat.le_succ _) _).setCell (Nat.le_succ _) _)
end Go.Proofs.YtciekjplhbimdaaZ
