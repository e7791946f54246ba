/-
  Contracts: the draws of the laws on chains.
-/
import Derived.Test.YtciekjplhbimdaaCDraw3
import Derived.Test.YtciekjplhbimdaaCDraw4
set_option linter.all false
set_option maxRecDepth 100000
namespace Go.Proofs.Ytciekjplhbimdaa
open Go.RowKit
attribute [local go_sem ↓] Go.wp_at_zero Go.wp_at_succ



/-- At the head of the loop that makes a chain quiet. -/
def QuietTo (w : World) (b g P q : Nat) (v : Int) (gA c n : Nat) (W : World) : Prop :=
  ∃ hi ns, ns.length = n ∧ CF w b g P q hi v (some ⟨gA, 0, none⟩) c ns W
set_option maxHeartbeats 6400000 in
theorem drawChainQuiet_any {A : Option Addr} {n c : Nat} {w : World} (h : CodeR w A n c) : Calls Try.prog 10 #[.slice A n c] w (GotC w) := by
  obtain ⟨iU, hiU, zU0, zU1, zU2⟩ := info_parts infoU'
  go_enter Try.func10, Try.ntmps10
  go_wp2_with fail
  refine (l6Open_any (h.alloc _)).mono ?_
  rintro e w1 ⟨rfl, hE, hr⟩
  simp only [World.size_alloc] at hE hr ⊢
  have hR := hide ((Blk.new w 25 #[.int .i64 0, .slice none 0 0]).ext (by exact hE))
  replace hE := hide (ext_trans (ext_alloc (ext_refl w) _) hE)
  have s1 := hr.lt
  go_wp2_with fail
  refine (l91Chain_any hr (by omega)).mono ?_
  rintro e w2 ⟨A2, c2, v, ns, rfl, h1, h5, hlow, hN, hg, hr2⟩
  have hC := hide (cf_start (v := v) (hR.out.grown hg (by simp)) hN hg hr2 (by omega) s1 (by omega) (low_of hlow))
  clear hg hr hR hN hr2 hlow
  go_wp2_with fail
  refine (pick2_any hC.out.rd (by omega)).mono ?_
  rintro e w3 ⟨y, hy, rfl, hg, hr⟩
  replace hC := hide (hC.out.pick hg hr)
  clear hg hr hy
  obtain ⟨gA, rfl, -, -, -⟩ := hC.out.nodes.addr (by omega)
  obtain ⟨m, hm⟩ : ∃ m, ns.length = m := ⟨_, rfl⟩
  by_cases y0 : y = 0
  · subst y0
    have hst := hide (show QuietTo w1 w.heap.size (w.heap.size + 1) (0 + 90 + 1) w2.heap.size v gA c2 m w3 from ⟨_, ns, hm, hC.out⟩)
    rw [hm] at h1 h5
    replace hm := hide hm
    clear hC
    go_wp2_with fail
    go_loopw [5] (fun i wr => ∃ k : Nat, k ≤ m ∧ i = .int .i64 k ∧ Hid (QuietTo w1 w.heap.size (w.heap.size + 1) (0 + 90 + 1) w2.heap.size v gA c2 m wr)) (fun i _ => m - (intOf i).toNat)
    case atStart => exact ⟨0, Nat.zero_le _, rfl, hst⟩
    case round =>
      obtain ⟨k, hk, rfl, hT⟩ := hrel
      obtain ⟨hi, ns', hnk, hCF⟩ := hT.out
      replace hnk := hide hnk
      replace hCF := hide hCF
      obtain ⟨q_0, q_1, q_lt, q_f0, q_f1⟩ := hCF.out.chain.at2f
      rw [hnk.out] at q_1
      by_cases hlt : k < m
      · have hd : decide ((k : Int) < (m : Int)) = true := by simp; omega
        have hi0 : (0 : Int) ≤ (k : Int) := by omega
        have hi1 : (k : Int) < (m : Int) := by omega
        have hi2 : (0 : Int) < (m : Int) := by omega
        have hi3 : 0 < m := by omega
        go_wp2_with fail
        go_cut [] (fun wx => Hid (QuietTo w1 w.heap.size (w.heap.size + 1) (0 + 90 + 1) w2.heap.size v gA c2 m wx))
        case first =>
          obtain ⟨x, l, j, hn⟩ : ∃ x l j, ns'[k]? = some ⟨x, l, j⟩ := by
            have := hnk.out
            obtain ⟨x, l, j, e⟩ := nd_cases (ns'[k]'(by omega))
            exact ⟨x, l, j, by rw [List.getElem?_eq_getElem (by omega), e]⟩
          obtain ⟨b0, o0, x0, l0, j0, B, d, hA, hbl0, hn0, hld0, hdm0, hBr, f0, f1, f2, f1', f2'⟩ := node_at hCF.out.nodes.read (i := 0) (by have := hnk.out; omega)
          cases hA
          simp only [Nat.zero_add, Nat.zero_mul] at f0 f1 f2
          have hl13 : l0.length ≤ 13 := hCF.out.low _ _ hn0
          have hE7 : Ext wr (wr.alloc (.cells #[] 39)).drew := ext_drew (ext_alloc (ext_refl wr) _)
          have hC7 := hide ((hCF.out.ext hE7).wide (hi' := wr.heap.size) hCF.out.hiW hE7.size)
          have hcs := hide (hBr.ext hE7)
          have hown7 := hide (show (wr.alloc (.cells #[] 39)).drew.ownsRow wr.heap.size 39 2 (.slice (some ⟨wr.heap.size, 0, none⟩) 0 0) 0 [] from made_at (w := wr) rfl (Nat.le_refl _))
          have hone : Hid (∀ u ∈ ucells l0, u.oneCell' = true) := hide (ucells_one _)
          have hlen : Hid ((ucells l0).length = l0.length * 2) := hide (ucells_len _)
          have hmx : Hid (0 + l0.length ≤ maxLen) := hide (by unfold maxLen; omega)
          have hby : Hid ((0 + l0.length) * 16 ≤ 140737488355328) := hide (by omega)
          obtain ⟨⟨u5, hu5⟩, hf5⟩ := hCF.out.nodes.cellsAt (j := k * 3 + 1) (by have := hnk.out; omega)
          have h2 : 0 < 2 := by decide
          replace hn := hide hn
          replace hn0 := hide hn0
          replace hE7 := hide hE7
          clear hBr f1' f2' hT
          go_region_law (
            refine step_append_cells rfl (.tmp 23) (.tmp 28) 34 rfl wr.heap.size 39 iU _ 2 16 Try.underlying34 hiU zU0 zU1 zU2 rfl h2 (.slice (some ⟨wr.heap.size, 0, none⟩) 0 0) 0 [] rfl hown7.out B l0.length d (ucells l0) rfl hlen.out hcs.out hone.out hmx.out hby.out (own_le hown7.out) ?_
            intro v8 wz hv8 hg8 hat8
            obtain ⟨A8, c8, rfl, -, -⟩ := own_form hv8
            have hlog8 := hide (cut_in rfl hv8)
            have hC8 := hide (hC7.out.fresh (Turned.of_row hg8 (fun i hi => ⟨(hown7.out.lt i hi).1, (hown7.out.lt i hi).2⟩)) (Nat.le_refl _))
            obtain ⟨z_0, z_1, z_lt, z_f0, z_f1⟩ := hC8.out.chain.at2f
            rw [hnk.out] at z_1
            obtain ⟨⟨u9, hu9⟩, hf9⟩ := hC8.out.nodes.cellsAt (j := k * 3 + 1) (by have := hnk.out; omega)
            have hC9 := hide (hC8.out.setLog hn.out hlog8.out hC8.out.hiW (Nat.le_refl _) hl13)
            clear hv8 hg8 hat8
            skip)
          all_goals go_wp2_with fail
          all_goals go_meet
          all_goals exact hide ⟨_, ns'.set k ⟨x, l0, j⟩, by have := hnk.out; simpa using this, by simpa using hC9.out⟩
        case rest =>
          obtain ⟨hi, ns', hnk, hCF⟩ := hcut.out
          replace hnk := hide hnk
          replace hCF := hide hCF
          obtain ⟨q_0, q_1, q_lt, q_f0, q_f1⟩ := hCF.out.chain.at2f
          rw [hnk.out] at q_1
          obtain ⟨x, l, j, hn⟩ : ∃ x l j, ns'[k]? = some ⟨x, l, j⟩ := by
            have := hnk.out
            obtain ⟨x, l, j, e⟩ := nd_cases (ns'[k]'(by omega))
            exact ⟨x, l, j, by rw [List.getElem?_eq_getElem (by omega), e]⟩
          obtain ⟨b0, o0, x0, l0, j0, B, d, hA, hbl0, hn0, hld0, hdm0, hBr, f0, f1, f2, f1', f2'⟩ := node_at hCF.out.nodes.read (i := 0) (by have := hnk.out; omega)
          cases hA
          simp only [Nat.zero_add, Nat.zero_mul] at f0 f1 f2
          obtain ⟨⟨u5, hu5⟩, hf5⟩ := hCF.out.nodes.cellsAt (j := k * 3 + 2) (by have := hnk.out; omega)
          have hC3 := hide ((hCF.out.ext (show Ext wc wc.drew from ext_drew (ext_refl wc))).setDone (y := l0.length) hn)
          have hst' := hide (show QuietTo w1 w.heap.size (w.heap.size + 1) (0 + 90 + 1) w2.heap.size v gA c2 m (wc.drew.setCell ⟨gA, k * 3 + 2, none⟩ (.int .i64 l0.length)) from ⟨_, _, by have := hnk.out; simpa using this, hC3.out⟩)
          replace hn := hide hn
          clear hBr f1' f2' hT hC3
          go_wp2_with fail
          go_region
          all_goals go_wp2_with fail
          all_goals go_roundw
          all_goals first
            | exact ⟨k + 1, by omega, by go_num, hst'⟩
            | (simp [intOf]; omega)
      · obtain rfl : k = m := by omega
        have hd : decide ((k : Int) < (k : Int)) = false := by simp
        obtain ⟨r_0, r_1, r_lt, r_f0, r_f1⟩ := hCF.out.back.at2f
        go_wp2_with fail
        refine bodyPost_ret (v := .agg #[.int .i64 v, .slice (some ⟨gA, 0, none⟩) k c2]) (by simp [results, Try.results10, go_sem, r_0, r_1, r_lt]) rfl ?_
        have e9 := hnk.out.symm
        subst e9
        exact hCF.out.fin hE.out (Nat.le_refl _) (by omega) h1 h5 _ _
  · have y0' : (((y : Nat) : Int) == 0) = false := by simp; omega
    obtain ⟨q_0, q_1, q_lt, q_f0, q_f1⟩ := hC.out.chain.at2f
    obtain ⟨r_0, r_1, r_lt, r_f0, r_f1⟩ := hC.out.back.at2f
    clear hm
    go_wp2_with fail
    refine bodyPost_ret (v := .agg #[.int .i64 v, .slice (some ⟨gA, 0, none⟩) ns.length c2]) (by simp [results, Try.results10, go_sem, r_0, r_1, r_lt]) rfl ?_
    exact hC.out.fin hE.out (Nat.le_refl _) (by omega) h1 h5 _ _

end Go.Proofs.Ytciekjplhbimdaa
