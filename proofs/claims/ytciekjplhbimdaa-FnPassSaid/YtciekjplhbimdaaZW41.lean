/-
  The walk of the law FnPass over the turned program: it returns true for every input, and leaves its arguments as they were.
-/
import Derived.Test.YtciekjplhbimdaaZCDraw6
import Derived.Test.YtciekjplhbimdaaZChain13
import Derived.Test.YtciekjplhbimdaaZChain14
import Derived.Test.YtciekjplhbimdaaZCExact2
import Derived.Test.YtciekjplhbimdaaZQE
import Derived.Test.YtciekjplhbimdaaZSame
set_option linter.all false
set_option maxRecDepth 100000
namespace Go.Proofs.YtciekjplhbimdaaZ
open Go.RowKit
attribute [local go_sem ↓] Go.wp_at_zero Go.wp_at_succ

set_option maxHeartbeats 6400000 in
theorem fnPass.walk (a0 : Option Addr) (n0 c0 : Nat) (w : World) (w0 : CodeR w a0 n0 c0) :
    Calls Alt.prog 4 #[.slice a0 n0 c0] w fun e w' => e = .returned (.bool true) ∧ Below w.heap.size w w' := by
  have hm : n0 ≤ 9223372036854775807 := by have := w0.1; have := w0.2.1; unfold maxLen at this; omega
  by_cases hn : 1048576 < n0
  · go_enter Alt.func4, Try.ntmps4
    go_wp2
    go_ret
    exact ⟨rfl, ext_refl _⟩
  · go_enter Alt.func4, Try.ntmps4
    go_wp2_with fail
    refine (drawChainPass_any w0).mono ?_
    rintro e w1 ⟨A, c, v, ns, at_, rfl, hl1, hl5, hlow, hlc, hcm, hN, hE⟩
    replace hE := hide hE
    have hb := hlow.bulk hl5
    obtain ⟨rv, rl, rb, hs⟩ := passRes_ex v ns at_
    have hms := passRes_small hs
    replace hs := hide hs
    replace hlow := hide hlow
    have P := hide (Blk.newAt (w1) 25 #[.int .i64 v, .slice A ns.length c] (g := (w1).heap.size) (by simp))
    replace hN := hide (hN.out.ext (ext_alloc (ext_refl (w1)) (.cells #[.int .i64 v, .slice A ns.length c] 25)))
    replace hE := hide (ext_alloc hE.out (.cells #[.int .i64 v, .slice A ns.length c] 25))
    go_wp2_with fail
    refine (implChainPass_any c v at_ hN.out hb hs.out).mono ?_
    intro e w2 hG
    obtain ⟨A2, c2, rfl, -, -, hX, hF⟩ := hG.use
    replace hX := hide hX.out.read
    clear hG
    replace hN := hide (hN.out.ext hF)
    replace P := hide (P.out.ext hF)
    try clear P_0 P_1 P_lt
    obtain ⟨P_0, P_1, P_lt⟩ := P.out.at2
    replace hE := hide (ext_trans hE.out hF)
    clear hF
    have X := hide (Blk.newAt (w2) 25 #[.int .i64 rv, .slice A2 rl.length c2] (g := (w2).heap.size) (by simp))
    replace hN := hide (hN.out.ext (ext_alloc (ext_refl (w2)) (.cells #[.int .i64 rv, .slice A2 rl.length c2] 25)))
    replace hX := hide (hX.out.ext (ext_alloc (ext_refl (w2)) (.cells #[.int .i64 rv, .slice A2 rl.length c2] 25)))
    replace P := hide (P.out.ext (ext_alloc (ext_refl (w2)) (.cells #[.int .i64 rv, .slice A2 rl.length c2] 25)))
    replace hE := hide (ext_alloc hE.out (.cells #[.int .i64 rv, .slice A2 rl.length c2] 25))
    go_wp2_with fail
    refine (specChainPass_any c v at_ hN.out hb hlc hs.out).mono ?_
    intro e w3 hG
    obtain ⟨A3, c3, rfl, -, -, hY, hF⟩ := hG.use
    replace hY := hide hY.out.read
    clear hG
    replace hN := hide (hN.out.ext hF)
    replace hX := hide (hX.out.ext hF)
    replace P := hide (P.out.ext hF)
    replace X := hide (X.out.ext hF)
    try clear P_0 P_1 P_lt
    obtain ⟨P_0, P_1, P_lt⟩ := P.out.at2
    try clear X_0 X_1 X_lt
    obtain ⟨X_0, X_1, X_lt⟩ := X.out.at2
    replace hE := hide (ext_trans hE.out hF)
    clear hF
    have Y := hide (Blk.newAt (w3) 25 #[.int .i64 rv, .slice A3 rl.length c3] (g := (w3).heap.size) (by simp))
    replace hN := hide (hN.out.ext (ext_alloc (ext_refl (w3)) (.cells #[.int .i64 rv, .slice A3 rl.length c3] 25)))
    replace hX := hide (hX.out.ext (ext_alloc (ext_refl (w3)) (.cells #[.int .i64 rv, .slice A3 rl.length c3] 25)))
    replace hY := hide (hY.out.ext (ext_alloc (ext_refl (w3)) (.cells #[.int .i64 rv, .slice A3 rl.length c3] 25)))
    replace P := hide (P.out.ext (ext_alloc (ext_refl (w3)) (.cells #[.int .i64 rv, .slice A3 rl.length c3] 25)))
    replace X := hide (X.out.ext (ext_alloc (ext_refl (w3)) (.cells #[.int .i64 rv, .slice A3 rl.length c3] 25)))
    replace hE := hide (ext_alloc hE.out (.cells #[.int .i64 rv, .slice A3 rl.length c3] 25))
    go_wp2_with fail
    refine (sameChain_same c2 c3 rv hX.out hY.out hms).mono ?_
    rintro e w4 ⟨rfl, hF⟩
    replace hN := hide (hN.out.ext hF)
    replace hX := hide (hX.out.ext hF)
    replace hY := hide (hY.out.ext hF)
    replace P := hide (P.out.ext hF)
    replace X := hide (X.out.ext hF)
    replace Y := hide (Y.out.ext hF)
    try clear P_0 P_1 P_lt
    obtain ⟨P_0, P_1, P_lt⟩ := P.out.at2
    try clear X_0 X_1 X_lt
    obtain ⟨X_0, X_1, X_lt⟩ := X.out.at2
    try clear Y_0 Y_1 Y_lt
    obtain ⟨Y_0, Y_1, Y_lt⟩ := Y.out.at2
    replace hE := hide (ext_trans hE.out hF)
    clear hF
    cases rb with
    | false =>
      go_wp2_with fail
      refine (sameChain_same c2 c3 rv hX.out hY.out hms).mono ?_
      rintro e w5 ⟨rfl, hF⟩
      replace hE := hide (ext_trans hE.out hF)
      clear hF
      go_wp2_with fail
      go_ret
      exact ⟨rfl, hE.out⟩
    | true =>
      obtain ⟨k, x, y, u, hT, hu, rfl, hrl⟩ := pass_yes hs.out
      have hok' := passAt_ok hT hu
      have hlt := (passAt_lt hT).1
      obtain ⟨hok, rfl, hx, hy, hne⟩ := hT
      rw [← hrl] at hok'
      have hlen : Hid (rl.length = ns.length) := hide (by rw [hrl]; simp)
      have hk1 := getElem_some hy
      obtain ⟨k1, hk9⟩ : ∃ k1, k1 = k + 1 := ⟨_, rfl⟩
      rw [← hk9] at hy hk1 hrl
      obtain ⟨xi, xl, xj, ex⟩ := nd_cases x
      obtain ⟨yi, yl, yj, ey⟩ := nd_cases y
      obtain ⟨ux, uy⟩ := u
      subst ex ey
      have hw1 : IntKind.i64.wrap ((k : Int) + 1) = (k1 : Int) := by rw [show ((k : Int) + 1) = (k1 : Int) by omega]; exact IntWalk.i64_in _ (by omega)
      have hi3 : (0 : Int) ≤ (k1 : Int) := by omega
      have hi4 : (k1 : Int) < (ns.length : Int) := by omega
      simp only at hlt hu
      obtain ⟨b, o, _, _, _, B1, d1, hA1, hbl1, hn1, hld1, hdm1, hB1, -, -, -, c1, -⟩ := node_at hN.out hk1
      subst hA1
      rw [hy] at hn1
      cases hn1
      replace hok' := hide hok'
      replace hrl := hide hrl
      replace hx := hide hx
      replace hy := hide hy
      replace hk9 := hide hk9
      replace hu := hide hu
      replace hlt := hide hlt
      clear hs hY Y Y_0 Y_1 Y_lt hok hne hB1
      go_wp2_with fail
      clear c1
      go_loopw [10] (fun i wr => ∃ i0 : Nat, i0 ≤ ns.length ∧ i = .int .i64 i0 ∧ Hid (Ext w4 wr)) (fun i _ => ns.length - (intOf i).toNat)
      case atStart => exact ⟨0, Nat.zero_le _, rfl, hide (ext_refl _)⟩
      case round =>
        obtain ⟨i, hi, rfl, hR⟩ := hrel
        have bP := hide (P.out.ext hR.out)
        have bX := hide (X.out.ext hR.out)
        try clear bP_0 bP_1 bP_lt
        obtain ⟨bP_0, bP_1, bP_lt⟩ := bP.out.at2
        try clear bX_0 bX_1 bX_lt
        obtain ⟨bX_0, bX_1, bX_lt⟩ := bX.out.at2
        by_cases hli : i < ns.length
        · have hd : decide ((i : Int) < (ns.length : Int)) = true := by simp; omega
          have hNk := hN.out.ext hR.out
          have hXk := hX.out.ext hR.out
          have q0 : ∀ w', Ext wr w' → w'.cell? ⟨w1.heap.size, 1, none⟩ = some (.slice (some ⟨b, o, none⟩) ns.length c) := fun w' hC => ext_cell hC bP_1
          by_cases hik : i = k1
          · subst hik
            have hne : ((i : Int) != (i : Int)) = false := by simp
            clear hNk hXk
            go_wp2_with fail
            refine wp_region_quietE (by kernel_rfl) (by kernel_rfl) ?_
            repeat (
              refine QW.step (fun K hK => ?_)
              go_simp
              first
              | (refine hK _ ?_; clear hK K)
              | (apply Exists.intro
                 refine ⟨fun w5 hC => ?_, hK _ ?_⟩
                 · first
                   | rfl
                   | (simp only [q0 w5 hC, Result.andThen_ok, true_and]; rfl)
                 clear hK K))
            refine QW.nil ?_
            intro w1 hF
            replace hF := hide (ext_trans hR.out hF)
            clear q0
            go_wp2_with fail
            go_roundw
            case rel => exact ⟨i + 1, by omega, by go_num, hF⟩
            case measure => simp [intOf]; omega
          · have hne : ((i : Int) != (k1 : Int)) = true := by simp; omega
            obtain ⟨b7, o7, x1, l1, j1, B1, d1, hA1, hbl1, hn1, hld1, hdm1, hB1, e0, -, -, e1, e2⟩ := node_at hNk hli
            obtain ⟨b2, o2, x2, l2, j2, B2, d2, hA2, hbl2, hn2, hld2, hdm2, hB2, f0, -, -, f1, f2⟩ := node_at hXk (i := i) (by have := hlen.out; omega)
            cases hA1
            subst hA2
            rw [hrl.out, set_off (by omega), hn1] at hn2
            cases hn2
            have hlm : l1.length ≤ 1048576 := bulk_of hb hn1
            have hi0 : (0 : Int) ≤ (i : Int) := by omega
            have hi1 : (i : Int) < (ns.length : Int) := by omega
            have hi2 : (i : Int) < (rl.length : Int) := by have := hlen.out; omega
            have q1 : ∀ w', Ext wr w' → w'.cell? ⟨w2.heap.size, 1, none⟩ = some (.slice (some ⟨b2, o2, none⟩) rl.length c2) := fun w' hC => ext_cell hC bX_1
            have q2 : ∀ w', Ext wr w' → w'.cell? ⟨b, o + i * 3, none⟩ = some (.int .i64 x1) := fun w' hC => ext_cell hC e0
            have q3 : ∀ w', Ext wr w' → w'.cell? ⟨b, o + i * 3 + 1, none⟩ = some (.slice B1 l1.length d1) := fun w' hC => ext_cell hC e1
            have q4 : ∀ w', Ext wr w' → w'.cell? ⟨b, o + i * 3 + 2, none⟩ = some (.int .i64 j1) := fun w' hC => ext_cell hC e2
            have q5 : ∀ w', Ext wr w' → w'.cell? ⟨b2, o2 + i * 3, none⟩ = some (.int .i64 x1) := fun w' hC => ext_cell hC f0
            have q6 : ∀ w', Ext wr w' → w'.cell? ⟨b2, o2 + i * 3 + 1, none⟩ = some (.slice B2 l1.length d2) := fun w' hC => ext_cell hC f1
            have q7 : ∀ w', Ext wr w' → w'.cell? ⟨b2, o2 + i * 3 + 2, none⟩ = some (.int .i64 j1) := fun w' hC => ext_cell hC f2
            have hcn : ∀ w', Ext wr w' → Calls Alt.prog 19 #[.agg #[.int .i64 x1, .slice B2 l1.length d2, .int .i64 j1], .agg #[.int .i64 x1, .slice B1 l1.length d1, .int .i64 j1]] w' (fun e w'' => e = .returned (.bool true) ∧ Ext wr w'') := fun w' hC =>
              (sameNode_sm d2 d1 x1 j1 (hB2.ext hC) (hB1.ext hC) hlm).mono fun e w'' ⟨f1, f2⟩ => ⟨f1, ext_trans hC f2⟩
            replace hn1 := hide hn1
            clear hNk hXk hB1 hB2 e0 e1 e2 f0 f1 f2
            go_wp2_with fail
            refine wp_region_quietE (by kernel_rfl) (by kernel_rfl) ?_
            repeat (
              refine QW.step (fun K hK => ?_)
              go_simp
              first
              | (refine hK _ ?_; clear hK K)
              | (apply Exists.intro
                 refine ⟨fun w5 hC => ?_, hK _ ?_⟩
                 · first
                   | rfl
                   | exact hcn w5 hC
                   | (simp only [q0 w5 hC, q1 w5 hC, q2 w5 hC, q3 w5 hC, q4 w5 hC, q5 w5 hC, q6 w5 hC, q7 w5 hC, Result.andThen_ok, true_and]; rfl)
                 clear hK K))
            refine QW.nil ?_
            intro w1 hF
            replace hF := hide (ext_trans hR.out hF)
            clear q0 q1 q2 q3 q4 q5 q6 q7 hcn
            go_wp2_with fail
            go_roundw
            case rel => exact ⟨i + 1, by omega, by go_num, hF⟩
            case measure => simp [intOf]; omega
        · have hd : decide ((i : Int) < (ns.length : Int)) = false := by simp; omega
          have hNk := hN.out.ext hR.out
          have hXk := hX.out.ext hR.out
          have hk8 : k < ns.length := getElem_some hx.out
          have hyy : rl[k1]? = some (passed ns k ⟨yi, yl, yj⟩ (ux, uy)) := by rw [hrl.out]; exact set_at hy.out
          obtain ⟨pi, pl, pj, hpe⟩ := nd_cases (passed ns k ⟨yi, yl, yj⟩ (ux, uy))
          have hpl : pl = yl ++ [(ux, uy)] := by have := congrArg Nd.log hpe; simpa [passed] using this.symm
          have hpn : pl.length = yl.length + 1 := by rw [hpl]; simp
          rw [hpe] at hyy
          obtain ⟨b7, o7, _, _, _, B3, d3, hA3, hbl3, hn3, hld3, hdm3, hB3, -, -, -, f1, -⟩ := node_at hNk hk8
          obtain ⟨b2, o2, _, _, _, B2, d2, hA2, hbl2, hn2, hld2, hdm2, hB2, -, -, -, e1, -⟩ := node_at hXk (i := k1) (by have := hlen.out; omega)
          cases hA3
          subst hA2
          rw [hx.out] at hn3
          rw [hyy] at hn2
          cases hn3
          cases hn2
          obtain ⟨b5, o5, rfl, -, g0, g1⟩ := hB3.at_ hlt.out
          obtain ⟨b6, o6, rfl, -, h0, h1⟩ := hB2.at_ (i := yl.length) (by omega)
          have hgx : xl[yl.length]'hlt.out = (ux, uy) := by have := hu.out; rw [List.getElem?_eq_getElem hlt.out] at this; exact Option.some.inj this
          have hgp : pl[yl.length]'(by omega) = (ux, uy) := by simp [hpl]
          rw [hgx] at g0 g1
          rw [hgp] at h0 h1
          simp only at g0 g1 h0 h1
          rw [← Nat.add_assoc] at g1 h1
          obtain ⟨m9, hm9⟩ : ∃ m9, yl.length + 1 = m9 := ⟨_, rfl⟩
          rw [hpn, hm9] at e1
          have hi0 : (0 : Int) ≤ (k : Int) := by omega
          have hi1 : (k : Int) < (ns.length : Int) := by omega
          have hi2 : (k1 : Int) < (rl.length : Int) := by have := hlen.out; omega
          have hj0 : (0 : Int) ≤ (yl.length : Int) := by omega
          have hj1 : (yl.length : Int) < (xl.length : Int) := by have := hlt.out; omega
          have hj2 : (yl.length : Int) < (m9 : Int) := by omega
          have hx12 : xl.length ≤ 1048576 := bulk_of hb hx.out
          have hwm : IntKind.i64.wrap ((yl.length : Int) + 1) = (m9 : Int) := by rw [show ((yl.length : Int) + 1) = (m9 : Int) by omega]; exact IntWalk.i64_in _ (by have := hlt.out; omega)
          have q0 : ∀ w', Ext wr w' → w'.cell? ⟨w1.heap.size, 1, none⟩ = some (.slice (some ⟨b, o, none⟩) ns.length c) := fun w' hC => ext_cell hC bP_1
          have q1 : ∀ w', Ext wr w' → w'.cell? ⟨w2.heap.size, 1, none⟩ = some (.slice (some ⟨b2, o2, none⟩) rl.length c2) := fun w' hC => ext_cell hC bX_1
          have q9 : ∀ w', Ext wr w' → w'.cell? ⟨w2.heap.size, 0, none⟩ = some (.int .i64 rv) := fun w' hC => ext_cell hC bX_0
          have q2 : ∀ w', Ext wr w' → w'.cell? ⟨b, o + k * 3 + 1, none⟩ = some (.slice (some ⟨b5, o5, none⟩) xl.length d3) := fun w' hC => ext_cell hC f1
          have q3 : ∀ w', Ext wr w' → w'.cell? ⟨b2, o2 + k1 * 3 + 1, none⟩ = some (.slice (some ⟨b6, o6, none⟩) m9 d2) := fun w' hC => ext_cell hC e1
          have q4 : ∀ w', Ext wr w' → w'.cell? ⟨b5, o5 + yl.length * 2, none⟩ = some (.int .i64 ux) := fun w' hC => ext_cell hC g0
          have q5 : ∀ w', Ext wr w' → w'.cell? ⟨b5, o5 + yl.length * 2 + 1, none⟩ = some (.int .i64 uy) := fun w' hC => ext_cell hC g1
          have q6 : ∀ w', Ext wr w' → w'.cell? ⟨b6, o6 + yl.length * 2, none⟩ = some (.int .i64 ux) := fun w' hC => ext_cell hC h0
          have q7 : ∀ w', Ext wr w' → w'.cell? ⟨b6, o6 + yl.length * 2 + 1, none⟩ = some (.int .i64 uy) := fun w' hC => ext_cell hC h1
          have hcl : ∀ w', Ext wr w' → Calls Alt.prog 15 #[.agg #[.int .i64 rv, .slice (some ⟨b2, o2, none⟩) rl.length c2]] w' (fun e w'' => e = .returned (.bool true) ∧ Ext wr w'') := fun w' hC =>
            (implChainValid_yes c2 rv (hXk.ext hC) hms hok'.out).mono fun e w'' ⟨f1, f2⟩ => ⟨f1, ext_trans hC f2⟩
          replace hyy := hide hyy
          replace hpe := hide hpe
          replace hpl := hide hpl
          replace hpn := hide hpn
          replace hm9 := hide hm9
          replace hgx := hide hgx
          replace hgp := hide hgp
          clear hNk hXk hB3 hB2 f1 e1 g0 g1 h0 h1
          replace hE := hide (ext_trans hE.out hR.out)
          go_wp2_with fail
          refine wp_region_quietE (by kernel_rfl) (by kernel_rfl) ?_
          repeat (
            refine QW.step (fun K hK => ?_)
            go_simp
            first
            | (refine hK _ ?_; clear hK K)
            | (apply Exists.intro
               refine ⟨fun w5 hC => ?_, hK _ ?_⟩
               · first
                 | rfl
                 | exact hcl w5 hC
                 | (simp only [q0 w5 hC, q1 w5 hC, q9 w5 hC, q2 w5 hC, q3 w5 hC, q4 w5 hC, q5 w5 hC, q6 w5 hC, q7 w5 hC, Result.andThen_ok, true_and]; rfl)
               clear hK K))
          refine QW.nil ?_
          intro w1 hF
          replace hE := hide (ext_trans hE.out hF)
          clear q0 q1 q2 q3 q4 q5 q6 q7 q9 hcl
          go_wp2_with fail
          go_ret
          exact ⟨rfl, hE.out⟩
end Go.Proofs.YtciekjplhbimdaaZ
