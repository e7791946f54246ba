/-
  The walk of the law FnPassWhen over the turned program: it returns true for every input, and leaves its arguments as they were.
-/
import Derived.Test.YtciekjplhbimdaaZCDraw7
import Derived.Test.YtciekjplhbimdaaZChain13
import Derived.Test.YtciekjplhbimdaaZChain14
import Derived.Test.YtciekjplhbimdaaZCExact2
import Derived.Test.YtciekjplhbimdaaZQE
import Derived.Test.YtciekjplhbimdaaZSame
set_option linter.all false
set_option maxRecDepth 100000
namespace Go.Proofs.YtciekjplhbimdaaZ
open Go.RowKit
attribute [local go_sem ↓] Go.wp_at_zero Go.wp_at_succ

set_option maxHeartbeats 6400000 in
theorem fnPassWhen.walk (a0 : Option Addr) (n0 c0 : Nat) (w : World) (w0 : CodeR w a0 n0 c0) :
    Calls Alt.prog 5 #[.slice a0 n0 c0] w fun e w' => e = .returned (.bool true) ∧ Below w.heap.size w w' := by
  have hm : n0 ≤ 9223372036854775807 := by have := w0.1; have := w0.2.1; unfold maxLen at this; omega
  by_cases hn : 1048576 < n0
  · go_enter Alt.func5, Try.ntmps5
    go_wp2
    go_ret
    exact ⟨rfl, ext_refl _⟩
  · go_enter Alt.func5, Try.ntmps5
    go_wp2_with fail
    refine (drawChainPass_anyB w0).mono ?_
    rintro e w1 ⟨A, c, v, ns, at_, rfl, hl1, hl5, hlow, hlc, hcm, hN, hE, hat⟩
    replace hE := hide hE
    have hwz : IntKind.i64.wrap (at_ + 1) = at_ + 1 := IntWalk.i64_in _ (by omega)
    replace hat := hide hat
    have hb := hlow.bulk hl5
    obtain ⟨rv, rl, rb, hs⟩ := passRes_ex v ns at_
    have hms := passRes_small hs
    replace hs := hide hs
    replace hlow := hide hlow
    have P := hide (Blk.newAt (w1) 25 #[.int .i64 v, .slice A ns.length c] (g := (w1).heap.size) (by simp))
    replace hN := hide (hN.out.ext (ext_alloc (ext_refl (w1)) (.cells #[.int .i64 v, .slice A ns.length c] 25)))
    replace hE := hide (ext_alloc hE.out (.cells #[.int .i64 v, .slice A ns.length c] 25))
    go_wp2_with fail
    refine (implChainPass_any c v at_ hN.out hb hs.out).mono ?_
    intro e w2 hG
    obtain ⟨A2, c2, rfl, -, -, hX, hF⟩ := hG.use
    replace hX := hide hX.out.read
    clear hG
    replace hN := hide (hN.out.ext hF)
    replace P := hide (P.out.ext hF)
    try clear P_0 P_1 P_lt
    obtain ⟨P_0, P_1, P_lt⟩ := P.out.at2
    replace hE := hide (ext_trans hE.out hF)
    clear hF
    have X := hide (Blk.newAt (w2) 25 #[.int .i64 rv, .slice A2 rl.length c2] (g := (w2).heap.size) (by simp))
    replace hN := hide (hN.out.ext (ext_alloc (ext_refl (w2)) (.cells #[.int .i64 rv, .slice A2 rl.length c2] 25)))
    replace hX := hide (hX.out.ext (ext_alloc (ext_refl (w2)) (.cells #[.int .i64 rv, .slice A2 rl.length c2] 25)))
    replace P := hide (P.out.ext (ext_alloc (ext_refl (w2)) (.cells #[.int .i64 rv, .slice A2 rl.length c2] 25)))
    replace hE := hide (ext_alloc hE.out (.cells #[.int .i64 rv, .slice A2 rl.length c2] 25))
    go_wp2_with fail
    refine (specChainPass_any c v at_ hN.out hb hlc hs.out).mono ?_
    intro e w3 hG
    obtain ⟨A3, c3, rfl, -, -, hY, hF⟩ := hG.use
    replace hY := hide hY.out.read
    clear hG
    replace hN := hide (hN.out.ext hF)
    replace hX := hide (hX.out.ext hF)
    replace P := hide (P.out.ext hF)
    replace X := hide (X.out.ext hF)
    try clear P_0 P_1 P_lt
    obtain ⟨P_0, P_1, P_lt⟩ := P.out.at2
    try clear X_0 X_1 X_lt
    obtain ⟨X_0, X_1, X_lt⟩ := X.out.at2
    replace hE := hide (ext_trans hE.out hF)
    clear hF
    have Y := hide (Blk.newAt (w3) 25 #[.int .i64 rv, .slice A3 rl.length c3] (g := (w3).heap.size) (by simp))
    replace hN := hide (hN.out.ext (ext_alloc (ext_refl (w3)) (.cells #[.int .i64 rv, .slice A3 rl.length c3] 25)))
    replace hX := hide (hX.out.ext (ext_alloc (ext_refl (w3)) (.cells #[.int .i64 rv, .slice A3 rl.length c3] 25)))
    replace hY := hide (hY.out.ext (ext_alloc (ext_refl (w3)) (.cells #[.int .i64 rv, .slice A3 rl.length c3] 25)))
    replace P := hide (P.out.ext (ext_alloc (ext_refl (w3)) (.cells #[.int .i64 rv, .slice A3 rl.length c3] 25)))
    replace X := hide (X.out.ext (ext_alloc (ext_refl (w3)) (.cells #[.int .i64 rv, .slice A3 rl.length c3] 25)))
    replace hE := hide (ext_alloc hE.out (.cells #[.int .i64 rv, .slice A3 rl.length c3] 25))
    go_wp2_with fail
    refine (sameChain_same c2 c3 rv hX.out hY.out hms).mono ?_
    rintro e w4 ⟨rfl, hF⟩
    replace hN := hide (hN.out.ext hF)
    replace hX := hide (hX.out.ext hF)
    replace hY := hide (hY.out.ext hF)
    replace P := hide (P.out.ext hF)
    replace X := hide (X.out.ext hF)
    replace Y := hide (Y.out.ext hF)
    try clear P_0 P_1 P_lt
    obtain ⟨P_0, P_1, P_lt⟩ := P.out.at2
    try clear X_0 X_1 X_lt
    obtain ⟨X_0, X_1, X_lt⟩ := X.out.at2
    try clear Y_0 Y_1 Y_lt
    obtain ⟨Y_0, Y_1, Y_lt⟩ := Y.out.at2
    replace hE := hide (ext_trans hE.out hF)
    clear hF
    by_cases hok : ChOk v ns
    · replace hok := hide hok
      go_wp2_with fail
      refine (specChainValid_yes c v hN.out hb hlc hok.out).mono ?_
      rintro e w5 ⟨rfl, hF⟩
      replace hN := hide (hN.out.ext hF)
      replace hX := hide (hX.out.ext hF)
      replace hY := hide (hY.out.ext hF)
      replace P := hide (P.out.ext hF)
      replace X := hide (X.out.ext hF)
      replace Y := hide (Y.out.ext hF)
      try clear P_0 P_1 P_lt
      obtain ⟨P_0, P_1, P_lt⟩ := P.out.at2
      try clear X_0 X_1 X_lt
      obtain ⟨X_0, X_1, X_lt⟩ := X.out.at2
      try clear Y_0 Y_1 Y_lt
      obtain ⟨Y_0, Y_1, Y_lt⟩ := Y.out.at2
      replace hE := hide (ext_trans hE.out hF)
      clear hF
      by_cases h0 : at_ < 0
      · have hd0 : decide (at_ < 0) = true := by simp; omega
        have hrb : rb = false := by
          cases rb with
          | false => rfl
          | true =>
            obtain ⟨k, x, y, u, hT, -⟩ := pass_yes hs.out
            have := hT.2.1
            omega
        subst hrb
        replace h0 := hide h0
        go_wp2_with fail
        refine (sameChain_same c2 c3 rv hX.out hY.out hms).mono ?_
        rintro e w6 ⟨rfl, hF⟩
        replace hE := hide (ext_trans hE.out hF)
        clear hF
        go_wp2_with fail
        go_ret
        exact ⟨rfl, hE.out⟩
      · have hd0 : decide (at_ < 0) = false := by simp; omega
        by_cases h1 : at_ + 1 ≥ (ns.length : Int)
        · have hd1 : decide (at_ + 1 ≥ (ns.length : Int)) = true := by simp; omega
          have hd1' : decide ((ns.length : Int) ≤ at_ + 1) = true := by simp; omega
          have hrb : rb = false := by
            cases rb with
            | false => rfl
            | true =>
              obtain ⟨k, x, y, u, hT, -⟩ := pass_yes hs.out
              have := hT.2.1
              have := getElem_some hT.2.2.2.1
              omega
          subst hrb
          replace h0 := hide h0
          replace h1 := hide h1
          go_wp2_with fail
          refine (sameChain_same c2 c3 rv hX.out hY.out hms).mono ?_
          rintro e w6 ⟨rfl, hF⟩
          replace hE := hide (ext_trans hE.out hF)
          clear hF
          go_wp2_with fail
          go_ret
          exact ⟨rfl, hE.out⟩
        · obtain ⟨k, rfl⟩ := Int.eq_ofNat_of_zero_le (show 0 ≤ at_ by omega)
          have hd1 : decide ((k : Int) + 1 ≥ (ns.length : Int)) = false := by simp; omega
          have hd1' : decide ((ns.length : Int) ≤ (k : Int) + 1) = false := by simp; omega
          obtain ⟨k1, hk1⟩ : ∃ k1, k1 = k + 1 := ⟨_, rfl⟩
          have hkc : ((k : Int) + 1) = (k1 : Int) := by omega
          have hw1 : IntKind.i64.wrap ((k : Int) + 1) = (k1 : Int) := hwz.trans hkc
          rw [hkc] at hd1 hd1'
          clear hwz
          have hkl : k < ns.length := by omega
          have hkl1 : k1 < ns.length := by omega
          have hd2 : decide (ns.length ≤ k1) = false := by simp; omega
          have hd3 : decide (k1 ≥ ns.length) = false := by simp; omega
          obtain ⟨b, o, x1, l1, j1, B1, d1, hA1, hbl1, hn1, hld1, hdm1, hB1, -, -, -, e1, -⟩ := node_at hN.out hkl
          obtain ⟨b7, o7, x2, l2, j2, B2, d2, hA2, hbl2, hn2, hld2, hdm2, hB2, -, -, -, f1, -⟩ := node_at hN.out hkl1
          subst hA1
          cases hA2
          have hrb : decide ((l1.length : Int) > (l2.length : Int)) = rb := by
            rcases hs.out with ⟨k', x, y, u, hT, -, -, -, rfl⟩ | ⟨hno, -, -, rfl⟩
            · have ek : k' = k := by have := hT.2.1; omega
              subst ek
              have hlt := (passAt_lt hT).1
              obtain ⟨-, -, hx, hy, -⟩ := hT
              rw [hn1] at hx
              rw [← hk1, hn2] at hy
              cases hx
              cases hy
              simp only at hlt
              simp; omega
            · have hle : l2.length ≤ l1.length := by
                have := hok.out.nextAt hn1 (by rw [← hk1]; exact hn2)
                exact begins_len this.1
              by_cases hne : l1.length = l2.length
              · simp; omega
              · exact absurd ⟨k, _, _, hok.out, rfl, hn1, by rw [← hk1]; exact hn2, hne⟩ hno
          have hi0 : (0 : Int) ≤ (k : Int) := by omega
          have hi1 : (k : Int) < (ns.length : Int) := by omega
          have hi2 : (0 : Int) ≤ (k1 : Int) := by omega
          have hi3 : (k1 : Int) < (ns.length : Int) := by omega
          have q0 : ∀ w', Ext w5 w' → w'.cell? ⟨w1.heap.size, 1, none⟩ = some (.slice (some ⟨b, o, none⟩) ns.length c) := fun w' hC => ext_cell hC P_1
          have q1 : ∀ w', Ext w5 w' → w'.cell? ⟨b, o + k * 3 + 1, none⟩ = some (.slice B1 l1.length d1) := fun w' hC => ext_cell hC e1
          have q2 : ∀ w', Ext w5 w' → w'.cell? ⟨b, o + k1 * 3 + 1, none⟩ = some (.slice B2 l2.length d2) := fun w' hC => ext_cell hC f1
          replace h0 := hide h0
          replace h1 := hide h1
          replace hn1 := hide hn1
          replace hn2 := hide hn2
          replace hk1 := hide hk1
          replace hkc := hide hkc
          clear hs hX hY X_0 X_1 X_lt Y_0 Y_1 Y_lt e1 f1 hB1 hB2
          go_wp2_with fail
          refine wp_region_quietE (by kernel_rfl) (by kernel_rfl) ?_
          repeat (
            refine QW.step (fun K hK => ?_)
            go_simp
            first
            | (refine hK _ ?_; clear hK K)
            | (apply Exists.intro
               refine ⟨fun w5 hC => ?_, hK _ ?_⟩
               · first
                 | rfl
                 | (simp only [q0 w5 hC, q1 w5 hC, q2 w5 hC, Result.andThen_ok, true_and]; rfl)
               clear hK K))
          refine QW.nil ?_
          intro w1 hF
          replace hE := hide (ext_trans hE.out hF)
          clear q0 q1 q2
          go_wp2_with fail
          go_ret
          exact ⟨by simp; rw [← hrb]; exact decide_eq_decide.2 (by omega), hE.out⟩
    · obtain ⟨rfl, hrv⟩ : rb = false ∧ True := ⟨by
        cases rb with
        | false => rfl
        | true => exact absurd (pass_yes hs.out).choose_spec.choose_spec.choose_spec.choose_spec.1.1 hok, trivial⟩
      replace hok := hide hok
      go_wp2_with fail
      refine (specChainValid_no c v hN.out hb hlc hok.out).mono ?_
      rintro e w5 ⟨rfl, hF⟩
      replace hN := hide (hN.out.ext hF)
      replace hX := hide (hX.out.ext hF)
      replace hY := hide (hY.out.ext hF)
      replace P := hide (P.out.ext hF)
      replace X := hide (X.out.ext hF)
      replace Y := hide (Y.out.ext hF)
      try clear P_0 P_1 P_lt
      obtain ⟨P_0, P_1, P_lt⟩ := P.out.at2
      try clear X_0 X_1 X_lt
      obtain ⟨X_0, X_1, X_lt⟩ := X.out.at2
      try clear Y_0 Y_1 Y_lt
      obtain ⟨Y_0, Y_1, Y_lt⟩ := Y.out.at2
      replace hE := hide (ext_trans hE.out hF)
      clear hF
      go_wp2_with fail
      refine (sameChain_same c2 c3 rv hX.out hY.out hms).mono ?_
      rintro e w6 ⟨rfl, hF⟩
      replace hE := hide (ext_trans hE.out hF)
      clear hF
      go_wp2_with fail
      go_ret
      exact ⟨rfl, hE.out⟩
end Go.Proofs.YtciekjplhbimdaaZ
