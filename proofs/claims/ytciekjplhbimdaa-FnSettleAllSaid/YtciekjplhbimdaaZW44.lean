/-
  The walk of the law FnSettleAll over the turned program: it returns true for every input, and leaves its arguments as they were.
-/
import Derived.Test.YtciekjplhbimdaaZCDraw8
import Derived.Test.YtciekjplhbimdaaZBSet
import Derived.Test.YtciekjplhbimdaaZCExact2
import Derived.Test.YtciekjplhbimdaaZQE
import Derived.Test.YtciekjplhbimdaaZSame
set_option linter.all false
set_option maxRecDepth 100000
namespace Go.Proofs.YtciekjplhbimdaaZ
open Go.RowKit
attribute [local go_sem ↓] Go.wp_at_zero Go.wp_at_succ

theorem settled_at {L : List Upd} {ns : List Nd} {i : Nat} {x j : Int} {l : List Upd} (h : ns[i]? = some ⟨x, l, j⟩) : (settled L ns)[i]? = some ⟨x, L, (L.length : Int)⟩ := by
  simp [settled, h]
set_option maxHeartbeats 6400000 in
theorem fnSettleAll.walk (a0 : Option Addr) (n0 c0 : Nat) (w : World) (w0 : CodeR w a0 n0 c0) :
    Calls Alt.prog 8 #[.slice a0 n0 c0] w fun e w' => e = .returned (.bool true) ∧ Below w.heap.size w w' := by
  have hm : n0 ≤ 9223372036854775807 := by have := w0.1; have := w0.2.1; unfold maxLen at this; omega
  by_cases hn : 1048576 < n0
  · go_enter Alt.func8, Try.ntmps8
    go_wp2
    go_ret
    exact ⟨rfl, ext_refl _⟩
  · go_enter Alt.func8, Try.ntmps8
    go_wp2_with fail
    refine (drawChainSettle_any w0).mono ?_
    rintro e w1 ⟨A, c, v, ns, rfl, hl1, hl5, hlow, hlc, hcm, hN, hE⟩
    replace hE := hide hE
    have hb := hlow.bulk hl5
    obtain ⟨rv, rl, k, hs⟩ := settleRes_ex v ns
    have hms := Nat.le_trans (settleRes_bulk hs) (show 65 ≤ 1048576 by decide)
    have hkk : (k != k) = false := by simp
    have hke : (k == k) = true := by simp
    replace hs := hide hs
    replace hlow := hide hlow
    have P := hide (Blk.newAt (w1) 25 #[.int .i64 v, .slice A ns.length c] (g := (w1).heap.size) (by simp))
    replace hN := hide (hN.out.ext (ext_alloc (ext_refl (w1)) (.cells #[.int .i64 v, .slice A ns.length c] 25)))
    replace hE := hide (ext_alloc hE.out (.cells #[.int .i64 v, .slice A ns.length c] 25))
    go_wp2_with fail
    refine (implChainSettle_any c v hN.out hb hs.out).mono ?_
    intro e w2 hG
    obtain ⟨A2, c2, rfl, -, -, hX, hF⟩ := hG
    replace hN := hide (hN.out.ext hF)
    replace P := hide (P.out.ext hF)
    try clear P_0 P_1 P_lt
    obtain ⟨P_0, P_1, P_lt⟩ := P.out.at2
    replace hE := hide (ext_trans hE.out hF)
    clear hF
    have X := hide (Blk.newAt (w2) 25 #[.int .i64 rv, .slice A2 rl.length c2] (g := (w2).heap.size) (by simp))
    replace hN := hide (hN.out.ext (ext_alloc (ext_refl (w2)) (.cells #[.int .i64 rv, .slice A2 rl.length c2] 25)))
    replace hX := hide (hX.out.ext (ext_alloc (ext_refl (w2)) (.cells #[.int .i64 rv, .slice A2 rl.length c2] 25)))
    replace P := hide (P.out.ext (ext_alloc (ext_refl (w2)) (.cells #[.int .i64 rv, .slice A2 rl.length c2] 25)))
    replace hE := hide (ext_alloc hE.out (.cells #[.int .i64 rv, .slice A2 rl.length c2] 25))
    go_wp2_with fail
    refine (specChainSettle_any c v hN.out hb hlc hs.out).mono ?_
    intro e w3 hG
    obtain ⟨A3, c3, rfl, -, -, hY, hF⟩ := hG
    replace hN := hide (hN.out.ext hF)
    replace hX := hide (hX.out.ext hF)
    replace P := hide (P.out.ext hF)
    replace X := hide (X.out.ext hF)
    try clear P_0 P_1 P_lt
    obtain ⟨P_0, P_1, P_lt⟩ := P.out.at2
    try clear X_0 X_1 X_lt
    obtain ⟨X_0, X_1, X_lt⟩ := X.out.at2
    replace hE := hide (ext_trans hE.out hF)
    clear hF
    have Y := hide (Blk.newAt (w3) 25 #[.int .i64 rv, .slice A3 rl.length c3] (g := (w3).heap.size) (by simp))
    replace hN := hide (hN.out.ext (ext_alloc (ext_refl (w3)) (.cells #[.int .i64 rv, .slice A3 rl.length c3] 25)))
    replace hX := hide (hX.out.ext (ext_alloc (ext_refl (w3)) (.cells #[.int .i64 rv, .slice A3 rl.length c3] 25)))
    replace hY := hide (hY.out.ext (ext_alloc (ext_refl (w3)) (.cells #[.int .i64 rv, .slice A3 rl.length c3] 25)))
    replace P := hide (P.out.ext (ext_alloc (ext_refl (w3)) (.cells #[.int .i64 rv, .slice A3 rl.length c3] 25)))
    replace X := hide (X.out.ext (ext_alloc (ext_refl (w3)) (.cells #[.int .i64 rv, .slice A3 rl.length c3] 25)))
    replace hE := hide (ext_alloc hE.out (.cells #[.int .i64 rv, .slice A3 rl.length c3] 25))
    go_wp2_with fail
    refine (sameChain_same c2 c3 rv hX.out hY.out hms).mono ?_
    rintro e w4 ⟨rfl, hF⟩
    replace hN := hide (hN.out.ext hF)
    replace hX := hide (hX.out.ext hF)
    replace hY := hide (hY.out.ext hF)
    replace P := hide (P.out.ext hF)
    replace X := hide (X.out.ext hF)
    replace Y := hide (Y.out.ext hF)
    try clear P_0 P_1 P_lt
    obtain ⟨P_0, P_1, P_lt⟩ := P.out.at2
    try clear X_0 X_1 X_lt
    obtain ⟨X_0, X_1, X_lt⟩ := X.out.at2
    try clear Y_0 Y_1 Y_lt
    obtain ⟨Y_0, Y_1, Y_lt⟩ := Y.out.at2
    replace hE := hide (ext_trans hE.out hF)
    clear hF
    rcases hs.out with ⟨L, hH, rfl, hrl, rfl⟩ | ⟨-, rfl, rfl, rfl⟩
    case inr =>
      go_wp2_with fail
      refine (sameChain_same c2 c3 _ hX.out hY.out hms).mono ?_
      rintro e w5 ⟨rfl, hF⟩
      replace hE := hide (ext_trans hE.out hF)
      clear hF
      go_wp2_with fail
      go_ret
      exact ⟨rfl, hE.out⟩
    case inl =>
      have hkn : decide (((rem L.length ns : Nat) : Int) < 0) = false := by simp
      have hlen : Hid (rl.length = ns.length) := hide (by rw [hrl]; simp [settled])
      have hLb : L.length ≤ 12 := hH.le12
      replace hH := hide hH
      replace hrl := hide hrl
      clear hs hY Y Y_0 Y_1 Y_lt
      go_wp2_with fail
      go_loopw [8] (fun i wr => ∃ i0 : Nat, i0 ≤ ns.length ∧ i = .int .i64 i0 ∧ Hid (Ext w4 wr)) (fun i _ => ns.length - (intOf i).toNat)
      case atStart => exact ⟨0, Nat.zero_le _, rfl, hide (ext_refl _)⟩
      case round =>
        obtain ⟨i, hi, rfl, hR⟩ := hrel
        have bP := hide (P.out.ext hR.out)
        have bX := hide (X.out.ext hR.out)
        try clear bP_0 bP_1 bP_lt
        obtain ⟨bP_0, bP_1, bP_lt⟩ := bP.out.at2
        try clear bX_0 bX_1 bX_lt
        obtain ⟨bX_0, bX_1, bX_lt⟩ := bX.out.at2
        by_cases hli : i < ns.length
        · have hd : decide ((i : Int) < (ns.length : Int)) = true := by simp; omega
          have hd' : decide ((i : Int) < (rl.length : Int)) = true := by have := hlen.out; simp; omega
          have hNk := hN.out.ext hR.out
          have hXk := hX.out.ext hR.out
          obtain ⟨b7, o7, x1, l1, j1, B1, d1, hA1, hbl1, hn1, hld1, hdm1, hB1, e0, -, -, e1, e2⟩ := node_at hNk hli
          obtain ⟨b2, o2, x2, l2, j2, B2, d2, hA2, hbl2, hn2, hld2, hdm2, hB2, f0, -, -, f1, f2⟩ := node_at hXk (i := i) (by have := hlen.out; omega)
          obtain ⟨b, o, x0, l0, j0, B0, d0, hA3, hbl3, hn3, hld3, hdm3, hB0, g0, -, -, g1, g2⟩ := node_at hNk (i := 0) (by omega)
          subst hA1
          cases hA3
          subst hA2
          rw [hrl.out, settled_at hn1] at hn2
          cases hn2
          obtain ⟨x9, hx9, hL9⟩ := hH.out.head
          rw [hn3] at hx9
          cases hx9
          simp only at hL9
          subst hL9
          have hi0 : (0 : Int) ≤ (i : Int) := by omega
          have hi1 : (i : Int) < (ns.length : Int) := by omega
          have hi2 : (i : Int) < (rl.length : Int) := by have := hlen.out; omega
          have hi3 : (0 : Int) < (ns.length : Int) := by omega
          have hi4 : 0 < ns.length := by omega
          have q0 : ∀ w', Ext wr w' → w'.cell? ⟨w1.heap.size, 1, none⟩ = some (.slice (some ⟨b7, o7, none⟩) ns.length c) := fun w' hC => ext_cell hC bP_1
          have q1 : ∀ w', Ext wr w' → w'.cell? ⟨w2.heap.size, 1, none⟩ = some (.slice (some ⟨b2, o2, none⟩) rl.length c2) := fun w' hC => ext_cell hC bX_1
          have q2 : ∀ w', Ext wr w' → w'.cell? ⟨b7, o7 + i * 3, none⟩ = some (.int .i64 x1) := fun w' hC => ext_cell hC e0
          have q3 : ∀ w', Ext wr w' → w'.cell? ⟨b7, o7 + 1, none⟩ = some (.slice B0 l0.length d0) := fun w' hC => by simpa using ext_cell hC g1
          have q5 : ∀ w', Ext wr w' → w'.cell? ⟨b2, o2 + i * 3, none⟩ = some (.int .i64 x1) := fun w' hC => ext_cell hC f0
          have q6 : ∀ w', Ext wr w' → w'.cell? ⟨b2, o2 + i * 3 + 1, none⟩ = some (.slice B2 l0.length d2) := fun w' hC => ext_cell hC f1
          have q7 : ∀ w', Ext wr w' → w'.cell? ⟨b2, o2 + i * 3 + 2, none⟩ = some (.int .i64 (l0.length : Int)) := fun w' hC => ext_cell hC f2
          have hcn : ∀ w', Ext wr w' → Calls Alt.prog 30 #[.slice B2 l0.length d2, .slice B0 l0.length d0] w' (fun e w'' => e = .returned (.bool true) ∧ Ext wr w'') := fun w' hC =>
            (sameLog_any d2 d0 (hB2.ext hC) (hB0.ext hC) (by omega) (by omega)).mono fun e w'' ⟨f1, f2⟩ => ⟨by rw [f1]; simp, ext_trans hC f2⟩
          replace hn1 := hide hn1
          replace hn3 := hide hn3
          clear hNk hXk hB1 hB2 hB0 e0 e1 e2 f0 f1 f2 g0 g1 g2
          go_wp2_with fail
          refine wp_region_quietE (by kernel_rfl) (by kernel_rfl) ?_
          repeat (
            refine QW.step (fun K hK => ?_)
            go_simp
            first
            | (refine hK _ ?_; clear hK K)
            | (apply Exists.intro
               refine ⟨fun w5 hC => ?_, hK _ ?_⟩
               · first
                 | rfl
                 | exact hcn w5 hC
                 | (simp only [q0 w5 hC, q1 w5 hC, q2 w5 hC, q3 w5 hC, q5 w5 hC, q6 w5 hC, q7 w5 hC, Result.andThen_ok, true_and]; rfl)
               clear hK K))
          refine QW.nil ?_
          intro w1 hF
          replace hF := hide (ext_trans hR.out hF)
          clear q0 q1 q2 q3 q5 q6 q7 hcn
          go_wp2_with fail
          go_roundw
          case rel => exact ⟨i + 1, by omega, by go_num, hF⟩
          case measure => simp [intOf]; omega
        · have hli' : ¬ i < rl.length := by have := hlen.out; omega
          have hd : decide ((i : Int) < (rl.length : Int)) = false := by simp; omega
          have hd' : decide (i < rl.length) = false := by simp; omega
          have hli2 : ¬ (i : Int) < (rl.length : Int) := by omega
          go_wp2_with fail
          go_ret
          exact ⟨rfl, ext_trans hE.out hR.out⟩
end Go.Proofs.YtciekjplhbimdaaZ
