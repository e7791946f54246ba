/-
  The walk of the law FnSettleSteps over the turned program: it returns true for every input, and leaves its arguments as they were.
-/
import Derived.Test.YtciekjplhbimdaaZCDraw8
import Derived.Test.YtciekjplhbimdaaZBSet
import Derived.Test.YtciekjplhbimdaaZChain6
import Derived.Test.YtciekjplhbimdaaZCExact2
import Derived.Test.YtciekjplhbimdaaZQE
import Derived.Test.YtciekjplhbimdaaZSame
set_option linter.all false
set_option maxRecDepth 100000
namespace Go.Proofs.YtciekjplhbimdaaZ
open Go.RowKit
attribute [local go_sem ↓] Go.wp_at_zero Go.wp_at_succ

theorem rem_drop {H : Nat} {ns : List Nd} {i : Nat} {x : Nd} (h : ns[i]? = some x) : rem H (ns.drop i) = (H - x.log.length) + (if i + 1 < ns.length ∧ x.done < (H : Int) then 1 else 0) + rem H (ns.drop (i + 1)) := by
  have hi := getElem_some h
  rw [List.getElem?_eq_getElem hi] at h
  rw [List.drop_eq_getElem_cons hi, Option.some.inj h]
  cases hq : ns.drop (i + 1) with
  | nil =>
    have := congrArg List.length hq
    rw [List.length_drop, List.length_nil] at this
    rw [if_neg (by omega)]
    simp [rem]
  | cons y r =>
    have := congrArg List.length hq
    rw [List.length_drop, List.length_cons] at this
    by_cases hd : x.done < (H : Int)
    · rw [rem, if_pos hd, if_pos ⟨by omega, hd⟩]
    · rw [rem, if_neg hd, if_neg (fun h => hd h.2)]
set_option maxHeartbeats 6400000 in
theorem fnSettleSteps.walk (a0 : Option Addr) (n0 c0 : Nat) (w : World) (w0 : CodeR w a0 n0 c0) :
    Calls Alt.prog 9 #[.slice a0 n0 c0] w fun e w' => e = .returned (.bool true) ∧ Below w.heap.size w w' := by
  have hm : n0 ≤ 9223372036854775807 := by have := w0.1; have := w0.2.1; unfold maxLen at this; omega
  by_cases hn : 1048576 < n0
  · go_enter Alt.func9, Try.ntmps9
    go_wp2
    go_ret
    exact ⟨rfl, ext_refl _⟩
  · go_enter Alt.func9, Try.ntmps9
    go_wp2_with fail
    refine (drawChainSettle_any w0).mono ?_
    rintro e w1 ⟨A, c, v, ns, rfl, hl1, hl5, hlow, hlc, hcm, hN, hE⟩
    replace hE := hide hE
    have hb := hlow.bulk hl5
    obtain ⟨rv, rl, k, hs⟩ := settleRes_ex v ns
    have hms := Nat.le_trans (settleRes_bulk hs) (show 65 ≤ 1048576 by decide)
    have hkk : (k != k) = false := by simp
    have hke : (k == k) = true := by simp
    replace hs := hide hs
    replace hlow := hide hlow
    have P := hide (Blk.newAt (w1) 25 #[.int .i64 v, .slice A ns.length c] (g := (w1).heap.size) (by simp))
    replace hN := hide (hN.out.ext (ext_alloc (ext_refl (w1)) (.cells #[.int .i64 v, .slice A ns.length c] 25)))
    replace hE := hide (ext_alloc hE.out (.cells #[.int .i64 v, .slice A ns.length c] 25))
    go_wp2_with fail
    refine (implChainSettle_any c v hN.out hb hs.out).mono ?_
    intro e w2 hG
    obtain ⟨A2, c2, rfl, -, -, hX, hF⟩ := hG
    replace hN := hide (hN.out.ext hF)
    replace P := hide (P.out.ext hF)
    try clear P_0 P_1 P_lt
    obtain ⟨P_0, P_1, P_lt⟩ := P.out.at2
    replace hE := hide (ext_trans hE.out hF)
    clear hF
    have X := hide (Blk.newAt (w2) 25 #[.int .i64 rv, .slice A2 rl.length c2] (g := (w2).heap.size) (by simp))
    replace hN := hide (hN.out.ext (ext_alloc (ext_refl (w2)) (.cells #[.int .i64 rv, .slice A2 rl.length c2] 25)))
    replace hX := hide (hX.out.ext (ext_alloc (ext_refl (w2)) (.cells #[.int .i64 rv, .slice A2 rl.length c2] 25)))
    replace P := hide (P.out.ext (ext_alloc (ext_refl (w2)) (.cells #[.int .i64 rv, .slice A2 rl.length c2] 25)))
    replace hE := hide (ext_alloc hE.out (.cells #[.int .i64 rv, .slice A2 rl.length c2] 25))
    go_wp2_with fail
    refine (specChainSettle_any c v hN.out hb hlc hs.out).mono ?_
    intro e w3 hG
    obtain ⟨A3, c3, rfl, -, -, hY, hF⟩ := hG
    replace hN := hide (hN.out.ext hF)
    replace hX := hide (hX.out.ext hF)
    replace P := hide (P.out.ext hF)
    replace X := hide (X.out.ext hF)
    try clear P_0 P_1 P_lt
    obtain ⟨P_0, P_1, P_lt⟩ := P.out.at2
    try clear X_0 X_1 X_lt
    obtain ⟨X_0, X_1, X_lt⟩ := X.out.at2
    replace hE := hide (ext_trans hE.out hF)
    clear hF
    have Y := hide (Blk.newAt (w3) 25 #[.int .i64 rv, .slice A3 rl.length c3] (g := (w3).heap.size) (by simp))
    replace hN := hide (hN.out.ext (ext_alloc (ext_refl (w3)) (.cells #[.int .i64 rv, .slice A3 rl.length c3] 25)))
    replace hX := hide (hX.out.ext (ext_alloc (ext_refl (w3)) (.cells #[.int .i64 rv, .slice A3 rl.length c3] 25)))
    replace hY := hide (hY.out.ext (ext_alloc (ext_refl (w3)) (.cells #[.int .i64 rv, .slice A3 rl.length c3] 25)))
    replace P := hide (P.out.ext (ext_alloc (ext_refl (w3)) (.cells #[.int .i64 rv, .slice A3 rl.length c3] 25)))
    replace X := hide (X.out.ext (ext_alloc (ext_refl (w3)) (.cells #[.int .i64 rv, .slice A3 rl.length c3] 25)))
    replace hE := hide (ext_alloc hE.out (.cells #[.int .i64 rv, .slice A3 rl.length c3] 25))
    go_wp2_with fail
    refine (sameChain_same c2 c3 rv hX.out hY.out hms).mono ?_
    rintro e w4 ⟨rfl, hF⟩
    replace hN := hide (hN.out.ext hF)
    replace hX := hide (hX.out.ext hF)
    replace hY := hide (hY.out.ext hF)
    replace P := hide (P.out.ext hF)
    replace X := hide (X.out.ext hF)
    replace Y := hide (Y.out.ext hF)
    try clear P_0 P_1 P_lt
    obtain ⟨P_0, P_1, P_lt⟩ := P.out.at2
    try clear X_0 X_1 X_lt
    obtain ⟨X_0, X_1, X_lt⟩ := X.out.at2
    try clear Y_0 Y_1 Y_lt
    obtain ⟨Y_0, Y_1, Y_lt⟩ := Y.out.at2
    replace hE := hide (ext_trans hE.out hF)
    clear hF
    rcases hs.out with ⟨L, hH, rfl, hrl, rfl⟩ | ⟨-, rfl, rfl, rfl⟩
    case inr =>
      go_wp2_with fail
      refine (sameChain_same c2 c3 _ hX.out hY.out hms).mono ?_
      rintro e w5 ⟨rfl, hF⟩
      replace hE := hide (ext_trans hE.out hF)
      clear hF
      go_wp2_with fail
      go_ret
      exact ⟨rfl, hE.out⟩
    case inl =>
      have hkn : decide (((rem L.length ns : Nat) : Int) < 0) = false := by simp
      have hlen : Hid (rl.length = ns.length) := hide (by rw [hrl]; simp [settled])
      have hLb : L.length ≤ 12 := hH.le12
      replace hH := hide hH
      replace hrl := hide hrl
      clear hs hY Y Y_0 Y_1 Y_lt
      obtain ⟨x9, hx9, hL9⟩ := hH.out.head
      subst hL9
      go_wp2_with fail
      refine (implChainLag_any c rv hN.out hb (.inl ⟨hH.out.ok, x9, hx9, rfl⟩)).mono ?_
      rintro e w5 ⟨A9, c9, rfl, hc9, -, hI, hF⟩
      have hls : (lags x9.log.length ns).length = ns.length := by simp [lags]
      rw [hls]
      rw [hls] at hI
      have hI' := hide (show IntsR w5 A9 (lags x9.log.length ns) from CellsR.of_own hI)
      clear hI
      replace hls := hide hls
      replace hx9 := hide hx9
      replace hN := hide (hN.out.ext hF)
      replace hX := hide (hX.out.ext hF)
      replace P := hide (P.out.ext hF)
      replace X := hide (X.out.ext hF)
      try clear P_0 P_1 P_lt
      obtain ⟨P_0, P_1, P_lt⟩ := P.out.at2
      try clear X_0 X_1 X_lt
      obtain ⟨X_0, X_1, X_lt⟩ := X.out.at2
      replace hE := hide (ext_trans hE.out hF)
      clear hF
      go_wp2_with fail
      go_loopw [9, 10] (fun kv iv wr => ∃ i0 k0 : Nat, i0 ≤ ns.length ∧ kv = .int .i64 k0 ∧ iv = .int .i64 i0 ∧ Hid (k0 + rem x9.log.length (ns.drop i0) = rem x9.log.length ns) ∧ Hid (Ext w5 wr)) (fun _ iv _ => ns.length - (intOf iv).toNat)
      case atStart => exact ⟨0, 0, Nat.zero_le _, rfl, rfl, hide (by simp), hide (ext_refl _)⟩
      case round =>
        obtain ⟨i, k0, hi, rfl, rfl, hk0, hR⟩ := hrel
        have bP := hide (P.out.ext hR.out)
        try clear bP_0 bP_1 bP_lt
        obtain ⟨bP_0, bP_1, bP_lt⟩ := bP.out.at2
        by_cases hli : i < ns.length
        · have hd : decide ((i : Int) < (ns.length : Int)) = true := by simp; omega
          have hNk := hN.out.ext hR.out
          obtain ⟨b7, o7, x1, l1, j1, B1, d1, hA1, hbl1, hn1, hld1, hdm1, hB1, e0, -, -, e1, e2⟩ := node_at hNk hli
          obtain ⟨b, o, x0, l0, j0, B0, d0, hA3, hbl3, hn3, hld3, hdm3, hB0, g0, -, -, g1, g2⟩ := node_at hNk (i := 0) (by omega)
          subst hA1
          cases hA3
          rw [hx9.out] at hn3
          have hxl := hH.out.len hn1
          cases hn3
          simp only at hxl hk0 hH hI' hLb hls hkn hrl
          have hrd := rem_drop (H := l0.length) hn1
          simp only at hrd
          obtain ⟨g, hg⟩ : ∃ g, g = l0.length - l1.length := ⟨_, rfl⟩
          rw [← hg] at hrd
          have hgv : (lags l0.length ns)[i]'(by rw [hls.out]; exact hli) = (g : Int) := by
            have h1 : ns[i] = ⟨x1, l1, j1⟩ := by rw [List.getElem?_eq_getElem hli] at hn1; exact Option.some.inj hn1
            simp [lags, h1]
            omega
          obtain ⟨b8, o8, y, hA9, hbl8, hy, hc8⟩ := int_at (A := A9) (CellsR.ext hI'.out hR.out) (i := i) (by rw [hls.out]; exact hli)
          subst hA9
          rw [hgv] at hy
          subst hy
          obtain ⟨k2, hk2⟩ : ∃ k2, k2 = k0 + g := ⟨_, rfl⟩
          obtain ⟨i1, hi1e⟩ : ∃ i1, i1 = i + 1 := ⟨_, rfl⟩
          rw [← hi1e] at hrd
          have hrl2 := rem_le hLb ns
          have hk60 : k0 ≤ 65 := by have := hk0.out; omega
          have hg12 : g ≤ 12 := by omega
          have hwk : IntKind.i64.wrap ((k0 : Int) + (g : Int)) = (k2 : Int) := by rw [show ((k0 : Int) + (g : Int)) = (k2 : Int) by omega]; exact IntWalk.i64_in _ (by omega)
          have hwi : IntKind.i64.wrap ((i : Int) + 1) = (i1 : Int) := by rw [show ((i : Int) + 1) = (i1 : Int) by omega]; exact IntWalk.i64_in _ (by omega)
          have hi0 : (0 : Int) ≤ (i : Int) := by omega
          have hi1 : (i : Int) < (ns.length : Int) := by omega
          have hi3 : (0 : Int) < (ns.length : Int) := by omega
          have hi4 : 0 < ns.length := by omega
          have q0 : ∀ w', Ext wr w' → w'.cell? ⟨w1.heap.size, 1, none⟩ = some (.slice (some ⟨b7, o7, none⟩) ns.length c) := fun w' hC => ext_cell hC bP_1
          have q3 : ∀ w', Ext wr w' → w'.cell? ⟨b7, o7 + 1, none⟩ = some (.slice B0 l0.length d0) := fun w' hC => by simpa using ext_cell hC g1
          have q4 : ∀ w', Ext wr w' → w'.cell? ⟨b7, o7 + i * 3 + 2, none⟩ = some (.int .i64 j1) := fun w' hC => ext_cell hC e2
          replace hn1 := hide hn1
          replace hgv := hide hgv
          clear hNk hB1 hB0 e0 e1 e2 g0 g1 g2
          by_cases hlast : i1 < ns.length
          · by_cases hdl : j1 < (l0.length : Int)
            · skip
              have hd1 : decide ((i1 : Int) < (ns.length : Int)) = true := by simp; omega
              have hd1' : decide (i1 < ns.length) = true := by simp; omega
              have hd2 : decide (j1 < (l0.length : Int)) = true := by simp; omega
              have hrem : Hid (k2 + 1 + rem l0.length (ns.drop i1) = rem l0.length ns) := hide (by have h1 := hk0.out; rw [hrd, if_pos ⟨by omega, hdl⟩] at h1; omega)
              obtain ⟨k3, hk3⟩ : ∃ k3, k3 = k2 + 1 := ⟨_, rfl⟩
              have hwk3 : IntKind.i64.wrap ((k2 : Int) + 1) = (k3 : Int) := by rw [show ((k2 : Int) + 1) = (k3 : Int) by omega]; exact IntWalk.i64_in _ (by omega)
              rw [← hk3] at hrem
              replace hk3 := hide hk3
              replace hrd := hide hrd
              replace hg := hide hg
              replace hi1e := hide hi1e
              replace hk2 := hide hk2
              go_wp2_with fail
              refine wp_region_quietE (by kernel_rfl) (by kernel_rfl) ?_
              repeat (
                refine QW.step (fun K hK => ?_)
                go_simp
                first
                | (refine hK _ ?_; clear hK K)
                | (apply Exists.intro
                   refine ⟨fun w5 hC => ?_, hK _ ?_⟩
                   · first
                     | rfl
                     | (simp only [q0 w5 hC, q3 w5 hC, q4 w5 hC, Result.andThen_ok, true_and]; rfl)
                   clear hK K))
              refine QW.nil ?_
              intro w1 hF
              replace hF := hide (ext_trans hR.out hF)
              clear q0 q3 q4
              go_wp2_with fail
              go_roundw
              case rel => exact ⟨i1, k3, by have := hi1e.out; omega, rfl, rfl, hrem, hF⟩
              case measure => have := hi1e.out; simp [intOf]; omega
            · skip
              have hd1 : decide ((i1 : Int) < (ns.length : Int)) = true := by simp; omega
              have hd1' : decide (i1 < ns.length) = true := by simp; omega
              have hd2 : decide (j1 < (l0.length : Int)) = false := by simp; omega
              have hrem : Hid (k2 + rem l0.length (ns.drop i1) = rem l0.length ns) := hide (by have h1 := hk0.out; rw [hrd, if_neg (fun h => hdl h.2)] at h1; omega)
              replace hrd := hide hrd
              replace hg := hide hg
              replace hi1e := hide hi1e
              replace hk2 := hide hk2
              go_wp2_with fail
              refine wp_region_quietE (by kernel_rfl) (by kernel_rfl) ?_
              repeat (
                refine QW.step (fun K hK => ?_)
                go_simp
                first
                | (refine hK _ ?_; clear hK K)
                | (apply Exists.intro
                   refine ⟨fun w5 hC => ?_, hK _ ?_⟩
                   · first
                     | rfl
                     | (simp only [q0 w5 hC, q3 w5 hC, q4 w5 hC, Result.andThen_ok, true_and]; rfl)
                   clear hK K))
              refine QW.nil ?_
              intro w1 hF
              replace hF := hide (ext_trans hR.out hF)
              clear q0 q3 q4
              go_wp2_with fail
              go_roundw
              case rel => exact ⟨i1, k2, by have := hi1e.out; omega, rfl, rfl, hrem, hF⟩
              case measure => have := hi1e.out; simp [intOf]; omega
          · skip
            have hd1 : decide ((i1 : Int) < (ns.length : Int)) = false := by simp; omega
            have hd1' : decide (i1 < ns.length) = false := by simp; omega
            have hrem : Hid (k2 + rem l0.length (ns.drop i1) = rem l0.length ns) := hide (by have h1 := hk0.out; rw [hrd, if_neg (by omega)] at h1; omega)
            replace hrd := hide hrd
            replace hg := hide hg
            replace hi1e := hide hi1e
            replace hk2 := hide hk2
            go_wp2_with fail
            refine wp_region_quietE (by kernel_rfl) (by kernel_rfl) ?_
            repeat (
              refine QW.step (fun K hK => ?_)
              go_simp
              first
              | (refine hK _ ?_; clear hK K)
              | (apply Exists.intro
                 refine ⟨fun w5 hC => ?_, hK _ ?_⟩
                 · first
                   | rfl
                   | (simp only [q0 w5 hC, q3 w5 hC, q4 w5 hC, Result.andThen_ok, true_and]; rfl)
                 clear hK K))
            refine QW.nil ?_
            intro w1 hF
            replace hF := hide (ext_trans hR.out hF)
            clear q0 q3 q4
            go_wp2_with fail
            go_roundw
            case rel => exact ⟨i1, k2, by have := hi1e.out; omega, rfl, rfl, hrem, hF⟩
            case measure => have := hi1e.out; simp [intOf]; omega
        · have hd : decide ((i : Int) < (ns.length : Int)) = false := by simp; omega
          have hd' : decide (i < ns.length) = false := by simp; omega
          have hli2 : ¬ (i : Int) < (ns.length : Int) := by omega
          have hke2 : Hid (k0 = rem x9.log.length ns) := hide (by have h1 := hk0.out; rw [List.drop_eq_nil_of_le (by omega)] at h1; simpa [rem] using h1)
          have hke3 : (((rem x9.log.length ns : Nat) : Int) == (k0 : Int)) = true := by have := hke2.out; simp; omega
          go_wp2_with fail
          go_ret
          exact ⟨rfl, ext_trans hE.out hR.out⟩
end Go.Proofs.YtciekjplhbimdaaZ
