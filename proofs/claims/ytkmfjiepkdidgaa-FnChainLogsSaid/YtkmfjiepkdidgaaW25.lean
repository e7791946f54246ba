/-
  The walk of the law FnChainLogs: it returns true for every input, and leaves its arguments as they were.
-/
import Derived.Test.YtkmfjiepkdidgaaCDraw5
import Derived.Test.YtkmfjiepkdidgaaCLaw
import Derived.Test.YtkmfjiepkdidgaaFrame2
set_option linter.all false
set_option maxRecDepth 100000
namespace Go.Proofs.Ytkmfjiepkdidgaa
open Go.RowKit
attribute [local go_sem ↓] Go.wp_at_zero Go.wp_at_succ

set_option maxHeartbeats 3200000 in
theorem fnChainLogs.walk (a0 : Option Addr) (n0 c0 : Nat) (w : World) (w0 : CodeR w a0 n0 c0) :
    Calls Try.prog 3 #[.slice a0 n0 c0] w fun e w' => e = .returned (.bool true) ∧ Below w.heap.size w w' := by
  have hm := len64c w0
  by_cases hn : 1048576 < n0
  · go_enter Try.func3, Try.ntmps3
    go_wp2
    go_ret
    exact ⟨rfl, ext_refl _⟩
  · go_enter Try.func3, Try.ntmps3
    go_wp2_with fail
    refine (drawChainValid_any w0).mono ?_
    rintro e w1 ⟨A, c, v, ns, rfl, hl1, hl5, hlow, hlc, hcm, hN, hE⟩
    replace hE := hide hE
    have hb := hlow.bulk hl5
    obtain ⟨q, hq⟩ := chOk_decides v ns
    replace hq := hide hq
    replace hlow := hide hlow
    have P := hide (Blk.newAt (w1) 25 #[.int .i64 v, .slice A ns.length c] (g := (w1).heap.size) (by simp))
    replace hN := hide (hN.out.ext (ext_alloc (ext_refl (w1)) (.cells #[.int .i64 v, .slice A ns.length c] 25)))
    replace hE := hide (ext_alloc hE.out (.cells #[.int .i64 v, .slice A ns.length c] 25))
    go_wp2_with fail
    refine (implChainValid_any c v hN.out hb hq.out).mono ?_
    rintro e w2 ⟨rfl, hF⟩
    replace hN := hide (hN.out.ext hF)
    replace P := hide (P.out.ext hF)
    try clear P_0 P_1 P_lt
    obtain ⟨P_0, P_1, P_lt⟩ := P.out.at2
    replace hE := hide (ext_trans hE.out hF)
    clear hF
    go_wp2_with fail
    refine (specChainValid_any c v hN.out hb hlc hq.out).mono ?_
    rintro e w3 ⟨rfl, hF⟩
    replace hN := hide (hN.out.ext hF)
    replace P := hide (P.out.ext hF)
    try clear P_0 P_1 P_lt
    obtain ⟨P_0, P_1, P_lt⟩ := P.out.at2
    replace hE := hide (ext_trans hE.out hF)
    clear hF
    cases q with
    | false =>
      go_wp2_with fail
      go_ret
      exact ⟨rfl, hE.out⟩
    | true =>
      have hok := hide (hq.out.1 rfl)
      clear hq
      go_wp2_with fail
      go_loopw [6] (fun i wr => ∃ k : Nat, k ≤ ns.length ∧ i = .int .i64 k ∧ Hid (Ext w3 wr)) (fun i _ => ns.length - (intOf i).toNat)
      case atStart => exact ⟨0, Nat.zero_le _, rfl, hide (ext_refl _)⟩
      case round =>
        obtain ⟨i, hi, rfl, hR⟩ := hrel
        have bP := hide (P.out.ext hR.out)
        try clear bP_0 bP_1 bP_lt
        obtain ⟨bP_0, bP_1, bP_lt⟩ := bP.out.at2
        by_cases hlt : i < ns.length
        · have hd : decide ((i : Int) < (ns.length : Int)) = true := by simp; omega
          go_wp2_with fail
          go_loopw [7] (fun i' wr => ∃ k : Nat, k ≤ i ∧ i' = .int .i64 k ∧ Hid (Ext w3 wr)) (fun i' _ => i - (intOf i').toNat)
          case atStart => exact ⟨0, Nat.zero_le _, rfl, hR⟩
          case round =>
            obtain ⟨k, hk, rfl, hR2⟩ := hrel
            have bQ := hide (P.out.ext hR2.out)
            clear bP_0 bP_1 bP_lt
            try clear bQ_0 bQ_1 bQ_lt
            obtain ⟨bQ_0, bQ_1, bQ_lt⟩ := bQ.out.at2
            by_cases hlt2 : k < i
            · have hd2 : decide ((k : Int) < (i : Int)) = true := by simp; omega
              have hNk := hN.out.ext hR2.out
              obtain ⟨b, o, x, l, j, B, d, hA, hbl, hn1, hld, hdm, hB, d0, d1, d2, d1', d2'⟩ := node_at hNk hlt
              obtain ⟨b3, o3, x3, l3, j3, B3, d3, hA3, hbl3, hn3, hld3, hdm3, hB3, e0, e1, e2, e1', e2'⟩ := node_at hNk (i := k) (by omega)
              subst hA
              cases hA3
              have hlm : l.length ≤ 1048576 := bulk_of hb hn1
              have hlm3 : l3.length ≤ 1048576 := bulk_of hb hn3
              have hbg := hide (begins_yes hok.out hn1 hn3 hk)
              have hCd := hide (show LogR wr.drew B l from hB)
              have hC2d := hide (show LogR wr.drew B3 l3 from hB3)
              have hi0 : (0 : Int) ≤ (i : Int) := by omega
              have hi1 : (i : Int) < (ns.length : Int) := by omega
              have hi2 : (0 : Int) ≤ (k : Int) := by omega
              have hi3 : (k : Int) < (ns.length : Int) := by omega
              have hi4 : k < ns.length := by omega
              replace hn1 := hide hn1
              replace hn3 := hide hn3
              clear hB hB3 hNk
              go_wp2_with fail
              go_region_with (go_at_call 18; refine (implLogBegins_yes d d3 hCd.out hC2d.out hlm hlm3 hbg.out).mono ?_; rintro e w' ⟨rfl, hF⟩)
              all_goals replace hF := hide (ext_over hR2.out hF rfl rfl rfl rfl)
              all_goals go_wp2_with fail
              all_goals go_roundw
              all_goals first
                | exact ⟨k + 1, by omega, by go_num, hF⟩
                | (simp [intOf]; omega)
            · obtain rfl : k = i := by omega
              have hd2 : decide ((k : Int) < (k : Int)) = false := by simp
              go_wp2
              go_roundw
              case rel => exact ⟨k + 1, by omega, by go_num, hR2⟩
              case measure => simp [intOf]; omega
        · have hd : decide ((i : Int) < (ns.length : Int)) = false := by simp; omega
          have hE2 := hide (ext_trans hE.out hR.out)
          go_wp2_with fail
          go_ret
          exact ⟨rfl, hE2.out⟩
end Go.Proofs.Ytkmfjiepkdidgaa
