/-
  The walk of the law FnChainDone: it returns true for every input, and leaves its arguments as they were.
-/
import Derived.Test.YtkmfjiepkdidgaaCDraw5
import Derived.Test.YtkmfjiepkdidgaaCLaw
import Derived.Test.YtkmfjiepkdidgaaChain3
import Derived.Test.YtkmfjiepkdidgaaFrame2
set_option linter.all false
set_option maxRecDepth 100000
namespace Go.Proofs.Ytkmfjiepkdidgaa
open Go.RowKit
attribute [local go_sem ↓] Go.wp_at_zero Go.wp_at_succ

theorem sameLog_q {A B : Option Addr} {l : List Upd} (c d : Nat) {w : World} (h : LogR w A l) (h' : LogR w B l) (hm : l.length ≤ 1048576) :
    Calls Try.prog 19 #[.slice A l.length c, .slice B l.length d] w fun e w' => e = .returned (.bool true) ∧ ∃ n, w' = w.drewN n := by
  replace h := hide h
  replace h' := hide h'
  have hn' : ((l.length : Int) != (l.length : Int)) = false := by simp
  go_enter Try.func19, Try.ntmps19
  go_wp2_with fail
  go_loopw [5] (fun i wr => ∃ k : Nat, k ≤ l.length ∧ i = .int .i64 k ∧ Hid (∃ n, wr = w.drewN n)) (fun i _ => l.length - (intOf i).toNat)
  case atStart => exact ⟨0, Nat.zero_le _, rfl, hide ⟨0, rfl⟩⟩
  case round =>
    obtain ⟨k, hk, rfl, hE⟩ := hrel
    have hX : Ext w wr := by obtain ⟨n, e⟩ := hE.out; rw [e]; exact ext_drewN (ext_refl _) n
    by_cases h1 : k < l.length
    · obtain ⟨b, o, x, y, hA, hb, hxy, hc0, hc1⟩ := log_at (h.out.ext hX) h1
      subst hA
      obtain ⟨b', o', x', y', hA', hb', hxy', hc0', hc1'⟩ := log_at (h'.out.ext hX) h1
      subst hA'
      rw [hxy] at hxy'
      cases hxy'
      replace hxy := hide hxy
      clear hX
      go_wp2_with fail
      go_quiet (fail)
      go_wp2
      go_roundw
      case rel => exact ⟨k + 1, by omega, by go_num, hide (by first | exact hE.out | exact quiet_more hE.out _ | exact quiet_one hE.out)⟩
      case measure => simp [intOf]; omega
    · go_wp2
      go_ret
      exact ⟨rfl, hE.out⟩
theorem sameLog_cutq {A B : Option Addr} {l m : List Upd} {n : Nat} (c d : Nat) {w : World} (h : LogR w A l) (h' : LogR w B m) (h1 : n ≤ l.length) (h2 : n ≤ m.length) (he : l.take n = m.take n) (hm : n ≤ 1048576) :
    Calls Try.prog 19 #[.slice A n c, .slice B n d] w fun e w' => e = .returned (.bool true) ∧ ∃ k, w' = w.drewN k := by
  have e1 : (l.take n).length = n := by rw [List.length_take]; omega
  have f1 := h.take n
  have f2 := h'.take n
  rw [← he] at f2
  have := sameLog_q c d f1 f2 (by omega)
  rw [e1] at this
  exact this
set_option maxHeartbeats 3200000 in
theorem fnChainDone.walk (a0 : Option Addr) (n0 c0 : Nat) (w : World) (w0 : CodeR w a0 n0 c0) :
    Calls Try.prog 5 #[.slice a0 n0 c0] w fun e w' => e = .returned (.bool true) ∧ Below w.heap.size w w' := by
  have hm := len64c w0
  by_cases hn : 1048576 < n0
  · go_enter Try.func5, Try.ntmps5
    go_wp2
    go_ret
    exact ⟨rfl, ext_refl _⟩
  · go_enter Try.func5, Try.ntmps5
    go_wp2_with fail
    refine (drawChainValid_any w0).mono ?_
    rintro e w1 ⟨A, c, v, ns, rfl, hl1, hl5, hlow, hlc, hcm, hN, hE⟩
    replace hE := hide hE
    have hb := hlow.bulk hl5
    obtain ⟨q, hq⟩ := chOk_decides v ns
    replace hq := hide hq
    replace hlow := hide hlow
    have P := hide (Blk.newAt (w1) 25 #[.int .i64 v, .slice A ns.length c] (g := (w1).heap.size) (by simp))
    replace hN := hide (hN.out.ext (ext_alloc (ext_refl (w1)) (.cells #[.int .i64 v, .slice A ns.length c] 25)))
    replace hE := hide (ext_alloc hE.out (.cells #[.int .i64 v, .slice A ns.length c] 25))
    go_wp2_with fail
    refine (implChainValid_any c v hN.out hb hq.out).mono ?_
    rintro e w2 ⟨rfl, hF⟩
    replace hN := hide (hN.out.ext hF)
    replace P := hide (P.out.ext hF)
    try clear P_0 P_1 P_lt
    obtain ⟨P_0, P_1, P_lt⟩ := P.out.at2
    replace hE := hide (ext_trans hE.out hF)
    clear hF
    go_wp2_with fail
    refine (specChainValid_any c v hN.out hb hlc hq.out).mono ?_
    rintro e w3 ⟨rfl, hF⟩
    replace hN := hide (hN.out.ext hF)
    replace P := hide (P.out.ext hF)
    try clear P_0 P_1 P_lt
    obtain ⟨P_0, P_1, P_lt⟩ := P.out.at2
    replace hE := hide (ext_trans hE.out hF)
    clear hF
    cases q with
    | false =>
      go_wp2_with fail
      go_ret
      exact ⟨rfl, hE.out⟩
    | true =>
      have hok := hide (hq.out.1 rfl)
      clear hq
      go_wp2_with fail
      go_loopw [6] (fun i wr => ∃ k : Nat, k ≤ ns.length ∧ i = .int .i64 k ∧ Hid (Ext w3 wr)) (fun i _ => ns.length - (intOf i).toNat)
      case atStart => exact ⟨0, Nat.zero_le _, rfl, hide (ext_refl _)⟩
      case round =>
        obtain ⟨i, hi, rfl, hR⟩ := hrel
        have bP := hide (P.out.ext hR.out)
        try clear bP_0 bP_1 bP_lt
        obtain ⟨bP_0, bP_1, bP_lt⟩ := bP.out.at2
        by_cases hlt : i < ns.length
        · have hd : decide ((i : Int) < (ns.length : Int)) = true := by simp; omega
          obtain ⟨b, o, x, l, j, B, d, hA, hbl, hn1, hld, hdm, hB, d0, d1, d2, d1', d2'⟩ := node_at (hN.out.ext hR.out) hlt
          subst hA
          obtain ⟨dn, rfl, hdl, -, -⟩ := everywhere_at hok.out hn1 hn1
          have hi0 : (0 : Int) ≤ (i : Int) := by omega
          have hi1 : (i : Int) < (ns.length : Int) := by omega
          have hlm : l.length ≤ 1048576 := bulk_of hb hn1
          replace hn1 := hide hn1
          clear hB
          go_wp2_with fail
          go_loopw [8] (fun i' wr => ∃ k : Nat, k ≤ ns.length ∧ i' = .int .i64 k ∧ Hid (Ext w3 wr)) (fun i' _ => ns.length - (intOf i').toNat)
          case atStart => exact ⟨0, Nat.zero_le _, rfl, hR⟩
          case round =>
            obtain ⟨k, hk, rfl, hR2⟩ := hrel
            have bQ := hide (P.out.ext hR2.out)
            clear bP_0 bP_1 bP_lt
            try clear bQ_0 bQ_1 bQ_lt
            obtain ⟨bQ_0, bQ_1, bQ_lt⟩ := bQ.out.at2
            by_cases hlt2 : k < ns.length
            · have hd2 : decide ((k : Int) < (ns.length : Int)) = true := by simp; omega
              have hNk := hN.out.ext hR2.out
              obtain ⟨b4, o4, x4, l4, j4, B4, d4, hA4, hbl4, hn4, hld4, hdm4, hB4, f0, f1, f2, f1', f2'⟩ := node_at hNk hlt
              obtain ⟨b3, o3, x3, l3, j3, B3, d3, hA3, hbl3, hn3, hld3, hdm3, hB3, e0, e1, e2, e1', e2'⟩ := node_at hNk (i := k) (by omega)
              cases hA4
              cases hA3
              have hn4' := hn1.out.symm.trans hn4
              injection hn4' with hn4'
              injection hn4' with g1 g2 g3
              subst g1 g2 g3
              have hlm3 : l3.length ≤ 1048576 := bulk_of hb hn3
              obtain ⟨dn2, hdn, -, hdl3, htk⟩ := everywhere_at hok.out hn1.out hn3
              have hdn' : dn2 = dn := by omega
              subst hdn'
              have hCq : ∀ n, Calls Try.prog 19 #[.slice B3 dn2 d3, .slice B4 dn2 d4] (wr.drewN n) fun e w' => e = .returned (.bool true) ∧ ∃ m, w' = wr.drewN m := fun n =>
                Calls.quiet_of (sameLog_cutq d3 d4 (show LogR (wr.drewN n) B3 l3 from hB3) (show LogR (wr.drewN n) B4 l from hB4) hdl3 hdl htk (by omega))
              replace hCq := hide hCq
              have hi2 : (0 : Int) ≤ (k : Int) := by omega
              have hi3 : (k : Int) < (ns.length : Int) := by omega
              have hlt3 : decide ((l3.length : Int) < (dn2 : Int)) = false := by simp; omega
              have hlt3' : decide (l3.length < dn2) = false := by simp; omega
              have hc0 : (0 : Int) ≤ (dn2 : Int) := by omega
              have hc1 : (dn2 : Int) ≤ (d4 : Int) := by omega
              have hc2 : (dn2 : Int) ≤ (d3 : Int) := by omega
              have hc3 : dn2 ≤ d4 := by omega
              have hc4 : dn2 ≤ d3 := by omega
              have hdm9 : dn2 ≤ 1048576 := by omega
              replace htk := hide htk
              replace hn3 := hide hn3
              replace hn4 := hide hn4
              clear hB4 hB3 hNk hdl hdl3 hdn d0 d1 d2 d1' d2'
              go_wp2_with fail
              go_quiet ((go_at_call 19; exact hCq.out _))
              all_goals go_wp2_with fail
              all_goals go_roundw
              all_goals first
                | exact ⟨k + 1, by omega, by go_num, hide (by first | exact hR2.out | exact ext_drewN hR2.out _ | exact ext_drew hR2.out)⟩
                | (simp [intOf]; omega)
            · have hd2 : decide ((k : Int) < (ns.length : Int)) = false := by simp; omega
              go_wp2
              go_roundw
              case rel => exact ⟨i + 1, by omega, by go_num, hR2⟩
              case measure => simp [intOf]; omega
        · have hd : decide ((i : Int) < (ns.length : Int)) = false := by simp; omega
          have hE2 := hide (ext_trans hE.out hR.out)
          go_wp2_with fail
          go_ret
          exact ⟨rfl, hE2.out⟩
end Go.Proofs.Ytkmfjiepkdidgaa
