/-
  The walks of the laws FnLag, FnLagQuiet: each returns true for every input, and leaves its arguments as they were.
-/
import Derived.Test.YtkmfjiepkdidgaaCDraw5
import Derived.Test.YtkmfjiepkdidgaaCLaw
import Derived.Test.YtkmfjiepkdidgaaFrame2
set_option linter.all false
set_option maxRecDepth 100000
namespace Go.Proofs.Ytkmfjiepkdidgaa
open Go.RowKit
attribute [local go_sem ↓] Go.wp_at_zero Go.wp_at_succ

set_option maxHeartbeats 3200000 in
theorem fnLag.walk (a0 : Option Addr) (n0 c0 : Nat) (w : World) (w0 : CodeR w a0 n0 c0) :
    Calls Try.prog 6 #[.slice a0 n0 c0] w fun e w' => e = .returned (.bool true) ∧ Below w.heap.size w w' := by
  have hm := len64c w0
  by_cases hn : 1048576 < n0
  · go_enter Try.func6, Try.ntmps6
    go_wp2
    go_ret
    exact ⟨rfl, ext_refl _⟩
  · go_enter Try.func6, Try.ntmps6
    go_wp2_with fail
    refine (drawChainLag_any w0).mono ?_
    rintro e w1 ⟨A, c, v, ns, rfl, hl1, hl5, hlow, hlc, hcm, hN, hE⟩
    replace hE := hide hE
    have hb := hlow.bulk hl5
    obtain ⟨s, hs⟩ := lagRes_ex v ns
    have hsl := lagRes_len hs
    replace hs := hide hs
    replace hlow := hide hlow
    have P := hide (Blk.newAt (w1) 25 #[.int .i64 v, .slice A ns.length c] (g := (w1).heap.size) (by simp))
    replace hN := hide (hN.out.ext (ext_alloc (ext_refl (w1)) (.cells #[.int .i64 v, .slice A ns.length c] 25)))
    replace hE := hide (ext_alloc hE.out (.cells #[.int .i64 v, .slice A ns.length c] 25))
    go_wp2_with fail
    refine (implChainLag_any c v hN.out hb hs.out).mono ?_
    intro e w2 hG
    obtain ⟨A2, c2, rfl, hW, hF⟩ := hG.useR
    have hX := hW
    clear hG hW
    replace hN := hide (hN.out.ext hF)
    replace P := hide (P.out.ext hF)
    try clear P_0 P_1 P_lt
    obtain ⟨P_0, P_1, P_lt⟩ := P.out.at2
    replace hE := hide (ext_trans hE.out hF)
    clear hF
    go_wp2_with fail
    refine (specChainLag_any c v hN.out hb hlc hs.out).mono ?_
    intro e w3 hG
    obtain ⟨A3, c3, rfl, hW, hF⟩ := hG.useR
    have hY := hW
    clear hG hW
    replace hX := hide (hX.out.ext hF)
    replace P := hide (P.out.ext hF)
    try clear P_0 P_1 P_lt
    obtain ⟨P_0, P_1, P_lt⟩ := P.out.at2
    replace hE := hide (ext_trans hE.out hF)
    clear hF
    go_wp2_with fail
    refine (sameInts_sm c2 c3 hX.out hY.out (by omega)).mono ?_
    rintro e w4 ⟨rfl, hF⟩
    replace hX := hide (hX.out.ext hF)
    replace hY := hide (hY.out.ext hF)
    replace P := hide (P.out.ext hF)
    try clear P_0 P_1 P_lt
    obtain ⟨P_0, P_1, P_lt⟩ := P.out.at2
    replace hE := hide (ext_trans hE.out hF)
    clear hF
    by_cases hs0 : s.length = 0
    · have hz : ((s.length : Int) == 0) = true := by rw [hs0]; rfl
      replace hs0 := hide hs0
      go_wp2_with fail
      refine (sameInts_sm c2 c3 hX.out hY.out (by omega)).mono ?_
      rintro e w5 ⟨rfl, hF⟩
      replace hE := hide (ext_trans hE.out hF)
      clear hF
      go_wp2_with fail
      go_ret
      exact ⟨rfl, hE.out⟩
    · have hz : ((s.length : Int) == 0) = false := beq_false_of_ne (by omega)
      obtain ⟨hsn, ⟨x9, hx9, hx0⟩, hmon⟩ := lagRes_use hs.out hs0
      replace hsn := hide hsn
      replace hx9 := hide hx9
      replace hmon := hide hmon
      clear hs hY
      go_wp2_with fail
      go_loopw [6] (fun i wr => ∃ k : Nat, k < s.length ∧ i = .int .i64 ((k + 1 : Nat) : Int) ∧ Hid (Ext w4 wr)) (fun i _ => s.length - (intOf i).toNat)
      case atStart => exact ⟨0, by omega, rfl, hide (ext_refl _)⟩
      case round =>
        obtain ⟨k, hk, rfl, hR⟩ := hrel
        have bP := hide (P.out.ext hR.out)
        try clear bP_0 bP_1 bP_lt
        obtain ⟨bP_0, bP_1, bP_lt⟩ := bP.out.at2
        have hXk := hX.out.ext hR.out
        by_cases hlt : k + 1 < s.length
        · obtain ⟨b, o, x, hA, hbl, hx, hc0⟩ := int_at hXk (i := k) (by omega)
          obtain ⟨b2, o2, y, hA2, hbl2, hy, hc1⟩ := int_at hXk (i := k + 1) hlt
          subst hA
          cases hA2
          have hxy : decide (x > y) = false := by
            have := hmon.out k x y (by rw [List.getElem?_eq_getElem (by omega), hx]) (by rw [List.getElem?_eq_getElem hlt, hy])
            simp; omega
          have hd : decide (((k + 1 : Nat) : Int) < (s.length : Int)) = true := by simp; omega
          have hw1 : IntKind.i64.wrap (((k + 1 : Nat) : Int) - 1) = (k : Int) := by rw [show (((k + 1 : Nat) : Int) - 1) = (k : Int) by omega]; exact IntWalk.i64_in _ (by omega)
          have hi0 : (0 : Int) ≤ (k : Int) := by omega
          have hi1 : (k : Int) < (s.length : Int) := by omega
          have hi2 : k < s.length := by omega
          have hi3 : ((k + 1 : Nat) : Int) < (s.length : Int) := by omega
          have hi4 : (0 : Int) ≤ ((k + 1 : Nat) : Int) := by omega
          replace hx := hide hx
          replace hy := hide hy
          clear hXk
          go_wp2_with fail
          go_quiet (fail)
          all_goals go_wp2
          all_goals go_roundw
          all_goals first
            | exact ⟨k + 1, by omega, by go_num, hide (ext_drewN hR.out _)⟩
            | exact ⟨k + 1, by omega, by go_num, hide (ext_drew hR.out)⟩
            | (simp [intOf]; omega)
        · have hd : decide (((k + 1 : Nat) : Int) < (s.length : Int)) = false := by simp; omega
          obtain ⟨b, o, x, hA, hbl, hx, hc0⟩ := int_at hXk (i := 0) (by omega)
          subst hA
          rw [Nat.add_zero] at hc0
          have hx1 : (x == 0) = true := by
            have := hx9.out
            rw [List.getElem?_eq_getElem (by omega), hx] at this
            cases this
            simpa using hx0
          have hi1 : (0 : Int) < (s.length : Int) := by omega
          have hi2 : 0 < s.length := by omega
          have hz2 : ((s.length : Int) == (ns.length : Int)) = true := by have := hsn.out; simp; omega
          have hE2 := hide (ext_trans hE.out hR.out)
          replace hx := hide hx
          clear hXk
          go_wp2_with fail
          go_ret
          exact ⟨rfl, hE2.out⟩

set_option maxHeartbeats 3200000 in
theorem fnLagQuiet.walk (a0 : Option Addr) (n0 c0 : Nat) (w : World) (w0 : CodeR w a0 n0 c0) :
    Calls Try.prog 7 #[.slice a0 n0 c0] w fun e w' => e = .returned (.bool true) ∧ Below w.heap.size w w' := by
  have hm := len64c w0
  by_cases hn : 1048576 < n0
  · go_enter Try.func7, Try.ntmps7
    go_wp2
    go_ret
    exact ⟨rfl, ext_refl _⟩
  · go_enter Try.func7, Try.ntmps7
    go_wp2_with fail
    refine (drawChainQuiet_any w0).mono ?_
    rintro e w1 ⟨A, c, v, ns, rfl, hl1, hl5, hlow, hlc, hcm, hN, hE⟩
    replace hE := hide hE
    have hb := hlow.bulk hl5
    obtain ⟨q, hq⟩ := chQuiet_decides v ns
    obtain ⟨s, hs⟩ := lagRes_ex v ns
    have hsl := lagRes_len hs
    replace hs := hide hs
    replace hq := hide hq
    replace hlow := hide hlow
    have P := hide (Blk.newAt (w1) 25 #[.int .i64 v, .slice A ns.length c] (g := (w1).heap.size) (by simp))
    replace hN := hide (hN.out.ext (ext_alloc (ext_refl (w1)) (.cells #[.int .i64 v, .slice A ns.length c] 25)))
    replace hE := hide (ext_alloc hE.out (.cells #[.int .i64 v, .slice A ns.length c] 25))
    go_wp2_with fail
    refine (implChainQuiet_any c v hN.out hb hq.out).mono ?_
    rintro e w2 ⟨rfl, hF⟩
    replace hN := hide (hN.out.ext hF)
    replace P := hide (P.out.ext hF)
    try clear P_0 P_1 P_lt
    obtain ⟨P_0, P_1, P_lt⟩ := P.out.at2
    replace hE := hide (ext_trans hE.out hF)
    clear hF
    go_wp2_with fail
    refine (specChainQuiet_any c v hN.out hb hlc hq.out).mono ?_
    rintro e w3 ⟨rfl, hF⟩
    replace hN := hide (hN.out.ext hF)
    replace P := hide (P.out.ext hF)
    try clear P_0 P_1 P_lt
    obtain ⟨P_0, P_1, P_lt⟩ := P.out.at2
    replace hE := hide (ext_trans hE.out hF)
    clear hF
    cases q with
    | false =>
      go_wp2_with fail
      go_ret
      exact ⟨rfl, hE.out⟩
    | true =>
      obtain ⟨hsn, hz⟩ := lagRes_quiet hs.out (hq.out.1 rfl)
      replace hsn := hide hsn
      replace hz := hide hz
      go_wp2_with fail
      refine (implChainLag_any c v hN.out hb hs.out).mono ?_
      intro e w4 hG
      obtain ⟨A2, c2, rfl, hW, hF⟩ := hG.useR
      have hX := hW
      clear hG hW hs hq
      replace hN := hide (hN.out.ext hF)
      replace P := hide (P.out.ext hF)
      try clear P_0 P_1 P_lt
      obtain ⟨P_0, P_1, P_lt⟩ := P.out.at2
      replace hE := hide (ext_trans hE.out hF)
      clear hF
      go_wp2_with fail
      go_loop [7] (fun i => ∃ k : Nat, k ≤ s.length ∧ i = .int .i64 k) (fun i => s.length - (intOf i).toNat)
      case atStart => exact ⟨0, Nat.zero_le _, rfl⟩
      case round =>
        obtain ⟨k, hk, rfl⟩ := hrel
        by_cases hlt : k < s.length
        · have hd : decide ((k : Int) < (s.length : Int)) = true := by simp; omega
          obtain ⟨b, o, x, hA, hbl, hx, hc0⟩ := int_at hX.out hlt
          subst hA
          obtain rfl : x = 0 := hz.out k x (by rw [List.getElem?_eq_getElem hlt, hx])
          have hi0 : (0 : Int) ≤ (k : Int) := by omega
          have hi1 : (k : Int) < (s.length : Int) := by omega
          replace hx := hide hx
          go_wp2
          go_round
          case rel => exact ⟨k + 1, by omega, by go_num⟩
          case measure => simp [intOf]; omega
        · have hd : decide ((k : Int) < (s.length : Int)) = false := by simp; omega
          have hz2 : ((s.length : Int) == (ns.length : Int)) = true := by have := hsn.out; simp; omega
          go_wp2_with fail
          go_ret
          exact ⟨rfl, hE.out⟩
end Go.Proofs.Ytkmfjiepkdidgaa
