/-
  The walk of the law FnRead: it returns true for every input, and leaves its arguments as they were.
-/
import Derived.Test.YtkmfjiepkdidgaaCDraw5
import Derived.Test.YtkmfjiepkdidgaaCLaw
import Derived.Test.YtkmfjiepkdidgaaFrame2
set_option linter.all false
set_option maxRecDepth 100000
namespace Go.Proofs.Ytkmfjiepkdidgaa
open Go.RowKit
attribute [local go_sem ↓] Go.wp_at_zero Go.wp_at_succ

set_option maxHeartbeats 3200000 in
theorem fnRead.walk (a0 : Option Addr) (n0 c0 : Nat) (w : World) (w0 : CodeR w a0 n0 c0) :
    Calls Try.prog 13 #[.slice a0 n0 c0] w fun e w' => e = .returned (.bool true) ∧ Below w.heap.size w w' := by
  have hm := len64c w0
  by_cases hn : 1048576 < n0
  · go_enter Try.func13, Try.ntmps13
    go_wp2
    go_ret
    exact ⟨rfl, ext_refl _⟩
  · go_enter Try.func13, Try.ntmps13
    go_wp2_with fail
    refine (drawChainRead_any w0).mono ?_
    rintro e w1 ⟨A, c, v, ns, key, rfl, hl1, hl5, hlow, hlc, hcm, hN, hE⟩
    replace hE := hide hE
    have hb := hlow.bulk hl5
    obtain ⟨r, rb, hs⟩ := rdRes_ex v ns key
    replace hs := hide hs
    replace hlow := hide hlow
    have P := hide (Blk.newAt (w1) 25 #[.int .i64 v, .slice A ns.length c] (g := (w1).heap.size) (by simp))
    replace hN := hide (hN.out.ext (ext_alloc (ext_refl (w1)) (.cells #[.int .i64 v, .slice A ns.length c] 25)))
    replace hE := hide (ext_alloc hE.out (.cells #[.int .i64 v, .slice A ns.length c] 25))
    go_wp2_with fail
    refine (implChainRead_any c v key r rb hN.out hb hs.out).mono ?_
    rintro e w2 ⟨rfl, hF⟩
    replace hN := hide (hN.out.ext hF)
    replace P := hide (P.out.ext hF)
    try clear P_0 P_1 P_lt
    obtain ⟨P_0, P_1, P_lt⟩ := P.out.at2
    replace hE := hide (ext_trans hE.out hF)
    clear hF
    go_wp2_with fail
    refine (specChainRead_any c v key r rb hN.out hb hlc hs.out).mono ?_
    rintro e w3 ⟨rfl, hF⟩
    replace hN := hide (hN.out.ext hF)
    replace P := hide (P.out.ext hF)
    try clear P_0 P_1 P_lt
    obtain ⟨P_0, P_1, P_lt⟩ := P.out.at2
    replace hE := hide (ext_trans hE.out hF)
    clear hF
    cases rb with
    | false =>
      go_wp2_with fail
      go_ret
      exact ⟨rfl, hE.out⟩
    | true =>
      obtain ⟨n, s, hn9, hst, hs5, hl12, -, k, rfl, hk, hkr⟩ := rdRes_use hs.out
      replace hkr := hide hkr
      replace hst := hide hst
      replace hs := hide hs
      go_wp2_with fail
      refine (lawsTailOf_any c v hN.out hb hl1).mono ?_
      rintro e w4 ⟨x, l, j, B, d, hn, rfl, hld, hdm, hL, hF⟩
      rw [hn9] at hn
      cases hn
      replace hL := hide hL
      replace hn9 := hide hn9
      have hfd := fun w' => run_field_log x j B l.length d w'
      replace hE := hide (ext_trans hE.out hF)
      clear hF
      go_wp2_with fail
      refine (implStateOf_s d hL.out rfl (show l.length ≤ 1048576 by have : l.length ≤ 12 := hl12; omega) hld hst.out).mono ?_
      intro e w5 hG
      obtain ⟨A2, c2, rfl, hW, hF⟩ := hG.useR
      have hX := hW.out
      clear hG hW
      obtain ⟨b, o, x5, hA, hbl, hx, hc0⟩ := int_at hX (show k < s.length by omega)
      subst hA
      obtain rfl : x5 = r := by
        have := hkr.out
        rw [List.getElem?_eq_getElem (by omega), hx] at this
        exact Option.some.inj this
      replace hE := hide (ext_trans hE.out hF)
      have hz : ((s.length : Int) == 5) = true := by simp; omega
      have hi0 : (0 : Int) ≤ (k : Int) := by omega
      have hi1 : (k : Int) < (s.length : Int) := by omega
      have hi2 : k < s.length := by omega
      replace hx := hide hx
      replace hs5 := hide hs5
      clear hX hF
      go_wp2_with fail
      go_ret
      exact ⟨rfl, hE.out⟩
end Go.Proofs.Ytkmfjiepkdidgaa
