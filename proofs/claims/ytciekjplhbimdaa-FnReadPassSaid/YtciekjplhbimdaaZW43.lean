/-
  The walk of the law FnReadPass over the turned program: it returns true for every input, and leaves its arguments as they were.
-/
import Derived.Test.YtciekjplhbimdaaZChain5
import Derived.Test.YtciekjplhbimdaaZCDraw7
import Derived.Test.YtciekjplhbimdaaZChain13
import Derived.Test.YtciekjplhbimdaaZChain14
import Derived.Test.YtciekjplhbimdaaZCExact2
import Derived.Test.YtciekjplhbimdaaZQE
import Derived.Test.YtciekjplhbimdaaZSame
set_option linter.all false
set_option maxRecDepth 100000
namespace Go.Proofs.YtciekjplhbimdaaZ
open Go.RowKit
attribute [local go_sem ↓] Go.wp_at_zero Go.wp_at_succ

set_option maxHeartbeats 6400000 in
theorem fnReadPass.walk (a0 : Option Addr) (n0 c0 : Nat) (a1 : Option Addr) (n1 c1 : Nat) (w : World) (w0 : CodeR w a0 n0 c0) (w1 : CodeR w a1 n1 c1) :
    Calls Alt.prog 6 #[.slice a0 n0 c0, .slice a1 n1 c1] w fun e w' => e = .returned (.bool true) ∧ Below w.heap.size w w' := by
  have hm : n0 ≤ 9223372036854775807 := by have := w0.1; have := w0.2.1; unfold maxLen at this; omega
  have hm1 : n1 ≤ 9223372036854775807 := by have := w1.1; have := w1.2.1; unfold maxLen at this; omega
  by_cases hn : 1048576 < n0
  · go_enter Alt.func6, Try.ntmps6
    go_wp2
    go_ret
    exact ⟨rfl, ext_refl _⟩
  by_cases hn2 : 1048576 < n1
  · go_enter Alt.func6, Try.ntmps6
    go_wp2_with fail
    go_ret
    exact ⟨rfl, ext_refl _⟩
  · go_enter Alt.func6, Try.ntmps6
    go_wp2_with fail
    refine (drawChainPass_anyB w0).mono ?_
    rintro e w1 ⟨A, c, v, ns, at_, rfl, hl1, hl5, hlow, hlc, hcm, hN, hE, hat⟩
    replace hE := hide hE
    have hwz : IntKind.i64.wrap (at_ + 2) = at_ + 2 := IntWalk.i64_in _ (by omega)
    replace hat := hide hat
    have hb := hlow.bulk hl5
    obtain ⟨rv, rl, rb, hs⟩ := passRes_ex v ns at_
    have hms := passRes_small hs
    replace hs := hide hs
    replace hlow := hide hlow
    have P := hide (Blk.newAt (w1) 25 #[.int .i64 v, .slice A ns.length c] (g := (w1).heap.size) (by simp))
    replace hN := hide (hN.out.ext (ext_alloc (ext_refl (w1)) (.cells #[.int .i64 v, .slice A ns.length c] 25)))
    replace hE := hide (ext_alloc hE.out (.cells #[.int .i64 v, .slice A ns.length c] 25))
    go_wp2_with fail
    refine (implChainPass_any c v at_ hN.out hb hs.out).mono ?_
    intro e w2 hG
    obtain ⟨A2, c2, rfl, -, -, hX, hF⟩ := hG.use
    replace hX := hide hX.out.read
    clear hG
    replace hN := hide (hN.out.ext hF)
    replace P := hide (P.out.ext hF)
    try clear P_0 P_1 P_lt
    obtain ⟨P_0, P_1, P_lt⟩ := P.out.at2
    replace hE := hide (ext_trans hE.out hF)
    clear hF
    have X := hide (Blk.newAt (w2) 25 #[.int .i64 rv, .slice A2 rl.length c2] (g := (w2).heap.size) (by simp))
    replace hN := hide (hN.out.ext (ext_alloc (ext_refl (w2)) (.cells #[.int .i64 rv, .slice A2 rl.length c2] 25)))
    replace hX := hide (hX.out.ext (ext_alloc (ext_refl (w2)) (.cells #[.int .i64 rv, .slice A2 rl.length c2] 25)))
    replace P := hide (P.out.ext (ext_alloc (ext_refl (w2)) (.cells #[.int .i64 rv, .slice A2 rl.length c2] 25)))
    replace hE := hide (ext_alloc hE.out (.cells #[.int .i64 rv, .slice A2 rl.length c2] 25))
    go_wp2_with fail
    refine (specChainPass_any c v at_ hN.out hb hlc hs.out).mono ?_
    intro e w3 hG
    obtain ⟨A3, c3, rfl, -, -, hY, hF⟩ := hG.use
    replace hY := hide hY.out.read
    clear hG
    replace hN := hide (hN.out.ext hF)
    replace hX := hide (hX.out.ext hF)
    replace P := hide (P.out.ext hF)
    replace X := hide (X.out.ext hF)
    try clear P_0 P_1 P_lt
    obtain ⟨P_0, P_1, P_lt⟩ := P.out.at2
    try clear X_0 X_1 X_lt
    obtain ⟨X_0, X_1, X_lt⟩ := X.out.at2
    replace hE := hide (ext_trans hE.out hF)
    clear hF
    have Y := hide (Blk.newAt (w3) 25 #[.int .i64 rv, .slice A3 rl.length c3] (g := (w3).heap.size) (by simp))
    replace hN := hide (hN.out.ext (ext_alloc (ext_refl (w3)) (.cells #[.int .i64 rv, .slice A3 rl.length c3] 25)))
    replace hX := hide (hX.out.ext (ext_alloc (ext_refl (w3)) (.cells #[.int .i64 rv, .slice A3 rl.length c3] 25)))
    replace hY := hide (hY.out.ext (ext_alloc (ext_refl (w3)) (.cells #[.int .i64 rv, .slice A3 rl.length c3] 25)))
    replace P := hide (P.out.ext (ext_alloc (ext_refl (w3)) (.cells #[.int .i64 rv, .slice A3 rl.length c3] 25)))
    replace X := hide (X.out.ext (ext_alloc (ext_refl (w3)) (.cells #[.int .i64 rv, .slice A3 rl.length c3] 25)))
    replace hE := hide (ext_alloc hE.out (.cells #[.int .i64 rv, .slice A3 rl.length c3] 25))
    go_wp2_with fail
    refine (sameChain_same c2 c3 rv hX.out hY.out hms).mono ?_
    rintro e w4 ⟨rfl, hF⟩
    replace hN := hide (hN.out.ext hF)
    replace hX := hide (hX.out.ext hF)
    replace hY := hide (hY.out.ext hF)
    replace P := hide (P.out.ext hF)
    replace X := hide (X.out.ext hF)
    replace Y := hide (Y.out.ext hF)
    try clear P_0 P_1 P_lt
    obtain ⟨P_0, P_1, P_lt⟩ := P.out.at2
    try clear X_0 X_1 X_lt
    obtain ⟨X_0, X_1, X_lt⟩ := X.out.at2
    try clear Y_0 Y_1 Y_lt
    obtain ⟨Y_0, Y_1, Y_lt⟩ := Y.out.at2
    replace hE := hide (ext_trans hE.out hF)
    clear hF
    cases rb with
    | false =>
      go_wp2_with fail
      refine (sameChain_same c2 c3 rv hX.out hY.out hms).mono ?_
      rintro e w5 ⟨rfl, hF⟩
      replace hE := hide (ext_trans hE.out hF)
      clear hF
      go_wp2_with fail
      go_ret
      exact ⟨rfl, hE.out⟩
    | true =>
      obtain ⟨k, x, y, u, hT, hu, rfl, hrl⟩ := pass_yes hs.out
      have hok' := passAt_ok hT hu
      obtain ⟨hok, rfl, hx, hy, hne⟩ := hT
      rw [← hrl] at hok'
      have hlen : rl.length = ns.length := by rw [hrl]; simp
      have hkl := getElem_some hy
      obtain ⟨m, hmm⟩ : ∃ m : Nat, m = n1 % 5 := ⟨_, rfl⟩
      have hrm : (n1 : Int).tmod 5 = (m : Int) := by rw [hmm]; exact (Int.ofNat_tmod n1 5).symm
      have hm4 : m ≤ 4 := by omega
      obtain ⟨r1, p1, hR1⟩ := rdRes_ex rv ns (m : Int)
      obtain ⟨z2, hz2⟩ : ∃ z2, (k : Int) + 2 = z2 := ⟨_, rfl⟩
      rw [hz2] at hwz
      by_cases hlast : k + 2 = ns.length
      · obtain ⟨r2, p2, hR2⟩ := rdRes_ex rv rl (m : Int)
        have hd9 : (z2 == (ns.length : Int)) = true := by simp; omega
        replace hok' := hide hok'
        replace hrl := hide hrl
        replace hlen := hide hlen
        replace hmm := hide hmm
        replace hR1 := hide hR1
        replace hR2 := hide hR2
        replace hlast := hide hlast
        replace hx := hide hx
        replace hy := hide hy
        replace hu := hide hu
        replace hok := hide hok
        clear hs hY Y Y_0 Y_1 Y_lt
        go_wp2_with fail
        refine (implChainRead_any c rv m r1 p1 hN.out hb hR1.out).mono ?_
        rintro e w5 ⟨rfl, hF⟩
        replace hN := hide (hN.out.ext hF)
        replace hX := hide (hX.out.ext hF)
        replace P := hide (P.out.ext hF)
        replace X := hide (X.out.ext hF)
        try clear P_0 P_1 P_lt
        obtain ⟨P_0, P_1, P_lt⟩ := P.out.at2
        try clear X_0 X_1 X_lt
        obtain ⟨X_0, X_1, X_lt⟩ := X.out.at2
        replace hE := hide (ext_trans hE.out hF)
        clear hF
        go_wp2_with fail
        refine (implChainRead_any c2 rv m r2 p2 hX.out hms hR2.out).mono ?_
        rintro e w6 ⟨rfl, hF⟩
        replace P := hide (P.out.ext hF)
        try clear P_0 P_1 P_lt
        obtain ⟨P_0, P_1, P_lt⟩ := P.out.at2
        replace hE := hide (ext_trans hE.out hF)
        clear hF
        go_wp2_with fail
        go_ret
        exact ⟨by simp, hE.out⟩
      · have hR2 : RdRes rv rl (m : Int) r1 p1 := by
          rcases hR1 with ⟨g1, g2, n9, g3, g4⟩ | ⟨g1, -⟩
          · refine .inl ⟨hok', g2, n9, ?_, g4⟩
            rw [hlen, hrl, set_off (by omega)]
            exact g3
          · exact absurd ⟨hok, by omega, by omega⟩ g1
        have hd9 : (z2 == (ns.length : Int)) = false := by simp; omega
        replace hok' := hide hok'
        replace hrl := hide hrl
        replace hlen := hide hlen
        replace hmm := hide hmm
        replace hR1 := hide hR1
        replace hR2 := hide hR2
        replace hlast := hide hlast
        replace hx := hide hx
        replace hy := hide hy
        replace hu := hide hu
        replace hok := hide hok
        clear hs hY Y Y_0 Y_1 Y_lt
        go_wp2_with fail
        refine (implChainRead_any c rv m r1 p1 hN.out hb hR1.out).mono ?_
        rintro e w5 ⟨rfl, hF⟩
        replace hN := hide (hN.out.ext hF)
        replace hX := hide (hX.out.ext hF)
        replace P := hide (P.out.ext hF)
        replace X := hide (X.out.ext hF)
        try clear P_0 P_1 P_lt
        obtain ⟨P_0, P_1, P_lt⟩ := P.out.at2
        try clear X_0 X_1 X_lt
        obtain ⟨X_0, X_1, X_lt⟩ := X.out.at2
        replace hE := hide (ext_trans hE.out hF)
        clear hF
        go_wp2_with fail
        refine (implChainRead_any c2 rv m r1 p1 hX.out hms hR2.out).mono ?_
        rintro e w6 ⟨rfl, hF⟩
        replace P := hide (P.out.ext hF)
        try clear P_0 P_1 P_lt
        obtain ⟨P_0, P_1, P_lt⟩ := P.out.at2
        replace hE := hide (ext_trans hE.out hF)
        clear hF
        go_wp2_with fail
        go_ret
        exact ⟨by simp, hE.out⟩
end Go.Proofs.YtciekjplhbimdaaZ
