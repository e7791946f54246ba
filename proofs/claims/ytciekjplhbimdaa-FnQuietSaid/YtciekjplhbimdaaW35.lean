/-
  The walk of the law FnQuiet: it returns true for every input, and leaves its arguments as they were.
-/
import Derived.Test.YtciekjplhbimdaaCDraw5
import Derived.Test.YtciekjplhbimdaaChain12
import Derived.Test.YtciekjplhbimdaaFrame2
set_option linter.all false
set_option maxRecDepth 100000
namespace Go.Proofs.Ytciekjplhbimdaa
open Go.RowKit
attribute [local go_sem ↓] Go.wp_at_zero Go.wp_at_succ

theorem len64q {n c : Nat} {w : World} {a : Option Addr} (h : CodeR w a n c) : n ≤ 9223372036854775807 := by have := h.1; have := h.2.1; unfold maxLen at this; omega
theorem quiet_pass {v at_ : Int} {ns : List Nd} (h : ChQuiet v ns) : ¬ ∃ k x y, PassAt v ns at_ k x y := by
  rintro ⟨k, x, y, hok, -, hx, hy, hne⟩
  obtain ⟨m, hm⟩ : ∃ m, ns[0]? = some m := ⟨_, List.getElem?_eq_getElem (by have := getElem_some hx; omega)⟩
  have h1 := h.2 k (getElem_some hx) x hx m hm
  have h2 := h.2 (k + 1) (getElem_some hy) y hy m hm
  exact hne (by rw [h1.1, h2.1])
theorem quiet_tell {v at_ : Int} {ns : List Nd} (h : ChQuiet v ns) : ¬ ∃ k x y, TellAt v ns at_ k x y := by
  rintro ⟨k, x, y, hok, -, hx, hy, hne⟩
  obtain ⟨m, hm⟩ : ∃ m, ns[0]? = some m := ⟨_, List.getElem?_eq_getElem (by have := getElem_some hx; omega)⟩
  have h1 := h.2 k (getElem_some hx) x hx m hm
  have h2 := h.2 (k + 1) (getElem_some hy) y hy m hm
  exact hne (by rw [h1.2, h2.2])
set_option maxHeartbeats 3200000 in
theorem fnQuiet.walk (a0 : Option Addr) (n0 c0 : Nat) (a1 : Option Addr) (n1 c1 : Nat) (w : World) (w0 : CodeR w a0 n0 c0) (w1 : CodeR w a1 n1 c1) :
    Calls Try.prog 3 #[.slice a0 n0 c0, .slice a1 n1 c1] w fun e w' => e = .returned (.bool true) ∧ Below w.heap.size w w' := by
  have hm := len64q w0
  have hm1 := len64q w1
  by_cases hn : 1048576 < n0
  · go_enter Try.func3, Try.ntmps3
    go_wp2
    go_ret
    exact ⟨rfl, ext_refl _⟩
  by_cases hn2 : 1048576 < n1
  · go_enter Try.func3, Try.ntmps3
    go_wp2
    go_ret
    exact ⟨rfl, ext_refl _⟩
  · go_enter Try.func3, Try.ntmps3
    go_wp2_with fail
    refine (drawChainQuiet_any w0).mono ?_
    rintro e w1 ⟨A, c, v, ns, rfl, hl1, hl5, hlow, hlc, hcm, hN, hE⟩
    replace hE := hide hE
    have hb := hlow.bulk hl5
    obtain ⟨q, hq⟩ := chQuiet_decides v ns
    replace hq := hide hq
    replace hlow := hide hlow
    have P := hide (Blk.newAt (w1) 25 #[.int .i64 v, .slice A ns.length c] (g := (w1).heap.size) (by simp))
    replace hN := hide (hN.out.ext (ext_alloc (ext_refl (w1)) (.cells #[.int .i64 v, .slice A ns.length c] 25)))
    replace hE := hide (ext_alloc hE.out (.cells #[.int .i64 v, .slice A ns.length c] 25))
    go_wp2_with fail
    refine (implChainQuiet_any c v hN.out hb hq.out).mono ?_
    rintro e w2 ⟨rfl, hF⟩
    replace hN := hide (hN.out.ext hF)
    replace P := hide (P.out.ext hF)
    try clear P_0 P_1 P_lt
    obtain ⟨P_0, P_1, P_lt⟩ := P.out.at2
    replace hE := hide (ext_trans hE.out hF)
    clear hF
    go_wp2_with fail
    refine (specChainQuiet_any c v hN.out hb hlc hq.out).mono ?_
    rintro e w3 ⟨rfl, hF⟩
    replace hN := hide (hN.out.ext hF)
    replace P := hide (P.out.ext hF)
    try clear P_0 P_1 P_lt
    obtain ⟨P_0, P_1, P_lt⟩ := P.out.at2
    replace hE := hide (ext_trans hE.out hF)
    clear hF
    cases q with
    | false =>
      go_wp2_with fail
      go_ret
      exact ⟨rfl, hE.out⟩
    | true =>
      have hqt := hq.out.1 rfl
      have hok := hide hqt.1
      obtain ⟨m, hmm⟩ : ∃ m : Nat, m = n1 % ns.length := ⟨_, rfl⟩
      have hrm : (n1 : Int).tmod (ns.length : Int) = (m : Int) := by rw [hmm]; exact (Int.ofNat_tmod n1 ns.length).symm
      have hml : m ≤ 5 := by have := Nat.mod_lt n1 (show 0 < ns.length by omega); omega
      have hnz : ((ns.length : Int) == 0) = false := beq_eq_false_iff_ne.2 (by omega)
      have hnz2 : ¬ (ns.length : Int) = 0 := by omega
      have hnz3 : ¬ ns.length = 0 := by omega
      have hno1 := hide (quiet_pass (at_ := (m : Int)) hqt)
      have hno2 := hide (quiet_tell (at_ := (m : Int)) hqt)
      replace hmm := hide hmm
      clear hq hqt
      go_wp2_with fail
      refine (implChainPass_no c v m hN.out hb hno1.out).mono ?_
      intro e w4 hG
      obtain ⟨A4, c4, rfl, -, -, -, hF⟩ := hG.use
      clear hG
      replace hN := hide (hN.out.ext hF)
      replace P := hide (P.out.ext hF)
      try clear P_0 P_1 P_lt
      obtain ⟨P_0, P_1, P_lt⟩ := P.out.at2
      replace hE := hide (ext_trans hE.out hF)
      clear hF
      have X := hide (Blk.newAt (w4) 25 #[.int .i64 0, .slice A4 0 c4] (g := (w4).heap.size) (by simp))
      replace hN := hide (hN.out.ext (ext_alloc (ext_refl (w4)) (.cells #[.int .i64 0, .slice A4 0 c4] 25)))
      replace P := hide (P.out.ext (ext_alloc (ext_refl (w4)) (.cells #[.int .i64 0, .slice A4 0 c4] 25)))
      replace hE := hide (ext_alloc hE.out (.cells #[.int .i64 0, .slice A4 0 c4] 25))
      try clear P_0 P_1 P_lt
      obtain ⟨P_0, P_1, P_lt⟩ := P.out.at2
      go_wp2_with fail
      refine (implChainTell_any c v m hN.out hb (.inr ⟨hno2.out, rfl, rfl, rfl⟩)).mono ?_
      intro e w5 hG
      obtain ⟨A5, c5, rfl, -, -, -, hF⟩ := hG.use
      clear hG
      replace hN := hide (hN.out.ext hF)
      replace P := hide (P.out.ext hF)
      try clear P_0 P_1 P_lt
      obtain ⟨P_0, P_1, P_lt⟩ := P.out.at2
      replace hE := hide (ext_trans hE.out hF)
      clear hF
      have Y := hide (Blk.newAt (w5) 25 #[.int .i64 0, .slice A5 0 c5] (g := (w5).heap.size) (by simp))
      replace hN := hide (hN.out.ext (ext_alloc (ext_refl (w5)) (.cells #[.int .i64 0, .slice A5 0 c5] 25)))
      replace P := hide (P.out.ext (ext_alloc (ext_refl (w5)) (.cells #[.int .i64 0, .slice A5 0 c5] 25)))
      replace hE := hide (ext_alloc hE.out (.cells #[.int .i64 0, .slice A5 0 c5] 25))
      try clear P_0 P_1 P_lt
      obtain ⟨P_0, P_1, P_lt⟩ := P.out.at2
      go_wp2_with fail
      refine (implChainValid_yes c v hN.out hb hok.out).mono ?_
      rintro e w6 ⟨rfl, hF⟩
      replace hE := hide (ext_trans hE.out hF)
      clear hF
      go_wp2_with fail
      go_ret
      exact ⟨by simp, hE.out⟩
end Go.Proofs.Ytciekjplhbimdaa
