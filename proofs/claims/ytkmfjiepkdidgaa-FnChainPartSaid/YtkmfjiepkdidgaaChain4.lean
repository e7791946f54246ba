/-
  Contracts: quiet chains, both; what the tail has at a key, both.
-/
import Derived.Test.YtkmfjiepkdidgaaChain3
set_option linter.all false
set_option maxRecDepth 100000
namespace Go.Proofs.Ytkmfjiepkdidgaa
open Go.RowKit
attribute [local go_sem ↓] Go.wp_at_zero Go.wp_at_succ

/-- The node is as the head is, and knows all to be everywhere. -/
def Still (ns : List Nd) (i : Nat) : Prop := ∀ n, ns[i]? = some n → ∀ m, ns[0]? = some m → n.log.length = m.log.length ∧ n.done = m.log.length
def ChQuiet (v : Int) (ns : List Nd) : Prop := ChOk v ns ∧ ∀ i, i < ns.length → Still ns i
theorem chQuiet_decides (v : Int) (ns : List Nd) : ∃ b : Bool, b = true ↔ ChQuiet v ns := by
  by_cases h : ChQuiet v ns
  · exact ⟨true, by simp [h]⟩
  · exact ⟨false, by simp [h]⟩
theorem node_first {w : World} {A : Option Addr} {ns : List Nd} (h : NodesR w A ns) (hi : 0 < ns.length) :
    ∃ b o x l j B d, A = some ⟨b, o, none⟩ ∧ b < w.heap.size ∧ ns[0]? = some ⟨x, l, j⟩ ∧ l.length ≤ d ∧ d ≤ maxLen ∧ LogR w B l ∧ w.cell? ⟨b, o, none⟩ = some (.int .i64 x) ∧
      w.cell? ⟨b, o + 1, none⟩ = some (.slice B l.length d) ∧ w.cell? ⟨b, o + 2, none⟩ = some (.int .i64 j) := by
  obtain ⟨b, o, x, l, j, B, d, hA, hbl, hn, hld, hdm, hB, c0, c1, c2, c1', c2'⟩ := node_at h hi
  exact ⟨b, o, x, l, j, B, d, hA, hbl, hn, hld, hdm, hB, by simpa using c0, by simpa using c1', by simpa using c2'⟩

theorem implChainValid_yes {A : Option Addr} {ns : List Nd} (c : Nat) (v : Int) {w : World} (h : NodesR w A ns) (hb : bulk ns ≤ 1048576) (hok : ChOk v ns) :
    Calls Try.prog 16 #[.agg #[.int .i64 v, .slice A ns.length c]] w fun e w' => e = .returned (.bool true) ∧ Ext w w' := implChainValid_any c v h hb ⟨fun _ => hok, fun _ => rfl⟩
theorem implChainValid_no {A : Option Addr} {ns : List Nd} (c : Nat) (v : Int) {w : World} (h : NodesR w A ns) (hb : bulk ns ≤ 1048576) (hok : ¬ ChOk v ns) :
    Calls Try.prog 16 #[.agg #[.int .i64 v, .slice A ns.length c]] w fun e w' => e = .returned (.bool false) ∧ Ext w w' := implChainValid_any c v h hb ⟨fun h => (by cases h), fun h => absurd h hok⟩
theorem specChainValid_yes {A : Option Addr} {ns : List Nd} (c : Nat) (v : Int) {w : World} (h : NodesR w A ns) (hb : bulk ns ≤ 1048576) (hlc : ns.length ≤ c) (hok : ChOk v ns) :
    Calls Try.prog 17 #[.agg #[.int .i64 v, .slice A ns.length c]] w fun e w' => e = .returned (.bool true) ∧ Ext w w' := specChainValid_any c v h hb hlc ⟨fun _ => hok, fun _ => rfl⟩
theorem specChainValid_no {A : Option Addr} {ns : List Nd} (c : Nat) (v : Int) {w : World} (h : NodesR w A ns) (hb : bulk ns ≤ 1048576) (hlc : ns.length ≤ c) (hok : ¬ ChOk v ns) :
    Calls Try.prog 17 #[.agg #[.int .i64 v, .slice A ns.length c]] w fun e w' => e = .returned (.bool false) ∧ Ext w w' := specChainValid_any c v h hb hlc ⟨fun h => (by cases h), fun h => absurd h hok⟩
set_option maxHeartbeats 3200000 in
theorem implChainQuiet_any {A : Option Addr} {ns : List Nd} {q : Bool} (c : Nat) (v : Int) {w : World} (h : NodesR w A ns) (hb : bulk ns ≤ 1048576) (hq : q = true ↔ ChQuiet v ns) :
    Calls Try.prog 25 #[.agg #[.int .i64 v, .slice A ns.length c]] w fun e w' => e = .returned (.bool q) ∧ Ext w w' := by
  have hl := bulk_len ns
  have hE := hide (ext_alloc (ext_refl w) (.cells #[.int .i64 v, .slice A ns.length c] 25))
  have hN := hide (h.ext hE.out)
  have bC := hide (Blk.newAt w 25 #[.int .i64 v, .slice A ns.length c] (g := w.heap.size) rfl)
  clear h
  replace hq := hide hq
  by_cases hok : ChOk v ns
  · have hlen := hok.2.1
    replace hok := hide hok
    go_enter Try.func25, Try.ntmps25
    go_wp2_with fail
    refine (implChainValid_yes c v hN.out hb hok.out).mono ?_
    rintro e w1 ⟨rfl, hF⟩
    replace hN := hide (hN.out.ext hF)
    replace bC := hide (bC.out.ext hF)
    try clear bC_0 bC_1 bC_lt
    obtain ⟨bC_0, bC_1, bC_lt⟩ := bC.out.at2
    replace hE := hide (ext_trans hE.out hF)
    clear hF
    obtain ⟨b, o, x0, l0, j0, B0, d0, hA, hbl, hn0, hld, hdm, hB0, a0, a1, a2⟩ := node_first hN.out (by omega)
    subst hA
    replace hn0 := hide hn0
    have hlm0 : l0.length ≤ 1048576 := bulk_of hb hn0.out
    go_wp2_with fail
    go_loopw [18] (fun i wr => ∃ k : Nat, k ≤ ns.length ∧ i = .int .i64 k ∧ Hid (Ext w1 wr) ∧ Hid (∀ j, j < k → Still ns j)) (fun i _ => ns.length - (intOf i).toNat)
    case atStart => exact ⟨0, Nat.zero_le _, rfl, hide (ext_refl _), hide (fun j hj => absurd hj (Nat.not_lt_zero _))⟩
    case round =>
      obtain ⟨k, hk, rfl, hR, hT⟩ := hrel
      by_cases hlt : k < ns.length
      · obtain ⟨b2, o2, x, l, j, B, d, hA, hbl2, hn, hld, hdm, hB, c0, c1, c2, c1', c2'⟩ := node_at (hN.out.ext hR.out) hlt
        cases hA
        replace hn := hide hn
        have hlm : l.length ≤ 1048576 := bulk_of hb hn.out
        clear hB
        by_cases h1 : l.length = l0.length
        · have ht1 : ((l.length : Int) != (l0.length : Int)) = false := by rw [bne_eq_false_iff_eq]; omega
          by_cases h2 : j = l0.length
          · have ht2 : (j != (l0.length : Int)) = false := by rw [bne_eq_false_iff_eq]; exact h2
            replace h1 := hide h1
            replace h2 := hide h2
            go_wp2_with fail
            go_roundw
            case rel =>
              refine ⟨k + 1, by omega, by go_num, hide (ext_alloc hR.out _), hide (fun j' hj' => ?_)⟩
              by_cases e : j' = k
              · subst e
                intro n hn' m hm'
                rw [hn.out] at hn'
                rw [hn0.out] at hm'
                cases hn'
                cases hm'
                exact ⟨h1.out, h2.out⟩
              · exact hT.out j' (by omega)
            case measure => simp [intOf]; omega
          · have ht2 : (j != (l0.length : Int)) = true := by simpa using h2
            have hf := hide (iff_false hq.out (fun hc => h2 (hc.2 k hlt _ hn.out _ hn0.out).2))
            replace h1 := hide h1
            replace h2 := hide h2
            go_wp2_with fail
            go_ret
            exact ⟨ret_bool hf.out.symm, ext_alloc (ext_trans hE.out hR.out) _⟩
        · have ht1 : ((l.length : Int) != (l0.length : Int)) = true := by simp; omega
          have hf := hide (iff_false hq.out (fun hc => h1 (hc.2 k hlt _ hn.out _ hn0.out).1))
          replace h1 := hide h1
          go_wp2_with fail
          go_ret
          exact ⟨ret_bool hf.out.symm, ext_alloc (ext_trans hE.out hR.out) _⟩
      · have hf := hide (iff_true hq.out ⟨hok.out, fun i hi => hT.out i (by omega)⟩)
        go_wp2_with fail
        go_ret
        exact ⟨ret_bool hf.out.symm, ext_trans hE.out hR.out⟩
  · have hf := hide (iff_false hq.out (fun hc => hok hc.1))
    replace hok := hide hok
    go_enter Try.func25, Try.ntmps25
    go_wp2_with fail
    refine (implChainValid_no c v hN.out hb hok.out).mono ?_
    rintro e w1 ⟨rfl, hF⟩
    replace hE := hide (ext_trans hE.out hF)
    clear hF
    go_wp2_with fail
    go_ret
    exact ⟨ret_bool hf.out.symm, hE.out⟩

set_option maxHeartbeats 3200000 in
theorem specChainQuiet_any {A : Option Addr} {ns : List Nd} {q : Bool} (c : Nat) (v : Int) {w : World} (h : NodesR w A ns) (hb : bulk ns ≤ 1048576) (hlc : ns.length ≤ c) (hq : q = true ↔ ChQuiet v ns) :
    Calls Try.prog 26 #[.agg #[.int .i64 v, .slice A ns.length c]] w fun e w' => e = .returned (.bool q) ∧ Ext w w' := by
  have hl := bulk_len ns
  obtain ⟨r, hr⟩ := chOk_decides v ns
  have hE0 := hide (ext_alloc (ext_refl w) (.cells #[.int .i64 v, .slice A ns.length c] 25))
  have hN0 := hide (h.ext hE0.out)
  have bC0 := hide (Blk.newAt w 25 #[.int .i64 v, .slice A ns.length c] (g := w.heap.size) rfl)
  have hV : ∀ w' : World, NodesR w' A ns → Calls Try.prog 17 #[.agg #[.int .i64 v, .slice A ns.length c]] w' fun e w'' => e = .returned (.bool r) ∧ Ext w' w'' := fun w' h => specChainValid_any c v h hb hlc hr
  clear h
  replace hV := hide hV
  replace hq := hide hq
  replace hr := hide hr
  go_enter Try.func26, Try.ntmps26
  go_wp2_with fail
  go_loopw [3] (fun i wr => ∃ k : Nat, k ≤ ns.length ∧ i = .int .i64 k ∧ Hid (Ext (w.alloc (.cells #[.int .i64 v, .slice A ns.length c] 25)) wr) ∧ Hid (∀ j, j < k → Still ns j)) (fun i _ => ns.length - (intOf i).toNat)
  case atStart => exact ⟨0, Nat.zero_le _, rfl, hide (ext_refl _), hide (fun j hj => absurd hj (Nat.not_lt_zero _))⟩
  case round =>
    obtain ⟨k, hk, rfl, hE, hT⟩ := hrel
    have hN := hide (hN0.out.ext hE.out)
    have bC := hide (bC0.out.ext hE.out)
    try clear bC_0 bC_1 bC_lt
    obtain ⟨bC_0, bC_1, bC_lt⟩ := bC.out.at2
    by_cases hlt : k < ns.length
    · have hd : decide ((k : Int) < (ns.length : Int)) = true := by simp; omega
      cases r with
      | false =>
        have hf := hide (iff_false hq.out (fun hc => by have := hr.out.2 hc.1; cases this))
        go_wp2_with fail
        refine (hV.out _ hN.out).mono ?_
        rintro e w1 ⟨rfl, hF⟩
        replace hN := hide (hN.out.ext hF)
        replace bC := hide (bC.out.ext hF)
        try clear bC_0 bC_1 bC_lt
        obtain ⟨bC_0, bC_1, bC_lt⟩ := bC.out.at2
        replace hE := hide (ext_trans hE.out hF)
        clear hF
        go_wp2_with fail
        refine (hV.out _ hN.out).mono ?_
        rintro e w2 ⟨rfl, hF⟩
        replace hE := hide (ext_trans hE.out hF)
        clear hF
        go_wp2_with fail
        go_ret
        exact ⟨ret_bool hf.out.symm, ext_trans hE0.out hE.out⟩
      | true =>
        go_wp2_with fail
        refine (hV.out _ hN.out).mono ?_
        rintro e w1 ⟨rfl, hF⟩
        replace hN := hide (hN.out.ext hF)
        replace bC := hide (bC.out.ext hF)
        try clear bC_0 bC_1 bC_lt
        obtain ⟨bC_0, bC_1, bC_lt⟩ := bC.out.at2
        replace hE := hide (ext_trans hE.out hF)
        clear hF
        obtain ⟨b, o, x0, l0, j0, B0, d0, hA, hbl, hn0, hld, hdm, hB0, a0, a1, a2⟩ := node_first hN.out (by omega)
        subst hA
        replace hn0 := hide hn0
        obtain ⟨b2, o2, x, l, j, B, d, hA, hbl2, hn, hld2, hdm2, hB, c0, c1, c2, c1', c2'⟩ := node_at hN.out hlt
        cases hA
        replace hn := hide hn
        have hlm : l.length ≤ 1048576 := bulk_of hb hn.out
        have hlm0 : l0.length ≤ 1048576 := bulk_of hb hn0.out
        have hq0 : (0 : Int) ≤ (k : Int) := by omega
        have hq1 : (k : Int) < (ns.length : Int) := by omega
        have hq2 : (0 : Int) < (ns.length : Int) := by omega
        clear hB hB0
        by_cases h1 : l.length = l0.length
        · have ht1 : ((l.length : Int) != (l0.length : Int)) = false := by rw [bne_eq_false_iff_eq]; omega
          by_cases h2 : j = l0.length
          · have ht2 : (j != (l0.length : Int)) = false := by rw [bne_eq_false_iff_eq]; exact h2
            replace h1 := hide h1
            replace h2 := hide h2
            go_wp2_with fail
            go_quiet (fail)
            go_wp2_with fail
            go_roundw
            case rel =>
              refine ⟨k + 1, by omega, by go_num, hide (by first | exact hE.out | exact ext_drewN hE.out _ | exact ext_drew hE.out), hide (fun j' hj' => ?_)⟩
              by_cases e : j' = k
              · subst e
                intro n hn' m hm'
                rw [hn.out] at hn'
                rw [hn0.out] at hm'
                cases hn'
                cases hm'
                exact ⟨h1.out, h2.out⟩
              · exact hT.out j' (by omega)
            case measure => simp [intOf]; omega
          · have ht2 : (j != (l0.length : Int)) = true := by simpa using h2
            have hf := hide (iff_false hq.out (fun hc => h2 (hc.2 k hlt _ hn.out _ hn0.out).2))
            replace h1 := hide h1
            replace h2 := hide h2
            go_wp2_with fail
            go_quiet (fail)
            go_wp2_with fail
            go_ret
            exact ⟨ret_bool hf.out.symm, ext_trans hE0.out (by first | exact hE.out | exact ext_drewN hE.out _ | exact ext_drew hE.out)⟩
        · have ht1 : ((l.length : Int) != (l0.length : Int)) = true := by simp; omega
          have hf := hide (iff_false hq.out (fun hc => h1 (hc.2 k hlt _ hn.out _ hn0.out).1))
          replace h1 := hide h1
          go_wp2_with fail
          go_quiet (fail)
          go_wp2_with fail
          go_ret
          exact ⟨ret_bool hf.out.symm, ext_trans hE0.out (by first | exact hE.out | exact ext_drewN hE.out _ | exact ext_drew hE.out)⟩
    · have hd : decide ((k : Int) < (ns.length : Int)) = false := by simp; omega
      have hf : q = r := by
        cases r with
        | true => exact iff_true hq.out ⟨hr.out.1 rfl, fun i hi => hT.out i (by omega)⟩
        | false => exact iff_false hq.out (fun hc => by have := hr.out.2 hc.1; cases this)
      subst hf
      go_wp2_with fail
      refine (hV.out _ hN.out).mono ?_
      rintro e w1 ⟨rfl, hF⟩
      replace hE := hide (ext_trans hE.out hF)
      clear hF
      go_wp2_with fail
      go_ret
      exact ⟨rfl, ext_trans hE0.out hE.out⟩
end Go.Proofs.Ytkmfjiepkdidgaa
