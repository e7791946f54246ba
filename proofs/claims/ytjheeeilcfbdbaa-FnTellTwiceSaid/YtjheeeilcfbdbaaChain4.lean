/-
  Contracts: quiet chains, both; what the tail has at a key, both.
-/
import Derived.Test.YtjheeeilcfbdbaaChain3
set_option linter.all false
set_option maxRecDepth 100000
namespace Go.Proofs.Ytjheeeilcfbdbaa
open Go.RowKit
attribute [local go_sem ↓] Go.wp_at_zero Go.wp_at_succ

/-- The node is as the head is, and knows all to be everywhere. -/
def Still (ns : List Nd) (i : Nat) : Prop := ∀ n, ns[i]? = some n → ∀ m, ns[0]? = some m → n.log.length = m.log.length ∧ n.done = m.log.length
def ChQuiet (v : Int) (ns : List Nd) : Prop := ChOk v ns ∧ ∀ i, i < ns.length → Still ns i
theorem chQuiet_decides (v : Int) (ns : List Nd) : ∃ b : Bool, b = true ↔ ChQuiet v ns := by
  by_cases h : ChQuiet v ns
  · exact ⟨true, by simp [h]⟩
  · exact ⟨false, by simp [h]⟩
theorem node_first {w : World} {A : Option Addr} {ns : List Nd} (h : NodesR w A ns) (hi : 0 < ns.length) :
    ∃ b o x l j B d, A = some ⟨b, o, none⟩ ∧ b < w.heap.size ∧ ns[0]? = some ⟨x, l, j⟩ ∧ l.length ≤ d ∧ d ≤ maxLen ∧ LogR w B l ∧ w.cell? ⟨b, o, none⟩ = some (.int .i64 x) ∧
      w.cell? ⟨b, o + 1, none⟩ = some (.slice B l.length d) ∧ w.cell? ⟨b, o + 2, none⟩ = some (.int .i64 j) := by
  obtain ⟨b, o, x, l, j, B, d, hA, hbl, hn, hld, hdm, hB, c0, c1, c2, c1', c2'⟩ := node_at h hi
  exact ⟨b, o, x, l, j, B, d, hA, hbl, hn, hld, hdm, hB, by simpa using c0, by simpa using c1', by simpa using c2'⟩

theorem implChainValid_yes {A : Option Addr} {ns : List Nd} (c : Nat) (v : Int) {w : World} (h : NodesR w A ns) (hb : bulk ns ≤ 1048576) (hok : ChOk v ns) :
    Calls Try.prog 12 #[.agg #[.int .i64 v, .slice A ns.length c]] w fun e w' => e = .returned (.bool true) ∧ Ext w w' := implChainValid_any c v h hb ⟨fun _ => hok, fun _ => rfl⟩
theorem implChainValid_no {A : Option Addr} {ns : List Nd} (c : Nat) (v : Int) {w : World} (h : NodesR w A ns) (hb : bulk ns ≤ 1048576) (hok : ¬ ChOk v ns) :
    Calls Try.prog 12 #[.agg #[.int .i64 v, .slice A ns.length c]] w fun e w' => e = .returned (.bool false) ∧ Ext w w' := implChainValid_any c v h hb ⟨fun h => (by cases h), fun h => absurd h hok⟩
theorem specChainValid_yes {A : Option Addr} {ns : List Nd} (c : Nat) (v : Int) {w : World} (h : NodesR w A ns) (hb : bulk ns ≤ 1048576) (hlc : ns.length ≤ c) (hok : ChOk v ns) :
    Calls Try.prog 22 #[.agg #[.int .i64 v, .slice A ns.length c]] w fun e w' => e = .returned (.bool true) ∧ Ext w w' := specChainValid_any c v h hb hlc ⟨fun _ => hok, fun _ => rfl⟩
theorem specChainValid_no {A : Option Addr} {ns : List Nd} (c : Nat) (v : Int) {w : World} (h : NodesR w A ns) (hb : bulk ns ≤ 1048576) (hlc : ns.length ≤ c) (hok : ¬ ChOk v ns) :
    Calls Try.prog 22 #[.agg #[.int .i64 v, .slice A ns.length c]] w fun e w' => e = .returned (.bool false) ∧ Ext w w' := specChainValid_any c v h hb hlc ⟨fun h => (by cases h), fun h => absurd h hok⟩

end Go.Proofs.Ytjheeeilcfbdbaa
