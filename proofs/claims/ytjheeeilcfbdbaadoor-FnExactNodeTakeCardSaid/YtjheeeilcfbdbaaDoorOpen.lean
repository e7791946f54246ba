/-
  Contract: l6Open.
-/
import Derived.Test.YtjheeeilcfbdbaaDoorRd
set_option linter.all false
set_option maxRecDepth 100000
namespace Go.Proofs.YtjheeeilcfbdbaaDoor
open Go.RowKit

theorem open_lo (A : Option Addr) (n c : Nat) (w : World) (hn : n ≤ 2000) :
    Calls Tryd.prog 34 #[.slice A n c] w fun e w' => e = .returned (.pointer (some ⟨w.heap.size, 0, none⟩)) ∧ Ext w w' ∧
      w'.heap[w.heap.size]? = some (.cells #[.slice A n c, .int .i64 0] 92 (0, 0)) := by
  go_enter Tryd.func34, Tryd.ntmps34
  go_wp2
  go_ret
  exact ⟨rfl, ext_alloc (ext_refl _) _, heap_alloc_new _ _⟩
theorem open_hi (A : Option Addr) (n c : Nat) (w : World) (hn : n ≤ maxLen) (hnc : n ≤ c) (hc : c ≤ maxLen) (h : 2000 < n) :
    Calls Tryd.prog 34 #[.slice A n c] w fun e w' => e = .returned (.pointer (some ⟨w.heap.size, 0, none⟩)) ∧ Ext w w' ∧
      w'.heap[w.heap.size]? = some (.cells #[.slice A 2000 c, .int .i64 0] 92 (0, 0)) := by
  unfold maxLen at hn hc
  go_enter Tryd.func34, Tryd.ntmps34
  go_wp2
  go_ret
  exact ⟨rfl, ext_alloc (ext_refl _) _, heap_alloc_new _ _⟩
end Go.Proofs.YtjheeeilcfbdbaaDoor
