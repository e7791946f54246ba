/-
  More laws of the plain functions.
-/
import Derived.Test.YtjheeeilcfbdbaaDoorPure
set_option linter.all false
set_option maxRecDepth 100000
namespace Go.Proofs.YtjheeeilcfbdbaaDoor

theorem logOk_take {l : List Upd} (h : logOk l = true) (k : Nat) : logOk (l.take k) = true := by
  refine logOk_of (by have := logOk_len h; simp; omega) fun i hi => ?_
  have hi' : i < l.length := by simp at hi; omega
  rw [List.getElem_take]
  exact logOk_at h hi'
theorem begins_ok {a b : List Upd} (h : begins a b = true) : logOk a = true ∧ logOk b = true ∧ common a b = a.length := by
  simpa [begins, and_assoc] using h
theorem begins_take {a b : List Upd} (h : begins a b = true) (k : Nat) : begins (a.take k) b = true := by
  obtain ⟨h1, h2, h3⟩ := begins_ok h
  obtain ⟨h4, h5⟩ := common_prefix h3
  have h6 : common (a.take k) b = (a.take k).length := by
    refine prefix_common ?_
    rw [← h5]
    simp [List.take_take]
  simp [begins, logOk_take h1 k, h2, h6]
end Go.Proofs.YtjheeeilcfbdbaaDoor
