/-
  Contracts: StateValid, both.
-/
import Derived.Test.YtciekjplhbimdaaZExact1
set_option linter.all false
set_option maxRecDepth 100000
namespace Go.Proofs.YtciekjplhbimdaaZ
open Go.RowKit

theorem stateOk_len {s : List Int} (h : stateOk s = true) : s.length = 5 := by simp [stateOk] at h; exact h.1
theorem stateOk_at {s : List Int} (h : stateOk s = true) {i : Nat} (hi : i < s.length) : valOk s[i] = true := by
  simp [stateOk] at h; exact h.2 _ (List.getElem_mem hi)
theorem stateOk_of {s : List Int} (h : s.length = 5) (h' : ∀ i (hi : i < s.length), valOk s[i] = true) : stateOk s = true := by
  simp only [stateOk, Bool.and_eq_true, decide_eq_true_eq, List.all_eq_true]
  refine ⟨h, fun x hx => ?_⟩
  obtain ⟨i, hi, rfl⟩ := List.mem_iff_getElem.1 hx
  exact h' i hi
theorem stateOk_bad {s : List Int} {i : Nat} (hi : i < s.length) (h : valOk s[i] = false) : stateOk s = false := by
  cases e : stateOk s with
  | false => rfl
  | true => rw [stateOk_at e hi] at h; cases h
theorem stateOk_ne {s : List Int} (h : s.length ≠ 5) : stateOk s = false := by
  cases e : stateOk s with
  | false => rfl
  | true => exact absurd (stateOk_len e) h


end Go.Proofs.YtciekjplhbimdaaZ
