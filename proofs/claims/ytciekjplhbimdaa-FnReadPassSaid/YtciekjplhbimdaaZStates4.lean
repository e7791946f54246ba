/-
  Contracts: an update in a state, both.
-/
import Derived.Test.YtciekjplhbimdaaZStates3
set_option linter.all false
set_option maxRecDepth 100000
namespace Go.Proofs.YtciekjplhbimdaaZ
open Go.RowKit

/-- A new state is handed back, and whether there is one. -/
def GotPut (w : World) (s : List Int) (u : Upd) (e : Ending) (w' : World) : Prop :=
  ∃ (A : Option Addr) (c : Nat), e = .returned (.tuple #[.slice A (statePut s u).length c, .bool (putOk s u)]) ∧ (statePut s u).length ≤ c ∧ c ≤ maxLen ∧ w'.ownsRow w.heap.size 3 1 (.slice A (statePut s u).length c) (statePut s u).length (icells (statePut s u)) ∧ Ext w w'
theorem gotPut_of {w w' : World} {s xs : List Int} {u : Upd} {A : Option Addr} {n c : Nat} (hx : statePut s u = xs) (h : GotRowI w xs (.returned (.slice A n c)) w') : GotPut w s u (.returned (.tuple #[.slice A n c, .bool (putOk s u)])) w' := by
  obtain ⟨A', c', he, h1, h2, h3, h4⟩ := h
  simp only [Ending.returned.injEq, Value.slice.injEq] at he
  obtain ⟨rfl, rfl, rfl⟩ := he
  subst hx
  exact ⟨_, _, rfl, h1, h2, h3, h4⟩
theorem statePut_no {s : List Int} {u : Upd} (h : putOk s u = false) : statePut s u = [] := by unfold statePut; rw [h]; rfl
theorem statePut_yes {s : List Int} {u : Upd} (h : putOk s u = true) : statePut s u = putAt s u := by unfold statePut; rw [if_pos h]
theorem putOk_state {s : List Int} {u : Upd} (h : stateOk s = false) : putOk s u = false := by simp [putOk, h]
theorem putOk_upd {s : List Int} {u : Upd} (h : updOk u = false) : putOk s u = false := by simp [putOk, h]
theorem putOk_yes {s : List Int} {u : Upd} (h : stateOk s = true) (h' : updOk u = true) : putOk s u = true := by simp [putOk, h, h']


end Go.Proofs.YtciekjplhbimdaaZ
