/-
  Contracts: drawing logs and states with a number or an update.
-/
import Derived.Test.YtjheeeilcfbdbaaDoorDraw5
set_option linter.all false
set_option maxRecDepth 100000
namespace Go.Proofs.YtjheeeilcfbdbaaDoor
open Go.RowKit

theorem own_caps {w : World} {base : Nat} {e : TypeId} {size n : Nat} {A : Option Addr} {c : Nat} {xs : List Value} (h : w.ownsRow base e size (.slice A n c) n xs) : n ≤ c ∧ c ≤ maxLen := by
  obtain ⟨A', c', hv, h1, h2⟩ := own_form h
  injection hv with _ _ hc
  subst hc
  exact ⟨h1, h2⟩


/-- A log and a number have been drawn. -/
def GotLogInt (w : World) (e : Ending) (w' : World) : Prop :=
  ∃ (A : Option Addr) (c : Nat) (l : List Upd) (k : Int), e = .returned (.tuple #[.slice A l.length c, .int .i64 k]) ∧ l.length ≤ 13 ∧ l.length ≤ c ∧ c ≤ maxLen ∧ -1 ≤ k ∧ k ≤ 100 ∧ LogR w' A l ∧ Ext w w'



end Go.Proofs.YtjheeeilcfbdbaaDoor
