/-
  Contracts: drawing two logs.
-/
import Derived.Test.YtjheeeilcfbdbaaDoorDraw2
import Derived.Test.YtjheeeilcfbdbaaDoorApp
set_option linter.all false
set_option maxRecDepth 100000
namespace Go.Proofs.YtjheeeilcfbdbaaDoor
open Go.RowKit

/-- What two drawn logs leave. -/
def DrewTwo (w : World) (g P : Nat) (e : Ending) (w' : World) : Prop :=
  ∃ (A : Option Addr) (c : Nat) (l : List Upd) (B : Option Addr) (d : Nat) (m : List Upd), e = .returned (.tuple #[.slice A l.length c, .slice B m.length d]) ∧ l.length ≤ 13 ∧ m.length ≤ 13 ∧
    l.length ≤ c ∧ c ≤ maxLen ∧ m.length ≤ d ∧ d ≤ maxLen ∧ LogR w' A l ∧ LogR w' B m ∧ w.grownBy w' (some g) ∧ RdAt w' g (P + 70)

theorem own_keep {w w' : World} {base : Nat} {e : TypeId} {size n : Nat} {v : Value} {xs : List Value} {g : Nat} (h : w.ownsRow base e size v n xs) (hg : w.grownBy w' (some g)) (hb : g < base) : w'.ownsRow base e size v n xs :=
  h.kept hg (.inr (by intro e; have := (h.lt g e).1; omega))

end Go.Proofs.YtjheeeilcfbdbaaDoor
