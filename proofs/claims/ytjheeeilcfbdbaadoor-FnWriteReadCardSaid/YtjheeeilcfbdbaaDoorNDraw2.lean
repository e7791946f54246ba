/-
  Contracts: the draws of the laws on nodes.
-/
import Derived.Test.YtjheeeilcfbdbaaDoorNDraw
set_option linter.all false
set_option maxRecDepth 100000
namespace Go.Proofs.YtjheeeilcfbdbaaDoor
open Go.RowKit
attribute [local go_sem ↓] Go.wp_at_zero Go.wp_at_succ

/-- A node has been drawn. -/
def GotNd (w : World) (e : Ending) (w' : World) : Prop :=
  ∃ (A : Option Addr) (c : Nat) (i j : Int) (l : List Upd), e = .returned (.agg #[.int .i64 i, .slice A l.length c, .int .i64 j]) ∧ l.length ≤ 13 ∧ -1 ≤ j ∧ j ≤ l.length + 1 ∧ l.length ≤ c ∧ c ≤ maxLen ∧ LogR w' A l ∧ Ext w w'
/-- A node and a number have been drawn. -/
def GotNdInt (w : World) (e : Ending) (w' : World) : Prop :=
  ∃ (A : Option Addr) (c : Nat) (i j : Int) (l : List Upd) (d : Int), e = .returned (.tuple #[.agg #[.int .i64 i, .slice A l.length c, .int .i64 j], .int .i64 d]) ∧ l.length ≤ 13 ∧ -1 ≤ j ∧ j ≤ l.length + 1 ∧ l.length ≤ c ∧ c ≤ maxLen ∧ LogR w' A l ∧ Ext w w'



end Go.Proofs.YtjheeeilcfbdbaaDoor
