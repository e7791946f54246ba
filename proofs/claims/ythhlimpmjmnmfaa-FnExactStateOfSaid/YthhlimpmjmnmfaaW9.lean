/-
  The walk of the law FnExactLogKey: it returns true for every input, and leaves its arguments as they were.
-/
import Derived.Test.YthhlimpmjmnmfaaW6
import Derived.Test.YthhlimpmjmnmfaaMark2
import Derived.Test.YthhlimpmjmnmfaaFrame2
set_option linter.all false
namespace Go.Proofs.Ythhlimpmjmnmfaa
open Go.RowKit

theorem row_ne {w : World} {base g : Nat} {e : TypeId} {size n : Nat} {v : Value} {xs : List Value} (h : w.ownsRow base e size v n xs) (hg : g < base) : v.ownBlock = none ∨ v.ownBlock ≠ some g :=
  .inr fun e => by have := (h.lt g e).1; omega
theorem row_lt {w : World} {base g : Nat} {e : TypeId} {size n : Nat} {v : Value} {xs : List Value} (h : w.ownsRow base e size v n xs) (hg : w.heap.size ≤ g) : v.ownBlock = none ∨ v.ownBlock ≠ some g :=
  .inr fun e => by have := (h.lt g e).2; omega
/-- Two rows, the second made after the first. -/
theorem row_row {w w' : World} {base : Nat} {e e' : TypeId} {size size' n n' : Nat} {v v' : Value} {xs xs' : List Value} (h : w.ownsRow base e size v n xs) (h' : w'.ownsRow w.heap.size e' size' v' n' xs') :
    v.ownBlock = none ∨ v.ownBlock ≠ v'.ownBlock := by
  cases hv : v.ownBlock with
  | none => exact .inl rfl
  | some g => exact .inr fun e => by have := (h.lt g hv).2; have := (h'.lt g e.symm).1; omega
theorem row_row' {w w' : World} {base : Nat} {e e' : TypeId} {size size' n n' : Nat} {v v' : Value} {xs xs' : List Value} (h : w.ownsRow base e size v n xs) (h' : w'.ownsRow w.heap.size e' size' v' n' xs') :
    v'.ownBlock = none ∨ v'.ownBlock ≠ v.ownBlock := by
  cases hv : v'.ownBlock with
  | none => exact .inl rfl
  | some g => exact .inr fun e => by have := (h.lt g e.symm).2; have := (h'.lt g hv).1; omega
theorem GotRowI.row {w w' : World} {xs : List Int} {e : Ending} (h : GotRowI w xs e w') : ∃ A c, e = .returned (.slice A xs.length c) ∧ Hid (w'.ownsRow w.heap.size 3 1 (.slice A xs.length c) xs.length (icells xs)) ∧ Hid (Ext w w') := by
  obtain ⟨A, c, rfl, h1, h2, h3, h4⟩ := h
  exact ⟨A, c, rfl, h3, h4⟩
theorem only_base {w w1 w' : World} {v : Value} (hE : Ext w w1) (hg : w1.grownBy w' v.ownBlock) (hb : ∀ g, v.ownBlock = some g → w.heap.size ≤ g) : Ext w w' := by
  refine ⟨hg.os.trans hE.os, hg.tape.trans hE.tape, hg.output.trans hE.output, Nat.le_trans hE.size hg.size, fun i hi => ?_⟩
  exact (hg.block i (Nat.lt_of_lt_of_le hi hE.size) (fun e => by have := hb i e.symm; omega)).trans (hE.block i hi)
theorem row_ext {w w' : World} {base : Nat} {e : TypeId} {size n : Nat} {v : Value} {xs : List Value} (h : w.ownsRow base e size v n xs) (hE : Ext w w') : w'.ownsRow base e size v n xs :=
  h.kept (only_of_ext hE none) (by cases v.ownBlock <;> simp)

end Go.Proofs.Ythhlimpmjmnmfaa
