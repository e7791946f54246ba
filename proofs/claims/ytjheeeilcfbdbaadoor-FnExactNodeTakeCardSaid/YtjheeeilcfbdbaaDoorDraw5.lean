/-
  Contracts: drawing states.
-/
import Derived.Test.YtjheeeilcfbdbaaDoorDraw4
set_option linter.all false
set_option maxRecDepth 100000
namespace Go.Proofs.YtjheeeilcfbdbaaDoor
open Go.RowKit

/-- What is held at the head of the loop that draws a state. -/
def IntsTo (w : World) (g P : Nat) (v : Value) (k : Nat) (wr : World) : Prop :=
  ∃ l : List Int, l.length = k ∧ wr.ownsRow w.heap.size 3 1 v k (icells l) ∧ w.grownBy wr (some g) ∧ RdAt wr g (P + 2 * k)

theorem intsTo_step {w w1 w2 : World} {g P k : Nat} {v v' : Value} {l : List Int} {a : Int} {o : Obj} {wr : World} (hl : l.length = k) (hown : wr.ownsRow w.heap.size 3 1 v k (icells l)) (ho : w.grownBy wr (some g))
    (hg : g < w.heap.size) (hg1 : wr.grownBy w1 (some g)) (hr1 : RdAt w1 g (P + 2 * k + 2))
    (hown' : w2.ownsRow w.heap.size 3 1 v' (k + 1) (icells l ++ [.int .i64 a])) (hgrow : (w1.alloc o).grownBy w2 v.ownBlock) : IntsTo w g P v' (k + 1) w2 := by
  have hrow : ∀ i, v.ownBlock = some i → w.heap.size ≤ i := fun i hi => (hown.lt i hi).1
  refine ⟨l ++ [a], by simp [hl], by simpa [icells] using hown', only_trans (only_alloc (only_pick ho hg1) o) hgrow fun i hi => .inr (hrow i hi), ?_⟩
  exact ((hr1.ext (ext_alloc (ext_refl _) o)).grown hgrow fun i hi => by have := hrow i hi; omega).more (by omega)

theorem own_at {w : World} {base : Nat} {e : TypeId} {size n : Nat} {v : Value} {xs : List Value} (h : w.ownsRow base e size v n xs) (hn : 0 < n) : ∃ g c, v = .slice (some ⟨g, 0, none⟩) n c ∧ base ≤ g ∧ g < w.heap.size ∧ n ≤ c ∧ c ≤ maxLen := by
  rcases h.2 with ⟨rfl, rfl⟩ | ⟨g, cap, cur, rfl, hb, hh, h1, h2, _⟩
  · omega
  · exact ⟨g, cap, rfl, hb, (Array.getElem?_eq_some_iff.1 hh).1, h1, h2⟩

/-- What a drawn state leaves. -/
def DrewS (w : World) (g P : Nat) (e : Ending) (w' : World) : Prop :=
  ∃ (A : Option Addr) (c : Nat) (l : List Int), e = .returned (.slice A l.length c) ∧ l.length ≤ 5 ∧ l.length ≤ c ∧ c ≤ maxLen ∧ IntsR w' A l ∧ w.grownBy w' (some g) ∧ RdAt w' g (P + 15) ∧ ∀ b o, A = some ⟨b, o, none⟩ → w.heap.size ≤ b

end Go.Proofs.YtjheeeilcfbdbaaDoor
