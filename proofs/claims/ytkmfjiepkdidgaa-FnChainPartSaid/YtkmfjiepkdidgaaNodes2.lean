/-
  Contracts: nodes: told what is everywhere, pending, both.
-/
import Derived.Test.YtkmfjiepkdidgaaNodes1
set_option linter.all false
set_option maxRecDepth 100000
namespace Go.Proofs.Ytkmfjiepkdidgaa
open Go.RowKit

theorem made_at {w : World} {H base : Nat} {t : TypeId} {size : Nat} (hH : w.heap.size = H) (hb : base ≤ H) : (w.alloc (.cells #[] t)).ownsRow base t size (.slice (some ⟨H, 0, none⟩) 0 0) 0 [] := by
  subst hH; exact World.ownsRow_made w #[] 0 hb (by simp [maxLen]) (by simp)
/-- Behind an append to a row made just now the elder world has only grown. -/
theorem ext_made {w w' : World} {H : Nat} {t : TypeId} (hH : w.heap.size = H) (h : (w.alloc (.cells #[] t)).grownBy w' (Value.slice (some ⟨H, 0, none⟩) 0 0).ownBlock) : Ext w w' := by
  subst hH
  exact ext_of_only (only_trans (g := w.heap.size) (only_alloc (World.grownBy.refl w (some w.heap.size)) (.cells #[] t)) h (by intro i e; simp [Value.ownBlock] at e; omega)) (Nat.le_refl _)
theorem ownU_of {w : World} {base n : Nat} {v : Value} {l : List Upd} (h : w.ownsRow base 62 2 v n (ucells l)) (hn : n = l.length) : ∃ A c, v = .slice A l.length c ∧ l.length ≤ c ∧ c ≤ maxLen ∧ OwnU w base A c l := by
  subst hn
  obtain ⟨A, c, rfl, h1, h2⟩ := own_form h
  exact ⟨A, c, rfl, h1, h2, h⟩



end Go.Proofs.Ytkmfjiepkdidgaa
