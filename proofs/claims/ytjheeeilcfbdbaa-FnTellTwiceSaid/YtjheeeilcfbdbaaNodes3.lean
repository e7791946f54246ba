/-
  Contracts: what is pending at a node, both.
-/
import Derived.Test.YtjheeeilcfbdbaaNodes2
set_option linter.all false
set_option maxRecDepth 100000
namespace Go.Proofs.Ytjheeeilcfbdbaa
open Go.RowKit

theorem LogR.cut {w : World} {A : Option Addr} {l : List Upd} (h : LogR w A l) (q : Nat) : LogR w (Option.map (fun x => x.add (q * 2)) A) (l.drop q) := by
  unfold LogR
  rw [← ucells_drop]
  refine CellsR.drop h _ fun _ b o e => ?_
  subst e
  simp [Addr.add_lit]
theorem LogR.cut0 {w : World} {A : Option Addr} {l : List Upd} {q : Nat} (h : l.length ≤ q) : LogR w A (l.drop q) := by
  rw [List.drop_eq_nil_of_le h]
  exact CellsR.nil _ _
theorem gotRowU_of {w w' : World} {xs l' : List Upd} {n c : Nat} {A : Option Addr} (hx : xs = l') (hn : l'.length = n) (h1 : OwnU w' w.heap.size A c l') (hE : Ext w w') : GotRowU w xs (.returned (.slice A n c)) w' := by
  subst hx hn; exact ⟨A, c, rfl, h1, hE⟩
theorem gotRowU_none {w w1 : World} {xs : List Upd} (hx : xs = []) (hE1 : Ext w w1) : GotRowU w xs (.returned (.slice (some ⟨w1.heap.size, 0, none⟩) 0 0)) (w1.alloc (.cells #[] 53)) :=
  gotRowU_of hx rfl (made_at (base := w.heap.size) rfl hE1.size) (ext_alloc hE1 _)

theorem copyLog_n {A : Option Addr} {l : List Upd} {n : Nat} (c : Nat) {w : World} (hn : Hid (l.length = n)) (h : LogR w A l) (hm : n ≤ 1048576) :
    Calls Try.prog 52 #[.slice A n c] w (GotRowU w l) := by
  have e := hn.out
  subst e
  refine (copyLog_any c h hm).mono ?_
  rintro e w' ⟨rfl, h1, h2⟩
  exact ⟨_, _, rfl, h1, h2⟩


end Go.Proofs.Ytjheeeilcfbdbaa
