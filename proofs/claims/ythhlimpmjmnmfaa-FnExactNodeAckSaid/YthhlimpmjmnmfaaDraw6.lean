/-
  Contracts: drawing logs and states with a number or an update.
-/
import Derived.Test.YthhlimpmjmnmfaaDraw5
set_option linter.all false
namespace Go.Proofs.Ythhlimpmjmnmfaa
open Go.RowKit

theorem own_caps {w : World} {base : Nat} {e : TypeId} {size n : Nat} {A : Option Addr} {c : Nat} {xs : List Value} (h : w.ownsRow base e size (.slice A n c) n xs) : n ≤ c ∧ c ≤ maxLen := by
  obtain ⟨A', c', hv, h1, h2⟩ := own_form h
  injection hv with _ _ hc
  subst hc
  exact ⟨h1, h2⟩


/-- A log and a number have been drawn. -/
def GotLogInt (w : World) (e : Ending) (w' : World) : Prop :=
  ∃ (A : Option Addr) (c : Nat) (l : List Upd) (k : Int), e = .returned (.tuple #[.slice A l.length c, .int .i64 k]) ∧ l.length ≤ 13 ∧ l.length ≤ c ∧ c ≤ maxLen ∧ -1 ≤ k ∧ k ≤ 100 ∧ LogR w' A l ∧ Ext w w'


theorem drawStateAt_any {A : Option Addr} {n c : Nat} {w : World} (h : CodeR w A n c) : Calls Try.prog 41 #[.slice A n c] w (GotLogInt w) := by
  go_enter Try.func41, Try.ntmps41
  go_wp2_with fail
  refine (l6Open_any h).mono ?_
  rintro e w1 ⟨rfl, hE, hr⟩
  have hE := hide hE
  go_wp2_with fail
  have hlt := hr.lt
  refine (l91Log_any hr (by omega)).mono ?_
  rintro e w2 ⟨A2, c2, l, rfl, hl, hn, hown, ho, hr2⟩
  obtain ⟨h1, h2⟩ := own_caps hown
  have hown := hide hown
  have ho := hide ho
  go_wp2_with fail
  refine (pick_any _ hr2 (by omega)).mono ?_
  rintro e w3 ⟨x, rfl, hx, -, hg3, hr3⟩
  have hx' := hx (by omega)
  have hg3 := hide hg3
  clear hx
  go_wp2_with fail
  refine (pick_any 20 hr3 (by omega)).mono ?_
  rintro e w4 ⟨y, rfl, hy, -, hg4, hr4⟩
  have hy' := hy (by omega)
  have hg4 := hide (only_pick hg3.out hg4)
  clear hy hr3
  obtain ⟨yn, rfl⟩ := Int.eq_ofNat_of_zero_le hy'.1
  have fin := hide (show GotLogInt w (.returned (.tuple #[.slice A2 l.length c2, .int .i64 (x - (yn : Int) / 19)])) w4 from ⟨A2, c2, l, _, rfl, hl, h1, h2, by omega, by omega, CellsR.of_own (own_keep hown.out hg4.out hlt), ext_open hE.out (only_pick ho.out hg4.out)⟩)
  clear hg3 hown ho hr4 hr2
  go_wp2_with fail
  go_ret2
  exact fin.out

end Go.Proofs.Ythhlimpmjmnmfaa
