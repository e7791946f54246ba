/-
  Contracts: marks laid into rows of the call's own, and read again.
-/
import Derived.Test.YtciekjplhbimdaaZExact1
set_option linter.all false
set_option maxRecDepth 100000
namespace Go.Proofs.YtciekjplhbimdaaZ
open Go.RowKit

/-- The numbers k, k + 1, .. -/
def marksI (k : Int) : Nat → List Int
  | 0 => []
  | n + 1 => marksI k n ++ [k + n]
theorem marksI_len (k : Int) : ∀ n, (marksI k n).length = n
  | 0 => rfl
  | n + 1 => by simp [marksI, marksI_len k n]
theorem marksI_at (k : Int) : ∀ (n i : Nat) (hi : i < (marksI k n).length), (marksI k n)[i] = k + i
  | 0, i, hi => by simp [marksI] at hi
  | n + 1, i, hi => by
    have hl := marksI_len k n
    by_cases h : i < n
    · simp only [marksI]
      rw [List.getElem_append_left (by omega)]
      exact marksI_at k n i (by omega)
    · have : i = n := by rw [marksI_len] at hi; omega
      subst this
      simp [marksI, hl]



/-- Whatever lies in a log's own row, it is turned alone. -/
def MarkingU (w : World) (base g n c : Nat) (wr : World) : Prop := (∃ xs, wr.ownsRow base 39 2 (.slice (some ⟨g, 0, none⟩) n c) n xs) ∧ w.grownBy wr (some g)

theorem markingU_step {w wr : World} {base g n c j : Nat} (h : MarkingU w base g n c wr) (hj : j < n * 2) (u : Value) :
    (∃ x, wr.cell? ⟨g, j, none⟩ = some x) ∧ wr.frozen? ⟨g, j, none⟩ = false ∧ MarkingU w base g n c (wr.setCell ⟨g, j, none⟩ u) := by
  obtain ⟨⟨xs, hown⟩, hg⟩ := h
  have hl := hown.1
  exact ⟨⟨_, (hown.cellAt j hj).trans (List.getElem?_eq_getElem (by omega))⟩, hown.frozenAt _, ⟨⟨_, (hown.stored j u).1⟩, only_setCell hg (.inl rfl) _⟩⟩

theorem markUpdateS_any {w : World} {base g n c : Nat} {xs : List Value} (k : Int) (h : w.ownsRow base 39 2 (.slice (some ⟨g, 0, none⟩) n c) n xs) (hn : n ≤ 1048576) (hk : 0 ≤ k) (hk' : k ≤ 16777216) :
    Calls Alt.prog 77 #[.slice (some ⟨g, 0, none⟩) n c, .int .i64 k] w fun e w' => e = .returned (.int .i64 (k + 2 * n)) ∧ w.grownBy w' (some g) := by
  have hst := hide (show MarkingU w base g n c w from ⟨⟨xs, h⟩, World.grownBy.refl _ _⟩)
  clear h
  go_enter Alt.func77, Try.ntmps77
  go_wp2_with fail
  go_loopw [1, 5] (fun q i wr => ∃ j : Nat, j ≤ n ∧ i = .int .i64 j ∧ q = .int .i64 (k + 2 * j) ∧ Hid (MarkingU w base g n c wr)) (fun _ i _ => n - (intOf i).toNat)
  case atStart => exact ⟨0, Nat.zero_le _, rfl, by simp, hst⟩
  case round =>
    obtain ⟨j, hj, rfl, rfl, hM⟩ := hrel
    by_cases hlt : j < n
    · obtain ⟨⟨u0, c0⟩, f0, hM1⟩ := markingU_step (j := j * 2) hM.out (by omega) (.int .i64 (k + 2 * j))
      obtain ⟨⟨u1, c1⟩, f1, hM2⟩ := markingU_step (j := j * 2 + 1) hM1 (by omega) (.int .i64 (k + 2 * j + 1))
      replace hM2 := hide hM2
      clear hM hM1
      go_wp2_with fail
      go_roundw
      case rel => exact ⟨j + 1, by omega, by go_num, by go_num, hM2⟩
      case measure => simp [intOf]; omega
    · obtain rfl : j = n := by omega
      obtain ⟨_, hg⟩ := hM.out
      replace hg := hide hg
      clear hM
      go_wp2
      go_ret
      exact ⟨rfl, hg.out⟩
end Go.Proofs.YtciekjplhbimdaaZ
