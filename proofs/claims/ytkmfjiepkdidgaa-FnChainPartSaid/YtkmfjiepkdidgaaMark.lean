/-
  Contracts: marks laid into rows of the call's own, and read again.
-/
import Derived.Test.YtkmfjiepkdidgaaExact1
set_option linter.all false
set_option maxRecDepth 100000
namespace Go.Proofs.Ytkmfjiepkdidgaa
open Go.RowKit

/-- The numbers k, k + 1, .. -/
def marksI (k : Int) : Nat → List Int
  | 0 => []
  | n + 1 => marksI k n ++ [k + n]
theorem marksI_len (k : Int) : ∀ n, (marksI k n).length = n
  | 0 => rfl
  | n + 1 => by simp [marksI, marksI_len k n]
theorem marksI_at (k : Int) : ∀ (n i : Nat) (hi : i < (marksI k n).length), (marksI k n)[i] = k + i
  | 0, i, hi => by simp [marksI] at hi
  | n + 1, i, hi => by
    have hl := marksI_len k n
    by_cases h : i < n
    · simp only [marksI]
      rw [List.getElem_append_left (by omega)]
      exact marksI_at k n i (by omega)
    · have : i = n := by rw [marksI_len] at hi; omega
      subst this
      simp [marksI, hl]

/-- A row under the marks: the first j are marked. -/
def MarkedI (w : World) (base : Nat) (g n c : Nat) (k : Int) (j : Nat) (wr : World) : Prop :=
  ∃ rest : List Value, rest.length = n - j ∧ wr.ownsRow base 3 1 (.slice (some ⟨g, 0, none⟩) n c) n (icells (marksI k j) ++ rest) ∧ w.grownBy wr (some g)

theorem markedI_step {w wr : World} {base g n c j : Nat} {k : Int} (h : MarkedI w base g n c k j wr) (hj : j < n) :
    (∃ u, wr.cell? ⟨g, j, none⟩ = some u) ∧ wr.frozen? ⟨g, j, none⟩ = false ∧ MarkedI w base g n c k (j + 1) (wr.setCell ⟨g, j, none⟩ (.int .i64 (k + j))) := by
  obtain ⟨rest, hr, hown, hg⟩ := h
  have hl := hown.1
  have htl : (icells (marksI k j)).length = j := by rw [icells_len, marksI_len]
  have c0 := hown.cellAt j (by omega)
  refine ⟨⟨_, c0.trans (List.getElem?_eq_getElem (by omega))⟩, hown.frozenAt _, ?_⟩
  match rest, hr with
  | [], hr => simp at hr; omega
  | a :: rest, hr =>
    refine ⟨rest, by simp at hr; omega, ?_, only_setCell hg (.inl rfl) _⟩
    have h2 := (hown.stored j (.int .i64 (k + j))).1
    rw [set_one _ _ _ _ _ htl] at h2
    have e : icells (marksI k (j + 1)) = icells (marksI k j) ++ [.int .i64 (k + j)] := by simp [icells, marksI]
    rw [e, List.append_assoc]
    exact h2

/-- markIntS of a row of the call's own. -/
theorem markIntS_own {w : World} {base g n c : Nat} {xs : List Value} (k : Int) (h : w.ownsRow base 3 1 (.slice (some ⟨g, 0, none⟩) n c) n xs) (hn : n ≤ 1048576) (hk : 0 ≤ k) (hk' : k ≤ 1048576) :
    Calls Try.prog 32 #[.slice (some ⟨g, 0, none⟩) n c, .int .i64 k] w fun e w' => e = .returned (.int .i64 (k + n)) ∧
      w'.ownsRow base 3 1 (.slice (some ⟨g, 0, none⟩) n c) n (icells (marksI k n)) ∧ w.grownBy w' (some g) := by
  have hst := hide (show MarkedI w base g n c k 0 w from ⟨xs, by rw [h.1]; omega, by simpa [marksI, icells] using h, World.grownBy.refl _ _⟩)
  clear h
  go_enter Try.func32, Try.ntmps32
  go_wp2_with fail
  go_loopw [1, 5] (fun q i wr => ∃ j : Nat, j ≤ n ∧ i = .int .i64 j ∧ q = .int .i64 (k + j) ∧ Hid (MarkedI w base g n c k j wr)) (fun _ i _ => n - (intOf i).toNat)
  case atStart => exact ⟨0, Nat.zero_le _, rfl, by simp, hst⟩
  case round =>
    obtain ⟨j, hj, rfl, rfl, hM⟩ := hrel
    by_cases hlt : j < n
    · obtain ⟨⟨u0, c0⟩, f0, hM'⟩ := markedI_step hM.out hlt
      replace hM' := hide hM'
      clear hM
      go_wp2_with fail
      go_roundw
      case rel => exact ⟨j + 1, by omega, by go_num, by go_num, hM'⟩
      case measure => simp [intOf]; omega
    · obtain rfl : j = n := by omega
      obtain ⟨rest, hr, hown, hg⟩ := hM.out
      have hr0 : rest = [] := List.eq_nil_of_length_eq_zero (by omega)
      rw [hr0, List.append_nil] at hown
      replace hown := hide hown
      replace hg := hide hg
      clear hr hr0 hM
      go_wp2
      go_ret
      exact ⟨rfl, hown.out, hg.out⟩

theorem heldIntS_any {A : Option Addr} {w : World} (n c : Nat) (k : Int) (h : IntsR w A (marksI k n)) (hn : n ≤ 1048576) (hk : 0 ≤ k) (hk' : k ≤ 1048576) :
    Calls Try.prog 33 #[.slice A n c, .int .i64 k] w fun e w' => e = .returned (.int .i64 (k + n)) ∧ w = w' := by
  replace h := hide h
  go_enter Try.func33, Try.ntmps33
  go_wp2_with fail
  go_loop [1, 5] (fun q i => ∃ j : Nat, j ≤ n ∧ i = .int .i64 j ∧ q = .int .i64 (k + j)) (fun _ i => n - (intOf i).toNat)
  case atStart => exact ⟨0, Nat.zero_le _, rfl, by simp⟩
  case round =>
    obtain ⟨j, hj, rfl, rfl⟩ := hrel
    by_cases hlt : j < n
    · obtain ⟨b, o, x, hA, hb, hx, hc0⟩ := int_at h.out (i := j) (by rw [marksI_len]; exact hlt)
      rw [marksI_at] at hx
      subst hx
      subst hA
      go_wp2
      go_round
      case rel => exact ⟨j + 1, by omega, by go_num, by go_num⟩
      case measure => simp [intOf]; omega
    · obtain rfl : j = n := by omega
      go_wp2
      go_ret
      exact ⟨rfl, rfl⟩

/-- Whatever lies in a log's own row, it is turned alone. -/
def MarkingU (w : World) (base g n c : Nat) (wr : World) : Prop := (∃ xs, wr.ownsRow base 62 2 (.slice (some ⟨g, 0, none⟩) n c) n xs) ∧ w.grownBy wr (some g)

theorem markingU_step {w wr : World} {base g n c j : Nat} (h : MarkingU w base g n c wr) (hj : j < n * 2) (u : Value) :
    (∃ x, wr.cell? ⟨g, j, none⟩ = some x) ∧ wr.frozen? ⟨g, j, none⟩ = false ∧ MarkingU w base g n c (wr.setCell ⟨g, j, none⟩ u) := by
  obtain ⟨⟨xs, hown⟩, hg⟩ := h
  have hl := hown.1
  exact ⟨⟨_, (hown.cellAt j hj).trans (List.getElem?_eq_getElem (by omega))⟩, hown.frozenAt _, ⟨⟨_, (hown.stored j u).1⟩, only_setCell hg (.inl rfl) _⟩⟩

theorem markUpdateS_any {w : World} {base g n c : Nat} {xs : List Value} (k : Int) (h : w.ownsRow base 62 2 (.slice (some ⟨g, 0, none⟩) n c) n xs) (hn : n ≤ 1048576) (hk : 0 ≤ k) (hk' : k ≤ 16777216) :
    Calls Try.prog 73 #[.slice (some ⟨g, 0, none⟩) n c, .int .i64 k] w fun e w' => e = .returned (.int .i64 (k + 2 * n)) ∧ w.grownBy w' (some g) := by
  have hst := hide (show MarkingU w base g n c w from ⟨⟨xs, h⟩, World.grownBy.refl _ _⟩)
  clear h
  go_enter Try.func73, Try.ntmps73
  go_wp2_with fail
  go_loopw [1, 5] (fun q i wr => ∃ j : Nat, j ≤ n ∧ i = .int .i64 j ∧ q = .int .i64 (k + 2 * j) ∧ Hid (MarkingU w base g n c wr)) (fun _ i _ => n - (intOf i).toNat)
  case atStart => exact ⟨0, Nat.zero_le _, rfl, by simp, hst⟩
  case round =>
    obtain ⟨j, hj, rfl, rfl, hM⟩ := hrel
    by_cases hlt : j < n
    · obtain ⟨⟨u0, c0⟩, f0, hM1⟩ := markingU_step (j := j * 2) hM.out (by omega) (.int .i64 (k + 2 * j))
      obtain ⟨⟨u1, c1⟩, f1, hM2⟩ := markingU_step (j := j * 2 + 1) hM1 (by omega) (.int .i64 (k + 2 * j + 1))
      replace hM2 := hide hM2
      clear hM hM1
      go_wp2_with fail
      go_roundw
      case rel => exact ⟨j + 1, by omega, by go_num, by go_num, hM2⟩
      case measure => simp [intOf]; omega
    · obtain rfl : j = n := by omega
      obtain ⟨_, hg⟩ := hM.out
      replace hg := hide hg
      clear hM
      go_wp2
      go_ret
      exact ⟨rfl, hg.out⟩
end Go.Proofs.Ytkmfjiepkdidgaa
