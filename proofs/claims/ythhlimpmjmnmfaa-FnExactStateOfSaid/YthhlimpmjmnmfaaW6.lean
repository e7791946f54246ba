/-
  The walks of the laws FnKey, FnState: each returns true for every input, and leaves its arguments as they were.
-/
import Derived.Test.YthhlimpmjmnmfaaW5
set_option linter.all false
namespace Go.Proofs.Ythhlimpmjmnmfaa
open Go.RowKit

/-! ### Plain laws of the numbers of a key -/
theorem keysFrom_next {l : List Upd} {k : Nat} {x y key : Int} (hk : k < l.length) (hxy : l[k] = (x, y)) (h : x = key) {n : Nat} (hn : (keysFrom key 0 (l.take k)).length = n) : (keysFrom key 0 l)[n]? = some ((k : Int) + 1) ∧ n < (keysFrom key 0 l).length := by
  have e : keysFrom key 0 l = keysFrom key 0 (l.take k) ++ keysFrom key k (l.drop k) := by
    conv => lhs; rw [← List.take_append_drop k l]
    rw [keysFrom_append, List.length_take, Nat.zero_add, Nat.min_eq_left (by omega)]
  have e2 : keysFrom key k (l.drop k) = ((k : Int) + 1) :: keysFrom key (k + 1) (l.drop (k + 1)) := by
    rw [List.drop_eq_getElem_cons hk, hxy]
    simp [keysFrom, h]
  rw [e, e2]
  subst hn
  constructor
  · rw [List.getElem?_append_right (Nat.le_refl _)]; simp
  · simp
/-- The last number of a key tells its value. -/
theorem behind_last {l : List Upd} (hv : logOk l = true) (key : Nat) (hk : key < 5) : ∀ n, n ≤ l.length →
    (keysFrom key 0 (l.take n) = [] → (stBehind (l.take n))[key]? = some (-1)) ∧
    (∀ p, (keysFrom key 0 (l.take n)).getLast? = some p → ∃ (j : Nat) (y : Int), p = (j : Int) + 1 ∧ j < l.length ∧ l[j]? = some ((key : Int), y) ∧ (stBehind (l.take n))[key]? = some y)
  | 0, _ => by
    refine ⟨fun _ => ?_, fun p hp => by simp [keysFrom] at hp⟩
    have : key = 0 ∨ key = 1 ∨ key = 2 ∨ key = 3 ∨ key = 4 := by omega
    rcases this with rfl | rfl | rfl | rfl | rfl <;> simp [stBehind]
  | n + 1, hn => by
    have hlt : n < l.length := by omega
    obtain ⟨h1, h2⟩ := behind_last hv key hk n (by omega)
    have hok := logOk_at hv hlt
    rcases hxy : l[n] with ⟨x, y⟩
    rw [hxy] at hok
    simp [updOk] at hok
    rw [stBehind_succ hlt hxy]
    by_cases hx : x = key
    · rw [keysFrom_hit hlt hxy hx]
      refine ⟨fun h => by simp at h, fun p hp => ?_⟩
      rw [List.getLast?_concat] at hp
      injection hp with hp
      refine ⟨n, y, hp.symm, hlt, by rw [List.getElem?_eq_getElem hlt, hxy, hx], ?_⟩
      subst hx
      simp only [putAt, Int.toNat_natCast]
      rw [List.getElem?_set_self (by rw [stBehind_len]; omega)]
    · rw [keysFrom_miss hlt hxy hx]
      have e : (putAt (stBehind (l.take n)) (x, y))[key]? = (stBehind (l.take n))[key]? := by
        simp only [putAt]
        rw [List.getElem?_set_ne (by omega)]
      rw [e]
      exact ⟨h1, h2⟩
theorem logKey_yes {l : List Upd} {key : Int} (hv : logOk l = true) : logKey l key = keysFrom key 0 l := by unfold logKey; rw [if_pos hv]
theorem logKey_len (l : List Upd) (key : Int) : (logKey l key).length ≤ l.length := by
  unfold logKey
  split
  · exact keysFrom_len key 0 l
  · simp



end Go.Proofs.Ythhlimpmjmnmfaa
