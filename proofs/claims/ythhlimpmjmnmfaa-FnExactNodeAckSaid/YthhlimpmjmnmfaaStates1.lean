/-
  Contracts: StateValid, both.
-/
import Derived.Test.YthhlimpmjmnmfaaExact1
set_option linter.all false
namespace Go.Proofs.Ythhlimpmjmnmfaa
open Go.RowKit

theorem stateOk_len {s : List Int} (h : stateOk s = true) : s.length = 5 := by simp [stateOk] at h; exact h.1
theorem stateOk_at {s : List Int} (h : stateOk s = true) {i : Nat} (hi : i < s.length) : valOk s[i] = true := by
  simp [stateOk] at h; exact h.2 _ (List.getElem_mem hi)
theorem stateOk_of {s : List Int} (h : s.length = 5) (h' : ∀ i (hi : i < s.length), valOk s[i] = true) : stateOk s = true := by
  simp only [stateOk, Bool.and_eq_true, decide_eq_true_eq, List.all_eq_true]
  refine ⟨h, fun x hx => ?_⟩
  obtain ⟨i, hi, rfl⟩ := List.mem_iff_getElem.1 hx
  exact h' i hi
theorem stateOk_bad {s : List Int} {i : Nat} (hi : i < s.length) (h : valOk s[i] = false) : stateOk s = false := by
  cases e : stateOk s with
  | false => rfl
  | true => rw [stateOk_at e hi] at h; cases h
theorem stateOk_ne {s : List Int} (h : s.length ≠ 5) : stateOk s = false := by
  cases e : stateOk s with
  | false => rfl
  | true => exact absurd (stateOk_len e) h

theorem implStateValid_any {A : Option Addr} {s : List Int} (c : Nat) {w : World} (h : IntsR w A s) (hm : s.length ≤ 1048576) :
    Calls Try.prog 62 #[.slice A s.length c] w fun e w' => e = .returned (.bool (stateOk s)) ∧ Ext w w' := by
  have h := hide h
  by_cases h5 : s.length = 5
  · have h5' : ((s.length : Int) != 5) = false := by simp [h5]
    have h5 := hide h5
    go_enter Try.func62, Try.ntmps62
    go_wp2_with fail
    go_loopw [10] (fun i wr => ∃ k : Nat, k ≤ s.length ∧ i = .int .i64 k ∧ Hid (Ext w wr) ∧ Hid (∀ j (hj : j < s.length), j < k → valOk s[j] = true)) (fun i _ => s.length - (intOf i).toNat)
    case atStart => exact ⟨0, Nat.zero_le _, rfl, hide (ext_refl _), hide (fun j _ hj => absurd hj (Nat.not_lt_zero _))⟩
    case round =>
      obtain ⟨k, hk, rfl, hE, hT⟩ := hrel
      by_cases hlt : k < s.length
      · obtain ⟨b, o, x, hA, hb, hx, hc0⟩ := int_at (h.out.ext hE.out) hlt
        subst hA
        have hx := hide hx
        by_cases hv : -1 ≤ x ∧ x ≤ 99
        · have hv1 : decide (x < -1) = false := by simp; omega
          have hv2 : decide (99 < x) = false := by simp; omega
          go_wp2
          go_roundw
          case rel =>
            refine ⟨k + 1, by omega, by go_num, hE, hide (fun j hj hjk => ?_)⟩
            by_cases e : j = k
            · subst e; rw [hx.out]; simpa [valOk] using hv
            · exact hT.out j hj (by omega)
          case measure => simp [intOf]; omega
        · by_cases hv1 : x < -1
          · go_wp2
            go_ret
            exact ⟨ret_bool (stateOk_bad hlt (by rw [hx.out]; simp [valOk]; omega)).symm, hE.out⟩
          · have hv2 : 99 < x := by omega
            go_wp2
            go_ret
            exact ⟨ret_bool (stateOk_bad hlt (by rw [hx.out]; simp [valOk]; omega)).symm, hE.out⟩
      · go_wp2
        go_ret
        exact ⟨ret_bool (stateOk_of h5.out fun i hi => hT.out i hi (by omega)).symm, hE.out⟩
  · have h5' : ((s.length : Int) != 5) = true := by simp; omega
    have h5 := hide h5
    go_enter Try.func62, Try.ntmps62
    go_wp2
    go_ret
    exact ⟨ret_bool (stateOk_ne h5.out).symm, ext_refl _⟩

end Go.Proofs.Ythhlimpmjmnmfaa
