/-
  Contracts: the small functions on numbers and single updates.
-/
import Derived.Test.YthhlimpmjmnmfaaProg
import Derived.Test.YthhlimpmjmnmfaaMem
import Derived.Deep.QuietTactic
import Derived.BigQuiet
import Derived.WalkLawsBesides
import Derived.WalkSpells
set_option linter.all false
namespace Go.Proofs.Ythhlimpmjmnmfaa
open Go.RowKit

theorem ret_bool {a b : Bool} (h : a = b) : Ending.returned (.bool a) = .returned (.bool b) := by rw [h]
theorem ret_int {k : IntKind} {a b : Int} (h : a = b) : Ending.returned (.int k a) = .returned (.int k b) := by rw [h]

theorem l6In_any (n a b : Int) (w : World) : Calls Try.prog 49 #[.int .i64 n, .int .i64 a, .int .i64 b] w fun e w' => e = .returned (.bool (decide (a ≤ n ∧ n ≤ b))) ∧ w = w' := by
  go_enter Try.func49, Try.ntmps49
  go_wp2
  all_goals (go_ret; refine ⟨ret_bool ?_, rfl⟩; rw [Bool.eq_iff_iff]; simp; try omega)

theorem keyValid_any (n : Int) (w : World) : Calls Try.prog 69 #[.int .i64 n] w fun e w' => e = .returned (.bool (decide (0 ≤ n ∧ n < 5))) ∧ w = w' := by
  go_enter Try.func69, Try.ntmps69
  go_wp2
  all_goals (go_ret; refine ⟨ret_bool ?_, rfl⟩; rw [Bool.eq_iff_iff]; simp; try omega)

theorem valid_any (k v : Int) (w : World) : Calls Try.prog 65 #[.agg #[.int .i64 k, .int .i64 v]] w fun e w' => e = .returned (.bool (updOk (k, v))) ∧ Ext w w' := by
  by_cases hk : 0 ≤ k ∧ k < 5
  · have hd : decide (0 ≤ k ∧ k < 5) = true := by simpa using hk
    go_enter Try.func65, Try.ntmps65
    go_wp2_with (go_at_call 69; refine (keyValid_any _ _).mono ?_; rintro e w' ⟨rfl, rfl⟩)
    all_goals (go_ret; refine ⟨ret_bool ?_, ext_alloc (ext_refl _) _⟩; rw [Bool.eq_iff_iff]; simp [updOk]; try omega)
  · have hd : decide (0 ≤ k ∧ k < 5) = false := by simpa using hk
    go_enter Try.func65, Try.ntmps65
    go_wp2_with (go_at_call 69; refine (keyValid_any _ _).mono ?_; rintro e w' ⟨rfl, rfl⟩)
    all_goals (go_ret; refine ⟨ret_bool ?_, ext_alloc (ext_refl _) _⟩; rw [Bool.eq_iff_iff]; simp [updOk]; try omega)

theorem implUpdateValid_any (k v : Int) (w : World) : Calls Try.prog 63 #[.agg #[.int .i64 k, .int .i64 v]] w fun e w' => e = .returned (.bool (updOk (k, v))) ∧ Ext w w' := by
  go_enter Try.func63, Try.ntmps63
  go_wp2_with (go_at_call 65; refine (valid_any _ _ _).mono ?_; rintro e w' ⟨rfl, hb⟩)
  go_ret
  exact ⟨rfl, ext_trans (ext_alloc (ext_refl _) _) hb⟩

theorem specUpdateValid_any (k v : Int) (w : World) : Calls Try.prog 66 #[.agg #[.int .i64 k, .int .i64 v]] w fun e w' => e = .returned (.bool (updOk (k, v))) ∧ Ext w w' := by
  by_cases hk : 0 ≤ k ∧ k ≤ 4
  · have hd : decide (0 ≤ k ∧ k ≤ 4) = true := by simpa using hk
    go_enter Try.func66, Try.ntmps66
    go_wp2_with (go_at_call 49; refine (l6In_any _ _ _ _).mono ?_; rintro e w' ⟨rfl, rfl⟩)
    all_goals (go_ret; refine ⟨ret_bool ?_, ext_alloc (ext_refl _) _⟩; rw [Bool.eq_iff_iff]; simp [updOk]; try omega)
  · have hd : decide (0 ≤ k ∧ k ≤ 4) = false := by simpa using hk
    go_enter Try.func66, Try.ntmps66
    go_wp2_with (go_at_call 49; refine (l6In_any _ _ _ _).mono ?_; rintro e w' ⟨rfl, rfl⟩)
    all_goals (go_ret; refine ⟨ret_bool ?_, ext_alloc (ext_refl _) _⟩; rw [Bool.eq_iff_iff]; simp [updOk]; try omega)

theorem toUpdate_any (k v : Int) (w : World) : Calls Try.prog 57 #[.agg #[.int .i64 k, .int .i64 v]] w fun e w' => e = .returned (.agg #[.int .i64 k, .int .i64 v]) ∧ Ext w w' := by
  go_enter Try.func57, Try.ntmps57
  go_wp2
  exact bodyPost_ret (v := .agg #[.int .i64 k, .int .i64 v]) (by simp [results, Try.results57, go_sem]) rfl ⟨rfl, ext_alloc (ext_alloc (ext_alloc (ext_refl _) _) _) _⟩
theorem eqUpdate_any (k v k' v' : Int) (w : World) : Calls Try.prog 55 #[.agg #[.int .i64 k, .int .i64 v], .agg #[.int .i64 k', .int .i64 v']] w fun e w' => e = .returned (.bool (decide (k = k' ∧ v = v'))) ∧ Ext w w' := by
  go_enter Try.func55, Try.ntmps55
  go_wp2
  all_goals (go_ret; refine ⟨ret_bool ?_, ext_alloc (ext_alloc (ext_refl _) _) _⟩; rw [Bool.eq_iff_iff]; simp_all)
end Go.Proofs.Ythhlimpmjmnmfaa
