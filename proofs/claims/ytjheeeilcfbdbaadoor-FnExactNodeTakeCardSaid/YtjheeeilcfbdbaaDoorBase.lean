/-
  Contracts: the small functions on numbers and single updates.
-/
import Derived.Test.YtjheeeilcfbdbaaDoorProg
import Derived.Test.YtjheeeilcfbdbaaDoorMem
import Derived.Deep.QuietTactic
import Derived.BigQuiet
import Derived.WalkLawsBesides
import Derived.WalkSpells
set_option linter.all false
set_option maxRecDepth 100000
namespace Go.Proofs.YtjheeeilcfbdbaaDoor
open Go.RowKit

theorem ret_bool {a b : Bool} (h : a = b) : Ending.returned (.bool a) = .returned (.bool b) := by rw [h]
theorem ret_int {k : IntKind} {a b : Int} (h : a = b) : Ending.returned (.int k a) = .returned (.int k b) := by rw [h]

theorem l6In_any (n a b : Int) (w : World) : Calls Tryd.prog 70 #[.int .i64 n, .int .i64 a, .int .i64 b] w fun e w' => e = .returned (.bool (decide (a ≤ n ∧ n ≤ b))) ∧ w = w' := by
  go_enter Tryd.func70, Tryd.ntmps70
  go_wp2
  all_goals (go_ret; refine ⟨ret_bool ?_, rfl⟩; rw [Bool.eq_iff_iff]; simp; try omega)

theorem keyValid_any (n : Int) (w : World) : Calls Tryd.prog 58 #[.int .i64 n] w fun e w' => e = .returned (.bool (decide (0 ≤ n ∧ n < 5))) ∧ w = w' := by
  go_enter Tryd.func58, Tryd.ntmps58
  go_wp2
  all_goals (go_ret; refine ⟨ret_bool ?_, rfl⟩; rw [Bool.eq_iff_iff]; simp; try omega)

theorem valid_any (k v : Int) (w : World) : Calls Tryd.prog 72 #[.agg #[.int .i64 k, .int .i64 v]] w fun e w' => e = .returned (.bool (updOk (k, v))) ∧ Ext w w' := by
  by_cases hk : 0 ≤ k ∧ k < 5
  · have hd : decide (0 ≤ k ∧ k < 5) = true := by simpa using hk
    go_enter Tryd.func72, Tryd.ntmps72
    go_wp2_with (go_at_call 58; refine (keyValid_any _ _).mono ?_; rintro e w' ⟨rfl, rfl⟩)
    all_goals (go_ret; refine ⟨ret_bool ?_, ext_alloc (ext_refl _) _⟩; rw [Bool.eq_iff_iff]; simp [updOk]; try omega)
  · have hd : decide (0 ≤ k ∧ k < 5) = false := by simpa using hk
    go_enter Tryd.func72, Tryd.ntmps72
    go_wp2_with (go_at_call 58; refine (keyValid_any _ _).mono ?_; rintro e w' ⟨rfl, rfl⟩)
    all_goals (go_ret; refine ⟨ret_bool ?_, ext_alloc (ext_refl _) _⟩; rw [Bool.eq_iff_iff]; simp [updOk]; try omega)

theorem implUpdateValid_any (k v : Int) (w : World) : Calls Tryd.prog 69 #[.agg #[.int .i64 k, .int .i64 v]] w fun e w' => e = .returned (.bool (updOk (k, v))) ∧ Ext w w' := by
  go_enter Tryd.func69, Tryd.ntmps69
  go_wp2_with (go_at_call 72; refine (valid_any _ _ _).mono ?_; rintro e w' ⟨rfl, hb⟩)
  go_ret
  exact ⟨rfl, ext_trans (ext_alloc (ext_refl _) _) hb⟩

theorem specUpdateValid_any (k v : Int) (w : World) : Calls Tryd.prog 41 #[.agg #[.int .i64 k, .int .i64 v]] w fun e w' => e = .returned (.bool (updOk (k, v))) ∧ Ext w w' := by
  by_cases hk : 0 ≤ k ∧ k ≤ 4
  · have hd : decide (0 ≤ k ∧ k ≤ 4) = true := by simpa using hk
    go_enter Tryd.func41, Tryd.ntmps41
    go_wp2_with (go_at_call 70; refine (l6In_any _ _ _ _).mono ?_; rintro e w' ⟨rfl, rfl⟩)
    all_goals (go_ret; refine ⟨ret_bool ?_, ext_alloc (ext_refl _) _⟩; rw [Bool.eq_iff_iff]; simp [updOk]; try omega)
  · have hd : decide (0 ≤ k ∧ k ≤ 4) = false := by simpa using hk
    go_enter Tryd.func41, Tryd.ntmps41
    go_wp2_with (go_at_call 70; refine (l6In_any _ _ _ _).mono ?_; rintro e w' ⟨rfl, rfl⟩)
    all_goals (go_ret; refine ⟨ret_bool ?_, ext_alloc (ext_refl _) _⟩; rw [Bool.eq_iff_iff]; simp [updOk]; try omega)

theorem toUpdate_any (k v : Int) (w : World) : Calls Tryd.prog 18 #[.agg #[.int .i64 k, .int .i64 v]] w fun e w' => e = .returned (.agg #[.int .i64 k, .int .i64 v]) ∧ Ext w w' := by
  go_enter Tryd.func18, Tryd.ntmps18
  go_wp2
  exact bodyPost_ret (v := .agg #[.int .i64 k, .int .i64 v]) (by simp [results, Tryd.results18, go_sem]) rfl ⟨rfl, ext_alloc (ext_alloc (ext_alloc (ext_refl _) _) _) _⟩
theorem eqUpdate_any (k v k' v' : Int) (w : World) : Calls Tryd.prog 73 #[.agg #[.int .i64 k, .int .i64 v], .agg #[.int .i64 k', .int .i64 v']] w fun e w' => e = .returned (.bool (decide (k = k' ∧ v = v'))) ∧ Ext w w' := by
  go_enter Tryd.func73, Tryd.ntmps73
  go_wp2
  all_goals (go_ret; refine ⟨ret_bool ?_, ext_alloc (ext_alloc (ext_refl _) _) _⟩; rw [Bool.eq_iff_iff]; simp_all)
end Go.Proofs.YtjheeeilcfbdbaaDoor
