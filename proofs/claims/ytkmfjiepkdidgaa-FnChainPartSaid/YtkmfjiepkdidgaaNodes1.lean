/-
  Contracts: nodes: valid, copied, told, pending, both.
-/
import Derived.Test.YtkmfjiepkdidgaaNMem
import Derived.Deep.RegionHeld3
import Derived.Deep.DrawnRows
set_option linter.all false
set_option maxRecDepth 100000
namespace Go.Proofs.Ytkmfjiepkdidgaa
open Go.RowKit
attribute [local go_sem ↓] Go.wp_at_zero Go.wp_at_succ



theorem idValid_any (n : Int) (w : World) : Calls Try.prog 68 #[.int .i64 n] w fun e w' => e = .returned (.bool (decide (1 ≤ n ∧ n ≤ 99))) ∧ w = w' := by
  go_enter Try.func68, Try.ntmps68
  go_wp2
  all_goals (go_ret; refine ⟨ret_bool ?_, rfl⟩; rw [Bool.eq_iff_iff]; simp; try omega)

theorem implNodeValid_any {A : Option Addr} {l : List Upd} (c : Nat) (i j : Int) {w : World} (h : LogR w A l) (hm : l.length ≤ 1048576) :
    Calls Try.prog 48 #[.agg #[.int .i64 i, .slice A l.length c, .int .i64 j]] w fun e w' => e = .returned (.bool (ndOk ⟨i, l, j⟩)) ∧ Ext w w' := by
  replace h := hide h
  have hE := hide (ext_refl w)
  have b := hide (Blk.newAt (w) 31 #[.int .i64 i, .slice A l.length c, .int .i64 j] (g := w.heap.size) (by simp))
  replace h := hide (h.out.ext (ext_alloc (ext_refl (w)) (.cells #[.int .i64 i, .slice A l.length c, .int .i64 j] 31)))
  replace hE := hide (ext_alloc hE.out (.cells #[.int .i64 i, .slice A l.length c, .int .i64 j] 31))
  by_cases hi : 1 ≤ i ∧ i ≤ 99
  · have hd : decide (1 ≤ i ∧ i ≤ 99) = true := by simpa using hi
    by_cases hl : logOk l = true
    · go_enter Try.func48, Try.ntmps48
      go_wp2_with (go_at_call 68; refine (idValid_any _ _).mono ?_; rintro e w' ⟨rfl, rfl⟩)
      refine (implLogValid_any c h.out hm).mono ?_
      rintro e w1 ⟨rfl, hF⟩
      replace h := hide (h.out.ext hF)
      replace b := hide (b.out.ext hF)
      try clear b_0 b_1 b_2 b_lt
      obtain ⟨b_0, b_1, b_2, b_lt⟩ := b.out.at3
      replace hE := hide (ext_trans hE.out hF)
      clear hF
      go_wp2_with fail
      all_goals (go_ret; refine ⟨ret_bool ?_, hE.out⟩; rw [Bool.eq_iff_iff]; simp [ndOk, hl]; try omega)
    · have hl : logOk l = false := by simpa using hl
      go_enter Try.func48, Try.ntmps48
      go_wp2_with (go_at_call 68; refine (idValid_any _ _).mono ?_; rintro e w' ⟨rfl, rfl⟩)
      refine (implLogValid_any c h.out hm).mono ?_
      rintro e w1 ⟨rfl, hF⟩
      replace h := hide (h.out.ext hF)
      replace b := hide (b.out.ext hF)
      try clear b_0 b_1 b_2 b_lt
      obtain ⟨b_0, b_1, b_2, b_lt⟩ := b.out.at3
      replace hE := hide (ext_trans hE.out hF)
      clear hF
      go_wp2_with fail
      go_ret
      exact ⟨ret_bool (ndOk_log hl).symm, hE.out⟩
  · have hd : decide (1 ≤ i ∧ i ≤ 99) = false := by simpa using hi
    go_enter Try.func48, Try.ntmps48
    go_wp2_with (go_at_call 68; refine (idValid_any _ _).mono ?_; rintro e w' ⟨rfl, rfl⟩)
    go_ret
    exact ⟨ret_bool (ndOk_id hi).symm, hE.out⟩

theorem specNodeValid_any {A : Option Addr} {l : List Upd} (c : Nat) (i j : Int) {w : World} (h : LogR w A l) (hm : l.length ≤ 1048576) :
    Calls Try.prog 51 #[.agg #[.int .i64 i, .slice A l.length c, .int .i64 j]] w fun e w' => e = .returned (.bool (ndOk ⟨i, l, j⟩)) ∧ Ext w w' := by
  replace h := hide h
  have hE := hide (ext_refl w)
  have b := hide (Blk.newAt (w) 31 #[.int .i64 i, .slice A l.length c, .int .i64 j] (g := w.heap.size) (by simp))
  replace h := hide (h.out.ext (ext_alloc (ext_refl (w)) (.cells #[.int .i64 i, .slice A l.length c, .int .i64 j] 31)))
  replace hE := hide (ext_alloc hE.out (.cells #[.int .i64 i, .slice A l.length c, .int .i64 j] 31))
  by_cases hi : 1 ≤ i ∧ i ≤ 99
  · have hd : decide (1 ≤ i ∧ i ≤ 99) = true := by simpa using hi
    by_cases hl : logOk l = true
    · go_enter Try.func51, Try.ntmps51
      go_wp2_with (go_at_call 54; refine (l6In_any _ _ _ _).mono ?_; rintro e w' ⟨rfl, rfl⟩)
      refine (specLogValid_any c h.out hm).mono ?_
      rintro e w1 ⟨rfl, hF⟩
      replace h := hide (h.out.ext hF)
      replace b := hide (b.out.ext hF)
      try clear b_0 b_1 b_2 b_lt
      obtain ⟨b_0, b_1, b_2, b_lt⟩ := b.out.at3
      replace hE := hide (ext_trans hE.out hF)
      clear hF
      go_wp2_with (go_at_call 54; refine (l6In_any _ _ _ _).mono ?_; rintro e w' ⟨rfl, rfl⟩)
      go_ret
      refine ⟨ret_bool ?_, hE.out⟩
      rw [Bool.eq_iff_iff]; simp [ndOk, hl]; try omega
    · have hl : logOk l = false := by simpa using hl
      go_enter Try.func51, Try.ntmps51
      go_wp2_with (go_at_call 54; refine (l6In_any _ _ _ _).mono ?_; rintro e w' ⟨rfl, rfl⟩)
      refine (specLogValid_any c h.out hm).mono ?_
      rintro e w1 ⟨rfl, hF⟩
      replace h := hide (h.out.ext hF)
      replace b := hide (b.out.ext hF)
      try clear b_0 b_1 b_2 b_lt
      obtain ⟨b_0, b_1, b_2, b_lt⟩ := b.out.at3
      replace hE := hide (ext_trans hE.out hF)
      clear hF
      go_wp2_with fail
      go_ret
      exact ⟨ret_bool (ndOk_log hl).symm, hE.out⟩
  · have hd : decide (1 ≤ i ∧ i ≤ 99) = false := by simpa using hi
    go_enter Try.func51, Try.ntmps51
    go_wp2_with (go_at_call 54; refine (l6In_any _ _ _ _).mono ?_; rintro e w' ⟨rfl, rfl⟩)
    go_ret
    exact ⟨ret_bool (ndOk_id hi).symm, hE.out⟩
end Go.Proofs.Ytkmfjiepkdidgaa
