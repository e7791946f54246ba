/-
  Contracts: nodes: valid, copied, told, pending, both.
-/
import Derived.Test.YtjheeeilcfbdbaaDoorNMem
import Derived.Deep.RegionHeld3
import Derived.Deep.DrawnRows
set_option linter.all false
set_option maxRecDepth 100000
namespace Go.Proofs.YtjheeeilcfbdbaaDoor
open Go.RowKit
attribute [local go_sem ↓] Go.wp_at_zero Go.wp_at_succ

/-- A copy of a log in new memory. -/
theorem copyLog_any {A : Option Addr} {l : List Upd} (c : Nat) {w : World} (h : LogR w A l) (hm : l.length ≤ 1048576) :
    Calls Tryd.prog 45 #[.slice A l.length c] w fun e w' => e = .returned (.slice (some ⟨w.heap.size, 0, none⟩) l.length l.length) ∧ OwnU w' w.heap.size (some ⟨w.heap.size, 0, none⟩) l.length l ∧ Ext w w' := by
  have h := hide h
  obtain ⟨i0, hi, hz0, hz1, hz2⟩ := info_parts infoU'
  go_enter Tryd.func45, Tryd.ntmps45
  go_wp2_with (at_make; refine wpList_make_full _ rfl _ _ 23 rfl w.heap.size 27 i0 _ 2 Tryd.underlying23 hi hz0 hz1 _ _ _ _ l.length rfl rfl rfl rfl (by rw [hz2]; omega) (by unfold maxLen; omega) (Nat.le_refl _) ?_)
  intro w1 hown hgr
  have hE1 : Hid (Ext w w1) := hide ⟨hgr.os, hgr.tape, hgr.output, hgr.size, fun i hi => hgr.block i hi (by simp)⟩
  clear hgr
  have hcs : CellsR w1 A (ucells l) := h.out.ext hE1.out
  go_wp2_with (with_reducible refine wpList_copy_whole rfl (.tmp 7) (.tmp 8) 23 23 rfl w.heap.size 27 i0 2 Tryd.underlying23 hi hz1 w.heap.size l.length l.length _ rfl hown A c (ucells l) rfl (ucells_len l) hcs (ucells_one l) ?_)
  intro w2 hown2 hg2
  have hE2 := hide (ext_only hE1.out hg2 (Nat.le_refl _))
  replace hown2 := hide hown2
  clear hg2 hown
  go_wp2
  go_ret
  exact ⟨rfl, hown2.out, hE2.out⟩

theorem copyLog_at {A : Option Addr} {l : List Upd} (c : Nat) {w : World} {H : Nat} (hH : Hid (w.heap.size = H)) (h : LogR w A l) (hm : l.length ≤ 1048576) :
    Calls Tryd.prog 45 #[.slice A l.length c] w fun e w' => e = .returned (.slice (some ⟨H, 0, none⟩) l.length l.length) ∧ OwnU w' H (some ⟨H, 0, none⟩) l.length l ∧ Ext w w' := by
  have e := hH.out
  subst e
  exact copyLog_any c h hm
set_option maxHeartbeats 1600000 in
theorem copyNode_any {A : Option Addr} {l : List Upd} (c : Nat) (i j : Int) {w : World} (h : LogR w A l) (hm : l.length ≤ 1048576) :
    Calls Tryd.prog 39 #[.agg #[.int .i64 i, .slice A l.length c, .int .i64 j]] w (GotNode w ⟨i, l, j⟩) := by
  replace h := hide h
  have hE := hide (ext_refl w)
  have b := hide (Blk.newAt (w) 25 #[.int .i64 i, .slice A l.length c, .int .i64 j] (g := w.heap.size) (by simp))
  replace h := hide (h.out.ext (ext_alloc (ext_refl (w)) (.cells #[.int .i64 i, .slice A l.length c, .int .i64 j] 25)))
  replace hE := hide (ext_alloc hE.out (.cells #[.int .i64 i, .slice A l.length c, .int .i64 j] 25))
  have r := hide (Blk.newAt (w.alloc (.cells #[.int .i64 i, .slice A l.length c, .int .i64 j] 25)) 25 #[.int .i64 0, .slice none 0 0, .int .i64 0] (g := w.heap.size + 1) (by simp))
  replace h := hide (h.out.ext (ext_alloc (ext_refl (w.alloc (.cells #[.int .i64 i, .slice A l.length c, .int .i64 j] 25))) (.cells #[.int .i64 0, .slice none 0 0, .int .i64 0] 25)))
  replace b := hide (b.out.ext (ext_alloc (ext_refl (w.alloc (.cells #[.int .i64 i, .slice A l.length c, .int .i64 j] 25))) (.cells #[.int .i64 0, .slice none 0 0, .int .i64 0] 25)))
  replace hE := hide (ext_alloc hE.out (.cells #[.int .i64 0, .slice none 0 0, .int .i64 0] 25))
  go_enter Tryd.func39, Tryd.ntmps39
  go_wp2_with fail
  have hD := hide (show LogR ((w.alloc (.cells #[.int .i64 i, .slice A l.length c, .int .i64 j] 25)).alloc (.cells #[.int .i64 0, .slice none 0 0, .int .i64 0] 25)).drew A l from h.out)
  have hH := hide (show ((w.alloc (.cells #[.int .i64 i, .slice A l.length c, .int .i64 j] 25)).alloc (.cells #[.int .i64 0, .slice none 0 0, .int .i64 0] 25)).drew.heap.size = w.heap.size + 1 + 1 by simp)
  go_region_held3 (fun w' => w'.cell? ⟨w.heap.size, 0, none⟩ = some (.int .i64 i) ∧ w'.cell? ⟨w.heap.size, 1, none⟩ = some (.slice A l.length c) ∧ w'.cell? ⟨w.heap.size, 2, none⟩ = some (.int .i64 j)) (first | exact ⟨b_0, b_1, b_2⟩ | go_keep)
    ((go_at_call 45; refine (copyLog_at c hH hD.out hm).mono ?_; rintro e w1 ⟨rfl, hO, hF⟩; obtain ⟨b_0, b_1, b_2, b_lt⟩ := (b.out.over hF rfl).at3; obtain ⟨r_0, r_1, r_2, r_lt, r_f0, r_f1, r_f2⟩ := (r.out.over hF rfl).at3f))
  replace hO := hide hO
  replace hE := hide (ext_over hE.out hF rfl rfl rfl rfl)
  clear hF
  go_wp2_with fail
  refine bodyPost_ret (v := .agg #[.int .i64 i, .slice _ l.length l.length, .int .i64 j]) (by simp [results, Tryd.results39, go_sem, r_0, r_1, r_2]; rfl) rfl ?_
  exact ⟨_, _, rfl, OwnU.mono (((hO.out.set_ (by show w.heap.size + 1 < _; omega) _).set_ (by show w.heap.size + 1 < _; omega) _).set_ (by show w.heap.size + 1 < _; omega) _) (by omega), ((hE.out.setCell (by show w.heap.size ≤ w.heap.size + 1; omega) _).setCell (by show w.heap.size ≤ w.heap.size + 1; omega) _).setCell (by show w.heap.size ≤ w.heap.size + 1; omega) _⟩

theorem idValid_any (n : Int) (w : World) : Calls Tryd.prog 43 #[.int .i64 n] w fun e w' => e = .returned (.bool (decide (1 ≤ n ∧ n ≤ 99))) ∧ w = w' := by
  go_enter Tryd.func43, Tryd.ntmps43
  go_wp2
  all_goals (go_ret; refine ⟨ret_bool ?_, rfl⟩; rw [Bool.eq_iff_iff]; simp; try omega)

theorem implNodeValid_any {A : Option Addr} {l : List Upd} (c : Nat) (i j : Int) {w : World} (h : LogR w A l) (hm : l.length ≤ 1048576) :
    Calls Tryd.prog 13 #[.agg #[.int .i64 i, .slice A l.length c, .int .i64 j]] w fun e w' => e = .returned (.bool (ndOk ⟨i, l, j⟩)) ∧ Ext w w' := by
  replace h := hide h
  have hE := hide (ext_refl w)
  have b := hide (Blk.newAt (w) 25 #[.int .i64 i, .slice A l.length c, .int .i64 j] (g := w.heap.size) (by simp))
  replace h := hide (h.out.ext (ext_alloc (ext_refl (w)) (.cells #[.int .i64 i, .slice A l.length c, .int .i64 j] 25)))
  replace hE := hide (ext_alloc hE.out (.cells #[.int .i64 i, .slice A l.length c, .int .i64 j] 25))
  by_cases hi : 1 ≤ i ∧ i ≤ 99
  · have hd : decide (1 ≤ i ∧ i ≤ 99) = true := by simpa using hi
    by_cases hl : logOk l = true
    · go_enter Tryd.func13, Tryd.ntmps13
      go_wp2_with (go_at_call 43; refine (idValid_any _ _).mono ?_; rintro e w' ⟨rfl, rfl⟩)
      refine (implLogValid_any c h.out hm).mono ?_
      rintro e w1 ⟨rfl, hF⟩
      replace h := hide (h.out.ext hF)
      replace b := hide (b.out.ext hF)
      try clear b_0 b_1 b_2 b_lt
      obtain ⟨b_0, b_1, b_2, b_lt⟩ := b.out.at3
      replace hE := hide (ext_trans hE.out hF)
      clear hF
      go_wp2_with fail
      all_goals (go_ret; refine ⟨ret_bool ?_, hE.out⟩; rw [Bool.eq_iff_iff]; simp [ndOk, hl]; try omega)
    · have hl : logOk l = false := by simpa using hl
      go_enter Tryd.func13, Tryd.ntmps13
      go_wp2_with (go_at_call 43; refine (idValid_any _ _).mono ?_; rintro e w' ⟨rfl, rfl⟩)
      refine (implLogValid_any c h.out hm).mono ?_
      rintro e w1 ⟨rfl, hF⟩
      replace h := hide (h.out.ext hF)
      replace b := hide (b.out.ext hF)
      try clear b_0 b_1 b_2 b_lt
      obtain ⟨b_0, b_1, b_2, b_lt⟩ := b.out.at3
      replace hE := hide (ext_trans hE.out hF)
      clear hF
      go_wp2_with fail
      go_ret
      exact ⟨ret_bool (ndOk_log hl).symm, hE.out⟩
  · have hd : decide (1 ≤ i ∧ i ≤ 99) = false := by simpa using hi
    go_enter Tryd.func13, Tryd.ntmps13
    go_wp2_with (go_at_call 43; refine (idValid_any _ _).mono ?_; rintro e w' ⟨rfl, rfl⟩)
    go_ret
    exact ⟨ret_bool (ndOk_id hi).symm, hE.out⟩

theorem specNodeValid_any {A : Option Addr} {l : List Upd} (c : Nat) (i j : Int) {w : World} (h : LogR w A l) (hm : l.length ≤ 1048576) :
    Calls Tryd.prog 40 #[.agg #[.int .i64 i, .slice A l.length c, .int .i64 j]] w fun e w' => e = .returned (.bool (ndOk ⟨i, l, j⟩)) ∧ Ext w w' := by
  replace h := hide h
  have hE := hide (ext_refl w)
  have b := hide (Blk.newAt (w) 25 #[.int .i64 i, .slice A l.length c, .int .i64 j] (g := w.heap.size) (by simp))
  replace h := hide (h.out.ext (ext_alloc (ext_refl (w)) (.cells #[.int .i64 i, .slice A l.length c, .int .i64 j] 25)))
  replace hE := hide (ext_alloc hE.out (.cells #[.int .i64 i, .slice A l.length c, .int .i64 j] 25))
  by_cases hi : 1 ≤ i ∧ i ≤ 99
  · have hd : decide (1 ≤ i ∧ i ≤ 99) = true := by simpa using hi
    by_cases hl : logOk l = true
    · go_enter Tryd.func40, Tryd.ntmps40
      go_wp2_with (go_at_call 70; refine (l6In_any _ _ _ _).mono ?_; rintro e w' ⟨rfl, rfl⟩)
      refine (specLogValid_any c h.out hm).mono ?_
      rintro e w1 ⟨rfl, hF⟩
      replace h := hide (h.out.ext hF)
      replace b := hide (b.out.ext hF)
      try clear b_0 b_1 b_2 b_lt
      obtain ⟨b_0, b_1, b_2, b_lt⟩ := b.out.at3
      replace hE := hide (ext_trans hE.out hF)
      clear hF
      go_wp2_with (go_at_call 70; refine (l6In_any _ _ _ _).mono ?_; rintro e w' ⟨rfl, rfl⟩)
      go_ret
      refine ⟨ret_bool ?_, hE.out⟩
      rw [Bool.eq_iff_iff]; simp [ndOk, hl]; try omega
    · have hl : logOk l = false := by simpa using hl
      go_enter Tryd.func40, Tryd.ntmps40
      go_wp2_with (go_at_call 70; refine (l6In_any _ _ _ _).mono ?_; rintro e w' ⟨rfl, rfl⟩)
      refine (specLogValid_any c h.out hm).mono ?_
      rintro e w1 ⟨rfl, hF⟩
      replace h := hide (h.out.ext hF)
      replace b := hide (b.out.ext hF)
      try clear b_0 b_1 b_2 b_lt
      obtain ⟨b_0, b_1, b_2, b_lt⟩ := b.out.at3
      replace hE := hide (ext_trans hE.out hF)
      clear hF
      go_wp2_with fail
      go_ret
      exact ⟨ret_bool (ndOk_log hl).symm, hE.out⟩
  · have hd : decide (1 ≤ i ∧ i ≤ 99) = false := by simpa using hi
    go_enter Tryd.func40, Tryd.ntmps40
    go_wp2_with (go_at_call 70; refine (l6In_any _ _ _ _).mono ?_; rintro e w' ⟨rfl, rfl⟩)
    go_ret
    exact ⟨ret_bool (ndOk_id hi).symm, hE.out⟩
end Go.Proofs.YtjheeeilcfbdbaaDoor
