/-
  The walks of the laws FnCommonBegins, FnBegins, FnCommon: each returns true for every input, and leaves its arguments as they were.
-/
import Derived.Test.YtfkongkokegjjaaLogs2
import Derived.Test.YtfkongkokegjjaaDraw4
import Derived.Test.YtfkongkokegjjaaSame
set_option linter.all false
namespace Go.Proofs.Ytfkongkokegjjaa
open Go.RowKit

theorem len64b {n c : Nat} {w : World} {a : Option Addr} (h : CodeR w a n c) : n ≤ 9223372036854775807 := by have := h.1; have := h.2.1; unfold maxLen at this; omega

theorem begins_of {l m : List Upd} (h1 : logOk l = true) (h2 : logOk m = true) : begins l m = decide (common l m = l.length) := by simp [begins, h1, h2]
theorem commonI_of {l m : List Upd} (h : 0 ≤ commonI l m) : logOk l = true ∧ logOk m = true ∧ commonI l m = (common l m : Int) := by
  unfold commonI at h ⊢
  split
  · rename_i hv; simp at hv; exact ⟨hv.1, hv.2, rfl⟩
  · rename_i hv; rw [if_neg hv] at h; omega

theorem sameLog_n {A B : Option Addr} {l m : List Upd} {n k : Nat} (c d : Nat) {w : World} (h : LogR w A l) (h' : LogR w B m) (hn : l.length = n) (hk : m.length = k) (hm : n ≤ 1048576) (hm' : k ≤ 1048576) :
    Calls Try.prog 24 #[.slice A n c, .slice B k d] w fun e w' => e = .returned (.bool (decide (l = m))) ∧ Ext w w' := by
  subst hn hk; exact sameLog_any c d h h' hm hm'

theorem fnCommonBegins.walk (a0 : Option Addr) (n0 c0 : Nat) (w : World) (w0 : CodeR w a0 n0 c0) :
    Calls Try.prog 4 #[.slice a0 n0 c0] w fun e w' => e = .returned (.bool true) ∧ Below w.heap.size w w' := by
  have hm := len64b w0
  by_cases hn : 1048576 < n0
  · go_enter Try.func4, Try.ntmps4
    go_wp2
    go_ret
    exact ⟨rfl, ext_refl _⟩
  · go_enter Try.func4, Try.ntmps4
    go_wp2_with fail
    refine (drawLogCommon_any w0).mono ?_
    rintro e w1 ⟨A, c, l, B, d, m, rfl, hl, hm', hlc, hcm, hmd, hdm, hA, hB, hE1⟩
    replace hA := hide hA
    replace hB := hide hB
    replace hE1 := hide hE1
    go_wp2_with fail
    refine (implLogCommon_any c d hA.out hB.out (by omega) (by omega)).mono ?_
    rintro e w2 ⟨rfl, hE2⟩
    replace hA := hide (hA.out.ext hE2)
    replace hB := hide (hB.out.ext hE2)
    replace hE2 := hide (ext_trans hE1.out hE2)
    go_wp2_with fail
    refine (specLogCommon_any c d hA.out hB.out (by omega) (by omega)).mono ?_
    rintro e w3 ⟨rfl, hE3⟩
    replace hA := hide (hA.out.ext hE3)
    replace hB := hide (hB.out.ext hE3)
    replace hE3 := hide (ext_trans hE2.out hE3)
    by_cases hneg : commonI l m < 0
    · have hd : decide (commonI l m < 0) = true := by simpa using hneg
      go_wp2_with fail
      go_ret
      exact ⟨by simp, hE3.out⟩
    · have hd : decide (commonI l m < 0) = false := by simpa using hneg
      obtain ⟨h1, h2, h3⟩ := commonI_of (l := l) (m := m) (by omega)
      have hb := begins_of h1 h2
      rw [h3] at hd ⊢
      replace h3 := hide h3
      go_wp2_with fail
      refine (implLogBegins_any c d hA.out hB.out (by omega) (by omega)).mono ?_
      rintro e w4 ⟨rfl, hE4⟩
      replace hE4 := hide (ext_trans hE3.out hE4)
      rw [hb]
      by_cases hc : common l m = l.length
      · have e1 : ((common l m : Int) == (l.length : Int)) = true := by rw [beq_iff_eq]; omega
        have e2 : decide (common l m = l.length) = true := by simpa using hc
        replace hc := hide hc
        go_wp2_with fail
        go_ret
        exact ⟨rfl, hE4.out⟩
      · have e1 : ((common l m : Int) == (l.length : Int)) = false := by rw [beq_eq_false_iff_ne]; omega
        have e2 : decide (common l m = l.length) = false := by simpa using hc
        replace hc := hide hc
        go_wp2_with fail
        go_ret
        exact ⟨rfl, hE4.out⟩

theorem fnBegins.walk (a0 : Option Addr) (n0 c0 : Nat) (w : World) (w0 : CodeR w a0 n0 c0) :
    Calls Try.prog 6 #[.slice a0 n0 c0] w fun e w' => e = .returned (.bool true) ∧ Below w.heap.size w w' := by
  have hm := len64b w0
  by_cases hn : 1048576 < n0
  · go_enter Try.func6, Try.ntmps6
    go_wp2
    go_ret
    exact ⟨rfl, ext_refl _⟩
  · go_enter Try.func6, Try.ntmps6
    go_wp2_with fail
    refine (drawLogBegins_any w0).mono ?_
    rintro e w1 ⟨A, c, l, B, d, m, rfl, hl, hm', hlc, hcm, hmd, hdm, hA, hB, hE1⟩
    replace hA := hide hA
    replace hB := hide hB
    replace hE1 := hide hE1
    go_wp2_with fail
    refine (implLogBegins_any c d hA.out hB.out (by omega) (by omega)).mono ?_
    rintro e w2 ⟨rfl, hE2⟩
    replace hA := hide (hA.out.ext hE2)
    replace hB := hide (hB.out.ext hE2)
    replace hE2 := hide (ext_trans hE1.out hE2)
    go_wp2_with fail
    refine (specLogBegins_any c d hA.out hB.out (by omega) (by omega)).mono ?_
    rintro e w3 ⟨rfl, hE3⟩
    replace hA := hide (hA.out.ext hE3)
    replace hB := hide (hB.out.ext hE3)
    replace hE3 := hide (ext_trans hE2.out hE3)
    by_cases hv : begins l m = true
    · obtain ⟨h1, h2, h3⟩ := begins_ok hv
      obtain ⟨h4, h5⟩ := common_prefix h3
      replace h3 := hide h3
      have hd : decide ((l.length : Int) ≤ (m.length : Int)) = true := by simpa using h4
      have hlc' : l.length ≤ d := by omega
      have hdm' := hdm
      unfold maxLen at hdm'
      go_wp2_with fail
      refine (sameLog_n d c (hB.out.take l.length) hA.out (by rw [List.length_take]; omega) rfl (by omega) (by omega)).mono ?_
      rintro e w4 ⟨rfl, hE4⟩
      have e2 : decide (m.take l.length = l) = true := by simpa using h5
      replace h5 := hide h5
      replace hE4 := hide (ext_trans hE3.out hE4)
      go_wp2_with fail
      go_ret
      exact ⟨rfl, hE4.out⟩
    · have hv : begins l m = false := by simpa using hv
      go_wp2_with fail
      go_ret
      exact ⟨rfl, hE3.out⟩

set_option maxHeartbeats 1600000 in
theorem fnCommon.walk (a0 : Option Addr) (n0 c0 : Nat) (w : World) (w0 : CodeR w a0 n0 c0) :
    Calls Try.prog 5 #[.slice a0 n0 c0] w fun e w' => e = .returned (.bool true) ∧ Below w.heap.size w w' := by
  have hm := len64b w0
  by_cases hn : 1048576 < n0
  · go_enter Try.func5, Try.ntmps5
    go_wp2
    go_ret
    exact ⟨rfl, ext_refl _⟩
  · go_enter Try.func5, Try.ntmps5
    go_wp2_with fail
    refine (drawLogCommon_any w0).mono ?_
    rintro e w1 ⟨A, c, l, B, d, m, rfl, hl, hm', hlc, hcm, hmd, hdm, hA, hB, hE1⟩
    replace hA := hide hA
    replace hB := hide hB
    replace hE1 := hide hE1
    go_wp2_with fail
    refine (implLogCommon_any c d hA.out hB.out (by omega) (by omega)).mono ?_
    rintro e w2 ⟨rfl, hE2⟩
    replace hA := hide (hA.out.ext hE2)
    replace hB := hide (hB.out.ext hE2)
    replace hE2 := hide (ext_trans hE1.out hE2)
    go_wp2_with fail
    refine (specLogCommon_any c d hA.out hB.out (by omega) (by omega)).mono ?_
    rintro e w3 ⟨rfl, hE3⟩
    replace hA := hide (hA.out.ext hE3)
    replace hB := hide (hB.out.ext hE3)
    replace hE3 := hide (ext_trans hE2.out hE3)
    by_cases hneg : commonI l m < 0
    · have hd : decide (commonI l m < 0) = true := by simpa using hneg
      go_wp2_with fail
      go_ret
      exact ⟨by simp, hE3.out⟩
    · have hd : decide (commonI l m < 0) = false := by simpa using hneg
      obtain ⟨-, -, h3⟩ := commonI_of (l := l) (m := m) (by omega)
      have k1 := common_le_left l m
      have k2 := common_le_right l m
      have k3 := hide (common_take l m)
      have k4 := hide (common_ne l m)
      rw [h3] at hd ⊢
      replace h3 := hide h3
      obtain ⟨k, hk⟩ : ∃ k, common l m = k := ⟨_, rfl⟩
      rw [hk] at k1 k2 k3 k4 hd ⊢
      clear h3 hk hneg
      have hkc : k ≤ c := by omega
      have hkd : k ≤ d := by omega
      unfold maxLen at hcm hdm
      have g1 := hide (show (l.take k).length = k by rw [List.length_take]; omega)
      have g2 := hide (show (m.take k).length = k by rw [List.length_take]; omega)
      have g3 : decide (l.take k = m.take k) = true := by simpa using k3.out
      have r1 := hide (fun n => (hA.out.take k).ext (ext_drewN (ext_refl w3) n))
      have r2 := hide (fun n => (hB.out.take k).ext (ext_drewN (ext_refl w3) n))
      by_cases q1 : k < l.length
      · have q1' : decide ((k : Int) < (l.length : Int)) = true := by simpa using q1
        by_cases q2 : k < m.length
        · have q2' : decide ((k : Int) < (m.length : Int)) = true := by simpa using q2
          obtain ⟨b, o, x, y, hAA, hb, hxy, hc0, hc1⟩ := log_at hA.out q1
          subst hAA
          obtain ⟨b', o', x', y', hBB, hb', hxy', hc0', hc1'⟩ := log_at hB.out q2
          subst hBB
          have hne : ¬ (x = x' ∧ y = y') := fun ⟨e1, e2⟩ => k4.out q1 q2 (by rw [List.getElem?_eq_getElem q1, List.getElem?_eq_getElem q2, hxy, hxy', e1, e2])
          replace hxy := hide hxy
          replace hxy' := hide hxy'
          by_cases hv : x = x'
          · have hv' : ¬ y = y' := fun e => hne ⟨hv, e⟩
            clear hne
            go_wp2_with fail
            go_quiet (fail)
            go_wp2_with fail
            go_region_with (go_at_call 24; refine (sameLog_n c d (r1.out _) (r2.out _) g1.out g2.out (by omega) (by omega)).mono ?_; rintro e w4 ⟨rfl, hE4⟩)
            all_goals replace hE4 := hide hE4
            all_goals go_wp2_with fail
            all_goals go_ret
            all_goals exact ⟨rfl, ext_trans (ext_drewN hE3.out _) hE4.out⟩
          · clear hne
            go_wp2_with fail
            go_quiet (fail)
            go_wp2_with fail
            go_region_with (go_at_call 24; refine (sameLog_n c d (r1.out _) (r2.out _) g1.out g2.out (by omega) (by omega)).mono ?_; rintro e w4 ⟨rfl, hE4⟩)
            all_goals replace hE4 := hide hE4
            all_goals go_wp2_with fail
            all_goals go_ret
            all_goals exact ⟨rfl, ext_trans (ext_drewN hE3.out _) hE4.out⟩
        · have q2' : decide ((k : Int) < (m.length : Int)) = false := by simpa using q2
          go_wp2_with fail
          go_quiet (fail)
          go_wp2_with fail
          go_region_with (go_at_call 24; refine (sameLog_n c d (r1.out _) (r2.out _) g1.out g2.out (by omega) (by omega)).mono ?_; rintro e w4 ⟨rfl, hE4⟩)
          all_goals replace hE4 := hide hE4
          all_goals go_wp2_with fail
          all_goals go_ret
          all_goals exact ⟨rfl, ext_trans (ext_drewN hE3.out _) hE4.out⟩
      · have q1' : decide ((k : Int) < (l.length : Int)) = false := by simpa using q1
        go_wp2_with fail
        go_quiet (fail)
        go_wp2_with fail
        go_region_with (go_at_call 24; refine (sameLog_n c d (r1.out _) (r2.out _) g1.out g2.out (by omega) (by omega)).mono ?_; rintro e w4 ⟨rfl, hE4⟩)
        all_goals replace hE4 := hide hE4
        all_goals go_wp2_with fail
        all_goals go_ret
        all_goals exact ⟨rfl, ext_trans (ext_drewN hE3.out _) hE4.out⟩
end Go.Proofs.Ytfkongkokegjjaa
