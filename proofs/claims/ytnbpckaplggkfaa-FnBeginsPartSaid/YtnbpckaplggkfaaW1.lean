/-
  The walks of the laws FnUpdatePart, FnCommonBoth, FnBeginsSelf, FnBeginsPart: each returns true for every input, and leaves its arguments as they were.
-/
import Derived.Test.YtnbpckaplggkfaaDraw4
import Derived.Test.YtnbpckaplggkfaaLogs2
set_option linter.all false
namespace Go.Proofs.Ytnbpckaplggkfaa
open Go.RowKit

theorem len64 {n c : Nat} {w : World} {a : Option Addr} (h : CodeR w a n c) : n ≤ 9223372036854775807 := by have := h.1; have := h.2.1; unfold maxLen at this; omega

theorem ext_cells {w w' : World} {t : TypeId} {cs : Array Value} (h : Ext (w.alloc (.cells cs t)) w') (i : Nat) : w'.cell? ⟨w.heap.size, i, none⟩ = cs[i]? := ((Blk.new w t cs).ext h).cell i

theorem fnUpdatePart.walk (a0 : Option Addr) (n0 c0 : Nat) (w : World) (w0 : CodeR w a0 n0 c0) :
    Calls Try.prog 6 #[.slice a0 n0 c0] w fun e w' => e = .returned (.bool true) ∧ Below w.heap.size w w' := by
  have hm := len64 w0
  by_cases hn : 1048576 < n0
  · go_enter Try.func6, Try.ntmps6
    go_wp2
    go_ret
    exact ⟨rfl, ext_refl _⟩
  · go_enter Try.func6, Try.ntmps6
    go_wp2_with fail
    refine (drawUpdateValid_any w0).mono ?_
    rintro e w1 ⟨k, v, rfl, hk1, hk2, hv1, hv2, hE1⟩
    have hE1 := hide hE1
    go_wp2_with fail
    refine (implUpdateValid_any k v _).mono ?_
    rintro e w2 ⟨rfl, hE2⟩
    have cu0 : w2.cell? ⟨w1.heap.size, 0, none⟩ = some (.int .i64 k) := by simpa using ext_cells hE2 0
    have cu1 : w2.cell? ⟨w1.heap.size, 1, none⟩ = some (.int .i64 v) := by simpa using ext_cells hE2 1
    have hE2 := hide (ext_trans (ext_alloc hE1.out _) hE2)
    go_wp2_with fail
    refine (specUpdateValid_any k v _).mono ?_
    rintro e w3 ⟨rfl, hE3⟩
    have cu0 := ext_cell hE3 cu0
    have cu1 := ext_cell hE3 cu1
    have hE3 := hide (ext_trans hE2.out hE3)
    by_cases hv : updOk (k, v) = true
    · have b1 : updOk (k, 100) = false := by simp [updOk]
      have b2 : updOk (-1, v) = false := by simp [updOk]
      go_wp2_with fail
      refine (implUpdateValid_any k 100 _).mono ?_
      rintro e w4 ⟨rfl, hE4⟩
      have cu0 := ext_cell hE4 cu0
      have cu1 := ext_cell hE4 cu1
      have hE4 := hide (ext_trans hE3.out hE4)
      go_wp2_with fail
      refine (implUpdateValid_any (-1) v _).mono ?_
      rintro e w5 ⟨rfl, hE5⟩
      have hE5 := hide (ext_trans hE4.out hE5)
      go_wp2_with fail
      go_ret
      exact ⟨rfl, hE5.out⟩
    · have hv : updOk (k, v) = false := by simpa using hv
      go_wp2_with fail
      go_ret
      exact ⟨rfl, hE3.out⟩

theorem fnCommonBoth.walk (a0 : Option Addr) (n0 c0 : Nat) (w : World) (w0 : CodeR w a0 n0 c0) :
    Calls Try.prog 12 #[.slice a0 n0 c0] w fun e w' => e = .returned (.bool true) ∧ Below w.heap.size w w' := by
  have hm := len64 w0
  by_cases hn : 1048576 < n0
  · go_enter Try.func12, Try.ntmps12
    go_wp2
    go_ret
    exact ⟨rfl, ext_refl _⟩
  · go_enter Try.func12, Try.ntmps12
    go_wp2_with fail
    refine (drawLogCommon_any w0).mono ?_
    rintro e w1 ⟨A, c, l, B, d, m, rfl, hl, hm', hlc, hcm, hmd, hdm, hA, hB, hE1⟩
    have hA := hide hA
    have hB := hide hB
    have hE1 := hide hE1
    go_wp2_with fail
    refine (implLogCommon_any c d hA.out hB.out (by omega) (by omega)).mono ?_
    rintro e w2 ⟨rfl, hE2⟩
    have hA := hide (hA.out.ext hE2)
    have hB := hide (hB.out.ext hE2)
    have hE2 := hide (ext_trans hE1.out hE2)
    go_wp2_with fail
    refine (specLogCommon_any c d hA.out hB.out (by omega) (by omega)).mono ?_
    rintro e w3 ⟨rfl, hE3⟩
    have hA := hide (hA.out.ext hE3)
    have hB := hide (hB.out.ext hE3)
    have hE3 := hide (ext_trans hE2.out hE3)
    go_wp2_with fail
    refine (implLogCommon_any c c hA.out hA.out (by omega) (by omega)).mono ?_
    rintro e w4 ⟨rfl, hE4⟩
    have hA := hide (hA.out.ext hE4)
    have hB := hide (hB.out.ext hE4)
    have hE4 := hide (ext_trans hE3.out hE4)
    go_wp2_with fail
    refine (implLogCommon_any d c hB.out hA.out (by omega) (by omega)).mono ?_
    rintro e w5 ⟨rfl, hE5⟩
    have hA := hide (hA.out.ext hE5)
    have hE5 := hide (ext_trans hE4.out hE5)
    have e1 : commonI m l = commonI l m := by unfold commonI; rw [common_comm, Bool.and_comm]
    have e1' : (commonI m l == commonI l m) = true := by rw [e1]; simp
    have e1 := hide e1
    go_wp2_with fail
    refine (implLogValid_any c hA.out (by omega)).mono ?_
    rintro e w6 ⟨rfl, hE6⟩
    have hE6 := hide (ext_trans hE5.out hE6)
    by_cases hv : logOk l = true
    · have e2 : commonI l l = (l.length : Int) := by simp [commonI, hv, common_self]
      go_wp2_with fail
      go_ret
      exact ⟨by simp, hE6.out⟩
    · have hv : logOk l = false := by simpa using hv
      have e2 : commonI l l = -1 := by simp [commonI, hv]
      have e3 : ((-1 : Int) == (l.length : Int)) = false := by simp <;> omega
      go_wp2_with fail
      go_ret
      exact ⟨by simp, hE6.out⟩

theorem fnBeginsSelf.walk (a0 : Option Addr) (n0 c0 : Nat) (w : World) (w0 : CodeR w a0 n0 c0) :
    Calls Try.prog 14 #[.slice a0 n0 c0] w fun e w' => e = .returned (.bool true) ∧ Below w.heap.size w w' := by
  have hm := len64 w0
  by_cases hn : 1048576 < n0
  · go_enter Try.func14, Try.ntmps14
    go_wp2
    go_ret
    exact ⟨rfl, ext_refl _⟩
  · go_enter Try.func14, Try.ntmps14
    go_wp2_with fail
    refine (drawLogBegins_any w0).mono ?_
    rintro e w1 ⟨A, c, l, B, d, m, rfl, hl, hm', hlc, hcm, hmd, hdm, hA, hB, hE1⟩
    have hA := hide hA
    have hB := hide hB
    have hE1 := hide hE1
    go_wp2_with fail
    refine (implLogBegins_any c d hA.out hB.out (by omega) (by omega)).mono ?_
    rintro e w2 ⟨rfl, hE2⟩
    have hA := hide (hA.out.ext hE2)
    have hB := hide (hB.out.ext hE2)
    have hE2 := hide (ext_trans hE1.out hE2)
    go_wp2_with fail
    refine (specLogBegins_any c d hA.out hB.out (by omega) (by omega)).mono ?_
    rintro e w3 ⟨rfl, hE3⟩
    have hB := hide (hB.out.ext hE3)
    have hE3 := hide (ext_trans hE2.out hE3)
    go_wp2_with fail
    refine (implLogBegins_any d d hB.out hB.out (by omega) (by omega)).mono ?_
    rintro e w4 ⟨rfl, hE4⟩
    have hB := hide (hB.out.ext hE4)
    have hE4 := hide (ext_trans hE3.out hE4)
    go_wp2_with fail
    refine (implLogValid_any d hB.out (by omega)).mono ?_
    rintro e w5 ⟨rfl, hE5⟩
    have hE5 := hide (ext_trans hE4.out hE5)
    have e1 : begins m m = logOk m := by simp [begins, common_self]
    go_wp2_with fail
    go_ret
    exact ⟨by simp, hE5.out⟩

theorem fnBeginsPart.walk (a0 : Option Addr) (n0 c0 : Nat) (a1 : Option Addr) (n1 c1 : Nat) (w : World) (w0 : CodeR w a0 n0 c0) (w1 : CodeR w a1 n1 c1) :
    Calls Try.prog 13 #[.slice a0 n0 c0, .slice a1 n1 c1] w fun e w' => e = .returned (.bool true) ∧ Below w.heap.size w w' := by
  have hm := len64 w0
  have hm1 := len64 w1
  by_cases hn : 1048576 < n0
  · have hd : decide ((1048576 : Int) < (n0 : Int)) = true := by simp; omega
    go_enter Try.func13, Try.ntmps13
    go_wp2
    go_ret
    exact ⟨rfl, ext_refl _⟩
  by_cases hn1 : 1048576 < n1
  · have hd : decide ((1048576 : Int) < (n0 : Int)) = false := by simp; omega
    have hd1 : decide ((1048576 : Int) < (n1 : Int)) = true := by simp; omega
    go_enter Try.func13, Try.ntmps13
    go_wp2
    go_ret
    exact ⟨rfl, ext_refl _⟩
  · have hd : decide ((1048576 : Int) < (n0 : Int)) = false := by simp; omega
    have hd1 : decide ((1048576 : Int) < (n1 : Int)) = false := by simp; omega
    go_enter Try.func13, Try.ntmps13
    go_wp2_with fail
    refine (drawLogBegins_any w0).mono ?_
    rintro e w1 ⟨A, c, l, B, d, m, rfl, hl, hm', hlc, hcm, hmd, hdm, hA, hB, hE1⟩
    unfold maxLen at hcm hdm
    have hA := hide hA
    have hB := hide hB
    have hE1 := hide hE1
    go_wp2_with fail
    refine (implLogBegins_any c d hA.out hB.out (by omega) (by omega)).mono ?_
    rintro e w2 ⟨rfl, hE2⟩
    have hA := hide (hA.out.ext hE2)
    have hB := hide (hB.out.ext hE2)
    have hE2 := hide (ext_trans hE1.out hE2)
    go_wp2_with fail
    refine (specLogBegins_any c d hA.out hB.out (by omega) (by omega)).mono ?_
    rintro e w3 ⟨rfl, hE3⟩
    have hA := hide (hA.out.ext hE3)
    have hB := hide (hB.out.ext hE3)
    have hE3 := hide (ext_trans hE2.out hE3)
    by_cases hv : begins l m = true
    · obtain ⟨k, hk⟩ : ∃ k, n1 % (l.length + 1) = k := ⟨_, rfl⟩
      have hkl : k < l.length + 1 := by rw [← hk]; exact Nat.mod_lt _ (by omega)
      have e1 : ((n1 : Int) % ((l.length : Int) + 1)) = (k : Int) := by rw [← hk]; simp
      clear hk
      have hlen : (l.take k).length = k := by rw [List.length_take]; omega
      have hb' : begins (l.take k) m = true := begins_take hv k
      have hA' := hide (hA.out.take k)
      generalize l.take k = l' at hlen hb' hA'
      subst hlen
      go_wp2_with fail
      refine (implLogBegins_any c d hA'.out hB.out (by omega) (by omega)).mono ?_
      rintro e w4 ⟨rfl, hE4⟩
      have hE4 := hide (ext_trans hE3.out hE4)
      go_wp2_with fail
      go_ret
      exact ⟨by simp, hE4.out⟩
    · have hv : begins l m = false := by simpa using hv
      go_wp2_with fail
      go_ret
      exact ⟨rfl, hE3.out⟩
end Go.Proofs.Ytnbpckaplggkfaa
