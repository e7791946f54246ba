/-
  The walks of the laws FnNodePart, FnPending: each returns true for every input, and leaves its arguments as they were.
-/
import Derived.Test.YthhlimpmjmnmfaaNDraw2
import Derived.Test.YthhlimpmjmnmfaaW5
set_option linter.all false
namespace Go.Proofs.Ythhlimpmjmnmfaa
open Go.RowKit
attribute [local go_sem ↓] Go.wp_at_zero Go.wp_at_succ

theorem implNodeAck_yes {A : Option Addr} {l : List Upd} (c : Nat) (i j d : Int) {w : World} (h : LogR w A l) (hm : l.length ≤ 1048576) (hk : ackOk ⟨i, l, j⟩ d = true) :
    Calls Try.prog 25 #[.agg #[.int .i64 i, .slice A l.length c, .int .i64 j], .int .i64 d] w (GotNodeB w ⟨i, l, d⟩ true) := by
  have h := implNodeAck_any c i j d h hm
  rw [ndAck_yes hk, hk] at h
  exact h
theorem implNodeAck_no {A : Option Addr} {l : List Upd} (c : Nat) (i j d : Int) {w : World} (h : LogR w A l) (hm : l.length ≤ 1048576) (hk : ackOk ⟨i, l, j⟩ d = false) :
    Calls Try.prog 25 #[.agg #[.int .i64 i, .slice A l.length c, .int .i64 j], .int .i64 d] w (GotNodeB w ⟨0, [], 0⟩ false) := by
  have h := implNodeAck_any c i j d h hm
  rw [ndAck_no hk, hk] at h
  exact h
theorem specNodeAck_yes {A : Option Addr} {l : List Upd} (c : Nat) (i j d : Int) {w : World} (h : LogR w A l) (hm : l.length ≤ 1048576) (hk : ackOk ⟨i, l, j⟩ d = true) :
    Calls Try.prog 26 #[.agg #[.int .i64 i, .slice A l.length c, .int .i64 j], .int .i64 d] w (GotNodeB w ⟨i, l, d⟩ true) := by
  have h := specNodeAck_any c i j d h hm
  rw [ndAck_yes hk, hk] at h
  exact h
theorem specNodeAck_no {A : Option Addr} {l : List Upd} (c : Nat) (i j d : Int) {w : World} (h : LogR w A l) (hm : l.length ≤ 1048576) (hk : ackOk ⟨i, l, j⟩ d = false) :
    Calls Try.prog 26 #[.agg #[.int .i64 i, .slice A l.length c, .int .i64 j], .int .i64 d] w (GotNodeB w ⟨0, [], 0⟩ false) := by
  have h := specNodeAck_any c i j d h hm
  rw [ndAck_no hk, hk] at h
  exact h
/-- Two nodes that are nothing. -/
theorem sameNode_zero {w : World} :
    Calls Try.prog 27 #[.agg #[.int .i64 0, .slice none 0 0, .int .i64 0], .agg #[.int .i64 0, .slice none 0 0, .int .i64 0]] w fun e w' => e = .returned (.bool true) ∧ Ext w w' :=
  (sameNode_any (A := none) (B := none) (l := []) (m := []) 0 0 0 0 0 0 (CellsR.nil _ _) (CellsR.nil _ _) (by simp) (by simp)).mono fun e w' ⟨h1, h2⟩ => ⟨by rw [h1]; simp, h2⟩
theorem sameNode_same {A B : Option Addr} {l : List Upd} (c d : Nat) (i j : Int) {w : World} (h : LogR w A l) (h' : LogR w B l) (hm : l.length ≤ 1048576) :
    Calls Try.prog 27 #[.agg #[.int .i64 i, .slice A l.length c, .int .i64 j], .agg #[.int .i64 i, .slice B l.length d, .int .i64 j]] w fun e w' => e = .returned (.bool true) ∧ Ext w w' :=
  (sameNode_any c d i j i j h h' hm hm).mono fun e w' ⟨h1, h2⟩ => ⟨by rw [h1]; simp, h2⟩

set_option maxHeartbeats 1600000 in
theorem fnNodePart.walk (a0 : Option Addr) (n0 c0 : Nat) (w : World) (w0 : CodeR w a0 n0 c0) :
    Calls Try.prog 3 #[.slice a0 n0 c0] w fun e w' => e = .returned (.bool true) ∧ Below w.heap.size w w' := by
  have hm := len64c w0
  by_cases hn : 1048576 < n0
  · go_enter Try.func3, Try.ntmps3
    go_wp2
    go_ret
    exact ⟨rfl, ext_refl _⟩
  · go_enter Try.func3, Try.ntmps3
    go_wp2_with fail
    refine (drawNodeValid_any w0).mono ?_
    rintro e w1 ⟨A, c, i, j, l, rfl, hl, hj0, hj1, hlc, hcm, hA, hE⟩
    replace hA := hide hA
    replace hE := hide hE
    have hm : l.length ≤ 1048576 := by omega
    have N := hide (Blk.newAt (w1) 25 #[.int .i64 i, .slice A l.length c, .int .i64 j] (g := (w1).heap.size) (by simp))
    replace hA := hide (hA.out.ext (ext_alloc (ext_refl (w1)) (.cells #[.int .i64 i, .slice A l.length c, .int .i64 j] 25)))
    replace hE := hide (ext_alloc hE.out (.cells #[.int .i64 i, .slice A l.length c, .int .i64 j] 25))
    go_wp2_with fail
    refine (implNodeValid_any c i j hA.out hm).mono ?_
    rintro e w2 ⟨rfl, hF⟩
    replace hA := hide (hA.out.ext hF)
    replace N := hide (N.out.ext hF)
    try clear N_0 N_1 N_2 N_lt
    obtain ⟨N_0, N_1, N_2, N_lt⟩ := N.out.at3
    replace hE := hide (ext_trans hE.out hF)
    clear hF
    go_wp2_with fail
    refine (specNodeValid_any c i j hA.out hm).mono ?_
    rintro e w3 ⟨rfl, hF⟩
    replace hA := hide (hA.out.ext hF)
    replace N := hide (N.out.ext hF)
    try clear N_0 N_1 N_2 N_lt
    obtain ⟨N_0, N_1, N_2, N_lt⟩ := N.out.at3
    replace hE := hide (ext_trans hE.out hF)
    clear hF
    by_cases hk : ndOk ⟨i, l, j⟩ = true
    · have hx : ndOk ⟨i, l, (l.length : Int) + 1⟩ = false := ndOk_done (by omega)
      have hy : ndOk ⟨0, l, j⟩ = false := ndOk_id (by omega)
      have X := hide (Blk.newAt (w3) 25 #[.int .i64 i, .slice A l.length c, .int .i64 (l.length + 1)] (g := (w3).heap.size) (by simp))
      replace hA := hide (hA.out.ext (ext_alloc (ext_refl (w3)) (.cells #[.int .i64 i, .slice A l.length c, .int .i64 (l.length + 1)] 25)))
      replace hE := hide (ext_alloc hE.out (.cells #[.int .i64 i, .slice A l.length c, .int .i64 (l.length + 1)] 25))
      have Y := hide (Blk.newAt (w3.alloc (.cells #[.int .i64 i, .slice A l.length c, .int .i64 (l.length + 1)] 25)) 25 #[.int .i64 0, .slice A l.length c, .int .i64 j] (g := w3.heap.size + 1) (by simp))
      replace hA := hide (hA.out.ext (ext_alloc (ext_refl (w3.alloc (.cells #[.int .i64 i, .slice A l.length c, .int .i64 (l.length + 1)] 25))) (.cells #[.int .i64 0, .slice A l.length c, .int .i64 j] 25)))
      replace X := hide (X.out.ext (ext_alloc (ext_refl (w3.alloc (.cells #[.int .i64 i, .slice A l.length c, .int .i64 (l.length + 1)] 25))) (.cells #[.int .i64 0, .slice A l.length c, .int .i64 j] 25)))
      replace hE := hide (ext_alloc hE.out (.cells #[.int .i64 0, .slice A l.length c, .int .i64 j] 25))
      go_wp2_with fail
      refine (implNodeValid_any c i _ hA.out hm).mono ?_
      rintro e w4 ⟨rfl, hF⟩
      replace hA := hide (hA.out.ext hF)
      replace X := hide (X.out.ext hF)
      replace Y := hide (Y.out.ext hF)
      try clear X_0 X_1 X_2 X_lt
      obtain ⟨X_0, X_1, X_2, X_lt⟩ := X.out.at3
      try clear Y_0 Y_1 Y_2 Y_lt
      obtain ⟨Y_0, Y_1, Y_2, Y_lt⟩ := Y.out.at3
      replace hE := hide (ext_trans hE.out hF)
      clear hF
      go_wp2_with fail
      refine (implNodeValid_any c 0 j hA.out hm).mono ?_
      rintro e w5 ⟨rfl, hF⟩
      replace hE := hide (ext_trans hE.out hF)
      clear hF
      go_wp2_with fail
      go_ret
      exact ⟨by simp, hE.out⟩
    · have hk : ndOk ⟨i, l, j⟩ = false := by simpa using hk
      go_wp2_with fail
      go_ret
      exact ⟨by simp, hE.out⟩

theorem sameLog_n {A B : Option Addr} {l m : List Upd} {n k : Nat} (c d : Nat) {w : World} (hn : Hid (l.length = n)) (hk : Hid (m.length = k)) (h : LogR w A l) (h' : LogR w B m) (hm : n ≤ 1048576) (hm' : k ≤ 1048576) :
    Calls Try.prog 23 #[.slice A n c, .slice B k d] w fun e w' => e = .returned (.bool (decide (l = m))) ∧ Ext w w' := by
  have e1 := hn.out
  have e2 := hk.out
  subst e1 e2
  exact sameLog_any c d h h' hm hm'
theorem ndPend_yes' {i j : Int} {l : List Upd} (h : (ndPend ⟨i, l, j⟩).length ≠ 0) : ∃ q : Nat, j = q ∧ q ≤ l.length ∧ ndPend ⟨i, l, j⟩ = l.drop q := by
  unfold ndPend at h ⊢
  split at h
  · rename_i hk
    obtain ⟨-, -, -, -, h0, h1⟩ := ndOk_parts hk
    obtain ⟨q, rfl⟩ := Int.eq_ofNat_of_zero_le h0
    exact ⟨q, rfl, by omega, by rw [if_pos hk]; rfl⟩
  · simp at h
set_option maxHeartbeats 1600000 in
theorem fnPending.walk (a0 : Option Addr) (n0 c0 : Nat) (w : World) (w0 : CodeR w a0 n0 c0) :
    Calls Try.prog 5 #[.slice a0 n0 c0] w fun e w' => e = .returned (.bool true) ∧ Below w.heap.size w w' := by
  have hm := len64c w0
  by_cases hn : 1048576 < n0
  · go_enter Try.func5, Try.ntmps5
    go_wp2
    go_ret
    exact ⟨rfl, ext_refl _⟩
  · go_enter Try.func5, Try.ntmps5
    go_wp2_with fail
    refine (drawNodePending_any w0).mono ?_
    rintro e w1 ⟨A, c, i, j, l, rfl, hl, hj0, hj1, hlc, hcm, hA, hE⟩
    replace hA := hide hA
    replace hE := hide hE
    have hm : l.length ≤ 1048576 := by omega
    obtain ⟨s, hs⟩ : ∃ s, ndPend ⟨i, l, j⟩ = s := ⟨_, rfl⟩
    have hsl : s.length ≤ l.length := by rw [← hs]; exact ndPend_len _ _ (Nat.le_refl _)
    have hms : s.length ≤ 1048576 := by omega
    have hP1 : ∀ w' : World, LogR w' A l → Calls Try.prog 21 #[.agg #[.int .i64 i, .slice A l.length c, .int .i64 j]] w' (GotRowU w' s) := fun w' h => by rw [← hs]; exact implNodePending_any c i j h hm hlc
    have hP2 : ∀ w' : World, LogR w' A l → Calls Try.prog 22 #[.agg #[.int .i64 i, .slice A l.length c, .int .i64 j]] w' (GotRowU w' s) := fun w' h => by rw [← hs]; exact specNodePending_any c i j h hm hlc
    replace hP1 := hide hP1
    replace hP2 := hide hP2
    replace hs := hide hs
    have N := hide (Blk.newAt (w1) 25 #[.int .i64 i, .slice A l.length c, .int .i64 j] (g := (w1).heap.size) (by simp))
    replace hA := hide (hA.out.ext (ext_alloc (ext_refl (w1)) (.cells #[.int .i64 i, .slice A l.length c, .int .i64 j] 25)))
    replace hE := hide (ext_alloc hE.out (.cells #[.int .i64 i, .slice A l.length c, .int .i64 j] 25))
    go_wp2_with fail
    refine (hP1.out _ hA.out).mono ?_
    intro e w2 hG
    obtain ⟨A2, c2, rfl, -, -, hO, hF⟩ := hG.use
    replace hO := hide hO.out.log
    clear hG
    replace hA := hide (hA.out.ext hF)
    replace N := hide (N.out.ext hF)
    try clear N_0 N_1 N_2 N_lt
    obtain ⟨N_0, N_1, N_2, N_lt⟩ := N.out.at3
    replace hE := hide (ext_trans hE.out hF)
    clear hF
    go_wp2_with fail
    refine (hP2.out _ hA.out).mono ?_
    intro e w3 hG
    obtain ⟨A3, c3, rfl, -, -, hW, hF⟩ := hG.use
    replace hW := hide hW.out.log
    clear hG
    replace hA := hide (hA.out.ext hF)
    replace hO := hide (hO.out.ext hF)
    replace N := hide (N.out.ext hF)
    try clear N_0 N_1 N_2 N_lt
    obtain ⟨N_0, N_1, N_2, N_lt⟩ := N.out.at3
    replace hE := hide (ext_trans hE.out hF)
    clear hF
    go_wp2_with fail
    refine (sameLog_any c2 c3 hO.out hW.out hms hms).mono ?_
    rintro e w4 ⟨rfl, hF⟩
    replace hA := hide (hA.out.ext hF)
    replace hO := hide (hO.out.ext hF)
    replace hW := hide (hW.out.ext hF)
    replace N := hide (N.out.ext hF)
    try clear N_0 N_1 N_2 N_lt
    obtain ⟨N_0, N_1, N_2, N_lt⟩ := N.out.at3
    replace hE := hide (ext_trans hE.out hF)
    clear hF
    by_cases hz : s.length = 0
    · have hz' : ((s.length : Int) == 0) = true := by rw [beq_iff_eq]; omega
      replace hz := hide hz
      go_wp2_with fail
      refine (sameLog_any c2 c3 hO.out hW.out hms hms).mono ?_
      rintro e w5 ⟨rfl, hF⟩
      replace hE := hide (ext_trans hE.out hF)
      clear hF
      go_wp2_with fail
      go_ret
      exact ⟨by simp, hE.out⟩
    · have hz' : ((s.length : Int) == 0) = false := by rw [beq_eq_false_iff_ne]; omega
      obtain ⟨q, rfl, hq, hs2⟩ := ndPend_yes' (i := i) (l := l) (j := j) (by rw [hs.out]; exact hz)
      rw [hs.out] at hs2
      subst hs2
      have hlen : (l.drop q).length = l.length - q := by simp
      have hqc : ¬ c = q := by omega
      replace hlen := hide hlen
      have hcut := hide (hA.out.cut q)
      have ht : ((q : Int) + ((l.drop q).length : Int) == (l.length : Int)) = true := by rw [beq_iff_eq]; have := hlen.out; omega
      go_wp2_with fail
      refine (sameLog_n (c - q) c2 hlen hlen hcut.out hO.out (by omega) (by omega)).mono ?_
      rintro e w5 ⟨rfl, hF⟩
      replace hE := hide (ext_trans hE.out hF)
      clear hF
      go_wp2_with fail
      go_ret
      exact ⟨by simp, hE.out⟩
end Go.Proofs.Ythhlimpmjmnmfaa
