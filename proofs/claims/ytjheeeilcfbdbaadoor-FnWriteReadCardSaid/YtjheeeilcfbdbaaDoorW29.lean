/-
  The walks of the laws FnTake, FnTakePending: each returns true for every input at which the listed variable holds its error, and leaves its arguments as they were.
-/
import Derived.Test.YtjheeeilcfbdbaaDoorTDraw
import Derived.Test.YtjheeeilcfbdbaaDoorNTake
import Derived.Test.YtjheeeilcfbdbaaDoorNodes4
set_option linter.all false
set_option maxRecDepth 100000
namespace Go.Proofs.YtjheeeilcfbdbaaDoor
open Go.RowKit
attribute [local go_sem ↓] Go.wp_at_zero Go.wp_at_succ

theorem len64t {n c : Nat} {w : World} {a : Option Addr} (h : CodeR w a n c) : n ≤ 9223372036854775807 := by have := h.1; have := h.2.1; unfold maxLen at this; omega
def TookYes (w : World) (i j : Int) (l : List Upd) (u : Upd) (m : Nat) (e : Ending) (w' : World) : Prop :=
  ∃ A c, e = .returned (.tuple #[.agg #[.int .i64 i, .slice A m c, .int .i64 j], .bool true]) ∧ m ≤ c ∧ c ≤ maxLen ∧ Hid (LogR w' A (l ++ [u])) ∧ Ext w w'
def TookNo (w : World) (e : Ending) (w' : World) : Prop :=
  ∃ A c, e = .returned (.tuple #[.agg #[.int .i64 0, .slice A 0 c, .int .i64 0], .bool false]) ∧ Ext w w'
theorem tookYes_of {w w' : World} {i j : Int} {l : List Upd} {u : Upd} {m : Nat} {e : Ending} (hm : Hid (m = l.length + 1)) (ht : takeOk ⟨i, l, j⟩ u = true) (h : GotNodeB w (ndTake ⟨i, l, j⟩ u) (takeOk ⟨i, l, j⟩ u) e w') : TookYes w i j l u m e w' := by
  rw [ndTake_yes ht, ht] at h
  obtain ⟨A, c, rfl, h1, h2, h3, h4⟩ := h.use
  have e1 : (l ++ [u]).length = m := by rw [hm.out]; simp
  simp only [e1] at h1 h3 ⊢
  exact ⟨A, c, rfl, h1, h2, hide h3.out.log, h4⟩
theorem tookNo_of {w w' : World} {i j : Int} {l : List Upd} {u : Upd} {e : Ending} (ht : takeOk ⟨i, l, j⟩ u = false) (h : GotNodeB w (ndTake ⟨i, l, j⟩ u) (takeOk ⟨i, l, j⟩ u) e w') : TookNo w e w' := by
  rw [ndTake_no ht, ht] at h
  obtain ⟨A, c, rfl, _, h4⟩ := GotNodeB.use (i := 0) (j := 0) (l := []) h
  exact ⟨A, c, rfl, h4.2.2⟩
theorem sameNode_nil {A B : Option Addr} (c d : Nat) {w : World} :
    Calls Tryd.prog 12 #[.agg #[.int .i64 0, .slice A 0 c, .int .i64 0], .agg #[.int .i64 0, .slice B 0 d, .int .i64 0]] w fun e w' => e = .returned (.bool true) ∧ Ext w w' :=
  (sameNode_any (A := A) (B := B) (l := []) (m := []) c d 0 0 0 0 (CellsR.nil _ _) (CellsR.nil _ _) (by simp) (by simp)).mono fun e w' ⟨h1, h2⟩ => ⟨by rw [h1]; simp, h2⟩
theorem sameNode_m {A B : Option Addr} {l : List Upd} {m : Nat} (c d : Nat) (i j : Int) {w : World} (hl : l.length = m) (h : LogR w A l) (h' : LogR w B l) (hm : m ≤ 1048576) :
    Calls Tryd.prog 12 #[.agg #[.int .i64 i, .slice A m c, .int .i64 j], .agg #[.int .i64 i, .slice B m d, .int .i64 j]] w fun e w' => e = .returned (.bool true) ∧ Ext w w' := by
  subst hl
  exact (sameNode_any c d i j i j h h' hm hm).mono fun e w' ⟨h1, h2⟩ => ⟨by rw [h1]; simp, h2⟩
theorem nodeValid_m {A : Option Addr} {l : List Upd} {m : Nat} (c : Nat) (i j : Int) {w : World} (hl : l.length = m) (h : LogR w A l) (hm : m ≤ 1048576) (hk : ndOk ⟨i, l, j⟩ = true) :
    Calls Tryd.prog 13 #[.agg #[.int .i64 i, .slice A m c, .int .i64 j]] w fun e w' => e = .returned (.bool true) ∧ Ext w w' := by
  subst hl
  exact (implNodeValid_any c i j h hm).mono fun e w' ⟨h1, h2⟩ => ⟨by rw [h1, hk], h2⟩
theorem sameLog_pre {A B : Option Addr} {l m : List Upd} {n : Nat} (c d : Nat) {w : World} (h : LogR w A l) (h' : LogR w B m) (h1 : n ≤ l.length) (h2 : n ≤ m.length) (he : l.take n = m.take n) (hm : n ≤ 1048576) :
    Calls Tryd.prog 14 #[.slice A n c, .slice B n d] w fun e w' => e = .returned (.bool true) ∧ Ext w w' := by
  have e1 : (l.take n).length = n := by rw [List.length_take]; omega
  have f1 := h.take n
  have f2 := h'.take n
  rw [← he] at f2
  have := sameLog_any c d f1 f2 (by omega) (by omega)
  rw [e1] at this
  exact this.mono fun e w' ⟨h1, h2⟩ => ⟨by rw [h1]; simp, h2⟩
theorem last_at {w : World} {A : Option Addr} {l : List Upd} {x y : Int} (h : LogR w A (l ++ [(x, y)])) :
    ∃ b o, A = some ⟨b, o, none⟩ ∧ w.cell? ⟨b, o + l.length * 2, none⟩ = some (.int .i64 x) ∧ w.cell? ⟨b, o + l.length * 2 + 1, none⟩ = some (.int .i64 y) := by
  obtain ⟨b, o, x', y', hA, -, hxy, hc0, hc1⟩ := log_at h (i := l.length) (by simp)
  simp at hxy
  obtain ⟨rfl, rfl⟩ := hxy
  exact ⟨b, o, hA, hc0, hc1⟩
set_option maxHeartbeats 3200000 in
theorem fnTake.walk (a0 : Option Addr) (n0 c0 : Nat) (w : World) (w0 : CodeR w a0 n0 c0) (a : Addr) (hS : SentAt w a) :
    Calls Tryd.prog 3 #[.slice a0 n0 c0] w fun e w' => e = .returned (.bool true) ∧ Below w.heap.size w w' := by
  have hm := len64t w0
  by_cases hn : 1048576 < n0
  · go_enter Tryd.func3, Tryd.ntmps3
    go_wp2
    go_ret
    exact ⟨rfl, ext_refl _⟩
  · replace hS := hide hS
    go_enter Tryd.func3, Tryd.ntmps3
    go_wp2_with fail
    refine (drawNodeTake_any w0).mono ?_
    rintro e w1 ⟨A, c, i, j, l, x, y, rfl, hl, hj0, hj1, hlc, hcm, hA, hE⟩
    replace hS := hide (hS.out.ext hE)
    replace hA := hide hA
    replace hE := hide hE
    have hm : l.length ≤ 1048576 := by omega
    have N := hide (Blk.newAt (w1) 25 #[.int .i64 i, .slice A l.length c, .int .i64 j] (g := (w1).heap.size) (by simp))
    replace hA := hide (hA.out.ext (ext_alloc (ext_refl (w1)) (.cells #[.int .i64 i, .slice A l.length c, .int .i64 j] 25)))
    replace hS := hide (hS.out.ext (ext_alloc (ext_refl (w1)) (.cells #[.int .i64 i, .slice A l.length c, .int .i64 j] 25)))
    replace hE := hide (ext_alloc hE.out (.cells #[.int .i64 i, .slice A l.length c, .int .i64 j] 25))
    have U := hide (Blk.newAt (w1.alloc (.cells #[.int .i64 i, .slice A l.length c, .int .i64 j] 25)) 27 #[.int .i64 x, .int .i64 y] (g := w1.heap.size + 1) (by simp))
    replace hA := hide (hA.out.ext (ext_alloc (ext_refl (w1.alloc (.cells #[.int .i64 i, .slice A l.length c, .int .i64 j] 25))) (.cells #[.int .i64 x, .int .i64 y] 27)))
    replace hS := hide (hS.out.ext (ext_alloc (ext_refl (w1.alloc (.cells #[.int .i64 i, .slice A l.length c, .int .i64 j] 25))) (.cells #[.int .i64 x, .int .i64 y] 27)))
    replace N := hide (N.out.ext (ext_alloc (ext_refl (w1.alloc (.cells #[.int .i64 i, .slice A l.length c, .int .i64 j] 25))) (.cells #[.int .i64 x, .int .i64 y] 27)))
    replace hE := hide (ext_alloc hE.out (.cells #[.int .i64 x, .int .i64 y] 27))
    by_cases ht : takeOk ⟨i, l, j⟩ (x, y) = true
    · obtain ⟨m, hml⟩ : ∃ m, m = l.length + 1 := ⟨_, rfl⟩
      have hmm : m ≤ 1048576 := by omega
      have hsm : (l ++ [(x, y)]).length = m := by simp [hml]
      replace hsm := hide hsm
      replace hml := hide hml
      go_wp2_with fail
      refine (implNodeTake_any c i j x y hA.out hm hS.out).mono ?_
      intro e w2 hG
      obtain ⟨A2, c2, rfl, hlc2, hcm2, hO, hF⟩ := tookYes_of hml ht hG
      clear hG
      replace hA := hide (hA.out.ext hF)
      replace N := hide (N.out.ext hF)
      replace U := hide (U.out.ext hF)
      try clear N_0 N_1 N_2 N_lt
      obtain ⟨N_0, N_1, N_2, N_lt⟩ := N.out.at3
      try clear U_0 U_1 U_lt
      obtain ⟨U_0, U_1, U_lt⟩ := U.out.at2
      replace hE := hide (ext_trans hE.out hF)
      clear hF
      have O := hide (Blk.newAt (w2) 25 #[.int .i64 i, .slice A2 m c2, .int .i64 j] (g := (w2).heap.size) (by simp))
      replace hA := hide (hA.out.ext (ext_alloc (ext_refl (w2)) (.cells #[.int .i64 i, .slice A2 m c2, .int .i64 j] 25)))
      replace hO := hide (hO.out.ext (ext_alloc (ext_refl (w2)) (.cells #[.int .i64 i, .slice A2 m c2, .int .i64 j] 25)))
      replace N := hide (N.out.ext (ext_alloc (ext_refl (w2)) (.cells #[.int .i64 i, .slice A2 m c2, .int .i64 j] 25)))
      replace U := hide (U.out.ext (ext_alloc (ext_refl (w2)) (.cells #[.int .i64 i, .slice A2 m c2, .int .i64 j] 25)))
      replace hE := hide (ext_alloc hE.out (.cells #[.int .i64 i, .slice A2 m c2, .int .i64 j] 25))
      go_wp2_with fail
      refine (specNodeTake_any c i j x y hA.out hm).mono ?_
      intro e w3 hG
      obtain ⟨A3, c3, rfl, hlc3, hcm3, hW, hF⟩ := tookYes_of hml ht hG
      clear hG
      replace hA := hide (hA.out.ext hF)
      replace hO := hide (hO.out.ext hF)
      replace N := hide (N.out.ext hF)
      replace U := hide (U.out.ext hF)
      replace O := hide (O.out.ext hF)
      try clear N_0 N_1 N_2 N_lt
      obtain ⟨N_0, N_1, N_2, N_lt⟩ := N.out.at3
      try clear U_0 U_1 U_lt
      obtain ⟨U_0, U_1, U_lt⟩ := U.out.at2
      try clear O_0 O_1 O_2 O_lt
      obtain ⟨O_0, O_1, O_2, O_lt⟩ := O.out.at3
      replace hE := hide (ext_trans hE.out hF)
      clear hF
      have W := hide (Blk.newAt (w3) 25 #[.int .i64 i, .slice A3 m c3, .int .i64 j] (g := (w3).heap.size) (by simp))
      replace hA := hide (hA.out.ext (ext_alloc (ext_refl (w3)) (.cells #[.int .i64 i, .slice A3 m c3, .int .i64 j] 25)))
      replace hO := hide (hO.out.ext (ext_alloc (ext_refl (w3)) (.cells #[.int .i64 i, .slice A3 m c3, .int .i64 j] 25)))
      replace hW := hide (hW.out.ext (ext_alloc (ext_refl (w3)) (.cells #[.int .i64 i, .slice A3 m c3, .int .i64 j] 25)))
      replace N := hide (N.out.ext (ext_alloc (ext_refl (w3)) (.cells #[.int .i64 i, .slice A3 m c3, .int .i64 j] 25)))
      replace U := hide (U.out.ext (ext_alloc (ext_refl (w3)) (.cells #[.int .i64 i, .slice A3 m c3, .int .i64 j] 25)))
      replace O := hide (O.out.ext (ext_alloc (ext_refl (w3)) (.cells #[.int .i64 i, .slice A3 m c3, .int .i64 j] 25)))
      replace hE := hide (ext_alloc hE.out (.cells #[.int .i64 i, .slice A3 m c3, .int .i64 j] 25))
      go_wp2_with fail
      refine (sameNode_m c2 c3 i j hsm.out hO.out hW.out hmm).mono ?_
      rintro e w4 ⟨rfl, hF⟩
      replace hA := hide (hA.out.ext hF)
      replace hO := hide (hO.out.ext hF)
      replace N := hide (N.out.ext hF)
      replace U := hide (U.out.ext hF)
      replace O := hide (O.out.ext hF)
      try clear N_0 N_1 N_2 N_lt
      obtain ⟨N_0, N_1, N_2, N_lt⟩ := N.out.at3
      try clear U_0 U_1 U_lt
      obtain ⟨U_0, U_1, U_lt⟩ := U.out.at2
      try clear O_0 O_1 O_2 O_lt
      obtain ⟨O_0, O_1, O_2, O_lt⟩ := O.out.at3
      replace hE := hide (ext_trans hE.out hF)
      clear hF
      obtain ⟨b, o, hAb, z0, z1⟩ := last_at hO.out
      subst hAb
      have q0 : ∀ w', Ext w4 w' → w'.cell? ⟨w1.heap.size, 0, none⟩ = some (.int .i64 i) := fun w' hC => ext_cell hC N_0
      have q1 : ∀ w', Ext w4 w' → w'.cell? ⟨w1.heap.size, 1, none⟩ = some (.slice A l.length c) := fun w' hC => ext_cell hC N_1
      have q2 : ∀ w', Ext w4 w' → w'.cell? ⟨w1.heap.size, 2, none⟩ = some (.int .i64 j) := fun w' hC => ext_cell hC N_2
      have q3 : ∀ w', Ext w4 w' → w'.cell? ⟨w1.heap.size + 1, 0, none⟩ = some (.int .i64 x) := fun w' hC => ext_cell hC U_0
      have q4 : ∀ w', Ext w4 w' → w'.cell? ⟨w1.heap.size + 1, 1, none⟩ = some (.int .i64 y) := fun w' hC => ext_cell hC U_1
      have q5 : ∀ w', Ext w4 w' → w'.cell? ⟨w2.heap.size, 0, none⟩ = some (.int .i64 i) := fun w' hC => ext_cell hC O_0
      have q6 : ∀ w', Ext w4 w' → w'.cell? ⟨w2.heap.size, 1, none⟩ = some (.slice (some ⟨b, o, none⟩) m c2) := fun w' hC => ext_cell hC O_1
      have q7 : ∀ w', Ext w4 w' → w'.cell? ⟨w2.heap.size, 2, none⟩ = some (.int .i64 j) := fun w' hC => ext_cell hC O_2
      have q8 : ∀ w', Ext w4 w' → w'.cell? ⟨b, o + l.length * 2, none⟩ = some (.int .i64 x) := fun w' hC => ext_cell hC z0
      have q9 : ∀ w', Ext w4 w' → w'.cell? ⟨b, o + l.length * 2 + 1, none⟩ = some (.int .i64 y) := fun w' hC => ext_cell hC z1
      have hcv : ∀ w', Ext w4 w' → Calls Tryd.prog 13 #[.agg #[.int .i64 i, .slice (some ⟨b, o, none⟩) m c2, .int .i64 j]] w' (fun e w'' => e = .returned (.bool true) ∧ Ext w4 w'') := fun w' hC =>
        (nodeValid_m c2 i j hsm.out (hO.out.ext hC) hmm (ndOk_take ht)).mono fun e w'' ⟨f1, f2⟩ => ⟨f1, ext_trans hC f2⟩
      have hcs : ∀ w', Ext w4 w' → Calls Tryd.prog 14 #[.slice (some ⟨b, o, none⟩) l.length c2, .slice A l.length c] w' (fun e w'' => e = .returned (.bool true) ∧ Ext w4 w'') := fun w' hC =>
        (sameLog_pre c2 c (hO.out.ext hC) (hA.out.ext hC) (by simp) (Nat.le_refl _) (by simp) hm).mono fun e w'' ⟨f1, f2⟩ => ⟨f1, ext_trans hC f2⟩
      have hml' := hml.out
      have hi0 : (0 : Int) ≤ (l.length : Int) := by omega
      have hi1 : (l.length : Int) < (m : Int) := by omega
      have hi2 : (l.length : Int) ≤ (c2 : Int) := by omega
      have hi3 : l.length ≤ c2 := by omega
      have hi4 : l.length < m := by omega
      have hwr : IntKind.i64.wrap ((l.length : Int) + 1) = (m : Int) := by rw [hml']; simp [IntKind.wrap, IntKind.bits, IntKind.signed]; omega
      have hbe : ((m : Int) == (l.length : Int) + 1) = true := by simp; omega
      clear hml' z0 z1
      go_wp2_with fail
      refine wp_region_quietE (by kernel_rfl) (by kernel_rfl) ?_
      repeat (
        refine QW.step (fun K hK => ?_)
        go_simp
        first
        | (refine hK _ ?_; clear hK K)
        | (apply Exists.intro
           refine ⟨fun w5 hC => ?_, hK _ ?_⟩
           · first
             | rfl
             | exact hcv w5 hC
             | exact hcs w5 hC
             | (simp only [q0 w5 hC, q1 w5 hC, q2 w5 hC, q3 w5 hC, q4 w5 hC, q5 w5 hC, q6 w5 hC, q7 w5 hC, q8 w5 hC, q9 w5 hC, Result.andThen_ok, true_and]; rfl)
           clear hK K))
      refine QW.nil ?_
      intro w1 hF
      clear q0 q1 q2 q3 q4 q5 q6 q7 q8 q9 hcv hcs
      replace hE := hide (ext_trans hE.out hF)
      go_wp2_with fail
      go_ret
      exact ⟨by simp, hE.out⟩
    · have ht : takeOk ⟨i, l, j⟩ (x, y) = false := by simpa using ht
      go_wp2_with fail
      refine (implNodeTake_any c i j x y hA.out hm hS.out).mono ?_
      intro e w2 hG
      obtain ⟨A2, c2, rfl, hF⟩ := tookNo_of ht hG
      clear hG
      replace hA := hide (hA.out.ext hF)
      replace N := hide (N.out.ext hF)
      replace U := hide (U.out.ext hF)
      try clear N_0 N_1 N_2 N_lt
      obtain ⟨N_0, N_1, N_2, N_lt⟩ := N.out.at3
      try clear U_0 U_1 U_lt
      obtain ⟨U_0, U_1, U_lt⟩ := U.out.at2
      replace hE := hide (ext_trans hE.out hF)
      clear hF
      have O := hide (Blk.newAt (w2) 25 #[.int .i64 0, .slice A2 0 c2, .int .i64 0] (g := (w2).heap.size) (by simp))
      replace hA := hide (hA.out.ext (ext_alloc (ext_refl (w2)) (.cells #[.int .i64 0, .slice A2 0 c2, .int .i64 0] 25)))
      replace N := hide (N.out.ext (ext_alloc (ext_refl (w2)) (.cells #[.int .i64 0, .slice A2 0 c2, .int .i64 0] 25)))
      replace U := hide (U.out.ext (ext_alloc (ext_refl (w2)) (.cells #[.int .i64 0, .slice A2 0 c2, .int .i64 0] 25)))
      replace hE := hide (ext_alloc hE.out (.cells #[.int .i64 0, .slice A2 0 c2, .int .i64 0] 25))
      go_wp2_with fail
      refine (specNodeTake_any c i j x y hA.out hm).mono ?_
      intro e w3 hG
      obtain ⟨A3, c3, rfl, hF⟩ := tookNo_of ht hG
      clear hG
      replace O := hide (O.out.ext hF)
      try clear O_0 O_1 O_2 O_lt
      obtain ⟨O_0, O_1, O_2, O_lt⟩ := O.out.at3
      replace hE := hide (ext_trans hE.out hF)
      clear hF
      have W := hide (Blk.newAt (w3) 25 #[.int .i64 0, .slice A3 0 c3, .int .i64 0] (g := (w3).heap.size) (by simp))
      replace O := hide (O.out.ext (ext_alloc (ext_refl (w3)) (.cells #[.int .i64 0, .slice A3 0 c3, .int .i64 0] 25)))
      replace hE := hide (ext_alloc hE.out (.cells #[.int .i64 0, .slice A3 0 c3, .int .i64 0] 25))
      go_wp2_with fail
      refine (sameNode_nil c2 c3).mono ?_
      rintro e w4 ⟨rfl, hF⟩
      replace O := hide (O.out.ext hF)
      replace W := hide (W.out.ext hF)
      try clear O_0 O_1 O_2 O_lt
      obtain ⟨O_0, O_1, O_2, O_lt⟩ := O.out.at3
      try clear W_0 W_1 W_2 W_lt
      obtain ⟨W_0, W_1, W_2, W_lt⟩ := W.out.at3
      replace hE := hide (ext_trans hE.out hF)
      clear hF
      go_wp2_with fail
      refine (sameNode_nil c2 c3).mono ?_
      rintro e w5 ⟨rfl, hF⟩
      replace hE := hide (ext_trans hE.out hF)
      clear hF
      go_wp2_with fail
      go_ret
      exact ⟨by simp, hE.out⟩
end Go.Proofs.YtjheeeilcfbdbaaDoor
