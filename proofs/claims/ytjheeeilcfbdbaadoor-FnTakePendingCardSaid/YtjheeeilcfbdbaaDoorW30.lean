/-
  The walk of the law FnTakePending: it returns true for every input at which the listed variable holds its error, and leaves its arguments as they were.
-/
import Derived.Test.YtjheeeilcfbdbaaDoorW29
set_option linter.all false
set_option maxRecDepth 100000
namespace Go.Proofs.YtjheeeilcfbdbaaDoor
open Go.RowKit
attribute [local go_sem ↓] Go.wp_at_zero Go.wp_at_succ

theorem pending_m {A : Option Addr} {L S : List Upd} {m k : Nat} (c : Nat) (i j : Int) {w : World} (hs : ndPend ⟨i, L, j⟩ = S) (hL : L.length = m) (hk : S.length = k) (h : LogR w A L) (hm : m ≤ 1048576) (hlc : m ≤ c) :
    Calls Tryd.prog 15 #[.agg #[.int .i64 i, .slice A m c, .int .i64 j]] w fun e w' => ∃ A c, e = .returned (.slice A k c) ∧ k ≤ c ∧ c ≤ maxLen ∧ Hid (LogR w' A S) ∧ Ext w w' := by
  subst hs hL hk
  refine (implNodePending_any c i j h hm hlc).mono ?_
  intro e w' hG
  obtain ⟨A', c', rfl, h1, h2, hO, hF⟩ := hG.use
  exact ⟨A', c', rfl, h1, h2, hide hO.out.log, hF⟩
theorem pend_take {i j : Int} {l : List Upd} {u : Upd} (h : takeOk ⟨i, l, j⟩ u = true) : ∃ s, ndPend ⟨i, l, j⟩ = s ∧ ndPend ⟨i, l ++ [u], j⟩ = s ++ [u] ∧ s.length ≤ l.length := by
  obtain ⟨p1, p2, p3, p4, p5, p6⟩ := ndOk_parts (takeOk_yes h).1
  obtain ⟨q, rfl⟩ := Int.eq_ofNat_of_zero_le p5
  refine ⟨l.drop q, ?_, ?_, by simp⟩
  · rw [ndPend_yes (takeOk_yes h).1]; simp
  · rw [ndPend_yes (ndOk_take h)]
    have : q ≤ l.length := by omega
    simp [List.drop_append_of_le_length this]
set_option maxHeartbeats 3200000 in
theorem fnTakePending.walk (a0 : Option Addr) (n0 c0 : Nat) (w : World) (w0 : CodeR w a0 n0 c0) (a : Addr) (hS : SentAt w a) :
    Calls Tryd.prog 4 #[.slice a0 n0 c0] w fun e w' => e = .returned (.bool true) ∧ Below w.heap.size w w' := by
  have hm := len64t w0
  by_cases hn : 1048576 < n0
  · go_enter Tryd.func4, Tryd.ntmps4
    go_wp2
    go_ret
    exact ⟨rfl, ext_refl _⟩
  · replace hS := hide hS
    go_enter Tryd.func4, Tryd.ntmps4
    go_wp2_with fail
    refine (drawNodeTake_any w0).mono ?_
    rintro e w1 ⟨A, c, i, j, l, x, y, rfl, hl, hj0, hj1, hlc, hcm, hA, hE⟩
    replace hS := hide (hS.out.ext hE)
    replace hA := hide hA
    replace hE := hide hE
    have hm : l.length ≤ 1048576 := by omega
    have N := hide (Blk.newAt (w1) 25 #[.int .i64 i, .slice A l.length c, .int .i64 j] (g := (w1).heap.size) (by simp))
    replace hA := hide (hA.out.ext (ext_alloc (ext_refl (w1)) (.cells #[.int .i64 i, .slice A l.length c, .int .i64 j] 25)))
    replace hS := hide (hS.out.ext (ext_alloc (ext_refl (w1)) (.cells #[.int .i64 i, .slice A l.length c, .int .i64 j] 25)))
    replace hE := hide (ext_alloc hE.out (.cells #[.int .i64 i, .slice A l.length c, .int .i64 j] 25))
    have U := hide (Blk.newAt (w1.alloc (.cells #[.int .i64 i, .slice A l.length c, .int .i64 j] 25)) 27 #[.int .i64 x, .int .i64 y] (g := w1.heap.size + 1) (by simp))
    replace hA := hide (hA.out.ext (ext_alloc (ext_refl (w1.alloc (.cells #[.int .i64 i, .slice A l.length c, .int .i64 j] 25))) (.cells #[.int .i64 x, .int .i64 y] 27)))
    replace hS := hide (hS.out.ext (ext_alloc (ext_refl (w1.alloc (.cells #[.int .i64 i, .slice A l.length c, .int .i64 j] 25))) (.cells #[.int .i64 x, .int .i64 y] 27)))
    replace N := hide (N.out.ext (ext_alloc (ext_refl (w1.alloc (.cells #[.int .i64 i, .slice A l.length c, .int .i64 j] 25))) (.cells #[.int .i64 x, .int .i64 y] 27)))
    replace hE := hide (ext_alloc hE.out (.cells #[.int .i64 x, .int .i64 y] 27))
    by_cases ht : takeOk ⟨i, l, j⟩ (x, y) = true
    · obtain ⟨m, hml⟩ : ∃ m, m = l.length + 1 := ⟨_, rfl⟩
      have hmm : m ≤ 1048576 := by omega
      have hsm : (l ++ [(x, y)]).length = m := by simp [hml]
      replace hsm := hide hsm
      replace hml := hide hml
      obtain ⟨s, hs1, hs2, hsl⟩ := pend_take ht
      replace hs1 := hide hs1
      replace hs2 := hide hs2
      obtain ⟨k, hk⟩ : ∃ k, s.length = k := ⟨_, rfl⟩
      obtain ⟨k', hk'⟩ : ∃ k', (s ++ [(x, y)]).length = k' := ⟨_, rfl⟩
      have hkk : k' = k + 1 := by rw [← hk', ← hk]; simp
      have hkl : k ≤ l.length := by omega
      replace hk := hide hk
      replace hk' := hide hk'
      replace hkk := hide hkk
      replace hsl := hide hsl
      go_wp2_with fail
      refine (implNodeTake_any c i j x y hA.out hm hS.out).mono ?_
      intro e w2 hG
      obtain ⟨A2, c2, rfl, hlc2, hcm2, hO, hF⟩ := tookYes_of hml ht hG
      clear hG
      replace hA := hide (hA.out.ext hF)
      replace N := hide (N.out.ext hF)
      replace U := hide (U.out.ext hF)
      try clear N_0 N_1 N_2 N_lt
      obtain ⟨N_0, N_1, N_2, N_lt⟩ := N.out.at3
      try clear U_0 U_1 U_lt
      obtain ⟨U_0, U_1, U_lt⟩ := U.out.at2
      replace hE := hide (ext_trans hE.out hF)
      clear hF
      have O := hide (Blk.newAt (w2) 25 #[.int .i64 i, .slice A2 m c2, .int .i64 j] (g := (w2).heap.size) (by simp))
      replace hA := hide (hA.out.ext (ext_alloc (ext_refl (w2)) (.cells #[.int .i64 i, .slice A2 m c2, .int .i64 j] 25)))
      replace hO := hide (hO.out.ext (ext_alloc (ext_refl (w2)) (.cells #[.int .i64 i, .slice A2 m c2, .int .i64 j] 25)))
      replace N := hide (N.out.ext (ext_alloc (ext_refl (w2)) (.cells #[.int .i64 i, .slice A2 m c2, .int .i64 j] 25)))
      replace U := hide (U.out.ext (ext_alloc (ext_refl (w2)) (.cells #[.int .i64 i, .slice A2 m c2, .int .i64 j] 25)))
      replace hE := hide (ext_alloc hE.out (.cells #[.int .i64 i, .slice A2 m c2, .int .i64 j] 25))
      go_wp2_with fail
      refine (specNodeTake_any c i j x y hA.out hm).mono ?_
      intro e w3 hG
      obtain ⟨A3, c3, rfl, hlc3, hcm3, hW, hF⟩ := tookYes_of hml ht hG
      clear hG
      replace hA := hide (hA.out.ext hF)
      replace hO := hide (hO.out.ext hF)
      replace N := hide (N.out.ext hF)
      replace U := hide (U.out.ext hF)
      replace O := hide (O.out.ext hF)
      try clear N_0 N_1 N_2 N_lt
      obtain ⟨N_0, N_1, N_2, N_lt⟩ := N.out.at3
      try clear U_0 U_1 U_lt
      obtain ⟨U_0, U_1, U_lt⟩ := U.out.at2
      try clear O_0 O_1 O_2 O_lt
      obtain ⟨O_0, O_1, O_2, O_lt⟩ := O.out.at3
      replace hE := hide (ext_trans hE.out hF)
      clear hF
      have W := hide (Blk.newAt (w3) 25 #[.int .i64 i, .slice A3 m c3, .int .i64 j] (g := (w3).heap.size) (by simp))
      replace hA := hide (hA.out.ext (ext_alloc (ext_refl (w3)) (.cells #[.int .i64 i, .slice A3 m c3, .int .i64 j] 25)))
      replace hO := hide (hO.out.ext (ext_alloc (ext_refl (w3)) (.cells #[.int .i64 i, .slice A3 m c3, .int .i64 j] 25)))
      replace hW := hide (hW.out.ext (ext_alloc (ext_refl (w3)) (.cells #[.int .i64 i, .slice A3 m c3, .int .i64 j] 25)))
      replace N := hide (N.out.ext (ext_alloc (ext_refl (w3)) (.cells #[.int .i64 i, .slice A3 m c3, .int .i64 j] 25)))
      replace U := hide (U.out.ext (ext_alloc (ext_refl (w3)) (.cells #[.int .i64 i, .slice A3 m c3, .int .i64 j] 25)))
      replace O := hide (O.out.ext (ext_alloc (ext_refl (w3)) (.cells #[.int .i64 i, .slice A3 m c3, .int .i64 j] 25)))
      replace hE := hide (ext_alloc hE.out (.cells #[.int .i64 i, .slice A3 m c3, .int .i64 j] 25))
      go_wp2_with fail
      refine (sameNode_m c2 c3 i j hsm.out hO.out hW.out hmm).mono ?_
      rintro e w4 ⟨rfl, hF⟩
      replace hA := hide (hA.out.ext hF)
      replace hO := hide (hO.out.ext hF)
      replace N := hide (N.out.ext hF)
      replace U := hide (U.out.ext hF)
      replace O := hide (O.out.ext hF)
      try clear N_0 N_1 N_2 N_lt
      obtain ⟨N_0, N_1, N_2, N_lt⟩ := N.out.at3
      try clear U_0 U_1 U_lt
      obtain ⟨U_0, U_1, U_lt⟩ := U.out.at2
      try clear O_0 O_1 O_2 O_lt
      obtain ⟨O_0, O_1, O_2, O_lt⟩ := O.out.at3
      replace hE := hide (ext_trans hE.out hF)
      clear hF
      go_wp2_with fail
      refine (pending_m c i j hs1.out rfl hk.out hA.out hm hlc).mono ?_
      rintro e w5 ⟨A5, c5, rfl, hk5, hm5, hP, hF⟩
      replace hO := hide (hO.out.ext hF)
      replace U := hide (U.out.ext hF)
      replace O := hide (O.out.ext hF)
      try clear U_0 U_1 U_lt
      obtain ⟨U_0, U_1, U_lt⟩ := U.out.at2
      try clear O_0 O_1 O_2 O_lt
      obtain ⟨O_0, O_1, O_2, O_lt⟩ := O.out.at3
      replace hE := hide (ext_trans hE.out hF)
      clear hF
      go_wp2_with fail
      refine (pending_m c2 i j hs2.out hsm.out hk'.out hO.out hmm hlc2).mono ?_
      rintro e w6 ⟨A6, c6, rfl, hk6, hm6, hQ, hF⟩
      replace hP := hide (hP.out.ext hF)
      replace U := hide (U.out.ext hF)
      try clear U_0 U_1 U_lt
      obtain ⟨U_0, U_1, U_lt⟩ := U.out.at2
      replace hE := hide (ext_trans hE.out hF)
      clear hF
      have hka := hk.out
      subst hka
      obtain ⟨b, o, hAb, z0, z1⟩ := last_at hQ.out
      subst hAb
      have q3 : ∀ w', Ext w6 w' → w'.cell? ⟨w1.heap.size + 1, 0, none⟩ = some (.int .i64 x) := fun w' hC => ext_cell hC U_0
      have q4 : ∀ w', Ext w6 w' → w'.cell? ⟨w1.heap.size + 1, 1, none⟩ = some (.int .i64 y) := fun w' hC => ext_cell hC U_1
      have q8 : ∀ w', Ext w6 w' → w'.cell? ⟨b, o + s.length * 2, none⟩ = some (.int .i64 x) := fun w' hC => ext_cell hC z0
      have q9 : ∀ w', Ext w6 w' → w'.cell? ⟨b, o + s.length * 2 + 1, none⟩ = some (.int .i64 y) := fun w' hC => ext_cell hC z1
      have hcs : ∀ w', Ext w6 w' → Calls Tryd.prog 14 #[.slice (some ⟨b, o, none⟩) s.length c6, .slice A5 s.length c5] w' (fun e w'' => e = .returned (.bool true) ∧ Ext w6 w'') := fun w' hC =>
        (sameLog_pre c6 c5 (hQ.out.ext hC) (hP.out.ext hC) (by simp) (Nat.le_refl _) (by simp) (by have := hsl.out; omega)).mono fun e w'' ⟨f1, f2⟩ => ⟨f1, ext_trans hC f2⟩
      have hml' := hkk.out
      have hsl' := hsl.out
      have hi0 : (0 : Int) ≤ (s.length : Int) := by omega
      have hi1 : (s.length : Int) < (k' : Int) := by omega
      have hi2 : (s.length : Int) ≤ (c6 : Int) := by omega
      have hi3 : s.length ≤ c6 := by omega
      have hi4 : s.length < k' := by omega
      have hwr : IntKind.i64.wrap ((s.length : Int) + 1) = (k' : Int) := by rw [hml']; simp [IntKind.wrap, IntKind.bits, IntKind.signed]; omega
      have hbe : ((k' : Int) == (s.length : Int) + 1) = true := by simp; omega
      clear hml' hsl' z0 z1 hk
      go_wp2_with fail
      refine wp_region_quietE (by kernel_rfl) (by kernel_rfl) ?_
      repeat (
        refine QW.step (fun K hK => ?_)
        go_simp
        first
        | (refine hK _ ?_; clear hK K)
        | (apply Exists.intro
           refine ⟨fun w5 hC => ?_, hK _ ?_⟩
           · first
             | rfl
             | exact hcs w5 hC
             | (simp only [q3 w5 hC, q4 w5 hC, q8 w5 hC, q9 w5 hC, Result.andThen_ok, true_and]; rfl)
           clear hK K))
      refine QW.nil ?_
      intro w1 hF
      clear q3 q4 q8 q9 hcs
      replace hE := hide (ext_trans hE.out hF)
      go_wp2_with fail
      go_ret
      exact ⟨by simp, hE.out⟩
    · have ht : takeOk ⟨i, l, j⟩ (x, y) = false := by simpa using ht
      go_wp2_with fail
      refine (implNodeTake_any c i j x y hA.out hm hS.out).mono ?_
      intro e w2 hG
      obtain ⟨A2, c2, rfl, hF⟩ := tookNo_of ht hG
      clear hG
      replace hA := hide (hA.out.ext hF)
      replace N := hide (N.out.ext hF)
      replace U := hide (U.out.ext hF)
      try clear N_0 N_1 N_2 N_lt
      obtain ⟨N_0, N_1, N_2, N_lt⟩ := N.out.at3
      try clear U_0 U_1 U_lt
      obtain ⟨U_0, U_1, U_lt⟩ := U.out.at2
      replace hE := hide (ext_trans hE.out hF)
      clear hF
      have O := hide (Blk.newAt (w2) 25 #[.int .i64 0, .slice A2 0 c2, .int .i64 0] (g := (w2).heap.size) (by simp))
      replace hA := hide (hA.out.ext (ext_alloc (ext_refl (w2)) (.cells #[.int .i64 0, .slice A2 0 c2, .int .i64 0] 25)))
      replace N := hide (N.out.ext (ext_alloc (ext_refl (w2)) (.cells #[.int .i64 0, .slice A2 0 c2, .int .i64 0] 25)))
      replace U := hide (U.out.ext (ext_alloc (ext_refl (w2)) (.cells #[.int .i64 0, .slice A2 0 c2, .int .i64 0] 25)))
      replace hE := hide (ext_alloc hE.out (.cells #[.int .i64 0, .slice A2 0 c2, .int .i64 0] 25))
      go_wp2_with fail
      refine (specNodeTake_any c i j x y hA.out hm).mono ?_
      intro e w3 hG
      obtain ⟨A3, c3, rfl, hF⟩ := tookNo_of ht hG
      clear hG
      replace O := hide (O.out.ext hF)
      try clear O_0 O_1 O_2 O_lt
      obtain ⟨O_0, O_1, O_2, O_lt⟩ := O.out.at3
      replace hE := hide (ext_trans hE.out hF)
      clear hF
      have W := hide (Blk.newAt (w3) 25 #[.int .i64 0, .slice A3 0 c3, .int .i64 0] (g := (w3).heap.size) (by simp))
      replace O := hide (O.out.ext (ext_alloc (ext_refl (w3)) (.cells #[.int .i64 0, .slice A3 0 c3, .int .i64 0] 25)))
      replace hE := hide (ext_alloc hE.out (.cells #[.int .i64 0, .slice A3 0 c3, .int .i64 0] 25))
      go_wp2_with fail
      refine (sameNode_nil c2 c3).mono ?_
      rintro e w4 ⟨rfl, hF⟩
      replace O := hide (O.out.ext hF)
      replace W := hide (W.out.ext hF)
      try clear O_0 O_1 O_2 O_lt
      obtain ⟨O_0, O_1, O_2, O_lt⟩ := O.out.at3
      try clear W_0 W_1 W_2 W_lt
      obtain ⟨W_0, W_1, W_2, W_lt⟩ := W.out.at3
      replace hE := hide (ext_trans hE.out hF)
      clear hF
      go_wp2_with fail
      refine (sameNode_nil c2 c3).mono ?_
      rintro e w5 ⟨rfl, hF⟩
      replace hE := hide (ext_trans hE.out hF)
      clear hF
      go_wp2_with fail
      go_ret
      exact ⟨by simp, hE.out⟩
end Go.Proofs.YtjheeeilcfbdbaaDoor
