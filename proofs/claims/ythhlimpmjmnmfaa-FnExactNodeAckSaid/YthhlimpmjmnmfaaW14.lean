/-
  The walks of the laws FnAck, FnAckLess, FnAckAll: each returns true for every input, and leaves its arguments as they were.
-/
import Derived.Test.YthhlimpmjmnmfaaW13
set_option linter.all false
namespace Go.Proofs.Ythhlimpmjmnmfaa
open Go.RowKit
attribute [local go_sem ↓] Go.wp_at_zero Go.wp_at_succ

theorem GotNodeB.useZero {w w' : World} {b : Bool} {e : Ending} (h : GotNodeB w ⟨0, [], 0⟩ b e w') : ∃ A c, e = .returned (.tuple #[.agg #[.int .i64 0, .slice A 0 c, .int .i64 0], .bool b]) ∧ Ext w w' := by
  obtain ⟨A, c, rfl, _, h2⟩ := h
  exact ⟨A, c, rfl, h2⟩
theorem sameNode_none {A B : Option Addr} (c d : Nat) {w : World} :
    Calls Try.prog 27 #[.agg #[.int .i64 0, .slice A 0 c, .int .i64 0], .agg #[.int .i64 0, .slice B 0 d, .int .i64 0]] w fun e w' => e = .returned (.bool true) ∧ Ext w w' :=
  (sameNode_any (A := A) (B := B) (l := []) (m := []) c d 0 0 0 0 (CellsR.nil _ _) (CellsR.nil _ _) (by simp) (by simp)).mono fun e w' ⟨h1, h2⟩ => ⟨by rw [h1]; simp, h2⟩
theorem implNodePending_n {A : Option Addr} {l : List Upd} {n : Nat} (c : Nat) (i j : Int) {w : World} (hn : Hid ((ndPend ⟨i, l, j⟩).length = n)) (h : LogR w A l) (hm : l.length ≤ 1048576) (hlc : l.length ≤ c) :
    Calls Try.prog 21 #[.agg #[.int .i64 i, .slice A l.length c, .int .i64 j]] w fun e w' => ∃ A c, e = .returned (.slice A n c) ∧ Ext w w' := by
  have e := hn.out
  subst e
  refine (implNodePending_any c i j h hm hlc).mono ?_
  rintro e w' ⟨A', c', rfl, -, h2⟩
  exact ⟨A', c', rfl, h2⟩
set_option maxHeartbeats 3200000 in
theorem fnAckLess.walk (a0 : Option Addr) (n0 c0 : Nat) (w : World) (w0 : CodeR w a0 n0 c0) :
    Calls Try.prog 6 #[.slice a0 n0 c0] w fun e w' => e = .returned (.bool true) ∧ Below w.heap.size w w' := by
  have hm := len64c w0
  by_cases hn : 1048576 < n0
  · go_enter Try.func6, Try.ntmps6
    go_wp2
    go_ret
    exact ⟨rfl, ext_refl _⟩
  · go_enter Try.func6, Try.ntmps6
    go_wp2_with fail
    refine (drawNodeAck_any w0).mono ?_
    rintro e w1 ⟨A, c, i, j, l, d, rfl, hl, hj0, hj1, hlc, hcm, hA, hE⟩
    replace hA := hide hA
    replace hE := hide hE
    have hm : l.length ≤ 1048576 := by omega
    have N := hide (Blk.newAt (w1) 25 #[.int .i64 i, .slice A l.length c, .int .i64 j] (g := (w1).heap.size) (by simp))
    replace hA := hide (hA.out.ext (ext_alloc (ext_refl (w1)) (.cells #[.int .i64 i, .slice A l.length c, .int .i64 j] 25)))
    replace hE := hide (ext_alloc hE.out (.cells #[.int .i64 i, .slice A l.length c, .int .i64 j] 25))
    by_cases hk : ackOk ⟨i, l, j⟩ d = true
    · go_wp2_with fail
      refine (implNodeAck_yes c i j d hA.out hm hk).mono ?_
      intro e w2 hG
      obtain ⟨A2, c2, rfl, hlc2, hcm2, hO, hF⟩ := hG.use
      replace hO := hide hO.out.log
      clear hG
      replace hA := hide (hA.out.ext hF)
      replace N := hide (N.out.ext hF)
      try clear N_0 N_1 N_2 N_lt
      obtain ⟨N_0, N_1, N_2, N_lt⟩ := N.out.at3
      replace hE := hide (ext_trans hE.out hF)
      clear hF
      have O := hide (Blk.newAt (w2) 25 #[.int .i64 i, .slice A2 l.length c2, .int .i64 d] (g := (w2).heap.size) (by simp))
      replace hA := hide (hA.out.ext (ext_alloc (ext_refl (w2)) (.cells #[.int .i64 i, .slice A2 l.length c2, .int .i64 d] 25)))
      replace hO := hide (hO.out.ext (ext_alloc (ext_refl (w2)) (.cells #[.int .i64 i, .slice A2 l.length c2, .int .i64 d] 25)))
      replace N := hide (N.out.ext (ext_alloc (ext_refl (w2)) (.cells #[.int .i64 i, .slice A2 l.length c2, .int .i64 d] 25)))
      replace hE := hide (ext_alloc hE.out (.cells #[.int .i64 i, .slice A2 l.length c2, .int .i64 d] 25))
      go_wp2_with fail
      refine (specNodeAck_yes c i j d hA.out hm hk).mono ?_
      intro e w3 hG
      obtain ⟨A3, c3, rfl, -, -, hW, hF⟩ := hG.use
      replace hW := hide hW.out.log
      clear hG
      replace hA := hide (hA.out.ext hF)
      replace hO := hide (hO.out.ext hF)
      replace N := hide (N.out.ext hF)
      replace O := hide (O.out.ext hF)
      try clear N_0 N_1 N_2 N_lt
      obtain ⟨N_0, N_1, N_2, N_lt⟩ := N.out.at3
      try clear O_0 O_1 O_2 O_lt
      obtain ⟨O_0, O_1, O_2, O_lt⟩ := O.out.at3
      replace hE := hide (ext_trans hE.out hF)
      clear hF
      have W := hide (Blk.newAt (w3) 25 #[.int .i64 i, .slice A3 l.length c3, .int .i64 d] (g := (w3).heap.size) (by simp))
      replace hA := hide (hA.out.ext (ext_alloc (ext_refl (w3)) (.cells #[.int .i64 i, .slice A3 l.length c3, .int .i64 d] 25)))
      replace hO := hide (hO.out.ext (ext_alloc (ext_refl (w3)) (.cells #[.int .i64 i, .slice A3 l.length c3, .int .i64 d] 25)))
      replace hW := hide (hW.out.ext (ext_alloc (ext_refl (w3)) (.cells #[.int .i64 i, .slice A3 l.length c3, .int .i64 d] 25)))
      replace N := hide (N.out.ext (ext_alloc (ext_refl (w3)) (.cells #[.int .i64 i, .slice A3 l.length c3, .int .i64 d] 25)))
      replace O := hide (O.out.ext (ext_alloc (ext_refl (w3)) (.cells #[.int .i64 i, .slice A3 l.length c3, .int .i64 d] 25)))
      replace hE := hide (ext_alloc hE.out (.cells #[.int .i64 i, .slice A3 l.length c3, .int .i64 d] 25))
      go_wp2_with fail
      refine (sameNode_same c2 c3 i d hO.out hW.out hm).mono ?_
      rintro e w4 ⟨rfl, hF⟩
      replace hA := hide (hA.out.ext hF)
      replace hO := hide (hO.out.ext hF)
      replace hW := hide (hW.out.ext hF)
      replace N := hide (N.out.ext hF)
      replace O := hide (O.out.ext hF)
      replace W := hide (W.out.ext hF)
      try clear N_0 N_1 N_2 N_lt
      obtain ⟨N_0, N_1, N_2, N_lt⟩ := N.out.at3
      try clear O_0 O_1 O_2 O_lt
      obtain ⟨O_0, O_1, O_2, O_lt⟩ := O.out.at3
      try clear W_0 W_1 W_2 W_lt
      obtain ⟨W_0, W_1, W_2, W_lt⟩ := W.out.at3
      replace hE := hide (ext_trans hE.out hF)
      clear hF
      by_cases hdj : d = j
      · have ht : (d == j) = true := by simpa using hdj
        replace hdj := hide hdj
        go_wp2_with fail
        refine (sameNode_same c2 c3 i d hO.out hW.out hm).mono ?_
        rintro e w5 ⟨rfl, hF⟩
        replace hE := hide (ext_trans hE.out hF)
        clear hF
        go_wp2_with fail
        go_ret
        exact ⟨by simp, hE.out⟩
      · have ht : (d == j) = false := by simpa using hdj
        obtain ⟨hk1, hk2, hk3⟩ := ackOk_yes hk
        simp only at hk2 hk3
        have hn1 : ackOk ⟨i, l, d⟩ j = false := ackOk_d (by simp only; omega)
        have hn2 : ackOk ⟨i, l, d⟩ d = true := ackOk_mk (ndOk_ack hk) (by simp only; omega) hk3
        replace hdj := hide hdj
        go_wp2_with fail
        refine (implNodeAck_no c2 i d j hO.out hm hn1).mono ?_
        intro e w5 hG
        obtain ⟨A5, c5, rfl, -, -, -, hF⟩ := hG.use
        clear hG
        replace hA := hide (hA.out.ext hF)
        replace hO := hide (hO.out.ext hF)
        replace O := hide (O.out.ext hF)
        try clear O_0 O_1 O_2 O_lt
        obtain ⟨O_0, O_1, O_2, O_lt⟩ := O.out.at3
        replace hE := hide (ext_trans hE.out hF)
        clear hF
        simp only [List.length_nil]
        have Z := hide (Blk.newAt (w5) 25 #[.int .i64 0, .slice A5 0 c5, .int .i64 0] (g := (w5).heap.size) (by simp))
        replace hA := hide (hA.out.ext (ext_alloc (ext_refl (w5)) (.cells #[.int .i64 0, .slice A5 0 c5, .int .i64 0] 25)))
        replace hO := hide (hO.out.ext (ext_alloc (ext_refl (w5)) (.cells #[.int .i64 0, .slice A5 0 c5, .int .i64 0] 25)))
        replace O := hide (O.out.ext (ext_alloc (ext_refl (w5)) (.cells #[.int .i64 0, .slice A5 0 c5, .int .i64 0] 25)))
        replace hE := hide (ext_alloc hE.out (.cells #[.int .i64 0, .slice A5 0 c5, .int .i64 0] 25))
        go_wp2_with fail
        refine (implNodeAck_yes c2 i d d hO.out hm hn2).mono ?_
        intro e w6 hG
        obtain ⟨A6, c6, rfl, -, -, hX, hF⟩ := hG.use
        replace hX := hide hX.out.log
        clear hG
        replace hO := hide (hO.out.ext hF)
        replace O := hide (O.out.ext hF)
        try clear O_0 O_1 O_2 O_lt
        obtain ⟨O_0, O_1, O_2, O_lt⟩ := O.out.at3
        replace hE := hide (ext_trans hE.out hF)
        clear hF
        have X := hide (Blk.newAt (w6) 25 #[.int .i64 i, .slice A6 l.length c6, .int .i64 d] (g := (w6).heap.size) (by simp))
        replace hO := hide (hO.out.ext (ext_alloc (ext_refl (w6)) (.cells #[.int .i64 i, .slice A6 l.length c6, .int .i64 d] 25)))
        replace hX := hide (hX.out.ext (ext_alloc (ext_refl (w6)) (.cells #[.int .i64 i, .slice A6 l.length c6, .int .i64 d] 25)))
        replace O := hide (O.out.ext (ext_alloc (ext_refl (w6)) (.cells #[.int .i64 i, .slice A6 l.length c6, .int .i64 d] 25)))
        replace hE := hide (ext_alloc hE.out (.cells #[.int .i64 i, .slice A6 l.length c6, .int .i64 d] 25))
        go_wp2_with fail
        refine (sameNode_same c6 c2 i d hX.out hO.out hm).mono ?_
        rintro e w7 ⟨rfl, hF⟩
        replace hE := hide (ext_trans hE.out hF)
        clear hF
        go_wp2_with fail
        go_ret
        exact ⟨by simp, hE.out⟩
    · have hk : ackOk ⟨i, l, j⟩ d = false := by simpa using hk
      go_wp2_with fail
      refine (implNodeAck_no c i j d hA.out hm hk).mono ?_
      intro e w2 hG
      obtain ⟨A2, c2, rfl, hF⟩ := hG.useZero
      clear hG
      replace hA := hide (hA.out.ext hF)
      replace N := hide (N.out.ext hF)
      try clear N_0 N_1 N_2 N_lt
      obtain ⟨N_0, N_1, N_2, N_lt⟩ := N.out.at3
      replace hE := hide (ext_trans hE.out hF)
      clear hF
      have O := hide (Blk.newAt (w2) 25 #[.int .i64 0, .slice A2 0 c2, .int .i64 0] (g := (w2).heap.size) (by simp))
      replace hA := hide (hA.out.ext (ext_alloc (ext_refl (w2)) (.cells #[.int .i64 0, .slice A2 0 c2, .int .i64 0] 25)))
      replace N := hide (N.out.ext (ext_alloc (ext_refl (w2)) (.cells #[.int .i64 0, .slice A2 0 c2, .int .i64 0] 25)))
      replace hE := hide (ext_alloc hE.out (.cells #[.int .i64 0, .slice A2 0 c2, .int .i64 0] 25))
      go_wp2_with fail
      refine (specNodeAck_no c i j d hA.out hm hk).mono ?_
      intro e w3 hG
      obtain ⟨A3, c3, rfl, hF⟩ := hG.useZero
      clear hG
      replace O := hide (O.out.ext hF)
      try clear O_0 O_1 O_2 O_lt
      obtain ⟨O_0, O_1, O_2, O_lt⟩ := O.out.at3
      replace hE := hide (ext_trans hE.out hF)
      clear hF
      have W := hide (Blk.newAt (w3) 25 #[.int .i64 0, .slice A3 0 c3, .int .i64 0] (g := (w3).heap.size) (by simp))
      replace O := hide (O.out.ext (ext_alloc (ext_refl (w3)) (.cells #[.int .i64 0, .slice A3 0 c3, .int .i64 0] 25)))
      replace hE := hide (ext_alloc hE.out (.cells #[.int .i64 0, .slice A3 0 c3, .int .i64 0] 25))
      go_wp2_with fail
      refine (sameNode_none c2 c3).mono ?_
      rintro e w4 ⟨rfl, hF⟩
      replace O := hide (O.out.ext hF)
      replace W := hide (W.out.ext hF)
      try clear O_0 O_1 O_2 O_lt
      obtain ⟨O_0, O_1, O_2, O_lt⟩ := O.out.at3
      try clear W_0 W_1 W_2 W_lt
      obtain ⟨W_0, W_1, W_2, W_lt⟩ := W.out.at3
      replace hE := hide (ext_trans hE.out hF)
      clear hF
      go_wp2_with fail
      refine (sameNode_none c2 c3).mono ?_
      rintro e w5 ⟨rfl, hF⟩
      replace hE := hide (ext_trans hE.out hF)
      clear hF
      go_wp2_with fail
      go_ret
      exact ⟨by simp, hE.out⟩
set_option maxHeartbeats 3200000 in
theorem fnAckAll.walk (a0 : Option Addr) (n0 c0 : Nat) (w : World) (w0 : CodeR w a0 n0 c0) :
    Calls Try.prog 8 #[.slice a0 n0 c0] w fun e w' => e = .returned (.bool true) ∧ Below w.heap.size w w' := by
  have hm := len64c w0
  by_cases hn : 1048576 < n0
  · go_enter Try.func8, Try.ntmps8
    go_wp2
    go_ret
    exact ⟨rfl, ext_refl _⟩
  · go_enter Try.func8, Try.ntmps8
    go_wp2_with fail
    refine (drawNodeAck_any w0).mono ?_
    rintro e w1 ⟨A, c, i, j, l, d, rfl, hl, hj0, hj1, hlc, hcm, hA, hE⟩
    replace hA := hide hA
    replace hE := hide hE
    have hm : l.length ≤ 1048576 := by omega
    have N := hide (Blk.newAt (w1) 25 #[.int .i64 i, .slice A l.length c, .int .i64 j] (g := (w1).heap.size) (by simp))
    replace hA := hide (hA.out.ext (ext_alloc (ext_refl (w1)) (.cells #[.int .i64 i, .slice A l.length c, .int .i64 j] 25)))
    replace hE := hide (ext_alloc hE.out (.cells #[.int .i64 i, .slice A l.length c, .int .i64 j] 25))
    by_cases hk : ackOk ⟨i, l, j⟩ d = true
    · go_wp2_with fail
      refine (implNodeAck_yes c i j d hA.out hm hk).mono ?_
      intro e w2 hG
      obtain ⟨A2, c2, rfl, hlc2, hcm2, hO, hF⟩ := hG.use
      replace hO := hide hO.out.log
      clear hG
      replace hA := hide (hA.out.ext hF)
      replace N := hide (N.out.ext hF)
      try clear N_0 N_1 N_2 N_lt
      obtain ⟨N_0, N_1, N_2, N_lt⟩ := N.out.at3
      replace hE := hide (ext_trans hE.out hF)
      clear hF
      have O := hide (Blk.newAt (w2) 25 #[.int .i64 i, .slice A2 l.length c2, .int .i64 d] (g := (w2).heap.size) (by simp))
      replace hA := hide (hA.out.ext (ext_alloc (ext_refl (w2)) (.cells #[.int .i64 i, .slice A2 l.length c2, .int .i64 d] 25)))
      replace hO := hide (hO.out.ext (ext_alloc (ext_refl (w2)) (.cells #[.int .i64 i, .slice A2 l.length c2, .int .i64 d] 25)))
      replace N := hide (N.out.ext (ext_alloc (ext_refl (w2)) (.cells #[.int .i64 i, .slice A2 l.length c2, .int .i64 d] 25)))
      replace hE := hide (ext_alloc hE.out (.cells #[.int .i64 i, .slice A2 l.length c2, .int .i64 d] 25))
      go_wp2_with fail
      refine (specNodeAck_yes c i j d hA.out hm hk).mono ?_
      intro e w3 hG
      obtain ⟨A3, c3, rfl, -, -, hW, hF⟩ := hG.use
      replace hW := hide hW.out.log
      clear hG
      replace hA := hide (hA.out.ext hF)
      replace hO := hide (hO.out.ext hF)
      replace N := hide (N.out.ext hF)
      replace O := hide (O.out.ext hF)
      try clear N_0 N_1 N_2 N_lt
      obtain ⟨N_0, N_1, N_2, N_lt⟩ := N.out.at3
      try clear O_0 O_1 O_2 O_lt
      obtain ⟨O_0, O_1, O_2, O_lt⟩ := O.out.at3
      replace hE := hide (ext_trans hE.out hF)
      clear hF
      have W := hide (Blk.newAt (w3) 25 #[.int .i64 i, .slice A3 l.length c3, .int .i64 d] (g := (w3).heap.size) (by simp))
      replace hA := hide (hA.out.ext (ext_alloc (ext_refl (w3)) (.cells #[.int .i64 i, .slice A3 l.length c3, .int .i64 d] 25)))
      replace hO := hide (hO.out.ext (ext_alloc (ext_refl (w3)) (.cells #[.int .i64 i, .slice A3 l.length c3, .int .i64 d] 25)))
      replace hW := hide (hW.out.ext (ext_alloc (ext_refl (w3)) (.cells #[.int .i64 i, .slice A3 l.length c3, .int .i64 d] 25)))
      replace N := hide (N.out.ext (ext_alloc (ext_refl (w3)) (.cells #[.int .i64 i, .slice A3 l.length c3, .int .i64 d] 25)))
      replace O := hide (O.out.ext (ext_alloc (ext_refl (w3)) (.cells #[.int .i64 i, .slice A3 l.length c3, .int .i64 d] 25)))
      replace hE := hide (ext_alloc hE.out (.cells #[.int .i64 i, .slice A3 l.length c3, .int .i64 d] 25))
      go_wp2_with fail
      refine (sameNode_same c2 c3 i d hO.out hW.out hm).mono ?_
      rintro e w4 ⟨rfl, hF⟩
      replace hA := hide (hA.out.ext hF)
      replace hO := hide (hO.out.ext hF)
      replace hW := hide (hW.out.ext hF)
      replace N := hide (N.out.ext hF)
      replace O := hide (O.out.ext hF)
      replace W := hide (W.out.ext hF)
      try clear N_0 N_1 N_2 N_lt
      obtain ⟨N_0, N_1, N_2, N_lt⟩ := N.out.at3
      try clear O_0 O_1 O_2 O_lt
      obtain ⟨O_0, O_1, O_2, O_lt⟩ := O.out.at3
      try clear W_0 W_1 W_2 W_lt
      obtain ⟨W_0, W_1, W_2, W_lt⟩ := W.out.at3
      replace hE := hide (ext_trans hE.out hF)
      clear hF
      obtain ⟨hk1, hk2, hk3⟩ := ackOk_yes hk
      simp only at hk2 hk3
      have hp := ndOk_parts hk1
      have hn1 : ackOk ⟨i, l, j⟩ l.length = true := ackOk_mk hk1 (by simp only; omega) (by simp)
      have hn2 : ackOk ⟨i, l, j⟩ (l.length + 1) = false := ackOk_d (by simp only; omega)
      have hp0 : (ndPend ⟨i, l, l.length⟩).length = 0 := by
        rw [ndPend_yes (ndOk_ack hn1)]; simp
      replace hp := hide hp
      replace hp0 := hide hp0
      go_wp2_with fail
      refine (implNodeAck_yes c i j l.length hA.out hm hn1).mono ?_
      intro e w5 hG
      obtain ⟨A5, c5, rfl, hlc5, hcm5, hX, hF⟩ := hG.use
      replace hX := hide hX.out.log
      clear hG
      replace hA := hide (hA.out.ext hF)
      replace N := hide (N.out.ext hF)
      try clear N_0 N_1 N_2 N_lt
      obtain ⟨N_0, N_1, N_2, N_lt⟩ := N.out.at3
      replace hE := hide (ext_trans hE.out hF)
      clear hF
      have X := hide (Blk.newAt (w5) 25 #[.int .i64 i, .slice A5 l.length c5, .int .i64 l.length] (g := (w5).heap.size) (by simp))
      replace hA := hide (hA.out.ext (ext_alloc (ext_refl (w5)) (.cells #[.int .i64 i, .slice A5 l.length c5, .int .i64 l.length] 25)))
      replace hX := hide (hX.out.ext (ext_alloc (ext_refl (w5)) (.cells #[.int .i64 i, .slice A5 l.length c5, .int .i64 l.length] 25)))
      replace N := hide (N.out.ext (ext_alloc (ext_refl (w5)) (.cells #[.int .i64 i, .slice A5 l.length c5, .int .i64 l.length] 25)))
      replace hE := hide (ext_alloc hE.out (.cells #[.int .i64 i, .slice A5 l.length c5, .int .i64 l.length] 25))
      go_wp2_with fail
      refine (implNodeAck_no c i j (l.length + 1) hA.out hm hn2).mono ?_
      intro e w6 hG
      obtain ⟨A6, c6, rfl, hF⟩ := hG.useZero
      clear hG
      replace hX := hide (hX.out.ext hF)
      replace X := hide (X.out.ext hF)
      try clear X_0 X_1 X_2 X_lt
      obtain ⟨X_0, X_1, X_2, X_lt⟩ := X.out.at3
      replace hE := hide (ext_trans hE.out hF)
      clear hF
      have Z := hide (Blk.newAt (w6) 25 #[.int .i64 0, .slice A6 0 c6, .int .i64 0] (g := (w6).heap.size) (by simp))
      replace hX := hide (hX.out.ext (ext_alloc (ext_refl (w6)) (.cells #[.int .i64 0, .slice A6 0 c6, .int .i64 0] 25)))
      replace X := hide (X.out.ext (ext_alloc (ext_refl (w6)) (.cells #[.int .i64 0, .slice A6 0 c6, .int .i64 0] 25)))
      replace hE := hide (ext_alloc hE.out (.cells #[.int .i64 0, .slice A6 0 c6, .int .i64 0] 25))
      go_wp2_with fail
      refine (implNodePending_n c5 i l.length hp0 hX.out hm hlc5).mono ?_
      rintro e w7 ⟨A7, c7, rfl, hF⟩
      replace hE := hide (ext_trans hE.out hF)
      clear hF
      go_wp2_with fail
      go_ret
      exact ⟨by simp, hE.out⟩
    · have hk : ackOk ⟨i, l, j⟩ d = false := by simpa using hk
      go_wp2_with fail
      refine (implNodeAck_no c i j d hA.out hm hk).mono ?_
      intro e w2 hG
      obtain ⟨A2, c2, rfl, hF⟩ := hG.useZero
      clear hG
      replace hA := hide (hA.out.ext hF)
      replace N := hide (N.out.ext hF)
      try clear N_0 N_1 N_2 N_lt
      obtain ⟨N_0, N_1, N_2, N_lt⟩ := N.out.at3
      replace hE := hide (ext_trans hE.out hF)
      clear hF
      have O := hide (Blk.newAt (w2) 25 #[.int .i64 0, .slice A2 0 c2, .int .i64 0] (g := (w2).heap.size) (by simp))
      replace hA := hide (hA.out.ext (ext_alloc (ext_refl (w2)) (.cells #[.int .i64 0, .slice A2 0 c2, .int .i64 0] 25)))
      replace N := hide (N.out.ext (ext_alloc (ext_refl (w2)) (.cells #[.int .i64 0, .slice A2 0 c2, .int .i64 0] 25)))
      replace hE := hide (ext_alloc hE.out (.cells #[.int .i64 0, .slice A2 0 c2, .int .i64 0] 25))
      go_wp2_with fail
      refine (specNodeAck_no c i j d hA.out hm hk).mono ?_
      intro e w3 hG
      obtain ⟨A3, c3, rfl, hF⟩ := hG.useZero
      clear hG
      replace O := hide (O.out.ext hF)
      try clear O_0 O_1 O_2 O_lt
      obtain ⟨O_0, O_1, O_2, O_lt⟩ := O.out.at3
      replace hE := hide (ext_trans hE.out hF)
      clear hF
      have W := hide (Blk.newAt (w3) 25 #[.int .i64 0, .slice A3 0 c3, .int .i64 0] (g := (w3).heap.size) (by simp))
      replace O := hide (O.out.ext (ext_alloc (ext_refl (w3)) (.cells #[.int .i64 0, .slice A3 0 c3, .int .i64 0] 25)))
      replace hE := hide (ext_alloc hE.out (.cells #[.int .i64 0, .slice A3 0 c3, .int .i64 0] 25))
      go_wp2_with fail
      refine (sameNode_none c2 c3).mono ?_
      rintro e w4 ⟨rfl, hF⟩
      replace O := hide (O.out.ext hF)
      replace W := hide (W.out.ext hF)
      try clear O_0 O_1 O_2 O_lt
      obtain ⟨O_0, O_1, O_2, O_lt⟩ := O.out.at3
      try clear W_0 W_1 W_2 W_lt
      obtain ⟨W_0, W_1, W_2, W_lt⟩ := W.out.at3
      replace hE := hide (ext_trans hE.out hF)
      clear hF
      go_wp2_with fail
      refine (sameNode_none c2 c3).mono ?_
      rintro e w5 ⟨rfl, hF⟩
      replace hE := hide (ext_trans hE.out hF)
      clear hF
      go_wp2_with fail
      go_ret
      exact ⟨by simp, hE.out⟩
set_option maxHeartbeats 3200000 in
theorem fnAck.walk (a0 : Option Addr) (n0 c0 : Nat) (w : World) (w0 : CodeR w a0 n0 c0) :
    Calls Try.prog 7 #[.slice a0 n0 c0] w fun e w' => e = .returned (.bool true) ∧ Below w.heap.size w w' := by
  have hm := len64c w0
  by_cases hn : 1048576 < n0
  · go_enter Try.func7, Try.ntmps7
    go_wp2
    go_ret
    exact ⟨rfl, ext_refl _⟩
  · go_enter Try.func7, Try.ntmps7
    go_wp2_with fail
    refine (drawNodeAck_any w0).mono ?_
    rintro e w1 ⟨A, c, i, j, l, d, rfl, hl, hj0, hj1, hlc, hcm, hA, hE⟩
    replace hA := hide hA
    replace hE := hide hE
    have hm : l.length ≤ 1048576 := by omega
    have N := hide (Blk.newAt (w1) 25 #[.int .i64 i, .slice A l.length c, .int .i64 j] (g := (w1).heap.size) (by simp))
    replace hA := hide (hA.out.ext (ext_alloc (ext_refl (w1)) (.cells #[.int .i64 i, .slice A l.length c, .int .i64 j] 25)))
    replace hE := hide (ext_alloc hE.out (.cells #[.int .i64 i, .slice A l.length c, .int .i64 j] 25))
    by_cases hk : ackOk ⟨i, l, j⟩ d = true
    · go_wp2_with fail
      refine (implNodeAck_yes c i j d hA.out hm hk).mono ?_
      intro e w2 hG
      obtain ⟨A2, c2, rfl, hlc2, hcm2, hO, hF⟩ := hG.use
      replace hO := hide hO.out.log
      clear hG
      replace hA := hide (hA.out.ext hF)
      replace N := hide (N.out.ext hF)
      try clear N_0 N_1 N_2 N_lt
      obtain ⟨N_0, N_1, N_2, N_lt⟩ := N.out.at3
      replace hE := hide (ext_trans hE.out hF)
      clear hF
      have O := hide (Blk.newAt (w2) 25 #[.int .i64 i, .slice A2 l.length c2, .int .i64 d] (g := (w2).heap.size) (by simp))
      replace hA := hide (hA.out.ext (ext_alloc (ext_refl (w2)) (.cells #[.int .i64 i, .slice A2 l.length c2, .int .i64 d] 25)))
      replace hO := hide (hO.out.ext (ext_alloc (ext_refl (w2)) (.cells #[.int .i64 i, .slice A2 l.length c2, .int .i64 d] 25)))
      replace N := hide (N.out.ext (ext_alloc (ext_refl (w2)) (.cells #[.int .i64 i, .slice A2 l.length c2, .int .i64 d] 25)))
      replace hE := hide (ext_alloc hE.out (.cells #[.int .i64 i, .slice A2 l.length c2, .int .i64 d] 25))
      go_wp2_with fail
      refine (specNodeAck_yes c i j d hA.out hm hk).mono ?_
      intro e w3 hG
      obtain ⟨A3, c3, rfl, -, -, hW, hF⟩ := hG.use
      replace hW := hide hW.out.log
      clear hG
      replace hA := hide (hA.out.ext hF)
      replace hO := hide (hO.out.ext hF)
      replace N := hide (N.out.ext hF)
      replace O := hide (O.out.ext hF)
      try clear N_0 N_1 N_2 N_lt
      obtain ⟨N_0, N_1, N_2, N_lt⟩ := N.out.at3
      try clear O_0 O_1 O_2 O_lt
      obtain ⟨O_0, O_1, O_2, O_lt⟩ := O.out.at3
      replace hE := hide (ext_trans hE.out hF)
      clear hF
      have W := hide (Blk.newAt (w3) 25 #[.int .i64 i, .slice A3 l.length c3, .int .i64 d] (g := (w3).heap.size) (by simp))
      replace hA := hide (hA.out.ext (ext_alloc (ext_refl (w3)) (.cells #[.int .i64 i, .slice A3 l.length c3, .int .i64 d] 25)))
      replace hO := hide (hO.out.ext (ext_alloc (ext_refl (w3)) (.cells #[.int .i64 i, .slice A3 l.length c3, .int .i64 d] 25)))
      replace hW := hide (hW.out.ext (ext_alloc (ext_refl (w3)) (.cells #[.int .i64 i, .slice A3 l.length c3, .int .i64 d] 25)))
      replace N := hide (N.out.ext (ext_alloc (ext_refl (w3)) (.cells #[.int .i64 i, .slice A3 l.length c3, .int .i64 d] 25)))
      replace O := hide (O.out.ext (ext_alloc (ext_refl (w3)) (.cells #[.int .i64 i, .slice A3 l.length c3, .int .i64 d] 25)))
      replace hE := hide (ext_alloc hE.out (.cells #[.int .i64 i, .slice A3 l.length c3, .int .i64 d] 25))
      go_wp2_with fail
      refine (sameNode_same c2 c3 i d hO.out hW.out hm).mono ?_
      rintro e w4 ⟨rfl, hF⟩
      replace hA := hide (hA.out.ext hF)
      replace hO := hide (hO.out.ext hF)
      replace hW := hide (hW.out.ext hF)
      replace N := hide (N.out.ext hF)
      replace O := hide (O.out.ext hF)
      replace W := hide (W.out.ext hF)
      try clear N_0 N_1 N_2 N_lt
      obtain ⟨N_0, N_1, N_2, N_lt⟩ := N.out.at3
      try clear O_0 O_1 O_2 O_lt
      obtain ⟨O_0, O_1, O_2, O_lt⟩ := O.out.at3
      try clear W_0 W_1 W_2 W_lt
      obtain ⟨W_0, W_1, W_2, W_lt⟩ := W.out.at3
      replace hE := hide (ext_trans hE.out hF)
      clear hF
      obtain ⟨hk1, hk2, hk3⟩ := ackOk_yes hk
      simp only at hk2 hk3
      have hp := ndOk_parts hk1
      have hok : ndOk ⟨i, l, d⟩ = true := ndOk_ack hk
      obtain ⟨p1, hp1⟩ : ∃ p1, (ndPend ⟨i, l, d⟩).length = p1 := ⟨_, rfl⟩
      obtain ⟨p2, hp2⟩ : ∃ p2, (ndPend ⟨i, l, j⟩).length = p2 := ⟨_, rfl⟩
      have hq1 : Hid ((p1 : Int) = l.length - d) := hide (by rw [← hp1, ndPend_yes hok]; simp; omega)
      have hq2 : Hid ((p2 : Int) = l.length - j) := hide (by rw [← hp2, ndPend_yes hk1]; simp; omega)
      have hw1 : IntKind.i64.wrap (d - j) = d - j := IntWalk.i64_in _ (by omega)
      have hw2 : IntKind.i64.wrap ((p2 : Int) - (d - j)) = p2 - (d - j) := IntWalk.i64_in _ (by have := hq2.out; omega)
      have hfin : ((p1 : Int) == (p2 : Int) - (d - j)) = true := by rw [beq_iff_eq]; have := hq1.out; have := hq2.out; omega
      have hfin' : decide ((p1 : Int) = (p2 : Int) - (d - j)) = true := by have := hq1.out; have := hq2.out; simp; omega
      replace hp := hide hp
      replace hp1 := hide hp1
      replace hp2 := hide hp2
      go_wp2_with fail
      have hOd := hide (show LogR w4.drew A2 l from hO.out)
      have hAd := hide (show LogR w4.drew A l from hA.out)
      have bO := hide (show Blk w4.drew w2.heap.size 25 #[.int .i64 i, .slice A2 l.length c2, .int .i64 d] from O.out)
      have bN := hide (show Blk w4.drew w1.heap.size 25 #[.int .i64 i, .slice A l.length c, .int .i64 j] from N.out)
      have hEd := hide (show Ext w w4.drew from ext_drew hE.out)
      go_region_held3 (fun w' => (w'.cell? ⟨w2.heap.size, 0, none⟩ = some (.int .i64 i) ∧ w'.cell? ⟨w2.heap.size, 1, none⟩ = some (.slice A2 l.length c2) ∧ w'.cell? ⟨w2.heap.size, 2, none⟩ = some (.int .i64 d) ∧ w2.heap.size < w'.heap.size) ∧ (w'.cell? ⟨w1.heap.size, 0, none⟩ = some (.int .i64 i) ∧ w'.cell? ⟨w1.heap.size, 1, none⟩ = some (.slice A l.length c) ∧ w'.cell? ⟨w1.heap.size, 2, none⟩ = some (.int .i64 j) ∧ w1.heap.size < w'.heap.size))
        (first | exact ⟨bO4.at3, bN4.at3⟩ | exact ⟨bO3.at3, bN3.at3⟩ | exact ⟨bO2.at3, bN2.at3⟩ | exact ⟨bO1.at3, bN1.at3⟩ | exact ⟨bO.out.at3, bN.out.at3⟩ | go_keep)
        (first
          | ((go_at_call 15; refine (implNodeValid_any c2 i d hOd.out hm).mono ?_; rintro e w5 ⟨rfl, hF1⟩; have bO1 := bO.out.ext hF1; have bN1 := bN.out.ext hF1))
          | ((go_at_call 23; refine (sameLog_any c2 c (hOd.out.ext hF1) (hAd.out.ext hF1) hm hm).mono ?_; rintro e w6 ⟨rfl, hF2⟩; have bO2 := bO1.ext hF2; have bN2 := bN1.ext hF2))
          | ((go_at_call 21; with_reducible refine (implNodePending_n c2 i d hp1 ((hOd.out.ext hF1).ext hF2) hm hlc2).mono ?_; rintro e w7 ⟨A7, c7, rfl, hF3⟩; have bO3 := bO2.ext hF3; have bN3 := bN2.ext hF3))
          | ((go_at_call 21; with_reducible refine (implNodePending_n c i j hp2 (((hAd.out.ext hF1).ext hF2).ext hF3) hm hlc).mono ?_; rintro e w8 ⟨A8, c8, rfl, hF4⟩; have bO4 := bO3.ext hF4; have bN4 := bN3.ext hF4)))
      have fin := hide (ext_trans (ext_trans (ext_trans (ext_trans hEd.out hF1) hF2) hF3) hF4)
      clear hF1 hF2 hF3 hF4 hfin hfin' hw1 hw2
      go_wp2_with fail
      go_ret
      exact ⟨rfl, fin.out⟩
    · have hk : ackOk ⟨i, l, j⟩ d = false := by simpa using hk
      go_wp2_with fail
      refine (implNodeAck_no c i j d hA.out hm hk).mono ?_
      intro e w2 hG
      obtain ⟨A2, c2, rfl, hF⟩ := hG.useZero
      clear hG
      replace hA := hide (hA.out.ext hF)
      replace N := hide (N.out.ext hF)
      try clear N_0 N_1 N_2 N_lt
      obtain ⟨N_0, N_1, N_2, N_lt⟩ := N.out.at3
      replace hE := hide (ext_trans hE.out hF)
      clear hF
      have O := hide (Blk.newAt (w2) 25 #[.int .i64 0, .slice A2 0 c2, .int .i64 0] (g := (w2).heap.size) (by simp))
      replace hA := hide (hA.out.ext (ext_alloc (ext_refl (w2)) (.cells #[.int .i64 0, .slice A2 0 c2, .int .i64 0] 25)))
      replace N := hide (N.out.ext (ext_alloc (ext_refl (w2)) (.cells #[.int .i64 0, .slice A2 0 c2, .int .i64 0] 25)))
      replace hE := hide (ext_alloc hE.out (.cells #[.int .i64 0, .slice A2 0 c2, .int .i64 0] 25))
      go_wp2_with fail
      refine (specNodeAck_no c i j d hA.out hm hk).mono ?_
      intro e w3 hG
      obtain ⟨A3, c3, rfl, hF⟩ := hG.useZero
      clear hG
      replace O := hide (O.out.ext hF)
      try clear O_0 O_1 O_2 O_lt
      obtain ⟨O_0, O_1, O_2, O_lt⟩ := O.out.at3
      replace hE := hide (ext_trans hE.out hF)
      clear hF
      have W := hide (Blk.newAt (w3) 25 #[.int .i64 0, .slice A3 0 c3, .int .i64 0] (g := (w3).heap.size) (by simp))
      replace O := hide (O.out.ext (ext_alloc (ext_refl (w3)) (.cells #[.int .i64 0, .slice A3 0 c3, .int .i64 0] 25)))
      replace hE := hide (ext_alloc hE.out (.cells #[.int .i64 0, .slice A3 0 c3, .int .i64 0] 25))
      go_wp2_with fail
      refine (sameNode_none c2 c3).mono ?_
      rintro e w4 ⟨rfl, hF⟩
      replace O := hide (O.out.ext hF)
      replace W := hide (W.out.ext hF)
      try clear O_0 O_1 O_2 O_lt
      obtain ⟨O_0, O_1, O_2, O_lt⟩ := O.out.at3
      try clear W_0 W_1 W_2 W_lt
      obtain ⟨W_0, W_1, W_2, W_lt⟩ := W.out.at3
      replace hE := hide (ext_trans hE.out hF)
      clear hF
      go_wp2_with fail
      refine (sameNode_none c2 c3).mono ?_
      rintro e w5 ⟨rfl, hF⟩
      replace hE := hide (ext_trans hE.out hF)
      clear hF
      go_wp2_with fail
      go_ret
      exact ⟨by simp, hE.out⟩
end Go.Proofs.Ythhlimpmjmnmfaa
