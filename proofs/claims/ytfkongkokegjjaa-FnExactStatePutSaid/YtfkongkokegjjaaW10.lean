/-
  The walk of the law FnExactStatePut: it returns true for every input, and leaves its arguments as they were.
-/
import Derived.Test.YtfkongkokegjjaaW9
import Derived.Test.YtfkongkokegjjaaW7
set_option linter.all false
namespace Go.Proofs.Ytfkongkokegjjaa
open Go.RowKit

theorem GotPut.row {w w' : World} {s : List Int} {u : Upd} {e : Ending} {t : List Int} {p : Bool} (h : GotPut w s u e w') (ht : statePut s u = t) (hp : putOk s u = p) : ∃ A c, e = .returned (.tuple #[.slice A t.length c, .bool p]) ∧ Hid (w'.ownsRow w.heap.size 3 1 (.slice A t.length c) t.length (icells t)) ∧ Hid (Ext w w') := by
  subst ht hp
  obtain ⟨A, c, rfl, h1, h2, h3, h4⟩ := h
  exact ⟨A, c, rfl, h3, h4⟩

set_option maxHeartbeats 3200000 in
theorem fnExactStatePut.walk (a0 : Option Addr) (n0 c0 : Nat) (l0 : List Int) (x y : Int) (w : World) (w0 : IntsArg w a0 n0 c0 l0) (w1 : True) :
    Calls Try.prog 8 #[.slice a0 n0 c0, .agg #[.int .i64 x, .int .i64 y]] w fun e w' => e = .returned (.bool true) ∧ Below w.heap.size w w' := by
  clear w1
  obtain ⟨rfl, hnc, hcm, hL⟩ := w0
  unfold maxLen at hcm
  have hU := hide (Blk.new w 43 #[.int .i64 x, .int .i64 y])
  have hE0 := hide (ext_alloc (ext_refl w) (.cells #[.int .i64 x, .int .i64 y] 43))
  have hLw := hide hL
  replace hL := hide (hL.ext hE0.out)
  by_cases hn : 1048576 < l0.length
  · have hd : decide ((1048576 : Int) < (l0.length : Int)) = true := by simp; omega
    go_enter Try.func8, Try.ntmps8
    go_wp2
    go_ret
    exact ⟨rfl, hE0.out⟩
  · have hd : decide ((1048576 : Int) < (l0.length : Int)) = false := by simp; omega
    obtain ⟨t, ht⟩ : ∃ t, statePut l0 (x, y) = t := ⟨_, rfl⟩
    obtain ⟨p, hp⟩ : ∃ p, putOk l0 (x, y) = p := ⟨_, rfl⟩
    have ht5 : t.length ≤ 5 := by rw [← ht]; exact statePut_len _ _
    have ep : (p != p) = false := by simp
    replace ht := hide ht
    replace hp := hide hp
    have hm : l0.length ≤ 1048576 := by omega
    have hLr := hide (fun n => hL.out.ext (ext_drewN (ext_refl _) n))
    go_enter Try.func8, Try.ntmps8
    go_wp2_with fail
    go_region_with (first
      | (go_at_call 35; refine (toIntS_any c0 (hLr.out _) hm).mono ?_; rintro e wa ⟨rfl, hX1, hF1⟩; have cu0 := (hU.out.ext (ext_trans (ext_drewN (ext_refl _) _) hF1)).cell 0; have cu1 := (hU.out.ext (ext_trans (ext_drewN (ext_refl _) _) hF1)).cell 1; simp at cu0 cu1 hX1; replace hX1 := hide (show IntsR _ (some ⟨w.heap.size + 1, 0, none⟩) l0 from CellsR.of_own hX1); replace hF1 := hide hF1)
      | (go_at_call 36; refine (toUpdate_any x y _).mono ?_; rintro e wb ⟨rfl, hF2⟩; replace hX1 := hide (IntsR.ext hX1.out hF2); replace hF2 := hide hF2; clear cu0 cu1)
      | (go_at_call 34; refine (specStatePut_any _ x y hX1.out hm).mono ?_; intro e wc hG; obtain ⟨A2, c2, rfl, hW, hF3⟩ := hG.row ht.out hp.out; clear hG))
    all_goals
      have hEa := hide (ext_trans (ext_trans (ext_trans (ext_drewN (ext_refl (w.alloc (.cells #[.int .i64 x, .int .i64 y] 43))) 1) hF1.out) hF2.out) hF3.out)
      have hwb : w.heap.size ≤ wb.heap.size := (ext_trans (ext_trans (ext_drewN hE0.out 1) hF1.out) hF2.out).size
      replace hW := hide (own_mono hW.out hwb)
      have hE3 := hide (ext_trans hE0.out hEa.out)
      have hs3 := hE3.out.size
      replace hU := hide (hU.out.ext hEa.out)
      have hu3 := hU.out.lt
      clear hEa hF1 hF2 hF3 hX1 hL hLr
      go_wp2_with fail
      refine (toIntS_any c0 (hLw.out.ext hE3.out) hm).mono ?_
      rintro e w4 ⟨rfl, hX, hE4⟩
      have nWX := hide (row_row hW.out hX)
      replace hX := hide hX
      replace hW := hide (row_ext hW.out hE4)
      replace hU := hide (hU.out.ext hE4)
      replace hE4 := hide (ext_trans hE3.out hE4)
      have cu0 : w4.cell? ⟨w.heap.size, 0, none⟩ = some (.int .i64 x) := by simpa using hU.out.cell 0
      have cu1 : w4.cell? ⟨w.heap.size, 1, none⟩ = some (.int .i64 y) := by simpa using hU.out.cell 1
      go_wp2_with fail
      refine (toUpdate_any x y _).mono ?_
      rintro e w5 ⟨rfl, hE5⟩
      replace hX := hide (row_ext hX.out hE5)
      replace hW := hide (row_ext hW.out hE5)
      replace hU := hide (hU.out.ext hE5)
      replace hE5 := hide (ext_trans hE4.out hE5)
      have hu5 := hU.out.lt
      clear cu0 cu1
      go_wp2_with fail
      refine (implStatePut_any _ x y (CellsR.of_own hX.out) hm).mono ?_
      intro e w6 hG
      obtain ⟨A6, c6, rfl, hR, hE6⟩ := hG.row ht.out hp.out
      clear hG
      have nXR := hide (row_row' hX.out hR.out)
      have nWR := hide (row_row hW.out hR.out)
      replace hE6 := hE6.out
      replace hX := hide (row_ext hX.out hE6)
      replace hW := hide (row_ext hW.out hE6)
      replace hU := hide (hU.out.ext hE6)
      replace hE6 := hide (ext_trans hE5.out hE6)
      go_wp2_with fail
      refine (eqIntS_any c6 c2 (CellsR.of_own hR.out) (CellsR.of_own hW.out) (by omega) (by omega)).mono ?_
      rintro e w7 ⟨rfl, hE7⟩
      replace hX := hide (row_ext hX.out hE7)
      replace hW := hide (row_ext hW.out hE7)
      replace hR := hide (row_ext hR.out hE7)
      replace hU := hide (hU.out.ext hE7)
      replace hE7 := hide (ext_trans hE6.out hE7)
      go_wp2_with fail
      refine (toIntS_any c0 (hLw.out.ext hE7.out) hm).mono ?_
      rintro e w8 ⟨rfl, hO8, hE8⟩
      replace hO8 := hide hO8
      replace hX := hide (row_ext hX.out hE8)
      replace hW := hide (row_ext hW.out hE8)
      replace hR := hide (row_ext hR.out hE8)
      replace hU := hide (hU.out.ext hE8)
      replace hE8 := hide (ext_trans hE7.out hE8)
      go_wp2_with fail
      refine (eqIntS_any _ _ (CellsR.of_own hX.out) (CellsR.of_own hO8.out) hm hm).mono ?_
      rintro e w9 ⟨rfl, hE9⟩
      replace hX := hide (row_ext hX.out hE9)
      replace hW := hide (row_ext hW.out hE9)
      replace hR := hide (row_ext hR.out hE9)
      replace hU := hide (hU.out.ext hE9)
      replace hE9 := hide (ext_trans hE8.out hE9)
      clear hO8
      go_wp2_with fail
      refine (markIntS_any 1 hX.out hm (by omega) (by omega)).mono ?_
      rintro e w10 ⟨rfl, -, hg10⟩
      have hE10 := hide (only_base hE9.out hg10 (fun g e => Nat.le_trans hs3 (hX.out.lt g e).1))
      replace hW := hide (hW.out.kept hg10 nWX.out)
      replace hR := hide (hR.out.kept hg10 nXR.out)
      replace hU := hide (hU.out.grown hg10 (fun e => by have := (hX.out.lt _ e.symm).1; omega))
      clear hg10 hX nWX nXR
      go_wp2_with fail
      refine (eqIntS_any c6 c2 (CellsR.of_own hR.out) (CellsR.of_own hW.out) (by omega) (by omega)).mono ?_
      rintro e w11 ⟨rfl, hE11⟩
      replace hW := hide (row_ext hW.out hE11)
      replace hR := hide (row_ext hR.out hE11)
      replace hU := hide (hU.out.ext hE11)
      replace hE11 := hide (ext_trans hE10.out hE11)
      go_wp2_with fail
      refine (markIntS_any 1 hR.out (by omega) (by omega) (by omega)).mono ?_
      rintro e w12 ⟨rfl, hM, hg12⟩
      have hE12 := hide (only_base hE11.out hg12 (fun g e => by have := (hR.out.lt g e).1; omega))
      replace hW := hide (hW.out.kept hg12 nWR.out)
      replace hU := hide (hU.out.grown hg12 (fun e => by have := (hR.out.lt _ e.symm).1; omega))
      replace hM := hide hM
      clear hg12 hR nWR
      go_wp2_with fail
      refine (heldIntS_any _ _ 1 (CellsR.of_own hM.out) (by omega) (by omega) (by omega)).mono ?_
      rintro e w13 ⟨rfl, rfl⟩
      have hLr := hide (fun n => (hLw.out.ext hE12.out).ext (ext_drewN (ext_refl w12) n))
      have cu0 : w12.cell? ⟨w.heap.size, 0, none⟩ = some (.int .i64 x) := by simpa using hU.out.cell 0
      have cu1 : w12.cell? ⟨w.heap.size, 1, none⟩ = some (.int .i64 y) := by simpa using hU.out.cell 1
      go_wp2_with fail
      go_region_with (first
        | (go_at_call 35; refine (toIntS_any c0 (hLr.out _) hm).mono ?_; rintro e wa ⟨rfl, hX1, hF1⟩; have cv0 := ext_cell hF1 cu0; have cv1 := ext_cell hF1 cu1; simp at hX1; replace hX1 := hide (show IntsR _ (some ⟨w12.heap.size, 0, none⟩) l0 from CellsR.of_own hX1); replace hF1 := hide hF1)
        | (go_at_call 36; refine (toUpdate_any x y _).mono ?_; rintro e wb' ⟨rfl, hF2⟩; replace hX1 := hide (IntsR.ext hX1.out hF2); replace hF2 := hide hF2; clear cv0 cv1)
        | (go_at_call 37; refine (implStatePut_any _ x y hX1.out hm).mono ?_; intro e wc' hG; obtain ⟨A14, c14, rfl, hS, hF3⟩ := hG.row ht.out hp.out; clear hG))
      all_goals
        have hEa := hide (ext_trans (ext_trans (ext_trans (ext_drewN (ext_refl w12) 1) hF1.out) hF2.out) hF3.out)
        replace hW := hide (row_ext hW.out hEa.out)
        replace hM := hide (row_ext hM.out hEa.out)
        have hE14 := hide (ext_trans hE12.out hEa.out)
        clear hEa hF1 hF2 hF3 hX1 hLr cu0 cu1
        go_wp2_with fail
        refine (eqIntS_any c14 c2 (CellsR.of_own hS.out) (CellsR.of_own hW.out) (by omega) (by omega)).mono ?_
        rintro e w15 ⟨rfl, hE15⟩
        replace hM := hide (row_ext hM.out hE15)
        replace hE15 := hide (ext_trans hE14.out hE15)
        go_wp2_with fail
        refine (heldIntS_any _ _ 1 (CellsR.of_own hM.out) (by omega) (by omega) (by omega)).mono ?_
        rintro e w16 ⟨rfl, rfl⟩
        go_wp2_with fail
        go_ret
        exact ⟨rfl, hE15.out⟩
end Go.Proofs.Ytfkongkokegjjaa
