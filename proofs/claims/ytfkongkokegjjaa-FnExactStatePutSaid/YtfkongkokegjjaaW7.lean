/-
  The walks of the laws FnPutTwice, FnPutSwap, FnPut: each returns true for every input, and leaves its arguments as they were.
-/
import Derived.Test.YtfkongkokegjjaaW5
set_option linter.all false
namespace Go.Proofs.Ytfkongkokegjjaa
open Go.RowKit

theorem GotPut.use {w w' : World} {s : List Int} {u : Upd} {e : Ending} {t : List Int} {p : Bool} (h : GotPut w s u e w') (ht : statePut s u = t) (hp : putOk s u = p) : ∃ A c, e = .returned (.tuple #[.slice A t.length c, .bool p]) ∧ t.length ≤ c ∧ c ≤ maxLen ∧ Hid (IntsR w' A t) ∧ Hid (Ext w w') := by
  subst ht hp
  obtain ⟨A, c, rfl, h1, h2, h3, h4⟩ := h
  exact ⟨A, c, rfl, h1, h2, CellsR.of_own h3, h4⟩
theorem putOk_parts {s : List Int} {u : Upd} (h : putOk s u = true) : stateOk s = true ∧ updOk u = true := by simpa [putOk] using h
theorem statePut_len (s : List Int) (u : Upd) : (statePut s u).length ≤ 5 := by
  unfold statePut
  split
  · rename_i h; rw [putAt_len, stateOk_len (putOk_parts h).1]; omega
  · simp
theorem putAt_putAt (s : List Int) (x y z : Int) : putAt (putAt s (x, y)) (x, z) = putAt s (x, z) := by simp [putAt]
theorem putAt_swap (s : List Int) (x y x' y' : Int) (h : 0 ≤ x) (h' : 0 ≤ x') (hne : x ≠ x') : putAt (putAt s (x, y)) (x', y') = putAt (putAt s (x', y')) (x, y) := by
  simp only [putAt]
  exact List.set_comm _ _ (by omega)

set_option maxHeartbeats 1600000 in
theorem fnPutTwice.walk (a0 : Option Addr) (n0 c0 : Nat) (w : World) (w0 : CodeR w a0 n0 c0) :
    Calls Try.prog 11 #[.slice a0 n0 c0] w fun e w' => e = .returned (.bool true) ∧ Below w.heap.size w w' := by
  have hm := len64c w0
  by_cases hn : 1048576 < n0
  · go_enter Try.func11, Try.ntmps11
    go_wp2
    go_ret
    exact ⟨rfl, ext_refl _⟩
  · go_enter Try.func11, Try.ntmps11
    go_wp2_with fail
    refine (drawStatePut_any w0).mono ?_
    rintro e w1 ⟨A, c, s, x, y, rfl, hl, hlc, hcm, hx0, hx1, hy0, hy1, hI, hE1⟩
    obtain ⟨t, ht⟩ : ∃ t, statePut s (x, y) = t := ⟨_, rfl⟩
    obtain ⟨p, hp⟩ : ∃ p, putOk s (x, y) = p := ⟨_, rfl⟩
    have ht5 : t.length ≤ 5 := by rw [← ht]; exact statePut_len _ _
    replace ht := hide ht
    replace hp := hide hp
    have hU := hide (Blk.new w1 31 #[.int .i64 x, .int .i64 y])
    have hs1 := hE1.size
    replace hI := hide (hI.ext (ext_alloc (ext_refl w1) (.cells #[.int .i64 x, .int .i64 y] 31)))
    replace hE1 := hide (ext_alloc hE1 (.cells #[.int .i64 x, .int .i64 y] 31))
    go_wp2_with fail
    refine (implStatePut_any c x y hI.out (by omega)).mono ?_
    intro e w2 hG
    obtain ⟨A2, c2, rfl, -, -, hI2, hE2⟩ := hG.use ht.out hp.out
    clear hG
    replace hI := hide (hI.out.ext hE2.out)
    replace hU := hide (hU.out.ext hE2.out)
    replace hE2 := hide (ext_trans hE1.out hE2.out)
    have cu0 : w2.cell? ⟨w1.heap.size, 0, none⟩ = some (.int .i64 x) := by simpa using hU.out.cell 0
    have cu1 : w2.cell? ⟨w1.heap.size, 1, none⟩ = some (.int .i64 y) := by simpa using hU.out.cell 1
    go_wp2_with fail
    refine (specStatePut_any c x y hI.out (by omega)).mono ?_
    intro e w3 hG
    obtain ⟨A3, c3, rfl, -, -, hI3, hE3⟩ := hG.use ht.out hp.out
    clear hG
    replace hI := hide (hI.out.ext hE3.out)
    replace hI2 := hide (hI2.out.ext hE3.out)
    replace hU := hide (hU.out.ext hE3.out)
    replace hE3 := hide (ext_trans hE2.out hE3.out)
    clear cu0 cu1
    have cu0 : w3.cell? ⟨w1.heap.size, 0, none⟩ = some (.int .i64 x) := by simpa using hU.out.cell 0
    have cu1 : w3.cell? ⟨w1.heap.size, 1, none⟩ = some (.int .i64 y) := by simpa using hU.out.cell 1
    have ep : (p != p) = false := by simp
    have ep' : (p == p) = true := by simp
    go_wp2_with fail
    refine (sameInts_any c2 c3 hI2.out hI3.out (by omega) (by omega)).mono ?_
    rintro e w4 ⟨rfl, hE4⟩
    replace hI := hide (hI.out.ext hE4)
    replace hI2 := hide (hI2.out.ext hE4)
    replace hI3 := hide (hI3.out.ext hE4)
    replace hU := hide (hU.out.ext hE4)
    replace hE4 := hide (ext_trans hE3.out hE4)
    clear cu0 cu1
    have cu0 : w4.cell? ⟨w1.heap.size, 0, none⟩ = some (.int .i64 x) := by simpa using hU.out.cell 0
    have cu1 : w4.cell? ⟨w1.heap.size, 1, none⟩ = some (.int .i64 y) := by simpa using hU.out.cell 1
    cases p with
    | false =>
      go_wp2_with fail
      refine (sameInts_any c2 c3 hI2.out hI3.out (by omega) (by omega)).mono ?_
      rintro e w5 ⟨rfl, hE5⟩
      replace hE5 := hide (ext_trans hE4.out hE5)
      go_wp2_with fail
      go_ret
      exact ⟨by simp, hE5.out⟩
    | true =>
      obtain ⟨hso, huo⟩ := putOk_parts hp.out
      have htp : t = putAt s (x, y) := by rw [← ht.out, statePut_yes hp.out]
      have hto : stateOk t = true := by rw [htp]; exact stateOk_put hso huo
      have hk : 0 ≤ x ∧ x ≤ 4 := by simp [updOk] at huo; omega
      have q1 := putOk_yes hto huo
      have q1' := hide (show statePut t (x, y) = t by rw [statePut_yes q1, htp, putAt_putAt])
      have hu0 : updOk (x, 0) = true := by simp [updOk]; omega
      have q2 := putOk_yes hso hu0
      obtain ⟨v, hv⟩ : ∃ v, statePut s (x, 0) = v := ⟨_, rfl⟩
      have hv5 : v.length ≤ 5 := by rw [← hv]; exact statePut_len _ _
      have hvp : v = putAt s (x, 0) := by rw [← hv, statePut_yes q2]
      have hvo : stateOk v = true := by rw [hvp]; exact stateOk_put hso hu0
      have q3 := putOk_yes hvo huo
      have q3' := hide (show statePut v (x, y) = t by rw [statePut_yes q3, hvp, putAt_putAt, htp])
      replace hvp := hide hvp
      replace htp := hide htp
      replace hv := hide hv
      go_wp2_with fail
      refine (implStatePut_any c2 x y hI2.out (by omega)).mono ?_
      intro e w5 hG
      obtain ⟨A5, c5, rfl, -, -, hI5, hE5⟩ := hG.use q1'.out q1
      clear hG
      replace hI := hide (hI.out.ext hE5.out)
      replace hI2 := hide (hI2.out.ext hE5.out)
      replace hU := hide (hU.out.ext hE5.out)
      replace hE5 := hide (ext_trans hE4.out hE5.out)
      clear cu0 cu1
      have cu0 : w5.cell? ⟨w1.heap.size, 0, none⟩ = some (.int .i64 x) := by simpa using hU.out.cell 0
      have cu1 : w5.cell? ⟨w1.heap.size, 1, none⟩ = some (.int .i64 y) := by simpa using hU.out.cell 1
      go_wp2_with fail
      refine (implStatePut_any c x 0 hI.out (by omega)).mono ?_
      intro e w6 hG
      obtain ⟨A6, c6, rfl, -, -, hI6, hE6⟩ := hG.use hv.out q2
      clear hG
      replace hI2 := hide (hI2.out.ext hE6.out)
      replace hI5 := hide (hI5.out.ext hE6.out)
      replace hU := hide (hU.out.ext hE6.out)
      replace hE6 := hide (ext_trans hE5.out hE6.out)
      clear cu0 cu1
      have cu0 : w6.cell? ⟨w1.heap.size, 0, none⟩ = some (.int .i64 x) := by simpa using hU.out.cell 0
      have cu1 : w6.cell? ⟨w1.heap.size, 1, none⟩ = some (.int .i64 y) := by simpa using hU.out.cell 1
      go_wp2_with fail
      refine (implStatePut_any c6 x y hI6.out (by omega)).mono ?_
      intro e w7 hG
      obtain ⟨A7, c7, rfl, -, -, hI7, hE7⟩ := hG.use q3'.out q3
      clear hG
      replace hI2 := hide (hI2.out.ext hE7.out)
      replace hI5 := hide (hI5.out.ext hE7.out)
      replace hE7 := hide (ext_trans hE6.out hE7.out)
      go_wp2_with fail
      refine (sameInts_any c5 c2 hI5.out hI2.out (by omega) (by omega)).mono ?_
      rintro e w8 ⟨rfl, hE8⟩
      replace hI2 := hide (hI2.out.ext hE8)
      replace hI7 := hide (hI7.out.ext hE8)
      replace hE8 := hide (ext_trans hE7.out hE8)
      go_wp2_with fail
      refine (sameInts_any c7 c2 hI7.out hI2.out (by omega) (by omega)).mono ?_
      rintro e w9 ⟨rfl, hE9⟩
      replace hE9 := hide (ext_trans hE8.out hE9)
      go_wp2_with fail
      go_ret
      exact ⟨by simp, hE9.out⟩

set_option maxHeartbeats 1600000 in
theorem fnPutSwap.walk (a0 : Option Addr) (n0 c0 : Nat) (w : World) (w0 : CodeR w a0 n0 c0) :
    Calls Try.prog 10 #[.slice a0 n0 c0] w fun e w' => e = .returned (.bool true) ∧ Below w.heap.size w w' := by
  have hm := len64c w0
  by_cases hn : 1048576 < n0
  · go_enter Try.func10, Try.ntmps10
    go_wp2
    go_ret
    exact ⟨rfl, ext_refl _⟩
  · go_enter Try.func10, Try.ntmps10
    go_wp2_with fail
    refine (drawStatePut_any w0).mono ?_
    rintro e w1 ⟨A, c, s, x, y, rfl, hl, hlc, hcm, hx0, hx1, hy0, hy1, hI, hE1⟩
    obtain ⟨t, ht⟩ : ∃ t, statePut s (x, y) = t := ⟨_, rfl⟩
    obtain ⟨p, hp⟩ : ∃ p, putOk s (x, y) = p := ⟨_, rfl⟩
    have ht5 : t.length ≤ 5 := by rw [← ht]; exact statePut_len _ _
    replace ht := hide ht
    replace hp := hide hp
    have hU := hide (Blk.new w1 31 #[.int .i64 x, .int .i64 y])
    have hs1 := hE1.size
    replace hI := hide (hI.ext (ext_alloc (ext_refl w1) (.cells #[.int .i64 x, .int .i64 y] 31)))
    replace hE1 := hide (ext_alloc hE1 (.cells #[.int .i64 x, .int .i64 y] 31))
    go_wp2_with fail
    refine (implStatePut_any c x y hI.out (by omega)).mono ?_
    intro e w2 hG
    obtain ⟨A2, c2, rfl, -, -, hI2, hE2⟩ := hG.use ht.out hp.out
    clear hG
    replace hI := hide (hI.out.ext hE2.out)
    replace hU := hide (hU.out.ext hE2.out)
    replace hE2 := hide (ext_trans hE1.out hE2.out)
    have cu0 : w2.cell? ⟨w1.heap.size, 0, none⟩ = some (.int .i64 x) := by simpa using hU.out.cell 0
    have cu1 : w2.cell? ⟨w1.heap.size, 1, none⟩ = some (.int .i64 y) := by simpa using hU.out.cell 1
    go_wp2_with fail
    refine (specStatePut_any c x y hI.out (by omega)).mono ?_
    intro e w3 hG
    obtain ⟨A3, c3, rfl, -, -, hI3, hE3⟩ := hG.use ht.out hp.out
    clear hG
    replace hI := hide (hI.out.ext hE3.out)
    replace hI2 := hide (hI2.out.ext hE3.out)
    replace hU := hide (hU.out.ext hE3.out)
    replace hE3 := hide (ext_trans hE2.out hE3.out)
    clear cu0 cu1
    have ep : (p != p) = false := by simp
    have ep' : (p == p) = true := by simp
    go_wp2_with fail
    refine (sameInts_any c2 c3 hI2.out hI3.out (by omega) (by omega)).mono ?_
    rintro e w4 ⟨rfl, hE4⟩
    replace hI := hide (hI.out.ext hE4)
    replace hI2 := hide (hI2.out.ext hE4)
    replace hI3 := hide (hI3.out.ext hE4)
    replace hU := hide (hU.out.ext hE4)
    replace hE4 := hide (ext_trans hE3.out hE4)
    have cu0 : w4.cell? ⟨w1.heap.size, 0, none⟩ = some (.int .i64 x) := by simpa using hU.out.cell 0
    have cu1 : w4.cell? ⟨w1.heap.size, 1, none⟩ = some (.int .i64 y) := by simpa using hU.out.cell 1
    cases p with
    | false =>
      go_wp2_with fail
      refine (sameInts_any c2 c3 hI2.out hI3.out (by omega) (by omega)).mono ?_
      rintro e w5 ⟨rfl, hE5⟩
      replace hE5 := hide (ext_trans hE4.out hE5)
      go_wp2_with fail
      go_ret
      exact ⟨by simp, hE5.out⟩
    | true =>
      obtain ⟨hso, huo⟩ := putOk_parts hp.out
      have htp : t = putAt s (x, y) := by rw [← ht.out, statePut_yes hp.out]
      have hto : stateOk t = true := by rw [htp]; exact stateOk_put hso huo
      have hk : 0 ≤ x ∧ x ≤ 4 := by simp [updOk] at huo; omega
      obtain ⟨xn, rfl⟩ := Int.eq_ofNat_of_zero_le hk.1
      obtain ⟨z, hz⟩ : ∃ z : Nat, (xn + 1) % 5 = z := ⟨_, rfl⟩
      have ez : ((xn : Int) + 1) % 5 = (z : Int) := by omega
      have hz5 : z < 5 := by omega
      have hzx : (xn : Int) ≠ (z : Int) := by omega
      clear hz
      have hu7 : updOk ((z : Int), 7) = true := by simp [updOk]; omega
      have q1 := putOk_yes hto hu7
      obtain ⟨r, hr⟩ : ∃ r, statePut t ((z : Int), 7) = r := ⟨_, rfl⟩
      have hr5 : r.length ≤ 5 := by rw [← hr]; exact statePut_len _ _
      have q2 := putOk_yes hso hu7
      obtain ⟨v, hv⟩ : ∃ v, statePut s ((z : Int), 7) = v := ⟨_, rfl⟩
      have hv5 : v.length ≤ 5 := by rw [← hv]; exact statePut_len _ _
      have hvp : v = putAt s ((z : Int), 7) := by rw [← hv, statePut_yes q2]
      have hvo : stateOk v = true := by rw [hvp]; exact stateOk_put hso hu7
      have q3 := putOk_yes hvo huo
      have q3' := hide (show statePut v ((xn : Int), y) = r by rw [statePut_yes q3, hvp, ← hr, statePut_yes q1, htp, putAt_swap _ _ _ _ _ (by omega) (by omega) hzx])
      replace hvp := hide hvp
      replace htp := hide htp
      replace hv := hide hv
      replace hr := hide hr
      replace hU := hide (hU.out.ext (ext_alloc (ext_refl w4) (.cells #[.int .i64 z, .int .i64 7] 31)))
      have hV := hide (Blk.new w4 31 #[.int .i64 z, .int .i64 7])
      replace hI := hide (hI.out.ext (ext_alloc (ext_refl w4) (.cells #[.int .i64 z, .int .i64 7] 31)))
      replace hI2 := hide (hI2.out.ext (ext_alloc (ext_refl w4) (.cells #[.int .i64 z, .int .i64 7] 31)))
      replace hE4 := hide (ext_alloc hE4.out (.cells #[.int .i64 z, .int .i64 7] 31))
      go_wp2_with fail
      refine (implStatePut_any c2 z 7 hI2.out (by omega)).mono ?_
      intro e w5 hG
      obtain ⟨A5, c5, rfl, -, -, hI5, hE5⟩ := hG.use hr.out q1
      clear hG
      replace hI := hide (hI.out.ext hE5.out)
      replace hU := hide (hU.out.ext hE5.out)
      replace hV := hide (hV.out.ext hE5.out)
      replace hE5 := hide (ext_trans hE4.out hE5.out)
      clear cu0 cu1
      have cv0 : w5.cell? ⟨w4.heap.size, 0, none⟩ = some (.int .i64 z) := by simpa using hV.out.cell 0
      have cv1 : w5.cell? ⟨w4.heap.size, 1, none⟩ = some (.int .i64 7) := by simpa using hV.out.cell 1
      go_wp2_with fail
      refine (implStatePut_any c z 7 hI.out (by omega)).mono ?_
      intro e w6 hG
      obtain ⟨A6, c6, rfl, -, -, hI6, hE6⟩ := hG.use hv.out q2
      clear hG
      replace hI5 := hide (hI5.out.ext hE6.out)
      replace hU := hide (hU.out.ext hE6.out)
      replace hE6 := hide (ext_trans hE5.out hE6.out)
      clear cv0 cv1
      have cu0 : w6.cell? ⟨w1.heap.size, 0, none⟩ = some (.int .i64 xn) := by simpa using hU.out.cell 0
      have cu1 : w6.cell? ⟨w1.heap.size, 1, none⟩ = some (.int .i64 y) := by simpa using hU.out.cell 1
      go_wp2_with fail
      refine (implStatePut_any c6 xn y hI6.out (by omega)).mono ?_
      intro e w7 hG
      obtain ⟨A7, c7, rfl, -, -, hI7, hE7⟩ := hG.use q3'.out q3
      clear hG
      replace hI5 := hide (hI5.out.ext hE7.out)
      replace hE7 := hide (ext_trans hE6.out hE7.out)
      go_wp2_with fail
      refine (sameInts_any c5 c7 hI5.out hI7.out (by omega) (by omega)).mono ?_
      rintro e w8 ⟨rfl, hE8⟩
      replace hE8 := hide (ext_trans hE7.out hE8)
      go_wp2_with fail
      go_ret
      exact ⟨by simp, hE8.out⟩
end Go.Proofs.Ytfkongkokegjjaa
