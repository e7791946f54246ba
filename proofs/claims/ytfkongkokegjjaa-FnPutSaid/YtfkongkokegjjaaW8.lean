/-
  The walk of the law FnPut: it returns true for every input, and leaves its arguments as they were.
-/
import Derived.Test.YtfkongkokegjjaaW7
set_option linter.all false
namespace Go.Proofs.Ytfkongkokegjjaa
open Go.RowKit

set_option maxHeartbeats 1600000 in
theorem fnPut.walk (a0 : Option Addr) (n0 c0 : Nat) (w : World) (w0 : CodeR w a0 n0 c0) :
    Calls Try.prog 9 #[.slice a0 n0 c0] w fun e w' => e = .returned (.bool true) ∧ Below w.heap.size w w' := by
  have hm := len64c w0
  by_cases hn : 1048576 < n0
  · go_enter Try.func9, Try.ntmps9
    go_wp2
    go_ret
    exact ⟨rfl, ext_refl _⟩
  · go_enter Try.func9, Try.ntmps9
    go_wp2_with fail
    refine (drawStatePut_any w0).mono ?_
    rintro e w1 ⟨A, c, s, x, y, rfl, hl, hlc, hcm, hx0, hx1, hy0, hy1, hI, hE1⟩
    obtain ⟨t, ht⟩ : ∃ t, statePut s (x, y) = t := ⟨_, rfl⟩
    obtain ⟨p, hp⟩ : ∃ p, putOk s (x, y) = p := ⟨_, rfl⟩
    have ht5 : t.length ≤ 5 := by rw [← ht]; exact statePut_len _ _
    replace ht := hide ht
    replace hp := hide hp
    have hU := hide (Blk.new w1 31 #[.int .i64 x, .int .i64 y])
    have hs1 := hE1.size
    replace hI := hide (hI.ext (ext_alloc (ext_refl w1) (.cells #[.int .i64 x, .int .i64 y] 31)))
    replace hE1 := hide (ext_alloc hE1 (.cells #[.int .i64 x, .int .i64 y] 31))
    go_wp2_with fail
    refine (implStatePut_any c x y hI.out (by omega)).mono ?_
    intro e w2 hG
    obtain ⟨A2, c2, rfl, -, -, hI2, hE2⟩ := hG.use ht.out hp.out
    clear hG
    replace hI := hide (hI.out.ext hE2.out)
    replace hU := hide (hU.out.ext hE2.out)
    replace hE2 := hide (ext_trans hE1.out hE2.out)
    have cu0 : w2.cell? ⟨w1.heap.size, 0, none⟩ = some (.int .i64 x) := by simpa using hU.out.cell 0
    have cu1 : w2.cell? ⟨w1.heap.size, 1, none⟩ = some (.int .i64 y) := by simpa using hU.out.cell 1
    go_wp2_with fail
    refine (specStatePut_any c x y hI.out (by omega)).mono ?_
    intro e w3 hG
    obtain ⟨A3, c3, rfl, -, -, hI3, hE3⟩ := hG.use ht.out hp.out
    clear hG
    replace hI := hide (hI.out.ext hE3.out)
    replace hI2 := hide (hI2.out.ext hE3.out)
    replace hU := hide (hU.out.ext hE3.out)
    replace hE3 := hide (ext_trans hE2.out hE3.out)
    clear cu0 cu1
    have ep : (p != p) = false := by simp
    have ep' : (p == p) = true := by simp
    go_wp2_with fail
    refine (sameInts_any c2 c3 hI2.out hI3.out (by omega) (by omega)).mono ?_
    rintro e w4 ⟨rfl, hE4⟩
    replace hI := hide (hI.out.ext hE4)
    replace hI2 := hide (hI2.out.ext hE4)
    replace hI3 := hide (hI3.out.ext hE4)
    replace hU := hide (hU.out.ext hE4)
    replace hE4 := hide (ext_trans hE3.out hE4)
    cases p with
    | false =>
      go_wp2_with fail
      refine (sameInts_any c2 c3 hI2.out hI3.out (by omega) (by omega)).mono ?_
      rintro e w5 ⟨rfl, hE5⟩
      replace hE5 := hide (ext_trans hE4.out hE5)
      go_wp2_with fail
      go_ret
      exact ⟨by simp, hE5.out⟩
    | true =>
      obtain ⟨hso, huo⟩ := putOk_parts hp.out
      have htp : t = putAt s (x, y) := by rw [← ht.out, statePut_yes hp.out]
      have hto : stateOk t = true := by rw [htp]; exact stateOk_put hso huo
      have hk : 0 ≤ x ∧ x ≤ 4 := by simp [updOk] at huo; omega
      obtain ⟨xn, rfl⟩ := Int.eq_ofNat_of_zero_le hk.1
      have h5 := hide (stateOk_len hso)
      have ht5' := hide (stateOk_len hto)
      have hxt : t[xn]? = some y := by
        rw [htp]; simp only [putAt, Int.toNat_natCast]
        rw [List.getElem?_set_self (by have := h5.out; omega)]
      have hoth := hide (show ∀ k, k ≠ xn → t[k]? = s[k]? by
        intro k hkx
        rw [htp]; simp only [putAt, Int.toNat_natCast]
        rw [List.getElem?_set_ne (by omega)])
      replace htp := hide htp
      go_wp2_with fail
      go_loopw [9] (fun i wr => ∃ k : Nat, k ≤ s.length ∧ i = .int .i64 k ∧ Hid (Ext w4 wr)) (fun i _ => s.length - (intOf i).toNat)
      case atStart => exact ⟨0, Nat.zero_le _, rfl, hide (ext_refl _)⟩
      case round =>
        obtain ⟨k, hk', rfl, hE⟩ := hrel
        have cu0 : wr.cell? ⟨w1.heap.size, 0, none⟩ = some (.int .i64 xn) := by simpa using (hU.out.ext hE.out).cell 0
        have cu1 : wr.cell? ⟨w1.heap.size, 1, none⟩ = some (.int .i64 y) := by simpa using (hU.out.ext hE.out).cell 1
        by_cases hlt : k < s.length
        · by_cases hkx : k = xn
          · subst hkx
            have hb1 : ((k : Int) != (k : Int)) = false := by simp
            go_wp2_with fail
            go_quiet (fail)
            go_wp2
            go_roundw
            case rel => exact ⟨k + 1, by omega, by go_num, hide (by first | exact hE.out | exact ext_drewN hE.out _ | exact ext_drew hE.out)⟩
            case measure => simp [intOf]; omega
          · have hb1 : ((k : Int) != (xn : Int)) = true := by simp; omega
            have hlt2 : k < t.length := by have := h5.out; have := ht5'.out; omega
            obtain ⟨b, o, z, hAA, hb, hz, hc0⟩ := int_at (hI.out.ext hE.out) hlt
            obtain ⟨b2, o2, z2, hAA2, hb2, hz2, hc2⟩ := int_at (hI2.out.ext hE.out) hlt2
            have hzz : z2 = z := by
              have := hoth.out k hkx
              rw [List.getElem?_eq_getElem hlt2, List.getElem?_eq_getElem hlt, hz2, hz] at this
              injection this
            subst hzz
            subst hAA hAA2
            replace hz := hide hz
            replace hz2 := hide hz2
            go_wp2_with fail
            go_quiet (fail)
            go_wp2
            go_roundw
            case rel => exact ⟨k + 1, by omega, by go_num, hide (by first | exact hE.out | exact ext_drewN hE.out _ | exact ext_drew hE.out)⟩
            case measure => simp [intOf]; omega
        · have hlt2 : xn < t.length := by have := ht5'.out; omega
          obtain ⟨b2, o2, z2, hAA2, hb2, hz2, hc2⟩ := int_at (hI2.out.ext hE.out) hlt2
          have hzz : z2 = y := by
            rw [List.getElem?_eq_getElem hlt2, hz2] at hxt
            injection hxt
          subst hzz
          subst hAA2
          replace hz2 := hide hz2
          replace hxt := hide hxt
          have hIr := hide (fun n => (hI2.out.ext hE.out).ext (ext_drewN (ext_refl wr) n))
          go_wp2_with fail
          go_region_with (go_at_call 39; refine (implStateValid_any c2 (hIr.out _) (by omega)).mono ?_; rintro e w5 ⟨rfl, hF⟩; have d0 := ext_cell hF cu0; have d1 := ext_cell hF cu1; have d2 := ext_cell hF hc2; replace hF := hide hF; rw [hto])
          all_goals go_wp2_with fail
          all_goals go_ret
          all_goals exact ⟨rfl, by first | exact ext_trans hE4.out (ext_trans (ext_drewN hE.out _) hF.out) | exact ext_drewN (ext_trans hE4.out (ext_trans (ext_drewN hE.out _) hF.out)) _⟩
end Go.Proofs.Ytfkongkokegjjaa
