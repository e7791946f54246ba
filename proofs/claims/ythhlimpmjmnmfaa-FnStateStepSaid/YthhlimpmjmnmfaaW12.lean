/-
  The walk of the law FnStateStep: it returns true for every input, and leaves its arguments as they were.
-/
import Derived.Test.YthhlimpmjmnmfaaW5
set_option linter.all false
namespace Go.Proofs.Ythhlimpmjmnmfaa
open Go.RowKit

theorem GotPut.use' {w w' : World} {s : List Int} {u : Upd} {e : Ending} {t : List Int} {p : Bool} (h : GotPut w s u e w') (ht : statePut s u = t) (hp : putOk s u = p) : ∃ A c, e = .returned (.tuple #[.slice A t.length c, .bool p]) ∧ t.length ≤ c ∧ c ≤ maxLen ∧ Hid (IntsR w' A t) ∧ Hid (Ext w w') := by
  subst ht hp
  obtain ⟨A, c, rfl, h1, h2, h3, h4⟩ := h
  exact ⟨A, c, rfl, h1, h2, CellsR.of_own h3, h4⟩
set_option maxHeartbeats 800000 in
theorem fnStateStep.walk (a0 : Option Addr) (n0 c0 : Nat) (w : World) (w0 : CodeR w a0 n0 c0) :
    Calls Try.prog 12 #[.slice a0 n0 c0] w fun e w' => e = .returned (.bool true) ∧ Below w.heap.size w w' := by
  have hm := len64c w0
  by_cases hn : 1048576 < n0
  · go_enter Try.func12, Try.ntmps12
    go_wp2
    go_ret
    exact ⟨rfl, ext_refl _⟩
  · go_enter Try.func12, Try.ntmps12
    go_wp2_with fail
    refine (drawStateAt_any w0).mono ?_
    rintro e w1 ⟨A, c, l, k, rfl, hl, hlc, hcm, hk0, hk1, hA, hE1⟩
    replace hA := hide hA
    replace hE1 := hide hE1
    obtain ⟨s, hs⟩ : ∃ s, stateAt l k = s := ⟨_, rfl⟩
    have hs5 : s.length ≤ 5 := by rw [← hs]; exact stateAt_len l k
    replace hs := hide hs
    go_wp2_with fail
    refine (implStateAt_s c k hA.out rfl (by omega) hlc hs.out).mono ?_
    intro e w2 hG
    obtain ⟨A2, c2, rfl, -, -, hI2, hE2⟩ := hG.use
    clear hG
    replace hA := hide (hA.out.ext hE2.out)
    replace hE2 := hide (ext_trans hE1.out hE2.out)
    go_wp2_with fail
    refine (specStateAt_s c k hA.out (by omega) hs.out).mono ?_
    intro e w3 hG
    obtain ⟨A3, c3, rfl, -, -, hI3, hE3⟩ := hG.use
    clear hG
    replace hA := hide (hA.out.ext hE3.out)
    replace hI2 := hide (hI2.out.ext hE3.out)
    replace hE3 := hide (ext_trans hE2.out hE3.out)
    go_wp2_with fail
    refine (sameInts_any c2 c3 hI2.out hI3.out (by omega) (by omega)).mono ?_
    rintro e w4 ⟨rfl, hE4⟩
    replace hA := hide (hA.out.ext hE4)
    replace hI2 := hide (hI2.out.ext hE4)
    replace hI3 := hide (hI3.out.ext hE4)
    replace hE4 := hide (ext_trans hE3.out hE4)
    by_cases hz : s.length = 0
    · have hz' : ((s.length : Int) == 0) = true := by rw [beq_iff_eq]; omega
      replace hz := hide hz
      go_wp2_with fail
      refine (sameInts_any c2 c3 hI2.out hI3.out (by omega) (by omega)).mono ?_
      rintro e w5 ⟨rfl, hE5⟩
      replace hE5 := hide (ext_trans hE4.out hE5)
      go_wp2_with fail
      go_ret
      exact ⟨by simp, hE5.out⟩
    · have hz' : ((s.length : Int) == 0) = false := by rw [beq_eq_false_iff_ne]; omega
      obtain ⟨hok, h0, h1, hsb⟩ := stateAt_yes hs.out hz
      obtain ⟨kn, rfl⟩ := Int.eq_ofNat_of_zero_le h0
      by_cases hkl : kn = l.length
      · have hk' : ((kn : Int) == (l.length : Int)) = true := by rw [beq_iff_eq]; omega
        replace hkl := hide hkl
        replace hsb := hide hsb
        go_wp2_with fail
        refine (sameInts_any c2 c3 hI2.out hI3.out (by omega) (by omega)).mono ?_
        rintro e w5 ⟨rfl, hE5⟩
        replace hE5 := hide (ext_trans hE4.out hE5)
        go_wp2_with fail
        go_ret
        exact ⟨by simp, hE5.out⟩
      · have hk' : ((kn : Int) == (l.length : Int)) = false := by rw [beq_eq_false_iff_ne]; omega
        have hlt : kn < l.length := by omega
        obtain ⟨b, o, x, y, hAA, hb, hxy, hc0, hc1⟩ := log_at hA.out hlt
        subst hAA
        have hu : updOk (x, y) = true := by rw [← hxy]; exact logOk_at hok hlt
        have hso : stateOk s = true := by rw [hsb]; exact stateOk_behind (logOk_take hok _)
        have hp := putOk_yes hso hu
        have hs2 : stateAt l ((kn : Int) + 1) = putAt s (x, y) := by
          unfold stateAt
          rw [if_pos (by simp [hok]; omega), hsb]
          exact stBehind_succ hlt hxy
        obtain ⟨t, ht⟩ : ∃ t, putAt s (x, y) = t := ⟨_, rfl⟩
        have ht5 : t.length ≤ 5 := by rw [← ht, putAt_len]; exact hs5
        rw [ht] at hs2
        have hst := hide (show statePut s (x, y) = t by rw [statePut_yes hp, ht])
        replace hs2 := hide hs2
        replace hsb := hide hsb
        replace ht := hide ht
        replace hxy := hide hxy
        go_wp2_with fail
        refine (implStatePut_any c2 x y hI2.out (by omega)).mono ?_
        intro e w5 hG
        obtain ⟨A5, c5, rfl, -, -, hI5, hE5⟩ := hG.use' hst.out hp
        clear hG
        replace hA := hide (hA.out.ext hE5.out)
        replace hE5 := hide (ext_trans hE4.out hE5.out)
        go_wp2_with fail
        refine (implStateAt_s c _ hA.out rfl (by omega) hlc hs2.out).mono ?_
        intro e w6 hG
        obtain ⟨A6, c6, rfl, -, -, hI6, hE6⟩ := hG.use
        clear hG
        replace hI5 := hide (hI5.out.ext hE6.out)
        replace hE6 := hide (ext_trans hE5.out hE6.out)
        go_wp2_with fail
        refine (sameInts_any c5 c6 hI5.out hI6.out (by omega) (by omega)).mono ?_
        rintro e w7 ⟨rfl, hE7⟩
        replace hE7 := hide (ext_trans hE6.out hE7)
        go_wp2_with fail
        go_ret
        exact ⟨by simp, hE7.out⟩
end Go.Proofs.Ythhlimpmjmnmfaa
