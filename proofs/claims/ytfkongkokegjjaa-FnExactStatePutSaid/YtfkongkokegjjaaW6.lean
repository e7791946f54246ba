/-
  The walks of the laws FnKey, FnState: each returns true for every input, and leaves its arguments as they were.
-/
import Derived.Test.YtfkongkokegjjaaW5
set_option linter.all false
namespace Go.Proofs.Ytfkongkokegjjaa
open Go.RowKit

/-! ### Plain laws of the numbers of a key -/
theorem keysFrom_next {l : List Upd} {k : Nat} {x y key : Int} (hk : k < l.length) (hxy : l[k] = (x, y)) (h : x = key) {n : Nat} (hn : (keysFrom key 0 (l.take k)).length = n) : (keysFrom key 0 l)[n]? = some ((k : Int) + 1) ∧ n < (keysFrom key 0 l).length := by
  have e : keysFrom key 0 l = keysFrom key 0 (l.take k) ++ keysFrom key k (l.drop k) := by
    conv => lhs; rw [← List.take_append_drop k l]
    rw [keysFrom_append, List.length_take, Nat.zero_add, Nat.min_eq_left (by omega)]
  have e2 : keysFrom key k (l.drop k) = ((k : Int) + 1) :: keysFrom key (k + 1) (l.drop (k + 1)) := by
    rw [List.drop_eq_getElem_cons hk, hxy]
    simp [keysFrom, h]
  rw [e, e2]
  subst hn
  constructor
  · rw [List.getElem?_append_right (Nat.le_refl _)]; simp
  · simp
/-- The last number of a key tells its value. -/
theorem behind_last {l : List Upd} (hv : logOk l = true) (key : Nat) (hk : key < 5) : ∀ n, n ≤ l.length →
    (keysFrom key 0 (l.take n) = [] → (stBehind (l.take n))[key]? = some (-1)) ∧
    (∀ p, (keysFrom key 0 (l.take n)).getLast? = some p → ∃ (j : Nat) (y : Int), p = (j : Int) + 1 ∧ j < l.length ∧ l[j]? = some ((key : Int), y) ∧ (stBehind (l.take n))[key]? = some y)
  | 0, _ => by
    refine ⟨fun _ => ?_, fun p hp => by simp [keysFrom] at hp⟩
    have : key = 0 ∨ key = 1 ∨ key = 2 ∨ key = 3 ∨ key = 4 := by omega
    rcases this with rfl | rfl | rfl | rfl | rfl <;> simp [stBehind]
  | n + 1, hn => by
    have hlt : n < l.length := by omega
    obtain ⟨h1, h2⟩ := behind_last hv key hk n (by omega)
    have hok := logOk_at hv hlt
    rcases hxy : l[n] with ⟨x, y⟩
    rw [hxy] at hok
    simp [updOk] at hok
    rw [stBehind_succ hlt hxy]
    by_cases hx : x = key
    · rw [keysFrom_hit hlt hxy hx]
      refine ⟨fun h => by simp at h, fun p hp => ?_⟩
      rw [List.getLast?_concat] at hp
      injection hp with hp
      refine ⟨n, y, hp.symm, hlt, by rw [List.getElem?_eq_getElem hlt, hxy, hx], ?_⟩
      subst hx
      simp only [putAt, Int.toNat_natCast]
      rw [List.getElem?_set_self (by rw [stBehind_len]; omega)]
    · rw [keysFrom_miss hlt hxy hx]
      have e : (putAt (stBehind (l.take n)) (x, y))[key]? = (stBehind (l.take n))[key]? := by
        simp only [putAt]
        rw [List.getElem?_set_ne (by omega)]
      rw [e]
      exact ⟨h1, h2⟩
theorem logKey_yes {l : List Upd} {key : Int} (hv : logOk l = true) : logKey l key = keysFrom key 0 l := by unfold logKey; rw [if_pos hv]
theorem logKey_len (l : List Upd) (key : Int) : (logKey l key).length ≤ l.length := by
  unfold logKey
  split
  · exact keysFrom_len key 0 l
  · simp

theorem implLogKey_s {A : Option Addr} {l : List Upd} {s : List Int} (c : Nat) (key : Int) {w : World} (h : LogR w A l) (hm : l.length ≤ 1048576) (hs : logKey l key = s) :
    Calls Try.prog 16 #[.slice A l.length c, .int .i64 key] w (GotRowI w s) := by subst hs; exact implLogKey_any c key h hm
theorem specLogKey_s {A : Option Addr} {l : List Upd} {s : List Int} (c : Nat) (key : Int) {w : World} (h : LogR w A l) (hm : l.length ≤ 1048576) (hs : logKey l key = s) :
    Calls Try.prog 17 #[.slice A l.length c, .int .i64 key] w (GotRowI w s) := by subst hs; exact specLogKey_any c key h hm

set_option maxHeartbeats 800000 in
theorem fnKey.walk (a0 : Option Addr) (n0 c0 : Nat) (w : World) (w0 : CodeR w a0 n0 c0) :
    Calls Try.prog 3 #[.slice a0 n0 c0] w fun e w' => e = .returned (.bool true) ∧ Below w.heap.size w w' := by
  have hm := len64c w0
  by_cases hn : 1048576 < n0
  · go_enter Try.func3, Try.ntmps3
    go_wp2
    go_ret
    exact ⟨rfl, ext_refl _⟩
  · go_enter Try.func3, Try.ntmps3
    go_wp2_with fail
    refine (drawLogKey_any w0).mono ?_
    rintro e w1 ⟨A, c, l, key, rfl, hl, hlc, hcm, hk0, hk1, hA, hE1⟩
    replace hA := hide hA
    replace hE1 := hide hE1
    obtain ⟨s, hs⟩ : ∃ s, logKey l key = s := ⟨_, rfl⟩
    have hs13 : s.length ≤ 13 := by rw [← hs]; have := logKey_len l key; omega
    replace hs := hide hs
    go_wp2_with fail
    refine (implLogKey_s c key hA.out (by omega) hs.out).mono ?_
    intro e w2 hG
    obtain ⟨A2, c2, rfl, -, -, hI2, hE2⟩ := hG.use
    clear hG
    replace hA := hide (hA.out.ext hE2.out)
    replace hE2 := hide (ext_trans hE1.out hE2.out)
    go_wp2_with fail
    refine (specLogKey_s c key hA.out (by omega) hs.out).mono ?_
    intro e w3 hG
    obtain ⟨A3, c3, rfl, -, -, hI3, hE3⟩ := hG.use
    clear hG
    replace hA := hide (hA.out.ext hE3.out)
    replace hI2 := hide (hI2.out.ext hE3.out)
    replace hE3 := hide (ext_trans hE2.out hE3.out)
    go_wp2_with fail
    refine (sameInts_any c2 c3 hI2.out hI3.out (by omega) (by omega)).mono ?_
    rintro e w4 ⟨rfl, hE4⟩
    replace hA := hide (hA.out.ext hE4)
    replace hI2 := hide (hI2.out.ext hE4)
    replace hI3 := hide (hI3.out.ext hE4)
    replace hE4 := hide (ext_trans hE3.out hE4)
    go_wp2_with fail
    refine (specLogValid_any c hA.out (by omega)).mono ?_
    rintro e w5 ⟨rfl, hE5⟩
    replace hA := hide (hA.out.ext hE5)
    replace hI2 := hide (hI2.out.ext hE5)
    replace hI3 := hide (hI3.out.ext hE5)
    replace hE5 := hide (ext_trans hE4.out hE5)
    by_cases hv : logOk l = true
    · have hsk := hide (show s = keysFrom key 0 l by rw [← hs.out, logKey_yes hv])
      go_wp2_with fail
      go_loop [7, 8] (fun n i => ∃ k m : Nat, k ≤ l.length ∧ i = .int .i64 k ∧ n = .int .i64 m ∧ m ≤ k ∧ Hid ((keysFrom key 0 (l.take k)).length = m)) (fun _ i => l.length - (intOf i).toNat)
      case atStart => exact ⟨0, 0, Nat.zero_le _, rfl, rfl, Nat.le_refl _, hide (by simp [keysFrom])⟩
      case round =>
        obtain ⟨k, m, hk, rfl, rfl, hmk, hK⟩ := hrel
        by_cases hlt : k < l.length
        · obtain ⟨b, o, x, y, hAA, hb, hxy, hc0, hc1⟩ := log_at hA.out hlt
          subst hAA
          by_cases hx : x = key
          · obtain ⟨hat, hml⟩ := keysFrom_next hlt hxy hx hK.out
            have hK' := hide (show (keysFrom key 0 (l.take (k + 1))).length = m + 1 by rw [keysFrom_hit hlt hxy hx]; simp [hK.out])
            rw [← hsk.out] at hat hml
            obtain ⟨b2, o2, z, hA2, hb2, hz, hc2⟩ := int_at hI2.out hml
            subst hA2
            have hzk : z = (k : Int) + 1 := by
              rw [List.getElem?_eq_getElem hml, hz] at hat
              injection hat
            subst hzk
            subst hx
            replace hxy := hide hxy
            replace hz := hide hz
            replace hat := hide hat
            go_wp2
            go_round
            case rel => exact ⟨k + 1, m + 1, by omega, by go_num, by go_num, by omega, hK'⟩
            case measure => simp [intOf]; omega
          · have hb' : (x == key) = false := by simpa using hx
            have hK' := hide (show (keysFrom key 0 (l.take (k + 1))).length = m by rw [keysFrom_miss hlt hxy hx]; exact hK.out)
            replace hxy := hide hxy
            go_wp2
            go_round
            case rel => exact ⟨k + 1, m, by omega, by go_num, by go_num, by omega, hK'⟩
            case measure => simp [intOf]; omega
        · obtain rfl : k = l.length := by omega
          have hms : m = s.length := by rw [hsk.out, ← hK.out, List.take_of_length_le (Nat.le_refl _)]
          subst hms
          go_wp2
          go_ret
          exact ⟨by simp, hE5.out⟩
    · have hv : logOk l = false := by simpa using hv
      go_wp2_with fail
      refine (sameInts_any c2 c3 hI2.out hI3.out (by omega) (by omega)).mono ?_
      rintro e w6 ⟨rfl, hE6⟩
      replace hE6 := hide (ext_trans hE5.out hE6)
      go_wp2_with fail
      go_ret
      exact ⟨by simp, hE6.out⟩

set_option maxHeartbeats 1600000 in
theorem fnState.walk (a0 : Option Addr) (n0 c0 : Nat) (w : World) (w0 : CodeR w a0 n0 c0) :
    Calls Try.prog 13 #[.slice a0 n0 c0] w fun e w' => e = .returned (.bool true) ∧ Below w.heap.size w w' := by
  have hm := len64c w0
  by_cases hn : 1048576 < n0
  · go_enter Try.func13, Try.ntmps13
    go_wp2
    go_ret
    exact ⟨rfl, ext_refl _⟩
  · go_enter Try.func13, Try.ntmps13
    go_wp2_with fail
    refine (drawStateOf_any w0).mono ?_
    rintro e w1 ⟨A, c, l, rfl, hl, hlc, hcm, hA, hE1⟩
    replace hA := hide hA
    replace hE1 := hide hE1
    obtain ⟨s, hs⟩ : ∃ s, stateOf l = s := ⟨_, rfl⟩
    have hs5 : s.length ≤ 5 := by rw [← hs]; exact stateOf_len l
    replace hs := hide hs
    go_wp2_with fail
    refine (implStateOf_s c hA.out rfl (by omega) hlc hs.out).mono ?_
    intro e w2 hG
    obtain ⟨A2, c2, rfl, -, -, hI2, hE2⟩ := hG.use
    clear hG
    replace hA := hide (hA.out.ext hE2.out)
    replace hE2 := hide (ext_trans hE1.out hE2.out)
    go_wp2_with fail
    refine (specStateOf_s c hA.out (by omega) hs.out).mono ?_
    intro e w3 hG
    obtain ⟨A3, c3, rfl, -, -, hI3, hE3⟩ := hG.use
    clear hG
    replace hA := hide (hA.out.ext hE3.out)
    replace hI2 := hide (hI2.out.ext hE3.out)
    replace hE3 := hide (ext_trans hE2.out hE3.out)
    go_wp2_with fail
    refine (sameInts_any c2 c3 hI2.out hI3.out (by omega) (by omega)).mono ?_
    rintro e w4 ⟨rfl, hE4⟩
    replace hA := hide (hA.out.ext hE4)
    replace hI2 := hide (hI2.out.ext hE4)
    replace hI3 := hide (hI3.out.ext hE4)
    replace hE4 := hide (ext_trans hE3.out hE4)
    by_cases hz : s.length = 0
    · have hz' : ((s.length : Int) == 0) = true := by rw [beq_iff_eq]; omega
      replace hz := hide hz
      go_wp2_with fail
      refine (sameInts_any c2 c3 hI2.out hI3.out (by omega) (by omega)).mono ?_
      rintro e w5 ⟨rfl, hE5⟩
      replace hE5 := hide (ext_trans hE4.out hE5)
      go_wp2_with fail
      go_ret
      exact ⟨by simp, hE5.out⟩
    · have hz' : ((s.length : Int) == 0) = false := by rw [beq_eq_false_iff_ne]; omega
      obtain ⟨hok, hsb⟩ := stateOf_yes hs.out hz
      have h5 : s.length = 5 := by rw [hsb, stBehind_len]
      replace h5 := hide h5
      replace hsb := hide hsb
      go_wp2_with fail
      go_loopw [6] (fun i wr => ∃ k : Nat, k ≤ 5 ∧ i = .int .i64 k ∧ Hid (Ext w4 wr)) (fun i _ => 5 - (intOf i).toNat)
      case atStart => exact ⟨0, Nat.zero_le _, rfl, hide (ext_refl _)⟩
      case round =>
        obtain ⟨k, hk, rfl, hE⟩ := hrel
        by_cases hlt : k < 5
        · obtain ⟨t, ht⟩ : ∃ t, logKey l k = t := ⟨_, rfl⟩
          have ht13 : t.length ≤ 13 := by rw [← ht]; have := logKey_len l k; omega
          replace ht := hide ht
          go_wp2_with fail
          refine (implLogKey_s c k (hA.out.ext hE.out) (by omega) ht.out).mono ?_
          intro e w5 hG
          obtain ⟨A5, c5, rfl, -, -, hI5, hE5⟩ := hG.use
          clear hG
          replace hE5 := hide (ext_trans hE.out hE5.out)
          have htk : t = keysFrom k 0 l := by rw [← ht.out, logKey_yes hok]
          have hls := behind_last hok k hlt l.length (Nat.le_refl _)
          rw [List.take_of_length_le (Nat.le_refl _), ← htk, ← hsb.out] at hls
          replace htk := hide htk
          have hks : k < s.length := by have := h5.out; omega
          obtain ⟨b2, o2, z, hAA2, hb2, hz, hc2⟩ := int_at (hI2.out.ext hE5.out) hks
          rw [List.getElem?_eq_getElem hks, hz] at hls
          replace hz := hide hz
          by_cases ht0 : t.length = 0
          · have ht0' : ((t.length : Int) == 0) = true := by rw [beq_iff_eq]; omega
            have hz1 := hls.1 (List.eq_nil_of_length_eq_zero ht0)
            injection hz1 with hz1
            subst hz1
            subst hAA2
            clear hls
            replace ht0 := hide ht0
            go_wp2
            go_roundw
            case rel => exact ⟨k + 1, by omega, by go_num, hE5⟩
            case measure => simp [intOf]; omega
          · have ht0' : ((t.length : Int) == 0) = false := by rw [beq_eq_false_iff_ne]; omega
            have hpl : t.length - 1 < t.length := by omega
            obtain ⟨j, y, hpj, hj, hlj, hyz⟩ := hls.2 t[t.length - 1] (by rw [List.getLast?_eq_getElem?, List.getElem?_eq_getElem hpl])
            injection hyz with hyz
            subst hyz
            obtain ⟨b3, o3, p, hAA5, hb3, hp, hc3⟩ := int_at hI5.out hpl
            rw [hpj] at hp
            subst hp
            obtain ⟨b4, o4, x4, y4, hAA, hb4, hxy, hc0, hc1⟩ := log_at (hA.out.ext hE5.out) hj
            have hy4 : y4 = z := by
              rw [List.getElem?_eq_getElem hj, hxy] at hlj
              injection hlj with hlj
              injection hlj
            subst hy4
            subst hAA2 hAA5 hAA
            have ec : ((t.length : Int) - 1) = ((t.length - 1 : Nat) : Int) := by omega
            clear hls
            replace hxy := hide hxy
            replace hlj := hide hlj
            replace hpj := hide hpj
            replace ht0 := hide ht0
            go_wp2_with fail
            go_quiet (fail)
            go_wp2
            go_roundw
            case rel => exact ⟨k + 1, by omega, by go_num, hide (by first | exact hE5.out | exact ext_drewN hE5.out _ | exact ext_drew hE5.out)⟩
            case measure => simp [intOf]; omega
        · obtain rfl : k = 5 := by omega
          have h5' : ((s.length : Int) == 5) = true := by rw [beq_iff_eq]; have := h5.out; omega
          go_wp2
          go_ret
          exact ⟨rfl, ext_trans hE4.out hE.out⟩
end Go.Proofs.Ytfkongkokegjjaa
