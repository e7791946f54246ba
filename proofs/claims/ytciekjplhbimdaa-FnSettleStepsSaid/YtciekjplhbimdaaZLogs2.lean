/-
  Contracts: what two logs have in common, both.
-/
import Derived.Test.YtciekjplhbimdaaZLogs
set_option linter.all false
set_option maxRecDepth 100000
namespace Go.Proofs.YtciekjplhbimdaaZ
open Go.RowKit

theorem l1Common_any {A B : Option Addr} {l m : List Upd} (c d : Nat) {w : World} (h : LogR w A l) (h' : LogR w B m) (hm : l.length ≤ 1048576) (hm' : m.length ≤ 1048576) :
    Calls Alt.prog 48 #[.slice A l.length c, .slice B m.length d] w fun e w' => e = .returned (.int .i64 (common l m)) ∧ Ext w w' := by
  have h := hide h
  have h' := hide h'
  go_enter Alt.func48, Try.ntmps48
  go_wp2_with fail
  go_loopw [5] (fun i wr => ∃ k : Nat, k ≤ l.length ∧ k ≤ m.length ∧ i = .int .i64 k ∧ Hid (Ext w wr) ∧ Hid (∀ j, j < k → l[j]? = m[j]?)) (fun i _ => l.length - (intOf i).toNat)
  case atStart => exact ⟨0, Nat.zero_le _, Nat.zero_le _, rfl, hide (ext_refl _), hide (fun j hj => absurd hj (Nat.not_lt_zero _))⟩
  case round =>
    obtain ⟨k, hk, hk', rfl, hE, hT⟩ := hrel
    by_cases h1 : k < l.length
    · by_cases h2 : k < m.length
      · obtain ⟨b, o, x, y, hA, hb, hxy, hc0, hc1⟩ := log_at (h.out.ext hE.out) h1
        subst hA
        obtain ⟨b', o', x', y', hA', hb', hxy', hc0', hc1'⟩ := log_at (h'.out.ext hE.out) h2
        subst hA'
        have hxy := hide hxy
        have hxy' := hide hxy'
        by_cases hv : x = x'
        · by_cases hv' : y = y'
          · subst hv hv'
            go_wp2_with fail
            go_quiet (fail)
            go_wp2
            go_roundw
            case rel =>
              refine ⟨k + 1, by omega, by omega, by go_num, hide (by first | exact hE.out | exact ext_drewN hE.out _ | exact ext_drew hE.out), hide (fun j hj => ?_)⟩
              by_cases e : j = k
              · subst e; rw [List.getElem?_eq_getElem h1, List.getElem?_eq_getElem h2, hxy.out, hxy'.out]
              · exact hT.out j (by omega)
            case measure => simp [intOf]; omega
          · have fin := hide (common_eq k l m (by omega) (by omega) hT.out (fun _ _ => by rw [List.getElem?_eq_getElem h1, List.getElem?_eq_getElem h2, hxy.out, hxy'.out]; simp [hv']))
            go_wp2_with fail
            go_quiet (fail)
            go_wp2
            go_ret
            exact ⟨ret_int (by rw [fin.out]), by first | exact hE.out | exact ext_drewN hE.out _ | exact ext_drew hE.out⟩
        · have fin := hide (common_eq k l m (by omega) (by omega) hT.out (fun _ _ => by rw [List.getElem?_eq_getElem h1, List.getElem?_eq_getElem h2, hxy.out, hxy'.out]; simp [hv]))
          go_wp2_with fail
          go_quiet (fail)
          go_wp2
          go_ret
          exact ⟨ret_int (by rw [fin.out]), by first | exact hE.out | exact ext_drewN hE.out _ | exact ext_drew hE.out⟩
      · have h2' : decide (k < m.length) = false := by simpa using h2
        have fin := hide (common_eq k l m (by omega) (by omega) hT.out (fun _ h => by omega))
        go_wp2_with fail
        go_quiet (fail)
        go_wp2
        go_ret
        exact ⟨ret_int (by rw [fin.out]), by first | exact hE.out | exact ext_drewN hE.out _ | exact ext_drew hE.out⟩
    · have h1' : decide (k < l.length) = false := by simpa using h1
      have fin := hide (common_eq k l m (by omega) (by omega) hT.out (fun h _ => by omega))
      go_wp2_with fail
      go_quiet (fail)
      go_wp2
      go_ret
      exact ⟨ret_int (by rw [fin.out]), by first | exact hE.out | exact ext_drewN hE.out _ | exact ext_drew hE.out⟩



theorem implLogCommon_any {A B : Option Addr} {l m : List Upd} (c d : Nat) {w : World} (h : LogR w A l) (h' : LogR w B m) (hm : l.length ≤ 1048576) (hm' : m.length ≤ 1048576) :
    Calls Alt.prog 71 #[.slice A l.length c, .slice B m.length d] w fun e w' => e = .returned (.int .i64 (commonI l m)) ∧ Ext w w' := by
  have h := hide h
  have h' := hide h'
  by_cases ok1 : logOk l = true
  · by_cases ok2 : logOk m = true
    · go_enter Alt.func71, Try.ntmps71
      go_wp2_with fail
      refine (implLogValid_any c h.out hm).mono ?_
      rintro e w1 ⟨rfl, hE1⟩
      have hE1 := hide hE1
      go_wp2_with fail
      refine (implLogValid_any d (h'.out.ext hE1.out) hm').mono ?_
      rintro e w2 ⟨rfl, hF⟩
      have hF := hide (ext_trans hE1.out hF)
      go_wp2_with fail
      go_loopw [5] (fun i wr => ∃ k : Nat, k ≤ l.length ∧ k ≤ m.length ∧ i = .int .i64 k ∧ Hid (Ext w wr) ∧ Hid (∀ j, j < k → l[j]? = m[j]?)) (fun i _ => l.length - (intOf i).toNat)
      case atStart => exact ⟨0, Nat.zero_le _, Nat.zero_le _, rfl, hide (hF.out), hide (fun j hj => absurd hj (Nat.not_lt_zero _))⟩
      case round =>
        obtain ⟨k, hk, hk', rfl, hE, hT⟩ := hrel
        by_cases h1 : k < l.length
        · by_cases h2 : k < m.length
          · obtain ⟨b, o, x, y, hA, hb, hxy, hc0, hc1⟩ := log_at (h.out.ext hE.out) h1
            subst hA
            obtain ⟨b', o', x', y', hA', hb', hxy', hc0', hc1'⟩ := log_at (h'.out.ext hE.out) h2
            subst hA'
            have hxy := hide hxy
            have hxy' := hide hxy'
            by_cases hv : x = x'
            · by_cases hv' : y = y'
              · subst hv hv'
                go_wp2_with fail
                go_quiet (fail)
                go_wp2
                go_roundw
                case rel =>
                  refine ⟨k + 1, by omega, by omega, by go_num, hide (by first | exact hE.out | exact ext_drewN hE.out _ | exact ext_drew hE.out), hide (fun j hj => ?_)⟩
                  by_cases e : j = k
                  · subst e; rw [List.getElem?_eq_getElem h1, List.getElem?_eq_getElem h2, hxy.out, hxy'.out]
                  · exact hT.out j (by omega)
                case measure => simp [intOf]; omega
              · have fin := hide (common_eq k l m (by omega) (by omega) hT.out (fun _ _ => by rw [List.getElem?_eq_getElem h1, List.getElem?_eq_getElem h2, hxy.out, hxy'.out]; simp [hv']))
                go_wp2_with fail
                go_quiet (fail)
                go_wp2
                go_ret
                exact ⟨ret_int (by simp [commonI, ok1, ok2, fin.out]), by first | exact hE.out | exact ext_drewN hE.out _ | exact ext_drew hE.out⟩
            · have fin := hide (common_eq k l m (by omega) (by omega) hT.out (fun _ _ => by rw [List.getElem?_eq_getElem h1, List.getElem?_eq_getElem h2, hxy.out, hxy'.out]; simp [hv]))
              go_wp2_with fail
              go_quiet (fail)
              go_wp2
              go_ret
              exact ⟨ret_int (by simp [commonI, ok1, ok2, fin.out]), by first | exact hE.out | exact ext_drewN hE.out _ | exact ext_drew hE.out⟩
          · have h2' : decide (k < m.length) = false := by simpa using h2
            have fin := hide (common_eq k l m (by omega) (by omega) hT.out (fun _ h => by omega))
            go_wp2_with fail
            go_quiet (fail)
            go_wp2
            go_ret
            exact ⟨ret_int (by simp [commonI, ok1, ok2, fin.out]), by first | exact hE.out | exact ext_drewN hE.out _ | exact ext_drew hE.out⟩
        · have h1' : decide (k < l.length) = false := by simpa using h1
          have fin := hide (common_eq k l m (by omega) (by omega) hT.out (fun h _ => by omega))
          go_wp2_with fail
          go_quiet (fail)
          go_wp2
          go_ret
          exact ⟨ret_int (by simp [commonI, ok1, ok2, fin.out]), by first | exact hE.out | exact ext_drewN hE.out _ | exact ext_drew hE.out⟩
    · have ok2 : logOk m = false := by simpa using ok2
      go_enter Alt.func71, Try.ntmps71
      go_wp2_with fail
      refine (implLogValid_any c h.out hm).mono ?_
      rintro e w1 ⟨rfl, hE⟩
      have hE := hide hE
      go_wp2_with fail
      refine (implLogValid_any d (h'.out.ext hE.out) hm').mono ?_
      rintro e w2 ⟨rfl, hF⟩
      have hF := hide (ext_trans hE.out hF)
      go_wp2_with fail
      go_ret
      exact ⟨ret_int (by simp [commonI, ok1, ok2]), hF.out⟩
  · have ok1 : logOk l = false := by simpa using ok1
    go_enter Alt.func71, Try.ntmps71
    go_wp2_with fail
    refine (implLogValid_any c h.out hm).mono ?_
    rintro e w1 ⟨rfl, hE⟩
    have hE := hide hE
    go_wp2_with fail
    go_ret
    exact ⟨ret_int (by simp [commonI, ok1]), hE.out⟩

theorem implLogBegins_any {A B : Option Addr} {l m : List Upd} (c d : Nat) {w : World} (h : LogR w A l) (h' : LogR w B m) (hm : l.length ≤ 1048576) (hm' : m.length ≤ 1048576) :
    Calls Alt.prog 40 #[.slice A l.length c, .slice B m.length d] w fun e w' => e = .returned (.bool (begins l m)) ∧ Ext w w' := by
  have h := hide h
  have h' := hide h'
  by_cases h1 : logOk l = true
  · go_enter Alt.func40, Try.ntmps40
    go_wp2_with fail
    refine (implLogValid_any c h.out hm).mono ?_
    rintro e w1 ⟨rfl, hE⟩
    have hE := hide hE
    go_wp2_with fail
    refine (implLogCommon_any c d (h.out.ext hE.out) (h'.out.ext hE.out) hm hm').mono ?_
    rintro e w3 ⟨rfl, hG⟩
    have hG := hide (ext_trans hE.out hG)
    go_wp2_with fail
    go_ret
    refine ⟨ret_bool ?_, hG.out⟩
    rw [Bool.eq_iff_iff]
    by_cases h2 : logOk m = true
    · simp [begins, commonI, h1, h2]; omega
    · have h2 : logOk m = false := by simpa using h2
      simp [begins, commonI, h1, h2]
  · have h1 : logOk l = false := by simpa using h1
    go_enter Alt.func40, Try.ntmps40
    go_wp2_with fail
    refine (implLogValid_any c h.out hm).mono ?_
    rintro e w1 ⟨rfl, hE⟩
    have hE := hide hE
    go_wp2_with fail
    go_ret
    exact ⟨ret_bool (by simp [begins, h1]), hE.out⟩
end Go.Proofs.YtciekjplhbimdaaZ
