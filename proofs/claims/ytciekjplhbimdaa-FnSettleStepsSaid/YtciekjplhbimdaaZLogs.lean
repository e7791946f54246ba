/-
  Contracts: LogValid, both.
-/
import Derived.Test.YtciekjplhbimdaaZBRd
set_option linter.all false
set_option maxRecDepth 100000
namespace Go.Proofs.YtciekjplhbimdaaZ
open Go.RowKit

theorem log_at {w : World} {A : Option Addr} {l : List Upd} (h : LogR w A l) {i : Nat} (hi : i < l.length) :
    ∃ b o x y, A = some ⟨b, o, none⟩ ∧ b < w.heap.size ∧ l[i] = (x, y) ∧ w.cell? ⟨b, o + i * 2, none⟩ = some (.int .i64 x) ∧ w.cell? ⟨b, o + i * 2 + 1, none⟩ = some (.int .i64 y) := by
  obtain ⟨b, o, h1, h2, h3, h4⟩ := h.at_ hi
  exact ⟨b, o, (l[i]).1, (l[i]).2, h1, h2, rfl, h3, by rw [Nat.add_assoc]; exact h4⟩

theorem implLogValid_any {A : Option Addr} {l : List Upd} (c : Nat) {w : World} (h : LogR w A l) (hm : l.length ≤ 1048576) :
    Calls Alt.prog 70 #[.slice A l.length c] w fun e w' => e = .returned (.bool (logOk l)) ∧ Ext w w' := by
  have h := hide h
  by_cases h12 : 12 < l.length
  · go_enter Alt.func70, Try.ntmps70
    go_wp2
    go_ret
    exact ⟨ret_bool (logOk_long h12).symm, ext_refl _⟩
  · go_enter Alt.func70, Try.ntmps70
    go_wp2_with fail
    go_loopw [10] (fun i wr => ∃ k : Nat, k ≤ l.length ∧ i = .int .i64 k ∧ Hid (Ext w wr) ∧ Hid (∀ j (hj : j < l.length), j < k → updOk l[j] = true)) (fun i _ => l.length - (intOf i).toNat)
    case atStart => exact ⟨0, Nat.zero_le _, rfl, hide (ext_refl _), hide (fun j _ hj => absurd hj (Nat.not_lt_zero _))⟩
    case round =>
      obtain ⟨k, hk, rfl, hE, hT⟩ := hrel
      by_cases hlt : k < l.length
      · obtain ⟨b, o, x, y, hA, hb, hxy, hc0, hc1⟩ := log_at (h.out.ext hE.out) hlt
        subst hA
        have hxy := hide hxy
        by_cases hv : updOk (x, y) = true
        · go_wp2_with (go_at_call 101; refine (valid_any _ _ _).mono ?_; rintro e w' ⟨rfl, hF⟩)
          have hF := hide hF
          go_roundw
          case rel =>
            refine ⟨k + 1, by omega, by go_num, hide (ext_trans (ext_alloc hE.out _) hF.out), hide (fun j hj hjk => ?_)⟩
            by_cases e : j = k
            · subst e; rw [hxy.out]; exact hv
            · exact hT.out j hj (by omega)
          case measure => simp [intOf]; omega
        · have hv : updOk (x, y) = false := by simpa using hv
          go_wp2_with (go_at_call 101; refine (valid_any _ _ _).mono ?_; rintro e w' ⟨rfl, hF⟩)
          go_ret
          exact ⟨ret_bool (logOk_bad hlt (by rw [hxy.out]; exact hv)).symm, ext_trans (ext_alloc hE.out _) hF⟩
      · go_wp2
        go_ret
        exact ⟨ret_bool (logOk_of (by omega) fun i hi => hT.out i hi (by omega)).symm, hE.out⟩

theorem specLogValid_any {A : Option Addr} {l : List Upd} (c : Nat) {w : World} (h : LogR w A l) (hm : l.length ≤ 1048576) :
    Calls Alt.prog 61 #[.slice A l.length c] w fun e w' => e = .returned (.bool (logOk l)) ∧ Ext w w' := by
  have h := hide h
  go_enter Alt.func61, Try.ntmps61
  go_wp2_with fail
  go_loopw [3] (fun i wr => ∃ k : Nat, k ≤ l.length ∧ i = .int .i64 k ∧ Hid (Ext w wr) ∧ Hid (∀ j (hj : j < l.length), j < k → updOk l[j] = true)) (fun i _ => l.length - (intOf i).toNat)
  case atStart => exact ⟨0, Nat.zero_le _, rfl, hide (ext_refl _), hide (fun j _ hj => absurd hj (Nat.not_lt_zero _))⟩
  case round =>
    obtain ⟨k, hk, rfl, hE, hT⟩ := hrel
    by_cases hlt : k < l.length
    · obtain ⟨b, o, x, y, hA, hb, hxy, hc0, hc1⟩ := log_at (h.out.ext hE.out) hlt
      subst hA
      have hxy := hide hxy
      by_cases hv : updOk (x, y) = true
      · go_wp2_with (go_at_call 82; refine (specUpdateValid_any _ _ _).mono ?_; rintro e w' ⟨rfl, hF⟩)
        have hF := hide hF
        go_roundw
        case rel =>
          refine ⟨k + 1, by omega, by go_num, hide (ext_trans hE.out hF.out), hide (fun j hj hjk => ?_)⟩
          by_cases e : j = k
          · subst e; rw [hxy.out]; exact hv
          · exact hT.out j hj (by omega)
        case measure => simp [intOf]; omega
      · have hv : updOk (x, y) = false := by simpa using hv
        go_wp2_with (go_at_call 82; refine (specUpdateValid_any _ _ _).mono ?_; rintro e w' ⟨rfl, hF⟩)
        go_ret
        exact ⟨ret_bool (logOk_bad hlt (by rw [hxy.out]; exact hv)).symm, ext_trans hE.out hF⟩
    · by_cases h12 : l.length ≤ 12
      · go_wp2
        go_ret
        exact ⟨ret_bool (by rw [logOk_of (by omega) fun i hi => hT.out i hi (by omega)]; simp; omega), hE.out⟩
      · go_wp2
        go_ret
        exact ⟨ret_bool (by rw [logOk_long (by omega)]; simp; omega), hE.out⟩
end Go.Proofs.YtciekjplhbimdaaZ
