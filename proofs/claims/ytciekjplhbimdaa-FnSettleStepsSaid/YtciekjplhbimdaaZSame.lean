/-
  Contracts: sameInts, sameLog.
-/
import Derived.Test.YtciekjplhbimdaaZExact1
set_option linter.all false
set_option maxRecDepth 100000
namespace Go.Proofs.YtciekjplhbimdaaZ
open Go.RowKit

theorem sameLog_any {A B : Option Addr} {l m : List Upd} (c d : Nat) {w : World} (h : LogR w A l) (h' : LogR w B m) (hm : l.length ≤ 1048576) (hm' : m.length ≤ 1048576) :
    Calls Alt.prog 30 #[.slice A l.length c, .slice B m.length d] w fun e w' => e = .returned (.bool (decide (l = m))) ∧ Ext w w' := by
  replace h := hide h
  replace h' := hide h'
  by_cases hn : l.length = m.length
  · have hn' : ((l.length : Int) != (m.length : Int)) = false := by simp [hn]
    replace hn := hide hn
    go_enter Alt.func30, Try.ntmps30
    go_wp2_with fail
    go_loopw [5] (fun i wr => ∃ k : Nat, k ≤ l.length ∧ i = .int .i64 k ∧ Hid (Ext w wr) ∧ Hid (∀ j, j < k → l[j]? = m[j]?)) (fun i _ => l.length - (intOf i).toNat)
    case atStart => exact ⟨0, Nat.zero_le _, rfl, hide (ext_refl _), hide (fun j hj => absurd hj (Nat.not_lt_zero _))⟩
    case round =>
      obtain ⟨k, hk, rfl, hE, hT⟩ := hrel
      by_cases h1 : k < l.length
      · have h2 : k < m.length := by have := hn.out; omega
        obtain ⟨b, o, x, y, hA, hb, hxy, hc0, hc1⟩ := log_at (h.out.ext hE.out) h1
        subst hA
        obtain ⟨b', o', x', y', hA', hb', hxy', hc0', hc1'⟩ := log_at (h'.out.ext hE.out) h2
        subst hA'
        replace hxy := hide hxy
        replace hxy' := hide hxy'
        by_cases hv : x = x'
        · by_cases hv' : y = y'
          · subst hv hv'
            go_wp2_with fail
            go_quiet (fail)
            go_wp2
            go_roundw
            case rel =>
              refine ⟨k + 1, by omega, by go_num, hide (by first | exact hE.out | exact ext_drewN hE.out _ | exact ext_drew hE.out), hide (fun j hj => ?_)⟩
              by_cases e : j = k
              · subst e; rw [List.getElem?_eq_getElem h1, List.getElem?_eq_getElem h2, hxy.out, hxy'.out]
              · exact hT.out j (by omega)
            case measure => simp [intOf]; omega
          · have fin : Hid (l ≠ m) := hide (by
              intro e
              subst e
              have := hxy.out.symm.trans hxy'.out
              injection this with e1 e2
              exact hv' e2)
            go_wp2_with fail
            go_quiet (fail)
            go_wp2
            go_ret
            exact ⟨ret_bool (by simpa using fin.out), by first | exact hE.out | exact ext_drewN hE.out _ | exact ext_drew hE.out⟩
        · have fin : Hid (l ≠ m) := hide (by
            intro e
            subst e
            have := hxy.out.symm.trans hxy'.out
            injection this with e1 e2
            exact hv e1)
          go_wp2_with fail
          go_quiet (fail)
          go_wp2
          go_ret
          exact ⟨ret_bool (by simpa using fin.out), by first | exact hE.out | exact ext_drewN hE.out _ | exact ext_drew hE.out⟩
      · have fin : Hid (l = m) := hide (list_eq_ofI hn.out fun j hj => hT.out j (by omega))
        go_wp2
        go_ret
        exact ⟨ret_bool (by simpa using fin.out), hE.out⟩
  · have hn' : ((l.length : Int) != (m.length : Int)) = true := by simp; omega
    replace hn := hide hn
    go_enter Alt.func30, Try.ntmps30
    go_wp2
    go_ret
    exact ⟨ret_bool (by simp; intro e; exact hn.out (by rw [e])), ext_refl _⟩
end Go.Proofs.YtciekjplhbimdaaZ
