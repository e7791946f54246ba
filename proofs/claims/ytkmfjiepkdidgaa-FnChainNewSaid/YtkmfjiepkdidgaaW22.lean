/-
  The walk of the law FnChainNew: it returns true for every input, and leaves its arguments as they were.
-/
import Derived.Test.YtkmfjiepkdidgaaCDraw1
import Derived.Test.YtkmfjiepkdidgaaChain7
import Derived.Test.YtkmfjiepkdidgaaChain5
import Derived.Test.YtkmfjiepkdidgaaCExact2
import Derived.Test.YtkmfjiepkdidgaaFrame2
set_option linter.all false
set_option maxRecDepth 100000
namespace Go.Proofs.Ytkmfjiepkdidgaa
open Go.RowKit
attribute [local go_sem ↓] Go.wp_at_zero Go.wp_at_succ

theorem newNodes_at {ids : List Int} {k : Nat} {x : Int} {l : List Upd} {j : Int} (h : (newNodes ids)[k]? = some ⟨x, l, j⟩) : ids[k]? = some x ∧ l = [] := by
  unfold newNodes at h
  rw [List.getElem?_map] at h
  cases he : ids[k]? with
  | none => rw [he] at h; cases h
  | some y => rw [he] at h; cases h; exact ⟨rfl, rfl⟩
theorem newNodes_read {ids : List Int} (h : ChOk 0 (newNodes ids)) : RdRes 0 (newNodes ids) 0 0 false := by
  have hn : (newNodes ids)[(newNodes ids).length - 1]? = some ((newNodes ids)[(newNodes ids).length - 1]'(by have := h.2.1; omega)) := List.getElem?_eq_getElem _
  obtain ⟨⟨x, l, j⟩, hm⟩ : ∃ m : Nd, (newNodes ids)[(newNodes ids).length - 1]'(by have := h.2.1; omega) = m := ⟨_, rfl⟩
  rw [hm] at hn
  have hl := (newNodes_at hn).2
  subst hl
  exact .inl ⟨h, by decide, _, hn, -1, rfl, .inr ⟨by decide, rfl, rfl⟩⟩

set_option maxHeartbeats 6400000 in
theorem fnChainNew.walk (a0 : Option Addr) (n0 c0 : Nat) (w : World) (w0 : CodeR w a0 n0 c0) :
    Calls Try.prog 11 #[.slice a0 n0 c0] w fun e w' => e = .returned (.bool true) ∧ Below w.heap.size w w' := by
  have hm := len64c w0
  by_cases hn : 1048576 < n0
  · go_enter Try.func11, Try.ntmps11
    go_wp2
    go_ret
    exact ⟨rfl, ext_refl _⟩
  · go_enter Try.func11, Try.ntmps11
    go_wp2_with fail
    refine (drawChainNew_any w0).mono ?_
    rintro e w1 ⟨A, c, ids, rfl, hl6, hlc, hcm, hA, hE⟩
    replace hE := hide hE
    have hm1 : ids.length ≤ 1048576 := by omega
    obtain ⟨rv, rl, rb, hs⟩ := newRes_ex ids
    have hms : bulk rl ≤ 1048576 := Nat.le_trans (newRes_bulk hs) (by omega)
    have hP1 : ∀ (w' : World) (A : Option Addr) (c : Nat), IntsR w' A ids → Calls Try.prog 36 #[.slice A ids.length c] w' (GotChB w' rv rl rb) := fun w' A c h => specChainNew_any c h hm1 hs
    replace hP1 := hide hP1
    have hP2 : ∀ (w' : World) (A : Option Addr) (c : Nat), IntsR w' A ids → Calls Try.prog 35 #[.slice A ids.length c] w' (GotChB w' rv rl rb) := fun w' A c h => implChainNew_any c h hm1 hs
    replace hP2 := hide hP2
    replace hs := hide hs
    go_wp2_with fail
    refine (hP2.out _ A c hA.out).mono ?_
    intro e w2 hG
    obtain ⟨A2, c2, rfl, -, -, hP, hF⟩ := hG.use
    replace hP := hide hP.out.read
    clear hG
    replace hA := hide (hA.out.ext hF)
    replace hE := hide (ext_trans hE.out hF)
    clear hF
    have P := hide (Blk.newAt (w2) 25 #[.int .i64 rv, .slice A2 rl.length c2] (g := (w2).heap.size) (by simp))
    replace hA := hide (hA.out.ext (ext_alloc (ext_refl (w2)) (.cells #[.int .i64 rv, .slice A2 rl.length c2] 25)))
    replace hP := hide (hP.out.ext (ext_alloc (ext_refl (w2)) (.cells #[.int .i64 rv, .slice A2 rl.length c2] 25)))
    replace hE := hide (ext_alloc hE.out (.cells #[.int .i64 rv, .slice A2 rl.length c2] 25))
    go_wp2_with fail
    refine (hP1.out _ A c hA.out).mono ?_
    intro e w3 hG
    obtain ⟨A3, c3, rfl, -, -, hQ, hF⟩ := hG.use
    replace hQ := hide hQ.out.read
    clear hG
    replace hA := hide (hA.out.ext hF)
    replace hP := hide (hP.out.ext hF)
    replace P := hide (P.out.ext hF)
    try clear P_0 P_1 P_lt
    obtain ⟨P_0, P_1, P_lt⟩ := P.out.at2
    replace hE := hide (ext_trans hE.out hF)
    clear hF
    have Q := hide (Blk.newAt (w3) 25 #[.int .i64 rv, .slice A3 rl.length c3] (g := (w3).heap.size) (by simp))
    replace hA := hide (hA.out.ext (ext_alloc (ext_refl (w3)) (.cells #[.int .i64 rv, .slice A3 rl.length c3] 25)))
    replace hP := hide (hP.out.ext (ext_alloc (ext_refl (w3)) (.cells #[.int .i64 rv, .slice A3 rl.length c3] 25)))
    replace hQ := hide (hQ.out.ext (ext_alloc (ext_refl (w3)) (.cells #[.int .i64 rv, .slice A3 rl.length c3] 25)))
    replace P := hide (P.out.ext (ext_alloc (ext_refl (w3)) (.cells #[.int .i64 rv, .slice A3 rl.length c3] 25)))
    replace hE := hide (ext_alloc hE.out (.cells #[.int .i64 rv, .slice A3 rl.length c3] 25))
    clear hP1 hP2
    cases rb with
    | false =>
      go_wp2_with fail
      refine (sameChain_same c2 c3 rv hP.out hQ.out hms).mono ?_
      rintro e w4 ⟨rfl, hF⟩
      replace hP := hide (hP.out.ext hF)
      replace hQ := hide (hQ.out.ext hF)
      replace P := hide (P.out.ext hF)
      replace Q := hide (Q.out.ext hF)
      try clear P_0 P_1 P_lt
      obtain ⟨P_0, P_1, P_lt⟩ := P.out.at2
      try clear Q_0 Q_1 Q_lt
      obtain ⟨Q_0, Q_1, Q_lt⟩ := Q.out.at2
      replace hE := hide (ext_trans hE.out hF)
      clear hF
      go_wp2_with fail
      refine (sameChain_same c2 c3 rv hP.out hQ.out hms).mono ?_
      rintro e w5 ⟨rfl, hF⟩
      replace hE := hide (ext_trans hE.out hF)
      clear hF
      go_wp2_with fail
      go_ret
      exact ⟨rfl, hE.out⟩
    | true =>
      obtain ⟨hok, rfl, hrl⟩ : ChOk 0 rl ∧ rv = 0 ∧ rl = newNodes ids := by
        rcases hs.out with ⟨h1, h2, h3, -⟩ | ⟨-, -, -, h4⟩
        · exact ⟨by rw [h3]; exact h1, h2, h3⟩
        · cases h4
      have hnl : rl.length = ids.length := by rw [hrl]; exact newNodes_len ids
      replace hnl := hide hnl
      replace hrl := hide hrl
      replace hok := hide hok
      have hrd := hide (show RdRes 0 rl 0 0 false from by have := hok.out; rw [hrl.out] at this ⊢; exact newNodes_read this)
      clear hs
      go_wp2_with fail
      refine (sameChain_same c2 c3 0 hP.out hQ.out hms).mono ?_
      rintro e w4 ⟨rfl, hF⟩
      replace hA := hide (hA.out.ext hF)
      replace hP := hide (hP.out.ext hF)
      replace P := hide (P.out.ext hF)
      try clear P_0 P_1 P_lt
      obtain ⟨P_0, P_1, P_lt⟩ := P.out.at2
      replace hE := hide (ext_trans hE.out hF)
      clear hF
      clear hQ Q
      go_wp2_with fail
      go_loopw [8] (fun i wr => ∃ k : Nat, k ≤ ids.length ∧ i = .int .i64 k ∧ Hid (Ext w4 wr)) (fun i _ => ids.length - (intOf i).toNat)
      case atStart => exact ⟨0, Nat.zero_le _, rfl, hide (ext_refl _)⟩
      case round =>
        obtain ⟨k, hk, rfl, hR⟩ := hrel
        have bP := hide (P.out.ext hR.out)
        try clear bP_0 bP_1 bP_lt
        obtain ⟨bP_0, bP_1, bP_lt⟩ := bP.out.at2
        have hPk := hide (hP.out.ext hR.out)
        by_cases hlt : k < ids.length
        · have hd : decide ((k : Int) < (rl.length : Int)) = true := by have := hnl.out; simp; omega
          obtain ⟨b, o, x, l, j, B, d, hA2, hbl2, hn, hld2, hdm2, hB, d0, d1, d2, d1', d2'⟩ := node_at hPk.out (i := k) (by have := hnl.out; omega)
          subst hA2
          obtain ⟨b3, o3, x3, hA3, hbl3, hx, hc3⟩ := int_at (hA.out.ext hR.out) hlt
          subst hA3
          rw [hrl.out] at hn
          obtain ⟨hx', rfl⟩ := newNodes_at hn
          obtain rfl : x3 = x := by
            rw [List.getElem?_eq_getElem hlt, hx] at hx'
            exact Option.some.inj hx'
          replace hx := hide hx
          clear hx' hn hB
          have hi0 : (0 : Int) ≤ (k : Int) := by omega
          have hi3 : (k : Int) < (ids.length : Int) := by omega
          have hi4 : (k : Int) < (rl.length : Int) := by have := hnl.out; omega
          have hi5 : k < rl.length := by have := hnl.out; omega
          go_wp2_with fail
          go_quiet (fail)
          all_goals go_wp2
          all_goals go_roundw
          all_goals first
            | exact ⟨k + 1, by omega, by go_num, hide (ext_drew hR.out)⟩
            | exact ⟨k + 1, by omega, by go_num, hide (ext_drewN hR.out _)⟩
            | (simp [intOf]; omega)
        · have hd : decide ((k : Int) < (rl.length : Int)) = false := by have := hnl.out; simp; omega
          have hd2 : ¬ k < rl.length := by have := hnl.out; omega
          have hE2 := hide (ext_trans hE.out hR.out)
          go_wp2_with fail
          refine (implChainRead_any c2 0 0 0 false hPk.out hms hrd.out).mono ?_
          rintro e w5 ⟨rfl, hF⟩
          replace hE := hE2
          replace hPk := hide (hPk.out.ext hF)
          replace bP := hide (bP.out.ext hF)
          try clear bP_0 bP_1 bP_lt
          obtain ⟨bP_0, bP_1, bP_lt⟩ := bP.out.at2
          replace hE := hide (ext_trans hE.out hF)
          clear hF
          go_wp2_with fail
          refine (implChainValid_yes c2 0 hPk.out hms hok.out).mono ?_
          rintro e w6 ⟨rfl, hF⟩
          replace bP := hide (bP.out.ext hF)
          try clear bP_0 bP_1 bP_lt
          obtain ⟨bP_0, bP_1, bP_lt⟩ := bP.out.at2
          replace hE := hide (ext_trans hE.out hF)
          clear hF
          have hz : ((rl.length : Int) == (ids.length : Int)) = true := by have := hnl.out; simp; omega
          go_wp2_with fail
          go_ret
          exact ⟨rfl, hE.out⟩
end Go.Proofs.Ytkmfjiepkdidgaa
