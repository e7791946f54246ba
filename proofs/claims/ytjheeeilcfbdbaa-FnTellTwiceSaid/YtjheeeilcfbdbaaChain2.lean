/-
  Contracts: chains: validity, the program's.
-/
import Derived.Test.YtjheeeilcfbdbaaChain1
set_option linter.all false
set_option maxRecDepth 100000
namespace Go.Proofs.Ytjheeeilcfbdbaa
open Go.RowKit
attribute [local go_sem ↓] Go.wp_at_zero Go.wp_at_succ

theorem not_ok {v : Int} {ns : List Nd} {k : Nat} (hk : k < ns.length) (h : ¬ Fits ns k) : ¬ ChOk v ns := fun hc => h (hc.2.2.1 k hk)

set_option maxHeartbeats 3200000 in
theorem implChainValid_any {A : Option Addr} {ns : List Nd} {r : Bool} (c : Nat) (v : Int) {w : World} (h : NodesR w A ns) (hb : bulk ns ≤ 1048576) (hr : r = true ↔ ChOk v ns) :
    Calls Try.prog 12 #[.agg #[.int .i64 v, .slice A ns.length c]] w fun e w' => e = .returned (.bool r) ∧ Ext w w' := by
  have hl := bulk_len ns
  have hE0 := hide (ext_alloc (ext_refl w) (.cells #[.int .i64 v, .slice A ns.length c] 25))
  have hN0 := hide (h.ext hE0.out)
  have bC0 := hide (Blk.newAt w 25 #[.int .i64 v, .slice A ns.length c] (g := w.heap.size) rfl)
  clear h
  replace hr := hide hr
  by_cases hv0 : v < 0
  · have hf := hide (iff_false hr.out (fun hc => by have := hc.1; omega))
    go_enter Try.func12, Try.ntmps12
    go_wp2_with fail
    go_ret
    exact ⟨ret_bool hf.out.symm, hE0.out⟩
  by_cases hv1 : 999 < v
  · have hf := hide (iff_false hr.out (fun hc => by have := hc.1; omega))
    go_enter Try.func12, Try.ntmps12
    go_wp2_with fail
    go_ret
    exact ⟨ret_bool hf.out.symm, hE0.out⟩
  by_cases hn0 : ns.length < 1
  · have hf := hide (iff_false hr.out (fun hc => by have := hc.2.1; omega))
    go_enter Try.func12, Try.ntmps12
    go_wp2_with fail
    go_ret
    exact ⟨ret_bool hf.out.symm, hE0.out⟩
  by_cases hn1 : 5 < ns.length
  · have hf := hide (iff_false hr.out (fun hc => by have := hc.2.1; omega))
    go_enter Try.func12, Try.ntmps12
    go_wp2_with fail
    go_ret
    exact ⟨ret_bool hf.out.symm, hE0.out⟩
  go_enter Try.func12, Try.ntmps12
  go_wp2_with fail
  go_loopw [30] (fun i wr => ∃ k : Nat, k ≤ ns.length ∧ i = .int .i64 k ∧ Hid (Ext (w.alloc (.cells #[.int .i64 v, .slice A ns.length c] 25)) wr) ∧ Hid (∀ j, j < k → Fits ns j)) (fun i _ => ns.length - (intOf i).toNat)
  case atStart => exact ⟨0, Nat.zero_le _, rfl, hide (ext_refl _), hide (fun j hj => absurd hj (Nat.not_lt_zero _))⟩
  case round =>
    obtain ⟨k, hk, rfl, hE, hT⟩ := hrel
    have hN := hide (hN0.out.ext hE.out)
    have bC := hide (bC0.out.ext hE.out)
    try clear bC_0 bC_1 bC_lt
    obtain ⟨bC_0, bC_1, bC_lt⟩ := bC.out.at2
    by_cases hlt : k < ns.length
    · obtain ⟨b, o, x, l, j, B, d, hA, hbl, hn, hld, hdm, hB, c0, c1, c2, c1', c2'⟩ := node_at hN.out hlt
      subst hA
      replace hn := hide hn
      replace hB := hide hB
      have hlm : l.length ≤ 1048576 := bulk_of hb hn.out
      have c0h := hide c0
      have N := hide (Blk.newAt (wr) 34 #[.int .i64 x, .slice B l.length d, .int .i64 j] (g := wr.heap.size) (by simp))
      replace hB := hide (hB.out.ext (ext_alloc (ext_refl (wr)) (.cells #[.int .i64 x, .slice B l.length d, .int .i64 j] 34)))
      replace hN := hide (hN.out.ext (ext_alloc (ext_refl (wr)) (.cells #[.int .i64 x, .slice B l.length d, .int .i64 j] 34)))
      replace bC := hide (bC.out.ext (ext_alloc (ext_refl (wr)) (.cells #[.int .i64 x, .slice B l.length d, .int .i64 j] 34)))
      replace hE := hide (ext_alloc hE.out (.cells #[.int .i64 x, .slice B l.length d, .int .i64 j] 34))
      go_wp2_with fail
      refine (implNodeValid_any d x j hB.out hlm).mono ?_
      rintro e w1 ⟨rfl, hF⟩
      clear c0 c1 c2 c1' c2'
      replace hB := hide (hB.out.ext hF)
      replace hN := hide (hN.out.ext hF)
      replace bC := hide (bC.out.ext hF)
      replace N := hide (N.out.ext hF)
      try clear bC_0 bC_1 bC_lt
      obtain ⟨bC_0, bC_1, bC_lt⟩ := bC.out.at2
      try clear N_0 N_1 N_2 N_lt
      obtain ⟨N_0, N_1, N_2, N_lt⟩ := N.out.at3
      replace hE := hide (ext_trans hE.out hF)
      clear hF
      by_cases hok : ndOk ⟨x, l, j⟩ = true
      · go_wp2_with fail
        refine (chainPlace_any c v x hN.out hb).mono ?_
        rintro e w2 ⟨p, rfl, hF, hP⟩
        replace hP := hide hP
        replace hB := hide (hB.out.ext hF)
        replace hN := hide (hN.out.ext hF)
        replace bC := hide (bC.out.ext hF)
        replace N := hide (N.out.ext hF)
        try clear bC_0 bC_1 bC_lt
        obtain ⟨bC_0, bC_1, bC_lt⟩ := bC.out.at2
        try clear N_0 N_1 N_2 N_lt
        obtain ⟨N_0, N_1, N_2, N_lt⟩ := N.out.at3
        replace hE := hide (ext_trans hE.out hF)
        clear hF
        by_cases hpk : p = k
        · have ht : (p != (k : Int)) = false := by simpa using hpk
          have hids : Hid (∀ j', j' < k → ∀ m, ns[j']? = some m → m.id ≠ x) := hide (by
            rcases hP.out with ⟨k', hk', -, hj⟩ | ⟨hm, hj⟩
            · have : k' = k := by omega
              subst this
              exact hj
            · omega)
          replace hpk := hide hpk
          clear hP
          by_cases hk0 : k = 0
          · subst hk0
            go_wp2_with fail
            go_roundw
            case rel =>
              refine ⟨1, by omega, rfl, hide (hE.out), hide (fun j' hj' => ?_)⟩
              have : j' = 0 := by omega
              subst this
              intro n hn'
              rw [hn.out] at hn'
              cases hn'
              exact ⟨hok, hids.out, fun h0 => absurd h0 (Nat.lt_irrefl _)⟩
            case measure => simp [intOf]; omega
          · obtain ⟨q, rfl⟩ : ∃ q, k = q + 1 := ⟨k - 1, by omega⟩
            have hk0' : (((q + 1 : Nat) : Int) == 0) = false := by simp; omega
            obtain ⟨b2, o2, x2, l2, j2, B2, d2, hA2, hbl2, hn2, hld2, hdm2, hB2, a0, a1, a2, a1', a2'⟩ := node_at hN.out (i := q) (by omega)
            cases hA2
            replace hn2 := hide hn2
            replace hB2 := hide hB2
            have hlm2 : l2.length ≤ 1048576 := bulk_of hb hn2.out
            have H := hide (Blk.newAt (w2) 34 #[.int .i64 x2, .slice B2 l2.length d2, .int .i64 j2] (g := w2.heap.size) (by simp))
            replace hB := hide (hB.out.ext (ext_alloc (ext_refl (w2)) (.cells #[.int .i64 x2, .slice B2 l2.length d2, .int .i64 j2] 34)))
            replace hB2 := hide (hB2.out.ext (ext_alloc (ext_refl (w2)) (.cells #[.int .i64 x2, .slice B2 l2.length d2, .int .i64 j2] 34)))
            replace hN := hide (hN.out.ext (ext_alloc (ext_refl (w2)) (.cells #[.int .i64 x2, .slice B2 l2.length d2, .int .i64 j2] 34)))
            replace bC := hide (bC.out.ext (ext_alloc (ext_refl (w2)) (.cells #[.int .i64 x2, .slice B2 l2.length d2, .int .i64 j2] 34)))
            replace N := hide (N.out.ext (ext_alloc (ext_refl (w2)) (.cells #[.int .i64 x2, .slice B2 l2.length d2, .int .i64 j2] 34)))
            replace hE := hide (ext_alloc hE.out (.cells #[.int .i64 x2, .slice B2 l2.length d2, .int .i64 j2] 34))
            go_wp2_with fail
            refine (implLogBegins_any d d2 hB.out hB2.out hlm hlm2).mono ?_
            rintro e w3 ⟨rfl, hF⟩
            clear a0 a1 a2 a1' a2'
            replace hN := hide (hN.out.ext hF)
            replace bC := hide (bC.out.ext hF)
            replace N := hide (N.out.ext hF)
            replace H := hide (H.out.ext hF)
            try clear bC_0 bC_1 bC_lt
            obtain ⟨bC_0, bC_1, bC_lt⟩ := bC.out.at2
            try clear N_0 N_1 N_2 N_lt
            obtain ⟨N_0, N_1, N_2, N_lt⟩ := N.out.at3
            try clear H_0 H_1 H_2 H_lt
            obtain ⟨H_0, H_1, H_2, H_lt⟩ := H.out.at3
            replace hE := hide (ext_trans hE.out hF)
            clear hF
            by_cases hbg : begins l l2 = true
            · by_cases hdn : j < j2
              · have hf := hide (iff_false hr.out (not_ok hlt (fun hc => by have := ((hc _ hn.out).2.2 (by omega) _ hn2.out).2; simp only at this; omega)))
                go_wp2_with fail
                go_ret
                exact ⟨ret_bool hf.out.symm, ext_trans hE0.out hE.out⟩
              · go_wp2_with fail
                go_roundw
                case rel =>
                  refine ⟨q + 1 + 1, by omega, by go_num, hide hE.out, hide (fun j' hj' => ?_)⟩
                  by_cases e : j' = q + 1
                  · subst e
                    intro n hn'
                    rw [hn.out] at hn'
                    cases hn'
                    refine ⟨hok, hids.out, fun _ m hm' => ?_⟩
                    have e2 := hn2.out.symm.trans hm'
                    cases e2
                    exact ⟨hbg, by simp only; omega⟩
                  · exact hT.out j' (by omega)
                case measure => simp [intOf]; omega
            · have hbg : begins l l2 = false := by simpa using hbg
              have hf := hide (iff_false hr.out (not_ok hlt (fun hc => by have := ((hc _ hn.out).2.2 (by omega) _ hn2.out).1; rw [hbg] at this; cases this)))
              go_wp2_with fail
              go_ret
              exact ⟨ret_bool hf.out.symm, ext_trans hE0.out hE.out⟩
        · have ht : (p != (k : Int)) = true := by simpa using hpk
          have hf := hide (iff_false hr.out (not_ok hlt (fun hc => by
            obtain ⟨-, hc, -⟩ := hc _ hn.out
            rcases hP.out with ⟨k', hk', ⟨n', hn', hid⟩, hj⟩ | ⟨-, hj⟩
            · have h1 : ¬ k' < k := fun h1 => hc k' h1 n' hn' hid
              have h2 : ¬ k < k' := fun h2 => hj k h2 _ hn.out rfl
              exact hpk (by omega)
            · exact hj k _ hn.out rfl)))
          replace hpk := hide hpk
          go_wp2_with fail
          go_ret
          exact ⟨ret_bool hf.out.symm, ext_trans hE0.out hE.out⟩
      · have hok : ndOk ⟨x, l, j⟩ = false := by simpa using hok
        have hf := hide (iff_false hr.out (not_ok hlt (fun hc => by have := (hc _ hn.out).1; rw [hok] at this; cases this)))
        go_wp2_with fail
        go_ret
        exact ⟨ret_bool hf.out.symm, ext_trans hE0.out hE.out⟩
    · go_wp2_with fail
      refine (implTailOf_any c v hN.out hb (by omega)).mono ?_
      rintro e w1 ⟨x, l, j, B, d, hn, rfl, hld, hdm, hB, hF⟩
      replace hn := hide hn
      clear hB
      replace hE := hide (ext_trans hE.out hF)
      clear hF
      by_cases hj : j = l.length
      · have ht : (j == (l.length : Int)) = true := by simpa using hj
        have ht2 : decide (j = (l.length : Int)) = true := by simpa using hj
        have hf := hide (iff_true hr.out ⟨by omega, by omega, fun i hi => hT.out i (by omega), fun n hn' => by rw [hn.out] at hn'; cases hn'; exact hj⟩)
        replace hj := hide hj
        go_wp2_with fail
        go_ret
        exact ⟨ret_bool hf.out.symm, ext_alloc (ext_trans hE0.out hE.out) _⟩
      · have ht : (j == (l.length : Int)) = false := by simpa using hj
        have ht2 : decide (j = (l.length : Int)) = false := by simpa using hj
        have hf := hide (iff_false hr.out (fun hc => hj (hc.2.2.2 _ hn.out)))
        replace hj := hide hj
        go_wp2_with fail
        go_ret
        exact ⟨ret_bool hf.out.symm, ext_alloc (ext_trans hE0.out hE.out) _⟩
end Go.Proofs.Ytjheeeilcfbdbaa
