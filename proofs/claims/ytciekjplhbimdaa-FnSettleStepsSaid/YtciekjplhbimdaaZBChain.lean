/-
  Words and contracts, joined: Chain1, Chain2, Chain3, Chain4.
-/
import Derived.Test.YtciekjplhbimdaaZCMem
/-
  Contracts: chains: the place of a node, the tail, validity, both.
-/
set_option linter.all false
set_option maxRecDepth 100000
namespace Go.Proofs.YtciekjplhbimdaaZ
open Go.RowKit
attribute [local go_sem ↓] Go.wp_at_zero Go.wp_at_succ

def Placed (w : World) (ns : List Nd) (id : Int) (e : Ending) (w' : World) : Prop :=
  ∃ r : Int, e = .returned (.int .i64 r) ∧ Ext w w' ∧ ((∃ k : Nat, r = k ∧ (∃ n, ns[k]? = some n ∧ n.id = id) ∧ ∀ j, j < k → ∀ n, ns[j]? = some n → n.id ≠ id) ∨ (r = -1 ∧ ∀ (j : Nat) n, ns[j]? = some n → n.id ≠ id))

set_option maxHeartbeats 800000 in
theorem chainPlace_any {A : Option Addr} {ns : List Nd} (c : Nat) (v id : Int) {w : World} (h : NodesR w A ns) (hb : bulk ns ≤ 1048576) :
    Calls Alt.prog 39 #[.agg #[.int .i64 v, .slice A ns.length c], .int .i64 id] w (Placed w ns id) := by
  replace h := hide h
  have hl := bulk_len ns
  go_enter Alt.func39, Try.ntmps39
  go_wp2_with fail
  go_loopw [10] (fun i wr => ∃ k : Nat, k ≤ ns.length ∧ i = .int .i64 k ∧ Hid (Ext w wr) ∧ Hid (∀ j, j < k → ∀ n, ns[j]? = some n → n.id ≠ id)) (fun i _ => ns.length - (intOf i).toNat)
  case atStart => exact ⟨0, Nat.zero_le _, rfl, hide (ext_alloc (ext_refl _) _), hide (fun j hj => absurd hj (Nat.not_lt_zero _))⟩
  case round =>
    obtain ⟨k, hk, rfl, hE, hT⟩ := hrel
    by_cases hlt : k < ns.length
    · obtain ⟨b, o, x, l, j, B, d, hA, hbl, hn, hld, hdm, hB, c0, c1, c2, c1', c2'⟩ := node_at (h.out.ext hE.out) hlt
      subst hA
      replace hn := hide hn
      clear hB
      by_cases hx : x = id
      · have ht : (x == id) = true := by simpa using hx
        replace hx := hide hx
        go_wp2_with fail
        go_ret
        exact ⟨k, rfl, ext_alloc hE.out _, .inl ⟨k, rfl, ⟨_, hn.out, hx.out⟩, hT.out⟩⟩
      · have ht : (x == id) = false := by simpa using hx
        replace hx := hide hx
        go_wp2_with fail
        go_roundw
        case rel =>
          refine ⟨k + 1, by omega, by go_num, hide (ext_alloc hE.out _), hide (fun j' hj' n hn' => ?_)⟩
          by_cases e : j' = k
          · subst e
            rw [hn.out] at hn'
            cases hn'
            exact hx.out
          · exact hT.out j' (by omega) n hn'
        case measure => simp [intOf]; omega
    · go_wp2
      go_ret
      refine ⟨-1, rfl, hE.out, .inr ⟨rfl, fun j n hn => hT.out j ?_ n hn⟩⟩
      have := (List.getElem?_eq_some_iff.1 hn).1
      omega

/-- The node at a place is handed back. -/
def GotAt (w : World) (ns : List Nd) (i : Nat) (e : Ending) (w' : World) : Prop :=
  ∃ (x : Int) (l : List Upd) (j : Int) (B : Option Addr) (d : Nat), ns[i]? = some ⟨x, l, j⟩ ∧ e = .returned (.agg #[.int .i64 x, .slice B l.length d, .int .i64 j]) ∧ l.length ≤ d ∧ d ≤ maxLen ∧ LogR w' B l ∧ Ext w w'
set_option maxHeartbeats 800000 in
theorem implTailOf_any {A : Option Addr} {ns : List Nd} (c : Nat) (v : Int) {w : World} (h : NodesR w A ns) (hb : bulk ns ≤ 1048576) (hp : 1 ≤ ns.length) :
    Calls Alt.prog 41 #[.agg #[.int .i64 v, .slice A ns.length c]] w (GotAt w ns (ns.length - 1)) := by
  have hl := bulk_len ns
  obtain ⟨q, hq⟩ : ∃ q, ns.length = q + 1 := ⟨ns.length - 1, by omega⟩
  obtain ⟨b, o, x, l, j, B, d, hA, hbl, hn, hld, hdm, hB, c0, c1, c2, c1', c2'⟩ := node_at h (i := q) (by omega)
  subst hA
  rw [hq] at hl ⊢
  replace hB := hide hB
  replace hn := hide hn
  clear h
  replace hq := hide hq
  go_enter Alt.func41, Try.ntmps41
  go_wp2_with fail
  refine bodyPost_ret (v := .agg #[.int .i64 x, .slice B l.length d, .int .i64 j]) (by simp [results, Try.results41, go_sem]) rfl ?_
  exact ⟨x, l, j, B, d, hn.out, rfl, hld, hdm, hB.out.ext (ext_alloc (ext_alloc (ext_refl _) _) _), ext_alloc (ext_alloc (ext_refl _) _) _⟩


end Go.Proofs.YtciekjplhbimdaaZ

/-
  Contracts: chains: validity, the program's.
-/
set_option linter.all false
namespace Go.Proofs.YtciekjplhbimdaaZ
open Go.RowKit
attribute [local go_sem ↓] Go.wp_at_zero Go.wp_at_succ

theorem not_ok {v : Int} {ns : List Nd} {k : Nat} (hk : k < ns.length) (h : ¬ Fits ns k) : ¬ ChOk v ns := fun hc => h (hc.2.2.1 k hk)

set_option maxHeartbeats 3200000 in
theorem implChainValid_any {A : Option Addr} {ns : List Nd} {r : Bool} (c : Nat) (v : Int) {w : World} (h : NodesR w A ns) (hb : bulk ns ≤ 1048576) (hr : r = true ↔ ChOk v ns) :
    Calls Alt.prog 15 #[.agg #[.int .i64 v, .slice A ns.length c]] w fun e w' => e = .returned (.bool r) ∧ Ext w w' := by
  have hl := bulk_len ns
  have hE0 := hide (ext_alloc (ext_refl w) (.cells #[.int .i64 v, .slice A ns.length c] 25))
  have hN0 := hide (h.ext hE0.out)
  have bC0 := hide (Blk.newAt w 25 #[.int .i64 v, .slice A ns.length c] (g := w.heap.size) rfl)
  clear h
  replace hr := hide hr
  by_cases hv0 : v < 0
  · have hf := hide (iff_false hr.out (fun hc => by have := hc.1; omega))
    go_enter Alt.func15, Try.ntmps15
    go_wp2_with fail
    go_ret
    exact ⟨ret_bool hf.out.symm, hE0.out⟩
  by_cases hv1 : 999 < v
  · have hf := hide (iff_false hr.out (fun hc => by have := hc.1; omega))
    go_enter Alt.func15, Try.ntmps15
    go_wp2_with fail
    go_ret
    exact ⟨ret_bool hf.out.symm, hE0.out⟩
  by_cases hn0 : ns.length < 1
  · have hf := hide (iff_false hr.out (fun hc => by have := hc.2.1; omega))
    go_enter Alt.func15, Try.ntmps15
    go_wp2_with fail
    go_ret
    exact ⟨ret_bool hf.out.symm, hE0.out⟩
  by_cases hn1 : 5 < ns.length
  · have hf := hide (iff_false hr.out (fun hc => by have := hc.2.1; omega))
    go_enter Alt.func15, Try.ntmps15
    go_wp2_with fail
    go_ret
    exact ⟨ret_bool hf.out.symm, hE0.out⟩
  go_enter Alt.func15, Try.ntmps15
  go_wp2_with fail
  go_loopw [30] (fun i wr => ∃ k : Nat, k ≤ ns.length ∧ i = .int .i64 k ∧ Hid (Ext (w.alloc (.cells #[.int .i64 v, .slice A ns.length c] 25)) wr) ∧ Hid (∀ j, j < k → Fits ns j)) (fun i _ => ns.length - (intOf i).toNat)
  case atStart => exact ⟨0, Nat.zero_le _, rfl, hide (ext_refl _), hide (fun j hj => absurd hj (Nat.not_lt_zero _))⟩
  case round =>
    obtain ⟨k, hk, rfl, hE, hT⟩ := hrel
    have hN := hide (hN0.out.ext hE.out)
    have bC := hide (bC0.out.ext hE.out)
    try clear bC_0 bC_1 bC_lt
    obtain ⟨bC_0, bC_1, bC_lt⟩ := bC.out.at2
    by_cases hlt : k < ns.length
    · obtain ⟨b, o, x, l, j, B, d, hA, hbl, hn, hld, hdm, hB, c0, c1, c2, c1', c2'⟩ := node_at hN.out hlt
      subst hA
      replace hn := hide hn
      replace hB := hide hB
      have hlm : l.length ≤ 1048576 := bulk_of hb hn.out
      have c0h := hide c0
      have N := hide (Blk.newAt (wr) 36 #[.int .i64 x, .slice B l.length d, .int .i64 j] (g := wr.heap.size) (by simp))
      replace hB := hide (hB.out.ext (ext_alloc (ext_refl (wr)) (.cells #[.int .i64 x, .slice B l.length d, .int .i64 j] 36)))
      replace hN := hide (hN.out.ext (ext_alloc (ext_refl (wr)) (.cells #[.int .i64 x, .slice B l.length d, .int .i64 j] 36)))
      replace bC := hide (bC.out.ext (ext_alloc (ext_refl (wr)) (.cells #[.int .i64 x, .slice B l.length d, .int .i64 j] 36)))
      replace hE := hide (ext_alloc hE.out (.cells #[.int .i64 x, .slice B l.length d, .int .i64 j] 36))
      go_wp2_with fail
      refine (implNodeValid_any d x j hB.out hlm).mono ?_
      rintro e w1 ⟨rfl, hF⟩
      clear c0 c1 c2 c1' c2'
      replace hB := hide (hB.out.ext hF)
      replace hN := hide (hN.out.ext hF)
      replace bC := hide (bC.out.ext hF)
      replace N := hide (N.out.ext hF)
      try clear bC_0 bC_1 bC_lt
      obtain ⟨bC_0, bC_1, bC_lt⟩ := bC.out.at2
      try clear N_0 N_1 N_2 N_lt
      obtain ⟨N_0, N_1, N_2, N_lt⟩ := N.out.at3
      replace hE := hide (ext_trans hE.out hF)
      clear hF
      by_cases hok : ndOk ⟨x, l, j⟩ = true
      · go_wp2_with fail
        refine (chainPlace_any c v x hN.out hb).mono ?_
        rintro e w2 ⟨p, rfl, hF, hP⟩
        replace hP := hide hP
        replace hB := hide (hB.out.ext hF)
        replace hN := hide (hN.out.ext hF)
        replace bC := hide (bC.out.ext hF)
        replace N := hide (N.out.ext hF)
        try clear bC_0 bC_1 bC_lt
        obtain ⟨bC_0, bC_1, bC_lt⟩ := bC.out.at2
        try clear N_0 N_1 N_2 N_lt
        obtain ⟨N_0, N_1, N_2, N_lt⟩ := N.out.at3
        replace hE := hide (ext_trans hE.out hF)
        clear hF
        by_cases hpk : p = k
        · have ht : (p != (k : Int)) = false := by simpa using hpk
          have hids : Hid (∀ j', j' < k → ∀ m, ns[j']? = some m → m.id ≠ x) := hide (by
            rcases hP.out with ⟨k', hk', -, hj⟩ | ⟨hm, hj⟩
            · have : k' = k := by omega
              subst this
              exact hj
            · omega)
          replace hpk := hide hpk
          clear hP
          by_cases hk0 : k = 0
          · subst hk0
            go_wp2_with fail
            go_roundw
            case rel =>
              refine ⟨1, by omega, rfl, hide (hE.out), hide (fun j' hj' => ?_)⟩
              have : j' = 0 := by omega
              subst this
              intro n hn'
              rw [hn.out] at hn'
              cases hn'
              exact ⟨hok, hids.out, fun h0 => absurd h0 (Nat.lt_irrefl _)⟩
            case measure => simp [intOf]; omega
          · obtain ⟨q, rfl⟩ : ∃ q, k = q + 1 := ⟨k - 1, by omega⟩
            have hk0' : (((q + 1 : Nat) : Int) == 0) = false := by simp; omega
            obtain ⟨b2, o2, x2, l2, j2, B2, d2, hA2, hbl2, hn2, hld2, hdm2, hB2, a0, a1, a2, a1', a2'⟩ := node_at hN.out (i := q) (by omega)
            cases hA2
            replace hn2 := hide hn2
            replace hB2 := hide hB2
            have hlm2 : l2.length ≤ 1048576 := bulk_of hb hn2.out
            have H := hide (Blk.newAt (w2) 36 #[.int .i64 x2, .slice B2 l2.length d2, .int .i64 j2] (g := w2.heap.size) (by simp))
            replace hB := hide (hB.out.ext (ext_alloc (ext_refl (w2)) (.cells #[.int .i64 x2, .slice B2 l2.length d2, .int .i64 j2] 36)))
            replace hB2 := hide (hB2.out.ext (ext_alloc (ext_refl (w2)) (.cells #[.int .i64 x2, .slice B2 l2.length d2, .int .i64 j2] 36)))
            replace hN := hide (hN.out.ext (ext_alloc (ext_refl (w2)) (.cells #[.int .i64 x2, .slice B2 l2.length d2, .int .i64 j2] 36)))
            replace bC := hide (bC.out.ext (ext_alloc (ext_refl (w2)) (.cells #[.int .i64 x2, .slice B2 l2.length d2, .int .i64 j2] 36)))
            replace N := hide (N.out.ext (ext_alloc (ext_refl (w2)) (.cells #[.int .i64 x2, .slice B2 l2.length d2, .int .i64 j2] 36)))
            replace hE := hide (ext_alloc hE.out (.cells #[.int .i64 x2, .slice B2 l2.length d2, .int .i64 j2] 36))
            go_wp2_with fail
            refine (implLogBegins_any d d2 hB.out hB2.out hlm hlm2).mono ?_
            rintro e w3 ⟨rfl, hF⟩
            clear a0 a1 a2 a1' a2'
            replace hN := hide (hN.out.ext hF)
            replace bC := hide (bC.out.ext hF)
            replace N := hide (N.out.ext hF)
            replace H := hide (H.out.ext hF)
            try clear bC_0 bC_1 bC_lt
            obtain ⟨bC_0, bC_1, bC_lt⟩ := bC.out.at2
            try clear N_0 N_1 N_2 N_lt
            obtain ⟨N_0, N_1, N_2, N_lt⟩ := N.out.at3
            try clear H_0 H_1 H_2 H_lt
            obtain ⟨H_0, H_1, H_2, H_lt⟩ := H.out.at3
            replace hE := hide (ext_trans hE.out hF)
            clear hF
            by_cases hbg : begins l l2 = true
            · by_cases hdn : j < j2
              · have hf := hide (iff_false hr.out (not_ok hlt (fun hc => by have := ((hc _ hn.out).2.2 (by omega) _ hn2.out).2; simp only at this; omega)))
                go_wp2_with fail
                go_ret
                exact ⟨ret_bool hf.out.symm, ext_trans hE0.out hE.out⟩
              · go_wp2_with fail
                go_roundw
                case rel =>
                  refine ⟨q + 1 + 1, by omega, by go_num, hide hE.out, hide (fun j' hj' => ?_)⟩
                  by_cases e : j' = q + 1
                  · subst e
                    intro n hn'
                    rw [hn.out] at hn'
                    cases hn'
                    refine ⟨hok, hids.out, fun _ m hm' => ?_⟩
                    have e2 := hn2.out.symm.trans hm'
                    cases e2
                    exact ⟨hbg, by simp only; omega⟩
                  · exact hT.out j' (by omega)
                case measure => simp [intOf]; omega
            · have hbg : begins l l2 = false := by simpa using hbg
              have hf := hide (iff_false hr.out (not_ok hlt (fun hc => by have := ((hc _ hn.out).2.2 (by omega) _ hn2.out).1; rw [hbg] at this; cases this)))
              go_wp2_with fail
              go_ret
              exact ⟨ret_bool hf.out.symm, ext_trans hE0.out hE.out⟩
        · have ht : (p != (k : Int)) = true := by simpa using hpk
          have hf := hide (iff_false hr.out (not_ok hlt (fun hc => by
            obtain ⟨-, hc, -⟩ := hc _ hn.out
            rcases hP.out with ⟨k', hk', ⟨n', hn', hid⟩, hj⟩ | ⟨-, hj⟩
            · have h1 : ¬ k' < k := fun h1 => hc k' h1 n' hn' hid
              have h2 : ¬ k < k' := fun h2 => hj k h2 _ hn.out rfl
              exact hpk (by omega)
            · exact hj k _ hn.out rfl)))
          replace hpk := hide hpk
          go_wp2_with fail
          go_ret
          exact ⟨ret_bool hf.out.symm, ext_trans hE0.out hE.out⟩
      · have hok : ndOk ⟨x, l, j⟩ = false := by simpa using hok
        have hf := hide (iff_false hr.out (not_ok hlt (fun hc => by have := (hc _ hn.out).1; rw [hok] at this; cases this)))
        go_wp2_with fail
        go_ret
        exact ⟨ret_bool hf.out.symm, ext_trans hE0.out hE.out⟩
    · go_wp2_with fail
      refine (implTailOf_any c v hN.out hb (by omega)).mono ?_
      rintro e w1 ⟨x, l, j, B, d, hn, rfl, hld, hdm, hB, hF⟩
      replace hn := hide hn
      clear hB
      replace hE := hide (ext_trans hE.out hF)
      clear hF
      by_cases hj : j = l.length
      · have ht : (j == (l.length : Int)) = true := by simpa using hj
        have ht2 : decide (j = (l.length : Int)) = true := by simpa using hj
        have hf := hide (iff_true hr.out ⟨by omega, by omega, fun i hi => hT.out i (by omega), fun n hn' => by rw [hn.out] at hn'; cases hn'; exact hj⟩)
        replace hj := hide hj
        go_wp2_with fail
        go_ret
        exact ⟨ret_bool hf.out.symm, ext_alloc (ext_trans hE0.out hE.out) _⟩
      · have ht : (j == (l.length : Int)) = false := by simpa using hj
        have ht2 : decide (j = (l.length : Int)) = false := by simpa using hj
        have hf := hide (iff_false hr.out (fun hc => hj (hc.2.2.2 _ hn.out)))
        replace hj := hide hj
        go_wp2_with fail
        go_ret
        exact ⟨ret_bool hf.out.symm, ext_alloc (ext_trans hE0.out hE.out) _⟩
end Go.Proofs.YtciekjplhbimdaaZ

/-
  Contracts: what two logs have in common, the reference's, as a quiet call; chains: validity, the reference's.
-/
set_option linter.all false
namespace Go.Proofs.YtciekjplhbimdaaZ
open Go.RowKit
attribute [local go_sem ↓] Go.wp_at_zero Go.wp_at_succ

theorem quiet_more {w wr : World} (h : ∃ n, wr = w.drewN n) (k : Nat) : ∃ n, wr.drewN k = w.drewN n := by
  obtain ⟨n, rfl⟩ := h
  exact ⟨n + k, by rw [World.drewN_drewN]⟩
theorem quiet_one {w wr : World} (h : ∃ n, wr = w.drewN n) : ∃ n, wr.drew = w.drewN n := by
  obtain ⟨n, rfl⟩ := h
  exact ⟨n + 1, rfl⟩
theorem l1Common_q {A B : Option Addr} {l m : List Upd} (c d : Nat) {w : World} (h : LogR w A l) (h' : LogR w B m) (hm : l.length ≤ 1048576) (hm' : m.length ≤ 1048576) :
    Calls Alt.prog 48 #[.slice A l.length c, .slice B m.length d] w fun e w' => e = .returned (.int .i64 (common l m)) ∧ ∃ n, w' = w.drewN n := by
  have h := hide h
  have h' := hide h'
  go_enter Alt.func48, Try.ntmps48
  go_wp2_with fail
  go_loopw [5] (fun i wr => ∃ k : Nat, k ≤ l.length ∧ k ≤ m.length ∧ i = .int .i64 k ∧ Hid (∃ n, wr = w.drewN n) ∧ Hid (∀ j, j < k → l[j]? = m[j]?)) (fun i _ => l.length - (intOf i).toNat)
  case atStart => exact ⟨0, Nat.zero_le _, Nat.zero_le _, rfl, hide ⟨0, rfl⟩, hide (fun j hj => absurd hj (Nat.not_lt_zero _))⟩
  case round =>
    obtain ⟨k, hk, hk', rfl, hE, hT⟩ := hrel
    have hX : Ext w wr := by obtain ⟨n, e⟩ := hE.out; rw [e]; exact ext_drewN (ext_refl _) n
    by_cases h1 : k < l.length
    · by_cases h2 : k < m.length
      · obtain ⟨b, o, x, y, hA, hb, hxy, hc0, hc1⟩ := log_at (h.out.ext hX) h1
        subst hA
        obtain ⟨b', o', x', y', hA', hb', hxy', hc0', hc1'⟩ := log_at (h'.out.ext hX) h2
        subst hA'
        have hxy := hide hxy
        have hxy' := hide hxy'
        by_cases hv : x = x'
        · by_cases hv' : y = y'
          · subst hv hv'
            go_wp2_with fail
            go_quiet (fail)
            go_wp2
            go_roundw
            case rel =>
              refine ⟨k + 1, by omega, by omega, by go_num, hide (by first | exact hE.out | exact quiet_more hE.out _ | exact quiet_one hE.out), hide (fun j hj => ?_)⟩
              by_cases e : j = k
              · subst e; rw [List.getElem?_eq_getElem h1, List.getElem?_eq_getElem h2, hxy.out, hxy'.out]
              · exact hT.out j (by omega)
            case measure => simp [intOf]; omega
          · have fin := hide (common_eq k l m (by omega) (by omega) hT.out (fun _ _ => by rw [List.getElem?_eq_getElem h1, List.getElem?_eq_getElem h2, hxy.out, hxy'.out]; simp [hv']))
            go_wp2_with fail
            go_quiet (fail)
            go_wp2
            go_ret
            exact ⟨ret_int (by rw [fin.out]), by first | exact hE.out | exact quiet_more hE.out _ | exact quiet_one hE.out⟩
        · have fin := hide (common_eq k l m (by omega) (by omega) hT.out (fun _ _ => by rw [List.getElem?_eq_getElem h1, List.getElem?_eq_getElem h2, hxy.out, hxy'.out]; simp [hv]))
          go_wp2_with fail
          go_quiet (fail)
          go_wp2
          go_ret
          exact ⟨ret_int (by rw [fin.out]), by first | exact hE.out | exact quiet_more hE.out _ | exact quiet_one hE.out⟩
      · have h2' : decide (k < m.length) = false := by simpa using h2
        have fin := hide (common_eq k l m (by omega) (by omega) hT.out (fun _ h => by omega))
        go_wp2_with fail
        go_quiet (fail)
        go_wp2
        go_ret
        exact ⟨ret_int (by rw [fin.out]), by first | exact hE.out | exact quiet_more hE.out _ | exact quiet_one hE.out⟩
    · have h1' : decide (k < l.length) = false := by simpa using h1
      have fin := hide (common_eq k l m (by omega) (by omega) hT.out (fun h _ => by omega))
      go_wp2_with fail
      go_quiet (fail)
      go_wp2
      go_ret
      exact ⟨ret_int (by rw [fin.out]), by first | exact hE.out | exact quiet_more hE.out _ | exact quiet_one hE.out⟩

def HasId (w : World) (ns : List Nd) (id : Int) (e : Ending) (w' : World) : Prop :=
  ∃ r : Bool, e = .returned (.bool r) ∧ Ext w w' ∧ (r = true ↔ ∃ (j : Nat) (n : Nd), ns[j]? = some n ∧ n.id = id)
set_option maxHeartbeats 800000 in
theorem l4Has_any {A : Option Addr} {ns : List Nd} {m : Nat} (c : Nat) (id : Int) {w : World} (hm : Hid (ns.length = m)) (h : NodesR w A ns) (hb : m ≤ 1048576) :
    Calls Alt.prog 47 #[.slice A m c, .int .i64 id] w (HasId w ns id) := by
  have e := hm.out
  subst e
  clear hm
  replace h := hide h
  go_enter Alt.func47, Try.ntmps47
  go_wp2_with fail
  go_loopw [5] (fun i wr => ∃ k : Nat, k ≤ ns.length ∧ i = .int .i64 k ∧ Hid (Ext w wr) ∧ Hid (∀ j, j < k → ∀ n, ns[j]? = some n → n.id ≠ id)) (fun i _ => ns.length - (intOf i).toNat)
  case atStart => exact ⟨0, Nat.zero_le _, rfl, hide (ext_refl _), hide (fun j hj => absurd hj (Nat.not_lt_zero _))⟩
  case round =>
    obtain ⟨k, hk, rfl, hE, hT⟩ := hrel
    by_cases hlt : k < ns.length
    · obtain ⟨b, o, x, l, j, B, d, hA, hbl, hn, hld, hdm, hB, c0, c1, c2, c1', c2'⟩ := node_at (h.out.ext hE.out) hlt
      subst hA
      replace hn := hide hn
      clear hB
      by_cases hx : x = id
      · have ht : (x == id) = true := by simpa using hx
        replace hx := hide hx
        go_wp2_with fail
        go_ret
        exact ⟨true, rfl, hE.out, by simp only [true_iff]; exact ⟨k, _, hn.out, hx.out⟩⟩
      · have ht : (x == id) = false := by simpa using hx
        replace hx := hide hx
        go_wp2_with fail
        go_roundw
        case rel =>
          refine ⟨k + 1, by omega, by go_num, hide hE.out, hide (fun j' hj' n hn' => ?_)⟩
          by_cases e : j' = k
          · subst e
            rw [hn.out] at hn'
            cases hn'
            exact hx.out
          · exact hT.out j' (by omega) n hn'
        case measure => simp [intOf]; omega
    · go_wp2
      go_ret
      refine ⟨false, rfl, hE.out, ?_⟩
      simp only [Bool.false_eq_true, false_iff]
      rintro ⟨j, n, hn, he⟩
      exact hT.out j (by have := (List.getElem?_eq_some_iff.1 hn).1; omega) n hn he

theorem cell_over {w w1 w' : World} {b o : Nat} {v : Value} (hc : w.cell? ⟨b, o, none⟩ = some v) (hF : Ext w1 w') (hw : w1.heap = w.heap) : w'.cell? ⟨b, o, none⟩ = some v :=
  ext_cell hF ((World.cell?_of_block (by rw [hw])).trans hc)
theorem specNodeValid_no {A : Option Addr} {l : List Upd} (c : Nat) (i j : Int) {w : World} (h : LogR w A l) (hm : l.length ≤ 1048576) (hb : ndOk ⟨i, l, j⟩ = false) :
    Calls Alt.prog 46 #[.agg #[.int .i64 i, .slice A l.length c, .int .i64 j]] w fun e w' => e = .returned (.bool false) ∧ Ext w w' := by
  rw [← hb]; exact specNodeValid_any c i j h hm
set_option maxHeartbeats 6400000 in
theorem specChainValid_any {A : Option Addr} {ns : List Nd} {r : Bool} (c : Nat) (v : Int) {w : World} (h : NodesR w A ns) (hb : bulk ns ≤ 1048576) (hlc : ns.length ≤ c) (hr : r = true ↔ ChOk v ns) :
    Calls Alt.prog 20 #[.agg #[.int .i64 v, .slice A ns.length c]] w fun e w' => e = .returned (.bool r) ∧ Ext w w' := by
  have hl := bulk_len ns
  have hE0 := hide (ext_alloc (ext_refl w) (.cells #[.int .i64 v, .slice A ns.length c] 25))
  have hN0 := hide (h.ext hE0.out)
  have bC0 := hide (Blk.newAt w 25 #[.int .i64 v, .slice A ns.length c] (g := w.heap.size) rfl)
  clear h
  replace hr := hide hr
  go_enter Alt.func20, Try.ntmps20
  go_wp2_with fail
  go_loopw [3] (fun i wr => ∃ k : Nat, k ≤ ns.length ∧ i = .int .i64 k ∧ Hid (Ext (w.alloc (.cells #[.int .i64 v, .slice A ns.length c] 25)) wr) ∧ Hid (∀ j, j < k → Fits ns j ∧ ∀ n, ns[j]? = some n → j + 1 = ns.length → n.done = n.log.length)) (fun i _ => ns.length - (intOf i).toNat)
  case atStart => exact ⟨0, Nat.zero_le _, rfl, hide (ext_refl _), hide (fun j hj => absurd hj (Nat.not_lt_zero _))⟩
  case round =>
    obtain ⟨k, hk, rfl, hE, hT⟩ := hrel
    have hN := hide (hN0.out.ext hE.out)
    have bC := hide (bC0.out.ext hE.out)
    try clear bC_0 bC_1 bC_lt
    obtain ⟨bC_0, bC_1, bC_lt⟩ := bC.out.at2
    by_cases hlt : k < ns.length
    · obtain ⟨b, o, x, l, j, B, d, hA, hbl, hn, hld, hdm, hB, c0, c1, c2, c1', c2'⟩ := node_at hN.out hlt
      subst hA
      replace hn := hide hn
      replace hB := hide hB
      have hlm : l.length ≤ 1048576 := bulk_of hb hn.out
      have N := hide (Blk.newAt (wr) 36 #[.int .i64 x, .slice B l.length d, .int .i64 j] (g := wr.heap.size) (by simp))
      replace hB := hide (hB.out.ext (ext_alloc (ext_refl (wr)) (.cells #[.int .i64 x, .slice B l.length d, .int .i64 j] 36)))
      replace hN := hide (hN.out.ext (ext_alloc (ext_refl (wr)) (.cells #[.int .i64 x, .slice B l.length d, .int .i64 j] 36)))
      replace bC := hide (bC.out.ext (ext_alloc (ext_refl (wr)) (.cells #[.int .i64 x, .slice B l.length d, .int .i64 j] 36)))
      replace hE := hide (ext_alloc hE.out (.cells #[.int .i64 x, .slice B l.length d, .int .i64 j] 36))
      have hl' : k ≤ 1048576 := by omega
      have hkc : (k : Int) ≤ (c : Int) := by omega
      have hk0i : (0 : Int) ≤ (k : Int) := by omega
      go_wp2_with fail
      have hBd := hide (show LogR (wr.alloc (.cells #[.int .i64 x, .slice B l.length d, .int .i64 j] 36)).drew B l from hB.out)
      have hNd := hide (show NodesR (wr.alloc (.cells #[.int .i64 x, .slice B l.length d, .int .i64 j] 36)).drew (some ⟨b, o, none⟩) (ns.take k) from hN.out.take k)
      have htk : Hid ((ns.take k).length = k) := hide (by simp; omega)
      try clear N_0 N_1 N_2 N_lt
      obtain ⟨N_0, N_1, N_2, N_lt⟩ := N.out.at3
      try clear bC_0 bC_1 bC_lt
      obtain ⟨bC_0, bC_1, bC_lt⟩ := bC.out.at2
      by_cases hok : ndOk ⟨x, l, j⟩ = true
      · go_region_held3 (fun w' => (w'.cell? ⟨wr.heap.size, 0, none⟩ = some (.int .i64 x) ∧ w'.cell? ⟨wr.heap.size, 1, none⟩ = some (.slice B l.length d) ∧ w'.cell? ⟨wr.heap.size, 2, none⟩ = some (.int .i64 j) ∧ wr.heap.size < w'.heap.size) ∧ (w'.cell? ⟨w.heap.size, 0, none⟩ = some (.int .i64 v) ∧ w'.cell? ⟨w.heap.size, 1, none⟩ = some (.slice (some ⟨b, o, none⟩) ns.length c) ∧ w.heap.size < w'.heap.size))
          (first | exact ⟨N2.at3, bC2.at2⟩ | exact ⟨N1.at3, bC1.at2⟩ | exact ⟨N.out.at3, bC.out.at2⟩ | go_keep)
          (first
            | ((go_at_call 46; refine (specNodeValid_any d x j hBd.out hlm).mono ?_; rintro e w1 ⟨rfl, hF1⟩; have N1 := N.out.over hF1 rfl; have bC1 := bC.out.over hF1 rfl))
            | ((go_at_call 47; refine (l4Has_any c x htk (hNd.out.ext hF1) hl').mono ?_; rintro e w2 ⟨q, rfl, hF2, hq⟩; have N2 := N1.ext hF2; have bC2 := bC1.ext hF2)))
        have hF := ext_trans (ext_over (ext_refl (wr.alloc (.cells #[.int .i64 x, .slice B l.length d, .int .i64 j] 36))) hF1 rfl rfl rfl rfl) hF2
        clear hF1 hF2 N1 N2 bC1 bC2 hNd hBd htk
        replace hq := hide hq
        clear c0 c1 c2 c1' c2'
        replace hB := hide (hB.out.ext hF)
        replace hN := hide (hN.out.ext hF)
        replace bC := hide (bC.out.ext hF)
        replace N := hide (N.out.ext hF)
        try clear bC_0 bC_1 bC_lt
        obtain ⟨bC_0, bC_1, bC_lt⟩ := bC.out.at2
        try clear N_0 N_1 N_2 N_lt
        obtain ⟨N_0, N_1, N_2, N_lt⟩ := N.out.at3
        replace hE := hide (ext_trans hE.out hF)
        clear hF
        cases q with
        | true =>
          have hf := hide (iff_false hr.out (not_ok hlt (fun hc => by
            obtain ⟨j', n', hn', he⟩ := hq.out.1 rfl
            rw [List.getElem?_take] at hn'
            split at hn'
            · rename_i hjk
              exact (hc _ hn.out).2.1 j' hjk n' hn' he
            · cases hn')))
          go_wp2_with fail
          go_ret
          exact ⟨ret_bool hf.out.symm, ext_trans hE0.out hE.out⟩
        | false =>
          have hids : Hid (∀ j', j' < k → ∀ m, ns[j']? = some m → m.id ≠ x) := hide (fun j' hj' m hm' he => by
            have := hq.out.2 ⟨j', m, by rw [List.getElem?_take, if_pos hj']; exact hm', he⟩
            cases this)
          clear hq
          by_cases hk0 : k = 0
          · subst hk0
            go_wp2_with fail
            go_quiet (fail)
            have hfit : Hid (Fits ns 0) := hide (fun n hn' => by
              rw [hn.out] at hn'
              cases hn'
              exact ⟨hok, hids.out, fun h0 => absurd h0 (Nat.lt_irrefl _)⟩)
            by_cases h1 : ns.length = 1
            · have ht : ((1 : Int) == (ns.length : Int)) = true := by rw [beq_iff_eq]; omega
              by_cases hj : j = l.length
              · have ht2 : (j != (l.length : Int)) = false := by simpa using hj
                replace hj := hide hj
                go_wp2_with fail
                go_roundw
                case rel => exact ⟨1, by omega, rfl, hide (by first | exact hE.out | exact ext_drewN hE.out _ | exact ext_drew hE.out), hide (fun j' hj' => by
                  have : j' = 0 := by omega
                  subst this
                  exact ⟨hfit.out, fun n hn' _ => by rw [hn.out] at hn'; cases hn'; exact hj.out⟩)⟩
                case measure => simp [intOf]; omega
              · have ht2 : (j != (l.length : Int)) = true := by simpa using hj
                have hf := hide (iff_false hr.out (fun hc => hj (hc.2.2.2 ⟨x, l, j⟩ (by rw [h1]; exact hn.out))))
                replace hj := hide hj
                go_wp2_with fail
                go_ret
                exact ⟨ret_bool hf.out.symm, ext_trans hE0.out (by first | exact hE.out | exact ext_drewN hE.out _ | exact ext_drew hE.out)⟩
            · have ht : ((1 : Int) == (ns.length : Int)) = false := by rw [beq_eq_false_iff_ne]; omega
              replace h1 := hide h1
              go_wp2_with fail
              go_roundw
              case rel => exact ⟨1, by omega, rfl, hide (by first | exact hE.out | exact ext_drewN hE.out _ | exact ext_drew hE.out), hide (fun j' hj' => by
                have : j' = 0 := by omega
                subst this
                exact ⟨hfit.out, fun n hn' he => absurd he.symm h1.out⟩)⟩
              case measure => simp [intOf]; omega
          · obtain ⟨q, rfl⟩ : ∃ q, k = q + 1 := ⟨k - 1, by omega⟩
            obtain ⟨b2, o2, x2, l2, j2, B2, d2, hA2, hbl2, hn2, hld2, hdm2, hB2, a0, a1, a2, a1', a2'⟩ := node_at hN.out (i := q) (by omega)
            cases hA2
            replace hn2 := hide hn2
            replace hB2 := hide hB2
            have hlm2 : l2.length ≤ 1048576 := bulk_of hb hn2.out
            have hw1 : IntKind.i64.wrap (((q + 1 : Nat) : Int) - 1) = (q : Int) := by rw [show ((q + 1 : Nat) : Int) - 1 = (q : Int) by omega]; exact IntWalk.i64_in _ (by omega)
            have hw2 : IntKind.i64.wrap ((q : Int) + 1 - 1) = (q : Int) := by rw [show (q : Int) + 1 - 1 = (q : Int) by omega]; exact IntWalk.i64_in _ (by omega)
            have hw3 : IntKind.i64.wrap (q : Int) = (q : Int) := IntWalk.i64_in _ (by omega)
            have hq0 : (0 : Int) ≤ (q : Int) := by omega
            have hq1 : (q : Int) < (ns.length : Int) := by omega
            go_wp2_with fail
            obtain ⟨cm, hcm⟩ : ∃ cm, common l l2 = cm := ⟨_, rfl⟩
            have hC : ∀ n, Calls Alt.prog 48 #[.slice B l.length d, .slice B2 l2.length d2] (w2.drewN n) fun e w' => e = .returned (.int .i64 cm) ∧ ∃ m, w' = w2.drewN m := fun n => by
              rw [← hcm]; exact Calls.quiet_of (l1Common_q d d2 (show LogR (w2.drewN n) B l from hB.out) (show LogR (w2.drewN n) B2 l2 from hB2.out) hlm hlm2)
            have hcl : cm ≤ l.length := by rw [← hcm]; exact common_le_left _ _
            replace hC := hide hC
            replace hcm := hide hcm
            have hok2 : Hid (ndOk ⟨x2, l2, j2⟩ = true) := hide ((hT.out q (by omega)).1 _ hn2.out).1
            have hcell := hide a1'
            have hcell2 := hide a2'
            clear a0 a1 a2
            by_cases hlt2 : cm < l.length
            · have hf := hide (iff_false hr.out (not_ok hlt (fun hc => by
                have := ((hc _ hn.out).2.2 (by omega) _ hn2.out).1
                have := (begins_ok this).2.2
                simp only at this
                have := hcm.out
                omega)))
              go_quiet ((go_at_call 48; exact hC.out _))
              go_wp2_with fail
              go_ret
              exact ⟨ret_bool hf.out.symm, ext_trans hE0.out (by first | exact hE.out | exact ext_drewN hE.out _ | exact ext_drew hE.out)⟩
            · have hbg : begins l l2 = true := by
                have h1 := (ndOk_parts hok).2.2.1
                have h2 := (ndOk_parts hok2.out).2.2.1
                simp only [begins, h1, h2, hcm.out, Bool.true_and, decide_eq_true_eq]
                omega
              by_cases hdn : j < j2
              · have hdn' : (j2 : Int) > j := hdn
                have hf := hide (iff_false hr.out (not_ok hlt (fun hc => by have := ((hc _ hn.out).2.2 (by omega) _ hn2.out).2; simp only at this; omega)))
                go_quiet ((go_at_call 48; exact hC.out _))
                go_wp2_with fail
                go_ret
                exact ⟨ret_bool hf.out.symm, ext_trans hE0.out (by first | exact hE.out | exact ext_drewN hE.out _ | exact ext_drew hE.out)⟩
              · go_quiet ((go_at_call 48; exact hC.out _))
                have hfit : Hid (Fits ns (q + 1)) := hide (fun n hn' => by
                  rw [hn.out] at hn'
                  cases hn'
                  refine ⟨hok, hids.out, fun _ m hm' => ?_⟩
                  have e2 := hn2.out.symm.trans hm'
                  cases e2
                  exact ⟨hbg, by simp only; omega⟩)
                by_cases h1 : ns.length = q + 1 + 1
                · have ht : ((q : Int) + 1 + 1 == (ns.length : Int)) = true := by rw [beq_iff_eq]; omega
                  by_cases hj : j = l.length
                  · have ht2 : (j != (l.length : Int)) = false := by simpa using hj
                    replace hj := hide hj
                    replace h1 := hide h1
                    go_wp2_with fail
                    go_roundw
                    case rel => exact ⟨q + 1 + 1, by omega, by go_num, hide (by first | exact hE.out | exact ext_drewN hE.out _ | exact ext_drew hE.out), hide (fun j' hj' => by
                      by_cases e : j' = q + 1
                      · subst e
                        exact ⟨hfit.out, fun n hn' _ => by rw [hn.out] at hn'; cases hn'; exact hj.out⟩
                      · exact hT.out j' (by omega))⟩
                    case measure => simp [intOf]; omega
                  · have ht2 : (j != (l.length : Int)) = true := by simpa using hj
                    have hf := hide (iff_false hr.out (fun hc => hj (hc.2.2.2 ⟨x, l, j⟩ (by rw [h1]; exact hn.out))))
                    replace hj := hide hj
                    replace h1 := hide h1
                    go_wp2_with fail
                    go_ret
                    exact ⟨ret_bool hf.out.symm, ext_trans hE0.out (by first | exact hE.out | exact ext_drewN hE.out _ | exact ext_drew hE.out)⟩
                · have ht : ((q : Int) + 1 + 1 == (ns.length : Int)) = false := by rw [beq_eq_false_iff_ne]; omega
                  replace h1 := hide h1
                  go_wp2_with fail
                  go_roundw
                  case rel => exact ⟨q + 1 + 1, by omega, by go_num, hide (by first | exact hE.out | exact ext_drewN hE.out _ | exact ext_drew hE.out), hide (fun j' hj' => by
                    by_cases e : j' = q + 1
                    · subst e
                      exact ⟨hfit.out, fun n hn' he => absurd he.symm h1.out⟩
                    · exact hT.out j' (by omega))⟩
                  case measure => simp [intOf]; omega
      · have hok : ndOk ⟨x, l, j⟩ = false := by simpa using hok
        have hf := hide (iff_false hr.out (not_ok hlt (fun hc => by have := (hc _ hn.out).1; rw [hok] at this; cases this)))
        clear hNd htk c0 c1 c2 c1' c2'
        first | go_region_with (go_at_call 46; refine (specNodeValid_no d x j hBd.out hlm hok).mono ?_; rintro e w1 ⟨rfl, hF1⟩) | fail
        all_goals replace hE := hide (ext_over hE.out hF1 rfl rfl rfl rfl)
        all_goals clear hF1
        all_goals go_wp2_with fail
        all_goals go_ret
        all_goals exact ⟨ret_bool hf.out.symm, ext_trans hE0.out hE.out⟩
    · by_cases h15 : 1 ≤ ns.length ∧ ns.length ≤ 5
      · have hd1 : decide (1 ≤ (ns.length : Int) ∧ (ns.length : Int) ≤ 5) = true := by simp; omega
        by_cases hv : 0 ≤ v ∧ v ≤ 999
        · have hd2 : decide (0 ≤ v ∧ v ≤ 999) = true := by simpa using hv
          have hf := hide (iff_true hr.out ⟨hv, h15, fun i hi => (hT.out i (by omega)).1, fun n hn => (hT.out _ (by omega)).2 n hn (by omega)⟩)
          replace h15 := hide h15
          go_wp2_with (go_at_call 43; refine (l6In_any _ _ _ _).mono ?_; rintro e w' ⟨rfl, rfl⟩)
          go_ret
          exact ⟨ret_bool hf.out.symm, ext_trans hE0.out hE.out⟩
        · have hd2 : decide (0 ≤ v ∧ v ≤ 999) = false := by simpa using hv
          have hf := hide (iff_false hr.out (fun hc => hv hc.1))
          replace h15 := hide h15
          replace hv := hide hv
          go_wp2_with (go_at_call 43; refine (l6In_any _ _ _ _).mono ?_; rintro e w' ⟨rfl, rfl⟩)
          go_ret
          exact ⟨ret_bool hf.out.symm, ext_trans hE0.out hE.out⟩
      · have hd1 : decide (1 ≤ (ns.length : Int) ∧ (ns.length : Int) ≤ 5) = false := by simp; omega
        have hf := hide (iff_false hr.out (fun hc => h15 hc.2.1))
        replace h15 := hide h15
        go_wp2_with (go_at_call 43; refine (l6In_any _ _ _ _).mono ?_; rintro e w' ⟨rfl, rfl⟩)
        go_ret
        exact ⟨ret_bool hf.out.symm, ext_trans hE0.out hE.out⟩
end Go.Proofs.YtciekjplhbimdaaZ

/-
  Contracts: quiet chains, both; what the tail has at a key, both.
-/
set_option linter.all false
namespace Go.Proofs.YtciekjplhbimdaaZ
open Go.RowKit
attribute [local go_sem ↓] Go.wp_at_zero Go.wp_at_succ

/-- The node is as the head is, and knows all to be everywhere. -/
def Still (ns : List Nd) (i : Nat) : Prop := ∀ n, ns[i]? = some n → ∀ m, ns[0]? = some m → n.log.length = m.log.length ∧ n.done = m.log.length
def ChQuiet (v : Int) (ns : List Nd) : Prop := ChOk v ns ∧ ∀ i, i < ns.length → Still ns i
theorem chQuiet_decides (v : Int) (ns : List Nd) : ∃ b : Bool, b = true ↔ ChQuiet v ns := by
  by_cases h : ChQuiet v ns
  · exact ⟨true, by simp [h]⟩
  · exact ⟨false, by simp [h]⟩
theorem node_first {w : World} {A : Option Addr} {ns : List Nd} (h : NodesR w A ns) (hi : 0 < ns.length) :
    ∃ b o x l j B d, A = some ⟨b, o, none⟩ ∧ b < w.heap.size ∧ ns[0]? = some ⟨x, l, j⟩ ∧ l.length ≤ d ∧ d ≤ maxLen ∧ LogR w B l ∧ w.cell? ⟨b, o, none⟩ = some (.int .i64 x) ∧
      w.cell? ⟨b, o + 1, none⟩ = some (.slice B l.length d) ∧ w.cell? ⟨b, o + 2, none⟩ = some (.int .i64 j) := by
  obtain ⟨b, o, x, l, j, B, d, hA, hbl, hn, hld, hdm, hB, c0, c1, c2, c1', c2'⟩ := node_at h hi
  exact ⟨b, o, x, l, j, B, d, hA, hbl, hn, hld, hdm, hB, by simpa using c0, by simpa using c1', by simpa using c2'⟩

theorem implChainValid_yes {A : Option Addr} {ns : List Nd} (c : Nat) (v : Int) {w : World} (h : NodesR w A ns) (hb : bulk ns ≤ 1048576) (hok : ChOk v ns) :
    Calls Alt.prog 15 #[.agg #[.int .i64 v, .slice A ns.length c]] w fun e w' => e = .returned (.bool true) ∧ Ext w w' := implChainValid_any c v h hb ⟨fun _ => hok, fun _ => rfl⟩
theorem implChainValid_no {A : Option Addr} {ns : List Nd} (c : Nat) (v : Int) {w : World} (h : NodesR w A ns) (hb : bulk ns ≤ 1048576) (hok : ¬ ChOk v ns) :
    Calls Alt.prog 15 #[.agg #[.int .i64 v, .slice A ns.length c]] w fun e w' => e = .returned (.bool false) ∧ Ext w w' := implChainValid_any c v h hb ⟨fun h => (by cases h), fun h => absurd h hok⟩
theorem specChainValid_yes {A : Option Addr} {ns : List Nd} (c : Nat) (v : Int) {w : World} (h : NodesR w A ns) (hb : bulk ns ≤ 1048576) (hlc : ns.length ≤ c) (hok : ChOk v ns) :
    Calls Alt.prog 20 #[.agg #[.int .i64 v, .slice A ns.length c]] w fun e w' => e = .returned (.bool true) ∧ Ext w w' := specChainValid_any c v h hb hlc ⟨fun _ => hok, fun _ => rfl⟩
theorem specChainValid_no {A : Option Addr} {ns : List Nd} (c : Nat) (v : Int) {w : World} (h : NodesR w A ns) (hb : bulk ns ≤ 1048576) (hlc : ns.length ≤ c) (hok : ¬ ChOk v ns) :
    Calls Alt.prog 20 #[.agg #[.int .i64 v, .slice A ns.length c]] w fun e w' => e = .returned (.bool false) ∧ Ext w w' := specChainValid_any c v h hb hlc ⟨fun h => (by cases h), fun h => absurd h hok⟩
set_option maxHeartbeats 3200000 in
theorem implChainQuiet_any {A : Option Addr} {ns : List Nd} {q : Bool} (c : Nat) (v : Int) {w : World} (h : NodesR w A ns) (hb : bulk ns ≤ 1048576) (hq : q = true ↔ ChQuiet v ns) :
    Calls Alt.prog 11 #[.agg #[.int .i64 v, .slice A ns.length c]] w fun e w' => e = .returned (.bool q) ∧ Ext w w' := by
  have hl := bulk_len ns
  have hE := hide (ext_alloc (ext_refl w) (.cells #[.int .i64 v, .slice A ns.length c] 25))
  have hN := hide (h.ext hE.out)
  have bC := hide (Blk.newAt w 25 #[.int .i64 v, .slice A ns.length c] (g := w.heap.size) rfl)
  clear h
  replace hq := hide hq
  by_cases hok : ChOk v ns
  · have hlen := hok.2.1
    replace hok := hide hok
    go_enter Alt.func11, Try.ntmps11
    go_wp2_with fail
    refine (implChainValid_yes c v hN.out hb hok.out).mono ?_
    rintro e w1 ⟨rfl, hF⟩
    replace hN := hide (hN.out.ext hF)
    replace bC := hide (bC.out.ext hF)
    try clear bC_0 bC_1 bC_lt
    obtain ⟨bC_0, bC_1, bC_lt⟩ := bC.out.at2
    replace hE := hide (ext_trans hE.out hF)
    clear hF
    obtain ⟨b, o, x0, l0, j0, B0, d0, hA, hbl, hn0, hld, hdm, hB0, a0, a1, a2⟩ := node_first hN.out (by omega)
    subst hA
    replace hn0 := hide hn0
    have hlm0 : l0.length ≤ 1048576 := bulk_of hb hn0.out
    go_wp2_with fail
    go_loopw [18] (fun i wr => ∃ k : Nat, k ≤ ns.length ∧ i = .int .i64 k ∧ Hid (Ext w1 wr) ∧ Hid (∀ j, j < k → Still ns j)) (fun i _ => ns.length - (intOf i).toNat)
    case atStart => exact ⟨0, Nat.zero_le _, rfl, hide (ext_refl _), hide (fun j hj => absurd hj (Nat.not_lt_zero _))⟩
    case round =>
      obtain ⟨k, hk, rfl, hR, hT⟩ := hrel
      by_cases hlt : k < ns.length
      · obtain ⟨b2, o2, x, l, j, B, d, hA, hbl2, hn, hld, hdm, hB, c0, c1, c2, c1', c2'⟩ := node_at (hN.out.ext hR.out) hlt
        cases hA
        replace hn := hide hn
        have hlm : l.length ≤ 1048576 := bulk_of hb hn.out
        clear hB
        by_cases h1 : l.length = l0.length
        · have ht1 : ((l.length : Int) != (l0.length : Int)) = false := by rw [bne_eq_false_iff_eq]; omega
          by_cases h2 : j = l0.length
          · have ht2 : (j != (l0.length : Int)) = false := by rw [bne_eq_false_iff_eq]; exact h2
            replace h1 := hide h1
            replace h2 := hide h2
            go_wp2_with fail
            go_roundw
            case rel =>
              refine ⟨k + 1, by omega, by go_num, hide (ext_alloc hR.out _), hide (fun j' hj' => ?_)⟩
              by_cases e : j' = k
              · subst e
                intro n hn' m hm'
                rw [hn.out] at hn'
                rw [hn0.out] at hm'
                cases hn'
                cases hm'
                exact ⟨h1.out, h2.out⟩
              · exact hT.out j' (by omega)
            case measure => simp [intOf]; omega
          · have ht2 : (j != (l0.length : Int)) = true := by simpa using h2
            have hf := hide (iff_false hq.out (fun hc => h2 (hc.2 k hlt _ hn.out _ hn0.out).2))
            replace h1 := hide h1
            replace h2 := hide h2
            go_wp2_with fail
            go_ret
            exact ⟨ret_bool hf.out.symm, ext_alloc (ext_trans hE.out hR.out) _⟩
        · have ht1 : ((l.length : Int) != (l0.length : Int)) = true := by simp; omega
          have hf := hide (iff_false hq.out (fun hc => h1 (hc.2 k hlt _ hn.out _ hn0.out).1))
          replace h1 := hide h1
          go_wp2_with fail
          go_ret
          exact ⟨ret_bool hf.out.symm, ext_alloc (ext_trans hE.out hR.out) _⟩
      · have hf := hide (iff_true hq.out ⟨hok.out, fun i hi => hT.out i (by omega)⟩)
        go_wp2_with fail
        go_ret
        exact ⟨ret_bool hf.out.symm, ext_trans hE.out hR.out⟩
  · have hf := hide (iff_false hq.out (fun hc => hok hc.1))
    replace hok := hide hok
    go_enter Alt.func11, Try.ntmps11
    go_wp2_with fail
    refine (implChainValid_no c v hN.out hb hok.out).mono ?_
    rintro e w1 ⟨rfl, hF⟩
    replace hE := hide (ext_trans hE.out hF)
    clear hF
    go_wp2_with fail
    go_ret
    exact ⟨ret_bool hf.out.symm, hE.out⟩

set_option maxHeartbeats 3200000 in
theorem specChainQuiet_any {A : Option Addr} {ns : List Nd} {q : Bool} (c : Nat) (v : Int) {w : World} (h : NodesR w A ns) (hb : bulk ns ≤ 1048576) (hlc : ns.length ≤ c) (hq : q = true ↔ ChQuiet v ns) :
    Calls Alt.prog 12 #[.agg #[.int .i64 v, .slice A ns.length c]] w fun e w' => e = .returned (.bool q) ∧ Ext w w' := by
  have hl := bulk_len ns
  obtain ⟨r, hr⟩ := chOk_decides v ns
  have hE0 := hide (ext_alloc (ext_refl w) (.cells #[.int .i64 v, .slice A ns.length c] 25))
  have hN0 := hide (h.ext hE0.out)
  have bC0 := hide (Blk.newAt w 25 #[.int .i64 v, .slice A ns.length c] (g := w.heap.size) rfl)
  have hV : ∀ w' : World, NodesR w' A ns → Calls Alt.prog 20 #[.agg #[.int .i64 v, .slice A ns.length c]] w' fun e w'' => e = .returned (.bool r) ∧ Ext w' w'' := fun w' h => specChainValid_any c v h hb hlc hr
  clear h
  replace hV := hide hV
  replace hq := hide hq
  replace hr := hide hr
  go_enter Alt.func12, Try.ntmps12
  go_wp2_with fail
  go_loopw [3] (fun i wr => ∃ k : Nat, k ≤ ns.length ∧ i = .int .i64 k ∧ Hid (Ext (w.alloc (.cells #[.int .i64 v, .slice A ns.length c] 25)) wr) ∧ Hid (∀ j, j < k → Still ns j)) (fun i _ => ns.length - (intOf i).toNat)
  case atStart => exact ⟨0, Nat.zero_le _, rfl, hide (ext_refl _), hide (fun j hj => absurd hj (Nat.not_lt_zero _))⟩
  case round =>
    obtain ⟨k, hk, rfl, hE, hT⟩ := hrel
    have hN := hide (hN0.out.ext hE.out)
    have bC := hide (bC0.out.ext hE.out)
    try clear bC_0 bC_1 bC_lt
    obtain ⟨bC_0, bC_1, bC_lt⟩ := bC.out.at2
    by_cases hlt : k < ns.length
    · have hd : decide ((k : Int) < (ns.length : Int)) = true := by simp; omega
      cases r with
      | false =>
        have hf := hide (iff_false hq.out (fun hc => by have := hr.out.2 hc.1; cases this))
        go_wp2_with fail
        refine (hV.out _ hN.out).mono ?_
        rintro e w1 ⟨rfl, hF⟩
        replace hN := hide (hN.out.ext hF)
        replace bC := hide (bC.out.ext hF)
        try clear bC_0 bC_1 bC_lt
        obtain ⟨bC_0, bC_1, bC_lt⟩ := bC.out.at2
        replace hE := hide (ext_trans hE.out hF)
        clear hF
        go_wp2_with fail
        refine (hV.out _ hN.out).mono ?_
        rintro e w2 ⟨rfl, hF⟩
        replace hE := hide (ext_trans hE.out hF)
        clear hF
        go_wp2_with fail
        go_ret
        exact ⟨ret_bool hf.out.symm, ext_trans hE0.out hE.out⟩
      | true =>
        go_wp2_with fail
        refine (hV.out _ hN.out).mono ?_
        rintro e w1 ⟨rfl, hF⟩
        replace hN := hide (hN.out.ext hF)
        replace bC := hide (bC.out.ext hF)
        try clear bC_0 bC_1 bC_lt
        obtain ⟨bC_0, bC_1, bC_lt⟩ := bC.out.at2
        replace hE := hide (ext_trans hE.out hF)
        clear hF
        obtain ⟨b, o, x0, l0, j0, B0, d0, hA, hbl, hn0, hld, hdm, hB0, a0, a1, a2⟩ := node_first hN.out (by omega)
        subst hA
        replace hn0 := hide hn0
        obtain ⟨b2, o2, x, l, j, B, d, hA, hbl2, hn, hld2, hdm2, hB, c0, c1, c2, c1', c2'⟩ := node_at hN.out hlt
        cases hA
        replace hn := hide hn
        have hlm : l.length ≤ 1048576 := bulk_of hb hn.out
        have hlm0 : l0.length ≤ 1048576 := bulk_of hb hn0.out
        have hq0 : (0 : Int) ≤ (k : Int) := by omega
        have hq1 : (k : Int) < (ns.length : Int) := by omega
        have hq2 : (0 : Int) < (ns.length : Int) := by omega
        clear hB hB0
        by_cases h1 : l.length = l0.length
        · have ht1 : ((l.length : Int) != (l0.length : Int)) = false := by rw [bne_eq_false_iff_eq]; omega
          by_cases h2 : j = l0.length
          · have ht2 : (j != (l0.length : Int)) = false := by rw [bne_eq_false_iff_eq]; exact h2
            replace h1 := hide h1
            replace h2 := hide h2
            go_wp2_with fail
            go_quiet (fail)
            go_wp2_with fail
            go_roundw
            case rel =>
              refine ⟨k + 1, by omega, by go_num, hide (by first | exact hE.out | exact ext_drewN hE.out _ | exact ext_drew hE.out), hide (fun j' hj' => ?_)⟩
              by_cases e : j' = k
              · subst e
                intro n hn' m hm'
                rw [hn.out] at hn'
                rw [hn0.out] at hm'
                cases hn'
                cases hm'
                exact ⟨h1.out, h2.out⟩
              · exact hT.out j' (by omega)
            case measure => simp [intOf]; omega
          · have ht2 : (j != (l0.length : Int)) = true := by simpa using h2
            have hf := hide (iff_false hq.out (fun hc => h2 (hc.2 k hlt _ hn.out _ hn0.out).2))
            replace h1 := hide h1
            replace h2 := hide h2
            go_wp2_with fail
            go_quiet (fail)
            go_wp2_with fail
            go_ret
            exact ⟨ret_bool hf.out.symm, ext_trans hE0.out (by first | exact hE.out | exact ext_drewN hE.out _ | exact ext_drew hE.out)⟩
        · have ht1 : ((l.length : Int) != (l0.length : Int)) = true := by simp; omega
          have hf := hide (iff_false hq.out (fun hc => h1 (hc.2 k hlt _ hn.out _ hn0.out).1))
          replace h1 := hide h1
          go_wp2_with fail
          go_quiet (fail)
          go_wp2_with fail
          go_ret
          exact ⟨ret_bool hf.out.symm, ext_trans hE0.out (by first | exact hE.out | exact ext_drewN hE.out _ | exact ext_drew hE.out)⟩
    · have hd : decide ((k : Int) < (ns.length : Int)) = false := by simp; omega
      have hf : q = r := by
        cases r with
        | true => exact iff_true hq.out ⟨hr.out.1 rfl, fun i hi => hT.out i (by omega)⟩
        | false => exact iff_false hq.out (fun hc => by have := hr.out.2 hc.1; cases this)
      subst hf
      go_wp2_with fail
      refine (hV.out _ hN.out).mono ?_
      rintro e w1 ⟨rfl, hF⟩
      replace hE := hide (ext_trans hE.out hF)
      clear hF
      go_wp2_with fail
      go_ret
      exact ⟨rfl, ext_trans hE0.out hE.out⟩
end Go.Proofs.YtciekjplhbimdaaZ
