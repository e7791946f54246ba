/-
  Contracts of the exact laws' functions on chains: sizes, comparisons.
-/
import Derived.Test.YtciekjplhbimdaaZCExact
set_option linter.all false
set_option maxRecDepth 100000
namespace Go.Proofs.YtciekjplhbimdaaZ
open Go.RowKit
attribute [local go_sem ↓] Go.wp_at_zero Go.wp_at_succ

set_option maxHeartbeats 1600000 in
theorem szNodeS_yes {A : Option Addr} {ns : List Nd} (c : Nat) {w : World} (left : Int) (h : NodesR w A ns) (h1 : left ≤ 1048576) (hb : (bulk ns : Int) ≤ left) :
    Calls Alt.prog 51 #[.slice A ns.length c, .int .i64 left] w fun e w' => e = .returned (.int .i64 (left - bulk ns)) ∧ Ext w w' := by
  replace h := hide h
  have hl := bulk_len ns
  go_enter Alt.func51, Try.ntmps51
  go_wp2_with fail
  go_loopw [1, 5] (fun q i wr => ∃ (k : Nat) (m : Int), k ≤ ns.length ∧ i = .int .i64 k ∧ q = .int .i64 m ∧ Hid (m = left - ns.length - bulk (ns.take k) + k) ∧ Hid (Ext w wr)) (fun _ i _ => ns.length - (intOf i).toNat)
  case atStart => exact ⟨0, _, Nat.zero_le _, rfl, rfl, hide (by simp [bulk]), hide (ext_refl _)⟩
  case round =>
    obtain ⟨k, m, hk, rfl, rfl, hm, hE⟩ := hrel
    by_cases hlt : k < ns.length
    · obtain ⟨b, o, x, l, j, B, d, hA, hbl, hn, hld, hdm, hB, c0, c1, c2, c1', c2'⟩ := node_at (h.out.ext hE.out) hlt
      subst hA
      clear hB
      obtain ⟨hk', hnk⟩ := List.getElem?_eq_some_iff.1 hn
      have hs := bulk_take_succ hk'
      rw [hnk] at hs
      simp only at hs
      have ht := bulk_take ns (k + 1)
      have ht2 := bulk_len (ns.take k)
      rw [List.length_take, Nat.min_eq_left hk] at ht2
      have ht3 := bulk_len (ns.drop (k + 1))
      have ht4 : bulk ns = bulk (ns.take (k + 1)) + bulk (ns.drop (k + 1)) := by rw [← bulk_append, List.take_append_drop]
      rw [List.length_drop] at ht3
      have m0 : 0 ≤ m := by have := hm.out; omega
      have m1 : m ≤ 1048576 := by have := hm.out; omega
      have m2 : (l.length : Int) ≤ m := by have := hm.out; omega
      replace hn := hide hn
      replace hnk := hide hnk
      replace hs := hide hs
      clear ht ht2 ht3
      replace ht4 := hide ht4
      go_wp2_with fail
      refine (szNode_yes x j l.length d m _ m0 m1 m2).mono ?_
      rintro e w1 ⟨rfl, hF⟩
      replace hF := hide (ext_trans hE.out hF)
      go_wp2_with fail
      go_roundw
      case rel => exact ⟨k + 1, _, by omega, by go_num, rfl, hide (by have := hm.out; have := hs.out; omega), hF⟩
      case measure => simp [intOf]; omega
    · have hkn : k = ns.length := by omega
      have hm2 := hide (show left - bulk ns = m by have := hm.out; rw [hkn, List.take_length] at this; omega)
      clear hm hkn
      go_wp2
      go_ret
      exact ⟨ret_int hm2.out.symm, hE.out⟩
set_option maxHeartbeats 1600000 in
theorem szNodeS_no {A : Option Addr} {ns : List Nd} (c : Nat) {w : World} (left : Int) (h : NodesR w A ns) (h0 : 0 ≤ left) (h1 : left ≤ 1048576) (hlm : ns.length ≤ 9223372036854775807) (hb : left < (bulk ns : Int)) :
    Calls Alt.prog 51 #[.slice A ns.length c, .int .i64 left] w fun e w' => e = .returned (.int .i64 (-1)) ∧ Ext w w' := by
  replace h := hide h
  by_cases hl : left < (ns.length : Int)
  · go_enter Alt.func51, Try.ntmps51
    go_wp2_with fail
    go_ret
    exact ⟨rfl, ext_refl _⟩
  go_enter Alt.func51, Try.ntmps51
  go_wp2_with fail
  go_loopw [1, 5] (fun q i wr => ∃ (k : Nat) (m : Int), k ≤ ns.length ∧ i = .int .i64 k ∧ q = .int .i64 m ∧ 0 ≤ m ∧ m ≤ 1048576 ∧ Hid (m = left - ns.length - bulk (ns.take k) + k) ∧ Hid (Ext w wr)) (fun _ i _ => ns.length - (intOf i).toNat)
  case atStart => exact ⟨0, _, Nat.zero_le _, rfl, rfl, by omega, by omega, hide (by simp [bulk]), hide (ext_refl _)⟩
  case round =>
    obtain ⟨k, m, hk, rfl, rfl, m0, m1, hm, hE⟩ := hrel
    by_cases hlt : k < ns.length
    · obtain ⟨b, o, x, l, j, B, d, hA, hbl, hn, hld, hdm, hB, c0, c1, c2, c1', c2'⟩ := node_at (h.out.ext hE.out) hlt
      subst hA
      clear hB
      unfold maxLen at hdm
      obtain ⟨hk', hnk⟩ := List.getElem?_eq_some_iff.1 hn
      have hs := bulk_take_succ hk'
      rw [hnk] at hs
      simp only at hs
      replace hn := hide hn
      replace hnk := hide hnk
      replace hs := hide hs
      by_cases hlm2 : (l.length : Int) ≤ m
      · go_wp2_with fail
        refine (szNode_yes x j l.length d m _ m0 m1 hlm2).mono ?_
        rintro e w1 ⟨rfl, hF⟩
        replace hF := hide (ext_trans hE.out hF)
        go_wp2_with fail
        go_roundw
        case rel => exact ⟨k + 1, _, by omega, by go_num, rfl, by omega, by omega, hide (by have := hm.out; have := hs.out; omega), hF⟩
        case measure => simp [intOf]; omega
      · go_wp2_with fail
        refine (szNode_no x j l.length d m _ m0 m1 (by omega) (by omega)).mono ?_
        rintro e w1 ⟨rfl, hF⟩
        replace hF := hide (ext_trans hE.out hF)
        go_wp2_with fail
        go_ret
        exact ⟨rfl, hF.out⟩
    · exfalso
      have hkn : k = ns.length := by omega
      have := hm.out
      rw [hkn, List.take_length] at this
      omega

theorem szChain_yes {A : Option Addr} {ns : List Nd} (c : Nat) {w : World} (v left : Int) (h : NodesR w A ns) (h1 : left ≤ 1048576) (hb : (bulk ns : Int) ≤ left) :
    Calls Alt.prog 22 #[.agg #[.int .i64 v, .slice A ns.length c], .int .i64 left] w fun e w' => e = .returned (.int .i64 (left - bulk ns)) ∧ Ext w w' := by
  have hE := hide (ext_alloc (ext_refl w) (.cells #[.int .i64 v, .slice A ns.length c] 45))
  replace h := hide (h.ext hE.out)
  go_enter Alt.func22, Try.ntmps22
  go_wp2_with fail
  refine (szNodeS_yes c left h.out h1 hb).mono ?_
  rintro e w1 ⟨rfl, hF⟩
  replace hF := hide (ext_trans hE.out hF)
  go_wp2_with fail
  go_ret
  exact ⟨rfl, hF.out⟩
theorem szChain_no {A : Option Addr} {ns : List Nd} (c : Nat) {w : World} (v left : Int) (h : NodesR w A ns) (h0 : 0 ≤ left) (h1 : left ≤ 1048576) (hlm : ns.length ≤ 9223372036854775807) (hb : left < (bulk ns : Int)) :
    Calls Alt.prog 22 #[.agg #[.int .i64 v, .slice A ns.length c], .int .i64 left] w fun e w' => e = .returned (.int .i64 (-1)) ∧ Ext w w' := by
  have hE := hide (ext_alloc (ext_refl w) (.cells #[.int .i64 v, .slice A ns.length c] 45))
  replace h := hide (h.ext hE.out)
  go_enter Alt.func22, Try.ntmps22
  go_wp2_with fail
  refine (szNodeS_no c left h.out h0 h1 hlm hb).mono ?_
  rintro e w1 ⟨rfl, hF⟩
  replace hF := hide (ext_trans hE.out hF)
  go_wp2_with fail
  go_ret
  exact ⟨rfl, hF.out⟩

theorem eqNode_sm {A B : Option Addr} {l : List Upd} (c d : Nat) (i j : Int) {w : World} (h : LogR w A l) (h' : LogR w B l) (hm : l.length ≤ 1048576) :
    Calls Alt.prog 76 #[.agg #[.int .i64 i, .slice A l.length c, .int .i64 j], .agg #[.int .i64 i, .slice B l.length d, .int .i64 j]] w fun e w' => e = .returned (.bool true) ∧ Ext w w' :=
  (eqNode_any c d i j i j h h' hm hm).mono fun e w' ⟨h1, h2⟩ => ⟨by rw [h1]; simp, h2⟩
set_option maxHeartbeats 1600000 in
/-- Nodes that read alike are equal. -/
theorem eqNodeS_same {A B : Option Addr} {ns : List Nd} (c d : Nat) {w : World} (h : NodesR w A ns) (h' : NodesR w B ns) (hb : bulk ns ≤ 1048576) :
    Calls Alt.prog 53 #[.slice A ns.length c, .slice B ns.length d] w fun e w' => e = .returned (.bool true) ∧ Ext w w' := by
  replace h := hide h
  replace h' := hide h'
  have hl := bulk_len ns
  go_enter Alt.func53, Try.ntmps53
  go_wp2_with fail
  go_loopw [5] (fun i wr => ∃ k : Nat, k ≤ ns.length ∧ i = .int .i64 k ∧ Hid (Ext w wr)) (fun i _ => ns.length - (intOf i).toNat)
  case atStart => exact ⟨0, Nat.zero_le _, rfl, hide (ext_refl _)⟩
  case round =>
    obtain ⟨k, hk, rfl, hE⟩ := hrel
    by_cases hlt : k < ns.length
    · obtain ⟨b, o, x, l, j, C, e, hA, hbl, hn, hld, hdm, hC, c0, c1, c2, c1', c2'⟩ := node_at (h.out.ext hE.out) hlt
      obtain ⟨b2, o2, x2, l2, j2, C2, e2, hA2, hbl2, hn2, hld2, hdm2, hC2, a0, a1, a2, a1', a2'⟩ := node_at (h'.out.ext hE.out) hlt
      subst hA hA2
      rw [hn] at hn2
      cases hn2
      have hlm : l.length ≤ 1048576 := bulk_of hb hn
      replace hn := hide hn
      have hCd := hide (show LogR wr.drew C l from hC)
      have hC2d := hide (show LogR wr.drew C2 l from hC2)
      have hk0 : (0 : Int) ≤ (k : Int) := by omega
      have hk1 : (k : Int) < (ns.length : Int) := by omega
      clear hC hC2
      go_wp2_with fail
      go_region_with (go_at_call 76; refine (eqNode_sm e e2 x j hCd.out hC2d.out hlm).mono ?_; rintro e w' ⟨rfl, hF⟩)
      all_goals replace hF := hide (ext_over hE.out hF rfl rfl rfl rfl)
      all_goals go_wp2_with fail
      all_goals go_roundw
      all_goals first
        | exact ⟨k + 1, by omega, by go_num, hF⟩
        | (simp [intOf]; omega)
    · go_wp2
      go_ret
      exact ⟨rfl, hE.out⟩

theorem eqChain_same {A B : Option Addr} {ns : List Nd} (c d : Nat) (v : Int) {w : World} (h : NodesR w A ns) (h' : NodesR w B ns) (hb : bulk ns ≤ 1048576) :
    Calls Alt.prog 24 #[.agg #[.int .i64 v, .slice A ns.length c], .agg #[.int .i64 v, .slice B ns.length d]] w fun e w' => e = .returned (.bool true) ∧ Ext w w' := by
  have hE := hide (ext_alloc (ext_alloc (ext_refl w) (.cells #[.int .i64 v, .slice A ns.length c] 25)) (.cells #[.int .i64 v, .slice B ns.length d] 25))
  replace h := hide (h.ext hE.out)
  replace h' := hide (h'.ext hE.out)
  go_enter Alt.func24, Try.ntmps24
  go_wp2_with fail
  refine (eqNodeS_same c d h.out h'.out hb).mono ?_
  rintro e w1 ⟨rfl, hF⟩
  replace hF := hide (ext_trans hE.out hF)
  go_wp2_with fail
  go_ret
  exact ⟨rfl, hF.out⟩

theorem sameNode_sm {A B : Option Addr} {l : List Upd} (c d : Nat) (i j : Int) {w : World} (h : LogR w A l) (h' : LogR w B l) (hm : l.length ≤ 1048576) :
    Calls Alt.prog 19 #[.agg #[.int .i64 i, .slice A l.length c, .int .i64 j], .agg #[.int .i64 i, .slice B l.length d, .int .i64 j]] w fun e w' => e = .returned (.bool true) ∧ Ext w w' :=
  (sameNode_any c d i j i j h h' hm hm).mono fun e w' ⟨h1, h2⟩ => ⟨by rw [h1]; simp, h2⟩
set_option maxHeartbeats 1600000 in
theorem sameNodes_same {A B : Option Addr} {ns : List Nd} (c d : Nat) {w : World} (h : NodesR w A ns) (h' : NodesR w B ns) (hb : bulk ns ≤ 1048576) :
    Calls Alt.prog 45 #[.slice A ns.length c, .slice B ns.length d] w fun e w' => e = .returned (.bool true) ∧ Ext w w' := by
  replace h := hide h
  replace h' := hide h'
  have hl := bulk_len ns
  go_enter Alt.func45, Try.ntmps45
  go_wp2_with fail
  go_loopw [5] (fun i wr => ∃ k : Nat, k ≤ ns.length ∧ i = .int .i64 k ∧ Hid (Ext w wr)) (fun i _ => ns.length - (intOf i).toNat)
  case atStart => exact ⟨0, Nat.zero_le _, rfl, hide (ext_refl _)⟩
  case round =>
    obtain ⟨k, hk, rfl, hE⟩ := hrel
    by_cases hlt : k < ns.length
    · obtain ⟨b, o, x, l, j, C, e, hA, hbl, hn, hld, hdm, hC, c0, c1, c2, c1', c2'⟩ := node_at (h.out.ext hE.out) hlt
      obtain ⟨b2, o2, x2, l2, j2, C2, e2, hA2, hbl2, hn2, hld2, hdm2, hC2, a0, a1, a2, a1', a2'⟩ := node_at (h'.out.ext hE.out) hlt
      subst hA hA2
      rw [hn] at hn2
      cases hn2
      have hlm : l.length ≤ 1048576 := bulk_of hb hn
      replace hn := hide hn
      have hCd := hide (show LogR wr.drew C l from hC)
      have hC2d := hide (show LogR wr.drew C2 l from hC2)
      have hk0 : (0 : Int) ≤ (k : Int) := by omega
      have hk1 : (k : Int) < (ns.length : Int) := by omega
      clear hC hC2
      go_wp2_with fail
      go_region_with (go_at_call 19; refine (sameNode_sm e e2 x j hCd.out hC2d.out hlm).mono ?_; rintro e w' ⟨rfl, hF⟩)
      all_goals replace hF := hide (ext_over hE.out hF rfl rfl rfl rfl)
      all_goals go_wp2_with fail
      all_goals go_roundw
      all_goals first
        | exact ⟨k + 1, by omega, by go_num, hF⟩
        | (simp [intOf]; omega)
    · go_wp2
      go_ret
      exact ⟨rfl, hE.out⟩

theorem sameChain_same {A B : Option Addr} {ns : List Nd} (c d : Nat) (v : Int) {w : World} (h : NodesR w A ns) (h' : NodesR w B ns) (hb : bulk ns ≤ 1048576) :
    Calls Alt.prog 18 #[.agg #[.int .i64 v, .slice A ns.length c], .agg #[.int .i64 v, .slice B ns.length d]] w fun e w' => e = .returned (.bool true) ∧ Ext w w' := by
  have hE := hide (ext_alloc (ext_alloc (ext_refl w) (.cells #[.int .i64 v, .slice A ns.length c] 25)) (.cells #[.int .i64 v, .slice B ns.length d] 25))
  replace h := hide (h.ext hE.out)
  replace h' := hide (h'.ext hE.out)
  go_enter Alt.func18, Try.ntmps18
  go_wp2_with fail
  refine (sameNodes_same c d h.out h'.out hb).mono ?_
  rintro e w1 ⟨rfl, hF⟩
  replace hF := hide (ext_trans hE.out hF)
  go_wp2_with fail
  go_ret
  exact ⟨rfl, hF.out⟩
end Go.Proofs.YtciekjplhbimdaaZ
