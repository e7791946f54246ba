/-
  Contracts: marks laid into chains, and read again.
-/
import Derived.Test.YtciekjplhbimdaaZCMark
set_option linter.all false
set_option maxRecDepth 100000
namespace Go.Proofs.YtciekjplhbimdaaZ
open Go.RowKit
attribute [local go_sem ↓] Go.wp_at_zero Go.wp_at_succ

set_option maxHeartbeats 3200000 in
theorem markNodeS_in {w : World} {lo hi c : Nat} {A : Option Addr} {ns : List Nd} (k : Int) (h : NodesOwn w lo hi A c ns) (hb : bulk ns ≤ 1048576) (hk : 0 ≤ k) (hk' : k ≤ 1048576) :
    Calls Alt.prog 54 #[.slice A ns.length c, .int .i64 k] w fun e w' => e = .returned (.int .i64 (k + 2 * bulk ns)) ∧ NodesOwn w' lo hi A c (marksN k ns) ∧ Turned lo hi w w' := by
  have hl := bulk_len ns
  have hst := hide (show NodesOwn w lo hi A c (markedTo k ns 0) ∧ Turned lo hi w w from ⟨by rw [markedTo_zero]; exact h, Turned.refl _ _ _⟩)
  clear h
  go_enter Alt.func54, Try.ntmps54
  go_wp2_with fail
  go_loopw [1, 5] (fun q i wr => ∃ (j : Nat) (m : Int), j ≤ ns.length ∧ i = .int .i64 j ∧ q = .int .i64 m ∧ Hid (m = k + 2 * bulk (ns.take j)) ∧ Hid (NodesOwn wr lo hi A c (markedTo k ns j) ∧ Turned lo hi w wr)) (fun _ i _ => ns.length - (intOf i).toNat)
  case atStart => exact ⟨0, k, Nat.zero_le _, rfl, rfl, hide (by simp [bulk]), hst⟩
  case round =>
    obtain ⟨j, m, hj, rfl, rfl, hm, hM⟩ := hrel
    have hml : (markedTo k ns j).length = ns.length := markedTo_len k ns j hj
    by_cases hlt : j < ns.length
    · obtain ⟨g, hA, hgl, hgh, hgs⟩ := hM.out.1.addr (by omega)
      subst hA
      obtain ⟨⟨x, l, y⟩, hn⟩ : ∃ n, ns[j]? = some n := ⟨_, List.getElem?_eq_getElem hlt⟩
      have hn2 : (markedTo k ns j)[j]? = some ⟨x, l, y⟩ := by rw [markedTo_at hlt]; exact hn
      have hlm : l.length ≤ 1048576 := bulk_of hb hn
      have hbt := bulk_take ns j
      have m0 : 0 ≤ m := by have := hm.out; omega
      have m1 : m ≤ 3145728 := by have := hm.out; omega
      -- the id
      obtain ⟨⟨u0, c0⟩, f0⟩ := hM.out.1.cellsAt (j := j * 3) (by omega)
      have h1 := hM.out.1.setId (y := m) hn2
      have t1 := hM.out.2.trans (Turned.set (p := ⟨g, j * 3, none⟩) hgl hgh (.int .i64 m))
      have hn3 : ((markedTo k ns j).set j ⟨m, l, y⟩)[j]? = some ⟨m, l, y⟩ := by rw [List.getElem?_set]; simp; omega
      obtain ⟨B, d, hL, hld, hdm, hcell, hback⟩ := h1.log hn3
      have c1 := hcell g 0 rfl
      simp only [Nat.zero_add] at c1
      replace hL := hide hL
      replace hback := hide hback
      replace h1 := hide h1
      replace t1 := hide t1
      replace hn2 := hide hn2
      replace hn3 := hide hn3
      replace hn := hide hn
      replace hml := hide hml
      clear hcell hM
      go_wp2_with fail
      refine (markUpdateS_in (m + 1) hL.out hlm (by omega) (by omega)).mono ?_
      rintro e w2 ⟨rfl, hL', hg⟩
      have h2 := hback.out w2 _ (marksU_len _ _) hL' hg
      have t2 := t1.out.trans (Turned.of_row hg (fun gg hgg => ⟨(hL.out.1.lt gg hgg).1, hL.out.2 gg hgg⟩))
      rw [List.set_set] at h2
      have hn4 : ((markedTo k ns j).set j ⟨m, marksU (m + 1) l.length, y⟩)[j]? = some ⟨m, marksU (m + 1) l.length, y⟩ := by rw [List.getElem?_set]; have := hml.out; simp; omega
      obtain ⟨⟨u2, c2⟩, f2⟩ := h2.cellsAt (j := j * 3 + 2) (by rw [List.length_set]; have := hml.out; omega)
      have h3 := h2.setDone (y := m + 1 + 2 * l.length) hn4
      rw [List.set_set] at h3
      have e3 : (markedTo k ns j).set j ⟨m, marksU (m + 1) l.length, m + 1 + 2 * l.length⟩ = markedTo k ns (j + 1) := by
        rw [hm.out]; exact markedTo_succ hn.out
      rw [e3] at h3
      have hst' := hide (show NodesOwn (w2.setCell ⟨g, j * 3 + 2, none⟩ (.int .i64 (m + 1 + 2 * l.length))) lo hi (some ⟨g, 0, none⟩) c (markedTo k ns (j + 1)) ∧ Turned lo hi w (w2.setCell ⟨g, j * 3 + 2, none⟩ (.int .i64 (m + 1 + 2 * l.length))) from ⟨h3, t2.trans (Turned.set (p := ⟨g, j * 3 + 2, none⟩) hgl hgh _)⟩)
      have hm' := hide (show m + 1 + 2 * l.length + 1 = k + 2 * bulk (ns.take (j + 1)) by
        obtain ⟨hj2, e⟩ := List.getElem?_eq_some_iff.1 hn.out
        have := bulk_take_succ hj2
        rw [e] at this
        simp only at this
        have := hm.out
        omega)
      clear h2 h3 t2 hL' hg hL hback h1 t1 hn4 e3 hn2 hn3 c0 f0 c1
      go_wp2_with fail
      go_roundw
      case rel => exact ⟨j + 1, _, by omega, by go_num, rfl, hm', hst'⟩
      case measure => simp [intOf]; omega
    · have hjn : j = ns.length := by omega
      obtain ⟨h1, t1⟩ := hM.out
      rw [hjn, markedTo_all] at h1
      have hmm := hide (show k + 2 * bulk ns = m by have := hm.out; rw [hjn, List.take_length] at this; omega)
      replace h1 := hide h1
      replace t1 := hide t1
      clear hM hm hjn hml
      go_wp2
      go_ret
      exact ⟨ret_int hmm.out.symm, h1.out, t1.out⟩

set_option maxHeartbeats 3200000 in
theorem heldNodeS_any {A : Option Addr} {ns : List Nd} {w : World} {n : Nat} (c : Nat) (k : Int) (hnl : Hid (ns.length = n)) (h : NodesR w A (marksN k ns)) (hb : bulk ns ≤ 1048576) (hk : 0 ≤ k) (hk' : k ≤ 1048576) :
    Calls Alt.prog 55 #[.slice A n c, .int .i64 k] w fun e w' => e = .returned (.int .i64 (k + 2 * bulk ns)) ∧ w = w' := by
  have hl := bulk_len ns
  have e := hnl.out
  subst e
  clear hnl
  replace h := hide h
  go_enter Alt.func55, Try.ntmps55
  go_wp2_with fail
  go_loop [1, 5] (fun q i => ∃ (j : Nat) (m : Int), j ≤ ns.length ∧ i = .int .i64 j ∧ q = .int .i64 m ∧ Hid (m = k + 2 * bulk (ns.take j))) (fun _ i => ns.length - (intOf i).toNat)
  case atStart => exact ⟨0, k, Nat.zero_le _, rfl, rfl, hide (by simp [bulk])⟩
  case round =>
    obtain ⟨j, m, hj, rfl, rfl, hm⟩ := hrel
    by_cases hlt : j < ns.length
    · obtain ⟨⟨x, l, y⟩, hn⟩ : ∃ n, ns[j]? = some n := ⟨_, List.getElem?_eq_getElem hlt⟩
      have hlm : l.length ≤ 1048576 := bulk_of hb hn
      have hbt := bulk_take ns j
      have m0 : 0 ≤ m := by have := hm.out; omega
      have m1 : m ≤ 3145728 := by have := hm.out; omega
      obtain ⟨b, o, x2, l2, y2, B, d, hA, hbl, hn2, hld, hdm, hB, c0, c1, c2, c1', c2'⟩ := node_at h.out (i := j) (by rw [marksN_len]; exact hlt)
      rw [marksN_at ns k j _ hn, ← hm.out] at hn2
      cases hn2
      subst hA
      have hmu : Hid ((marksU (m + 1) l.length).length = l.length) := hide (marksU_len _ _)
      rw [hmu.out] at c1'
      replace hB := hide hB
      have hm' := hide (show m + 1 + 2 * l.length + 1 = k + 2 * bulk (ns.take (j + 1)) by
        obtain ⟨hj2, e⟩ := List.getElem?_eq_some_iff.1 hn
        have := bulk_take_succ hj2
        rw [e] at this
        simp only at this
        have := hm.out
        omega)
      replace hn := hide hn
      clear c1 c2 hld
      go_wp2_with (go_at_call 78; refine (heldUpdateS_any l.length d (m + 1) hB.out hlm (by omega) (by omega)).mono ?_; rintro e w' ⟨rfl, rfl⟩)
      go_round
      case rel => exact ⟨j + 1, _, by omega, by go_num, rfl, hm'⟩
      case measure => simp [intOf]; omega
    · have hjn : j = ns.length := by omega
      have hmm := hide (show k + 2 * bulk ns = m by have := hm.out; rw [hjn, List.take_length] at this; omega)
      clear hm hjn
      go_wp2
      go_ret
      exact ⟨ret_int hmm.out.symm, rfl⟩

theorem markChain_in {w : World} {lo hi c : Nat} {A : Option Addr} {ns : List Nd} (v k : Int) (h : NodesOwn w lo hi A c ns) (hb : bulk ns ≤ 1048576) (hk : 0 ≤ k) (hk' : k ≤ 1048576) :
    Calls Alt.prog 25 #[.agg #[.int .i64 v, .slice A ns.length c], .int .i64 k] w fun e w' => e = .returned (.int .i64 (k + 2 * bulk ns)) ∧ NodesOwn w' lo hi A c (marksN k ns) ∧ Turned lo hi w w' := by
  have hE0 := hide (ext_alloc (ext_refl w) (.cells #[.int .i64 v, .slice A ns.length c] 25))
  replace h := hide (h.ext hE0.out)
  go_enter Alt.func25, Try.ntmps25
  go_wp2_with fail
  refine (markNodeS_in k h.out hb hk hk').mono ?_
  rintro e w1 ⟨rfl, h1, h2⟩
  replace h1 := hide h1
  replace h2 := hide (Turned.trans (Turned.of_ext hE0.out) h2)
  go_wp2_with fail
  go_ret
  exact ⟨rfl, h1.out, h2.out⟩

theorem heldChain_any {A : Option Addr} {ns : List Nd} {w : World} {n : Nat} (c : Nat) (v k : Int) (hnl : Hid (ns.length = n)) (h : NodesR w A (marksN k ns)) (hb : bulk ns ≤ 1048576) (hk : 0 ≤ k) (hk' : k ≤ 1048576) :
    Calls Alt.prog 26 #[.agg #[.int .i64 v, .slice A n c], .int .i64 k] w fun e w' => e = .returned (.int .i64 (k + 2 * bulk ns)) ∧ Ext w w' := by
  have hE0 := hide (ext_alloc (ext_refl w) (.cells #[.int .i64 v, .slice A n c] 25))
  replace h := hide (h.ext hE0.out)
  have hbk : (0 : Int) ≤ k + 2 * bulk ns := by omega
  go_enter Alt.func26, Try.ntmps26
  go_wp2_with (go_at_call 55; refine (heldNodeS_any c k hnl h.out hb hk hk').mono ?_; rintro e w' ⟨rfl, rfl⟩)
  go_ret
  exact ⟨rfl, hE0.out⟩
end Go.Proofs.YtciekjplhbimdaaZ
