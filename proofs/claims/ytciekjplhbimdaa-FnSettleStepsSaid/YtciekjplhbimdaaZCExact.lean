/-
  Contracts of the exact laws' functions on chains: copies, sizes, comparisons.
-/
import Derived.Test.YtciekjplhbimdaaZCMem
import Derived.Test.YtciekjplhbimdaaZNDraw
set_option linter.all false
set_option maxRecDepth 100000
namespace Go.Proofs.YtciekjplhbimdaaZ
open Go.RowKit
attribute [local go_sem ↓] Go.wp_at_zero Go.wp_at_succ

theorem infoN : (Alt.prog.info? 36).map (fun i => (i.zero, i.size, i.bytes)) = some (some (.agg #[.int .i64 0, .slice none 0 0, .int .i64 0]), 3, 40) := by kernel_rfl

/-! ### Nodes of the call's own -/
def blk (a : Sl) : Option Nat := a.1.map (·.block)
theorem blk_own (a : Sl) (n : Nat) : (Value.slice a.1 n a.2).ownBlock = blk a := by
  obtain ⟨A, c⟩ := a
  cases A <;> rfl
def Apart (ss : List Sl) : Prop := ∀ (i j : Nat) (a b : Sl), i < j → ss[i]? = some a → ss[j]? = some b → ∀ g, blk a = some g → blk b ≠ some g
/-- The logs of nodes, each of the call's own, within a range of blocks. -/
def LogsIn (w : World) (lo hi : Nat) (ss : List Sl) (ns : List Nd) : Prop := ∀ (i : Nat) (a : Sl) (n : Nd), ss[i]? = some a → ns[i]? = some n → LogIn w lo hi a.1 a.2 n.log
/-- A slice of nodes of the call's own. -/
def NodesOwn (w : World) (lo hi : Nat) (A : Option Addr) (c : Nat) (ns : List Nd) : Prop :=
  ∃ ss : List Sl, ss.length = ns.length ∧ RowIn w lo hi 36 3 (.slice A ns.length c) ns.length (ncells ns ss) ∧ LogsIn w lo hi ss ns ∧ Apart ss
section
variable {w w' : World} {lo hi a b c : Nat} {A : Option Addr} {ns : List Nd} {ss : List Sl}
theorem LogsIn.ext (h : LogsIn w a b ss ns) (hE : Ext w w') : LogsIn w' a b ss ns := fun i x n hx hn => (h i x n hx hn).ext hE
theorem LogsIn.turned (h : LogsIn w a b ss ns) (ht : Turned lo hi w w') (hs : b ≤ lo ∨ hi ≤ a) : LogsIn w' a b ss ns := fun i x n hx hn => (h i x n hx hn).turned ht hs
theorem LogsIn.wide {a' b' : Nat} (h : LogsIn w a b ss ns) (ha : a' ≤ a) (hb : b ≤ b') : LogsIn w a' b' ss ns := fun i x n hx hn => (h i x n hx hn).wide ha hb
theorem LogsIn.lt (h : LogsIn w a b ss ns) (hl : ss.length = ns.length) {i : Nat} {x : Sl} (hx : ss[i]? = some x) : ∀ g, blk x = some g → a ≤ g ∧ g < b := fun g hg => by
  have hi := (List.getElem?_eq_some_iff.1 hx).1
  have h1 := h i x _ hx (List.getElem?_eq_getElem (show i < ns.length by omega))
  rw [← blk_own x (ns[i]'(by omega)).log.length] at hg
  exact ⟨(h1.1.lt g hg).1, h1.2 g hg⟩
theorem NodesOwn.ext (h : NodesOwn w a b A c ns) (hE : Ext w w') : NodesOwn w' a b A c ns := by
  obtain ⟨ss, h1, h2, h3, h4⟩ := h
  exact ⟨ss, h1, h2.ext hE, h3.ext hE, h4⟩
theorem NodesOwn.turned (h : NodesOwn w a b A c ns) (ht : Turned lo hi w w') (hs : b ≤ lo ∨ hi ≤ a) : NodesOwn w' a b A c ns := by
  obtain ⟨ss, h1, h2, h3, h4⟩ := h
  exact ⟨ss, h1, h2.turned ht hs, h3.turned ht hs, h4⟩
theorem NodesOwn.wide {a' b' : Nat} (h : NodesOwn w a b A c ns) (ha : a' ≤ a) (hb : b ≤ b') : NodesOwn w a' b' A c ns := by
  obtain ⟨ss, h1, h2, h3, h4⟩ := h
  exact ⟨ss, h1, h2.wide ha hb, h3.wide ha hb, h4⟩
theorem NodesOwn.read (h : NodesOwn w a b A c ns) : NodesR w A ns := by
  obtain ⟨ss, h1, h2, h3, -⟩ := h
  refine ⟨ss, h1, CellsR.of_own h2.1, fun i x n hx hn => ?_⟩
  have := h3 i x n hx hn
  obtain ⟨g1, g2⟩ := OwnU.cap (w := w) (base := a) (l := n.log) this.1
  exact ⟨g1, g2, this.log⟩
theorem NodesOwn.cap (h : NodesOwn w a b A c ns) : ns.length ≤ c ∧ c ≤ maxLen := by
  obtain ⟨ss, h1, h2, -⟩ := h
  obtain ⟨A', c', hv, g1, g2⟩ := own_form h2.1
  injection hv with _ _ hc
  subst hc
  exact ⟨g1, g2⟩
end
theorem Apart.snoc {ss : List Sl} {a : Sl} {m : Nat} (h : Apart ss) (h1 : ∀ (i : Nat) (x : Sl), ss[i]? = some x → ∀ g, blk x = some g → g < m) (h2 : ∀ g, blk a = some g → m ≤ g) : Apart (ss ++ [a]) := by
  intro i j x y hij hx hy g hg hg'
  by_cases hj : j < ss.length
  · rw [List.getElem?_append_left hj] at hy
    rw [List.getElem?_append_left (by omega)] at hx
    exact h i j x y hij hx hy g hg hg'
  · have hj' : j = ss.length := by
      have := (List.getElem?_eq_some_iff.1 hy).1
      simp at this
      omega
    subst hj'
    rw [List.getElem?_append_left (by omega)] at hx
    simp at hy
    subst hy
    have := h1 i x hx g hg
    have := h2 g hg'
    omega
theorem Apart.nil : Apart [] := fun i j a b _ h => by simp at h

theorem set_three {α : Type} : ∀ (xs : List α) (n : Nat) (a b c x y z : α) (rest : List α), xs.length = n → (((xs ++ a :: b :: c :: rest).set n x).set (n + 1) y).set (n + 2) z = xs ++ x :: y :: z :: rest
  | [], _, a, b, c, x, y, z, rest, rfl => rfl
  | u :: xs, _, a, b, c, x, y, z, rest, rfl => by
    simp only [List.length_cons, List.cons_append, List.set_cons_succ]
    rw [set_three xs xs.length a b c x y z rest rfl]

/-- A copy of nodes under way: the first k are there. -/
def CopiedN (w : World) (ns : List Nd) (k : Nat) (wr : World) : Prop :=
  ∃ (ss : List Sl) (rest : List Value), ss.length = k ∧ rest.length = (ns.length - k) * 3 ∧ wr.ownsRow w.heap.size 36 3 (.slice (some ⟨w.heap.size, 0, none⟩) ns.length ns.length) ns.length (ncells (ns.take k) ss ++ rest) ∧
    LogsIn wr (w.heap.size + 1) wr.heap.size ss (ns.take k) ∧ Apart ss ∧ Ext w wr

theorem copiedN_step {w wr w2 : World} {ns : List Nd} {k c : Nat} {x j : Int} {l : List Upd} {B : Option Addr} (h : CopiedN w ns k wr) (hE : Ext wr w2) (hn : ns[k]? = some ⟨x, l, j⟩) (hO : OwnU w2 wr.heap.size B c l) :
    (∃ u, w2.cell? ⟨w.heap.size, k * 3, none⟩ = some u) ∧ (∃ u, w2.cell? ⟨w.heap.size, k * 3 + 1, none⟩ = some u) ∧ (∃ u, w2.cell? ⟨w.heap.size, k * 3 + 2, none⟩ = some u) ∧
    w2.frozen? ⟨w.heap.size, k * 3, none⟩ = false ∧ w2.frozen? ⟨w.heap.size, k * 3 + 1, none⟩ = false ∧ w2.frozen? ⟨w.heap.size, k * 3 + 2, none⟩ = false ∧
    CopiedN w ns (k + 1) (((w2.setCell ⟨w.heap.size, k * 3, none⟩ (.int .i64 x)).setCell ⟨w.heap.size, k * 3 + 1, none⟩ (.slice B l.length c)).setCell ⟨w.heap.size, k * 3 + 2, none⟩ (.int .i64 j)) := by
  obtain ⟨ss, rest, hs, hr, hown, hlogs, hap, hE0⟩ := h
  obtain ⟨hk, hnk⟩ := List.getElem?_eq_some_iff.1 hn
  have hrow := (hown.lt w.heap.size rfl).2
  have hown := hown.kept (only_of_ext hE none) (by simp [Value.ownBlock])
  have hl := hown.1
  have htk : (ns.take k).length = k := by rw [List.length_take]; omega
  have htl : (ncells (ns.take k) ss).length = k * 3 := by rw [ncells_len _ _ (by rw [hs, htk]), htk]
  have c0 := hown.cellAt (k * 3) (by omega)
  have c1 := hown.cellAt (k * 3 + 1) (by omega)
  have c2 := hown.cellAt (k * 3 + 2) (by omega)
  refine ⟨⟨_, c0.trans (List.getElem?_eq_getElem (by omega))⟩, ⟨_, c1.trans (List.getElem?_eq_getElem (by omega))⟩, ⟨_, c2.trans (List.getElem?_eq_getElem (by omega))⟩, hown.frozenAt _, hown.frozenAt _, hown.frozenAt _, ?_⟩
  match rest, hr with
  | [], hr => simp at hr; omega
  | [a], hr => simp at hr; omega
  | [a, b], hr => simp at hr; omega
  | a :: b :: d :: rest, hr =>
    have hT : Turned w.heap.size (w.heap.size + 1) w2 (((w2.setCell ⟨w.heap.size, k * 3, none⟩ (.int .i64 x)).setCell ⟨w.heap.size, k * 3 + 1, none⟩ (.slice B l.length c)).setCell ⟨w.heap.size, k * 3 + 2, none⟩ (.int .i64 j)) :=
      ((Turned.set (p := ⟨w.heap.size, k * 3, none⟩) (Nat.le_refl _) (Nat.lt_succ_self _) _).trans (Turned.set (p := ⟨w.heap.size, k * 3 + 1, none⟩) (Nat.le_refl _) (Nat.lt_succ_self _) _)).trans (Turned.set (p := ⟨w.heap.size, k * 3 + 2, none⟩) (Nat.le_refl _) (Nat.lt_succ_self _) _)
    have hs2 := hE.size
    refine ⟨ss ++ [(B, c)], rest, by simp [hs], by simp at hr; omega, ?_, ?_, ?_, ?_⟩
    · have h2 := (((hown.stored (k * 3) (.int .i64 x)).1.stored (k * 3 + 1) (.slice B l.length c)).1.stored (k * 3 + 2) (.int .i64 j)).1
      rw [set_three _ _ _ _ _ _ _ _ _ htl] at h2
      have e : ncells (ns.take (k + 1)) (ss ++ [(B, c)]) = ncells (ns.take k) ss ++ [.int .i64 x, .slice B l.length c, .int .i64 j] := by
        rw [List.take_succ_eq_append_getElem hk, ncells_append _ _ _ _ (by rw [hs, htk]), hnk]
        simp [ncells]
      rw [e, List.append_assoc]
      exact h2
    · intro i a' n ha hn'
      by_cases hik : i < k
      · rw [List.getElem?_append_left (by omega)] at ha
        have hn2 : (ns.take k)[i]? = some n := by
          rw [List.getElem?_take, if_pos hik]
          rw [List.getElem?_take, if_pos (by omega)] at hn'
          exact hn'
        exact (((hlogs i a' n ha hn2).ext hE).turned hT (.inr (Nat.le_refl _))).wide (Nat.le_refl _) (Nat.le_trans hs2 hT.size)
      · have hik' : i = k := by
          have := (List.getElem?_eq_some_iff.1 ha).1
          simp at this
          omega
        subst hik'
        rw [List.getElem?_append_right (by omega)] at ha
        simp [hs] at ha
        rw [List.getElem?_take, if_pos (by omega), hn] at hn'
        cases hn'
        subst ha
        exact ((LogIn.of hO).turned hT (.inr hrow)).wide hrow hT.size
    · refine hap.snoc (m := wr.heap.size) (fun i y hy g hg => ((hlogs.lt (by rw [hs, htk]) hy) g hg).2) (fun g hg => ?_)
      rw [← blk_own (B, c) l.length] at hg
      exact (World.ownsRow.lt hO g hg).1
    · exact (((ext_trans hE0 hE).setCell (Nat.le_refl _) _).setCell (Nat.le_refl _) _).setCell (Nat.le_refl _) _

set_option maxHeartbeats 1600000 in
/-- A copy of nodes in new memory. -/
theorem toNodeS_any {A : Option Addr} {ns : List Nd} (c : Nat) {w : World} (h : NodesR w A ns) (hb : bulk ns ≤ 1048576) :
    Calls Alt.prog 52 #[.slice A ns.length c] w fun e w' => e = .returned (.slice (some ⟨w.heap.size, 0, none⟩) ns.length ns.length) ∧ NodesOwn w' w.heap.size w'.heap.size (some ⟨w.heap.size, 0, none⟩) ns.length ns ∧ Ext w w' := by
  replace h := hide h
  have hl := bulk_len ns
  obtain ⟨i0, hi, hz0, hz1, hz2⟩ := info_parts infoN
  go_enter Alt.func52, Try.ntmps52
  go_wp2_with (at_make; refine wpList_make_full _ rfl _ _ 23 rfl w.heap.size 36 i0 _ 3 Alt.underlying23 hi hz0 hz1 _ _ _ _ ns.length rfl rfl rfl rfl (by rw [hz2]; omega) (by unfold maxLen; omega) (Nat.le_refl _) ?_)
  intro w1 hown hgr
  have hE1 : Ext w w1 := ⟨hgr.os, hgr.tape, hgr.output, hgr.size, fun i hi => hgr.block i hi (by simp)⟩
  have hst := hide (show CopiedN w ns 0 w1 from ⟨[], _, rfl, by rw [hown.1]; omega, by simpa [ncells] using hown, fun i a n ha => by simp at ha, Apart.nil, hE1⟩)
  clear hown hgr hE1
  go_wp2_with fail
  go_loopw [4] (fun i wr => ∃ k : Nat, k ≤ ns.length ∧ i = .int .i64 k ∧ Hid (CopiedN w ns k wr)) (fun i _ => ns.length - (intOf i).toNat)
  case atStart => exact ⟨0, Nat.zero_le _, rfl, hst⟩
  case round =>
    obtain ⟨k, hk, rfl, hC⟩ := hrel
    obtain ⟨_, _, _, _, _, _, _, hE⟩ := hC.out
    by_cases hlt : k < ns.length
    · obtain ⟨b, o, x, l, j, B, d, hA, hbl, hn, hld, hdm, hB, c0, c1, c2, c1', c2'⟩ := node_at (h.out.ext hE) hlt
      subst hA
      have hlm : l.length ≤ 1048576 := bulk_of hb hn
      replace hn := hide hn
      replace hB := hide hB
      replace hE := hide hE
      go_wp2_with fail
      refine (toNode_any d x j hB.out hlm).mono ?_
      intro e w2 hG
      obtain ⟨A2, c2x, rfl, -, -, hO, hF⟩ := hG.use
      obtain ⟨⟨u0, d0⟩, ⟨u1, d1⟩, ⟨u2, d2⟩, f0, f1, f2, hC'⟩ := copiedN_step hC.out hF hn.out hO.out
      replace hC' := hide hC'
      clear hC hE hG hF hO
      go_wp2_with fail
      go_roundw
      case rel => exact ⟨k + 1, by omega, by go_num, hC'⟩
      case measure => simp [intOf]; omega
    · have hkn : k = ns.length := by omega
      obtain ⟨ss, rest, hs, hr, hown, hlogs, hap, hE'⟩ := hC.out
      have hr0 : rest = [] := List.eq_nil_of_length_eq_zero (by rw [hr, hkn]; omega)
      rw [hr0, List.append_nil, hkn, List.take_length] at hown
      rw [hkn, List.take_length] at hlogs
      have fin := hide (show NodesOwn wr w.heap.size wr.heap.size (some ⟨w.heap.size, 0, none⟩) ns.length ns from ⟨ss, by rw [hs, hkn], RowIn.of hown, hlogs.wide (by omega) (Nat.le_refl _), hap⟩)
      have fin2 := hide hE'
      clear hC hE hE' hown hlogs hap hs hr hr0
      replace hkn := hide hkn
      go_wp2
      go_ret
      exact ⟨rfl, fin.out, fin2.out⟩

theorem toNodeS_at {A : Option Addr} {ns : List Nd} (c : Nat) {w : World} {H : Nat} (hH : Hid (w.heap.size = H)) (h : NodesR w A ns) (hb : bulk ns ≤ 1048576) :
    Calls Alt.prog 52 #[.slice A ns.length c] w fun e w' => e = .returned (.slice (some ⟨H, 0, none⟩) ns.length ns.length) ∧ NodesOwn w' H w'.heap.size (some ⟨H, 0, none⟩) ns.length ns ∧ Ext w w' := by
  have e := hH.out
  subst e
  exact toNodeS_any c h hb
/-- A chain of the call's own is handed back. -/
def GotCh (w : World) (v : Int) (ns : List Nd) (e : Ending) (w' : World) : Prop :=
  ∃ (A : Option Addr) (c : Nat), e = .returned (.agg #[.int .i64 v, .slice A ns.length c]) ∧ NodesOwn w' w.heap.size w'.heap.size A c ns ∧ Ext w w'
theorem GotCh.use {w w' : World} {v : Int} {ns : List Nd} {e : Ending} (h : GotCh w v ns e w') :
    ∃ A c, e = .returned (.agg #[.int .i64 v, .slice A ns.length c]) ∧ ns.length ≤ c ∧ c ≤ maxLen ∧ Hid (NodesOwn w' w.heap.size w'.heap.size A c ns) ∧ Ext w w' := by
  obtain ⟨A, c, rfl, h1, h2⟩ := h
  exact ⟨A, c, rfl, h1.cap.1, h1.cap.2, h1, h2⟩
theorem Turned.set2 {w : World} (g : Nat) (u v : Value) : Turned g (g + 1) w ((w.setCell ⟨g, 0, none⟩ u).setCell ⟨g, 1, none⟩ v) :=
  (Turned.set (p := ⟨g, 0, none⟩) (Nat.le_refl _) (Nat.lt_succ_self _) u).trans (Turned.set (p := ⟨g, 1, none⟩) (Nat.le_refl _) (Nat.lt_succ_self _) v)
set_option maxHeartbeats 1600000 in
theorem toChain_any {A : Option Addr} {ns : List Nd} (c : Nat) (v : Int) {w : World} (h : NodesR w A ns) (hb : bulk ns ≤ 1048576) :
    Calls Alt.prog 23 #[.agg #[.int .i64 v, .slice A ns.length c]] w (GotCh w v ns) := by
  replace h := hide h
  have hE := hide (ext_refl w)
  have b := hide (Blk.newAt (w) 45 #[.int .i64 v, .slice A ns.length c] (g := w.heap.size) (by simp))
  replace h := hide (h.out.ext (ext_alloc (ext_refl (w)) (.cells #[.int .i64 v, .slice A ns.length c] 45)))
  replace hE := hide (ext_alloc hE.out (.cells #[.int .i64 v, .slice A ns.length c] 45))
  have r := hide (Blk.newAt (w.alloc (.cells #[.int .i64 v, .slice A ns.length c] 45)) 25 #[.int .i64 0, .slice none 0 0] (g := w.heap.size + 1) (by simp))
  replace h := hide (h.out.ext (ext_alloc (ext_refl (w.alloc (.cells #[.int .i64 v, .slice A ns.length c] 45))) (.cells #[.int .i64 0, .slice none 0 0] 25)))
  replace b := hide (b.out.ext (ext_alloc (ext_refl (w.alloc (.cells #[.int .i64 v, .slice A ns.length c] 45))) (.cells #[.int .i64 0, .slice none 0 0] 25)))
  replace hE := hide (ext_alloc hE.out (.cells #[.int .i64 0, .slice none 0 0] 25))
  have o := hide (Blk.newAt ((w.alloc (.cells #[.int .i64 v, .slice A ns.length c] 45)).alloc (.cells #[.int .i64 0, .slice none 0 0] 25)) 25 #[.int .i64 v, .slice none 0 0] (g := w.heap.size + 1 + 1) (by simp))
  replace h := hide (h.out.ext (ext_alloc (ext_refl ((w.alloc (.cells #[.int .i64 v, .slice A ns.length c] 45)).alloc (.cells #[.int .i64 0, .slice none 0 0] 25))) (.cells #[.int .i64 v, .slice none 0 0] 25)))
  replace b := hide (b.out.ext (ext_alloc (ext_refl ((w.alloc (.cells #[.int .i64 v, .slice A ns.length c] 45)).alloc (.cells #[.int .i64 0, .slice none 0 0] 25))) (.cells #[.int .i64 v, .slice none 0 0] 25)))
  replace r := hide (r.out.ext (ext_alloc (ext_refl ((w.alloc (.cells #[.int .i64 v, .slice A ns.length c] 45)).alloc (.cells #[.int .i64 0, .slice none 0 0] 25))) (.cells #[.int .i64 v, .slice none 0 0] 25)))
  replace hE := hide (ext_alloc hE.out (.cells #[.int .i64 v, .slice none 0 0] 25))
  have hH := hide (show (((w.alloc (.cells #[.int .i64 v, .slice A ns.length c] 45)).alloc (.cells #[.int .i64 0, .slice none 0 0] 25)).alloc (.cells #[.int .i64 v, .slice none 0 0] 25)).heap.size = w.heap.size + 1 + 1 + 1 by simp)
  go_enter Alt.func23, Try.ntmps23
  go_wp2_with fail
  refine (toNodeS_at c hH h.out hb).mono ?_
  rintro e w1 ⟨rfl, hO, hF⟩
  replace hO := hide hO
  clear hH h
  replace r := hide (r.out.ext hF)
  replace o := hide (o.out.ext hF)
  try clear r_0 r_1 r_lt r_f0 r_f1
  obtain ⟨r_0, r_1, r_lt, r_f0, r_f1⟩ := r.out.at2f
  try clear o_0 o_1 o_lt o_f0 o_f1
  obtain ⟨o_0, o_1, o_lt, o_f0, o_f1⟩ := o.out.at2f
  replace hE := hide (ext_trans hE.out hF)
  clear hF
  go_wp2_with fail
  refine bodyPost_ret (v := .agg #[.int .i64 v, .slice (some ⟨w.heap.size + 1 + 1 + 1, 0, none⟩) ns.length ns.length]) (by simp [results, Try.results23, go_sem, r_0, r_1, o_0, o_1]) rfl ?_
  have t1 := Turned.set (w := w1) (p := ⟨w.heap.size + 1 + 1, 1, none⟩) (lo := w.heap.size + 1 + 1) (hi := w.heap.size + 1 + 1 + 1) (Nat.le_refl _) (Nat.lt_succ_self _) (.slice (some ⟨w.heap.size + 1 + 1 + 1, 0, none⟩) ns.length ns.length)
  have t2 := Turned.set2 (w := w1.setCell ⟨w.heap.size + 1 + 1, 1, none⟩ (.slice (some ⟨w.heap.size + 1 + 1 + 1, 0, none⟩) ns.length ns.length)) (w.heap.size + 1) (.int .i64 v) (.slice (some ⟨w.heap.size + 1 + 1 + 1, 0, none⟩) ns.length ns.length)
  exact ⟨_, _, rfl, ((hO.out.turned t1 (.inr (Nat.le_refl _))).turned t2 (.inr (by omega))).wide (by omega) (by simp [World.setCell]), Turned.ext (Turned.ext hE.out t1 (by omega)) t2 (by omega)⟩
end Go.Proofs.YtciekjplhbimdaaZ
