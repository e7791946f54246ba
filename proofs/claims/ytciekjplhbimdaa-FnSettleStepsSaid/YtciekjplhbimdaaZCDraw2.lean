/-
  Words: what is held while a chain is drawn.
-/
import Derived.Test.YtciekjplhbimdaaZCGot
import Derived.Test.YtciekjplhbimdaaZNDraw
set_option linter.all false
set_option maxRecDepth 100000
namespace Go.Proofs.YtciekjplhbimdaaZ
open Go.RowKit

/-- Nodes as they are drawn. -/
def Sane (ns : List Nd) : Prop := ∀ (i : Nat) (n : Nd), ns[i]? = some n → n.log.length ≤ 13 ∧ 0 ≤ n.done ∧ n.done ≤ 13
theorem sane_nil : Sane [] := fun i n h => by simp at h
theorem Sane.snoc {ns : List Nd} {x : Int} {l : List Upd} (h : Sane ns) (hl : l.length ≤ 13) : Sane (ns ++ [⟨x, l, 0⟩]) := fun i n hn => by
  by_cases hi : i < ns.length
  · rw [List.getElem?_append_left hi] at hn; exact h i n hn
  · have : i = ns.length := by have := (List.getElem?_eq_some_iff.1 hn).1; simp at this; omega
    subst this
    simp at hn
    subst hn
    exact ⟨hl, by simp, by simp⟩
theorem Sane.set {ns : List Nd} {k : Nat} {m : Nd} (h : Sane ns) (hl : m.log.length ≤ 13 ∧ 0 ≤ m.done ∧ m.done ≤ 13) : Sane (ns.set k m) := fun i n hn => by
  rw [List.getElem?_set] at hn
  split at hn
  · split at hn
    · cases hn; exact hl
    · cases hn
  · exact h i n hn

/-- While the nodes are made: w the world at the call, g the reader's block, P how far it has read at most, q the chain's block; what was made lies below hi. -/
structure CD (w : World) (g P q hi : Nat) (v : Int) (AL : Option Addr) (cl : Nat) (log : List Upd) (A : Option Addr) (c : Nat) (ns : List Nd) (ss : List Sl) (W : World) : Prop where
  back : Blk W w.heap.size 25 #[.int .i64 0, .slice none 0 0]
  chain : Blk W q 25 #[.int .i64 v, .slice A ns.length c]
  log : LogIn W (w.heap.size + 1) hi AL cl log
  len : ss.length = ns.length
  row : RowIn W (w.heap.size + 1) hi 36 3 (.slice A ns.length c) ns.length (ncells ns ss)
  logs : LogsIn W (w.heap.size + 1) hi ss ns
  apart : Apart ss
  only : w.grownBy W (some g)
  rd : RdAt W g P
  lo : w.heap.size < q
  qhi : q < hi
  gw : g < w.heap.size
  sane : Sane ns
section
variable {w W W' : World} {g P P' q hi a b cl c k : Nat} {v : Int} {AL A A' B : Option Addr} {log l : List Upd} {ns : List Nd} {ss : List Sl}
theorem CD.ext (h : CD w g P q hi v AL cl log A c ns ss W) (hE : Ext W W') : CD w g P q hi v AL cl log A c ns ss W' :=
  ⟨h.back.ext hE, h.chain.ext hE, h.log.ext hE, h.len, h.row.ext hE, h.logs.ext hE, h.apart, only_turned h.only (Turned.of_ext (lo := W.heap.size) (hi := W.heap.size) hE) h.only.size, h.rd.ext hE, h.lo, h.qhi, h.gw, h.sane⟩
theorem CD.pick (h : CD w g P q hi v AL cl log A c ns ss W) (hg : W.grownBy W' (some g)) (hr : RdAt W' g P') : CD w g P' q hi v AL cl log A c ns ss W' :=
  have ht := Turned.pick hg
  have h1 := h.gw
  have h2 := h.lo
  ⟨h.back.turned ht (.inr (by omega)), h.chain.turned ht (.inr (by omega)), h.log.turned ht (.inr (by omega)), h.len, h.row.turned ht (.inr (by omega)), h.logs.turned ht (.inr (by omega)), h.apart, only_pick h.only hg, hr, h.lo, h.qhi, h.gw, h.sane⟩
theorem CD.fresh (h : CD w g P q hi v AL cl log A c ns ss W) (ht : Turned a b W W') (ha : hi ≤ a) : CD w g P q hi v AL cl log A c ns ss W' :=
  have h1 := h.gw
  have h2 := h.lo
  have h3 := h.qhi
  ⟨h.back.turned ht (.inl (by omega)), h.chain.turned ht (.inl (by omega)), h.log.turned ht (.inl ha), h.len, h.row.turned ht (.inl ha), h.logs.turned ht (.inl ha), h.apart, only_turned h.only ht (by omega), h.rd.turned ht (by omega), h.lo, h.qhi, h.gw, h.sane⟩
/-- A node has been appended, the chain not yet turned. -/
theorem CD.kept (h : CD w g P q hi v AL cl log A c ns ss W) (hg : W.grownBy W' (Value.slice A ns.length c).ownBlock) :
    Blk W' w.heap.size 25 #[.int .i64 0, .slice none 0 0] ∧ Blk W' q 25 #[.int .i64 v, .slice A ns.length c] :=
  ⟨(hg.block _ h.back.lt (blk_types h.back h.row.1 typesCN)).trans h.back, (hg.block _ h.chain.lt (blk_types h.chain h.row.1 typesCN)).trans h.chain⟩
theorem CD.push (h : CD w g P q hi v AL cl log A c ns ss W) {d c' : Nat} {x : Int} (hk : ns.length = k) (hl : l.length ≤ 13) (hhi : hi ≤ W.heap.size) (hn : LogIn W hi W.heap.size B d l)
    (hown : W'.ownsRow (w.heap.size + 1) 36 3 (.slice A' (k + 1) c') (k + 1) (ncells ns ss ++ [.int .i64 x, .slice B l.length d, .int .i64 0])) (hg : W.grownBy W' (Value.slice A ns.length c).ownBlock) :
    CD w g P q W'.heap.size v AL cl log A' c' (ns ++ [⟨x, l, 0⟩]) (ss ++ [(B, d)]) (W'.setCell ⟨q, 1, none⟩ (.slice A' (k + 1) c')) := by
  subst hk
  have h1 := h.gw
  have h2 := h.lo
  have h3 := h.qhi
  obtain ⟨hb, hc⟩ := h.kept hg
  have hrow : ∀ i, (Value.slice A ns.length c).ownBlock = some i → w.heap.size + 1 ≤ i ∧ i < hi := fun i hi' => ⟨(h.row.1.lt i hi').1, h.row.2 i hi'⟩
  have ht : Turned (w.heap.size + 1) hi W W' := Turned.of_row hg hrow
  have ht2 : Turned q (q + 1) W' (W'.setCell ⟨q, 1, none⟩ (.slice A' (ns.length + 1) c')) := Turned.set (p := ⟨q, 1, none⟩) (Nat.le_refl _) (Nat.lt_succ_self _) _
  have hgs : W'.grownBy (W'.setCell ⟨q, 1, none⟩ (.slice A' (ns.length + 1) c')) (some q) := only_setCell (World.grownBy.refl W' (some q)) (.inl rfl) _
  have hss := ht.size
  have hs2 : (W'.setCell ⟨q, 1, none⟩ (.slice A' (ns.length + 1) c')).heap.size = W'.heap.size := by simp [World.setCell]
  have keepLog : ∀ {B' : Option Addr} {d' : Nat} {l' : List Upd} {lo' hi' : Nat}, LogIn W lo' hi' B' d' l' → LogIn (W'.setCell ⟨q, 1, none⟩ (.slice A' (ns.length + 1) c')) lo' hi' B' d' l' := fun {B' d' l' lo' hi'} hL => by
    have hL1 : W'.ownsRow lo' 39 2 (.slice B' l'.length d') l'.length (ucells l') := World.ownsRow.kept hL.1 hg (own_types hL.1 h.row.1 typesNU.symm)
    exact ⟨hL1.kept hgs (.inr (blk_types hc hL1 typesCU).symm), hL.2⟩
  refine ⟨hb.turned ht2 (.inl (by omega)), ?_, (keepLog h.log).wide (Nat.le_refl _) (by omega), by simp [h.len], ?_, fun i a n ha hn' => ?_, ?_, ?_, ?_, h.lo, by omega, h.gw, h.sane.snoc hl⟩
  · rw [List.length_append]; exact hc.set21 _
  · rw [List.length_append, ncells_append _ _ _ _ h.len]
    refine ⟨hown.kept hgs (.inr (blk_types hc hown typesCN).symm), fun g' hg' => (hown.lt g' hg').2⟩
  · by_cases hik : i < ns.length
    · rw [List.getElem?_append_left (by rw [h.len]; exact hik)] at ha
      rw [List.getElem?_append_left hik] at hn'
      exact (keepLog (h.logs i a n ha hn')).wide (Nat.le_refl _) (by omega)
    · have hik' : i = ns.length := by
        have := (List.getElem?_eq_some_iff.1 hn').1
        simp at this
        omega
      subst hik'
      rw [List.getElem?_append_right (by rw [h.len]; exact Nat.le_refl _)] at ha
      rw [List.getElem?_append_right (Nat.le_refl _)] at hn'
      simp [h.len] at ha hn'
      subst ha hn'
      exact (keepLog hn).wide (by omega) (by omega)
  · refine h.apart.snoc (m := hi) (fun i y hy g' hg' => ((h.logs.lt h.len hy) g' hg').2) (fun g' hg' => ?_)
    rw [← blk_own (B, d) l.length] at hg'
    exact (hn.1.lt g' hg').1
  · exact only_turned (only_turned h.only ht (by omega)) ht2 (by omega)
  · exact (h.rd.turned ht (by omega)).turned ht2 (by omega)
end

/-- While the nodes' dones are laid. -/
structure CE (w : World) (g P q hi : Nat) (v : Int) (A : Option Addr) (c : Nat) (ns : List Nd) (W : World) : Prop where
  back : Blk W w.heap.size 25 #[.int .i64 0, .slice none 0 0]
  chain : Blk W q 25 #[.int .i64 v, .slice A ns.length c]
  nodes : NodesOwn W (w.heap.size + 1) hi A c ns
  only : w.grownBy W (some g)
  rd : RdAt W g P
  lo : w.heap.size < q
  gw : g < w.heap.size
  hiW : hi ≤ W.heap.size
section
variable {w W W' : World} {g P P' q hi a b cl c k : Nat} {v : Int} {AL A A' B : Option Addr} {log l : List Upd} {ns : List Nd} {ss : List Sl}
theorem CD.done (h : CD w g P q hi v AL cl log A c ns ss W) (hhi : hi ≤ W.heap.size) : CE w g P q hi v A c ns W :=
  ⟨h.back, h.chain, ⟨ss, h.len, h.row, h.logs, h.apart⟩, h.only, h.rd, h.lo, h.gw, hhi⟩
theorem CE.ext (h : CE w g P q hi v A c ns W) (hE : Ext W W') : CE w g P q hi v A c ns W' :=
  ⟨h.back.ext hE, h.chain.ext hE, h.nodes.ext hE, only_turned h.only (Turned.of_ext (lo := W.heap.size) (hi := W.heap.size) hE) h.only.size, h.rd.ext hE, h.lo, h.gw, Nat.le_trans h.hiW hE.size⟩
theorem CE.pick (h : CE w g P q hi v A c ns W) (hg : W.grownBy W' (some g)) (hr : RdAt W' g P') : CE w g P' q hi v A c ns W' :=
  have ht := Turned.pick hg
  have h1 := h.gw
  have h2 := h.lo
  ⟨h.back.turned ht (.inr (by omega)), h.chain.turned ht (.inr (by omega)), h.nodes.turned ht (.inr (by omega)), only_pick h.only hg, hr, h.lo, h.gw, Nat.le_trans h.hiW ht.size⟩
theorem CE.cell {gA j : Nat} (h : CE w g P q hi v (some ⟨gA, 0, none⟩) c ns W) (ms : List Nd) (hl : ms.length = ns.length) (hn : 0 < ns.length) (u : Value) (hN : NodesOwn (W.setCell ⟨gA, j, none⟩ u) (w.heap.size + 1) hi (some ⟨gA, 0, none⟩) c ms) :
    CE w g P q hi v (some ⟨gA, 0, none⟩) c ms (W.setCell ⟨gA, j, none⟩ u) := by
  have h1 := h.gw
  have h2 := h.lo
  obtain ⟨gB, e, e1, e2, e3⟩ := h.nodes.addr hn
  cases e
  have ht : Turned gA (gA + 1) W (W.setCell ⟨gA, j, none⟩ u) := Turned.set (p := ⟨gA, j, none⟩) (Nat.le_refl _) (Nat.lt_succ_self _) u
  have hq : some q ≠ some gA := by
    obtain ⟨ss, _, h2, _⟩ := h.nodes
    exact blk_types h.chain h2.1 typesCN
  refine ⟨h.back.turned ht (.inl (by omega)), ?_, hN, only_turned h.only ht (by omega), h.rd.turned ht (by omega), h.lo, h.gw, by simpa [World.setCell] using h.hiW⟩
  rw [hl]
  exact h.chain.far (by intro e; exact hq (by rw [e])) u
theorem CE.setDone {gA i : Nat} {x y j : Int} (h : CE w g P q hi v (some ⟨gA, 0, none⟩) c ns W) (hn : ns[i]? = some ⟨x, l, j⟩) : CE w g P q hi v (some ⟨gA, 0, none⟩) c (ns.set i ⟨x, l, y⟩) (W.setCell ⟨gA, i * 3 + 2, none⟩ (.int .i64 y)) :=
  h.cell _ (by simp) (by have := (List.getElem?_eq_some_iff.1 hn).1; omega) _ (h.nodes.setDone hn)
theorem CE.setId {gA i : Nat} {x y j : Int} (h : CE w g P q hi v (some ⟨gA, 0, none⟩) c ns W) (hn : ns[i]? = some ⟨x, l, j⟩) : CE w g P q hi v (some ⟨gA, 0, none⟩) c (ns.set i ⟨y, l, j⟩) (W.setCell ⟨gA, i * 3, none⟩ (.int .i64 y)) :=
  h.cell _ (by simp) (by have := (List.getElem?_eq_some_iff.1 hn).1; omega) _ (h.nodes.setId hn)
theorem CE.setView {y : Int} (h : CE w g P q hi v A c ns W) : CE w g P q hi y A c ns (W.setCell ⟨q, 0, none⟩ (.int .i64 y)) :=
  have h1 := h.gw
  have h2 := h.lo
  have ht : Turned q (q + 1) W (W.setCell ⟨q, 0, none⟩ (.int .i64 y)) := Turned.set (p := ⟨q, 0, none⟩) (Nat.le_refl _) (Nat.lt_succ_self _) _
  ⟨h.back.turned ht (.inl (by omega)), h.chain.set20 _, h.nodes.other h.chain typesCN typesCU 0 _, only_turned h.only ht (by omega), h.rd.turned ht (by omega), h.lo, h.gw, by simpa [World.setCell] using h.hiW⟩
end
/-- What a drawn chain leaves. -/
def DrewC (w : World) (g P : Nat) (e : Ending) (w' : World) : Prop :=
  ∃ (A : Option Addr) (c : Nat) (v : Int) (ns : List Nd), e = .returned (.agg #[.int .i64 v, .slice A ns.length c]) ∧ 1 ≤ ns.length ∧ ns.length ≤ 5 ∧ (∀ n ∈ ns, n.log.length ≤ 13) ∧ NodesOwn w' (w.heap.size + 1) w'.heap.size A c ns ∧ w.grownBy w' (some g) ∧ RdAt w' g (P + 90)
end Go.Proofs.YtciekjplhbimdaaZ
