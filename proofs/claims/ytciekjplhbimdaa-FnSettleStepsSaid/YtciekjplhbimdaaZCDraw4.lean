/-
  Words: what is held while a law's chain is drawn.
-/
import Derived.Test.YtciekjplhbimdaaZCDraw2
import Derived.Test.YtciekjplhbimdaaZBDraw
set_option linter.all false
set_option maxRecDepth 100000
namespace Go.Proofs.YtciekjplhbimdaaZ
open Go.RowKit

def Low (ns : List Nd) : Prop := ∀ (i : Nat) (n : Nd), ns[i]? = some n → n.log.length ≤ 13
theorem Sane.low {ns : List Nd} (h : Sane ns) : Low ns := fun i n hn => (h i n hn).1
theorem Low.set {ns : List Nd} {k : Nat} {m : Nd} (h : Low ns) (hl : m.log.length ≤ 13) : Low (ns.set k m) := fun i n hn => by
  rw [List.getElem?_set] at hn
  split at hn
  · split at hn
    · cases hn; exact hl
    · cases hn
  · exact h i n hn
theorem low_of {ns : List Nd} (h : ∀ n ∈ ns, n.log.length ≤ 13) : Low ns := fun i n hn => h n (List.mem_of_getElem? hn)
theorem Low.bulk {ns : List Nd} (h : Low ns) (h5 : ns.length ≤ 5) : bulk ns ≤ 1048576 := by
  have := bulk_le 13 ns fun n hn => by
    obtain ⟨i, hi⟩ := List.getElem?_of_mem hn
    exact h i n hi
  omega

/-- A chain has been drawn. -/
def GotC (w : World) (e : Ending) (w' : World) : Prop :=
  ∃ (A : Option Addr) (c : Nat) (v : Int) (ns : List Nd), e = .returned (.agg #[.int .i64 v, .slice A ns.length c]) ∧ 1 ≤ ns.length ∧ ns.length ≤ 5 ∧ Low ns ∧ ns.length ≤ c ∧ c ≤ maxLen ∧ Hid (NodesR w' A ns) ∧ Ext w w'
/-- A chain and a number have been drawn. -/
def GotCI (w : World) (e : Ending) (w' : World) : Prop :=
  ∃ (A : Option Addr) (c : Nat) (v : Int) (ns : List Nd) (d : Int), e = .returned (.tuple #[.agg #[.int .i64 v, .slice A ns.length c], .int .i64 d]) ∧ 1 ≤ ns.length ∧ ns.length ≤ 5 ∧ Low ns ∧ ns.length ≤ c ∧ c ≤ maxLen ∧ Hid (NodesR w' A ns) ∧ Ext w w'
section
variable {w0 w W W' : World} {b g P P' q hi hi' lo a a' c i k d : Nat} {v x y z j : Int} {A B : Option Addr} {ns ms : List Nd} {l l' : List Upd} {u0 u1 : Value}
theorem gotC_mk (hb : Blk W b 25 #[u0, u1]) (hN : NodesOwn W lo hi A c ns) (hl : Low ns) (ho : w0.grownBy W (some g)) (h1 : w0.heap.size ≤ b) (h2 : w0.heap.size ≤ g) (l1 : 1 ≤ ns.length) (l5 : ns.length ≤ 5) (x y : Value) :
    GotC w0 (.returned (.agg #[.int .i64 v, .slice A ns.length c])) ((W.setCell ⟨b, 0, none⟩ x).setCell ⟨b, 1, none⟩ y) :=
  ⟨A, c, v, ns, rfl, l1, l5, hl, hN.cap.1, hN.cap.2, hide (hN.handed hb x y).read, ext_of_only (g := g) (only_turned ho (Turned.set2 (w := W) b x y) h1) h2⟩
theorem gotCI_mk (hb : Blk W b 25 #[u0, u1]) (hN : NodesOwn W lo hi A c ns) (hl : Low ns) (ho : w0.grownBy W (some g)) (h1 : w0.heap.size ≤ b) (h2 : w0.heap.size ≤ g) (l1 : 1 ≤ ns.length) (l5 : ns.length ≤ 5) (x y : Value) :
    GotCI w0 (.returned (.tuple #[.agg #[.int .i64 v, .slice A ns.length c], .int .i64 z])) ((W.setCell ⟨b, 0, none⟩ x).setCell ⟨b, 1, none⟩ y) :=
  ⟨A, c, v, ns, z, rfl, l1, l5, hl, hN.cap.1, hN.cap.2, hide (hN.handed hb x y).read, ext_of_only (g := g) (only_turned ho (Turned.set2 (w := W) b x y) h1) h2⟩

/-- A drawn chain that is turned further: w the world when the reader had been made, b the block of the result, g the reader's, q the chain's; the nodes lie below hi. -/
structure CF (w : World) (b g P q hi : Nat) (v : Int) (A : Option Addr) (c : Nat) (ns : List Nd) (W : World) : Prop where
  back : Blk W b 25 #[.int .i64 0, .slice none 0 0]
  chain : Blk W q 25 #[.int .i64 v, .slice A ns.length c]
  nodes : NodesOwn W w.heap.size hi A c ns
  only : w.grownBy W (some g)
  rd : RdAt W g P
  bw : b < w.heap.size
  gw : g < w.heap.size
  bg : b ≠ g
  qlo : w.heap.size ≤ q
  qhi : q < hi
  hiW : hi ≤ W.heap.size
  low : Low ns
theorem cf_start (hb : Blk W b 25 #[.int .i64 0, .slice none 0 0]) (hN : NodesOwn W (w.heap.size + 1) W.heap.size A c ns) (ho : w.grownBy W (some g)) (hr : RdAt W g P) (bw : b < w.heap.size) (gw : g < w.heap.size) (bg : b ≠ g) (hl : Low ns) :
    CF w b g P W.heap.size (W.heap.size + 1) v A c ns (W.alloc (.cells #[.int .i64 v, .slice A ns.length c] 25)) :=
  have hE : Ext W (W.alloc (.cells #[.int .i64 v, .slice A ns.length c] 25)) := ext_alloc (ext_refl W) _
  ⟨hb.ext hE, Blk.new _ _ _, (hN.ext hE).wide (Nat.le_succ _) (Nat.le_succ _), only_alloc ho _, hr.ext hE, bw, gw, bg, ho.size, Nat.lt_succ_self _, by simp, hl⟩
theorem CF.more (h : CF w b g P q hi v A c ns W) (hP : P ≤ P') : CF w b g P' q hi v A c ns W :=
  ⟨h.back, h.chain, h.nodes, h.only, h.rd.more hP, h.bw, h.gw, h.bg, h.qlo, h.qhi, h.hiW, h.low⟩
theorem CF.ext (h : CF w b g P q hi v A c ns W) (hE : Ext W W') : CF w b g P q hi v A c ns W' :=
  ⟨h.back.ext hE, h.chain.ext hE, h.nodes.ext hE, only_turned h.only (Turned.of_ext (lo := W.heap.size) (hi := W.heap.size) hE) h.only.size, h.rd.ext hE, h.bw, h.gw, h.bg, h.qlo, h.qhi, Nat.le_trans h.hiW hE.size, h.low⟩
theorem CF.pick (h : CF w b g P q hi v A c ns W) (hg : W.grownBy W' (some g)) (hr : RdAt W' g P') : CF w b g P' q hi v A c ns W' :=
  have ht := Turned.pick hg
  have h1 := h.gw
  have h2 := h.qlo
  have h3 := h.bg
  ⟨h.back.turned ht (by omega), h.chain.turned ht (.inr (by omega)), h.nodes.turned ht (.inr (by omega)), only_pick h.only hg, hr, h.bw, h.gw, h.bg, h.qlo, h.qhi, Nat.le_trans h.hiW ht.size, h.low⟩
theorem CF.fresh (h : CF w b g P q hi v A c ns W) (ht : Turned a a' W W') (ha : hi ≤ a) : CF w b g P q hi v A c ns W' :=
  have h1 := h.gw
  have h2 := h.qlo
  have h3 := h.qhi
  have h4 := h.bw
  ⟨h.back.turned ht (.inl (by omega)), h.chain.turned ht (.inl (by omega)), h.nodes.turned ht (.inl (by omega)), only_turned h.only ht (by omega), h.rd.turned ht (by omega), h.bw, h.gw, h.bg, h.qlo, h.qhi, Nat.le_trans h.hiW ht.size, h.low⟩
theorem CF.wide (h : CF w b g P q hi v A c ns W) (h1 : hi ≤ hi') (h2 : hi' ≤ W.heap.size) : CF w b g P q hi' v A c ns W :=
  ⟨h.back, h.chain, h.nodes.wide (Nat.le_refl _) h1, h.only, h.rd, h.bw, h.gw, h.bg, h.qlo, Nat.lt_of_lt_of_le h.qhi h1, h2, h.low⟩
theorem CF.fin (h : CF w b g P q hi v A c ns W) (hE : Ext w0 w) (h1 : w0.heap.size ≤ b) (h2 : w0.heap.size ≤ g) (l1 : 1 ≤ ns.length) (l5 : ns.length ≤ 5) (x y : Value) :
    GotC w0 (.returned (.agg #[.int .i64 v, .slice A ns.length c])) ((W.setCell ⟨b, 0, none⟩ x).setCell ⟨b, 1, none⟩ y) :=
  gotC_mk h.back h.nodes h.low (only_pick (only_of_ext hE (some g)) h.only) h1 h2 l1 l5 x y
/-- A store into the row of nodes. -/
theorem CF.cell {gA jj : Nat} (h : CF w b g P q hi v (some ⟨gA, 0, none⟩) c ns W) (hl : ms.length = ns.length) (hn : 0 < ns.length) (u : Value) (hN : NodesOwn (W.setCell ⟨gA, jj, none⟩ u) w.heap.size hi' (some ⟨gA, 0, none⟩) c ms) (h1 : hi ≤ hi') (h2 : hi' ≤ W.heap.size) (hlow : Low ms) :
    CF w b g P q hi' v (some ⟨gA, 0, none⟩) c ms (W.setCell ⟨gA, jj, none⟩ u) := by
  have b1 := h.bw
  have b2 := h.gw
  obtain ⟨gB, e, e1, e2, e3⟩ := h.nodes.addr hn
  cases e
  have ht : Turned gA (gA + 1) W (W.setCell ⟨gA, jj, none⟩ u) := Turned.set (p := ⟨gA, jj, none⟩) (Nat.le_refl _) (Nat.lt_succ_self _) u
  have hq : some q ≠ some gA := by
    obtain ⟨ss, _, h2, _⟩ := h.nodes
    exact blk_types h.chain h2.1 typesCN
  refine ⟨h.back.turned ht (.inl (by omega)), ?_, hN, only_turned h.only ht (by omega), h.rd.turned ht (by omega), h.bw, h.gw, h.bg, h.qlo, Nat.lt_of_lt_of_le h.qhi h1, by simpa [World.setCell] using h2, hlow⟩
  rw [hl]
  exact h.chain.far (by intro e; exact hq (by rw [e])) u
theorem CF.setDone {gA : Nat} (h : CF w b g P q hi v (some ⟨gA, 0, none⟩) c ns W) (hn : ns[i]? = some ⟨x, l, j⟩) : CF w b g P q hi v (some ⟨gA, 0, none⟩) c (ns.set i ⟨x, l, y⟩) (W.setCell ⟨gA, i * 3 + 2, none⟩ (.int .i64 y)) :=
  h.cell (by simp) (by have := (List.getElem?_eq_some_iff.1 hn).1; omega) _ (h.nodes.setDone hn) (Nat.le_refl _) h.hiW (h.low.set (m := ⟨x, l, y⟩) (h.low _ _ hn :))
theorem ucells_val : ∀ (l : List Upd) (i : Nat) (x y z : Int), l[i]? = some (x, y) → (ucells l).set (i * 2 + 1) (.int .i64 z) = ucells (l.set i (x, z))
  | [], i, x, y, z, h => by simp at h
  | u :: l, 0, x, y, z, h => by simp at h; subst h; simp [ucells]
  | u :: l, i + 1, x, y, z, h => by
    have := ucells_val l i x y z (by simpa using h)
    have e : (i + 1) * 2 + 1 = (i * 2 + 1) + 1 + 1 := by omega
    rw [e]
    simpa [ucells] using this
theorem LogIn.setVal {gB : Nat} (h : LogIn W lo hi (some ⟨gB, 0, none⟩) d l) (hx : l[i]? = some (x, y)) (z : Int) :
    LogIn (W.setCell ⟨gB, i * 2 + 1, none⟩ (.int .i64 z)) lo hi (some ⟨gB, 0, none⟩) d (l.set i (x, z)) ∧ W.grownBy (W.setCell ⟨gB, i * 2 + 1, none⟩ (.int .i64 z)) (Value.slice (some ⟨gB, 0, none⟩) l.length d).ownBlock := by
  have h1 := h.1.stored (i * 2 + 1) (.int .i64 z)
  refine ⟨⟨?_, fun g' hg' => h.2 g' hg'⟩, h1.2⟩
  rw [List.length_set, ← ucells_val _ _ _ _ _ hx]
  exact h1.1
/-- A store into a node's log. -/
theorem CF.logCell {gB : Nat} {x0 y0 : Int} (h : CF w b g P q hi v A c ns W) (hn : ns[k]? = some ⟨x, l, j⟩) (hL : LogIn W w.heap.size hi (some ⟨gB, 0, none⟩) d l) (hx : l[0]? = some (x0, y0)) (z : Int)
    (hback : ∀ (W' : World) (l' : List Upd), l'.length = l.length → LogIn W' w.heap.size hi (some ⟨gB, 0, none⟩) d l' → W.grownBy W' (Value.slice (some ⟨gB, 0, none⟩) l.length d).ownBlock → NodesOwn W' w.heap.size hi A c (ns.set k ⟨x, l', j⟩)) :
    CF w b g P q hi v A c (ns.set k ⟨x, l.set 0 (x0, z), j⟩) (W.setCell ⟨gB, 1, none⟩ (.int .i64 z)) := by
  have b1 := h.bw
  have b2 := h.gw
  have b3 := hL.1.lt gB rfl
  obtain ⟨f1, f2⟩ := LogIn.setVal (i := 0) hL hx z
  have e0 : 0 * 2 + 1 = 1 := rfl
  rw [e0] at f1 f2
  have ht : Turned gB (gB + 1) W (W.setCell ⟨gB, 1, none⟩ (.int .i64 z)) := Turned.set (p := ⟨gB, 1, none⟩) (Nat.le_refl _) (Nat.lt_succ_self _) _
  have hq := blk_types h.chain hL.1 typesCU
  refine ⟨h.back.turned ht (.inl (by omega)), ?_, hback _ _ (by simp) f1 f2, only_turned h.only ht (by omega), h.rd.turned ht (by omega), h.bw, h.gw, h.bg, h.qlo, h.qhi, by simpa [World.setCell] using h.hiW, h.low.set (by simpa using h.low _ _ hn)⟩
  rw [List.length_set]
  exact h.chain.far (by intro e; apply hq; rw [e]; rfl) _
/-- Another log, which lies behind all others. -/
theorem NodesOwn.setLog {gA : Nat} (h : NodesOwn W lo hi (some ⟨gA, 0, none⟩) c ns) (hn : ns[i]? = some ⟨x, l, j⟩) (hlo : lo ≤ hi) (hL : LogIn W hi hi' B d l') (hh : hi ≤ hi') :
    NodesOwn (W.setCell ⟨gA, i * 3 + 1, none⟩ (.slice B l'.length d)) lo hi' (some ⟨gA, 0, none⟩) c (ns.set i ⟨x, l', j⟩) := by
  obtain ⟨ss, h1, h2, h3, h4⟩ := h
  have hkeep : ∀ {B' : Option Addr} {d' : Nat} {m' : List Upd} {lo' hi2 : Nat}, LogIn W lo' hi2 B' d' m' → LogIn (W.setCell ⟨gA, i * 3 + 1, none⟩ (.slice B l'.length d)) lo' hi2 B' d' m' := fun h5 =>
    ⟨World.ownsRow.kept h5.1 (h2.1.stored (i * 3 + 1) (.slice B l'.length d)).2 (own_types h5.1 h2.1 typesNU.symm), h5.2⟩
  refine ⟨ss.set i (B, d), by simp [h1], ⟨?_, fun g' hg' => Nat.lt_of_lt_of_le (h2.2 g' hg') hh⟩, fun k a m ha hm => ?_, ?_⟩
  · have := (h2.1.stored (i * 3 + 1) (.slice B l'.length d)).1
    rw [show Value.slice B l'.length d = .slice (B, d).1 l'.length (B, d).2 from rfl, ncells_log ns ss i _ (B, d) l' hn] at this
    rw [List.length_set]
    exact this
  · rw [List.getElem?_set] at ha hm
    by_cases e : i = k
    · subst e
      have e1 := (List.getElem?_eq_some_iff.1 hn).1
      rw [if_pos rfl, if_pos (by omega)] at ha
      rw [if_pos rfl, if_pos e1] at hm
      cases ha
      cases hm
      exact (hkeep hL).wide hlo (Nat.le_refl _)
    · rw [if_neg e] at ha hm
      exact (hkeep (h3 k a m ha hm)).wide (Nat.le_refl _) hh
  · intro k m y z hkm hy hz g' hg' hg2
    rw [List.getElem?_set] at hy hz
    by_cases e : i = k
    · subst e
      rw [if_pos rfl] at hy
      split at hy
      · cases hy
        rw [if_neg (by omega)] at hz
        have f1 := (h3.lt h1 hz) g' hg2
        rw [← blk_own (B, d) l'.length] at hg'
        have f2 := (hL.1.lt g' hg').1
        omega
      · cases hy
    · rw [if_neg e] at hy
      by_cases e2 : i = m
      · subst e2
        rw [if_pos rfl] at hz
        split at hz
        · cases hz
          have f1 := (h3.lt h1 hy) g' hg'
          rw [← blk_own (B, d) l'.length] at hg2
          have f2 := (hL.1.lt g' hg2).1
          omega
        · cases hz
      · rw [if_neg e2] at hz
        exact h4 k m y z hkm hy hz g' hg' hg2
theorem CF.setLog {gA : Nat} (h : CF w b g P q hi v (some ⟨gA, 0, none⟩) c ns W) (hn : ns[i]? = some ⟨x, l, j⟩) (hL : LogIn W hi hi' B d l') (hh : hi ≤ hi') (h2 : hi' ≤ W.heap.size) (hl : l'.length ≤ 13) :
    CF w b g P q hi' v (some ⟨gA, 0, none⟩) c (ns.set i ⟨x, l', j⟩) (W.setCell ⟨gA, i * 3 + 1, none⟩ (.slice B l'.length d)) :=
  h.cell (by simp) (by have := (List.getElem?_eq_some_iff.1 hn).1; omega) _ (h.nodes.setLog hn (by have := h.qlo; have := h.qhi; omega) hL hh) hh h2 (h.low.set hl)
end
end Go.Proofs.YtciekjplhbimdaaZ
