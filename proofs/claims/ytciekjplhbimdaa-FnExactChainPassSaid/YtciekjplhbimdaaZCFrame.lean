/-
  Arguments opened, more: chains.
-/
import Derived.Test.YtciekjplhbimdaaZNFrame
import Derived.Test.YtciekjplhbimdaaZCMem
set_option linter.all false
set_option maxRecDepth 100000
namespace Go.Proofs.YtciekjplhbimdaaZ
open Go.ChangeShapes Go.WideShapes Go.ChangeAt Go.RowKit Go.Deep Go.Joins

def NodesArg (W : World) (a : Option Addr) (n c : Nat) (ns : List Nd) : Prop := n = ns.length ∧ n ≤ c ∧ c ≤ maxLen ∧ NodesR W a ns
section
variable {H : Type} {enc : TypeId × Value → H} {W : World} {held : Bool}
theorem cellsNode2 : Try.prog.cellsOf 104 = 3 := by kernel_rfl
theorem open_nodesR {a : Option Addr} {n c : Nat} {d : DataW H} {p : List MemPlace} (h : DataW.Trod enc Try.prog W 0 (fun _ => true) held 43 (.slice a n c) d p) : ∃ ns, NodesArg W a n c ns := by
  obtain ⟨fuel, hf⟩ := h
  rcases open_slice Try.underlying43 hf with ⟨hcs, _⟩ | ⟨x, l, c', m, k, D, Pl, hcs, _, hl, hm, hmm, _, hi⟩
  · simp [Value.cells] at hcs
    obtain ⟨rfl, rfl, rfl⟩ := hcs
    exact ⟨[], rfl, Nat.le_refl _, by simp [maxLen], NodesR.nil _ _⟩
  · simp [Value.cells] at hcs
    obtain ⟨rfl, rfl, rfl⟩ := hcs
    simp only [if_true] at hmm
    subst hmm
    rw [cellsNode2] at hi
    have key : ∀ i, i < m → ∃ u : Nd × Sl, W.cell? (x.add (i * 3)) = some (.int .i64 u.1.id) ∧ W.cell? (x.add (i * 3 + 1)) = some (.slice u.2.1 u.1.log.length u.2.2) ∧ W.cell? (x.add (i * 3 + 2)) = some (.int .i64 u.1.done) ∧ NodeAt W u.2 u.1 := fun i him => by
      obtain ⟨cs', hc, ht'⟩ := hi i him
      obtain ⟨ys, n', hn', hy, hlen, hyl, hff⟩ := DataW.trod_struct Try.underlying104 ht'
      obtain ⟨_, hcl, hat⟩ := World.cells?_some hc
      match cs', hcl with
      | [v0, v1, v2], _ =>
        have g0 : DataW.trod enc Try.prog W 0 (fun _ => true) held n' 3 ((([v0, v1, v2] : List Value).drop 0).take (Try.prog.cellsOf 3)) = ys[0]? := hff 0 _ rfl
        have g1 : DataW.trod enc Try.prog W 0 (fun _ => true) held n' 102 ((([v0, v1, v2] : List Value).drop 1).take (Try.prog.cellsOf 102)) = ys[1]? := hff 1 _ rfl
        have g2 : DataW.trod enc Try.prog W 0 (fun _ => true) held n' 3 ((([v0, v1, v2] : List Value).drop 2).take (Try.prog.cellsOf 3)) = ys[2]? := hff 2 _ rfl
        have h0 := hat 0 (by simp)
        have h1 := hat 1 (by simp)
        have h2 := hat 2 (by simp)
        rw [List.getElem?_eq_getElem (by rw [hyl]; decide)] at g0
        rw [List.getElem?_eq_getElem (by rw [hyl]; decide)] at g1
        rw [List.getElem?_eq_getElem (by rw [hyl]; decide)] at g2
        have e0 : (([v0, v1, v2] : List Value).drop 0).take (Try.prog.cellsOf 3) = [v0] := by rw [show Try.prog.cellsOf 3 = 1 from by kernel_rfl]; rfl
        have e1 : (([v0, v1, v2] : List Value).drop 1).take (Try.prog.cellsOf 102) = [v1] := by rw [show Try.prog.cellsOf 102 = 1 from by kernel_rfl]; rfl
        have e2 : (([v0, v1, v2] : List Value).drop 2).take (Try.prog.cellsOf 3) = [v2] := by rw [show Try.prog.cellsOf 3 = 1 from by kernel_rfl]; rfl
        rw [e0] at g0
        rw [e1] at g1
        rw [e2] at g2
        obtain ⟨a, ha, _, _⟩ := DataW.trod_int Try.underlying3 g0
        obtain ⟨b, hb, _, _⟩ := DataW.trod_int Try.underlying3 g2
        simp at ha hb
        subst ha hb
        have hs : ∃ x n c, v1 = .slice x n c := by
          rcases open_slice Try.underlying102 g1 with ⟨hcs, _⟩ | ⟨x, l, c', m', k, D, Pl, hcs, _⟩
          · exact ⟨none, 0, 0, by simpa using hcs⟩
          · exact ⟨some x, l, c', by simpa using hcs⟩
        obtain ⟨x', n2, c2, rfl⟩ := hs
        obtain ⟨lg, hlg⟩ := open_updsR (held := held) (enc := enc) (W := W) (a := x') (n := n2) (c := c2) (d := (ys[1]'(by rw [hyl]; decide)).1) (p := (ys[1]'(by rw [hyl]; decide)).2) ⟨n', g1⟩
        obtain ⟨rfl, hq1, hq2, hq3⟩ := hlg
        refine ⟨(⟨a, lg, b⟩, (x', c2)), ?_, ?_, ?_, hq1, hq2, hq3⟩
        · simpa [add_add] using h0
        · simpa [add_add] using h1
        · simpa [add_add] using h2
    haveI : Inhabited (Nd × Sl) := ⟨(Nd.zero, (none, 0))⟩
    obtain ⟨f, hfu⟩ := choose_lt (α := Nd × Sl) key
    refine ⟨(List.range n).map fun i => (f i).1, by simp, hl, hm, (List.range n).map fun i => (f i).2, by simp, fun hp => ?_, fun i a' n' ha hn => ?_⟩
    · have hn : 0 < n := by rw [ncells_len _ _ (by simp)] at hp; simp at hp; omega
      have h0 := (hfu 0 (by omega)).1
      obtain ⟨b, o, spot⟩ := x
      have hspot : spot = none := by simpa [Addr.add] using World.cell?_spot h0
      subst hspot
      refine ⟨b, o, rfl, fun j u hj => ?_⟩
      have hj' : j < n * 3 := by
        have := (List.getElem?_eq_some_iff.1 hj).1
        rw [ncells_len _ _ (by simp)] at this; simpa using this
      obtain ⟨q, hq⟩ : ∃ q, j = q * 3 ∨ j = q * 3 + 1 ∨ j = q * 3 + 2 := ⟨j / 3, by omega⟩
      have hqn : q < n := by omega
      have hN : ((List.range n).map fun i => (f i).1)[q]? = some (f q).1 := by simp [hqn]
      have hS : ((List.range n).map fun i => (f i).2)[q]? = some (f q).2 := by simp [hqn]
      obtain ⟨e1, e2, e3⟩ := ncells_at _ _ q _ _ hN hS
      obtain ⟨g1, g2, g3, -⟩ := hfu q (by omega)
      rcases hq with rfl | rfl | rfl
      · rw [e1] at hj; cases hj; rw [Addr.add_lit] at g1; exact g1
      · rw [e2] at hj; cases hj; rw [Addr.add_lit] at g2; exact g2
      · rw [e3] at hj; cases hj; rw [Addr.add_lit] at g3; exact g3
    · have hi' : i < n := by have := (List.getElem?_eq_some_iff.1 ha).1; simpa using this
      simp [hi'] at ha hn
      subst ha hn
      exact (hfu i (by omega)).2.2.2
theorem cellsChain : Try.prog.cellsOf 45 = 2 := by kernel_rfl
theorem open_chainR {v : Value} {base : Nat} {d : DataW H} {p : List MemPlace} (hv : Value.okWide Try.prog W .any base 45 v) (h : DataW.Trod enc Try.prog W 0 (fun _ => true) held 45 v d p) :
    ∃ i a n c l, v = .agg #[.int .i64 i, .slice a n c] ∧ NodesArg W a n c l := by
  obtain ⟨c0, c1, y0, y1, m, rfl, rfl, rfl, hy0, hy1⟩ := open_agg2 Try.underlying45 (by kernel_rfl) cellsChain hv h
  obtain ⟨a, e0, _, _⟩ := DataW.trod_int Try.underlying3 hy0
  simp at e0
  subst e0
  have hs : ∃ x n c, c1 = .slice x n c := by
    rcases open_slice Try.underlying43 hy1 with ⟨hcs, _⟩ | ⟨x, l, c', m', k, D, Pl, hcs, _⟩
    · exact ⟨none, 0, 0, by simpa using hcs⟩
    · exact ⟨some x, l, c', by simpa using hcs⟩
  obtain ⟨x, n, c, rfl⟩ := hs
  obtain ⟨l, hl⟩ := open_nodesR (held := held) (enc := enc) (W := W) (a := x) (n := n) (c := c) (d := y1.1) (p := y1.2) ⟨m, hy1⟩
  exact ⟨a, x, n, c, l, rfl, hl⟩
end
end Go.Proofs.YtciekjplhbimdaaZ
