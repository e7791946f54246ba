/-
  Arguments opened, more: numbers, updates, slices of updates.
-/
import Derived.Test.YtciekjplhbimdaaZFrame
import Derived.Test.YtciekjplhbimdaaZMem
set_option linter.all false
set_option maxRecDepth 100000
namespace Go.Proofs.YtciekjplhbimdaaZ
open Go.ChangeShapes Go.WideShapes Go.ChangeAt Go.RowKit Go.Deep Go.Joins

/-- What a walk is told of a slice of numbers, of a slice of updates. -/
def IntsArg (W : World) (a : Option Addr) (n c : Nat) (l : List Int) : Prop := n = l.length ∧ n ≤ c ∧ c ≤ maxLen ∧ IntsR W a l
def UpdsArg (W : World) (a : Option Addr) (n c : Nat) (l : List Upd) : Prop := n = l.length ∧ n ≤ c ∧ c ≤ maxLen ∧ LogR W a l

section
variable {H : Type} {enc : TypeId × Value → H} {W : World} {held : Bool}
theorem open_intsR {a : Option Addr} {n c : Nat} {d : DataW H} {p : List MemPlace} (h : DataW.Trod enc Try.prog W 0 (fun _ => true) held 52 (.slice a n c) d p) : ∃ l, IntsArg W a n c l := by
  obtain ⟨fuel, hf⟩ := h
  rcases open_ints Try.underlying52 Try.underlying3 (by kernel_rfl) hf with ⟨hcs, _⟩ | ⟨x, l, c', zs, hcs, _, hl, hm, hz, _, hcell, hwz⟩
  · simp [Value.cells] at hcs
    obtain ⟨rfl, rfl, rfl⟩ := hcs
    exact ⟨[], rfl, Nat.le_refl _, by simp [maxLen], CellsR.nil _ _⟩
  · simp [Value.cells] at hcs
    obtain ⟨rfl, rfl, rfl⟩ := hcs
    have hzl : zs.length = c := by simpa using hz
    refine ⟨zs.take n, by rw [List.length_take]; omega, hl, hm, fun hp => ?_⟩
    have hn : 0 < n := by rw [icells_len, List.length_take] at hp; omega
    have h0 := hcell 0 (by omega)
    obtain ⟨b, o, spot⟩ := x
    have hspot : spot = none := by simpa [Addr.add] using World.cell?_spot h0
    subst hspot
    refine ⟨b, o, rfl, fun j u hj => ?_⟩
    have hj' : j < n := by
      have := (List.getElem?_eq_some_iff.1 hj).1
      rw [icells_len, List.length_take] at this; omega
    have hc := hcell j (by omega)
    rw [Addr.add_lit] at hc
    rw [hc]
    simp [icells, List.getElem?_take, hj', show j < zs.length by omega] at hj
    rw [← hj]
    simp [List.getD, show j < zs.length by omega]

theorem cellsUpd : Try.prog.cellsOf 141 = 2 := by kernel_rfl
theorem open_updR {v : Value} {base : Nat} {d : DataW H} {p : List MemPlace} (hv : Value.okWide Try.prog W .any base 141 v) (h : DataW.Trod enc Try.prog W 0 (fun _ => true) held 141 v d p) :
    ∃ a b : Int, v = .agg #[.int .i64 a, .int .i64 b] ∧ True := by
  obtain ⟨c0, c1, y0, y1, m, rfl, rfl, rfl, hy0, hy1⟩ := open_agg2 Try.underlying141 (by kernel_rfl) cellsUpd hv h
  obtain ⟨a, e0, _, _⟩ := DataW.trod_int Try.underlying3 hy0
  obtain ⟨b, e1, _, _⟩ := DataW.trod_int Try.underlying3 hy1
  simp at e0 e1
  subst e0 e1
  exact ⟨a, b, rfl, trivial⟩

theorem open_updsR {a : Option Addr} {n c : Nat} {d : DataW H} {p : List MemPlace} (h : DataW.Trod enc Try.prog W 0 (fun _ => true) held 102 (.slice a n c) d p) : ∃ l, UpdsArg W a n c l := by
  obtain ⟨fuel, hf⟩ := h
  rcases open_slice Try.underlying102 hf with ⟨hcs, _⟩ | ⟨x, l, c', m, k, D, Pl, hcs, _, hl, hm, hmm, _, hi⟩
  · simp [Value.cells] at hcs
    obtain ⟨rfl, rfl, rfl⟩ := hcs
    exact ⟨[], rfl, Nat.le_refl _, by simp [maxLen], CellsR.nil _ _⟩
  · simp [Value.cells] at hcs
    obtain ⟨rfl, rfl, rfl⟩ := hcs
    simp only [if_true] at hmm
    subst hmm
    rw [cellsUpd] at hi
    have key : ∀ i, i < m → ∃ u : Upd, W.cell? (x.add (i * 2)) = some (.int .i64 u.1) ∧ W.cell? (x.add (i * 2 + 1)) = some (.int .i64 u.2) := fun i him => by
      obtain ⟨cs', hc, ht'⟩ := hi i him
      obtain ⟨ys, n', hn', hy, hlen, hyl, hf⟩ := DataW.trod_struct Try.underlying141 ht'
      obtain ⟨_, hcl, hat⟩ := World.cells?_some hc
      match cs', hcl with
      | [v0, v1], _ =>
        have g0 : DataW.trod enc Try.prog W 0 (fun _ => true) held n' 3 ((([v0, v1] : List Value).drop 0).take (Try.prog.cellsOf 3)) = ys[0]? := hf 0 _ rfl
        have g1 : DataW.trod enc Try.prog W 0 (fun _ => true) held n' 3 ((([v0, v1] : List Value).drop 1).take (Try.prog.cellsOf 3)) = ys[1]? := hf 1 _ rfl
        have h0 := hat 0 (by simp)
        have h1 := hat 1 (by simp)
        rw [List.getElem?_eq_getElem (by rw [hyl]; decide)] at g0
        rw [List.getElem?_eq_getElem (by rw [hyl]; decide)] at g1
        have e0 : (([v0, v1] : List Value).drop 0).take (Try.prog.cellsOf 3) = [v0] := by rw [show Try.prog.cellsOf 3 = 1 from by kernel_rfl]; rfl
        have e1 : (([v0, v1] : List Value).drop 1).take (Try.prog.cellsOf 3) = [v1] := by rw [show Try.prog.cellsOf 3 = 1 from by kernel_rfl]; rfl
        rw [e0] at g0
        rw [e1] at g1
        obtain ⟨a, ha, _, _⟩ := DataW.trod_int Try.underlying3 g0
        obtain ⟨b, hb, _, _⟩ := DataW.trod_int Try.underlying3 g1
        simp at ha hb
        subst ha hb
        refine ⟨(a, b), ?_, ?_⟩
        · simpa [add_add] using h0
        · simpa [add_add] using h1
    obtain ⟨f, hfu⟩ := choose_lt (α := Upd) key
    refine ⟨(List.range n).map f, by simp, hl, hm, fun hp => ?_⟩
    have hn : 0 < n := by rw [ucells_len] at hp; simp at hp; omega
    have h0 := (hfu 0 (by omega)).1
    obtain ⟨b, o, spot⟩ := x
    have hspot : spot = none := by simpa [Addr.add] using World.cell?_spot h0
    subst hspot
    refine ⟨b, o, rfl, fun j u hj => ?_⟩
    have hj' : j < n * 2 := by
      have := (List.getElem?_eq_some_iff.1 hj).1
      rw [ucells_len] at this; simpa using this
    obtain ⟨q, hq⟩ : ∃ q, j = q * 2 ∨ j = q * 2 + 1 := ⟨j / 2, by omega⟩
    have hqn : q < ((List.range n).map f).length := by simp; omega
    rcases hq with rfl | rfl
    · rw [ucells_fst _ q hqn] at hj
      have := (hfu q (by omega)).1
      rw [Addr.add_lit] at this
      rw [this, ← hj]; simp
    · rw [ucells_snd _ q hqn] at hj
      have := (hfu q (by omega)).2
      rw [Addr.add_lit] at this
      rw [this, ← hj]; simp
end
end Go.Proofs.YtciekjplhbimdaaZ
