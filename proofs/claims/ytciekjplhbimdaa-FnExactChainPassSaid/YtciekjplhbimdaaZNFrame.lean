/-
  Arguments opened, more: nodes.
-/
import Derived.Test.YtciekjplhbimdaaZFrame2
set_option linter.all false
set_option maxRecDepth 100000
namespace Go.Proofs.YtciekjplhbimdaaZ
open Go.ChangeShapes Go.WideShapes Go.ChangeAt Go.RowKit Go.Deep Go.Joins

section
variable {H : Type} {enc : TypeId × Value → H} {W : World} {held : Bool}
theorem cellsNode : Try.prog.cellsOf 104 = 3 := by kernel_rfl
theorem open_nodeR {v : Value} {base : Nat} {d : DataW H} {p : List MemPlace} (hv : Value.okWide Try.prog W .any base 104 v) (h : DataW.Trod enc Try.prog W 0 (fun _ => true) held 104 v d p) :
    ∃ i a n c j l, v = .agg #[.int .i64 i, .slice a n c, .int .i64 j] ∧ UpdsArg W a n c l := by
  obtain ⟨c0, c1, c2, y0, y1, y2, m, rfl, rfl, rfl, hy0, hy1, hy2⟩ := open_agg3 Try.underlying104 (by kernel_rfl) cellsNode hv h
  obtain ⟨a, e0, _, _⟩ := DataW.trod_int Try.underlying3 hy0
  obtain ⟨b, e1, _, _⟩ := DataW.trod_int Try.underlying3 hy2
  simp at e0 e1
  subst e0 e1
  have hs : ∃ x n c, c1 = .slice x n c := by
    rcases open_slice Try.underlying102 hy1 with ⟨hcs, _⟩ | ⟨x, l, c', m', k, D, Pl, hcs, _⟩
    · exact ⟨none, 0, 0, by simpa using hcs⟩
    · exact ⟨some x, l, c', by simpa using hcs⟩
  obtain ⟨x, n, c, rfl⟩ := hs
  obtain ⟨l, hl⟩ := open_updsR (held := held) (enc := enc) (W := W) (a := x) (n := n) (c := c) (d := y1.1) (p := y1.2) ⟨m, hy1⟩
  exact ⟨a, x, n, c, b, l, rfl, hl⟩
end
end Go.Proofs.YtciekjplhbimdaaZ
