/-
  The listed variable: what its laid datum gives a walk, a world that meets it, and how it reads behind a walk.
-/
import Derived.Test.YtjheeeilcfbdbaaDoorNFrame
import Derived.Test.YtjheeeilcfbdbaaDoorNTake
import Derived.Stop.LaidErr
import Derived.LaidHandle
import Derived.RowKitTokens
import Derived.ChangeVars
set_option linter.all false
set_option maxRecDepth 100000
namespace Go.Proofs.YtjheeeilcfbdbaaDoor
open Go.ChangeShapes Go.WideShapes Go.ChangeAt Go.RowKit
open Go.Extern.Stop Go.Stop Go.Extern

abbrev errVar : String := "loop.example/chainfiles/impl.errTake"
abbrev errLaid : List (String × DataW Unit) := [("loop.example/chainfiles/impl.errTake", Rows.laid_loop_example_chainfiles_impl_errTake)]
theorem gT : Tryd.prog.globalNamed errVar = some 0 := by kernel_rfl
theorem gTType : (Tryd.prog.globals[0]?).map (·.type) = some 72 := by kernel_rfl
theorem cellsES : Tryd.prog.cellsOf 148 = 1 := by kernel_rfl
theorem cellsStr : Tryd.prog.cellsOf 9 = 1 := by kernel_rfl
theorem starES : "*" ++ "errors.errorString" = "*errors.errorString" := by decide
theorem rowES (u : TypeId) (h : Tryd.prog.typeName? 3 u = some "*errors.errorString") : u = 122 :=
  typeName_ptr_named (nm := "errors.errorString") (by rw [starES]; kernel_rfl) (by kernel_rfl) (by decide) u (by rw [starES]; exact h)
abbrev errS : ByteArray := { data := #[116, 104, 101, 32, 110, 111, 100, 101, 32, 99, 97, 110, 32, 110, 111, 116, 32, 116, 97, 107, 101, 32, 116, 104, 101, 32, 117, 112, 100, 97, 116, 101] }
noncomputable def low : Nat := (World.holding Tryd.prog default ⟨#[], #[], []⟩).heap.size
noncomputable def laidWorld (os : Os) : World :=
  let w0 := World.holding Tryd.prog os ⟨#[.cells #[.string errS] 148], #[], []⟩
  { w0 with heap := w0.heap.modify 0 fun
      | .cells _ t frozen => .cells #[.iface 122 (.pointer (some ⟨low, 0, none⟩))] t frozen
      | o => o }
theorem laid_met (os : Os) (args : Array Value) : laidMetH Tryd.prog errLaid ((laidWorld os).forCall (fun _ _ => 0) ⟨#[], args, []⟩).memory :=
  (show laidMet Tryd.prog errLaid _ from laidMet_of_run (ps := [.cell 0 0, .cell low 0]) 8 (by kernel_rfl) (by kernel_rfl) (by kernel_rfl))
theorem sent_of_laid {W : World} (h : laidMetH Tryd.prog errLaid W) : ∃ a, W.var? Tryd.prog errVar = some #[.iface 122 (.pointer (some a))] ∧ SentAt W a := by
  have h' : laidMet Tryd.prog errLaid W := h
  obtain ⟨a, s, hv, -, -, -⟩ := laid_sentinel h' gT gTType Tryd.underlying72 rowES Tryd.underlying122 Tryd.underlying148 rfl rfl Tryd.underlying9 cellsES cellsStr
  exact ⟨a, hv, by unfold SentAt; simpa using World.var?_cell gT hv 0⟩
theorem var_below {P : Program} {W W' : World} {n : String} {cs : Array Value} (hb : Below W.heap.size W W') (h : W.var? P n = some cs) : W'.var? P n = some cs := by
  unfold World.var? at h ⊢
  cases hg : P.globalNamed n with
  | none => simp [hg] at h
  | some g =>
    simp only [hg, Option.bind_some] at h ⊢
    have hlt : g < W.heap.size := by
      rcases Nat.lt_or_ge g W.heap.size with h' | h'
      · exact h'
      · simp [Array.getElem?_eq_none h'] at h
    rw [hb.block g hlt]
    exact h
theorem var_reads {H : Type} (enc : TypeId × Value → H) {W : World} {a : Addr} (h : W.var? Tryd.prog errVar = some #[.iface 122 (.pointer (some a))]) (sp : Nat → Bool) :
    DataW.TrodVars enc Tryd.prog W sp [errVar] [tok enc (.iface 122 (.pointer (some a)))] [.cell 0 0] :=
  vars_read1 enc gT gTType Tryd.underlying72 h trivial sp
end Go.Proofs.YtjheeeilcfbdbaaDoor
