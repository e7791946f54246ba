/-
  A program that is this one but for passNext, whose body has no goroutine: it makes the same blocks in the same order; those that only the goroutines look into are empty.
-/
import Derived.Test.YtciekjplhbimdaaChecked
import Derived.KernelRfl
import Derived.Conc.Beside
set_option linter.all false
set_option maxRecDepth 100000
namespace Go.Proofs
open Go Go.Conc

def Alt.op (dst : Nat) (op : Op) (type : TypeId) : Oper := { dst := some dst, op := op, type := type, pos := "", after := #[], guard := none }
def Alt.ops : Array Oper := #[
  Alt.op 5 (.field 36 (.tmp 1) 1) 34,
  Alt.op 6 (.field 36 (.tmp 0) 1) 34,
  Alt.op 9 (.box 36 (.const (.agg #[]))) 0,
  Alt.op 9 (.box 36 (.const (.agg #[]))) 0,
  Alt.op 9 (.makeChan 85 (.const (.int .i64 0))) 85,
  Alt.op 9 (.box 85 (.const (.agg #[]))) 0,
  Alt.op 7 (.call { callee := .builtin .len, args := #[.tmp 5], argTypes := #[34] }) 3,
  Alt.op 10 (.makeSlice 34 (.tmp 7) (.tmp 7)) 34,
  Alt.op 9 (.call { callee := .builtin .copy, args := #[.tmp 10, .tmp 5], argTypes := #[34, 34] }) 3,
  Alt.op 9 (.box 34 (.const (.agg #[]))) 0,
  Alt.op 11 (.indexAddr 34 (.tmp 6) (.tmp 7)) 0,
  Alt.op 12 (.load 39 (.tmp 11)) 39,
  Alt.op 15 (.field 39 (.tmp 12) 0) 3,
  Alt.op 9 (.binOp .and 3 (.tmp 15) (.tmp 15) 3) 3,
  Alt.op 16 (.field 39 (.tmp 12) 1) 3,
  Alt.op 9 (.binOp .and 3 (.tmp 16) (.tmp 16) 3) 3,
  Alt.op 9 (.box 39 (.const (.agg #[]))) 0,
  Alt.op 9 (.box 96 (.const (.agg #[]))) 0,
  Alt.op 9 (.box 39 (.const (.agg #[]))) 0,
  Alt.op 13 (.buildSlice 34 1 #[(0, .tmp 12)]) 34,
  Alt.op 14 (.call { callee := .builtin .append, args := #[.tmp 10, .tmp 13], argTypes := #[34, 34] }) 34,
  Alt.op 4 (.assign (.tmp 14)) 34]
noncomputable def Alt.f37 : Func := { Try.f37 with body := some (.region 0 Alt.ops false) }
noncomputable def Alt.funcs : Array Func := Try.funcs.setIfInBounds 37 Alt.f37
noncomputable def Alt.prog : Program := ⟨Try.progTables, Alt.funcs⟩
theorem Alt.func37 : Alt.prog.funcs[37]? = some Alt.f37 := by
  show (Try.funcs.setIfInBounds 37 Alt.f37)[37]? = _
  have h : 37 < Try.funcs.size := (Array.getElem?_eq_some_iff.1 (show Try.funcs[37]? = some Try.f37 from Try.func37)).1
  rw [Array.getElem?_setIfInBounds, if_pos rfl, if_pos h]
theorem Alt.same {f : FuncId} (h : f ≠ 37) : Alt.prog.funcs[f]? = Try.prog.funcs[f]? := by
  show (Try.funcs.setIfInBounds 37 Alt.f37)[f]? = Try.funcs[f]?
  rw [Array.getElem?_setIfInBounds, if_neg (fun e => h e.symm)]
theorem Alt.size : Alt.funcs.size = Try.funcs.size := by simp [Alt.funcs]
theorem Alt.ntmps37 : Alt.f37.ntmps = 25 := by kernel_rfl
theorem Alt.results37 : Alt.f37.results = #[.tmp 4] := by kernel_rfl
theorem Alt.params37 : Alt.f37.params.size = 2 := by kernel_rfl
end Go.Proofs
