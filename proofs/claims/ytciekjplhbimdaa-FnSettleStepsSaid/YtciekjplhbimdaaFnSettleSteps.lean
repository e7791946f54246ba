/-
  FnSettleSteps returns true for every input, and leaves its arguments as they were. No condition.
-/
import Derived.Conc.LeavingOf
import Derived.Test.YtciekjplhbimdaaJoinA
import Derived.Test.YtciekjplhbimdaaZFrame
import Derived.Test.YtciekjplhbimdaaZW45
set_option linter.all false
set_option maxRecDepth 100000
namespace Go.Proofs.Ytciekjplhbimdaa.fnSettleSteps
open Go Go.ChangeShapes Go.WideShapes Go.ChangeAt Go.RowKit Go.Proofs.YtciekjplhbimdaaZ

theorem own : ownKnob Try.prog.godebug = none := by kernel_rfl
theorem laidOut : laidOutB Try.prog = true := by kernel_rfl
set_option maxRecDepth 100000 in
theorem lifted (os : Os) (started : os.Started) (H : Type) (enc : TypeId × Value → H) :
    ReturnsInLeavingWide {} Try.checked os 9 .any (Rows.fnSettleStepsSpec.pre6 enc Try.prog Try.f9 Rows.fnSettleStepsRow.domain false) (Rows.fnSettleStepsSpec.post enc Try.prog Try.f9 false true false false) := by
  refine returnsInLeavingWide_of_change_sized (C := Try.checked) own started Try.func9
    (ChangeSpec.witness6 (enc := enc) (C := Try.checked) false ⟨#[], #[.slice none 0 0], []⟩ 8 (by kernel_rfl) (by kernel_rfl) (by kernel_rfl) (by kernel_rfl)) ?_
  intro W base args ds gs before hval0 hW hcnd _ _
  have hval : ∀ (j : Nat) t v, Try.f9.params[j]? = some t → args[j]? = some v → Value.okWide Try.prog W .any base t v := hval0
  have hW' := hW
  obtain ⟨p, q, hA0, hV, rfl, hfz, hnd⟩ := hW
  have hA : DataW.TrodAll enc Try.prog W 0 (fun _ => true) true Try.f9.params.toList args.toList ds p := hA0
  rw [Try.params9] at hA hval
  obtain ⟨v0, vs0, d0, ds0, p0, q0, hargs, rfl, rfl, h0, r0⟩ := trodAll_cons hA
  obtain ⟨rfl, rfl, rfl⟩ := trodAll_nil r0
  obtain rfl : args = #[v0] := by cases args; simp_all
  obtain ⟨rfl, rfl⟩ := trodVars_none hV
  have k0 := h0
  have lt0 : ∀ x ∈ p0, x.block < W.heap.size := by obtain ⟨m, hm⟩ := k0; exact DataW.trod_lt m _ _ _ hm
  obtain ⟨a0, n0, c0, rfl⟩ := okWide_slice Try.underlying22 (hval 0 22 v0 rfl rfl)
  have w0 : CodeR W a0 n0 c0 := open_code h0
  clear hA0 hval0
  refine Ph.good_alt (by decide) (by decide) Try.func9 Try.results9 (by kernel_rfl) (fun σ d => Go.Proofs.YtciekjplhbimdaaZ.fnSettleSteps.walk a0 n0 c0 (Tr.tp W σ d) w0) fun W' bel => ?_
  exact ⟨_, _, _, [], _, [], hW', trodAll_mk1 (shut_bool Try.underlying4 _), (trodAll_cons_mk (Below.trod laidOut (by kernel_rfl) (of_decide_eq_true (by kernel_rfl)) k0 bel lt0) trodAll_mk0), rfl, bel.frame _, fun h => by cases h⟩

theorem over : Rows.fnSettleStepsRow.holds Try.pinned (OpenSpec.ofChange Rows.fnSettleStepsSpec) :=
  OpenClaim.holds_of_wide_leaving 9 Try.f9 rfl rfl rfl rfl rfl rfl rfl ⟨rfl, rfl, rfl, rfl, rfl⟩ rfl rfl rfl rfl rfl (by kernel_rfl) Try.func9 (by kernel_rfl)
    (of_decide_eq_true (by kernel_rfl)) (by unfold Func.isWrapper; first | (rw [if_pos (by decide +kernel)]; kernel_rfl) | (rw [if_neg (by decide +kernel)]; exact ⟨rfl, rfl⟩))
    (fun os started H enc _ => lifted os started H enc)

theorem proved : Rows.FnSettleStepsSaid := over
#print axioms proved
end Go.Proofs.Ytciekjplhbimdaa.fnSettleSteps
