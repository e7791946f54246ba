/-
  From a contract of one goroutine to the good run that a row with the word 'leaving' asks for.
-/
import Derived.Conc.LeavingOf
import Derived.ProofKit
set_option linter.all false
set_option maxRecDepth 100000
namespace Go.Proofs.Ytciekjplhbimdaa

theorem good_of_calls {P : Program} {f : FuncId} {args : Array Value} {w : World} {Post : Value → World → Prop} (noInit : P.inits.idxOf? f = none) (h : Calls P f args w fun e w' => ∃ v, e = .returned v ∧ Post v w') :
    ∃ M last o w' t', runNT P (M + 1) (Conc.solo (Conc.G (Frame.enter P f args .normal) []) w) #[] = (.ended o w', t') ∧ runN P M (Conc.solo (Conc.G (Frame.enter P f args .normal) []) w) = .next last ∧
      step P last = .ended o w' ∧ Conc.Good P Post last o w' t' := by
  have h' : Calls P f args w fun | .returned v, w' => Post v w' | _, _ => False := h.mono fun e w' ⟨v, he, hp⟩ => by subst he; exact hp
  obtain ⟨n, v, w', fr, hn, hend, hp⟩ := h'.done_lone noInit
  have hst := step_of_runs hn hend
  refine ⟨n, _, .done v, w', (runNT P (n + 1) (lone (Frame.enter P f args .normal) [] w) #[]).2, ?_, hn, hst, v, rfl, hp, fun said => ?_, (alone_of_lone (w' := w') hn).2.1, ⟨fun g hg => ?_, rfl⟩, (alone_of_lone (w' := w') hn).2.2⟩
  · show runNT P (n + 1) (lone (Frame.enter P f args .normal) [] w) #[] = _
    rw [← hend, ← runNT_fst P (n + 1) _ #[]]
  · exact (no_race_of_lone (said := said) P n _ _ hn (by simp [lone]) rfl).2
  · simp [lone] at hg
end Go.Proofs.Ytciekjplhbimdaa
