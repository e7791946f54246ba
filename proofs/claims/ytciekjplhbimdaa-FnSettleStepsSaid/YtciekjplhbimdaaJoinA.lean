/-
  The turned program and the given one: what the driver asks of them, as closed facts; and the good run of a law from its contract over the turned program.
-/
import Derived.Test.YtciekjplhbimdaaBPh2
import Derived.Test.YtciekjplhbimdaaAltF
import Derived.ProofKit
set_option linter.all false
set_option maxRecDepth 100000
namespace Go.Proofs.Ph
open Go Go.Conc Go.RowKit Go.Proofs.Tr

/-- The functions that a lone run of the turned program goes through. -/
def inS (f : FuncId) : Bool := [3, 4, 5, 6, 7, 8, 9, 10, 11, 12, 13, 14, 15, 16, 17, 18, 19, 20, 21, 22, 23, 24, 25, 26, 27, 28, 29, 30, 31, 32, 33, 34, 35, 36, 37, 38, 39, 40, 41, 42, 43, 44, 45, 46, 47, 48, 49, 50, 51, 52, 53, 54, 55, 56, 57, 58, 59, 60, 61, 62, 63, 69, 70, 71, 72, 73, 74, 75, 76, 77, 78, 79, 80, 81, 82, 101, 102, 103, 104, 105, 106, 107, 113, 114].contains f
noncomputable def bodyOk (f : FuncId) : Bool := match Alt.funcs[f]? with
  | some fn => (match fn.body with | some c => codeOk (okS Try.progTables Alt.funcs Try.funcs inS) c | none => false)
  | none => false
theorem bodies_all : [3, 4, 5, 6, 7, 8, 9, 10, 11, 12, 13, 14, 15, 16, 17, 18, 19, 20, 21, 22, 23, 24, 25, 26, 27, 28, 29, 30, 31, 32, 33, 34, 35, 36, 37, 38, 39, 40, 41, 42, 43, 44, 45, 46, 47, 48, 49, 50, 51, 52, 53, 54, 55, 56, 57, 58, 59, 60, 61, 62, 63, 69, 70, 71, 72, 73, 74, 75, 76, 77, 78, 79, 80, 81, 82, 101, 102, 103, 104, 105, 106, 107, 113, 114].all bodyOk = true := by kernel_rfl
theorem bodies : Bodies Try.progTables Alt.funcs Try.funcs inS := by
  intro f hf
  have h := List.all_eq_true.1 bodies_all f (List.contains_iff_mem.1 hf)
  unfold bodyOk at h
  cases e1 : Alt.funcs[f]? with
  | none => rw [e1] at h; cases h
  | some fn =>
    rw [e1] at h
    simp only at h
    cases e2 : fn.body with
    | none => rw [e2] at h; cases h
    | some c => rw [e2] at h; exact ⟨fn, c, rfl, e2, h⟩
noncomputable def noSteps (F : Array Func) : Bool := F.toList.all fun f => match f.body with | some c => (readies c).isEmpty | none => true
theorem late_of {T : Tables} {F : Array Func} (h1 : T.follows .staticDataAhead = true) (h2 : noSteps F = true) : Late ⟨T, F⟩ := by
  refine ⟨h1, fun g => ?_⟩
  show F.findIdx? _ = none
  rw [Array.findIdx?_eq_none_iff]
  intro f hf
  have h := List.all_eq_true.1 h2 f (Array.mem_toList_iff.2 hf)
  cases e : f.body with
  | none => simp
  | some c =>
    rw [e] at h
    have h3 : readies c = [] := List.isEmpty_iff.1 h
    simp [h3]
theorem lateAlt : Late ⟨Try.progTables, Alt.funcs⟩ := late_of (by kernel_rfl) (by kernel_rfl)
theorem lateTry : Late ⟨Try.progTables, Try.funcs⟩ := late_of (by kernel_rfl) (by kernel_rfl)
theorem phase37 : PhaseOk Try.progTables Alt.funcs Try.funcs inS 37 := phaseOk (by decide) lateAlt bodies
theorem results_same (fn' : Func) (h : Alt.funcs[37]? = some fn') : ∃ fn, Try.funcs[37]? = some fn ∧ fn'.results = fn.results := by
  have e := (show Alt.funcs[37]? = some Alt.f37 from Alt.func37).symm.trans h
  cases e
  exact ⟨Try.f37, Try.func37, by rw [Alt.results37, Try.results37]⟩
/-- What a law's contract says, but for the tape. -/
def Old (W : World) (r : Value) (v : World) : Prop := r = .bool true ∧ v.os = W.os ∧ v.output = W.output ∧ W.heap.size ≤ v.heap.size ∧ ∀ i, i < W.heap.size → v.heap[i]? = W.heap[i]?
/-- THE GOOD RUN of a law. -/
theorem good_alt {fl k : Nat} {fn : Func} {args : Array Value} {W : World} {Post : Value → World → Prop} (hS : inS fl = true) (hne : fl ≠ 37) (hfl : Try.prog.funcs[fl]? = some fn) (hres : fn.results = #[.tmp k]) (hin : Try.prog.inits.idxOf? fl = none)
    (hc : ∀ σ d, Calls Alt.prog fl args (tp W σ d) fun e w' => e = .returned (.bool true) ∧ Below W.heap.size (tp W σ d) w') (hp : ∀ w', Below W.heap.size W w' → Post (.bool true) w') :
    ∃ M last o w' t', runNT Try.prog (M + 1) (Conc.solo (Conc.G (Frame.enter Try.prog fl args .normal) []) W) #[] = (.ended o w', t') ∧ runN Try.prog M (Conc.solo (Conc.G (Frame.enter Try.prog fl args .normal) []) W) = .next last ∧
      step Try.prog last = .ended o w' ∧ Conc.Good Try.prog Post last o w' t' := by
  refine good_of_alt (T := Try.progTables) (F := Try.funcs) (F' := Alt.funcs) (S := inS) (f0 := 37) (Post := Old W) (Post' := Post) lateAlt lateTry bodies (fun f _ hf => (Alt.same hf).symm) results_same phase37 hS hne hfl hres hin (fun r v σ d h => h) (fun σ d => ?_) fun r v w d Sh h hs hb ht => ?_
  · refine (hc σ d).mono fun e w' h => ?_
    obtain ⟨rfl, hb⟩ := h
    exact ⟨_, rfl, rfl, hb.os, hb.output, hb.size, fun i hi => hb.block i hi⟩
  · obtain ⟨rfl, h1, h2, h3, h4⟩ := h
    refine hp w ⟨?_, ht, ?_, ?_, fun i hi => ?_⟩
    · exact hs.os.symm.trans h1
    · exact hs.output.symm.trans h2
    · have e : v.heap.size = w.heap.size := hs.size
      omega
    · have e1 := h4 i hi
      cases ho : v.heap[i]? with
      | none =>
        rw [ho] at e1
        rw [← e1]
        exact hs.gone ho
      | some o =>
        rw [ho] at e1
        obtain ⟨o', h5, h6⟩ := hs.there (show (v.at d).heap[i]? = some o from ho)
        rw [← e1, h5]
        cases h6 with
        | same => rfl
        | odd h7 =>
          obtain ⟨-, j, hj, hj2⟩ := h7
          have := hb j hj2
          omega
        | row h7 =>
          have := hb i h7
          omega
end Go.Proofs.Ph
