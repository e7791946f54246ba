/-
  Words and contracts, joined: TrJ, TrK, TrL, TrM, TrN, TrO, TrP, TrQ, TrR.
-/
import Derived.Test.YtciekjplhbimdaaBTr1
import Derived.Conc.Events
import Derived.Conc.Listed
import Derived.Conc.Own
import Derived.Conc.Own4
import Derived.Conc.Starve
/-
  The step of a goroutine whose frames hold tame code alone, as one tree of questions: the same for both programs.
-/
set_option linter.all false
set_option maxRecDepth 100000
namespace Go.Proofs.Tr
open Go Go.Conc

/-! ### what an operation yields -/
def Outs (P : Program) {α : Type} (Q : α → Prop) (s : Sem α) : Prop := ∀ v es a v' e, s.runT P v es = (.ok a v', e) → Q a
section
variable {P : Program} {α β : Type} {Q : α → Prop}
theorem outs_pure {a : α} (h : Q a) : Outs P Q (pure a : Sem α) := by
  intro v es b v' e hr
  have : (Result.ok a v, es) = (Result.ok b v', e) := hr
  cases this
  exact h
theorem outs_halt (h : Halt) : Outs P Q (.halt h : Sem α) := by intro v es b v' e hr; cases hr
theorem Outs.bind {R : β → Prop} {s : Sem β} {f : β → Sem α} (h : ∀ b, Outs P Q (f b)) : Outs P Q (s >>= f) := by
  intro v es a v' e hr
  have hr' : (s.bind f).runT P v es = (.ok a v', e) := hr
  rw [Sem.runT_bind'] at hr'
  generalize s.runT P v es = x at hr'
  obtain ⟨r, e1⟩ := x
  cases r with
  | ok b w1 => exact h b _ _ _ _ _ hr'
  | halt g w1 => cases hr'
theorem outs_panic {k} : Outs P Q (runtimePanic k : Sem α) := by
  unfold runtimePanic
  refine Outs.bind (R := fun _ => True) fun p => ?_
  cases k
  case typeAssertion => exact Outs.bind (R := fun _ => True) fun _ => Outs.bind (R := fun _ => True) fun _ => outs_halt _
  case panicNil => exact Outs.bind (R := fun _ => True) fun _ => Outs.bind (R := fun _ => True) fun _ => outs_halt _
  all_goals exact outs_halt _
end

/-- The function that an operation calls by name. -/
def calleeOf : Op → Option FuncId
  | .call c => match c.callee with
    | .value (.func f) => some f
    | _ => none
  | _ => none
/-- .. and with how many arguments. -/
def nargsOf : Op → Nat
  | .call c => c.args.size
  | _ => 0
/-- A value, nothing, or the function to enter that the operation names. -/
def Plain (F' F : Array Func) (o : Op) : Next → Prop
  | .value _ | .skip => True
  | .enter f xs => callOk F' F f = true ∧ calleeOf o = some f ∧ xs.size = nargsOf o
  | _ => False
section
variable {T : Tables} {F F' : Array Func}
theorem outs_v {o : Op} {s : Sem Value} : Outs ⟨T, F'⟩ (Plain F' F o) (do pure (Next.value (← s)) : Sem Next) := Outs.bind (R := fun _ => True) fun _ => outs_pure trivial
theorem outs_u {o : Op} {s : Sem Unit} : Outs ⟨T, F'⟩ (Plain F' F o) (do s; pure Next.skip : Sem Next) := Outs.bind (R := fun _ => True) fun _ => outs_pure trivial
theorem outs_callFunc (f : FuncId) (xs : Array Value) (h : callOk F' F f = true) : Outs ⟨T, F'⟩ (fun n => n = .enter f xs) (callFunc f xs) := by
  unfold callOk at h
  cases h1 : F'[f]? with
  | none => rw [h1] at h; simp at h
  | some a =>
    cases h2 : F[f]? with
    | none => rw [h1, h2] at h; simp at h
    | some b =>
      rw [h1, h2] at h
      simp only [Bool.and_eq_true, Bool.not_eq_true'] at h
      obtain ⟨⟨⟨ha, hb⟩, hc⟩, hd⟩ := h
      have ha' : a.body.isNone = false := by cases ha' : a.body <;> simp_all
      have e : ∀ v es, (callFunc f xs).runT ⟨T, F'⟩ v es = (.ok (.enter f xs) v, es) := by
        intro v es
        show (match F'[f]? with | none => _ | some fn => _ : Sem Next).runT ⟨T, F'⟩ v es = _
        rw [h1]
        show (if (a.name == "runtime.NumGoroutine") = true then _ else if a.body.isNone = true then _ else (pure (Next.enter f xs) : Sem Next)).runT ⟨T, F'⟩ v es = _
        rw [hc, ha']
        rfl
      intro v es n v' e' hr
      rw [e] at hr
      cases hr
      rfl
theorem outs_execOp (ρ : Operand → Value) (hρ : ∀ f, ρ (.func f) = .func (.func f) #[] #[]) (o : Oper) (h : opOk T F' F o.op = true) : Outs ⟨T, F'⟩ (Plain F' F o.op) (execOp ρ o) := by
  unfold execOp
  extract_lets v u
  cases e : o.op <;> rw [e] at h <;> try (simp [opOk] at h; done)
  case move x => exact outs_pure trivial
  case assign x => exact outs_pure trivial
  case pick c a b => exact Outs.bind (R := fun _ => True) fun _ => outs_pure trivial
  case store t a x => exact outs_u
  case nilCheck x =>
    dsimp only
    split
    · exact outs_panic
    · exact outs_panic
    · exact outs_panic
    · split
      · exact outs_panic
      · refine Outs.bind (R := fun _ => True) fun _ => ?_
        refine Outs.bind (R := fun _ => True) fun _ => ?_
        split
        · exact Outs.bind (R := fun _ => True) fun _ => outs_pure trivial
        · exact outs_pure trivial
      · exact outs_pure trivial
    · exact outs_pure trivial
  case call c =>
    simp only [opOk] at h
    show Outs _ _ (resolve ρ c o.type >>= fun d => invoke d.target d.args)
    unfold resolve
    cases ec : c.callee with
    | builtin b =>
      rw [ec] at h
      cases b <;> try (simp at h; done)
      case append => exact outs_v
      case copy => exact outs_v
      case len => exact outs_v
    | invoke r n => rw [ec] at h; simp at h
    | value f =>
      rw [ec] at h
      cases f <;> try (simp at h; done)
      case func f =>
        show Outs _ _ (Deferred.ofValue (ρ (.func f)) (c.args.map ρ) >>= fun d => invoke d.target d.args)
        rw [hρ]
        show Outs _ _ (callFunc f ((#[] ++ c.args.map ρ) ++ #[]))
        intro v es n v' e' hr
        rw [outs_callFunc (T := T) _ _ h v es n v' e' hr]
        exact ⟨h, by simp [calleeOf, ec], by simp [nargsOf]⟩
  all_goals exact outs_v
end

/-! ### tame code -/
def codeOk (ok : Op → Bool) : Code → Bool
  | .skip | .ret | .exit _ => true
  | .region _ ops _ => ops.all fun o => ok o.op
  | .seq a b | .cond _ a b => codeOk ok a && codeOk ok b
  | .block _ c | .loop c => codeOk ok c
  | _ => false
def itemOk (ok : Op → Bool) : Item → Bool
  | .code c => codeOk ok c
  | .inBlock _ => true
  | .inLoop c => codeOk ok c
  | .inRegion ops _ => ops.all fun o => ok o.op
  | _ => false
structure FrOk (ok : Op → Bool) (fr : Frame) : Prop where
  kind : fr.kind = .normal
  round : fr.roundOf = none
  defers : fr.defers = []
  todo : ∀ x ∈ fr.todo, itemOk ok x = true

theorem exitTo_sub {id : Nat} : ∀ {k k' : List Item}, exitTo id k = some k' → ∀ x ∈ k', x ∈ k
  | [], _, h => by simp [exitTo] at h
  | y :: k, k', h => by
    intro x hx
    have go : exitTo id k = some k' → x ∈ y :: k := fun h => List.mem_cons_of_mem _ (exitTo_sub h x hx)
    cases y <;> simp only [exitTo] at h <;> try exact go h
    split at h
    · cases h; exact List.mem_cons_of_mem _ hx
    · exact go h
theorem FrOk.finish {ok : Op → Bool} {fr : Frame} (h : FrOk ok fr) (v : Value) : FrOk ok (fr.finish v) := by
  have h' := h.todo
  unfold Frame.finish
  split
  · rename_i ops i rest k he
    rw [he] at h'
    refine ⟨h.kind, h.round, h.defers, ?_⟩
    intro x hx
    simp only [List.mem_cons] at hx
    rcases hx with rfl | hx
    · exact h' (.inRegion ops (i :: rest)) (by simp)
    · exact h' x (by simp [hx])
  · rename_i l k he
    rw [he] at h'
    have := h' (.inRangeFunc l) (by simp)
    cases this
  · rename_i k he
    rw [he] at h'
    have := h' .beginRound (by simp)
    cases this
  · rename_i a b c d k he
    rw [he] at h'
    have := h' (.call a b c d) (by simp)
    cases this
  · rename_i a b k he
    rw [he] at h'
    have := h' _ (List.mem_cons_self ..)
    cases this
  · exact h
theorem FrOk.to {ok : Op → Bool} {fr : Frame} (h : FrOk ok fr) {k : List Item} (hk : ∀ x ∈ k, itemOk ok x = true) : FrOk ok { fr with todo := k } := ⟨h.kind, h.round, h.defers, hk⟩
theorem FrOk.mode {ok : Op → Bool} {fr : Frame} (h : FrOk ok fr) (m : FrameMode) : FrOk ok { fr with mode := m } := ⟨h.kind, h.round, h.defers, h.todo⟩

/-- What a step comes to. -/
inductive Out where
  | to (fr : Frame)
  | enter (f : FuncId) (args : Array Value)
  | ret (v : Value)
def outOf (fr : Frame) : Next → Sem Out
  | .value v => pure (.to (fr.finish v))
  | .skip => pure (.to (fr.finish undef))
  | .enter f args => pure (.enter f args)
  | _ => stuck ""
/-- The step, as a tree. -/
def stepS (P : Program) (fr : Frame) : Sem Out :=
  match fr.mode with
  | .run => match fr.todo with
    | [] | .code .ret :: _ => pure (.to { fr with mode := .returning })
    | .code .skip :: k | .inBlock _ :: k | .inRegion _ [] :: k => pure (.to { fr with todo := k })
    | .code (.seq a b) :: k => pure (.to { fr with todo := .code a :: .code b :: k })
    | .code (.cond c a b) :: k => match fr.eval c with
      | .bool t => pure (.to { fr with todo := .code (if t then a else b) :: k })
      | _ => stuck ""
    | .code (.block id c) :: k => pure (.to { fr with todo := .code c :: .inBlock id :: k })
    | .code (.loop c) :: k | .inLoop c :: k => pure (.to { fr with todo := .code c :: .inLoop c :: k })
    | .code (.exit id) :: k => match exitTo id k with
      | some k' => pure (.to { fr with todo := k' })
      | none => stuck ""
    | .code (.region id ops draw) :: k => if !draw then pure (.to { fr with todo := .inRegion ops (List.range ops.size) :: k })
      else choose (.order fr.fn id) >>= fun t => pure (.to { fr with todo := .inRegion ops (Region.schedule (P.follows .mixedOrders) ops t) :: k })
    | .inRegion ops (i :: _) :: _ => if ((ops[i]?).map (Region.wanted · (yielded ops fr.tmps))).getD false then
        match ops[i]? with
        | some o => execOp fr.eval o >>= outOf fr
        | none => stuck ""
      else pure (.to (fr.finish undef))
    | _ => stuck ""
  | .returning => match P.funcs[fr.fn]? with
    | some fn => results fn fr.tmps >>= fun v => pure (.ret v)
    | none => stuck ""
  | .panicking _ => stuck ""

section
variable {T : Tables} {F F' : Array Func}
theorem tm_results (fn : Func) (xs : Array Value) : TM T F' F (results fn xs) := by
  unfold results
  refine tm_bind ?_ fun _ => tm_pure _
  refine tm_mapArray (fun x => ?_) _
  split
  · exact tm_pure _
  · exact tm_bind (tm_asAddr _) fun _ => tm_loadVar _ _
/-- The same tree for both programs, where both have the same results for the frame's function. -/
theorem tm_stepS (ok : Op → Bool) (hok : ∀ o, ok o = true → opOk T F' F o = true) {fr : Frame} (h : FrOk ok fr) {fn fn' : Func} (h1 : F'[fr.fn]? = some fn') (h2 : F[fr.fn]? = some fn) (h3 : fn'.results = fn.results) :
    Tame ⟨T, F'⟩ ⟨T, F⟩ Eq (stepS ⟨T, F'⟩ fr) (stepS ⟨T, F⟩ fr) := by
  unfold stepS
  split
  · have ht := h.todo
    split <;> try exact tm_pure _
    · split
      · exact tm_pure _
      · exact tm_stuck _
    · split
      · exact tm_pure _
      · exact tm_stuck _
    · split
      · exact tm_pure _
      · exact tm_bind (tm_choose _) fun _ => tm_pure _
    · rename_i ops i rest k he
      split
      · split
        · rename_i o ho
          rw [he] at ht
          have h4 := ht (.inRegion ops (i :: rest)) (by simp)
          simp only [itemOk, Array.all_eq_true_iff_forall_mem] at h4
          refine tm_bind (tm_execOp _ (fun f => rfl) o (hok _ (h4 o (Array.mem_of_getElem? ho)))) fun n => ?_
          unfold outOf
          split <;> first | exact tm_pure _ | exact tm_stuck _
        · exact tm_stuck _
      · exact tm_pure _
    · exact tm_stuck _
  · show Tame _ _ Eq (match F'[fr.fn]? with | some fn => _ | none => _) (match F[fr.fn]? with | some fn => _ | none => _)
    rw [h1, h2]
    have e : results fn' fr.tmps = results fn fr.tmps := by unfold results; rw [h3]
    show Tame _ _ Eq (results fn' fr.tmps >>= fun v => pure (Out.ret v)) (results fn fr.tmps >>= fun v => pure (Out.ret v))
    rw [e]
    exact tm_bind (tm_results _ _) fun _ => tm_pure _
  · exact tm_stuck _
end
end Go.Proofs.Tr

/-
  The step of a goroutine whose frames hold tame code alone, from its tree.
-/
set_option linter.all false
namespace Go.Proofs.Tr
open Go Go.Conc

/-- Which operations a text may hold: those that carry over, and of calls those of S. -/
def okS (T : Tables) (F' F : Array Func) (S : FuncId → Bool) (o : Op) : Bool := opOk T F' F o && (calleeOf o).all fun f => S f && (match F[f]? with | some fn => nargsOf o == fn.params.size | none => false)
def OutOk (T : Tables) (F' F : Array Func) (S : FuncId → Bool) (fr : Frame) : Out → Prop
  | .to fr' => FrOk (okS T F' F S) fr' ∧ fr'.fn = fr.fn ∧ ((∃ c, fr'.mode = .panicking c) → False)
  | .enter f xs => callOk F' F f = true ∧ S f = true ∧ fr.mode = .run ∧ ∃ fn, F[f]? = some fn ∧ xs.size = fn.params.size
  | .ret _ => fr.mode = .returning
section
variable {T : Tables} {F F' : Array Func} {S : FuncId → Bool}
theorem frame_finish_mode (fr : Frame) (v : Value) : (fr.finish v).mode = fr.mode ∧ (fr.finish v).fn = fr.fn := by
  unfold Frame.finish
  split <;> exact ⟨rfl, rfl⟩
theorem outs_stepS {fr : Frame} (h : FrOk (okS T F' F S) fr) : Outs ⟨T, F'⟩ (OutOk T F' F S fr) (stepS ⟨T, F'⟩ fr) := by
  have h' := h
  unfold stepS
  split
  · rename_i hm
    have hnm : ∀ k, OutOk T F' F S fr (.to { fr with todo := k }) ↔ (∀ x ∈ k, itemOk (okS T F' F S) x = true) := fun k =>
      ⟨fun x => x.1.todo, fun x => ⟨h.to x, rfl, fun ⟨c, hc⟩ => by rw [show ({ fr with todo := k } : Frame).mode = fr.mode from rfl, hm] at hc; cases hc⟩⟩
    have hnf : ∀ v, OutOk T F' F S fr (.to (fr.finish v)) := fun v => ⟨h.finish v, (frame_finish_mode fr v).2, fun ⟨c, hc⟩ => by rw [(frame_finish_mode fr v).1, hm] at hc; cases hc⟩
    have ht := h.todo
    split
    · exact outs_pure ⟨h.mode _, rfl, fun ⟨c, hc⟩ => by cases hc⟩
    · exact outs_pure ⟨h.mode _, rfl, fun ⟨c, hc⟩ => by cases hc⟩
    · rename_i k he
      refine outs_pure ((hnm k).2 fun x hx => ht x (by rw [he]; exact List.mem_cons_of_mem _ hx))
    · rename_i i k he
      refine outs_pure ((hnm k).2 fun x hx => ht x (by rw [he]; exact List.mem_cons_of_mem _ hx))
    · rename_i i k he
      refine outs_pure ((hnm k).2 fun x hx => ht x (by rw [he]; exact List.mem_cons_of_mem _ hx))
    · rename_i a b k he
      have h1 := ht (.code (.seq a b)) (by rw [he]; simp)
      simp only [itemOk, codeOk, Bool.and_eq_true] at h1
      refine outs_pure ((hnm _).2 fun x hx => ?_)
      simp only [List.mem_cons] at hx
      rcases hx with rfl | rfl | hx
      · exact h1.1
      · exact h1.2
      · exact ht x (by rw [he]; exact List.mem_cons_of_mem _ hx)
    · rename_i c a b k he
      have h1 := ht (.code (.cond c a b)) (by rw [he]; simp)
      simp only [itemOk, codeOk, Bool.and_eq_true] at h1
      split
      · rename_i t _
        refine outs_pure ((hnm _).2 fun x hx => ?_)
        simp only [List.mem_cons] at hx
        rcases hx with rfl | hx
        · cases t
          · exact h1.2
          · exact h1.1
        · exact ht x (by rw [he]; exact List.mem_cons_of_mem _ hx)
      · exact outs_halt _
    · rename_i id c k he
      have h1 := ht (.code (.block id c)) (by rw [he]; simp)
      refine outs_pure ((hnm _).2 fun x hx => ?_)
      simp only [List.mem_cons] at hx
      rcases hx with rfl | rfl | hx
      · exact h1
      · rfl
      · exact ht x (by rw [he]; exact List.mem_cons_of_mem _ hx)
    · rename_i c k he
      have h1 := ht (.code (.loop c)) (by rw [he]; simp)
      refine outs_pure ((hnm _).2 fun x hx => ?_)
      simp only [List.mem_cons] at hx
      rcases hx with rfl | rfl | hx
      · exact h1
      · exact h1
      · exact ht x (by rw [he]; exact List.mem_cons_of_mem _ hx)
    · rename_i c k he
      have h1 := ht (.inLoop c) (by rw [he]; simp)
      refine outs_pure ((hnm _).2 fun x hx => ?_)
      simp only [List.mem_cons] at hx
      rcases hx with rfl | rfl | hx
      · exact h1
      · exact h1
      · exact ht x (by rw [he]; exact List.mem_cons_of_mem _ hx)
    · rename_i id k he
      split
      · rename_i k' hk
        refine outs_pure ((hnm _).2 fun x hx => ht x (by rw [he]; exact List.mem_cons_of_mem _ (exitTo_sub hk x hx)))
      · exact outs_halt _
    · rename_i id ops draw k he
      have h1 := ht (.code (.region id ops draw)) (by rw [he]; simp)
      have h2 : ∀ l, ∀ x ∈ (Item.inRegion ops l :: k), itemOk (okS T F' F S) x = true := by
        intro l x hx
        simp only [List.mem_cons] at hx
        rcases hx with rfl | hx
        · exact h1
        · exact ht x (by rw [he]; exact List.mem_cons_of_mem _ hx)
      split
      · exact outs_pure ((hnm _).2 (h2 _))
      · exact Outs.bind (R := fun _ => True) fun _ => outs_pure ((hnm _).2 (h2 _))
    · rename_i ops i rest k he
      split
      · split
        · rename_i o ho
          have h4 := ht (.inRegion ops (i :: rest)) (by rw [he]; simp)
          simp only [itemOk, Array.all_eq_true_iff_forall_mem] at h4
          have h5 := h4 o (Array.mem_of_getElem? ho)
          simp only [okS, Bool.and_eq_true] at h5
          intro v es a v' e hr
          have hr' : ((execOp fr.eval o).bind (outOf fr)).runT ⟨T, F'⟩ v es = (.ok a v', e) := hr
          rw [Sem.runT_bind'] at hr'
          generalize hx : (execOp fr.eval o).runT ⟨T, F'⟩ v es = x at hr'
          obtain ⟨r, e1⟩ := x
          cases r with
          | halt g w1 => cases hr'
          | ok n w1 =>
            have hp := outs_execOp (T := T) (F := F) (F' := F') fr.eval (fun _ => rfl) o h5.1 _ _ _ _ _ hx
            cases n <;> first | exact hp.elim | skip
            case value x => 
              have : (Result.ok (Out.to (fr.finish x)) w1, e1) = (Result.ok a v', e) := hr'
              cases this
              exact hnf _
            case skip =>
              have : (Result.ok (Out.to (fr.finish undef)) w1, e1) = (Result.ok a v', e) := hr'
              cases this
              exact hnf _
            case enter f xs =>
              have : (Result.ok (Out.enter f xs) w1, e1) = (Result.ok a v', e) := hr'
              cases this
              have h6 := h5.2
              rw [hp.2.1] at h6
              simp only [Option.all_some, Bool.and_eq_true] at h6
              refine ⟨hp.1, h6.1, hm, ?_⟩
              have h7 := h6.2
              cases h8 : F[f]? with
              | none => rw [h8] at h7; cases h7
              | some fn =>
                rw [h8] at h7
                exact ⟨fn, rfl, by rw [hp.2.2]; simpa using h7⟩
        · exact outs_halt _
      · exact outs_pure (hnf _)
    · exact outs_halt _
  · rename_i hm
    split
    · exact Outs.bind (R := fun _ => True) fun _ => outs_pure hm
    · exact outs_halt _
  · exact outs_halt _
end

/-! ### the machine's step -/
section
variable {P : Program} {main : Bool} {ok : Op → Bool} {fr : Frame} {cs : List Frame} {w w' : World} {es : Array Event}
theorem stepG_run (hm : fr.mode = .run) : stepG P main (G fr cs) w = stepG.exec P main true fr cs none w := by
  unfold stepG G
  simp only [hm]
theorem stepG_ret0 (hm : fr.mode = .returning) : stepG P main (G fr cs) w = unwind P main fr cs none w := by
  unfold stepG G
  simp only [hm]
theorem pure_runT {α : Type} {a : α} {r : Result α} (h : (pure a : Sem α).runT P w #[] = (r, es)) : r = .ok a w ∧ es = #[] := by
  have : (Result.ok a w, #[]) = (r, es) := h
  cases this
  exact ⟨rfl, rfl⟩
/-- What a step comes to, of the tree's result. -/
def comesTo (P : Program) (main : Bool) (fr : Frame) (cs : List Frame) : Result Out × Array Event → GStep → Prop
  | (.ok (.to fr') w', es), s => s = .go (G fr' cs) w' (seen P fr.fn es)
  | (.ok (.enter f xs) w', es), s => s = .go (G (Frame.enter P f xs .normal) (fr :: cs)) w' (seen P fr.fn es)
  | (.ok (.ret v) w', es), s => s = GStep.after (seen P fr.fn es) (doReturn P main fr cs none v w')
  | (.halt (.panic x) w', es), s => (fr.mode = .run → s = .go (G (fr.raise [{ v := x, recovered := false }]) cs) w' (seen P fr.fn es)) ∧ (fr.mode = .returning → ∃ o w, s = .ended o w (seen P fr.fn es))
  | (.halt h w', es), s => Gone h → ∃ o w es', s = .ended o w es'
theorem seen_nil : seen P fr.fn #[] = #[] := seen_none P fr.fn
theorem comes_pure {fr' : Frame} {s : GStep} (h : s = .go (G fr' cs) w) : comesTo P main fr cs ((pure (Out.to fr') : Sem Out).runT P w #[]) s := by
  show s = .go (G fr' cs) w (seen P fr.fn #[])
  rw [seen_nil]
  exact h
theorem comes_stuck {m : String} {o : Outcome} {w1 : World} {s : GStep} (h : s = .ended o w1) : comesTo P main fr cs ((stuck m : Sem Out).runT P w #[]) s := by
  intro _
  exact ⟨o, w1, _, h⟩
/-- No variable waits for its initialisation's turn. -/
def Late (P : Program) : Prop := P.follows .staticDataAhead = true ∧ ∀ g, P.stepOf g = none
theorem Late.early (L : Late P) (fr : Frame) (cs : List Frame) (g : Nat) (w : World) : ∃ o w' es, early P fr cs none g w = .ended o w' es := by
  unfold Go.early
  simp only [L.1, L.2 g, Bool.not_true, Bool.false_eq_true, if_false]
  exact ⟨_, _, _, rfl⟩
/-- A value, nothing, or a function to enter. -/
def Usual : Next → Prop
  | .value _ | .skip | .enter _ _ => True
  | _ => False
theorem comes_exec (L : Late P) (h : FrOk ok fr) (hm : fr.mode = .run) (hpl : ∀ ops i rest k o, fr.todo = .inRegion ops (i :: rest) :: k → ops[i]? = some o → Outs P Usual (execOp fr.eval o)) : comesTo P main fr cs ((stepS P fr).runT P w #[]) (stepG P main (G fr cs) w) := by
  rw [stepG_run hm]
  unfold stepS
  rw [hm]
  have ht := h.todo
  have hr := h.round
  have hd := h.defers
  have hk := h.kind
  obtain ⟨fn, tmps, todo, defers, mode, kind, roundOf⟩ := fr
  simp only at hm ht hr hd hk hpl
  subst hm hr hd hk
  simp only
  unfold stepG.exec
  simp only
  cases todo with
  | nil => exact comes_pure rfl
  | cons x k =>
    have hx := ht x (by simp)
    cases x with
    | code c =>
      cases c with
      | skip => exact comes_pure rfl
      | ret => exact comes_pure rfl
      | seq a b => exact comes_pure rfl
      | block id c => exact comes_pure rfl
      | loop c => exact comes_pure rfl
      | cond c a b =>
        simp only
        generalize (Frame.eval _ _) = E
        cases E <;> first | exact comes_pure rfl | exact comes_stuck rfl
      | exit id =>
        simp only
        cases exitTo id k with
        | none => exact comes_stuck (by simp; exact ⟨rfl, rfl⟩)
        | some k' => exact comes_pure rfl
      | region id ops draw =>
        simp only
        cases draw with
        | false => exact comes_pure rfl
        | true =>
          simp only [Bool.not_true, Bool.false_eq_true, if_false]
          have e1 : ∀ f : Nat → Sem Out, (choose (.order fn id) >>= f).runT P w #[] = (f (Question.cut (.order fn id) (w.tape w.drawn (.order fn id)))).runT P { w with drawn := w.drawn + 1 } #[] := fun f => rfl
          have e2 : (choose (.order fn id)).run P w = .ok (Question.cut (.order fn id) (w.tape w.drawn (.order fn id))) { w with drawn := w.drawn + 1 } := rfl
          rw [e1, e2]
          exact comes_pure rfl
      | _ => cases hx
    | inBlock id => exact comes_pure rfl
    | inLoop c => exact comes_pure rfl
    | inRegion ops l =>
      cases l with
      | nil => exact comes_pure rfl
      | cons i rest =>
        simp only
        split
        · unfold stepG.oper
          simp only [Frame.oper?]
          cases ho : ops[i]? with
          | none => exact comes_stuck rfl
          | some o =>
            simp only
            have hplo := hpl ops i rest k o rfl ho
            generalize execOp (Frame.eval _) o = s at hplo ⊢
            have hdef : ∀ fr : Frame, fr.kind = .normal → fr.fn = fn → fr.todo = Item.inRegion ops (i :: rest) :: k → fr.mode = .run →
                comesTo P main fr cs ((s.bind (outOf fr)).runT P w #[]) (stepG.apply P true fr cs none s w) := by
              intro fr hkind hfn htodo hmode
              rw [Sem.runT_bind']
              unfold stepG.apply
              simp only [htodo, if_true]
              generalize hx : s.runT P w #[] = x
              obtain ⟨r, es⟩ := x
              have hne : (fr.kind == CallKind.early) = false := by rw [hkind]; rfl
              cases r with
              | ok n w1 =>
                have hu := hplo _ _ _ _ _ hx
                simp only [hne, Bool.false_eq_true, if_false]
                cases n <;> first | exact hu.elim | skip
                all_goals show _ = _
                all_goals simp [GStep.after, G]
              | halt g w1 =>
                simp only [hne, Bool.false_eq_true, if_false]
                cases g with
                | panic x => exact ⟨fun _ => (by simp [GStep.after, G]), fun hm => (by rw [hmode] at hm; cases hm)⟩
                | stuck m => exact fun _ => ⟨_, _, _, rfl⟩
                | unsupported u =>
                  intro hg
                  cases u <;> first | exact ⟨_, _, _, rfl⟩ | skip
                  rename_i g
                  obtain ⟨o, w2, e2, h2⟩ := L.early fr cs g w1
                  simp only [h2]
                  exact ⟨_, _, _, rfl⟩
                | _ => exact fun hg => hg.elim
            exact hdef _ rfl rfl rfl rfl
        · exact comes_pure rfl
    | _ => cases hx
theorem ret_step (h : FrOk ok fr) (hm : fr.mode = .returning) {fn : Func} (hf : P.funcs[fr.fn]? = some fn) :
    (∃ r w' es, stepG P main (G fr cs) w = GStep.after (seen P fr.fn es) (doReturn P main fr cs none r w')) ∨ ∃ o w' es, stepG P main (G fr cs) w = .ended o w' es := by
  rw [stepG_ret0 hm]
  unfold unwind
  simp only [h.defers, hm, hf]
  generalize (results fn fr.tmps).runT P w #[] = x
  obtain ⟨r, es⟩ := x
  cases r with
  | ok v w1 => exact .inl ⟨_, _, _, rfl⟩
  | halt g w1 => cases g <;> exact .inr ⟨_, _, _, rfl⟩
theorem comes_ret (h : FrOk ok fr) (hm : fr.mode = .returning) {fn : Func} (hf : P.funcs[fr.fn]? = some fn) : comesTo P main fr cs ((stepS P fr).runT P w #[]) (stepG P main (G fr cs) w) := by
  rw [stepG_ret0 hm]
  unfold stepS
  rw [hm]
  simp only [hf]
  show comesTo P main fr cs (((results fn fr.tmps).bind fun v => pure (.ret v)).runT P w #[]) _
  rw [Sem.runT_bind']
  unfold unwind
  simp only [h.defers, hm, hf]
  generalize (results fn fr.tmps).runT P w #[] = x
  obtain ⟨r, es⟩ := x
  cases r with
  | ok v w1 => exact rfl
  | halt g w1 =>
    cases g with
    | panic x => exact ⟨fun hx => (by rw [hm] at hx; cases hx), fun _ => ⟨_, _, by simp [GStep.after]; exact ⟨rfl, rfl⟩⟩⟩
    | stuck m => exact fun _ => ⟨_, _, _, rfl⟩
    | unsupported u => exact fun _ => ⟨_, _, _, rfl⟩
    | _ => exact fun hg => hg.elim
end

section
variable {T : Tables} {F F' : Array Func}
theorem callOk_right {f : FuncId} (h : callOk F' F f = true) : callOk F F f = true := by
  unfold callOk at h ⊢
  cases h1 : F'[f]? with
  | none => rw [h1] at h; simp at h
  | some a =>
    cases h2 : F[f]? with
    | none => rw [h1, h2] at h; simp at h
    | some b => rw [h1, h2] at h; simp_all
theorem opOk_right {o : Op} (h : opOk T F' F o = true) : opOk T F F o = true := by
  unfold opOk at h ⊢
  split <;> simp_all
  rename_i c
  split <;> simp_all
  exact callOk_right h
end
end Go.Proofs.Tr

/-
  From 'on every tape the lone run comes to its stop' to the tree in which ahead of each step the count of draws is anything (bar induction).
-/
set_option linter.all false
namespace Go.Proofs.Tr
open Go Go.Conc

/-- The frame at the bottom: no panic passes it, nothing goes on in it. -/
def cz (n : Nat) : Frame := { fn := n, tmps := #[], todo := [.call { target := .nil, args := #[] } false "fmt's door" #[]], defers := [], mode := .run, kind := .normal }

section
variable {T : Tables} {F F' : Array Func} {S : FuncId → Bool}
/-- Every function of S has a tame body, in F'. -/
def Bodies (T : Tables) (F' F : Array Func) (S : FuncId → Bool) : Prop := ∀ f, S f = true → ∃ fn c, F'[f]? = some fn ∧ fn.body = some c ∧ codeOk (okS T F' F S) c = true
structure CallerOk (T : Tables) (F' F : Array Func) (S : FuncId → Bool) (fr : Frame) : Prop where
  ok : FrOk (okS T F' F S) fr
  fn : S fr.fn = true
  run : fr.mode = .run
/-- A goroutine of tame frames, on top of the bottom. -/
structure Dom (T : Tables) (F' F : Array Func) (S : FuncId → Bool) (fr : Frame) (l : List Frame) : Prop where
  ok : FrOk (okS T F' F S) fr
  fn : S fr.fn = true
  callers : ∀ c ∈ l, CallerOk T F' F S c
abbrev NoPend (v : World) : Prop := Sim (fun _ => False) v v
theorem NoPend.of {v w : World} (h : Sim (fun _ => False) v w) : NoPend v := by
  refine ⟨rfl, fun k hk => hk.elim, fun k o o' h1 h2 => ?_, rfl, rfl, rfl, rfl⟩
  rw [h1] at h2
  cases h2
  exact .same id
theorem NoPend.all (v : World) : NoPend v := ⟨rfl, fun k hk => hk.elim, fun k o o' h1 h2 => by rw [h1] at h2; cases h2; exact .same id, rfl, rfl, rfl, rfl⟩
theorem NoPend.tp {v : World} (h : NoPend v) (σ : Nat → Question → Nat) (d : Nat) : NoPend (tp v σ d) := ⟨rfl, fun k hk => hk.elim, h.blk, rfl, rfl, rfl, rfl⟩

theorem _root_.Go.Proofs.Tr.FrOk.raise {ok : Op → Bool} {fr : Frame} (h : FrOk ok fr) (c : List PanicEntry) : FrOk ok (fr.raise c) := by
  unfold Frame.raise
  split <;> exact h.mode _
theorem raise_mode (fr : Frame) (c : List PanicEntry) : (∃ c', (fr.raise c).mode = .panicking c') ∧ (fr.raise c).fn = fr.fn := by
  unfold Frame.raise
  split <;> exact ⟨⟨_, rfl⟩, rfl⟩
theorem enter_ok (B : Bodies T F' F S) {f : FuncId} (h : S f = true) (xs : Array Value) : FrOk (okS T F' F S) (Frame.enter ⟨T, F'⟩ f xs .normal) := by
  obtain ⟨fn, c, h1, h2, h3⟩ := B f h
  refine ⟨rfl, rfl, rfl, fun x hx => ?_⟩
  have e : Frame.enter ⟨T, F'⟩ f xs .normal = { fn := f, tmps := xs ++ Array.replicate ((((F'[f]?).map (·.ntmps)).getD 0) - xs.size) undef, todo := [.code (((F'[f]?).bind (·.body)).getD (.refuse "unsupported: a function without a Go body is entered"))], defers := [], mode := .run, kind := .normal } := rfl
  rw [e, h1] at hx
  simp only [Option.bind_some, h2, Option.getD_some, List.mem_singleton] at hx
  subst hx
  exact h3
theorem plain_usual {o : Op} {n : Next} (h : Plain F' F o n) : Usual n := by cases n <;> first | trivial | exact h.elim
theorem frOk_usual {fr : Frame} (h : FrOk (okS T F' F S) fr) : ∀ ops i rest k o, fr.todo = .inRegion ops (i :: rest) :: k → ops[i]? = some o → Outs ⟨T, F'⟩ Usual (execOp fr.eval o) := by
  intro ops i rest k o he ho v es a v' e hr
  have h4 := h.todo (.inRegion ops (i :: rest)) (by rw [he]; simp)
  simp only [itemOk, Array.all_eq_true_iff_forall_mem] at h4
  have h5 := h4 o (Array.mem_of_getElem? ho)
  simp only [okS, Bool.and_eq_true] at h5
  exact plain_usual (outs_execOp (T := T) (F := F) (F' := F') fr.eval (fun _ => rfl) o h5.1 _ _ _ _ _ hr)
theorem frOk_usual_right {fr : Frame} (h : FrOk (okS T F' F S) fr) : ∀ ops i rest k o, fr.todo = .inRegion ops (i :: rest) :: k → ops[i]? = some o → Outs ⟨T, F⟩ Usual (execOp fr.eval o) := by
  intro ops i rest k o he ho v es a v' e hr
  have h4 := h.todo (.inRegion ops (i :: rest)) (by rw [he]; simp)
  simp only [itemOk, Array.all_eq_true_iff_forall_mem] at h4
  have h5 := h4 o (Array.mem_of_getElem? ho)
  simp only [okS, Bool.and_eq_true] at h5
  exact plain_usual (outs_execOp (T := T) (F := F) (F' := F) fr.eval (fun _ => rfl) o (opOk_right h5.1) _ _ _ _ _ hr)
theorem body_some (B : Bodies T F' F S) {f : FuncId} (h : S f = true) : ∃ fn, F'[f]? = some fn := let ⟨fn, _, h1, _⟩ := B f h; ⟨fn, h1⟩

/-- At what it comes to nothing more goes on. -/
def Dead (n : Nat) (g : Goroutine) : Prop := ∃ fr, g = G fr [] ∧ fr.defers = [] ∧ fr.roundOf = none ∧ fr.fn = n ∧ ((fr.mode = .run ∧ ∃ v, fr.todo = ((cz n).finish v).todo) ∨ ((∃ c, fr.mode = .panicking c) ∧ ∃ d a b, fr.todo = [.call d a "fmt's door" b]))
def Agree (σ : Nat → Question → Nat) (d : Nat) (v : World) (c : Nat) : Prop := ∀ k, k < c → ∀ q, σ (d + k) q = v.tape (v.drawn + k) q

theorem dead_ended {g : Goroutine} {n : Nat} (hn : n = F'.size) (h : Dead n g) (v : World) : ∃ o w es, stepG ⟨T, F'⟩ true g v = .ended o w es := by
  obtain ⟨fr, rfl, hd, hr, hfn, h⟩ := h
  rcases h with ⟨hm, xs, ht⟩ | ⟨⟨c, hm⟩, d, a, b, ht⟩
  · rw [stepG_run hm]
    unfold stepG.exec
    have e : Extern.next "fmt's door" = none := by decide +kernel
    simp only [ht, cz, Frame.finish, e, Option.elim]
    exact ⟨_, _, _, rfl⟩
  · have e : (F'[fr.fn]?) = none := by rw [hfn, hn]; simp
    have hc : fr.catches ⟨T, F'⟩ = true := by
      unfold Frame.catches
      have e' : Program.funcs ⟨T, F'⟩ = F' := rfl
      rw [e', e, ht]
      show String.startsWith "fmt's door" "fmt's door" = true
      decide +kernel
    unfold stepG G
    simp only [hm]
    unfold unwind
    simp only [hd, hm, hc, if_true]
    exact ⟨_, _, _, rfl⟩

theorem agree_mono {σ : Nat → Question → Nat} {d c c' : Nat} {v : World} (h : Agree σ d v c) (hc : c' ≤ c) : Agree σ d v c' := fun k hk => h k (by omega)
/-- What the run of a tame tree comes to: a result, a panic, or nothing. -/
theorem run_kinds {P' P : Program} {α : Type} {s s' : Sem α} {T : Tables} {F F' : Array Func} (h : Tame ⟨T, F'⟩ ⟨T, F⟩ Eq s s') {v : World} (np : NoPend v) (es : Array Event) :
    (∃ a v1 e, s.runT ⟨T, F'⟩ v es = (.ok a v1, e) ∧ NoPend v1) ∨ (∃ x v1 e, s.runT ⟨T, F'⟩ v es = (.halt (.panic x) v1, e) ∧ NoPend v1) ∨ ∃ g v1 e, s.runT ⟨T, F'⟩ v es = (.halt g v1, e) ∧ Gone g := by
  have hc := h.run v v es es np
  generalize s.runT ⟨T, F'⟩ v es = x at hc ⊢
  generalize s'.runT ⟨T, F⟩ v es = y at hc
  cases hc with
  | ok _ h2 _ _ => exact .inl ⟨_, _, _, rfl, .of h2⟩
  | panic h2 _ _ => exact .inr (.inl ⟨_, _, _, rfl, .of h2⟩)
  | gone h => exact .inr (.inr ⟨_, _, _, rfl, h⟩)
theorem caller_dom {fr c : Frame} {l : List Frame} (h : ∀ x ∈ c :: l, CallerOk T F' F S x) {c' : Frame} (h1 : FrOk (okS T F' F S) c') (h2 : c'.fn = c.fn) : Dom T F' F S c' l :=
  ⟨h1, by rw [h2]; exact (h c (by simp)).fn, fun x hx => h x (by simp [hx])⟩

/-- THE STEP OF A TAME GOROUTINE: it goes on to one that is tame, or dead; or the run ends; the same on every tape that gives the same answers. -/
theorem stepA (L : Late ⟨T, F'⟩) (B : Bodies T F' F S) (hsame : ∀ f fn', F'[f]? = some fn' → S f = true → ∃ fn, F[f]? = some fn ∧ fn'.results = fn.results) {fr : Frame} {l : List Frame} (D : Dom T F' F S fr l) {v : World} (np : NoPend v) :
    ∃ c, (∃ g' v' es, ((∃ fr' l', g' = G fr' (l' ++ [cz F'.size]) ∧ Dom T F' F S fr' l') ∨ Dead F'.size g') ∧ NoPend v' ∧ v'.drawn = v.drawn + c ∧ v'.tape = v.tape ∧
        ∀ σ d, Agree σ d v c → stepG ⟨T, F'⟩ true (G fr (l ++ [cz F'.size])) (tp v σ d) = .go g' (tp v' σ (d + c)) es) ∨
      (∀ σ d, Agree σ d v c → ∃ o w es, stepG ⟨T, F'⟩ true (G fr (l ++ [cz F'.size])) (tp v σ d) = .ended o w es) := by
  obtain ⟨fn', hfn'⟩ := body_some B D.fn
  obtain ⟨fn, hfn, hres⟩ := hsame _ _ hfn' D.fn
  have tm := tm_stepS (T := T) (F := F) (F' := F') (okS T F' F S) (fun o ho => by simp only [okS, Bool.and_eq_true] at ho; exact ho.1) D.ok hfn' hfn hres
  obtain ⟨c, h1, h2, h3⟩ := tm.taped v #[]
  simp only at h1 h2 h3
  have hk := run_kinds (P' := ⟨T, F'⟩) (P := ⟨T, F⟩) tm np #[]
  have houts := outs_stepS (T := T) (F := F) (F' := F') (S := S) D.ok
  by_cases hp : ∃ ch, fr.mode = .panicking ch
  · obtain ⟨ch, hp⟩ := hp
    have hcat : fr.catches ⟨T, F'⟩ = false := by
      unfold Frame.catches
      have e' : Program.funcs ⟨T, F'⟩ = F' := rfl
      rw [e', hfn']
    refine ⟨0, .inl ?_⟩
    cases l with
    | nil =>
      refine ⟨G ((cz F'.size).raise ch) [], v, #[], .inr ⟨_, rfl, rfl, rfl, rfl, .inr ⟨⟨ch, rfl⟩, _, _, _, rfl⟩⟩, np, rfl, rfl, fun σ d _ => ?_⟩
      unfold stepG G
      simp only [hp, List.nil_append]
      unfold unwind
      simp only [D.ok.defers, hp, hcat, Bool.false_eq_true, if_false]
      rfl
    | cons x l =>
      have hx := D.callers x (by simp)
      refine ⟨G (x.raise ch) (l ++ [cz F'.size]), v, #[], .inl ⟨x.raise ch, l, rfl, caller_dom (fr := fr) D.callers (hx.ok.raise ch) (raise_mode x ch).2⟩, np, rfl, rfl, fun σ d _ => ?_⟩
      unfold stepG G
      simp only [hp, List.cons_append]
      unfold unwind
      simp only [D.ok.defers, hp, hcat, Bool.false_eq_true, if_false]
      rfl
  have hm : fr.mode = .run ∨ fr.mode = .returning := by
    cases h : fr.mode with
    | run => exact .inl rfl
    | returning => exact .inr rfl
    | panicking c => exact absurd ⟨c, h⟩ hp
  have hcomes : ∀ w, comesTo ⟨T, F'⟩ true fr (l ++ [cz F'.size]) ((stepS ⟨T, F'⟩ fr).runT ⟨T, F'⟩ w #[]) (stepG ⟨T, F'⟩ true (G fr (l ++ [cz F'.size])) w) := fun w =>
    hm.elim (fun hm => comes_exec L D.ok hm (frOk_usual D.ok)) (fun hm => comes_ret D.ok hm hfn')
  refine ⟨c, ?_⟩
  rcases hk with ⟨o, v1, e, hr, np1⟩ | ⟨x, v1, e, hr, np1⟩ | ⟨g, v1, e, hr, hg⟩
  · have h3' : ∀ σ d, Agree σ d v c → (stepS ⟨T, F'⟩ fr).runT ⟨T, F'⟩ (tp v σ d) #[] = (.ok o (tp v1 σ (d + c)), e) := fun σ d ha => by rw [h3 σ d ha, hr]; rfl
    rw [hr] at h1 h2
    have ho := houts _ _ _ _ _ hr
    cases o with
    | to fr' => 
      refine .inl ⟨G fr' (l ++ [cz F'.size]), v1, seen ⟨T, F'⟩ fr.fn e, .inl ⟨fr', l, rfl, ⟨ho.1, by rw [ho.2.1]; exact D.fn, D.callers⟩⟩, np1, h1, h2, fun σ d ha => ?_⟩
      have := hcomes (tp v σ d)
      rw [h3' σ d ha] at this
      exact this
    | enter f xs =>
      refine .inl ⟨G (Frame.enter ⟨T, F'⟩ f xs .normal) (fr :: l ++ [cz F'.size]), v1, seen ⟨T, F'⟩ fr.fn e, .inl ⟨_, fr :: l, rfl, ⟨enter_ok B ho.2.1 xs, ho.2.1, fun y hy => ?_⟩⟩, np1, h1, h2, fun σ d ha => ?_⟩
      · simp only [List.mem_cons] at hy
        rcases hy with rfl | hy
        · exact ⟨D.ok, D.fn, ho.2.2.1⟩
        · exact D.callers y hy
      · have := hcomes (tp v σ d)
        rw [h3' σ d ha] at this
        exact this
    | ret x =>
      have hret : fr.mode = .returning := ho
      cases l with
      | nil =>
        refine .inl ⟨G ((cz F'.size).finish x) [], v1, seen ⟨T, F'⟩ fr.fn e, .inr ⟨_, rfl, rfl, rfl, rfl, .inl ⟨rfl, _, rfl⟩⟩, np1, h1, h2, fun σ d ha => ?_⟩
        have := hcomes (tp v σ d)
        rw [h3' σ d ha] at this
        rw [show stepG ⟨T, F'⟩ true (G fr ([] ++ [cz F'.size])) (tp v σ d) = _ from this]
        simp [doReturn, D.ok.kind, GStep.after, G]
      | cons y l =>
        have hy := D.callers y (by simp)
        refine .inl ⟨G (y.finish x) (l ++ [cz F'.size]), v1, seen ⟨T, F'⟩ fr.fn e, .inl ⟨y.finish x, l, rfl, caller_dom (fr := fr) D.callers (hy.ok.finish x) (frame_finish_mode y x).2⟩, np1, h1, h2, fun σ d ha => ?_⟩
        have := hcomes (tp v σ d)
        rw [h3' σ d ha] at this
        rw [show stepG ⟨T, F'⟩ true (G fr (y :: l ++ [cz F'.size])) (tp v σ d) = _ from this]
        simp [doReturn, D.ok.kind, GStep.after, G]
  · have h3' : ∀ σ d, Agree σ d v c → (stepS ⟨T, F'⟩ fr).runT ⟨T, F'⟩ (tp v σ d) #[] = (.halt (.panic x) (tp v1 σ (d + c)), e) := fun σ d ha => by rw [h3 σ d ha, hr]; rfl
    rw [hr] at h1 h2
    rcases hm with hm | hm
    · refine .inl ⟨G (fr.raise [{ v := x, recovered := false }]) (l ++ [cz F'.size]), v1, seen ⟨T, F'⟩ fr.fn e, .inl ⟨_, l, rfl, ⟨D.ok.raise _, by rw [(raise_mode _ _).2]; exact D.fn, D.callers⟩⟩, np1, h1, h2, fun σ d ha => ?_⟩
      have := hcomes (tp v σ d)
      rw [h3' σ d ha] at this
      exact this.1 hm
    · refine .inr fun σ d ha => ?_
      have := hcomes (tp v σ d)
      rw [h3' σ d ha] at this
      obtain ⟨o, w, h⟩ := this.2 hm
      exact ⟨_, _, _, h⟩
  · have h3' : ∀ σ d, Agree σ d v c → (stepS ⟨T, F'⟩ fr).runT ⟨T, F'⟩ (tp v σ d) #[] = (.halt g (tp v1 σ (d + c)), e) := fun σ d ha => by rw [h3 σ d ha, hr]; rfl
    refine .inr fun σ d ha => ?_
    have := hcomes (tp v σ d)
    rw [h3' σ d ha] at this
    cases g with
    | stuck m => exact this hg
    | unsupported u => exact this hg
    | _ => exact hg.elim

/-! ### the tree, and the bar -/
/-- IT COMES TO ITS STOP, whatever the count of draws ahead of each step. -/
inductive Trees (P' : Program) (z : Frame) (Q : Frame → World → Prop) : Goroutine → World → Prop
  | stop {fr : Frame} {v : World} : fr.mode = .returning → Q fr v → Trees P' z Q (G fr [z]) v
  | step {g : Goroutine} {v : World} : (∀ d, ∃ g' v' es, stepG P' true g (v.at d) = .go g' v' es) → (∀ d g' v' es, stepG P' true g (v.at d) = .go g' v' es → Trees P' z Q g' v') → Trees P' z Q g v
def iterA (P' : Program) : Nat → Goroutine → World → Option (Goroutine × World)
  | 0, g, v => some (g, v)
  | n + 1, g, v => match stepG P' true g v with
    | .go g' v' _ => iterA P' n g' v'
    | _ => none
theorem iterA_succ (P' : Program) : ∀ (n : Nat) (g : Goroutine) (v : World), iterA P' (n + 1) g v = (iterA P' n g v).bind fun x => match stepG P' true x.1 x.2 with | .go g' v' _ => some (g', v') | _ => none
  | 0, g, v => by
    unfold iterA
    simp only [iterA, Option.bind_some]
  | n + 1, g, v => by
    rw [iterA]
    conv => rhs; rw [iterA]
    cases stepG P' true g v <;> simp only [Option.bind_none]
    rw [iterA_succ P' n]
theorem iterA_some {P' : Program} {n k : Nat} {g : Goroutine} {v : World} {x : Goroutine × World} (h : iterA P' n g v = some x) (hk : k ≤ n) : ∃ y, iterA P' k g v = some y := by
  induction n generalizing x with
  | zero => obtain rfl : k = 0 := by omega
            exact ⟨_, rfl⟩
  | succ n ih =>
    rcases Nat.eq_or_lt_of_le hk with rfl | hlt
    · exact ⟨_, h⟩
    · rw [iterA_succ] at h
      obtain ⟨y, hy, -⟩ := Option.bind_eq_some_iff.1 h
      exact ih hy (by omega) |> fun ⟨z, hz⟩ => ⟨z, hz⟩
section bar
variable {Q : Frame → World → Prop} {n0 : Nat}
open Classical in
/-- A bad place's bad count of draws. -/
noncomputable def badD (P' : Program) (z : Frame) (Q : Frame → World → Prop) (x : Goroutine × World) : Nat :=
  if h : ∃ d, ∀ g' v' es, stepG P' true x.1 (x.2.at d) = .go g' v' es → ¬ Trees P' z Q g' v' then Classical.choose h else 0
theorem badD_spec {P' : Program} {z : Frame} {x : Goroutine × World} (h : ¬ Trees P' z Q x.1 x.2) : ∀ g' v' es, stepG P' true x.1 (x.2.at (badD P' z Q x)) = .go g' v' es → ¬ Trees P' z Q g' v' := by
  have h' : ∃ d, ∀ g' v' es, stepG P' true x.1 (x.2.at d) = .go g' v' es → ¬ Trees P' z Q g' v' := by
    apply Classical.byContradiction
    intro hn
    have all : ∀ d, ∃ g' v' es, stepG P' true x.1 (x.2.at d) = .go g' v' es ∧ Trees P' z Q g' v' := fun d => by
      apply Classical.byContradiction
      intro hn2
      exact hn ⟨d, fun g' v' es hs ht => hn2 ⟨g', v', es, hs, ht⟩⟩
    refine h (.step (fun d => let ⟨g', v', es, h1, _⟩ := all d; ⟨g', v', es, h1⟩) fun d g' v' es h1 => ?_)
    obtain ⟨g2, v2, es2, h2, h3⟩ := all d
    rw [h1] at h2
    cases h2
    exact h3
  unfold badD
  rw [dif_pos h']
  exact Classical.choose_spec h'
/-- What 'stepA' says of a place. -/
def Steps1 (P' : Program) (n : Nat) (D : Goroutine → Prop) (g : Goroutine) (v : World) (c : Nat) : Prop :=
  (∃ g' v' es, (D g' ∨ Dead n g') ∧ NoPend v' ∧ v'.drawn = v.drawn + c ∧ v'.tape = v.tape ∧ ∀ σ d, Agree σ d v c → stepG P' true g (tp v σ d) = .go g' (tp v' σ (d + c)) es) ∨
    (∀ σ d, Agree σ d v c → ∃ o w es, stepG P' true g (tp v σ d) = .ended o w es)
open Classical in
noncomputable def badC (P' : Program) (z : Frame) (Q : Frame → World → Prop) (n : Nat) (D : Goroutine → Prop) (x : Goroutine × World) : Nat :=
  if h : ∃ c, Steps1 P' n D x.1 (x.2.at (badD P' z Q x)) c then Classical.choose h else 0
noncomputable def badN (P' : Program) (z : Frame) (Q : Frame → World → Prop) (x : Goroutine × World) : Goroutine × World :=
  match stepG P' true x.1 (x.2.at (badD P' z Q x)) with
  | .go g' v' _ => (g', v')
  | _ => x
noncomputable def badS (P' : Program) (z : Frame) (Q : Frame → World → Prop) (x : Goroutine × World) : Nat → Goroutine × World
  | 0 => x
  | k + 1 => badN P' z Q (badS P' z Q x k)
noncomputable def badP (P' : Program) (z : Frame) (Q : Frame → World → Prop) (n : Nat) (D : Goroutine → Prop) (x : Goroutine × World) : Nat → Nat
  | 0 => 0
  | k + 1 => badP P' z Q n D x k + badC P' z Q n D (badS P' z Q x k)
theorem badP_mono {P' : Program} {z : Frame} {D : Goroutine → Prop} {x : Goroutine × World} {n : Nat} {j k : Nat} (h : j ≤ k) : badP P' z Q n D x j ≤ badP P' z Q n D x k := by
  induction k with
  | zero => obtain rfl : j = 0 := by omega
            exact Nat.le_refl _
  | succ k ih =>
    rcases Nat.eq_or_lt_of_le h with rfl | hlt
    · exact Nat.le_refl _
    · have := ih (by omega)
      simp only [badP]
      omega
open Classical in
/-- THE TAPE PUT TOGETHER: at the lone run's k-th step it gives what the bad path's k-th step took. -/
noncomputable def badT (P' : Program) (z : Frame) (Q : Frame → World → Prop) (n : Nat) (D : Goroutine → Prop) (x : Goroutine × World) (i : Nat) (q : Question) : Nat :=
  if h : ∃ k, badP P' z Q n D x k ≤ i ∧ i < badP P' z Q n D x (k + 1) then x.2.tape (badD P' z Q (badS P' z Q x (Classical.choose h)) + (i - badP P' z Q n D x (Classical.choose h))) q else 0
theorem badT_at {P' : Program} {z : Frame} {D : Goroutine → Prop} {x : Goroutine × World} {n k j : Nat} (hj : j < badC P' z Q n D (badS P' z Q x k)) (q : Question) :
    badT P' z Q n D x (badP P' z Q n D x k + j) q = x.2.tape (badD P' z Q (badS P' z Q x k) + j) q := by
  have h : ∃ k', badP P' z Q n D x k' ≤ badP P' z Q n D x k + j ∧ badP P' z Q n D x k + j < badP P' z Q n D x (k' + 1) := ⟨k, by omega, by simp only [badP]; omega⟩
  unfold badT
  rw [dif_pos h]
  have hs := Classical.choose_spec h
  generalize Classical.choose h = k' at hs ⊢
  obtain rfl : k' = k := by
    rcases Nat.lt_trichotomy k' k with hlt | rfl | hlt
    · have := badP_mono (Q := Q) (P' := P') (z := z) (D := D) (x := x) (n := n) (show k' + 1 ≤ k by omega)
      omega
    · rfl
    · have := badP_mono (Q := Q) (P' := P') (z := z) (D := D) (x := x) (n := n) (show k + 1 ≤ k' by omega)
      simp only [badP] at this
      omega
  congr 1
  omega
/-- THE BAR. -/
theorem bar {P' : Program} {z : Frame} {n : Nat} {D : Goroutine → Prop} (hD : ∀ g v, D g → NoPend v → ∃ c, Steps1 P' n D g v c) (hdead : ∀ g v, Dead n g → ∃ o w es, stepG P' true g v = .ended o w es)
    (hQ : ∀ fr v σ d, Q fr (tp v σ d) → Q fr v) {g0 : Goroutine} {v0 : World} (h0 : D g0) (np : NoPend v0)
    (H : ∀ σ d, ∃ m fr v', iterA P' m g0 (tp v0 σ d) = some (G fr [z], v') ∧ fr.mode = .returning ∧ Q fr v') : Trees P' z Q g0 v0 := by
  apply Classical.byContradiction
  intro hT
  let x0 : Goroutine × World := (g0, v0)
  let σ := badT P' z Q n D x0
  obtain ⟨m, fr, v', hm, hfr, hq⟩ := H σ 0
  have key : ∀ k, k ≤ m → (D (badS P' z Q x0 k).1 ∨ Dead n (badS P' z Q x0 k).1) ∧ NoPend (badS P' z Q x0 k).2 ∧ (badS P' z Q x0 k).2.tape = v0.tape ∧ ¬ Trees P' z Q (badS P' z Q x0 k).1 (badS P' z Q x0 k).2 ∧
      iterA P' k g0 (tp v0 σ 0) = some ((badS P' z Q x0 k).1, tp (badS P' z Q x0 k).2 σ (badP P' z Q n D x0 k)) := by
    intro k
    induction k with
    | zero => exact fun _ => ⟨.inl h0, np, rfl, hT, rfl⟩
    | succ k ih =>
      intro hk
      obtain ⟨i1, i2, i3, i4, i5⟩ := ih (by omega)
      have hsome := iterA_some hm hk
      rw [iterA_succ, i5] at hsome ⊢
      simp only [Option.bind_some] at hsome ⊢
      obtain ⟨y, hy⟩ := hsome
      rcases i1 with i1 | i1
      · have hc : ∃ c, Steps1 P' n D (badS P' z Q x0 k).1 ((badS P' z Q x0 k).2.at (badD P' z Q (badS P' z Q x0 k))) c := hD _ _ i1 (i2.tp _ _)
        have hC : Steps1 P' n D (badS P' z Q x0 k).1 ((badS P' z Q x0 k).2.at (badD P' z Q (badS P' z Q x0 k))) (badC P' z Q n D (badS P' z Q x0 k)) := by
          unfold badC
          rw [dif_pos hc]
          exact Classical.choose_spec hc
        have hag : Agree σ (badP P' z Q n D x0 k) ((badS P' z Q x0 k).2.at (badD P' z Q (badS P' z Q x0 k))) (badC P' z Q n D (badS P' z Q x0 k)) := fun j hj q => by
          show badT P' z Q n D x0 (badP P' z Q n D x0 k + j) q = (badS P' z Q x0 k).2.tape (badD P' z Q (badS P' z Q x0 k) + j) q
          rw [badT_at hj, i3]
        rcases hC with ⟨g', v1, es, c1, c2, c3, c4, c5⟩ | hC
        · have e1 := c5 σ _ hag
          have e2 := c5 v0.tape (badD P' z Q (badS P' z Q x0 k)) (fun j _ q => by rw [← i3]; rfl)
          have e2' : stepG P' true (badS P' z Q x0 k).1 ((badS P' z Q x0 k).2.at (badD P' z Q (badS P' z Q x0 k))) = .go g' v1 es := by
            have t1 : tp ((badS P' z Q x0 k).2.at (badD P' z Q (badS P' z Q x0 k))) v0.tape (badD P' z Q (badS P' z Q x0 k)) = (badS P' z Q x0 k).2.at (badD P' z Q (badS P' z Q x0 k)) := by
              rw [← i3]; rfl
            have t2 : tp v1 v0.tape (badD P' z Q (badS P' z Q x0 k) + badC P' z Q n D (badS P' z Q x0 k)) = v1 := by
              have t3 : v1.tape = v0.tape := c4.trans i3
              rw [← t3, show badD P' z Q (badS P' z Q x0 k) + badC P' z Q n D (badS P' z Q x0 k) = v1.drawn from c3.symm]
              rfl
            rw [t1, t2] at e2
            exact e2
          have eN : badS P' z Q x0 (k + 1) = (g', v1) := by
            show badN P' z Q (badS P' z Q x0 k) = _
            unfold badN
            rw [e2']
          rw [eN]
          have e1' : stepG P' true (badS P' z Q x0 k).1 (tp (badS P' z Q x0 k).2 σ (badP P' z Q n D x0 k)) = .go g' (tp v1 σ (badP P' z Q n D x0 k + badC P' z Q n D (badS P' z Q x0 k))) es := e1
          rw [e1']
          exact ⟨c1, c2, c4.trans i3, badD_spec i4 _ _ _ e2', rfl⟩
        · obtain ⟨o, w, es, e⟩ := hC σ _ hag
          have e' : stepG P' true (badS P' z Q x0 k).1 (tp (badS P' z Q x0 k).2 σ (badP P' z Q n D x0 k)) = .ended o w es := e
          rw [e'] at hy
          cases hy
      · obtain ⟨o, w, es, e⟩ := hdead _ (tp (badS P' z Q x0 k).2 σ (badP P' z Q n D x0 k)) i1
        rw [e] at hy
        cases hy
  obtain ⟨-, -, -, k4, k5⟩ := key m (Nat.le_refl _)
  rw [hm] at k5
  have k6 := Option.some.inj k5
  have k7 : G fr [z] = (badS P' z Q x0 m).1 := congrArg (·.1) k6
  have k8 : v' = tp (badS P' z Q x0 m).2 σ (badP P' z Q n D x0 m) := congrArg (·.2) k6
  rw [k8] at hq
  rw [← k7] at k4
  exact k4 (.stop hfr (hQ _ _ _ _ hq))
end bar
end
end Go.Proofs.Tr

/-
  The step of a tame goroutine, taken in both worlds; the step of goroutine 0 beside goroutines that only leave.
-/
set_option linter.all false
namespace Go.Proofs.Tr
open Go Go.Conc
open Go.ConcN (sumTo upd sumTo_upd upd_ne upd_same)

section
variable {T : Tables} {F F' : Array Func} {S : FuncId → Bool} {Q : Frame → World → Prop} {f0 : FuncId}

/-- Panicking frames come to nothing. -/
theorem not_panicking (hS : ∀ f, S f = true → ∃ fn, F'[f]? = some fn) : ∀ (l : List Frame) (fr : Frame) (v : World), Dom T F' F S fr l → (∃ c, fr.mode = .panicking c) → ¬ Trees ⟨T, F'⟩ (cz F'.size) Q (G fr (l ++ [cz F'.size])) v := by
  intro l
  induction l with
  | nil =>
    intro fr v D ⟨c, hc⟩ ht
    obtain ⟨fn, hfn⟩ := hS _ D.fn
    have hcat : fr.catches ⟨T, F'⟩ = false := by
      unfold Frame.catches
      have e' : Program.funcs ⟨T, F'⟩ = F' := rfl
      rw [e', hfn]
    generalize hg : G fr ([] ++ [cz F'.size]) = g at ht
    cases ht with
    | stop hm hq =>
      rename_i fr2
      have e : fr = fr2 := congrArg (fun g : Goroutine => g.frame) hg
      subst e
      rw [hc] at hm
      cases hm
    | step h1 h2 =>
      subst hg
      have e : ∀ d, stepG ⟨T, F'⟩ true (G fr ([] ++ [cz F'.size])) (v.at d) = .go (G ((cz F'.size).raise c) []) (v.at d) #[] := fun d => by
        unfold stepG G
        simp only [hc, List.nil_append]
        unfold unwind
        simp only [D.ok.defers, hc, hcat, Bool.false_eq_true, if_false]
      have h3 := h2 0 _ _ _ (e 0)
      have hd : Dead F'.size (G ((cz F'.size).raise c) []) := ⟨_, rfl, rfl, rfl, rfl, .inr ⟨⟨c, rfl⟩, _, _, _, rfl⟩⟩
      generalize hg : G ((cz F'.size).raise c) [] = g at h3 hd
      cases h3 with
      | stop hm hq =>
        have : [] = _ := congrArg (fun g : Goroutine => g.callers) hg
        simp [G] at this
      | step h4 h5 =>
        obtain ⟨g', v', es, h6⟩ := h4 0
        obtain ⟨o, w, es2, h7⟩ := dead_ended (T := T) (F' := F') rfl hd ((v.at 0).at 0)
        rw [h7] at h6
        cases h6
  | cons x l ih =>
    intro fr v D ⟨c, hc⟩ ht
    obtain ⟨fn, hfn⟩ := hS _ D.fn
    have hcat : fr.catches ⟨T, F'⟩ = false := by
      unfold Frame.catches
      have e' : Program.funcs ⟨T, F'⟩ = F' := rfl
      rw [e', hfn]
    generalize hg : G fr (x :: l ++ [cz F'.size]) = g at ht
    cases ht with
    | stop hm hq =>
      rename_i fr2
      have e : fr = fr2 := congrArg (fun g : Goroutine => g.frame) hg
      subst e
      rw [hc] at hm
      cases hm
    | step h1 h2 =>
      subst hg
      have e : stepG ⟨T, F'⟩ true (G fr (x :: l ++ [cz F'.size])) (v.at 0) = .go (G (x.raise c) (l ++ [cz F'.size])) (v.at 0) #[] := by
        unfold stepG G
        simp only [hc, List.cons_append]
        unfold unwind
        simp only [D.ok.defers, hc, hcat, Bool.false_eq_true, if_false]
      have hx := D.callers x (by simp)
      exact ih _ _ (caller_dom (fr := fr) D.callers (hx.ok.raise c) (raise_mode x c).2) (raise_mode x c).1 (h2 0 _ _ _ e)

/-- Two goroutines that go together: the same frames (the first has the bottom besides); or both at the entry of the function that was turned. -/
inductive Pair (T : Tables) (F' F : Array Func) (S : FuncId → Bool) (f0 : FuncId) : Goroutine → Goroutine → Prop
  | same {fr : Frame} {l : List Frame} : Dom T F' F S fr l → fr.fn ≠ f0 → (∀ c ∈ l, c.fn ≠ f0) → Pair T F' F S f0 (G fr (l ++ [cz F'.size])) (G fr l)
  | entry {xs : Array Value} {fr : Frame} {l : List Frame} : Dom T F' F S fr l → fr.mode = .run → S f0 = true → (∃ fn, F[f0]? = some fn ∧ xs.size = fn.params.size) → fr.fn ≠ f0 → (∀ c ∈ l, c.fn ≠ f0) →
      Pair T F' F S f0 (G (Frame.enter ⟨T, F'⟩ f0 xs .normal) (fr :: (l ++ [cz F'.size]))) (G (Frame.enter ⟨T, F⟩ f0 xs .normal) (fr :: l))
theorem enter_eq (hsame : ∀ f, S f = true → f ≠ f0 → F[f]? = F'[f]?) {f : FuncId} (h : S f = true) (hf : f ≠ f0) (xs : Array Value) : Frame.enter ⟨T, F'⟩ f xs .normal = Frame.enter ⟨T, F⟩ f xs .normal := by
  have e : Program.funcs ⟨T, F'⟩ = F' := rfl
  have e2 : Program.funcs ⟨T, F⟩ = F := rfl
  unfold Frame.enter
  rw [e, e2, hsame f h hf]
theorem adds_events {Sh : Nat → Prop} {es : Array Event} {n : Nat} {P : Program} {fn : FuncId} (h : Adds Sh #[] es n) : ∀ e ∈ seen P fn es, EvOk Sh n e := by
  obtain ⟨new, e, hn⟩ := h
  intro x hx
  have := mem_seen hx
  rw [e] at this
  exact hn x (by simpa using this)
/-- THE TWO STEPS. -/
theorem stepSync (L' : Late ⟨T, F'⟩) (L : Late ⟨T, F⟩) (B : Bodies T F' F S) (hsame : ∀ f, S f = true → f ≠ f0 → F[f]? = F'[f]?) {fr : Frame} {l : List Frame} (D : Dom T F' F S fr l) (hf0 : fr.fn ≠ f0) (hl0 : ∀ c ∈ l, c.fn ≠ f0) {Sh : Nat → Prop} {v w : World} (hs : Sim Sh v w)
    (hl : fr.mode = .returning → l ≠ []) {g' : Goroutine} {v' : World} {es : Array Event} (hgo : stepG ⟨T, F'⟩ true (G fr (l ++ [cz F'.size])) v = .go g' v' es) (ht : Trees ⟨T, F'⟩ (cz F'.size) Q g' v')
    (hnp : ¬ ∃ c, fr.mode = .panicking c) :
    ∃ h' w' es', stepG ⟨T, F⟩ true (G fr l) w = .go h' w' es' ∧ Sim Sh v' w' ∧ w.heap.size ≤ w'.heap.size ∧ (∀ e ∈ es', EvOk Sh w'.heap.size e) ∧ Pair T F' F S f0 g' h' := by
  obtain ⟨fn', hfn'⟩ := body_some B D.fn
  have hfn : F[fr.fn]? = some fn' := by rw [hsame _ D.fn hf0]; exact hfn'
  have tm := tm_stepS (T := T) (F := F) (F' := F') (okS T F' F S) (fun o ho => by simp only [okS, Bool.and_eq_true] at ho; exact ho.1) D.ok hfn' hfn rfl
  have hrun := tm.run v w #[] #[] hs
  have houts := outs_stepS (T := T) (F := F) (F' := F') (S := S) D.ok
  have hm : fr.mode = .run ∨ fr.mode = .returning := by
    cases h : fr.mode with
    | run => exact .inl rfl
    | returning => exact .inr rfl
    | panicking c => exact absurd ⟨c, h⟩ hnp
  have c1 : comesTo ⟨T, F'⟩ true fr (l ++ [cz F'.size]) ((stepS ⟨T, F'⟩ fr).runT ⟨T, F'⟩ v #[]) (stepG ⟨T, F'⟩ true (G fr (l ++ [cz F'.size])) v) :=
    hm.elim (fun hm => comes_exec L' D.ok hm (frOk_usual D.ok)) (fun hm => comes_ret D.ok hm hfn')
  have c2 : comesTo ⟨T, F⟩ true fr l ((stepS ⟨T, F⟩ fr).runT ⟨T, F⟩ w #[]) (stepG ⟨T, F⟩ true (G fr l) w) :=
    hm.elim (fun hm => comes_exec L D.ok hm (frOk_usual_right D.ok)) (fun hm => comes_ret D.ok hm hfn)
  rw [hgo] at c1
  generalize hx : (stepS ⟨T, F'⟩ fr).runT ⟨T, F'⟩ v #[] = x at c1 hrun
  generalize hy : (stepS ⟨T, F⟩ fr).runT ⟨T, F⟩ w #[] = y at c2 hrun
  cases hrun with
  | @ok a b v1 w1 e1 e2 h1 h2 h3 h4 h5 =>
    subst h1
    have ho := houts _ _ _ _ _ hx
    cases a with
    | to fr' =>
      obtain ⟨rfl, rfl, -⟩ := GStep.go.inj c1
      exact ⟨_, _, _, c2, h2, h3, adds_events h4, .same ⟨ho.1, by rw [ho.2.1]; exact D.fn, D.callers⟩ (by rw [ho.2.1]; exact hf0) hl0⟩
    | enter f xs =>
      obtain ⟨rfl, rfl, -⟩ := GStep.go.inj c1
      refine ⟨_, _, _, c2, h2, h3, adds_events h4, ?_⟩
      by_cases hf : f = f0
      · subst hf
        exact .entry D ho.2.2.1 ho.2.1 ho.2.2.2 hf0 hl0
      · rw [← enter_eq (T := T) hsame ho.2.1 hf xs]
        refine .same (fr := Frame.enter ⟨T, F'⟩ f xs .normal) (l := fr :: l) ⟨enter_ok B ho.2.1 xs, ho.2.1, fun y hy => ?_⟩ hf (fun y hy => ?_)
        · simp only [List.mem_cons] at hy
          rcases hy with rfl | hy
          · exact ⟨D.ok, D.fn, ho.2.2.1⟩
          · exact D.callers y hy
        · simp only [List.mem_cons] at hy
          rcases hy with rfl | hy
          · exact hf0
          · exact hl0 y hy
    | ret r =>
      have hret : fr.mode = .returning := ho
      cases l with
      | nil => exact absurd rfl (hl hret)
      | cons y l =>
        have hy := D.callers y (by simp)
        have k1 : GStep.go g' v' es = .go (G (y.finish r) (l ++ [cz F'.size])) v1 (seen ⟨T, F'⟩ fr.fn e1) := by
          rw [show GStep.go g' v' es = _ from c1]
          simp [doReturn, D.ok.kind, GStep.after, G]
        have k2 : stepG ⟨T, F⟩ true (G fr (y :: l)) w = .go (G (y.finish r) l) w1 (seen ⟨T, F⟩ fr.fn e2) := by
          rw [show stepG ⟨T, F⟩ true (G fr (y :: l)) w = _ from c2]
          simp [doReturn, D.ok.kind, GStep.after, G]
        obtain ⟨rfl, rfl, -⟩ := GStep.go.inj k1
        refine ⟨_, _, _, k2, h2, h3, adds_events h4, .same (caller_dom (fr := fr) D.callers (hy.ok.finish r) (frame_finish_mode y r).2) (by rw [(frame_finish_mode y r).2]; exact hl0 y (by simp)) (fun c hc => hl0 c (by simp [hc]))⟩
  | @panic x v1 w1 e1 e2 h2 h3 h4 =>
    rcases hm with hm | hm
    · have k1 := c1.1 hm
      obtain ⟨rfl, rfl, -⟩ := GStep.go.inj k1
      exact absurd ht (not_panicking (fun f hf => body_some B hf) l _ _ ⟨D.ok.raise _, by rw [(raise_mode _ _).2]; exact D.fn, D.callers⟩ (raise_mode _ _).1)
    · obtain ⟨o, w, h⟩ := c1.2 hm
      cases h
  | @gone h v1 e1 r hg =>
    cases h with
    | stuck m => obtain ⟨o, w, e, h⟩ := c1 hg; cases h
    | unsupported u => obtain ⟨o, w, e, h⟩ := c1 hg; cases h
    | _ => exact hg.elim
end

/-! ### goroutine 0 beside goroutines that only leave: one step of its own -/
section
variable {P : Program} {Shun : Loc → Prop} {B : Nat}
theorem leavers_awake {t : Trace} {gs : Array Goroutine} {q : Nat → Nat} {a : Goroutine} (hL : Leavers P t gs q) (h0 : gs[0]? = some a) (hrun : a.status = .running) : ∀ g ∈ gs, awake g := by
  intro g hg
  obtain ⟨i, hi⟩ := Array.getElem?_of_mem hg
  cases i with
  | zero => rw [h0] at hi; cases hi; exact awake_of (.inl hrun)
  | succ i =>
    rcases (hL.old (i + 1) g (by omega) hi).status with h | h
    · exact awake_of (.inl h)
    · exact awake_of (.inr (.inr h))
theorem others {g : Nat} {fn : FuncId} {pos : String} {es : Array Event} : ∀ op ∈ MemOp.ofEvents g fn pos es, op.g = g := fun op hop => by
  obtain ⟨e, _, rfl⟩ := Go.Conc.mem_ofEvents hop
  rfl
/-- A step of goroutine 0's leaves the leavers. -/
theorem leavers_own {t : Trace} {gs : Array Goroutine} {q : Nat → Nat} {a a' : Goroutine} {w' : World} {fn : FuncId} {pos : String} {es : Array Event} (hn : 0 < gs.size) (hL : Leavers P t gs q) :
    Leavers P (t ++ MemOp.ofEvents 0 fn pos es) ((gs.map (woken P a a' w')).setIfInBounds 0 a') q := by
  refine ⟨fun j x hj hx => ?_, fun j hj => ?_⟩
  · rw [Array.getElem?_setIfInBounds_ne (by omega), Array.getElem?_map] at hx
    obtain ⟨y, hy, rfl⟩ := Option.map_eq_some_iff.1 hx
    have hq := hL.old j y hj hy
    rw [woken_quitsD hq, Deaf_other t (by omega) _ others]
    exact hq
  · have : gs.size ≤ j := by simpa using hj
    rw [Deaf_other t (g' := 0) (by omega) _ others]
    exact hL.above j this
/-- A leaver's step. -/
theorem leavers_slip {t : Trace} {gs : Array Goroutine} {q : Nat → Nat} {i k : Nat} {g g' : Goroutine} {w' : World} {fn : FuncId} {pos : String} {es : Array Event} (hi : gs[i]? = some g) (hL : Leavers P t gs q)
    (hq' : QuitsD P k (deafBehind (Deaf t i) es) g') : Leavers P (t ++ MemOp.ofEvents i fn pos es) ((gs.map (woken P g g' w')).setIfInBounds i g') (upd q i k) := by
  have hlt : i < gs.size := (Array.getElem?_eq_some_iff.1 hi).1
  refine ⟨fun j x hj hx => ?_, fun j hj => ?_⟩
  · by_cases hji : i = j
    · subst hji
      rw [Array.getElem?_setIfInBounds_self_of_lt (by simpa using hlt)] at hx
      cases hx
      rw [upd_same, Deaf_own]
      exact hq'
    · rw [Array.getElem?_setIfInBounds_ne hji, Array.getElem?_map] at hx
      obtain ⟨y, hy, rfl⟩ := Option.map_eq_some_iff.1 hx
      have hqj := hL.old j y hj hy
      rw [woken_quitsD hqj, upd_ne q k (Ne.symm hji), Deaf_other t hji _ others]
      exact hqj
  · have : gs.size ≤ j := by simpa using hj
    rw [Deaf_other t (g' := i) (by omega) _ others]
    exact hL.above j this
theorem beside_one : ∀ (M : Nat) (gs : Array Goroutine) (a : Goroutine) (w : World) (sl : Option (Nat × Nat)) (t : Trace) (q : Nat → Nat), sumTo gs.size q ≤ M → gs[0]? = some a → a.status = .running → Leavers P t gs q → Past Shun B t →
    (∀ d, ∃ g' w' es, stepG P true a (w.at d) = .go g' w' es) →
      ∃ (N : Nat) (gs' : Array Goroutine) (a' : Goroutine) (w' : World) (sl' : Option (Nat × Nat)) (t' : Trace) (q' : Nat → Nat) (d : Nat) (es : Array Event),
        runNT P (N + 1) (crowd gs w sl) t = (.next (crowd gs' w' sl'), t') ∧ stepG P true a (w.at d) = .go a' w' es ∧ gs'.size = gs.size ∧ gs'[0]? = some a' ∧ Leavers P t' gs' q' ∧ ∀ B', B ≤ B' → (∀ e ∈ es, EvL Shun B' e) → Past Shun B' t' := by
  intro M
  induction M with
  | zero =>
    intro gs a w sl t q hM h0 hrun hL hP hstep
    obtain ⟨i, g, d, sl', hi, hg, hst⟩ := crowd_pick (P := P) (w := w) (sl := sl) (leavers_awake hL h0 hrun) ⟨0, a, h0, hrun⟩
    cases i with
    | zero =>
      rw [h0] at hi
      cases hi
      obtain ⟨g', w', es, hgo⟩ := hstep d
      have hr := runT_crowd_go (P := P) (sl := sl') (i := 0) h0 (show stepG P (0 == 0) a (w.at d) = _ from hgo)
      exact ⟨0, (gs.map (woken P a g' w')).setIfInBounds 0 g', g', w', sl', t ++ MemOp.ofEvents 0 a.frame.fn a.frame.place es, q, d, es, by simp only [runNT, hst, hr], hgo, by simp, by simp [(Array.getElem?_eq_some_iff.1 h0).1], leavers_own (Array.getElem?_eq_some_iff.1 h0).1 hL, fun B' hB he => (hP.mono hB).own he⟩
    | succ i =>
      have hq := hL.old (i + 1) g (by omega) hi
      have : q (i + 1) = 0 := by
        have := Go.ConcN.le_sumTo (f := q) (Array.getElem?_eq_some_iff.1 hi).1
        omega
      rw [this] at hq
      rw [hq.1] at hg
      cases hg
  | succ M ih =>
    intro gs a w sl t q hM h0 hrun hL hP hstep
    obtain ⟨i, g, d, sl', hi, hg, hst⟩ := crowd_pick (P := P) (w := w) (sl := sl) (leavers_awake hL h0 hrun) ⟨0, a, h0, hrun⟩
    cases i with
    | zero =>
      rw [h0] at hi
      cases hi
      obtain ⟨g', w', es, hgo⟩ := hstep d
      have hr := runT_crowd_go (P := P) (sl := sl') (i := 0) h0 (show stepG P (0 == 0) a (w.at d) = _ from hgo)
      exact ⟨0, (gs.map (woken P a g' w')).setIfInBounds 0 g', g', w', sl', t ++ MemOp.ofEvents 0 a.frame.fn a.frame.place es, q, d, es, by simp only [runNT, hst, hr], hgo, by simp, by simp [(Array.getElem?_eq_some_iff.1 h0).1], leavers_own (Array.getElem?_eq_some_iff.1 h0).1 hL, fun B' hB he => (hP.mono hB).own he⟩
    | succ i =>
      have hlt : i + 1 < gs.size := (Array.getElem?_eq_some_iff.1 hi).1
      have hq := hL.old (i + 1) g (by omega) hi
      cases hqi : q (i + 1) with
      | zero => rw [hqi] at hq; rw [hq.1] at hg; cases hg
      | succ k =>
        rw [hqi] at hq
        rcases hq with ⟨hf, _⟩ | ⟨_, g', es, hm, hstp, hq'⟩
        · rw [hf] at hg; cases hg
        have hr := runT_crowd_go (P := P) (sl := sl') (i := i + 1) hi (hstp (w.at d))
        have hsz : ((gs.map (woken P g g' (w.at d))).setIfInBounds (i + 1) g').size = gs.size := by simp
        have hsum : sumTo gs.size (upd q (i + 1) k) + (k + 1) = sumTo gs.size q + k := by
          have := sumTo_upd q k id hlt
          simpa [hqi] using this
        obtain ⟨N, gs', a', w', sl2, t', q', d', es', r1, r2, r3, r4, r5, r6⟩ := ih ((gs.map (woken P g g' (w.at d))).setIfInBounds (i + 1) g') a (w.at d) sl' (t ++ MemOp.ofEvents (i + 1) g.frame.fn g.frame.place es) (upd q (i + 1) k)
          (by rw [hsz]; omega) (by rw [Array.getElem?_setIfInBounds_ne (by omega), Array.getElem?_map, h0, Option.map_some, woken_run hrun]) hrun (leavers_slip hi hL hq') (hP.mute (by omega) hm) (fun d' => hstep d')
        exact ⟨N + 1, gs', a', w', sl2, t', q', d', es', by rw [runNT, hst, hr]; exact r1, r2, r3.trans hsz, r4, r5, r6⟩
end
end Go.Proofs.Tr

/-
  The driver: a lone run of the turned program, for every tape, carries over to the machine of many; at the turned function a phase is asked for.
-/
set_option linter.all false
namespace Go.Proofs.Tr
open Go Go.Conc
open Go.ConcN (sumTo)

def ShOk (Sh : Nat → Prop) (Shun : Loc → Prop) : Prop := ∀ l, Shun l → ∃ a, l = .cell a ∧ Sh a.block
theorem evL_of {Sh : Nat → Prop} {Shun : Loc → Prop} (h : ShOk Sh Shun) {n B : Nat} (hn : n ≤ B) {e : Event} (he : EvOk Sh n e) : EvL Shun B e := by
  rcases he with ⟨a, x, s, rfl, h2, h3⟩ | ⟨r, x, s, rfl, h2, rfl⟩ | rfl
  · refine ⟨fun y hy hs => ?_, by simp, by simp, Nat.lt_of_lt_of_le h3 hn⟩
    simp only [MemAct.ofEvent, MemAct.touch?, Option.some.injEq] at hy
    subst hy
    obtain ⟨b, hb, hb2⟩ := h _ hs
    cases hb
    exact absurd hb2 h2
  · refine ⟨fun y hy hs => ?_, by simp, by simp, Nat.lt_of_lt_of_le h2 hn⟩
    simp only [MemAct.ofEvent, MemAct.touch?, Option.some.injEq] at hy
    subst hy
    obtain ⟨b, hb, hb2⟩ := h _ hs
    cases hb
  · exact ⟨fun y hy => (by cases hy), by simp, by simp, trivial⟩

/-- Where the two runs stand. -/
structure At (T : Tables) (F' F : Array Func) (S : FuncId → Bool) (f0 : FuncId) (τ : Nat → Question → Nat) (base : Nat) (Sh : Nat → Prop) (Shun : Loc → Prop) (B : Nat) (g : Goroutine) (v : World) (b : Goroutine) (w : World) (gs : Array Goroutine) (t : Trace) (q : Nat → Nat) : Prop where
  pair : Pair T F' F S f0 g b
  zero : gs[0]? = some b
  leave : Leavers ⟨T, F⟩ t gs q
  past : Past Shun B t
  sim : Sim Sh (v.at w.drawn) w
  shun : ShOk Sh Shun
  low : B ≤ w.heap.size
  base : ∀ k, Sh k → base ≤ k
  tape : w.tape = τ

/-- One place lies behind another on the tree. -/
inductive Down (P' : Program) (z : Frame) : Goroutine × World → Goroutine × World → Prop
  | one {x y : Goroutine × World} {d : Nat} {es : Array Event} : (∀ fr, fr.mode = .returning → x.1 ≠ G fr [z]) → stepG P' true x.1 (x.2.at d) = .go y.1 y.2 es → Down P' z x y
  | more {x y u : Goroutine × World} : Down P' z x y → Down P' z y u → Down P' z x u
theorem Trees.behind {P' : Program} {z : Frame} {Q : Frame → World → Prop} {x y : Goroutine × World} (h : Down P' z x y) (ht : Trees P' z Q x.1 x.2) : Trees P' z Q y.1 y.2 := by
  induction h with
  | @one x y d es hn hs =>
    obtain ⟨g, v⟩ := x
    cases ht with
    | stop hm hq => exact absurd rfl (hn _ hm)
    | step h1 h2 => exact h2 _ _ _ _ hs
  | more _ _ ih1 ih2 => exact ih2 (ih1 ht)
theorem Down.first {P' : Program} {z : Frame} {x u : Goroutine × World} (h : Down P' z x u) : ∃ y d es, (∀ fr, fr.mode = .returning → x.1 ≠ G fr [z]) ∧ stepG P' true x.1 (x.2.at d) = .go y.1 y.2 es ∧ (y = u ∨ Down P' z y u) := by
  induction h with
  | one hn hs => exact ⟨_, _, _, hn, hs, .inl rfl⟩
  | more h1 h2 ih1 ih2 =>
    obtain ⟨y, d, es, a, b, c⟩ := ih1
    refine ⟨y, d, es, a, b, .inr ?_⟩
    rcases c with rfl | c
    · exact h2
    · exact .more c h2
/-- Induction: what holds of all that lies behind holds here. -/
theorem Trees.ind {P' : Program} {z : Frame} {Q : Frame → World → Prop} {C : Goroutine → World → Prop} (h : ∀ g v, Trees P' z Q g v → (∀ g' v', Down P' z (g, v) (g', v') → C g' v') → C g v) {g : Goroutine} {v : World} (ht : Trees P' z Q g v) : C g v := by
  have key : C g v ∧ ∀ g' v', Down P' z (g, v) (g', v') → C g' v' := by
    induction ht with
    | @stop fr v hm hq =>
      have hno : ∀ g' v', Down P' z (G fr [z], v) (g', v') → C g' v' := fun g' v' hd => by
        obtain ⟨y, d, es, hn, _, _⟩ := hd.first
        exact absurd rfl (hn _ hm)
      exact ⟨h _ _ (.stop hm hq) hno, hno⟩
    | @step g v h1 h2 ih =>
      have hall : ∀ g' v', Down P' z (g, v) (g', v') → C g' v' := fun g' v' hd => by
        obtain ⟨⟨g1, v1⟩, d, es, hn, hs, hd'⟩ := hd.first
        have i := ih d g1 v1 es hs
        rcases hd' with e | hd'
        · cases e; exact i.1
        · exact i.2 _ _ hd'
      exact ⟨h _ _ (.step h1 h2) hall, hall⟩
  exact key.1

section
variable {T : Tables} {F F' : Array Func} {S : FuncId → Bool} {f0 : FuncId}
/-- THE PHASE: from the entry of the turned function to behind its return. -/
def PhaseOk (T : Tables) (F' F : Array Func) (S : FuncId → Bool) (f0 : FuncId) : Prop :=
  ∀ (Q : Frame → World → Prop) (τ : Nat → Question → Nat) (base : Nat) (xs : Array Value) (fr : Frame) (l : List Frame) (v w : World) (gs : Array Goroutine) (sl : Option (Nat × Nat)) (t : Trace) (q : Nat → Nat) (Sh : Nat → Prop) (Shun : Loc → Prop) (B : Nat),
    Dom T F' F S fr l → fr.mode = .run → (∃ fn, F[f0]? = some fn ∧ xs.size = fn.params.size) → fr.fn ≠ f0 → (∀ c ∈ l, c.fn ≠ f0) → base ≤ v.heap.size →
    At T F' F S f0 τ base Sh Shun B (G (Frame.enter ⟨T, F'⟩ f0 xs .normal) (fr :: (l ++ [cz F'.size]))) v (G (Frame.enter ⟨T, F⟩ f0 xs .normal) (fr :: l)) w gs t q →
    Trees ⟨T, F'⟩ (cz F'.size) Q (G (Frame.enter ⟨T, F'⟩ f0 xs .normal) (fr :: (l ++ [cz F'.size]))) v →
    ∃ N gs' w' sl' t' q' v' Sh' Shun' B' r, runNT ⟨T, F⟩ N (crowd gs w sl) t = (.next (crowd gs' w' sl'), t') ∧
      At T F' F S f0 τ base Sh' Shun' B' (G (fr.finish r) (l ++ [cz F'.size])) v' (G (fr.finish r) l) w' gs' t' q' ∧ v.heap.size ≤ v'.heap.size ∧
      Down ⟨T, F'⟩ (cz F'.size) (G (Frame.enter ⟨T, F'⟩ f0 xs .normal) (fr :: (l ++ [cz F'.size])), v) (G (fr.finish r) (l ++ [cz F'.size]), v')

/-- What is asked at the law's end. -/
def QF (fl k : Nat) (Post : Value → World → Prop) (fr : Frame) (v : World) : Prop := fr.fn = fl ∧ fr.defers = [] ∧ fr.kind = .normal ∧ Post (fr.tmps.getD k undef) v

/-- THE DRIVER. -/
theorem drive {τ : Nat → Question → Nat} (L' : Late ⟨T, F'⟩) (L : Late ⟨T, F⟩) (hB : Bodies T F' F S) (hsame : ∀ f, S f = true → f ≠ f0 → F[f]? = F'[f]?) (hres0 : ∀ fn', F'[f0]? = some fn' → ∃ fn, F[f0]? = some fn ∧ fn'.results = fn.results) (hph : PhaseOk T F' F S f0) {fl k base : Nat} {Post Post' : Value → World → Prop} {fn : Func} (hfl : F[fl]? = some fn) (hres : fn.results = #[.tmp k])
    (hin : T.inits.idxOf? fl = none) (hP : ∀ r v w d Sh, Post r v → Sim Sh (v.at d) w → (∀ k, Sh k → base ≤ k) → w.tape = τ → Post' r w) {g : Goroutine} {v : World} (ht : Trees ⟨T, F'⟩ (cz F'.size) (QF fl k Post) g v) :
    ∀ (b : Goroutine) (w : World) (gs : Array Goroutine) (sl : Option (Nat × Nat)) (t : Trace) (q : Nat → Nat) (Sh : Nat → Prop) (Shun : Loc → Prop) (B : Nat), base ≤ v.heap.size → At T F' F S f0 τ base Sh Shun B g v b w gs t q →
      ∃ N last o w' t', runNT ⟨T, F⟩ (N + 1) (crowd gs w sl) t = (.ended o w', t') ∧ runN ⟨T, F⟩ N (crowd gs w sl) = .next last ∧ step ⟨T, F⟩ last = .ended o w' ∧ Good ⟨T, F⟩ Post' last o w' t' := by
  refine Trees.ind (C := fun g v => ∀ (b : Goroutine) (w : World) (gs : Array Goroutine) (sl : Option (Nat × Nat)) (t : Trace) (q : Nat → Nat) (Sh : Nat → Prop) (Shun : Loc → Prop) (B : Nat), base ≤ v.heap.size → At T F' F S f0 τ base Sh Shun B g v b w gs t q →
      ∃ N last o w' t', runNT ⟨T, F⟩ (N + 1) (crowd gs w sl) t = (.ended o w', t') ∧ runN ⟨T, F⟩ N (crowd gs w sl) = .next last ∧ step ⟨T, F⟩ last = .ended o w' ∧ Good ⟨T, F⟩ Post' last o w' t') ?_ ht
  clear ht g v
  intro g v ht ih b w gs sl t q Sh Shun B hbase A
  have join : ∀ {N gs1 w1 sl1 t1}, runNT ⟨T, F⟩ N (crowd gs w sl) t = (.next (crowd gs1 w1 sl1), t1) → (∃ N last o w' t', runNT ⟨T, F⟩ (N + 1) (crowd gs1 w1 sl1) t1 = (.ended o w', t') ∧ runN ⟨T, F⟩ N (crowd gs1 w1 sl1) = .next last ∧ step ⟨T, F⟩ last = .ended o w' ∧ Good ⟨T, F⟩ Post' last o w' t') →
      ∃ N last o w' t', runNT ⟨T, F⟩ (N + 1) (crowd gs w sl) t = (.ended o w', t') ∧ runN ⟨T, F⟩ N (crowd gs w sl) = .next last ∧ step ⟨T, F⟩ last = .ended o w' ∧ Good ⟨T, F⟩ Post' last o w' t' := by
    intro N gs1 w1 sl1 t1 hr ⟨M, last, o, w', t', e1, e2, e3, e4⟩
    refine ⟨N + M, last, o, w', t', ?_, ?_, e3, e4⟩
    · rw [Nat.add_assoc, runNT_add, hr]; exact e1
    · have hr0 : runN ⟨T, F⟩ N (crowd gs w sl) = .next (crowd gs1 w1 sl1) := by
        rw [← runNT_fst ⟨T, F⟩ N _ t, hr]
      rw [runN_add, hr0]; exact e2
  obtain ⟨pair, zero, leave, past, sim, shun, low, hb, tape⟩ := A
  cases pair with
  | @entry xs fr l D hrun hS hxs hf hl =>
    obtain ⟨N, gs', w', sl', t', q', v', Sh', Shun', B', r, r1, r2, r3, r4⟩ := hph _ τ base xs fr l v w gs sl t q Sh Shun B D hrun hxs hf hl hbase ⟨.entry D hrun hS hxs hf hl, zero, leave, past, sim, shun, low, hb, tape⟩ ht
    exact join r1 (ih _ _ r4 _ _ _ sl' _ _ _ _ _ (Nat.le_trans hbase r3) r2)
  | @same fr l D hf hl =>
    have hnp : ¬ ∃ c, fr.mode = .panicking c := fun hc => not_panicking (fun f hf => body_some hB hf) l fr v D hc ht
    generalize hg : G fr (l ++ [cz F'.size]) = g at ht ih
    by_cases hend : fr.mode = .returning ∧ l = []
    · -- THE END
      obtain ⟨hm, rfl⟩ := hend
      have hq : QF fl k Post fr v := by
        cases ht with
        | stop h1 h2 =>
          have := congrArg (fun g : Goroutine => g.frame) hg
          simp only [G] at this
          subst this
          exact h2
        | step h1 h2 =>
          subst hg
          obtain ⟨g', v', es, hs⟩ := h1 0
          have ht' := h2 _ _ _ _ hs
          -- it goes to what is dead
          obtain ⟨fn', hfn'⟩ := body_some hB D.fn
          exfalso
          rcases ret_step (P := ⟨T, F'⟩) (main := true) (cs := [cz F'.size]) (w := v.at 0) D.ok hm hfn' with ⟨r, v1, e, c1⟩ | ⟨o, v1, e, c1⟩
          · have k1 : GStep.go g' v' es = .go (G ((cz F'.size).finish r) []) v1 (seen ⟨T, F'⟩ fr.fn e) := by
              rw [← show stepG ⟨T, F'⟩ true (G fr [cz F'.size]) (v.at 0) = _ from hs, c1]
              simp [doReturn, D.ok.kind, GStep.after, G]
            obtain ⟨rfl, rfl, -⟩ := GStep.go.inj k1
            have hd : Dead F'.size (G ((cz F'.size).finish r) []) := ⟨_, rfl, rfl, rfl, rfl, .inl ⟨rfl, _, rfl⟩⟩
            generalize hg2 : G ((cz F'.size).finish r) [] = g2 at ht' hd
            cases ht' with
            | stop h3 h4 =>
              have := congrArg (fun g : Goroutine => g.callers) hg2
              simp [G] at this
            | step h3 h4 =>
              obtain ⟨g3, v3, es3, h6⟩ := h3 0
              obtain ⟨o, w, es2, h7⟩ := dead_ended (T := T) (F' := F') rfl hd (World.at _ 0)
              rw [h7] at h6
              cases h6
          · rw [show stepG ⟨T, F'⟩ true (G fr [cz F'.size]) (v.at 0) = _ from hs] at c1
            cases c1
      obtain ⟨q1, q2, q3, q4⟩ := hq
      have hgo : Goes ⟨T, F⟩ true AtRel (fun _ _ _ => False) (AtEnd ⟨T, F⟩ Shun B Post') 0 (G fr []) w := by
        rintro w₁ ⟨d, rfl⟩
        refine ⟨rfl, fr.tmps.getD k undef, #[], ?_, by simp, hP _ v (w.at d) d Sh q4 ?_ hb tape⟩
        · rw [stepG_ret0 hm]
          unfold unwind
          have e1 : (Program.funcs ⟨T, F⟩)[fr.fn]? = some fn := by rw [q1]; exact hfl
          have e2 : (results fn fr.tmps).runT ⟨T, F⟩ (w.at d) #[] = (.ok (fr.tmps.getD k undef) (w.at d), #[]) := by
            rw [← Prod.eta ((results fn fr.tmps).runT ⟨T, F⟩ (w.at d) #[])]
            congr 1
            · rw [Sem.runT_fst]; exact results_tmp hres _ _ _
            · exact events_results_tmp hres _ _
          simp only [q2, hm, e1, e2]
          have e3 : T.inits.idxOf? fr.fn = none := by rw [q1]; exact hin
          simp [doReturn, q3, e3, GStep.after, seen_none]
        · exact ⟨sim.size, sim.low, sim.blk, sim.os, sim.output, sim.tape, rfl⟩
      exact beside_ends (fun _ _ _ h => h.elim) zero leave past hgo
    · -- A STEP
      have hl' : fr.mode = .returning → l ≠ [] := fun hm e => hend ⟨hm, e⟩
      have hns : ∀ fr', fr'.mode = .returning → G fr (l ++ [cz F'.size]) ≠ G fr' [cz F'.size] := by
        intro fr' hm' e
        have e1 : fr = fr' := congrArg (fun g : Goroutine => g.frame) e
        have e2 : l ++ [cz F'.size] = [cz F'.size] := congrArg (fun g : Goroutine => g.callers) e
        subst e1
        exact hend ⟨hm', by simpa using e2⟩
      obtain ⟨h1, h2⟩ : (∀ d, ∃ g' v' es, stepG ⟨T, F'⟩ true g (v.at d) = .go g' v' es) ∧ ∀ d g' v' es, stepG ⟨T, F'⟩ true g (v.at d) = .go g' v' es → Trees ⟨T, F'⟩ (cz F'.size) (QF fl k Post) g' v' := by
        cases ht with
        | stop h1 h2 => exact absurd hg (hns _ h1)
        | step h1 h2 => exact ⟨h1, h2⟩
      subst hg
      have two : ∀ d, ∃ g' v' es h' w' es', stepG ⟨T, F'⟩ true (G fr (l ++ [cz F'.size])) (v.at d) = .go g' v' es ∧ stepG ⟨T, F⟩ true (G fr l) (w.at d) = .go h' w' es' ∧ Sim Sh v' w' ∧ w.heap.size ≤ w'.heap.size ∧ (∀ e ∈ es', EvOk Sh w'.heap.size e) ∧ Pair T F' F S f0 g' h' := by
        intro d
        obtain ⟨g', v', es, hs⟩ := h1 d
        have hsim : Sim Sh (v.at d) (w.at d) := ⟨sim.size, sim.low, sim.blk, sim.os, sim.output, sim.tape, rfl⟩
        obtain ⟨h', w', es', k1, k2, k3, k4, k5⟩ := stepSync L' L hB hsame D hf hl hsim hl' hs (h2 _ _ _ _ hs) hnp
        exact ⟨g', v', es, h', w', es', hs, k1, k2, k3, k4, k5⟩
      obtain ⟨N, gs', a', w', sl', t', q', d, es, r1, r2, r3, r4, r5, r6⟩ := beside_one (P := ⟨T, F⟩) (Shun := Shun) (B := B) _ gs (G fr l) w sl t q (Nat.le_refl _) zero rfl leave past (fun d => let ⟨_, _, _, h', w', es', _, k1, _⟩ := two d; ⟨h', w', es', k1⟩)
      obtain ⟨g', v', es1, h', w2, es', k0, k1, k2, k3, k4, k5⟩ := two d
      rw [r2] at k1
      obtain ⟨rfl, rfl, rfl⟩ := GStep.go.inj k1
      have hsz : v.heap.size ≤ v'.heap.size := by
        have e1 : v.heap.size = w.heap.size := sim.size
        have e2 : v'.heap.size = w'.heap.size := k2.size
        omega
      refine join r1 (ih g' v' (.one (d := d) (es := es1) hns k0) _ _ _ sl' _ _ Sh Shun (w'.heap.size) (Nat.le_trans hbase hsz) ⟨k5, r4, r5, r6 _ (Nat.le_trans low k3) (fun e he => evL_of shun (Nat.le_refl _) (k4 e he)), ?_, shun, Nat.le_refl _, hb, ?_⟩)
      · have e1 : v'.drawn = w'.drawn := k2.drawn
        rw [← e1]
        exact k2
      · obtain ⟨c, hc⟩ := stepA (F := F) L' hB (fun f fn' h1 hS => by
          by_cases hf : f = f0
          · subst hf; exact hres0 _ h1
          · exact ⟨fn', by rw [hsame f hS hf]; exact h1, rfl⟩) D (NoPend.all (v.at d))
        have e2 : tp (v.at d) v.tape d = v.at d := rfl
        rcases hc with ⟨g1, v1, e3, c1, c2, c3, c4, c5⟩ | hc
        · have := c5 v.tape d (fun j _ q => rfl)
          rw [e2, k0] at this
          obtain ⟨rfl, rfl, rfl⟩ := GStep.go.inj this
          have e4 : (tp v1 v.tape (d + c)).tape = w'.tape := k2.tape
          have e5 : v.tape = w.tape := sim.tape
          rw [← tape, ← e5]
          exact e4.symm
        · obtain ⟨o, w1, e3, h3⟩ := hc v.tape d (fun j _ q => rfl)
          rw [e2, k0] at h3
          cases h3
end
end Go.Proofs.Tr

/-
  From a contract of one goroutine, over the turned program, to the good run of the given one.
-/
set_option linter.all false
namespace Go.Proofs.Tr
open Go Go.Conc

section
variable {T : Tables} {F F' : Array Func} {S : FuncId → Bool} {f0 : FuncId}
def DomG (T : Tables) (F' F : Array Func) (S : FuncId → Bool) (g : Goroutine) : Prop := ∃ fr l, g = G fr (l ++ [cz F'.size]) ∧ Dom T F' F S fr l
theorem iter_of_run (L : Late ⟨T, F'⟩) (B : Bodies T F' F S) (hsame : ∀ f fn', F'[f]? = some fn' → S f = true → ∃ fn, F[f]? = some fn ∧ fn'.results = fn.results) : ∀ (n : Nat) (fr : Frame) (cs : List Frame) (v : World) (fr' : Frame) (cs' : List Frame) (w' : World),
    (DomG T F' F S (G fr cs) ∨ Dead F'.size (G fr cs)) → runN ⟨T, F'⟩ n (lone fr cs v) = .next (lone fr' cs' w') → iterA ⟨T, F'⟩ n (G fr cs) v = some (G fr' cs', w') := by
  intro n
  induction n with
  | zero =>
    intro fr cs v fr' cs' w' _ h
    have h' : lone fr cs v = lone fr' cs' w' := Stepped.next.inj h
    have e1 : v = w' := congrArg (fun m : Machine => m.world) h'
    have e2 : #[G fr cs] = #[G fr' cs'] := congrArg (fun m : Machine => m.gs) h'
    have e3 : G fr cs = G fr' cs' := by simpa using e2
    subst e1
    rw [e3]
    rfl
  | succ n ih =>
    intro fr cs v fr' cs' w' hd h
    unfold iterA
    rw [runN] at h
    have dead : (∃ o w es, stepG ⟨T, F'⟩ true (G fr cs) v = .ended o w es) → False := by
      rintro ⟨o, w, es, e⟩
      have : step ⟨T, F'⟩ (lone fr cs v) = .ended o w := step_lone_ended (by rw [show ({ frame := fr, callers := cs, status := .running, dying := none } : Goroutine) = G fr cs from rfl, e]; rfl)
      rw [this] at h
      cases h
    rcases hd with ⟨fr1, l, e, D⟩ | hd
    · obtain ⟨c, hc⟩ := stepA (F := F) L B hsame D (NoPend.all v)
      rw [← e] at hc
      have e2 : tp v v.tape v.drawn = v := rfl
      rcases hc with ⟨g1, v1, es, c1, c2, c3, c4, c5⟩ | hc
      · have := c5 v.tape v.drawn (fun j _ q => rfl)
        have e3 : tp v1 v.tape (v.drawn + c) = v1 := by rw [← c4, ← c3]; rfl
        rw [e2, e3] at this
        rw [this]
        have hg1 : ∃ fr2 cs2, g1 = G fr2 cs2 := by
          rcases c1 with ⟨a, b, h, _⟩ | ⟨a, h, _⟩
          · exact ⟨_, _, h⟩
          · exact ⟨_, _, h⟩
        obtain ⟨fr2, cs2, rfl⟩ := hg1
        have hst : step ⟨T, F'⟩ (lone fr cs v) = .next (lone fr2 cs2 v1) := step_lone_go (by rw [show ({ frame := fr, callers := cs, status := .running, dying := none } : Goroutine) = G fr cs from rfl, this]; rfl)
        rw [hst] at h
        exact ih fr2 cs2 v1 fr' cs' w' c1 h
      · obtain ⟨o, w, es, h3⟩ := hc v.tape v.drawn (fun j _ q => rfl)
        rw [e2] at h3
        exact (dead ⟨o, w, es, h3⟩).elim
    · exact (dead (dead_ended (T := T) (F' := F') rfl hd v)).elim

/-- THE TREE, from the contract. -/
theorem trees_of_calls (L : Late ⟨T, F'⟩) (B : Bodies T F' F S) (hsame : ∀ f fn', F'[f]? = some fn' → S f = true → ∃ fn, F[f]? = some fn ∧ fn'.results = fn.results) {fl k : Nat} (hS : S fl = true) {fn : Func} (hfl : F'[fl]? = some fn) (hres : fn.results = #[.tmp k])
    {args : Array Value} {W : World} {Post : Value → World → Prop} (hins : ∀ r v σ d, Post r (tp v σ d) → Post r v) (hc : ∀ σ d, Calls ⟨T, F'⟩ fl args (tp W σ d) fun e w' => ∃ r, e = .returned r ∧ Post r w') :
    Trees ⟨T, F'⟩ (cz F'.size) (QF fl k Post) (G (Frame.enter ⟨T, F'⟩ fl args .normal) [cz F'.size]) W := by
  have hdom : DomG T F' F S (G (Frame.enter ⟨T, F'⟩ fl args .normal) [cz F'.size]) := ⟨_, [], rfl, enter_ok B hS args, hS, by simp⟩
  refine bar (n := F'.size) (D := DomG T F' F S) (fun g v hd _ => ?_) (fun g v hd => dead_ended (T := T) (F' := F') rfl hd v) (fun fr v σ d h => ⟨h.1, h.2.1, h.2.2.1, hins _ _ _ _ h.2.2.2⟩) hdom (NoPend.all W) fun σ d => ?_
  · obtain ⟨fr, l, rfl, D⟩ := hd
    obtain ⟨c, h⟩ := stepA (F := F) L B hsame D (NoPend.all v)
    exact ⟨c, h⟩
  · obtain ⟨e, w', fr, ⟨r, rfl, hp⟩, hs, hfn, hlv⟩ := hc σ d [cz F'.size]
    obtain ⟨n, hn⟩ : Steps ⟨T, F'⟩ (lone (Frame.enter ⟨T, F'⟩ fl args .normal) [cz F'.size] (tp W σ d)) (lone fr [cz F'.size] w') := hs
    obtain ⟨l1, l2, l3, fn1, l4, l5⟩ := hlv
    refine ⟨n, fr, w', iter_of_run (F := F) L B hsame n _ _ _ _ _ _ (.inl hdom) hn, l1, hfn, l2, l3, ?_⟩
    rw [hfn] at l4
    have l4' : F'[fl]? = some fn1 := l4
    rw [hfl] at l4'
    cases l4'
    rw [results_tmp hres] at l5
    obtain ⟨rfl⟩ := (Result.ok.inj l5).1
    exact hp

/-- THE GOOD RUN, from the contract. -/
theorem good_of_alt (L' : Late ⟨T, F'⟩) (L : Late ⟨T, F⟩) (B : Bodies T F' F S) (hsame : ∀ f, S f = true → f ≠ f0 → F[f]? = F'[f]?) (hres0 : ∀ fn', F'[f0]? = some fn' → ∃ fn, F[f0]? = some fn ∧ fn'.results = fn.results) (hph : PhaseOk T F' F S f0)
    {fl k : Nat} (hS : S fl = true) (hf0 : fl ≠ f0) {fn : Func} (hfl : F[fl]? = some fn) (hres : fn.results = #[.tmp k]) (hin : T.inits.idxOf? fl = none) {args : Array Value} {W : World} {Post Post' : Value → World → Prop}
    (hins : ∀ r v σ d, Post r (tp v σ d) → Post r v) (hc : ∀ σ d, Calls ⟨T, F'⟩ fl args (tp W σ d) fun e w' => ∃ r, e = .returned r ∧ Post r w')
    (hP : ∀ r v w d Sh, Post r v → Sim Sh (v.at d) w → (∀ k, Sh k → W.heap.size ≤ k) → w.tape = W.tape → Post' r w) :
    ∃ M last o w' t', runNT ⟨T, F⟩ (M + 1) (solo (G (Frame.enter ⟨T, F⟩ fl args .normal) []) W) #[] = (.ended o w', t') ∧ runN ⟨T, F⟩ M (solo (G (Frame.enter ⟨T, F⟩ fl args .normal) []) W) = .next last ∧
      step ⟨T, F⟩ last = .ended o w' ∧ Good ⟨T, F⟩ Post' last o w' t' := by
  have hsame' : ∀ f fn', F'[f]? = some fn' → S f = true → ∃ fn, F[f]? = some fn ∧ fn'.results = fn.results := fun f fn' h1 h2 => by
    by_cases hf : f = f0
    · subst hf; exact hres0 _ h1
    · exact ⟨fn', by rw [hsame f h2 hf]; exact h1, rfl⟩
  have hfl' : F'[fl]? = some fn := by rw [← hsame fl hS hf0]; exact hfl
  have ht := trees_of_calls (F := F) L' B hsame' hS hfl' hres hins hc
  rw [solo_eq_crowd]
  refine drive L' L B hsame hres0 hph hfl hres hin hP ht (G (Frame.enter ⟨T, F⟩ fl args .normal) []) W #[G (Frame.enter ⟨T, F⟩ fl args .normal) []] none #[] (fun _ => 0) (fun _ => False) (fun _ => False) 0 (Nat.le_refl _) ?_
  have hd : Dom T F' F S (Frame.enter ⟨T, F'⟩ fl args .normal) [] := ⟨enter_ok B hS args, hS, by simp⟩
  refine ⟨?_, rfl, leavers_one _ _, past_nil, NoPend.all W, fun l h => h.elim, Nat.zero_le _, fun k h => h.elim, rfl⟩
  rw [← enter_eq (T := T) hsame hS hf0 args]
  exact .same (l := []) hd hf0 (by simp)
end
end Go.Proofs.Tr

/-
  Two runs in step: an operation that both have is taken by both with the same answer; what only one of them has leaves the other where it is.
-/
set_option linter.all false
namespace Go.Proofs.Tr
open Go Go.Conc

section
variable {T : Tables} {F F' : Array Func} {S : FuncId → Bool} {Q : Frame → World → Prop}
/-- Where the lone run stands (x0: whence it came). -/
structure Co (T : Tables) (F' F : Array Func) (S : FuncId → Bool) (Q : Frame → World → Prop) (x0 : Goroutine × World) (l : List Frame) (fr : Frame) (v : World) (Sh : Nat → Prop) (w : World) : Prop where
  trees : Trees ⟨T, F'⟩ (cz F'.size) Q (G fr (l ++ [cz F'.size])) v
  down : x0 = (G fr (l ++ [cz F'.size]), v) ∨ Down ⟨T, F'⟩ (cz F'.size) x0 (G fr (l ++ [cz F'.size]), v)
  sim : Sim Sh (v.at w.drawn) w
  size : x0.2.heap.size ≤ v.heap.size
  dom : Dom T F' F S fr l
  ne : l ≠ []

theorem notz {fr y z : Frame} {l : List Frame} (h : l ≠ []) : G fr (l ++ [z]) ≠ G y [z] := by
  intro e
  have := congrArg Goroutine.callers e
  simp only [G] at this
  cases l with
  | nil => exact h rfl
  | cons a l => simp at this

theorem run_value {α : Type} {P : Program} {s : Sem Value} {w : World} {es : Array Event} {r : Value} {w' : World} {e : Array Event} (h : s.runT P w es = (.ok r w', e)) : (do pure (Next.value (← s)) : Sem Next).runT P w es = (.ok (.value r) w', e) := by
  show (s.bind fun r => pure (Next.value r)).runT P w es = _
  rw [Sem.runT_bind', h]
  rfl
theorem run_halt {P : Program} {s : Sem Value} {w : World} {es : Array Event} {g : Halt} {w' : World} {e : Array Event} (h : s.runT P w es = (.halt g w', e)) : (do pure (Next.value (← s)) : Sem Next).runT P w es = (.halt g w', e) := by
  show (s.bind fun r => pure (Next.value r)).runT P w es = _
  rw [Sem.runT_bind', h]

/-- A step of the lone run's own. -/
theorem Co.idle {x0 : Goroutine × World} {l : List Frame} {fr fr' : Frame} {v v' : World} {Sh Sh' : Nat → Prop} {w w' : World} (h : Co T F' F S Q x0 l fr v Sh w) {d : Nat} {es : Array Event}
    (hst : stepG ⟨T, F'⟩ true (G fr (l ++ [cz F'.size])) (v.at d) = .go (G fr' (l ++ [cz F'.size])) v' es) (hd : Dom T F' F S fr' l) (hs : Sim Sh' (v'.at w'.drawn) w') (hz : v.heap.size ≤ v'.heap.size) : Co T F' F S Q x0 l fr' v' Sh' w' := by
  have hne : ∀ y : Frame, y.mode = .returning → G fr (l ++ [cz F'.size]) ≠ G y [cz F'.size] := fun y _ => notz h.ne
  have ho : Down ⟨T, F'⟩ (cz F'.size) (G fr (l ++ [cz F'.size]), v) (G fr' (l ++ [cz F'.size]), v') := .one hne hst
  refine ⟨Trees.behind ho h.trees, .inr ?_, hs, Nat.le_trans h.size hz, hd, h.ne⟩
  rcases h.down with rfl | hd
  · exact ho
  · exact .more hd ho

/-- AN OPERATION THAT BOTH HAVE. -/
theorem Co.share (L' : Late ⟨T, F'⟩) (B : Bodies T F' F S) {x0 : Goroutine × World} {l : List Frame} {b : Frame} {a : Act} {ops : Array Oper} {i : Nat} {rest : List Nat} {k : List Item} {o : Oper} {v : World} {Sh : Nat → Prop} {w : World}
    (h : Co T F' F S Q x0 l (b.at a (.inRegion ops (i :: rest) :: k)) v Sh w) (ho : ops[i]? = some o) (hw : Region.wanted o (yielded ops a.tmps) = true)
    {s : Sem Value} (hA : execOp a.eval o = (do pure (Next.value (← s)) : Sem Next)) (tm : TM T F' F s) :
    ∃ r w' v' es, s.runT ⟨T, F⟩ w #[] = (.ok r w', es) ∧ (∀ e ∈ es, EvOk Sh w'.heap.size e) ∧ Keep Sh w w' ∧ w.heap.size ≤ w'.heap.size ∧ w'.tape = w.tape ∧
      (∃ e1, s.runT ⟨T, F'⟩ (v.at w.drawn) #[] = (.ok r v', e1)) ∧ Co T F' F S Q x0 l (b.at (a.put o.dst r) (.inRegion ops rest :: k)) v' Sh w' := by
  have hT := h.trees
  generalize hg : G (b.at a (.inRegion ops (i :: rest) :: k)) (l ++ [cz F'.size]) = g at hT
  cases hT with
  | @stop fr _ h1 h2 => exact absurd hg (notz h.ne)
  | step h1 h2 =>
    obtain ⟨g', v1, es1, hgo⟩ := h1 w.drawn
    have ht := h2 _ _ _ _ hgo
    subst hg
    have hm' : (b.at a (.inRegion ops (i :: rest) :: k)).mode = .run := rfl
    have c1 := comes_exec (main := true) (cs := l ++ [cz F'.size]) (w := v.at w.drawn) L' h.dom.ok hm' (frOk_usual h.dom.ok)
    have hS : stepS ⟨T, F'⟩ (b.at a (.inRegion ops (i :: rest) :: k)) = (execOp a.eval o).bind (outOf (b.at a (.inRegion ops (i :: rest) :: k))) := by
      unfold stepS
      rw [hm']
      show (if ((ops[i]?).map (Region.wanted · (yielded ops a.tmps))).getD false then _ else _) = _
      rw [ho]
      simp only [Option.map_some, Option.getD_some, hw, if_true]
      rfl
    rw [hS, Sem.runT_bind', hA] at c1
    have hrun := tm.run (v.at w.drawn) w #[] #[] h.sim
    generalize hx : s.runT ⟨T, F'⟩ (v.at w.drawn) #[] = x at hrun
    generalize hy : s.runT ⟨T, F⟩ w #[] = y at hrun
    cases hrun with
    | @ok r r2 v2 w1 e1 e2 q1 q2 q3 q4 q5 =>
      subst q1
      rw [run_value (α := Value) hx] at c1
      have c2 : stepG ⟨T, F'⟩ true (G (b.at a (.inRegion ops (i :: rest) :: k)) (l ++ [cz F'.size])) (v.at w.drawn) = .go (G ((b.at a (.inRegion ops (i :: rest) :: k)).finish r) (l ++ [cz F'.size])) v2 (seen ⟨T, F'⟩ b.fn e1) := c1
      have hfin : (b.at a (.inRegion ops (i :: rest) :: k)).finish r = b.at (a.put o.dst r) (.inRegion ops rest :: k) := by rw [Frame.finish_at, ho]; rfl
      have hgrow : v.heap.size ≤ v2.heap.size := by
        have a1 := q2.size
        have a2 := h.sim.size
        have a3 : (v.at w.drawn).heap.size = v.heap.size := rfl
        omega
      have hd2 : v2.drawn = w1.drawn := q2.drawn
      have e3 : v2.at w1.drawn = v2 := by rw [← hd2]; rfl
      have htape : w1.tape = w.tape := by
        obtain ⟨_, _, ht, _⟩ := tm.taped (v.at w.drawn) #[]
        simp only [hx] at ht
        exact (q2.tape.symm.trans ht).trans h.sim.tape
      refine ⟨r, w1, v2, e2, rfl, ?_, q5, q3, htape, ⟨e1, rfl⟩, h.idle (d := w.drawn) (by rw [c2, hfin]) ⟨?_, h.dom.fn, h.dom.callers⟩ (by rw [e3]; exact q2) hgrow⟩
      · obtain ⟨new, rfl, hn⟩ := q4
        simpa using hn
      · rw [← hfin]; exact h.dom.ok.finish r
    | @panic x v2 w1 e1 e2 q2 q3 q4 =>
      rw [run_halt hx] at c1
      have c2 := c1.1 hm'
      rw [hgo] at c2
      obtain ⟨rfl, rfl, -⟩ := GStep.go.inj c2
      exact absurd ht (not_panicking (fun f hf => body_some B hf) l _ _ ⟨h.dom.ok.raise _, by rw [(raise_mode _ _).2]; exact h.dom.fn, h.dom.callers⟩ (raise_mode _ _).1)
    | @gone g v2 e1 r hgn =>
      rw [run_halt hx] at c1
      rw [hgo] at c1
      cases g with
      | stuck m => obtain ⟨o, w, e, h⟩ := c1 hgn; cases h
      | unsupported u => obtain ⟨o, w, e, h⟩ := c1 hgn; cases h
      | _ => exact hgn.elim
end

/-! ### what only the run in company does -/
section
variable {Sh : Nat → Prop} {v w : World}
theorem Sim.at_drawn (h : Sim Sh (v.at w.drawn) w) (d : Nat) : Sim Sh (v.at d) (w.at d) := ⟨h.size, h.low, h.blk, h.os, h.output, h.tape, rfl⟩
/-- A new row: empty in the lone world. -/
theorem Sim.dead (h : Sim Sh v w) {c : Array Value} {e : TypeId} : Sim (fun k => Sh k ∨ k = w.heap.size) { v with heap := v.heap.push (.cells #[] e) } { w with heap := w.heap.push (.cells c e) } := by
  refine ⟨by simp [h.size], fun k hk => ?_, fun k o o' h1 h2 => ?_, h.os, h.output, h.tape, h.drawn⟩
  · rcases hk with hk | rfl
    · have := h.low k hk; simp; omega
    · simp [h.size]
  · simp only [Array.getElem?_push] at h1 h2
    rw [h.size] at h1
    by_cases ek : k = w.heap.size
    · subst ek
      simp at h1 h2
      subst h1 h2
      exact .row (.inr rfl)
    · rw [if_neg ek] at h1 h2
      have := h.blk k o o' h1 h2
      cases this with
      | same h3 => exact .same (fun x => x.elim h3 ek)
      | odd h3 h4 h5 => exact .odd ⟨fun x => x.elim h3.1 ek, let ⟨j, a, b⟩ := h3.2; ⟨j, a, .inl b⟩⟩ h4 h5
      | row h3 => exact .row (.inl h3)
/-- A store into a dead row. -/
theorem Sim.deadCell (h : Sim Sh v w) {a : Addr} (hd : Sh a.block) (x : Value) : Sim Sh v (w.setCell a x) := by
  refine ⟨by simp [h.size], h.low, fun k o o' h1 h2 => ?_, h.os, h.output, h.tape, h.drawn⟩
  simp only [setCell_put, Array.getElem?_modify] at h2
  by_cases e : a.block = k
  · subst e
    rw [if_pos rfl] at h2
    obtain ⟨p, hp, rfl⟩ := Option.map_eq_some_iff.1 h2
    have := h.blk _ _ _ h1 hp
    cases this with
    | same h3 => exact absurd hd h3
    | odd h3 => exact absurd hd h3.1
    | row h3 => exact .row h3
  · rw [if_neg e] at h2
    exact h.blk k o o' h1 h2
/-- The company's world turns in dead rows and odd objects alone. -/
theorem Sim.turn {w' : World} (h : Sim Sh v w) (hz : w'.heap.size = w.heap.size) (hb : ∀ k o, w.heap[k]? = some o → w'.heap[k]? = some o ∨ (odd o = true ∧ (∃ j, j ≤ k ∧ Sh j) ∧ ∃ o', w'.heap[k]? = some o' ∧ odd o' = true) ∨ (Sh k ∧ ∃ c c' e, o = .cells c e ∧ w'.heap[k]? = some (.cells c' e)))
    (ho : w'.os = w.os) (hp : w'.output = w.output) (ht : w'.tape = w.tape) (d : Nat) : Sim Sh (v.at d) (w'.at d) := by
  refine ⟨by show v.heap.size = w'.heap.size; rw [hz]; exact h.size, h.low, fun k o o' h1 h2 => ?_, ?_, ?_, ?_, rfl⟩
  · have h1' : v.heap[k]? = some o := h1
    have h2' : w'.heap[k]? = some o' := h2
    obtain ⟨p, hp1, hA⟩ := h.there h1'
    rcases hb k p hp1 with q | ⟨q1, qa, p', q2, q3⟩ | ⟨q1, c, c', e, rfl, q2⟩
    · rw [h2'] at q; cases q; exact hA
    · rw [h2'] at q2; cases q2
      cases hA with
      | same h3 => exact .odd ⟨h3, qa⟩ q1 q3
      | odd h3 h4 _ => exact .odd h3 h4 q3
      | row h3 => cases q1
    · rw [h2'] at q2; cases q2
      cases hA with
      | same h3 => exact absurd q1 h3
      | odd h3 => exact absurd q1 h3.1
      | row h3 => exact .row h3
  · exact h.os.trans ho.symm
  · exact h.output.trans hp.symm
  · exact h.tape.trans ht.symm
end
end Go.Proofs.Tr

/-
  The lone run makes an empty row for a row; and how many blocks a tree makes.
-/
set_option linter.all false
namespace Go.Proofs.Tr
open Go Go.Conc

section
variable {T : Tables} {F F' : Array Func} {S : FuncId → Bool} {Q : Frame → World → Prop}
theorem run_box {P : Program} {ρ : Operand → Value} {o : Oper} {t : TypeId} (hop : o.op = .box t (.const (.agg #[]))) (hρ : ρ (.const (.agg #[])) = .agg #[]) (v : World) :
    (execOp ρ o).run P v = .ok (.value (.pointer (some ⟨v.heap.size, 0, none⟩))) { v with heap := v.heap.push (.cells #[] t) } := by
  unfold execOp
  rw [hop]
  simp only [hρ]
  rfl
/-- The company's world turns; the lone run stays. -/
theorem Co.turn {x0 : Goroutine × World} {l : List Frame} {fr : Frame} {v : World} {Sh Sh' : Nat → Prop} {w w' : World} (h : Co T F' F S Q x0 l fr v Sh w) (hs : Sim Sh' (v.at w'.drawn) w') : Co T F' F S Q x0 l fr v Sh' w' := ⟨h.trees, h.down, hs, h.size, h.dom, h.ne⟩
/-- An empty row for a row. -/
theorem Co.box {x0 : Goroutine × World} {l : List Frame} {b : Frame} {a : Act} {ops : Array Oper} {i : Nat} {rest : List Nat} {k : List Item} {o : Oper} {v : World} {Sh : Nat → Prop} {w w' : World} {t : TypeId} {c : Array Value}
    (h : Co T F' F S Q x0 l (b.at a (.inRegion ops (i :: rest) :: k)) v Sh w) (ho : ops[i]? = some o) (hw : Region.wanted o (yielded ops a.tmps) = true) (hk : b.kind ≠ .early) (hop : o.op = .box t (.const (.agg #[])))
    (hw' : w' = { w with heap := w.heap.push (.cells c t) }) :
    ∃ v', Co T F' F S Q x0 l (b.at (a.put o.dst (.pointer (some ⟨w.heap.size, 0, none⟩))) (.inRegion ops rest :: k)) v' (fun k => Sh k ∨ k = w.heap.size) w' ∧ v'.heap.size = v.heap.size + 1 := by
  subst hw'
  have hz : v.heap.size = w.heap.size := h.sim.size
  have hst := stepG_value (P := ⟨T, F'⟩) (main := true) (cs := l ++ [cz F'.size]) (k := k) (rest := rest) (w := v.at v.drawn) ho hw hk (run_box (P := ⟨T, F'⟩) (ρ := a.eval) hop rfl (v.at v.drawn))
  have hfin : (b.at a (.inRegion ops (i :: rest) :: k)).finish (.pointer (some ⟨v.heap.size, 0, none⟩)) = b.at (a.put o.dst (.pointer (some ⟨v.heap.size, 0, none⟩))) (.inRegion ops rest :: k) := by rw [Frame.finish_at, ho]; rfl
  refine ⟨{ v with heap := v.heap.push (.cells #[] t) }, ?_, by simp⟩
  rw [← hz]
  refine h.idle (d := v.drawn) hst ⟨?_, h.dom.fn, h.dom.callers⟩ ?_ (by simp)
  · have e := h.dom.ok.finish (.pointer (some ⟨v.heap.size, 0, none⟩))
    rw [hfin] at e
    exact e
  · have := (h.sim).dead (c := c) (e := t)
    rw [hz]
    exact this
end

/-! ### how many blocks a tree makes -/
/-- Where it yields, it has made k blocks. -/
def Makes {α : Type} (k : Nat) (s : Sem α) : Prop := ∀ P w es a w' es', s.runT P w es = (.ok a w', es') → w'.heap.size = w.heap.size + k
section
variable {α β : Type}
theorem mk_bind {j k : Nat} {s : Sem α} {f : α → Sem β} (h : Makes j s) (hf : ∀ a, Makes k (f a)) : Makes (j + k) (s >>= f) := by
  intro P w es b w' es' hr
  have hr' : (s.bind f).runT P w es = (.ok b w', es') := hr
  rw [Sem.runT_bind'] at hr'
  generalize hx : s.runT P w es = x at hr'
  obtain ⟨r, e1⟩ := x
  cases r with
  | halt g w1 => cases hr'
  | ok a w1 => rw [hf a P w1 e1 b w' es' hr', h P w es a w1 e1 hx]; omega
theorem mk_b0 {k : Nat} {s : Sem α} {f : α → Sem β} (h : Makes 0 s) (hf : ∀ a, Makes k (f a)) : Makes k (s >>= f) := by
  have := mk_bind h hf
  rwa [Nat.zero_add] at this
theorem mk_pure (a : α) : Makes 0 (pure a : Sem α) := by intro P w es b w' es' hr; cases hr; rfl
theorem mk_halt {k : Nat} (h : Halt) : Makes k (.halt h : Sem α) := by intro P w es b w' es' hr; cases hr
theorem mk_stuck {k : Nat} (m : String) : Makes k (stuck m : Sem α) := mk_halt _
theorem mk_unsup {k : Nat} (u : Unsupported) : Makes k (unsupported u : Sem α) := mk_halt _
theorem mk_prog {k : Nat} {f : Program → Sem α} (h : ∀ p, Makes k (f p)) : Makes k (program >>= f) := by intro P w es b w' es' hr; exact h P P w es b w' es' hr
theorem mk_never {k : Nat} {s : Sem α} (h : ∀ P, Outs P (fun _ => False) s) : Makes k s := fun P _ _ _ _ _ hr => (h P _ _ _ _ _ hr).elim
theorem mk_panic {k : Nat} (x : RuntimeError) : Makes k (runtimePanic x : Sem α) := mk_never fun _ => outs_panic
theorem mk_load (a : Addr) (m : Go.Mode) : Makes 0 (load a m) := by
  intro P w es b w' es' hr
  unfold load at hr
  simp only [Sem.runT] at hr
  split at hr
  · cases hr; rfl
  · split at hr
    · cases hr; rfl
    · cases hr
theorem mk_new (c : Array Value) (e : TypeId) : Makes 1 (newObj (.cells c e)) := by
  intro P w es b w' es' hr
  unfold newObj at hr
  simp only [Sem.runT] at hr
  cases hr
  simp
theorem mk_choose (q : Question) : Makes 0 (choose q) := by
  intro P w es b w' es' hr
  unfold choose at hr
  simp only [Sem.runT] at hr
  split at hr <;> (cases hr; rfl)
theorem mk_room (n : Nat) : Makes 0 (askRoom n) := by
  unfold askRoom
  split
  · intro P w es b w' es' hr; cases hr; rfl
  · exact mk_pure _
theorem mk_typeInfo (t : TypeId) : Makes 0 (typeInfo t) := by
  unfold typeInfo
  refine mk_prog fun p => ?_
  split <;> first | exact mk_pure _ | exact mk_halt _
theorem mk_under (t : TypeId) : Makes 0 (underlying t) := by
  unfold underlying
  refine mk_prog fun p => ?_
  split <;> first | exact mk_pure _ | exact mk_halt _
theorem mk_size (t : TypeId) : Makes 0 (sizeOf t) := by unfold sizeOf; exact mk_b0 (mk_typeInfo t) fun _ => mk_pure _
theorem mk_zero (t : TypeId) : Makes 0 (zeroValue t) := by
  unfold zeroValue
  refine mk_b0 (mk_typeInfo t) fun i => ?_
  split <;> first | exact mk_pure _ | exact mk_halt _
theorem mk_loadFrom (a : Addr) : ∀ (n i : Nat) (acc : Array Value), Makes 0 (loadCellsFrom a i n acc)
  | 0, _, _ => mk_pure _
  | n + 1, i, acc => mk_b0 (mk_load _ _) fun _ => mk_loadFrom a n _ _
theorem mk_first (s n : Nat) (x : Value) : Makes 0 (Builtin.firstCells s n x) := by
  unfold Builtin.firstCells
  split
  · exact mk_loadFrom _ _ _ _
  · exact mk_pure _
  · exact mk_pure _
  · exact mk_halt _
theorem mk_row (e : TypeId) (c : Array Value) : Makes 1 (newRow e c) := by unfold newRow; exact mk_bind (k := 0) (mk_new c e) fun _ => mk_pure _
theorem mk_dead {k : Nat} {s : Sem β} {f : β → Sem α} (h : ∀ P, Outs P (fun _ => False) s) : Makes k (s >>= f) := by
  intro P w es b w' es' hr
  have hr' : (s.bind f).runT P w es = (.ok b w', es') := hr
  rw [Sem.runT_bind'] at hr'
  generalize hx : s.runT P w es = x at hr'
  obtain ⟨r, e1⟩ := x
  cases r with
  | halt g w1 => cases hr'
  | ok a w1 => exact (h P _ _ _ _ _ hx).elim
theorem mk_ite {k : Nat} {c : Prop} [Decidable c] {s s' : Sem α} (h : Makes k s) (h' : Makes k s') : Makes k (if c then s else s') := by split <;> assumption
theorem mk_buildSlice (t : TypeId) (n : Nat) (ps : Array (Nat × Value)) : Makes 1 (Instr.buildSlice t n ps) := by
  unfold Instr.buildSlice
  refine mk_b0 (mk_under t) fun d => ?_
  split
  · refine mk_b0 (mk_size _) fun z => ?_
    extract_lets j2 j1
    have h2 : ∀ u, Makes 1 (j2 u) := by
      intro u
      unfold j2
      split
      · exact mk_bind (k := 0) (mk_row _ _) fun _ => mk_pure _
      · exact mk_halt _
    have h1 : ∀ u, Makes 1 (j1 u) := by
      intro u
      unfold j1
      clear_value j2
      exact mk_ite (mk_b0 (mk_pure _) fun _ => h2 _) (mk_b0 (mk_zero _) fun _ => mk_b0 (mk_pure _) fun _ => h2 _)
    clear_value j1 j2
    exact mk_ite (mk_dead fun _ => outs_halt _) (h1 _)
  · exact mk_halt _
theorem outs_buildSlice (P : Program) (t : TypeId) (n : Nat) (ps : Array (Nat × Value)) : Outs P (fun r => ∃ a, r = .slice a n n) (Instr.buildSlice t n ps) := by
  unfold Instr.buildSlice
  refine Outs.bind (R := fun _ => True) fun d => ?_
  split
  · refine Outs.bind (R := fun _ => True) fun z => ?_
    extract_lets j2 j1
    have h2 : ∀ u, Outs P (fun r => ∃ a, r = .slice a n n) (j2 u) := by
      intro u
      unfold j2
      split
      · exact Outs.bind (R := fun _ => True) fun _ => outs_pure ⟨_, rfl⟩
      · exact outs_halt _
    have h1 : ∀ u, Outs P (fun r => ∃ a, r = .slice a n n) (j1 u) := by
      intro u
      unfold j1
      clear_value j2
      split
      · exact Outs.bind (R := fun _ => True) fun _ => h2 _
      · exact Outs.bind (R := fun _ => True) fun _ => Outs.bind (R := fun _ => True) fun _ => h2 _
    clear_value j1 j2
    split
    · exact Outs.bind (R := fun _ => True) fun _ => h1 _
    · exact h1 _
  · exact outs_halt _
/-- One more behind a full row. -/
theorem mk_append (ts : Array TypeId) (t : TypeId) (b r : Option Addr) (n c : Nat) : Makes 1 (Builtin.append_ ts t #[.slice b n n, .slice r 1 c]) := by
  unfold Builtin.append_
  split
  · rename_i st s x h
    simp only [List.getElem?_toArray, List.getElem?_cons_zero, List.getElem?_cons_succ, Prod.mk.injEq, Option.some.injEq] at h
    obtain ⟨-, rfl, rfl⟩ := h
    refine mk_b0 (mk_under _) fun d => ?_
    split
    · · refine mk_b0 (mk_size _) fun size => ?_
        extract_lets j1 j2
        have h1 : ∀ P u, Outs P (fun _ => False) (j1 u) := fun P u => outs_halt _
        have h2 : ∀ z, Makes 1 (j2 z) := by
          intro zeros
          unfold j2
          clear j2
          clear_value j1
          extract_lets j3
          have h3 : Makes 1 (j3 1) := by
            unfold j3
            clear j3
            extract_lets ap need j6 j5 j4
            have hap : Makes 0 ap := by
              unfold ap
              exact mk_ite (mk_first _ _ _) (mk_ite (mk_pure _) (mk_b0 (mk_zero _) fun _ => mk_pure _))
            have h5 : ∀ u, Makes 1 (j5 u) := by
              intro u
              unfold j5
              exact mk_b0 (mk_choose _) fun c => mk_b0 (mk_typeInfo _) fun _ => mk_b0 (mk_room _) fun _ => mk_b0 (mk_first _ _ _) fun _ => mk_b0 hap fun _ => mk_b0 (mk_zero _) fun _ => mk_bind (k := 0) (mk_row _ _) fun _ => mk_pure _
            have h4 : ∀ u, Makes 1 (j4 u) := by
              intro u
              unfold j4
              clear j4
              clear_value j5
              refine mk_b0 (mk_typeInfo _) fun i2 => ?_
              refine mk_ite (mk_dead fun _ => ?_) (h5 _)
              split
              · exact outs_panic
              · refine Outs.bind (R := fun _ => True) fun r => ?_
                cases r
                · exact Outs.bind (R := fun _ => True) fun _ => h1 _ _
                · exact h1 _ _
            clear_value j4 j5 j6
            rw [if_neg (by show ¬ n + 1 ≤ n; omega)]
            refine mk_b0 (mk_typeInfo _) fun i => ?_
            exact mk_ite (mk_dead fun _ => outs_panic) (h4 _)
          clear_value j3
          exact mk_ite (mk_halt _) h3
        clear_value j2
        split
        · exact mk_b0 (mk_under _) fun d => mk_b0 (mk_pure _) fun z => h2 z
        · exact mk_b0 (mk_pure _) fun z => h2 z
    · exact mk_halt _
  · exact mk_halt _
theorem ob {P : Program} {Q : α → Prop} {s : Sem β} {f : β → Sem α} (h : ∀ b, Outs P Q (f b)) : Outs P Q (s >>= f) := Outs.bind (R := fun _ => True) h
theorem oi {P : Program} {Q : α → Prop} {c : Prop} [Decidable c] {s s' : Sem α} (h : Outs P Q s) (h' : Outs P Q s') : Outs P Q (if c then s else s') := by split <;> assumption
theorem ob0 {P : Program} {Q : α → Prop} {s : Sem β} {f : β → Sem α} (h : ∀ u : Unit, Outs P (fun _ => False) s) : Outs P Q (s >>= f) := by
  intro v es a v' e hr
  have hr' : (s.bind f).runT P v es = (.ok a v', e) := hr
  rw [Sem.runT_bind'] at hr'
  generalize hx : s.runT P v es = x at hr'
  obtain ⟨r, e1⟩ := x
  cases r with
  | ok b w1 => exact (h () _ _ _ _ _ hx).elim
  | halt g w1 => cases hr'
/-- .. it is a slice. -/
theorem outs_append (P : Program) (ts : Array TypeId) (t : TypeId) (b r : Option Addr) (n c : Nat) : Outs P (fun v => ∃ x m k, v = .slice x m k) (Builtin.append_ ts t #[.slice b n n, .slice r 1 c]) := by
  unfold Builtin.append_
  split
  · rename_i st s x h
    simp only [List.getElem?_toArray, List.getElem?_cons_zero, List.getElem?_cons_succ, Prod.mk.injEq, Option.some.injEq] at h
    obtain ⟨-, rfl, rfl⟩ := h
    refine ob fun d => ?_
    split
    · · refine ob fun size => ?_
        extract_lets j1 j2
        have h1 : ∀ u, Outs P (fun _ => False) (j1 u) := fun u => outs_halt _
        have h2 : ∀ z, Outs P (fun v => ∃ x m k, v = .slice x m k) (j2 z) := by
          intro zeros
          unfold j2
          clear j2
          clear_value j1
          extract_lets j3
          have h3 : Outs P (fun v => ∃ x m k, v = .slice x m k) (j3 1) := by
            unfold j3
            clear j3
            extract_lets ap need j6 j5 j4
            have h5 : ∀ u, Outs P (fun v => ∃ x m k, v = .slice x m k) (j5 u) := by
              intro u
              unfold j5
              exact ob fun c => ob fun _ => ob fun _ => ob fun _ => ob fun _ => ob fun _ => ob fun _ => outs_pure ⟨_, _, _, rfl⟩
            have h4 : ∀ u, Outs P (fun v => ∃ x m k, v = .slice x m k) (j4 u) := by
              intro u
              unfold j4
              clear j4
              clear_value j5
              refine ob fun i2 => ?_
              refine oi (ob0 fun _ => ?_) (h5 _)
              split
              · exact outs_panic
              · refine Outs.bind (R := fun _ => True) fun r => ?_
                cases r
                · exact Outs.bind (R := fun _ => True) fun _ => h1 _
                · exact h1 _
            clear_value j4 j5 j6
            rw [if_neg (by show ¬ n + 1 ≤ n; omega)]
            refine ob fun i => ?_
            exact oi (ob0 fun _ => outs_panic) (h4 _)
          clear_value j3
          exact oi (outs_halt _) h3
        clear_value j2
        split
        · exact ob fun d => ob fun z => h2 z
        · exact ob fun z => h2 z
    · exact outs_halt _
  · exact outs_halt _
end
end Go.Proofs.Tr

/-
  How many blocks some trees make, and what they answer.
-/
set_option linter.all false
namespace Go.Proofs.Tr
open Go Go.Conc

section
variable {α β : Type}
theorem mk_int (v : Value) : Makes 0 (asIntOf v) := by unfold asIntOf; split <;> first | exact mk_pure _ | exact mk_halt _
theorem mk_asInt (v : Value) : Makes 0 (asInt v) := by unfold asInt; exact mk_b0 (mk_int v) fun _ => mk_pure _
theorem mk_sure (v : Value) : Makes 0 (Instr.sureAddr v) := by unfold Instr.sureAddr; split <;> first | exact mk_pure _ | exact mk_halt _
theorem mk_isAgg (t : TypeId) : Makes 0 (isAgg t) := by unfold isAgg; refine mk_b0 (mk_under t) fun _ => ?_; split <;> exact mk_pure _
theorem mk_loadVar (t : TypeId) (a : Addr) : Makes 0 (loadVar t a) := by
  unfold loadVar
  refine mk_b0 (mk_isAgg t) fun b => ?_
  split
  · exact mk_b0 (mk_size t) fun _ => mk_b0 (mk_loadFrom _ _ _ _) fun _ => mk_pure _
  · exact mk_load _ _
theorem mk_loadAt (t : TypeId) (v : Value) : Makes 0 (Instr.loadAt t v) := by unfold Instr.loadAt; exact mk_b0 (mk_sure v) fun _ => mk_loadVar _ _
theorem mk_bounds {k : Nat} (kk : IntKind) (x y : Int) (c : BoundsCode) : Makes k (boundsPanic kk x y c : Sem α) := by
  refine mk_never fun P => ?_
  unfold boundsPanic
  repeat' first | exact outs_panic | refine Outs.bind (R := fun _ => True) fun _ => ?_ | split
theorem mk_indexAt (t : TypeId) (x i : Value) : Makes 0 (Instr.indexAt t x i) := by
  unfold Instr.indexAt
  refine mk_b0 (mk_int _) fun ki => ?_
  obtain ⟨k, i⟩ := ki
  dsimp only
  refine mk_b0 (mk_under t) fun d => ?_
  split
  · refine mk_b0 (mk_sure _) fun _ => mk_b0 (mk_pure _) fun u => mk_b0 (mk_under t) fun d => ?_
    split
    · exact mk_ite (mk_b0 (mk_size _) fun _ => mk_pure _) (mk_ite (mk_halt _) (mk_bounds _ _ _ _))
    · exact mk_bounds _ _ _ _
  · refine mk_b0 (mk_pure _) fun u => mk_b0 (mk_under t) fun d => ?_
    split
    · exact mk_ite (mk_b0 (mk_size _) fun _ => mk_pure _) (mk_ite (mk_halt _) (mk_bounds _ _ _ _))
    · exact mk_bounds _ _ _ _
  · exact mk_dead fun _ => outs_halt _
theorem mk_store (a : Addr) (x : Value) (m : Go.Mode) : Makes 0 (store a x m) := by
  intro P w es b w' es' hr
  have hr' : (Sem.store m a x (.pure ())).runT P w es = (.ok b w', es') := hr
  by_cases hx : (∃ c, x = .agg c) ∨ ∃ c, x = .tuple c
  · rcases hx with ⟨c, rfl⟩ | ⟨c, rfl⟩ <;> cases hr'
  · rw [runT_store (fun c e => hx (.inl ⟨c, e⟩)) (fun c e => hx (.inr ⟨c, e⟩))] at hr'
    cases hc : w.cell? a with
    | some y =>
      simp only [hc] at hr'
      split at hr'
      · cases hr'
      · cases hr'; simp
    | none =>
      simp only [hc] at hr'
      cases hf : w.farStore P a x (m == .atomic) with
      | error h => rw [hf] at hr'; cases hr'
      | ok q =>
        obtain ⟨w1, l⟩ := q
        rw [hf] at hr'
        have e : w1 = w' := by cases hr'; rfl
        subst e
        unfold World.farStore at hf
        cases hb : w.heap[a.block]? with
        | none => rw [hb] at hf; cases hf
        | some o =>
          rw [hb] at hf
          cases o <;> simp at hf
          split at hf
          · rename_i hv
            cases hf
            obtain ⟨c, e, fz, h⟩ := (viewStore_ok hv).1
            rw [h]
            simp
          · cases hf
theorem mk_storeCells (a : Addr) : ∀ (vs : List Value) (i : Nat), Makes 0 (storeCells a vs i)
  | [], _ => mk_pure _
  | v :: vs, i => by unfold storeCells; exact mk_b0 (mk_store _ _ _) fun _ => mk_storeCells a vs _
theorem mk_lenOf (x : Value) : Makes 0 (Builtin.lenOf x) := by unfold Builtin.lenOf; split <;> first | exact mk_pure _ | exact mk_halt _
theorem mk_copy (ts : Array TypeId) (t : TypeId) (xs : Array Value) : Makes 0 (Builtin.copy_ ts t xs) := by
  unfold Builtin.copy_
  repeat' first | exact mk_pure _ | exact mk_halt _ | exact mk_under _ | exact mk_size _ | exact mk_first _ _ _ | exact mk_storeCells _ _ _ | exact mk_lenOf _ | refine mk_b0 ?_ (fun _ => ?_) | split | dsimp only
theorem mk_makeSlice (t : TypeId) (x y : Value) : Makes 1 (Instr.makeSlice t x y) := by
  unfold Instr.makeSlice
  refine mk_b0 (mk_under t) fun d => ?_
  split
  · refine mk_b0 (mk_asInt _) fun l => mk_b0 (mk_asInt _) fun c => mk_b0 (mk_typeInfo _) fun i => ?_
    extract_lets bytes tl l' c' j1
    have h1 : ∀ u, Makes 1 (j1 u) := by
      intro u
      unfold j1
      clear j1
      refine mk_b0 (mk_room _) fun _ => mk_b0 (mk_size _) fun z => ?_
      extract_lets n j2
      have h2 : ∀ u, Makes 1 (j2 u) := by
        intro u
        unfold j2
        exact mk_bind (k := 0) (mk_row _ _) fun _ => mk_pure _
      clear_value j2
      exact mk_ite (mk_b0 (mk_pure _) fun _ => h2 _) (mk_b0 (mk_zero _) fun _ => mk_b0 (mk_pure _) fun _ => h2 _)
    clear_value j1
    refine mk_ite (mk_ite (mk_dead fun _ => outs_panic) (mk_ite (mk_dead fun _ => outs_panic) ?_)) (h1 _)
    exact mk_b0 (mk_choose _) fun _ => mk_dead fun _ => outs_panic
  · exact mk_halt _
end
end Go.Proofs.Tr
