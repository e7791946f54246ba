/-
  Words and contracts, joined: TrA, TrB, TrC, TrD, TrE, TrF, TrG, TrH, TrI.
-/
import Derived.Conc.Beside
import Derived.Laws.Sem
/-
  Two runs of one tree of questions, under two programs with the same tables, in two worlds that are alike but for blocks that nobody touches.
-/
set_option linter.all false
set_option maxRecDepth 100000
namespace Go.Proofs.Tr
open Go

/-- An object that only a channel's, a coroutine's or a waiting variable's own steps look into. -/
def odd : Obj → Bool
  | .chan .. | .coro _ | .pending .. => true
  | _ => false
/-- Two blocks that are alike: the same; two odd ones; an empty row for a row. Dead: the empty one; two odd ones lie behind a dead one (ab). -/
inductive Alike (dead ab : Prop) : Obj → Obj → Prop
  | same {o : Obj} : ¬ dead → Alike dead ab o o
  | odd {o o' : Obj} : ¬ dead ∧ ab → odd o = true → odd o' = true → Alike dead ab o o'
  | row {c : Array Value} {e : TypeId} : dead → Alike dead ab (.cells #[] e) (.cells c e)
/-- v: the lone world; w: the world in company. Sh: the blocks that are empty in v. -/
structure Sim (Sh : Nat → Prop) (v w : World) : Prop where
  size : v.heap.size = w.heap.size
  low : ∀ k, Sh k → k < v.heap.size
  blk : ∀ (k : Nat) (o o' : Obj), v.heap[k]? = some o → w.heap[k]? = some o' → Alike (Sh k) (∃ j, j ≤ k ∧ Sh j) o o'
  os : v.os = w.os
  output : v.output = w.output
  tape : v.tape = w.tape
  drawn : v.drawn = w.drawn

/-- What a step may list: no dead cell; nothing above the heap. -/
def EvOk (Sh : Nat → Prop) (n : Nat) (e : Event) : Prop :=
  (∃ a x s, e = ⟨.cell a, x, s⟩ ∧ ¬ Sh a.block ∧ a.block < n) ∨ (∃ r x s, e = ⟨.obj r, x, s⟩ ∧ r < n ∧ x = false) ∨ e = ⟨.mark .noRoom, false, true⟩
theorem EvOk.mono {Sh : Nat → Prop} {n m : Nat} {e : Event} (h : EvOk Sh n e) (hn : n ≤ m) : EvOk Sh m e := by
  rcases h with ⟨a, x, s, h1, h2, h3⟩ | ⟨r, x, s, h1, h2, h3⟩ | h
  · exact .inl ⟨a, x, s, h1, h2, Nat.lt_of_lt_of_le h3 hn⟩
  · exact .inr (.inl ⟨r, x, s, h1, Nat.lt_of_lt_of_le h2 hn, h3⟩)
  · exact .inr (.inr h)
/-- A halt that ends the run (no variable waits for its initialisation's turn: 'Late'). -/
def Gone : Halt → Prop
  | .stuck _ => True
  | .unsupported _ => True
  | _ => False

/-- It comes to nothing, whatever is asked. -/
inductive Lost {α : Type} : Sem α → Prop
  | halt {h : Halt} : Gone h → Lost (.halt h)
  | shape {r : Nat} {k : Option (TypeId × Nat) → Sem α} : (∀ s, Lost (k s)) → Lost (.shape r k)
  | frozen {a : Addr} {k : Bool → Sem α} : (∀ s, Lost (k s)) → Lost (.frozen a k)
  | room {k : Sem α} : Lost k → Lost (.mark .noRoom k)
theorem Lost.bind {α β : Type} {s : Sem α} (h : Lost s) (f : α → Sem β) : Lost (s.bind f) := by
  induction h with
  | halt h => exact .halt h
  | shape _ ih => exact .shape ih
  | frozen _ ih => exact .frozen ih
  | room _ ih => exact .room ih
theorem Lost.run {α : Type} {s : Sem α} (h : Lost s) (P : Program) : ∀ (v : World) (es : Array Event), ∃ g e, s.runT P v es = (.halt g v, e) ∧ Gone g := by
  induction h with
  | halt h => exact fun v es => ⟨_, _, rfl, h⟩
  | shape _ ih => exact fun v es => ih _ v es
  | frozen _ ih => exact fun v es => ih _ v es
  | room _ ih => exact fun v es => ih v _

/-- The trees that carry over. L: what is asked of the two results. -/
inductive Tame (P' P : Program) {α β : Type} (L : α → β → Prop) : Sem α → Sem β → Prop
  | pure {a : α} {b : β} : L a b → Tame P' P L (.pure a) (.pure b)
  | load {m : Go.Mode} {a : Addr} {k : Value → Sem α} {k' : Value → Sem β} : (∀ x, Tame P' P L (k x) (k' x)) → Tame P' P L (.load m a k) (.load m a k')
  | store {m : Go.Mode} {a : Addr} {x : Value} {k : Sem α} {k' : Sem β} : Tame P' P L k k' → Tame P' P L (.store m a x k) (.store m a x k')
  | new {o : Obj} {k : Nat → Sem α} {k' : Nat → Sem β} : (∀ c e, o ≠ .pending c e) → (∀ r, Tame P' P L (k r) (k' r)) → Tame P' P L (.new o k) (.new o k')
  | shape {r : Nat} {k : Option (TypeId × Nat) → Sem α} {k' : Option (TypeId × Nat) → Sem β} : (∀ s, Tame P' P L (k s) (k' s)) → (∀ e n, Tame P' P L (k (some (e, 0))) (k' (some (e, n)))) → Tame P' P L (.shape r k) (.shape r k')
  | frozen {a : Addr} {k : Bool → Sem α} {k' : Bool → Sem β} : (∀ b, Tame P' P L (k b) (k' b)) → Tame P' P L (.frozen a k) (.frozen a k')
  | getObj {r : Nat} {k : Obj → Sem α} {k' : Obj → Sem β} : (∀ o, Tame P' P L (k o) (k' o)) → (∀ o o', odd o = true → odd o' = true → Tame P' P L (k o) (k' o')) → Tame P' P L (.getObj r k) (.getObj r k')
  | choose {q : Question} {k : Nat → Sem α} {k' : Nat → Sem β} : (∀ n, Tame P' P L (k n) (k' n)) → Tame P' P L (.choose q k) (.choose q k')
  | program {k : Program → Sem α} {k' : Program → Sem β} : Tame P' P L (k P') (k' P) → Tame P' P L (.program k) (.program k')
  | room {k : Sem α} {k' : Sem β} : Tame P' P L k k' → Tame P' P L (.mark .noRoom k) (.mark .noRoom k')
  | panic {x : Value} : Tame P' P L (.halt (.panic x)) (.halt (.panic x))
  | gone {h : Halt} {s : Sem β} : Gone h → Tame P' P L (.halt h) s
  | lost {s : Sem α} {s' : Sem β} : Lost s → Tame P' P L s s'

theorem Tame.bind {P' P : Program} {α β γ δ : Type} {L : α → β → Prop} {M : γ → δ → Prop} {s : Sem α} {s' : Sem β} (h : Tame P' P L s s') {f : α → Sem γ} {f' : β → Sem δ} (hf : ∀ a b, L a b → Tame P' P M (f a) (f' b)) :
    Tame P' P M (s.bind f) (s'.bind f') := by
  induction h with
  | pure h => exact hf _ _ h
  | load _ ih => exact .load ih
  | store _ ih => exact .store ih
  | new h _ ih => exact .new h ih
  | shape _ _ ih ih2 => exact .shape ih ih2
  | frozen _ ih => exact .frozen ih
  | getObj _ _ ih ih2 => exact .getObj ih ih2
  | choose _ ih => exact .choose ih
  | program _ ih => exact .program ih
  | room _ ih => exact .room ih
  | panic => exact .panic
  | gone h => exact .gone h
  | lost h => exact .lost (h.bind _)
theorem Tame.mono {P' P : Program} {α β : Type} {L M : α → β → Prop} {s : Sem α} {s' : Sem β} (h : Tame P' P L s s') (hm : ∀ a b, L a b → M a b) : Tame P' P M s s' := by
  induction h with
  | pure h => exact .pure (hm _ _ h)
  | load _ ih => exact .load ih
  | store _ ih => exact .store ih
  | new h _ ih => exact .new h ih
  | shape _ _ ih ih2 => exact .shape ih ih2
  | frozen _ ih => exact .frozen ih
  | getObj _ _ ih ih2 => exact .getObj ih ih2
  | choose _ ih => exact .choose ih
  | program _ ih => exact .program ih
  | room _ ih => exact .room ih
  | panic => exact .panic
  | gone h => exact .gone h
  | lost h => exact .lost h
end Go.Proofs.Tr

/-
  A tree that carries over, run in two worlds that are alike: whatever comes of it in the one comes of it in the other.
-/
set_option linter.all false
namespace Go.Proofs.Tr
open Go

/-! ### Memory seen as another type: the functions of a program do not matter; an empty row shows nothing -/
section
variable {T : Tables} {F F' : Array Func}
theorem und_congr (t : TypeId) : Program.underlying ⟨T, F'⟩ t = Program.underlying ⟨T, F⟩ t := rfl
theorem cellsOf_congr (t : TypeId) : Program.cellsOf ⟨T, F'⟩ t = Program.cellsOf ⟨T, F⟩ t := rfl
theorem bytesOf_congr (t : TypeId) : Program.bytesOf ⟨T, F'⟩ t = Program.bytesOf ⟨T, F⟩ t := rfl
theorem depth_congr : Program.depth ⟨T, F'⟩ = Program.depth ⟨T, F⟩ := rfl
theorem byteOfCell_congr : ∀ (d : Nat) (t : TypeId) (o : Nat), byteOfCell ⟨T, F'⟩ d t o = byteOfCell ⟨T, F⟩ d t o
  | 0, _, _ => rfl
  | d + 1, t, o => by
    simp only [byteOfCell, und_congr (F := F) (F' := F'), cellsOf_congr (F := F) (F' := F'), bytesOf_congr (F := F) (F' := F'), byteOfCell_congr d]
theorem cellHolding_congr : ∀ (d : Nat) (t : TypeId) (o : Nat), cellHolding ⟨T, F'⟩ d t o = cellHolding ⟨T, F⟩ d t o
  | 0, _, _ => rfl
  | d + 1, t, o => by
    simp only [cellHolding, und_congr (F := F) (F' := F'), cellsOf_congr (F := F) (F' := F'), bytesOf_congr (F := F) (F' := F'), cellHolding_congr d]
theorem plainCell_congr : ∀ (d : Nat) (t : TypeId) (o : Nat), plainCell ⟨T, F'⟩ d t o = plainCell ⟨T, F⟩ d t o
  | 0, _, _ => rfl
  | d + 1, t, o => by
    simp only [plainCell, und_congr (F := F) (F' := F'), cellsOf_congr (F := F) (F' := F'), bytesOf_congr (F := F) (F' := F'), plainCell_congr d]
theorem tight_congr : ∀ (d : Nat) (t : TypeId), tight ⟨T, F'⟩ d t = tight ⟨T, F⟩ d t
  | 0, _ => rfl
  | d + 1, t => by
    simp only [tight, und_congr (F := F) (F' := F'), cellsOf_congr (F := F) (F' := F'), bytesOf_congr (F := F) (F' := F'), tight_congr d]
theorem seenCells_congr (c : Array Value) (e : TypeId) : ∀ (f x s : Nat), seenCells ⟨T, F'⟩ c e f x s = seenCells ⟨T, F⟩ c e f x s
  | 0, _, _ => rfl
  | f + 1, x, s => by
    simp only [seenCells, depth_congr (F := F) (F' := F'), cellHolding_congr (F := F) (F' := F'), cellsOf_congr (F := F) (F' := F'), bytesOf_congr (F := F) (F' := F'), seenCells_congr c e f]
theorem seen_congr {v w : World} {at_ : Addr} (h : v.heap[at_.block]? = w.heap[at_.block]?) (u : TypeId) (k : Addr) (x : Bool) : v.seen ⟨T, F'⟩ at_ u k x = w.seen ⟨T, F⟩ at_ u k x := by
  simp only [World.seen, h, depth_congr (F := F) (F' := F'), plainCell_congr (F := F) (F' := F'), byteOfCell_congr (F := F) (F' := F'), cellsOf_congr (F := F) (F' := F'), bytesOf_congr (F := F) (F' := F'), seenCells_congr (F := F) (F' := F')]
theorem viewLoad_congr {v w : World} {at_ : Addr} (h : v.heap[at_.block]? = w.heap[at_.block]?) (u : TypeId) (k : Addr) (x : Bool) : v.viewLoad ⟨T, F'⟩ at_ u k x = w.viewLoad ⟨T, F⟩ at_ u k x := by
  simp only [World.viewLoad, seen_congr (F := F) (F' := F') h]
end
theorem leBytes_len : ∀ s n, (leBytes s n).length = s
  | 0, _ => rfl
  | s + 1, n => by simp [leBytes, leBytes_len s]
theorem bytes_pos {v : Value} {bs : List UInt8} (h : v.bytes? = some bs) : 0 < bs.length := by
  cases v <;> simp [Value.bytes?] at h <;> subst h
  · simp
  · rename_i k n; rw [leBytes_len]; cases k <;> decide
  · rename_i k n; rw [leBytes_len]; cases k <;> decide
  · rename_i k n m; simp [leBytes_len]; cases k <;> decide
theorem seenCells_empty {P : Program} {e : TypeId} {f x s : Nat} (h : x < s) : ∃ m, seenCells P #[] e (f + 1) x s = .error m := by
  unfold seenCells
  rw [if_neg (by omega)]
  simp only
  split
  · exact ⟨_, rfl⟩
  · split
    · exact ⟨_, rfl⟩
    · simp
theorem seen_no {P : Program} {e : TypeId} {like : Value} {b A : Nat} {r : List (Nat × Nat × List UInt8)} (h1 : Option.map (fun x => x.length) like.bytes? = some b) (h2 : seenCells P #[] e (b + 1) A (A + b) = .ok r) : False := by
  obtain ⟨bs, hb, rfl⟩ := Option.map_eq_some_iff.1 h1
  have := bytes_pos hb
  obtain ⟨m, hm⟩ := seenCells_empty (P := P) (e := e) (f := bs.length) (x := A) (s := A + bs.length) (by omega)
  rw [hm] at h2
  cases h2
theorem seen_empty {P : Program} {w : World} {at_ : Addr} {e : TypeId} {fz : Nat × Nat} (h : w.heap[at_.block]? = some (.cells #[] e fz)) (u : TypeId) (k : Addr) (x : Bool) : ∃ m, w.seen P at_ u k x = .error m := by
  unfold World.seen
  simp only [h, bind, Except.bind, pure, Except.pure, throw, throwThe, MonadExceptOf.throw]
  repeat' split
  all_goals try exact ⟨_, rfl⟩
  all_goals (exfalso; exact seen_no (by assumption) (by assumption))

theorem seen_odd {P : Program} {w : World} {at_ : Addr} (h : ∀ c e fz, w.heap[at_.block]? ≠ some (.cells c e fz)) (u : TypeId) (k : Addr) (x : Bool) : ∃ m, w.seen P at_ u k x = .error m := by
  unfold World.seen
  simp only [bind, Except.bind, pure, Except.pure, throw, throwThe, MonadExceptOf.throw]
  repeat' split
  all_goals try exact ⟨_, rfl⟩
  all_goals (exfalso; exact h _ _ _ (by assumption))
theorem viewLoad_err {P : Program} {w : World} {at_ : Addr} {u : TypeId} {k : Addr} {x : Bool} (h : ∃ m, w.seen P at_ u k x = .error m) : ∃ m, w.viewLoad P at_ u k x = .error m := by
  obtain ⟨m, h⟩ := h
  exact ⟨m, by simp [World.viewLoad, h, bind, Except.bind]⟩
theorem viewLoad_block {P : Program} {w : World} {at_ : Addr} {u : TypeId} {k : Addr} {x : Bool} {y : Value} {l : List Addr} (h : w.viewLoad P at_ u k x = .ok (y, l)) : ∀ b ∈ l, b.block = at_.block := by
  cases hs : w.seen P at_ u k x with
  | error m => simp [World.viewLoad, hs, bind, Except.bind] at h
  | ok t =>
    simp only [World.viewLoad, hs, bind, Except.bind, pure, Except.pure] at h
    split at h
    · simp at h
      obtain ⟨-, rfl⟩ := h
      intro b hb
      simp at hb
      obtain ⟨_, _, _, _, rfl⟩ := hb
      rfl
    · cases h
theorem viewStore_err0 {P : Program} {w : World} {at_ : Addr} {u : TypeId} {k : Addr} {y : Value} {x : Bool} (h : ∃ m, w.seen P at_ u k x = .error m) : ∃ m, w.viewStore P at_ u k y x = .error m := by
  obtain ⟨m, h⟩ := h
  unfold World.viewStore
  simp only [h, bind, Except.bind, pure, Except.pure]
  repeat' split
  all_goals exact ⟨_, rfl⟩
theorem viewStore_err {P : Program} {w : World} {at_ : Addr} {u : TypeId} {k : Addr} {y : Value} {x : Bool} (h : ∃ m, w.seen P at_ u k x = .error m) : ∃ m, w.viewStore P at_ u k y x = .error m := viewStore_err0 h
/-- What a store through a view does. -/
theorem viewStore_ok {P : Program} {w w1 : World} {at_ : Addr} {u : TypeId} {k : Addr} {y : Value} {x : Bool} {l : List Addr} (h : w.viewStore P at_ u k y x = .ok (w1, l)) :
    (∃ c e fz, w1 = { w with heap := w.heap.setIfInBounds at_.block (.cells c e fz) }) ∧ ∀ b ∈ l, b.block = at_.block := by
  cases hs : w.seen P at_ u k x with
  | error m => obtain ⟨m', hm⟩ := viewStore_err0 (P := P) (w := w) (at_ := at_) (u := u) (k := k) (y := y) (x := x) ⟨m, hs⟩; rw [hm] at h; cases h
  | ok t =>
    simp only [World.viewStore, hs, bind, Except.bind, pure, Except.pure] at h
    repeat' split at h
    all_goals first
      | (cases h; done)
      | (simp only [Except.ok.injEq, Prod.mk.injEq] at h
         obtain ⟨rfl, rfl⟩ := h
         refine ⟨⟨_, _, _, rfl⟩, fun b hb => ?_⟩
         simp at hb
         obtain ⟨_, _, _, _, rfl⟩ := hb
         rfl)
theorem viewStore_two {T : Tables} {F F' : Array Func} {v w v1 : World} {at_ : Addr} (hb : v.heap[at_.block]? = w.heap[at_.block]?) {u : TypeId} {k : Addr} {y : Value} {x : Bool} {l : List Addr} (h : v.viewStore ⟨T, F'⟩ at_ u k y x = .ok (v1, l)) :
    ∃ c e fz, v1 = { v with heap := v.heap.setIfInBounds at_.block (.cells c e fz) } ∧ w.viewStore ⟨T, F⟩ at_ u k y x = .ok ({ w with heap := w.heap.setIfInBounds at_.block (.cells c e fz) }, l) := by
  cases hs : v.seen ⟨T, F'⟩ at_ u k x with
  | error m => obtain ⟨m', hm⟩ := viewStore_err (P := ⟨T, F'⟩) (w := v) (at_ := at_) (u := u) (k := k) (y := y) (x := x) ⟨m, hs⟩; rw [hm] at h; cases h
  | ok t =>
    have hs' : w.seen ⟨T, F⟩ at_ u k x = .ok t := by rw [← hs]; exact (seen_congr hb u k x).symm
    simp only [World.viewStore, hs, bind, Except.bind, pure, Except.pure] at h
    simp only [World.viewStore, hs', bind, Except.bind, pure, Except.pure]
    rw [tight_congr (F := F) (F' := F'), depth_congr (F := F) (F' := F')] at h
    repeat' split at h
    all_goals first
      | (cases h; done)
      | (simp only [Except.ok.injEq, Prod.mk.injEq] at h
         obtain ⟨rfl, rfl⟩ := h
         refine ⟨_, _, _, rfl, ?_⟩
         simp_all)

/-! ### What two alike worlds have in common -/
section
variable {Sh : Nat → Prop} {v w : World}
theorem Sim.there (h : Sim Sh v w) {k : Nat} {o : Obj} (hk : v.heap[k]? = some o) : ∃ o', w.heap[k]? = some o' ∧ Alike (Sh k) (∃ j, j ≤ k ∧ Sh j) o o' := by
  have hl := (Array.getElem?_eq_some_iff.1 hk).1
  have : w.heap[k]? = some (w.heap[k]'(by rw [← h.size]; exact hl)) := Array.getElem?_eq_getElem _
  exact ⟨_, this, h.blk k _ _ hk this⟩
theorem Sim.gone (h : Sim Sh v w) {k : Nat} (hk : v.heap[k]? = none) : w.heap[k]? = none := by
  rw [Array.getElem?_eq_none_iff] at hk ⊢
  rw [← h.size]; exact hk
theorem Sim.cell (h : Sim Sh v w) {a : Addr} {x : Value} (hc : v.cell? a = some x) : w.heap[a.block]? = v.heap[a.block]? ∧ ¬ Sh a.block ∧ a.block < w.heap.size := by
  unfold World.cell? at hc
  split at hc
  · rename_i c e fz hb
    obtain ⟨o', ho', ha⟩ := h.there hb
    have hl := (Array.getElem?_eq_some_iff.1 ho').1
    cases ha with
    | same h1 => exact ⟨by rw [ho', hb], h1, hl⟩
    | odd h1 h2 => cases h2
    | row h1 => split at hc <;> simp at hc
  · cases hc
theorem Sim.frozen (h : Sim Sh v w) (a : Addr) : v.frozen? a = w.frozen? a := by
  unfold World.frozen?
  cases hb : v.heap[a.block]? with
  | none => rw [h.gone hb]
  | some o =>
    obtain ⟨o', ho', ha⟩ := h.there hb
    rw [ho']
    cases ha with
    | same h1 => rfl
    | odd h1 h2 h3 => cases o <;> simp [Tr.odd] at h2 <;> cases o' <;> simp [Tr.odd] at h3 <;> rfl
    | row h1 => simp
theorem alike_map {d ab : Prop} {o o' : Obj} {f : Obj → Obj} (h : Alike d ab o o') (hnd : ¬ d) (hf : ∀ o, odd o = true → f o = o) : Alike d ab (f o) (f o') := by
  cases h with
  | same h1 => exact .same h1
  | odd h1 h2 h3 => rw [hf _ h2, hf _ h3]; exact .odd h1 h2 h3
  | row h1 => exact absurd h1 hnd
def putAt (a : Addr) (x : Value) : Obj → Obj
  | .cells c elem frozen => .cells (if a.spot.isSome then c else c.setIfInBounds a.off x) elem frozen
  | o => o
theorem setCell_put (w : World) (a : Addr) (x : Value) : w.setCell a x = { w with heap := w.heap.modify a.block (putAt a x) } := rfl
theorem Sim.setCell (h : Sim Sh v w) {a : Addr} (hn : ¬ Sh a.block) (x : Value) : Sim Sh (v.setCell a x) (w.setCell a x) := by
  refine ⟨by simp [h.size], fun k hk => by simpa using h.low k hk, fun k o o' h1 h2 => ?_, h.os, h.output, h.tape, h.drawn⟩
  simp only [setCell_put, Array.getElem?_modify] at h1 h2
  by_cases e : a.block = k
  · subst e
    rw [if_pos rfl] at h1 h2
    obtain ⟨p, hp, rfl⟩ := Option.map_eq_some_iff.1 h1
    obtain ⟨p', hp', rfl⟩ := Option.map_eq_some_iff.1 h2
    refine alike_map (h.blk _ _ _ hp hp') hn (fun o ho => ?_)
    cases o <;> simp [Tr.odd] at ho <;> rfl
  · rw [if_neg e] at h1 h2
    exact h.blk k o o' h1 h2
theorem Sim.setObj (h : Sim Sh v w) {k : Nat} (hn : ¬ Sh k) {c : Array Value} {e : TypeId} {fz : Nat × Nat} : Sim Sh { v with heap := v.heap.setIfInBounds k (.cells c e fz) } { w with heap := w.heap.setIfInBounds k (.cells c e fz) } := by
  refine ⟨by simp [h.size], fun i hi => by simpa using h.low i hi, fun i o o' h1 h2 => ?_, h.os, h.output, h.tape, h.drawn⟩
  simp only [Array.getElem?_setIfInBounds] at h1 h2
  by_cases e' : k = i
  · subst e'
    rw [if_pos rfl] at h1 h2
    split at h1 <;> split at h2 <;> simp at h1 h2
    subst h1 h2
    exact .same hn
  · rw [if_neg e'] at h1 h2
    exact h.blk i o o' h1 h2
theorem Sim.push (h : Sim Sh v w) {o : Obj} (ho : ∀ c e, o ≠ .pending c e) : Sim Sh { v with heap := v.heap.push o } { w with heap := w.heap.push o } := by
  have hs : ¬ Sh v.heap.size := fun hh => Nat.lt_irrefl _ (h.low _ hh)
  refine ⟨by simp [h.size], fun i hi => by have := h.low i hi; simp; omega, fun i p p' h1 h2 => ?_, h.os, h.output, h.tape, h.drawn⟩
  simp only [Array.getElem?_push] at h1 h2
  rw [h.size] at h1
  by_cases e : i = w.heap.size
  · subst e
    simp at h1 h2
    subst h1 h2
    rw [h.size] at hs
    exact .same hs
  · rw [if_neg e] at h1 h2
    exact h.blk i p p' h1 h2
end
end Go.Proofs.Tr

/-
  A tree that carries over, run in two worlds that are alike: the law; and the same run on another tape that gives the same answers.
-/
set_option linter.all false
namespace Go.Proofs.Tr
open Go

def Adds (Sh : Nat → Prop) (es es1 : Array Event) (n : Nat) : Prop := ∃ new : Array Event, es1 = es ++ new ∧ ∀ e ∈ new, EvOk Sh n e
theorem Adds.refl (Sh : Nat → Prop) (es : Array Event) (n : Nat) : Adds Sh es es n := ⟨#[], by simp, by simp⟩
theorem Adds.one {Sh : Nat → Prop} {es : Array Event} {n : Nat} {e : Event} (h : EvOk Sh n e) : Adds Sh es (es.push e) n := ⟨#[e], by simp, by simpa using h⟩
theorem Adds.trans {Sh : Nat → Prop} {es es1 es2 : Array Event} {n m : Nat} (h : Adds Sh es es1 n) (h' : Adds Sh es1 es2 m) (hn : n ≤ m) : Adds Sh es es2 m := by
  obtain ⟨a, rfl, ha⟩ := h
  obtain ⟨b, rfl, hb⟩ := h'
  exact ⟨a ++ b, by simp [Array.append_assoc], fun e he => (Array.mem_append.1 he).elim (fun h => (ha e h).mono hn) (hb e)⟩

/-- The dead blocks and the odd ones stand. -/
def Keep (Sh : Nat → Prop) (w w1 : World) : Prop := ∀ k o, w.heap[k]? = some o → (Sh k ∨ odd o = true) → w1.heap[k]? = some o
theorem Keep.refl (Sh : Nat → Prop) (w : World) : Keep Sh w w := fun _ _ h _ => h
theorem Keep.trans {Sh : Nat → Prop} {w w1 w2 : World} (h : Keep Sh w w1) (h' : Keep Sh w1 w2) : Keep Sh w w2 := fun k o a b => h' k o (h k o a b) b
theorem Keep.push (Sh : Nat → Prop) (w : World) (o : Obj) : Keep Sh w { w with heap := w.heap.push o } := fun k o' h _ => by
  show (w.heap.push o)[k]? = _
  have := (Array.getElem?_eq_some_iff.1 h).1
  rw [Array.getElem?_push, if_neg (by omega)]
  exact h
theorem Keep.setCell {Sh : Nat → Prop} {w : World} {a : Addr} (hn : ¬ Sh a.block) (x : Value) : Keep Sh w (w.setCell a x) := fun k o h ho => by
  rw [setCell_put]
  show (w.heap.modify a.block (putAt a x))[k]? = _
  rw [Array.getElem?_modify]
  split
  · rename_i hk
    subst hk
    rcases ho with ho | ho
    · exact absurd ho hn
    · rw [h]
      cases o <;> simp [odd] at ho <;> rfl
  · exact h
theorem Keep.setObj {Sh : Nat → Prop} {w : World} {b : Nat} {o' : Obj} (hn : ¬ Sh b) (hd : ∀ o, w.heap[b]? = some o → odd o = false) : Keep Sh w { w with heap := w.heap.setIfInBounds b o' } := fun k o h ho => by
  show (w.heap.setIfInBounds b o')[k]? = _
  rw [Array.getElem?_setIfInBounds]
  split
  · rename_i hk
    subst hk
    rcases ho with ho | ho
    · exact absurd ho hn
    · rw [hd _ h] at ho; cases ho
  · exact h
inductive Carries {α β : Type} (L : α → β → Prop) (Sh : Nat → Prop) (w : World) (es : Array Event) : Result α × Array Event → Result β × Array Event → Prop
  | ok {a : α} {b : β} {v1 w1 : World} {e1 e2 : Array Event} : L a b → Sim Sh v1 w1 → w.heap.size ≤ w1.heap.size → Adds Sh es e2 w1.heap.size → Keep Sh w w1 → Carries L Sh w es (.ok a v1, e1) (.ok b w1, e2)
  | panic {x : Value} {v1 w1 : World} {e1 e2 : Array Event} : Sim Sh v1 w1 → w.heap.size ≤ w1.heap.size → Adds Sh es e2 w1.heap.size → Carries L Sh w es (.halt (.panic x) v1, e1) (.halt (.panic x) w1, e2)
  | gone {h : Halt} {v1 : World} {e1 : Array Event} {r : Result β × Array Event} : Gone h → Carries L Sh w es (.halt h v1, e1) r
theorem Carries.from {α β : Type} {L : α → β → Prop} {Sh : Nat → Prop} {w w1 : World} {es es1 : Array Event} {r : Result α × Array Event} {r' : Result β × Array Event} (h : Carries L Sh w1 es1 r r') (hs : w.heap.size ≤ w1.heap.size) (ha : Adds Sh es es1 w1.heap.size) (hk : Keep Sh w w1 := by exact Keep.refl _ _) : Carries L Sh w es r r' := by
  cases h with
  | ok h1 h2 h3 h4 h5 => exact .ok h1 h2 (Nat.le_trans hs h3) (ha.trans h4 h3) (hk.trans h5)
  | panic h2 h3 h4 => exact .panic h2 (Nat.le_trans hs h3) (ha.trans h4 h3)
  | gone h => exact .gone h

section
variable {T : Tables} {F F' : Array Func} {Sh : Nat → Prop}

theorem noCell_gone {v w : World} (h : Sim Sh v w) (a : Addr) (m : String) : Gone (v.noCell a m) := by
  unfold World.noCell
  split <;> trivial

theorem runT_store {α : Type} {P : Program} {m : Go.Mode} {a : Addr} {x : Value} {k : Sem α} {w : World} {es : Array Event} (h1 : ∀ c, x ≠ .agg c) (h2 : ∀ c, x ≠ .tuple c) :
    (Sem.store m a x k).runT P w es = match w.cell? a with
    | some _ =>
      if w.frozen? a then (.halt (.unsupported (.unsafePointer "a write to bytes that a string shares")) w, es)
      else k.runT P (w.setCell a x) (es.push ⟨.cell a, true, m == .atomic⟩)
    | none => match w.farStore P a x (m == .atomic) with
      | .ok (w, touched) => k.runT P w (es ++ touched.toArray.map (⟨.cell ·, true, m == .atomic⟩))
      | .error h => (.halt h w, es) := by
  cases x <;> first | rfl | exact absurd rfl (h1 _) | exact absurd rfl (h2 _)
theorem Tame.run {α β : Type} {L : α → β → Prop} {s : Sem α} {s' : Sem β} (h : Tame ⟨T, F'⟩ ⟨T, F⟩ L s s') : ∀ (v w : World) (es es' : Array Event), Sim Sh v w → Carries L Sh w es' (s.runT ⟨T, F'⟩ v es) (s'.runT ⟨T, F⟩ w es') := by
  induction h with
  | pure h => exact fun v w es es' hs => .ok h hs (Nat.le_refl _) (Adds.refl ..) (Keep.refl _ _)
  | @load m a k k' _ ih =>
    intro v w es es' hs
    unfold Sem.runT
    cases hc : v.cell? a with
    | some x =>
      obtain ⟨e1, e2, e3⟩ := hs.cell hc
      have hw : w.cell? a = some x := by rw [← hc]; exact World.cell?_of_block e1
      simp only [hw]
      exact (ih x v w _ _ hs).from (Nat.le_refl _) (.one (.inl ⟨a, _, _, rfl, e2, e3⟩))
    | none =>
      simp only
      unfold World.farLoad
      cases hb : v.heap[a.block]? with
      | none => exact .gone (noCell_gone hs a _)
      | some o =>
        by_cases hv : ∃ at_ u, o = .view at_ u
        · obtain ⟨at_, u, rfl⟩ := hv
          obtain ⟨o', ho', ha⟩ := hs.there hb
          obtain rfl : o' = .view at_ u := by
            cases ha with
            | same => rfl
            | odd _ h2 => cases h2
          have hwc : w.cell? a = none := by unfold World.cell?; rw [ho']
          simp only [hwc, ho']
          cases hl : v.viewLoad ⟨T, F'⟩ at_ u a (m == .atomic) with
          | error why => exact .gone trivial
          | ok r =>
            obtain ⟨x, touched⟩ := r
            have key : w.heap[at_.block]? = v.heap[at_.block]? ∧ ¬ Sh at_.block ∧ at_.block < w.heap.size := by
              cases ht : v.heap[at_.block]? with
              | none => exact absurd hl (by obtain ⟨m', hm'⟩ := viewLoad_err (seen_odd (P := ⟨T, F'⟩) (w := v) (at_ := at_) (by rw [ht]; simp) u a (m == .atomic)); rw [hm']; simp)
              | some q =>
                obtain ⟨q', hq', hA⟩ := hs.there ht
                cases hA with
                | same h1 => exact ⟨hq', h1, (Array.getElem?_eq_some_iff.1 hq').1⟩
                | odd h1 h2 => exact absurd hl (by obtain ⟨m', hm'⟩ := viewLoad_err (seen_odd (P := ⟨T, F'⟩) (w := v) (at_ := at_) (by rw [ht]; intro c e fz e2; cases e2; cases h2) u a (m == .atomic)); rw [hm']; simp)
                | row h1 => exact absurd hl (by obtain ⟨m', hm'⟩ := viewLoad_err (seen_empty (P := ⟨T, F'⟩) ht u a (m == .atomic)); rw [hm']; simp)
            have hwl : w.viewLoad ⟨T, F⟩ at_ u a (m == .atomic) = .ok (x, touched) := by rw [← hl]; exact (viewLoad_congr key.1.symm u a _).symm
            simp only [hwl]
            refine (ih x v w _ _ hs).from (Nat.le_refl _) ⟨_, rfl, fun e he => ?_⟩
            obtain ⟨b, hb', rfl⟩ := Array.mem_map.1 he
            have hbb : b.block = at_.block := viewLoad_block hwl b (by simpa using hb')
            exact .inl ⟨b, _, _, rfl, by rw [hbb]; exact key.2.1, by rw [hbb]; exact key.2.2⟩
        · have : ∀ at_ u, o ≠ .view at_ u := fun at_ u e => hv ⟨at_, u, e⟩
          have hg := noCell_gone hs a "load: no such cell"
          cases o <;> first | exact .gone hg | exact absurd rfl (this _ _)
  | @store m a x k k' _ ih =>
    intro v w es es' hs
    by_cases hx : (∃ c, x = .agg c) ∨ ∃ c, x = .tuple c
    · rcases hx with ⟨c, rfl⟩ | ⟨c, rfl⟩ <;> exact .gone trivial
    · rw [runT_store (fun c e => hx (.inl ⟨c, e⟩)) (fun c e => hx (.inr ⟨c, e⟩)), runT_store (fun c e => hx (.inl ⟨c, e⟩)) (fun c e => hx (.inr ⟨c, e⟩))]
      cases hc : v.cell? a with
      | some y =>
        obtain ⟨e1, e2, e3⟩ := hs.cell hc
        have hw : w.cell? a = some y := by rw [← hc]; exact World.cell?_of_block e1
        simp only [hw, ← hs.frozen a]
        split
        · exact .gone trivial
        · exact (ih (v.setCell a x) (w.setCell a x) _ _ (hs.setCell e2 x)).from (by simp) (.one (.inl ⟨a, _, _, rfl, e2, by simpa using e3⟩)) (Keep.setCell e2 x)
      | none =>
        simp only
        unfold World.farStore
        cases hb : v.heap[a.block]? with
        | none => exact .gone (noCell_gone hs a _)
        | some o =>
          by_cases hv : ∃ at_ u, o = .view at_ u
          · obtain ⟨at_, u, rfl⟩ := hv
            obtain ⟨o', ho', ha⟩ := hs.there hb
            obtain rfl : o' = .view at_ u := by
              cases ha with
              | same => rfl
              | odd _ h2 => cases h2
            have hwc : w.cell? a = none := by unfold World.cell?; rw [ho']
            simp only [hwc, ho']
            cases hl : v.viewStore ⟨T, F'⟩ at_ u a x (m == .atomic) with
            | error why => exact .gone trivial
            | ok r =>
              obtain ⟨v1, touched⟩ := r
              have key : w.heap[at_.block]? = v.heap[at_.block]? ∧ ¬ Sh at_.block ∧ at_.block < w.heap.size := by
                cases ht : v.heap[at_.block]? with
                | none => exact absurd hl (by obtain ⟨m', hm'⟩ := viewStore_err (P := ⟨T, F'⟩) (y := x) (seen_odd (P := ⟨T, F'⟩) (w := v) (at_ := at_) (by rw [ht]; simp) u a (m == .atomic)); rw [hm']; simp)
                | some q =>
                  obtain ⟨q', hq', hA⟩ := hs.there ht
                  cases hA with
                  | same h1 => exact ⟨hq', h1, (Array.getElem?_eq_some_iff.1 hq').1⟩
                  | odd h1 h2 => exact absurd hl (by obtain ⟨m', hm'⟩ := viewStore_err (P := ⟨T, F'⟩) (y := x) (seen_odd (P := ⟨T, F'⟩) (w := v) (at_ := at_) (by rw [ht]; intro c e fz e2; cases e2; cases h2) u a (m == .atomic)); rw [hm']; simp)
                  | row h1 => exact absurd hl (by obtain ⟨m', hm'⟩ := viewStore_err (P := ⟨T, F'⟩) (y := x) (seen_empty (P := ⟨T, F'⟩) ht u a (m == .atomic)); rw [hm']; simp)
              obtain ⟨c, e, fz, rfl, hwl⟩ := viewStore_two (F := F) key.1.symm hl
              simp only [hwl]
              have hnodd : ∀ o, w.heap[at_.block]? = some o → odd o = false := fun o ho => by
                cases hoo : odd o with
                | false => rfl
                | true => exact absurd hwl (by obtain ⟨m', hm'⟩ := viewStore_err (P := ⟨T, F⟩) (y := x) (seen_odd (P := ⟨T, F⟩) (w := w) (at_ := at_) (by rw [ho]; intro c e fz e2; cases e2; cases hoo) u a (m == .atomic)); rw [hm']; simp)
              refine (ih _ _ _ _ (hs.setObj key.2.1)).from (by simp) ⟨_, rfl, fun e he => ?_⟩ (Keep.setObj key.2.1 hnodd)
              obtain ⟨b, hb', rfl⟩ := Array.mem_map.1 he
              have hbb : b.block = at_.block := (viewStore_ok hwl).2 b (by simpa using hb')
              exact .inl ⟨b, _, _, rfl, by rw [hbb]; exact key.2.1, by rw [hbb]; simpa using key.2.2⟩
          · have : ∀ at_ u, o ≠ .view at_ u := fun at_ u e => hv ⟨at_, u, e⟩
            have hg := noCell_gone hs a "store: no such cell"
            cases o <;> first | exact .gone hg | exact absurd rfl (this _ _)
  | @new o k k' ho _ ih =>
    intro v w es es' hs
    unfold Sem.runT
    rw [hs.size]
    exact (ih _ _ _ _ _ (hs.push ho)).from (by simp) (Adds.refl ..) (Keep.push _ _ _)
  | @shape r k k' _ _ ih ih2 =>
    intro v w es es' hs
    unfold Sem.runT
    unfold World.shape?
    cases hb : v.heap[r]? with
    | none => rw [hs.gone hb]; exact ih _ _ _ _ _ hs
    | some o =>
      obtain ⟨o', ho', ha⟩ := hs.there hb
      rw [ho']
      cases ha with
      | same => exact ih _ _ _ _ _ hs
      | odd h1 h2 h3 => cases o <;> simp [Tr.odd] at h2 <;> cases o' <;> simp [Tr.odd] at h3 <;> exact ih _ _ _ _ _ hs
      | row => exact ih2 _ _ _ _ _ _ hs
  | @frozen a k k' _ ih =>
    intro v w es es' hs
    unfold Sem.runT
    rw [hs.frozen a]
    exact ih _ _ _ _ _ hs
  | @getObj r k k' _ _ ih ih2 =>
    intro v w es es' hs
    unfold Sem.runT
    cases hb : v.heap[r]? with
    | none => exact .gone trivial
    | some o =>
      obtain ⟨o', ho', ha⟩ := hs.there hb
      have hr : r < w.heap.size := (Array.getElem?_eq_some_iff.1 ho').1
      rw [ho']
      cases ha with
      | same => 
        cases o <;> first | exact .gone trivial | exact (ih _ _ _ _ _ hs).from (Nat.le_refl _) (.one (.inr (.inl ⟨_, _, _, rfl, hr, rfl⟩)))
      | odd h1 h2 h3 =>
        cases o <;> simp [Tr.odd] at h2 <;> cases o' <;> simp [Tr.odd] at h3 <;> exact (ih2 _ _ rfl rfl _ _ _ _ hs).from (Nat.le_refl _) (.one (.inr (.inl ⟨_, _, _, rfl, hr, rfl⟩)))
      | row => exact .gone trivial
  | @choose q k k' _ ih =>
    intro v w es es' hs
    unfold Sem.runT
    split
    · exact ih _ _ _ _ _ hs
    · have e : q.cut (v.tape v.drawn q) = q.cut (w.tape w.drawn q) := by rw [hs.tape, hs.drawn]
      rw [e]
      exact (ih _ { v with drawn := v.drawn + 1 } { w with drawn := w.drawn + 1 } _ _ ⟨hs.size, hs.low, hs.blk, hs.os, hs.output, hs.tape, by show v.drawn + 1 = w.drawn + 1; rw [hs.drawn]⟩).from (Nat.le_refl _) (Adds.refl ..) (fun _ _ h _ => h)
  | program _ ih => exact fun v w es es' hs => ih v w es es' hs
  | room _ ih => exact fun v w es es' hs => (ih v w _ _ hs).from (Nat.le_refl _) (.one (.inr (.inr rfl)))
  | panic => exact fun v w es es' hs => .panic hs (Nat.le_refl _) (Adds.refl ..)
  | gone h => exact fun v w es es' hs => .gone h
  | lost h =>
    intro v w es es' hs
    obtain ⟨g, e, hr, hg⟩ := h.run ⟨T, F'⟩ v es
    rw [hr]
    exact .gone hg
end
end Go.Proofs.Tr

/-
  A tree that carries over, run on another tape that gives the same answers.
-/
set_option linter.all false
namespace Go.Proofs.Tr
open Go

/-- The world with another tape, read from another place on. -/
def tp (w : World) (σ : Nat → Question → Nat) (d : Nat) : World := { w with tape := σ, drawn := d }
def resW {α : Type} : Result α → World
  | .ok _ w => w
  | .halt _ w => w
def resTp {α : Type} (r : Result α) (σ : Nat → Question → Nat) (d : Nat) : Result α :=
  match r with
  | .ok a w => .ok a (tp w σ d)
  | .halt h w => .halt h (tp w σ d)
/-- c answers are taken; on whatever tape that gives the same, the same comes. -/
def Taped {α : Type} (run : World → Result α × Array Event) (v : World) : Prop :=
  ∃ c, (resW (run v).1).drawn = v.drawn + c ∧ (resW (run v).1).tape = v.tape ∧
    ∀ (σ : Nat → Question → Nat) (d : Nat), (∀ k, k < c → ∀ q, σ (d + k) q = v.tape (v.drawn + k) q) → run (tp v σ d) = (resTp (run v).1 σ (d + c), (run v).2)
theorem Taped.still {α : Type} {run : World → Result α × Array Event} {v : World} (r : Result α) (es : Array Event) (h : run v = (r, es)) (hd : (resW r).drawn = v.drawn) (ht : (resW r).tape = v.tape) (hr : ∀ σ d, run (tp v σ d) = (resTp r σ d, es)) : Taped run v :=
  ⟨0, by rw [h]; exact hd, by rw [h]; exact ht, fun σ d _ => by rw [h]; exact hr σ d⟩
/-- A step that asks nothing, and then the rest. -/
theorem Taped.pass {α : Type} {run run' : World → Result α × Array Event} {v v1 : World} (h : run v = run' v1) (hd : v1.drawn = v.drawn) (ht : v1.tape = v.tape) (hr : ∀ σ d, run (tp v σ d) = run' (tp v1 σ d)) (h' : Taped run' v1) : Taped run v := by
  obtain ⟨c, h1, h2, h3⟩ := h'
  refine ⟨c, by rw [h, h1, hd], by rw [h, h2, ht], fun σ d hs => ?_⟩
  rw [hr, h, h3 σ d (fun k hk q => by rw [hs k hk q, hd, ht])]

section
variable {P' P : Program}
theorem seen_tp (w : World) (σ : Nat → Question → Nat) (d : Nat) (P : Program) (at_ : Addr) (u : TypeId) (k : Addr) (x : Bool) : (tp w σ d).seen P at_ u k x = w.seen P at_ u k x := rfl
theorem farLoad_tp (w : World) (σ : Nat → Question → Nat) (d : Nat) (P : Program) (a : Addr) (x : Bool) : (tp w σ d).farLoad P a x = w.farLoad P a x := rfl
def exMap (σ : Nat → Question → Nat) (d : Nat) : Except String (World × List Addr) → Except String (World × List Addr)
  | .ok (w, l) => .ok (tp w σ d, l)
  | .error m => .error m
theorem viewStore_tp (w : World) (σ : Nat → Question → Nat) (d : Nat) (P : Program) (at_ : Addr) (u : TypeId) (k : Addr) (y : Value) (x : Bool) :
    (tp w σ d).viewStore P at_ u k y x = exMap σ d (w.viewStore P at_ u k y x) := by
  unfold World.viewStore
  simp only [seen_tp]
  cases tight P P.depth u with
  | false => rfl
  | true =>
    simp only [Bool.not_true, Bool.false_eq_true, if_false, bind, Except.bind, pure, Except.pure]
    generalize w.seen P at_ u k x = S
    cases S with
    | error m => rfl
    | ok t =>
      obtain ⟨c, e, fz, first, like, cells⟩ := t
      simp only
      cases y.bytes? with
      | none => rfl
      | some bytes =>
        simp only
        split
        · rfl
        · generalize List.foldlM (m := Except String) _ c cells = R
          cases R <;> rfl
theorem farStore_tp (w : World) (σ : Nat → Question → Nat) (d : Nat) (P : Program) (a : Addr) (y : Value) (x : Bool) :
    (tp w σ d).farStore P a y x = match w.farStore P a y x with | .ok (w1, l) => .ok (tp w1 σ d, l) | .error h => .error h := by
  unfold World.farStore
  have e : (tp w σ d).heap = w.heap := rfl
  rw [e]
  cases hb : w.heap[a.block]? with
  | none => simp only [World.noCell, e]
  | some o =>
    cases o <;> try (simp only [World.noCell, e]; done)
    rename_i at_ u
    simp only [viewStore_tp]
    cases w.viewStore P at_ u a y x with
    | error m => rfl
    | ok r => rfl
theorem farStore_same {w w1 : World} {P : Program} {a : Addr} {y : Value} {x : Bool} {l : List Addr} (h : w.farStore P a y x = .ok (w1, l)) : w1.drawn = w.drawn ∧ w1.tape = w.tape := by
  unfold World.farStore at h
  cases hb : w.heap[a.block]? with
  | none => rw [hb] at h; cases h
  | some o =>
    rw [hb] at h
    cases o <;> first | (cases h; done) | skip
    rename_i at_ u
    simp only at h
    cases hl : w.viewStore P at_ u a y x with
    | error m => rw [hl] at h; cases h
    | ok r =>
      obtain ⟨w2, l2⟩ := r
      rw [hl] at h
      obtain ⟨⟨c, e, fz, rfl⟩, -⟩ := viewStore_ok hl
      simp only [Except.ok.injEq, Prod.mk.injEq] at h
      obtain ⟨rfl, -⟩ := h
      exact ⟨rfl, rfl⟩

theorem lost_taped {α : Type} {s : Sem α} (h : Lost s) : ∀ (v : World) (es : Array Event), Taped (fun w => s.runT P' w es) v := by
  induction h with
  | halt h => exact fun v es => .still _ _ rfl rfl rfl fun _ _ => rfl
  | @shape r k _ ih => exact fun v es => .pass (run' := fun w => (k (v.shape? r)).runT P' w es) (v1 := v) rfl rfl rfl (fun _ _ => rfl) (ih _ _ _)
  | @frozen a k _ ih => exact fun v es => .pass (run' := fun w => (k (v.frozen? a)).runT P' w es) (v1 := v) rfl rfl rfl (fun _ _ => rfl) (ih _ _ _)
  | @room k _ ih => exact fun v es => .pass (run' := fun w => k.runT P' w (es.push ⟨.mark .noRoom, false, true⟩)) (v1 := v) rfl rfl rfl (fun _ _ => rfl) (ih v _)
theorem Tame.taped {α β : Type} {L : α → β → Prop} {s : Sem α} {s' : Sem β} (h : Tame P' P L s s') : ∀ (v : World) (es : Array Event), Taped (fun w => s.runT P' w es) v := by
  induction h with
  | pure h => exact fun v es => .still _ _ rfl rfl rfl fun _ _ => rfl
  | @load m a k k' _ ih =>
    intro v es
    cases hc : v.cell? a with
    | some x => exact .pass (run' := fun w => (k x).runT P' w (es.push ⟨.cell a, false, m == .atomic⟩)) (v1 := v) (by simp only [Sem.runT, hc]) rfl rfl (fun σ d => by simp only [Sem.runT]; rw [show (tp v σ d).cell? a = v.cell? a from rfl, hc]) (ih x v _)
    | none =>
      cases hf : v.farLoad P' a (m == .atomic) with
      | ok r => exact .pass (run' := fun w => (k r.1).runT P' w (es ++ r.2.toArray.map (⟨.cell ·, false, m == .atomic⟩))) (v1 := v) (by simp only [Sem.runT, hc, hf]) rfl rfl (fun σ d => by simp only [Sem.runT, farLoad_tp, hf]; rw [show (tp v σ d).cell? a = v.cell? a from rfl, hc]) (ih r.1 v _)
      | error e => exact .still (.halt e v) es (by simp only [Sem.runT, hc, hf]) rfl rfl (fun σ d => by simp only [Sem.runT, farLoad_tp, hf]; rw [show (tp v σ d).cell? a = v.cell? a from rfl, hc]; rfl)
  | @store m a x k k' _ ih =>
    intro v es
    by_cases hx : (∃ c, x = .agg c) ∨ ∃ c, x = .tuple c
    · rcases hx with ⟨c, rfl⟩ | ⟨c, rfl⟩ <;> exact .still _ _ rfl rfl rfl fun _ _ => rfl
    · have e : ∀ w : World, (Sem.store m a x k).runT P' w es = _ := fun w => runT_store (P := P') (m := m) (a := a) (k := k) (w := w) (es := es) (fun c e => hx (.inl ⟨c, e⟩)) (fun c e => hx (.inr ⟨c, e⟩))
      cases hc : v.cell? a with
      | some y =>
        cases hz : v.frozen? a with
        | true => exact .still _ _ (by rw [e, hc, hz]) rfl rfl (fun σ d => by rw [e, show (tp v σ d).cell? a = v.cell? a from rfl, hc, show (tp v σ d).frozen? a = v.frozen? a from rfl, hz]; rfl)
        | false => exact .pass (run' := fun w => k.runT P' w (es.push ⟨.cell a, true, m == .atomic⟩)) (v1 := v.setCell a x) (by rw [e, hc, hz]; rfl) rfl rfl (fun σ d => by rw [e, show (tp v σ d).cell? a = v.cell? a from rfl, hc, show (tp v σ d).frozen? a = v.frozen? a from rfl, hz]; rfl) (ih _ _)
      | none =>
        cases hf : v.farStore P' a x (m == .atomic) with
        | ok r =>
          obtain ⟨w1, l⟩ := r
          obtain ⟨h1, h2⟩ := farStore_same hf
          exact .pass (run' := fun w => k.runT P' w (es ++ l.toArray.map (⟨.cell ·, true, m == .atomic⟩))) (v1 := w1) (by rw [e, hc, hf]) h1 h2 (fun σ d => by rw [e, show (tp v σ d).cell? a = v.cell? a from rfl, hc, farStore_tp, hf]) (ih _ _)
        | error g => exact .still (.halt g v) es (by rw [e, hc, hf]) rfl rfl (fun σ d => by rw [e, show (tp v σ d).cell? a = v.cell? a from rfl, hc, farStore_tp, hf]; rfl)
  | @new o k k' _ _ ih => exact fun v es => .pass (run' := fun w => (k v.heap.size).runT P' w es) (v1 := { v with heap := v.heap.push o }) rfl rfl rfl (fun _ _ => rfl) (ih _ _ _)
  | @shape r k k' _ _ ih _ => exact fun v es => .pass (run' := fun w => (k (v.shape? r)).runT P' w es) (v1 := v) rfl rfl rfl (fun _ _ => rfl) (ih _ _ _)
  | @frozen a k k' _ ih => exact fun v es => .pass (run' := fun w => (k (v.frozen? a)).runT P' w es) (v1 := v) rfl rfl rfl (fun _ _ => rfl) (ih _ _ _)
  | @getObj r k k' _ _ ih _ =>
    intro v es
    cases hb : v.heap[r]? with
    | none => exact .still (.halt (.stuck "getObj: no such block") v) es (by simp only [Sem.runT, hb]) rfl rfl (fun σ d => by simp only [Sem.runT]; rw [show (tp v σ d).heap = v.heap from rfl, hb]; rfl)
    | some o =>
      by_cases hcell : ∃ c e fz, o = .cells c e fz
      · obtain ⟨c, e, fz, rfl⟩ := hcell
        exact .still (.halt (.stuck "getObj: a row of cells") v) es (by simp only [Sem.runT, hb]) rfl rfl (fun σ d => by simp only [Sem.runT]; rw [show (tp v σ d).heap = v.heap from rfl, hb]; rfl)
      · have hh : ∀ w : World, w.heap = v.heap → (Sem.getObj r k).runT P' w es = (k o).runT P' w (es.push ⟨.obj r, false, o.isChan⟩) := fun w hw => by
          simp only [Sem.runT, hw, hb]
          cases o <;> first | rfl | exact absurd ⟨_, _, _, rfl⟩ hcell
        exact .pass (run' := fun w => (k o).runT P' w (es.push ⟨.obj r, false, o.isChan⟩)) (v1 := v) (hh v rfl) rfl rfl (fun σ d => hh _ rfl) (ih o _ _)
  | @choose q k k' _ ih =>
    intro v es
    by_cases hq : q.forced = true
    · exact .pass (run' := fun w => (k 0).runT P' w es) (v1 := v) (by simp only [Sem.runT, hq, if_true]) rfl rfl (fun σ d => by simp only [Sem.runT, hq, if_true]) (ih _ _ _)
    · obtain ⟨c, h1, h2, h3⟩ := ih (q.cut (v.tape v.drawn q)) { v with drawn := v.drawn + 1 } es
      have e : ∀ w : World, (Sem.choose q k).runT P' w es = (k (q.cut (w.tape w.drawn q))).runT P' { w with drawn := w.drawn + 1 } es := fun w => by simp only [Sem.runT, hq]; rfl
      refine ⟨c + 1, ?_, ?_, fun σ d hs => ?_⟩
      · simp only [e]; rw [h1]; show v.drawn + 1 + c = _; omega
      · simp only [e]; exact h2
      · simp only [e]
        have h0 : σ d q = v.tape v.drawn q := by simpa using hs 0 (by omega) q
        show (k (q.cut (σ d q))).runT P' (tp { v with drawn := v.drawn + 1 } σ (d + 1)) es = _
        rw [h0]
        have := h3 σ (d + 1) (fun j hj q' => by
          have := hs (j + 1) (by omega) q'
          rw [show d + 1 + j = d + (j + 1) by omega, this]
          show v.tape (v.drawn + (j + 1)) q' = v.tape (v.drawn + 1 + j) q'
          rw [show v.drawn + 1 + j = v.drawn + (j + 1) by omega])
        rw [show d + (c + 1) = d + 1 + c by omega]
        exact this
  | @program k k' _ ih => exact fun v es => .pass (run' := fun w => (k P').runT P' w es) (v1 := v) rfl rfl rfl (fun _ _ => rfl) (ih v es)
  | @room k k' _ ih => exact fun v es => .pass (run' := fun w => k.runT P' w (es.push ⟨.mark .noRoom, false, true⟩)) (v1 := v) rfl rfl rfl (fun _ _ => rfl) (ih v _)
  | panic => exact fun v es => .still _ _ rfl rfl rfl fun _ _ => rfl
  | gone h => exact fun v es => .still _ _ rfl rfl rfl fun _ _ => rfl
  | lost h => exact fun v es => lost_taped h v es
end
end Go.Proofs.Tr

/-
  The operations that carry over, one law for each kind.
-/
set_option linter.all false
namespace Go.Proofs.Tr
open Go

section
variable {T : Tables} {F F' : Array Func}
/-- The tree carries over, with the same result. -/
abbrev TM (T : Tables) (F' F : Array Func) {α : Type} (s : Sem α) : Prop := Tame ⟨T, F'⟩ ⟨T, F⟩ Eq s s
theorem tm_pure {α : Type} (a : α) : TM T F' F (pure a) := .pure rfl
theorem tm_bind {α β : Type} {s : Sem α} {f : α → Sem β} (h : TM T F' F s) (hf : ∀ a, TM T F' F (f a)) : TM T F' F (s >>= f) := Tame.bind h fun a b e => by subst e; exact hf a
theorem tm_map {α β : Type} {s : Sem α} {f : α → β} (h : TM T F' F s) : TM T F' F (Functor.map f s) := tm_bind h fun a => tm_pure (f a)
theorem tm_stuck {α : Type} (m : String) : TM T F' F (stuck m : Sem α) := .gone trivial
theorem tm_halt {α : Type} {h : Halt} (hg : Gone h) : TM T F' F (.halt h : Sem α) := .gone hg
theorem tm_goPanic {α : Type} (x : Value) : TM T F' F (goPanic x : Sem α) := .panic
theorem tm_prog {α : Type} {f : Program → Sem α} (h : Tame ⟨T, F'⟩ ⟨T, F⟩ Eq (f ⟨T, F'⟩) (f ⟨T, F⟩)) : TM T F' F (program >>= f) := .program h
theorem tm_load (a : Addr) (m : Go.Mode) : TM T F' F (load a m) := .load fun x => .pure rfl
theorem tm_store (a : Addr) (x : Value) (m : Go.Mode) : TM T F' F (store a x m) := .store (.pure rfl)
theorem tm_newCells (c : Array Value) (e : TypeId) : TM T F' F (newObj (.cells c e)) := .new (by simp) fun r => .pure rfl
theorem tm_choose (q : Question) : TM T F' F (choose q) := .choose fun n => .pure rfl
theorem tm_askRoom (n : Nat) : TM T F' F (askRoom n) := by unfold askRoom; split; exact .room (.pure rfl); exact .pure rfl
theorem tm_ite {α : Type} {c : Prop} [Decidable c] {s s' : Sem α} (h : TM T F' F s) (h' : TM T F' F s') : TM T F' F (if c then s else s') := by split <;> assumption

theorem tm_typeInfo (t : TypeId) : TM T F' F (typeInfo t) := by
  unfold typeInfo
  refine tm_prog ?_
  show Tame _ _ Eq (match T.info? t with | some i => pure i | none => stuck "no such type") (match T.info? t with | some i => pure i | none => stuck "no such type")
  split
  · exact tm_pure _
  · exact tm_stuck _
theorem tm_underlying (t : TypeId) : TM T F' F (underlying t) := by
  unfold underlying
  refine tm_prog ?_
  have e : Program.underlying ⟨T, F'⟩ t = Program.underlying ⟨T, F⟩ t := rfl
  rw [e]
  split
  · exact tm_pure _
  · exact tm_stuck _
theorem tm_zeroValue (t : TypeId) : TM T F' F (zeroValue t) := by
  unfold zeroValue
  refine tm_bind (tm_typeInfo t) fun i => ?_
  split
  · exact tm_pure _
  · exact tm_halt trivial
theorem tm_sizeOf (t : TypeId) : TM T F' F (sizeOf t) := by unfold sizeOf; exact tm_bind (tm_typeInfo t) fun i => tm_pure _
theorem tm_isAgg (t : TypeId) : TM T F' F (isAgg t) := by unfold isAgg; refine tm_bind (tm_underlying t) fun i => ?_; split <;> exact tm_pure _
theorem tm_loadCellsFrom (a : Addr) : ∀ (n i : Nat) (acc : Array Value), TM T F' F (loadCellsFrom a i n acc)
  | 0, _, _ => tm_pure _
  | n + 1, i, acc => by unfold loadCellsFrom; exact tm_bind (tm_load _ _) fun v => tm_loadCellsFrom a n _ _
theorem tm_loadCells (a : Addr) (n : Nat) : TM T F' F (loadCells a n) := tm_loadCellsFrom a n 0 _
theorem tm_storeCells (a : Addr) : ∀ (vs : List Value) (i : Nat), TM T F' F (storeCells a vs i)
  | [], _ => tm_pure _
  | v :: vs, i => by unfold storeCells; exact tm_bind (tm_store _ _ _) fun _ => tm_storeCells a vs _
theorem tm_loadVar (t : TypeId) (a : Addr) : TM T F' F (loadVar t a) := by
  unfold loadVar
  refine tm_bind (tm_isAgg t) fun b => ?_
  cases b
  · exact tm_load _ _
  · exact tm_bind (tm_sizeOf t) fun n => tm_bind (tm_loadCells _ _) fun _ => tm_pure _
theorem tm_storeVar (t : TypeId) (a : Addr) (v : Value) : TM T F' F (storeVar t a v) := by
  unfold storeVar
  refine tm_bind (tm_sizeOf t) fun n => ?_
  split
  · exact tm_bind (tm_stuck _) fun _ => tm_storeCells _ _ _
  · exact tm_storeCells _ _ _
theorem tm_newRow (e : TypeId) (c : Array Value) : TM T F' F (newRow e c) := by unfold newRow; exact tm_bind (tm_newCells _ _) fun r => tm_pure _
theorem tm_newVar (t : TypeId) (v : Value) : TM T F' F (newVar t v) := tm_newRow _ _
theorem tm_error {α : Type} (m : String) : TM T F' F (runtimePanic (.error m) : Sem α) := by unfold runtimePanic; exact tm_prog (.panic)
theorem tm_nilDeref {α : Type} : TM T F' F (runtimePanic .nilDeref : Sem α) := by unfold runtimePanic; exact tm_prog (.panic)
theorem tm_bounds {α : Type} (x y : Int) (s : Bool) (c : BoundsCode) : TM T F' F (runtimePanic (.bounds x y s c) : Sem α) := by unfold runtimePanic; exact tm_prog (.panic)
theorem tm_boundsPanic {α : Type} (k : IntKind) (x y : Int) (c : BoundsCode) : TM T F' F (boundsPanic k x y c : Sem α) := by
  unfold boundsPanic
  show TM T F' F (if _ then _ else _)
  split
  · exact tm_bind (tm_map (tm_choose _)) fun s => tm_bounds _ _ _ _
  · exact tm_bind (tm_pure _) fun s => tm_bounds _ _ _ _
theorem tm_asIntOf (v : Value) : TM T F' F (asIntOf v) := by unfold asIntOf; split; exact tm_pure _; exact tm_halt trivial; exact tm_stuck _
theorem tm_asInt (v : Value) : TM T F' F (asInt v) := by unfold asInt; exact tm_bind (tm_asIntOf v) fun _ => tm_pure _
theorem tm_asBool (v : Value) : TM T F' F (asBool v) := by unfold asBool; split; exact tm_pure _; exact tm_stuck _
theorem tm_asAgg (v : Value) : TM T F' F (asAgg v) := by unfold asAgg; split; exact tm_pure _; exact tm_stuck _
theorem tm_asAddr (v : Value) : TM T F' F (asAddr v) := by unfold asAddr; split; exact tm_pure _; exact tm_nilDeref; exact tm_stuck _
theorem tm_part (t : TypeId) (cs : Array Value) (o : Nat) : TM T F' F (part t cs o) := by
  unfold part
  refine tm_bind (tm_isAgg t) fun b => ?_
  cases b
  · simp only [Bool.false_eq_true, if_false]
    split
    · exact tm_pure _
    · exact tm_stuck _
  · exact tm_bind (tm_sizeOf t) fun n => tm_pure _
theorem tm_sureAddr (v : Value) : TM T F' F (Instr.sureAddr v) := by unfold Instr.sureAddr; split; exact tm_pure _; exact tm_stuck _
theorem tm_mapList {α β : Type} {f : α → Sem β} (hf : ∀ a, TM T F' F (f a)) : ∀ l : List α, TM T F' F (l.mapM f)
  | [] => by rw [List.mapM_nil]; exact tm_pure _
  | a :: l => by rw [List.mapM_cons]; exact tm_bind (hf a) fun b => tm_bind (tm_mapList hf l) fun _ => tm_pure _
theorem tm_mapArray {α β : Type} {f : α → Sem β} (hf : ∀ a, TM T F' F (f a)) (xs : Array α) : TM T F' F (xs.mapM f) := by
  rw [Array.mapM_eq_mapM_toList]; exact tm_map (tm_mapList hf _)
theorem tm_forList {α β : Type} {f : α → β → Sem (ForInStep β)} (hf : ∀ a b, TM T F' F (f a b)) : ∀ (l : List α) (b : β), TM T F' F (forIn l b f)
  | [], b => by rw [List.forIn_nil]; exact tm_pure _
  | a :: l, b => by
    rw [List.forIn_cons]
    refine tm_bind (hf a b) fun r => ?_
    cases r
    · exact tm_pure _
    · exact tm_forList hf l _
theorem tm_forArray {α β : Type} {f : α → β → Sem (ForInStep β)} (hf : ∀ a b, TM T F' F (f a b)) (xs : Array α) (b : β) : TM T F' F (forIn xs b f) := by
  rw [← Array.forIn_toList]; exact tm_forList hf _ _

/-! ### The operations -/
theorem tm_alloc (e : TypeId) : TM T F' F (Instr.alloc e true (.tuple #[])) := by
  unfold Instr.alloc
  refine tm_bind (tm_zeroValue e) fun z => ?_
  exact tm_bind (tm_newVar _ _) fun _ => tm_pure _
theorem tm_box (e : TypeId) (v : Value) : TM T F' F (Instr.box e v) := by unfold Instr.box; exact tm_bind (tm_newVar _ _) fun _ => tm_pure _
theorem tm_loadAt (t : TypeId) (a : Value) : TM T F' F (Instr.loadAt t a) := by unfold Instr.loadAt; exact tm_bind (tm_sureAddr a) fun _ => tm_loadVar _ _
theorem tm_storeAt (t : TypeId) (a v : Value) : TM T F' F (Instr.storeAt t a v) := by unfold Instr.storeAt; exact tm_bind (tm_sureAddr a) fun _ => tm_storeVar _ _ _
theorem tm_extract (v : Value) (i : Nat) : TM T F' F (Instr.extract v i) := by
  unfold Instr.extract
  split
  · split
    · exact tm_pure _
    · exact tm_stuck _
  · exact tm_stuck _
theorem tm_build (t : TypeId) (ps : Array (Nat × Value)) : TM T F' F (Instr.build t ps) := by
  unfold Instr.build
  refine tm_bind (tm_zeroValue t) fun z => tm_bind (tm_underlying t) fun d => ?_
  split
  · refine tm_bind (tm_mapArray (fun f => tm_bind (tm_sizeOf _) fun _ => tm_pure _) _) fun pl => ?_
    split
    · exact tm_pure _
    · exact tm_stuck _
  · refine tm_bind (tm_sizeOf _) fun n => ?_
    split
    · exact tm_pure _
    · exact tm_stuck _
  · exact tm_stuck _
theorem tm_buildSlice (t : TypeId) (n : Nat) (ps : Array (Nat × Value)) : TM T F' F (Instr.buildSlice t n ps) := by
  unfold Instr.buildSlice
  repeat' first | exact tm_halt trivial | exact tm_pure _ | exact tm_stuck _ | exact tm_typeInfo _ | exact tm_underlying _ | exact tm_zeroValue _ | exact tm_sizeOf _ | exact tm_isAgg _ | exact tm_loadVar _ _ | exact tm_storeVar _ _ _ | exact tm_newRow _ _ | exact tm_newVar _ _ | exact tm_loadCells _ _ | exact tm_storeCells _ _ _ | exact tm_error _ | exact tm_nilDeref | exact tm_bounds _ _ _ _ | exact tm_boundsPanic _ _ _ _ | exact tm_asIntOf _ | exact tm_asInt _ | exact tm_asBool _ | exact tm_asAgg _ | exact tm_asAddr _ | exact tm_part _ _ _ | exact tm_sureAddr _ | exact tm_choose _ | exact tm_askRoom _ | exact tm_load _ _ | exact tm_store _ _ _ | exact tm_newCells _ _ | assumption | exact tm_map (tm_choose _) | refine tm_bind ?_ (fun _ => ?_) | split | dsimp only
theorem tm_field (t : TypeId) (x : Value) (f : Nat) : TM T F' F (Instr.field t x f) := by
  unfold Instr.field
  repeat' first | exact tm_halt trivial | exact tm_pure _ | exact tm_stuck _ | exact tm_typeInfo _ | exact tm_underlying _ | exact tm_zeroValue _ | exact tm_sizeOf _ | exact tm_isAgg _ | exact tm_loadVar _ _ | exact tm_storeVar _ _ _ | exact tm_newRow _ _ | exact tm_newVar _ _ | exact tm_loadCells _ _ | exact tm_storeCells _ _ _ | exact tm_error _ | exact tm_nilDeref | exact tm_bounds _ _ _ _ | exact tm_boundsPanic _ _ _ _ | exact tm_asIntOf _ | exact tm_asInt _ | exact tm_asBool _ | exact tm_asAgg _ | exact tm_asAddr _ | exact tm_part _ _ _ | exact tm_sureAddr _ | exact tm_choose _ | exact tm_askRoom _ | exact tm_load _ _ | exact tm_store _ _ _ | exact tm_newCells _ _ | assumption | exact tm_map (tm_choose _) | refine tm_bind ?_ (fun _ => ?_) | split | dsimp only
theorem tm_indexAt (t : TypeId) (x i : Value) : TM T F' F (Instr.indexAt t x i) := by
  unfold Instr.indexAt
  repeat' first | exact tm_halt trivial | exact tm_pure _ | exact tm_stuck _ | exact tm_typeInfo _ | exact tm_underlying _ | exact tm_zeroValue _ | exact tm_sizeOf _ | exact tm_isAgg _ | exact tm_loadVar _ _ | exact tm_storeVar _ _ _ | exact tm_newRow _ _ | exact tm_newVar _ _ | exact tm_loadCells _ _ | exact tm_storeCells _ _ _ | exact tm_error _ | exact tm_nilDeref | exact tm_bounds _ _ _ _ | exact tm_boundsPanic _ _ _ _ | exact tm_asIntOf _ | exact tm_asInt _ | exact tm_asBool _ | exact tm_asAgg _ | exact tm_asAddr _ | exact tm_part _ _ _ | exact tm_sureAddr _ | exact tm_choose _ | exact tm_askRoom _ | exact tm_load _ _ | exact tm_store _ _ _ | exact tm_newCells _ _ | assumption | exact tm_map (tm_choose _) | refine tm_bind ?_ (fun _ => ?_) | split | dsimp only
theorem tm_sliceBound (x : Value) (y : Nat) (c : BoundsCode) : TM T F' F (Instr.sliceBound x y c) := by
  unfold Instr.sliceBound
  exact tm_bind (tm_asIntOf x) fun ki => tm_ite (tm_pure _) (tm_boundsPanic _ _ _ _)
theorem tm_sliceBounds (b : Bool) (n m : Nat) (lo hi mx : Option Value) : TM T F' F (Instr.sliceBounds b n m lo hi mx) := by
  have h1 := @tm_sliceBound T F F'
  unfold Instr.sliceBounds
  repeat' first | exact h1 _ _ _ | exact tm_stuck _ | exact tm_pure _ | refine tm_bind ?_ (fun _ => ?_) | split | dsimp only
theorem tm_slice (t : TypeId) (x : Value) (lo hi mx : Option Value) : TM T F' F (Instr.slice t x lo hi mx) := by
  have h1 := @tm_sliceBounds T F F'
  unfold Instr.slice
  repeat' first | exact h1 _ _ _ _ _ _ | exact tm_stuck _ | exact tm_pure _ | exact tm_sizeOf _ | exact tm_underlying _ | exact tm_asAddr _ | refine tm_bind ?_ (fun _ => ?_) | split | dsimp only
theorem tm_sliceAt (t : TypeId) (x : Value) (lo hi mx : Option Value) : TM T F' F (Instr.sliceAt t x lo hi mx) := by
  have h1 := @tm_sliceBounds T F F'
  have h2 := @tm_slice T F F'
  unfold Instr.sliceAt
  repeat' first | exact h1 _ _ _ _ _ _ | exact h2 _ _ _ _ _ | exact tm_stuck _ | exact tm_pure _ | exact tm_sizeOf _ | exact tm_underlying _ | exact tm_sureAddr _ | refine tm_bind ?_ (fun _ => ?_) | split | dsimp only
theorem tm_makeSlice (t : TypeId) (n m : Value) : TM T F' F (Instr.makeSlice t n m) := by
  unfold Instr.makeSlice
  repeat' first | exact tm_halt trivial | exact tm_pure _ | exact tm_stuck _ | exact tm_typeInfo _ | exact tm_underlying _ | exact tm_zeroValue _ | exact tm_sizeOf _ | exact tm_isAgg _ | exact tm_loadVar _ _ | exact tm_storeVar _ _ _ | exact tm_newRow _ _ | exact tm_newVar _ _ | exact tm_loadCells _ _ | exact tm_storeCells _ _ _ | exact tm_error _ | exact tm_nilDeref | exact tm_bounds _ _ _ _ | exact tm_boundsPanic _ _ _ _ | exact tm_asIntOf _ | exact tm_asInt _ | exact tm_asBool _ | exact tm_asAgg _ | exact tm_asAddr _ | exact tm_part _ _ _ | exact tm_sureAddr _ | exact tm_choose _ | exact tm_askRoom _ | exact tm_load _ _ | exact tm_store _ _ _ | exact tm_newCells _ _ | assumption | exact tm_map (tm_choose _) | refine tm_bind ?_ (fun _ => ?_) | split | dsimp only
theorem tm_lenOf (x : Value) : TM T F' F (Builtin.lenOf x) := by unfold Builtin.lenOf; split; exact tm_pure _; exact tm_pure _; exact tm_stuck _
theorem tm_firstCells (s n : Nat) (x : Value) : TM T F' F (Builtin.firstCells s n x) := by unfold Builtin.firstCells; split; exact tm_loadCells _ _; exact tm_pure _; exact tm_pure _; exact tm_stuck _
theorem tm_copy (ts : Array TypeId) (t : TypeId) (xs : Array Value) : TM T F' F (Builtin.copy_ ts t xs) := by
  have h1 := @tm_lenOf T F F'
  have h2 := @tm_firstCells T F F'
  unfold Builtin.copy_
  repeat' first | exact h1 _ | exact h2 _ _ _ | exact tm_storeCells _ _ _ | exact tm_stuck _ | exact tm_pure _ | exact tm_sizeOf _ | exact tm_underlying _ | refine tm_bind ?_ (fun _ => ?_) | split | dsimp only
/-! ### append -/
theorem lost_bind {α β : Type} {s : Sem α} {f : α → Sem β} (h : Lost s) : Lost (s >>= f) := h.bind f
/-- What only asks for shapes, and goes on by something lost, is lost. -/
inductive Asks {α : Type} : Sem α → Prop
  | pure {a : α} : Asks (.pure a)
  | shape {r : Nat} {k : Option (TypeId × Nat) → Sem α} : (∀ s, Asks (k s)) → Asks (.shape r k)
  | frozen {a : Addr} {k : Bool → Sem α} : (∀ s, Asks (k s)) → Asks (.frozen a k)
  | room {k : Sem α} : Asks k → Asks (.mark .noRoom k)
theorem asks_bind {α β : Type} {s : Sem α} {f : α → Sem β} (h : Asks s) (hf : ∀ a, Asks (f a)) : Asks (s >>= f) := by
  show Asks (s.bind f)
  induction h with
  | pure => exact hf _
  | shape _ ih => exact .shape ih
  | frozen _ ih => exact .frozen ih
  | room _ ih => exact .room ih
theorem asks_lost {α β : Type} {s : Sem α} {f : α → Sem β} (h : Asks s) (hf : ∀ a, Lost (f a)) : Lost (s >>= f) := by
  show Lost (s.bind f)
  induction h with
  | pure => exact hf _
  | shape _ ih => exact .shape ih
  | frozen _ ih => exact .frozen ih
  | room _ ih => exact .room ih
theorem asks_pure {α : Type} (a : α) : Asks (pure a : Sem α) := .pure
theorem asks_holds (a : Addr) (n : Nat) : Asks (Builtin.holdsCells a n) := by
  unfold Builtin.holdsCells
  refine asks_bind (.shape fun _ => .pure) fun s => ?_
  split <;> exact .pure
theorem asks_frozen (a : Addr) : Asks (frozen a) := .frozen fun _ => .pure
theorem asks_mayShare (a b n : Nat) (o : Option Addr) (x : Value) : Asks (Builtin.mayShare a b n o x) := by
  have h1 := asks_holds
  have h2 := asks_frozen
  unfold Builtin.mayShare
  repeat' first | exact asks_pure _ | exact h1 _ _ | exact h2 _ | refine asks_bind ?_ (fun _ => ?_) | split | dsimp only
theorem lost_unsup {α : Type} {e : Unsupported} (he : ∀ g, e ≠ .initOrder g) : Lost (unsupported e : Sem α) := .halt (by cases e <;> first | trivial | exact absurd rfl (he _))
theorem tm_append (ts : Array TypeId) (t : TypeId) (xs : Array Value) : TM T F' F (Builtin.append_ ts t xs) := by
  unfold Builtin.append_
  split
  · refine tm_bind (tm_underlying _) fun d => ?_
    split
    · split
      · refine tm_bind (tm_sizeOf _) fun size => ?_
        extract_lets j1 j2
        have h1 : ∀ u, Lost (j1 u) := fun u => lost_unsup (by simp)
        have h2 : ∀ z, TM T F' F (j2 z) := by
          intro zeros
          unfold j2
          clear j2
          clear_value j1
          extract_lets j3
          have h3 : ∀ n, TM T F' F (j3 n) := by
            intro n
            unfold j3
            clear j3
            extract_lets ap need j6 j5 j4
            have hap : TM T F' F ap := by
              unfold ap
              exact tm_ite (tm_firstCells _ _ _) (tm_ite (tm_pure _) (tm_bind (tm_zeroValue _) fun _ => tm_pure _))
            have h6 : ∀ u, TM T F' F (j6 u) := fun u => tm_pure _
            have h5 : ∀ u, TM T F' F (j5 u) := by
              intro u
              unfold j5
              exact tm_bind (tm_choose _) fun c => tm_bind (tm_typeInfo _) fun _ => tm_bind (tm_askRoom _) fun _ => tm_bind (tm_firstCells _ _ _) fun _ => tm_bind hap fun _ => tm_bind (tm_zeroValue _) fun _ => tm_bind (tm_newRow _ _) fun _ => tm_pure _
            have h4 : ∀ u, TM T F' F (j4 u) := by
              intro u
              unfold j4
              clear j4
              clear_value j5
              refine tm_bind (tm_typeInfo _) fun i2 => ?_
              refine tm_ite (tm_bind (tm_ite (tm_error _) ?_) fun _ => h5 _) (h5 _)
              refine .lost (asks_lost (asks_mayShare _ _ _ _ _) fun r => ?_)
              cases r
              · exact .room (h1 _)
              · exact h1 _
            clear_value j4 j5 j6
            refine tm_ite ?_ ?_
            · refine tm_bind hap fun new => ?_
              split
              · exact tm_bind (tm_storeCells _ _ _) fun _ => h6 _
              · exact h6 _
            · refine tm_bind (tm_typeInfo _) fun i => ?_
              exact tm_ite (tm_bind (tm_error _) fun _ => h4 _) (h4 _)
          clear_value j3
          refine tm_ite ?_ (tm_bind (tm_lenOf _) fun n => h3 n)
          refine tm_bind (tm_asInt _) fun l0 => ?_
          extract_lets l j5 j4
          have h5 : ∀ u, TM T F' F (j5 u) := by
            intro u
            unfold j5
            exact tm_bind (tm_pure _) fun n => h3 n
          have h4 : ∀ u, TM T F' F (j4 u) := by
            intro u
            unfold j4
            clear j4
            clear_value j5
            refine tm_bind (tm_typeInfo _) fun i2 => ?_
            exact tm_ite (tm_bind (tm_choose _) fun m => tm_bind (tm_error _) fun _ => h5 _) (h5 _)
          clear_value j4
          exact tm_ite (tm_bind (tm_error _) fun _ => h4 _) (h4 _)
        clear_value j2
        split
        · exact tm_bind (tm_underlying _) fun d => tm_bind (tm_pure _) fun z => h2 z
        · exact tm_bind (tm_pure _) fun z => h2 z
      · exact tm_stuck _
    · exact tm_stuck _
  · exact tm_stuck _
end
end Go.Proofs.Tr

/-
  The operations that carry over, on: comparisons, arithmetic, places, calls; and a check that a function's code holds no other.
-/
set_option linter.all false
set_option maxRecDepth 100000
namespace Go.Proofs.Tr
open Go

section
variable {T : Tables} {F F' : Array Func}
theorem tm_shape {α : Type} {r : Nat} {f : Option (TypeId × Nat) → Sem α} (h : ∀ s, TM T F' F (f s)) (h2 : ∀ e n, Tame ⟨T, F'⟩ ⟨T, F⟩ Eq (f (some (e, 0))) (f (some (e, n)))) : TM T F' F (shape r >>= f) := .shape h h2
theorem tm_getObj {α : Type} {r : Nat} {f : Obj → Sem α} (h : ∀ o, TM T F' F (f o)) (h2 : ∀ o o', odd o = true → odd o' = true → Tame ⟨T, F'⟩ ⟨T, F⟩ Eq (f o) (f o')) : TM T F' F (getObj r >>= f) := .getObj h h2
theorem tm_prog' {α : Type} {f : Program → Sem α} (hf : f ⟨T, F'⟩ = f ⟨T, F⟩) (h : TM T F' F (f ⟨T, F⟩)) : TM T F' F (program >>= f) := tm_prog (by rw [hf]; exact h)
theorem tm_under {α : Type} {t : TypeId} {f : TypeDesc → Sem α} (h : ∀ d, Program.underlying ⟨T, F⟩ t = some d → TM T F' F (f d)) : TM T F' F (underlying t >>= f) := by
  refine tm_prog (f := fun p => (match p.underlying t with | some d => pure d | none => stuck "no such type") >>= f) ?_
  have e : Program.underlying ⟨T, F'⟩ t = Program.underlying ⟨T, F⟩ t := rfl
  show Tame _ _ Eq ((match Program.underlying ⟨T, F'⟩ t with | some d => pure d | none => stuck "no such type") >>= f) ((match Program.underlying ⟨T, F⟩ t with | some d => pure d | none => stuck "no such type") >>= f)
  rw [e]
  cases h0 : Program.underlying ⟨T, F⟩ t with
  | none => exact .gone trivial
  | some d => exact h d h0
theorem tm_unsup {α : Type} {u : Unsupported} (h : Gone (.unsupported u)) : TM T F' F (unsupported u : Sem α) := .gone h
theorem byteOfCell_eq : ∀ (d : Nat) (t : TypeId) (o : Nat), byteOfCell ⟨T, F'⟩ d t o = byteOfCell ⟨T, F⟩ d t o
  | 0, _, _ => rfl
  | d + 1, t, o => by
    have e : Program.underlying ⟨T, F'⟩ t = Program.underlying ⟨T, F⟩ t := rfl
    have e2 : Program.cellsOf ⟨T, F'⟩ = Program.cellsOf ⟨T, F⟩ := rfl
    have e3 : Program.bytesOf ⟨T, F'⟩ = Program.bytesOf ⟨T, F⟩ := rfl
    unfold byteOfCell
    rw [e, e2, e3]
    simp only [byteOfCell_eq d]
theorem tm_viewAt (r : Nat) : TM T F' F (viewAt r) := by
  unfold viewAt
  refine tm_shape (fun s => ?_) (fun e n => ?_)
  · cases s with
    | some s => exact tm_pure _
    | none =>
      refine tm_getObj (fun o => ?_) (fun o o' h h' => ?_)
      · split <;> exact tm_pure _
      · cases o <;> simp [odd] at h <;> cases o' <;> simp [odd] at h' <;> exact tm_pure _
  · exact tm_pure _
theorem tm_numberAt (r : Nat) : TM T F' F (numberAt r) := by
  unfold numberAt
  refine tm_shape (fun s => ?_) (fun e n => ?_)
  · cases s with
    | some s => exact tm_pure _
    | none =>
      refine tm_getObj (fun o => ?_) (fun o o' h h' => ?_)
      · split <;> exact tm_pure _
      · cases o <;> simp [odd] at h <;> cases o' <;> simp [odd] at h' <;> exact tm_pure _
  · exact tm_pure _
theorem tm_asNumber (a : Addr) (l : Bool) : TM T F' F (asNumber a l) := by unfold asNumber; exact tm_bind (.new (by simp) fun r => .pure rfl) fun r => tm_pure _
theorem tm_behindNumber (n : Addr) : TM T F' F (behindNumber n) := by unfold behindNumber; exact tm_bind (tm_numberAt _) fun _ => tm_pure _
theorem tm_noView (a : Addr) : TM T F' F (noView a) := by unfold noView; exact tm_bind (tm_viewAt _) fun o => tm_ite (tm_unsup trivial) (tm_pure _)
theorem tm_byteOf (a : Addr) : TM T F' F (byteOf a) := by
  unfold byteOf
  split
  · exact tm_pure _
  · refine tm_prog' ?_ ?_
    · simp only [byteOfCell_eq (F := F) (F' := F')]
      rfl
    · refine tm_bind (tm_noView _) fun _ => ?_
      refine tm_shape (fun s => ?_) (fun e n => ?_)
      · split
        · refine tm_ite (tm_pure _) ?_
          split
          · exact tm_pure _
          · exact tm_stuck _
        · exact tm_stuck _
      · refine tm_ite (tm_pure _) ?_
        split
        · exact tm_pure _
        · exact tm_stuck _
theorem cellOfByte_eq : ∀ (d : Nat) (t : TypeId) (o : Nat), cellOfByte ⟨T, F'⟩ d t o = cellOfByte ⟨T, F⟩ d t o
  | 0, _, _ => rfl
  | d + 1, t, o => by
    have e : Program.underlying ⟨T, F'⟩ t = Program.underlying ⟨T, F⟩ t := rfl
    have e2 : Program.cellsOf ⟨T, F'⟩ = Program.cellsOf ⟨T, F⟩ := rfl
    have e3 : Program.bytesOf ⟨T, F'⟩ = Program.bytesOf ⟨T, F⟩ := rfl
    unfold cellOfByte
    rw [e, e2, e3]
    simp only [cellOfByte_eq d]
theorem cellAtBytes_eq (d : Nat) (t : TypeId) (n o : Nat) (b : Int) : cellAtBytes ⟨T, F'⟩ d t n o b = cellAtBytes ⟨T, F⟩ d t n o b := by
  have e2 : Program.cellsOf ⟨T, F'⟩ = Program.cellsOf ⟨T, F⟩ := rfl
  have e3 : Program.bytesOf ⟨T, F'⟩ = Program.bytesOf ⟨T, F⟩ := rfl
  unfold cellAtBytes
  rw [e2, e3]
  simp only [byteOfCell_eq (F := F) (F' := F'), cellOfByte_eq (F := F) (F' := F')]
theorem cellAtBytes_none (p : Program) (d : Nat) (t : TypeId) (o : Nat) (b : Int) : cellAtBytes p d t 0 o b = none := by
  unfold cellAtBytes
  extract_lets s w j
  have hj : ∀ u, j u = none := by
    intro u
    unfold j
    cases h : byteOfCell p d t (o % s) with
    | none => rfl
    | some here =>
      have e : ∀ x : Int, (decide (x < 0) || decide (x ≥ Int.ofNat (0 * w))) = true := by
        intro x
        rw [Nat.zero_mul, Bool.or_eq_true, decide_eq_true_eq, decide_eq_true_eq]
        show _ ∨ _ ≥ (0 : Int)
        omega
      exact if_pos (e _)
  split
  · rfl
  · exact hj ()
theorem tm_unsafeAdd (t : TypeId) (x y : Value) : TM T F' F (Builtin.unsafeAdd_ #[] t #[x, y]) := by
  unfold Builtin.unsafeAdd_
  cases x with
  | pointer ptr =>
    refine tm_bind (tm_asInt _) fun n' => ?_
    extract_lets j1 j2 j3
    have h3 : ∀ u, TM T F' F (j3 u) := fun u => tm_pure _
    have h1 : ∀ u, TM T F' F (j1 u) := by
      intro u
      unfold j1
      cases ptr with
      | none => exact tm_unsup trivial
      | some a =>
        refine tm_shape (fun s => ?_) (fun e n => ?_)
        · cases s with
          | none => exact tm_unsup trivial
          | some s =>
            refine tm_prog' ?_ ?_
            · simp only [cellAtBytes_eq (F := F) (F' := F')]
              rfl
            · split
              · exact tm_pure _
              · exact tm_unsup trivial
        · refine .program ?_
          have e0 : (match cellAtBytes ⟨T, F'⟩ (Program.depth ⟨T, F'⟩) e (0 / Program.cellsOf ⟨T, F'⟩ e) a.off n' with | some off => (pure (Value.pointer (some { a with off })) : Sem Value) | none => unsupported (Unsupported.unsafePointer "Add")) = unsupported (Unsupported.unsafePointer "Add") := by
            rw [Nat.zero_div, cellAtBytes_none]
          show Tame _ _ Eq (match cellAtBytes ⟨T, F'⟩ (Program.depth ⟨T, F'⟩) e (0 / Program.cellsOf ⟨T, F'⟩ e) a.off n' with | some off => (pure (Value.pointer (some { a with off })) : Sem Value) | none => unsupported (Unsupported.unsafePointer "Add")) _
          rw [e0]
          exact .gone trivial
    have h2 : ∀ u, TM T F' F (j2 u) := fun u => tm_ite (tm_bind (tm_unsup trivial) fun _ => h1 ()) (h1 ())
    clear_value j1 j2 j3
    refine tm_ite ?_ (h2 _)
    cases ptr with
    | none => exact tm_bind (tm_unsup trivial) fun _ => h2 _
    | some a => exact tm_bind (tm_viewAt _) fun o => tm_ite (tm_bind (tm_unsup trivial) fun _ => h3 _) (h3 _)
  | _ => exact tm_stuck _
theorem tm_twoPlaces (a b : Addr) : TM T F' F (Op.twoPlaces a b) := by
  unfold Op.twoPlaces
  have h : TM T F' F (do
      let x ← byteOf a
      let y ← byteOf b
      pure (x, y)) := tm_bind (tm_byteOf _) fun _ => tm_bind (tm_byteOf _) fun _ => tm_pure _
  refine tm_prog' rfl ?_
  exact tm_ite (tm_bind (tm_unsup trivial) fun _ => h) h
theorem tm_addrSub (k : IntKind) (a b : Addr) : TM T F' F (Op.addrSub k a b) := by unfold Op.addrSub; exact tm_bind (tm_twoPlaces _ _) fun _ => tm_pure _
theorem tm_addrCmp (o : BinOp) (a b : Addr) : TM T F' F (Op.addrCmp o a b) := by
  unfold Op.addrCmp
  refine tm_bind (tm_twoPlaces _ _) fun _ => ?_
  cases o
  case lss | leq | gtr | geq => exact tm_pure _
  all_goals exact tm_unsup trivial
theorem tm_addrMod (k : IntKind) (a : Addr) (n : Int) : TM T F' F (Op.addrMod k a n) := by
  unfold Op.addrMod
  have h : ∀ s : Option (TypeId × Nat), TM T F' F (match s with
      | some (e, snd) => do
        let __do_lift ← typeInfo e
        have align : Nat := __do_lift.align
        have __do_jp : Unit → Sem Value := fun __r => do
          let __do_lift ← byteOf a
          pure (Value.int k ↑(__do_lift % n.toNat))
        if (decide (n < 1) || decide (n.toNat > align) || align % n.toNat != 0) = true then do
            let __r ← unsupported Unsupported.addressObserved
            __do_jp __r
          else __do_jp ()
      | x => unsupported Unsupported.addressObserved) := by
    intro s
    have hb : TM T F' F (do
          let __do_lift ← byteOf a
          pure (Value.int k ↑(__do_lift % n.toNat))) := tm_bind (tm_byteOf _) fun _ => tm_pure _
    cases s with
    | none => exact tm_unsup trivial
    | some s => exact tm_bind (tm_typeInfo _) fun i => tm_ite (tm_bind (tm_unsup trivial) fun _ => hb) hb
  exact tm_shape h fun e n => h (some (e, 0))
theorem tm_movedNumber (t : TypeId) (x y : Value) : TM T F' F (movedNumber t x y) := by
  unfold movedNumber
  refine tm_bind (tm_underlying _) fun d => ?_
  extract_lets j
  have h : ∀ u, TM T F' F (j u) := by
    intro u
    unfold j
    split
    · refine tm_bind (tm_behindNumber _) fun p => tm_bind (tm_unsafeAdd _ _ _) fun v => ?_
      split
      · exact tm_asNumber _ _
      · exact tm_pure _
    · exact tm_unsafeAdd _ _ _
  clear_value j
  exact tm_ite (tm_bind (tm_unsup trivial) fun _ => h _) (h _)
theorem tm_movedPointer (t : TypeId) (x y : Value) : TM T F' F (movedPointer t x y) := by
  unfold movedPointer
  have h := tm_unsafeAdd (T := T) (F := F) (F' := F') t x y
  split
  · exact tm_bind (tm_numberAt _) fun o => tm_ite (tm_bind (tm_unsup trivial) fun _ => h) h
  · exact h
end
end Go.Proofs.Tr

/-
  The operations that carry over: operators.
-/
set_option linter.all false
set_option maxRecDepth 100000
namespace Go.Proofs.Tr
open Go

section
variable {T : Tables} {F F' : Array Func}
theorem tm_floatArith (o : BinOp) (k : FloatKind) (x y : Nat) : TM T F' F (Op.floatArith o k x y) := by
  unfold Op.floatArith
  extract_lets j
  have hj : ∀ r, TM T F' F (j r) := by
    intro r
    unfold j
    split
    · exact tm_pure _
    · exact tm_bind (tm_choose _) fun _ => tm_pure _
  clear_value j
  split <;> first | exact tm_bind (tm_pure _) fun _ => hj _ | exact tm_bind (tm_stuck _) fun _ => hj _
theorem tm_floatCmp (o : BinOp) (k : FloatKind) (x y : Nat) : TM T F' F (Op.floatCmp o k x y) := by
  unfold Op.floatCmp
  extract_lets c
  split <;> first | exact tm_pure _ | exact tm_stuck _
theorem tm_stringOp (o : BinOp) (x y : ByteArray) : TM T F' F (Op.stringOp o x y) := by
  unfold Op.stringOp
  extract_lets c d
  split <;> first | exact tm_pure _ | exact tm_stuck _ | exact tm_ite (tm_unsup trivial) (tm_pure _)
theorem tm_floatToFloat (s : FloatKind) (b : Nat) (d : FloatKind) : TM T F' F (Conv.floatToFloat s b d) := by
  unfold Conv.floatToFloat
  repeat' first | exact tm_pure _ | exact tm_choose _ | exact tm_stuck _ | exact tm_bind (tm_choose _) fun _ => tm_pure _ | split
  exact tm_ite (tm_bind (tm_choose _) fun _ => tm_pure _) (tm_pure _)
open Op.Complex in
theorem tm_complex (o : BinOp) (k : FloatKind) (a b c d : Nat) : TM T F' F (Op.complexOp o k a b c d) := by
  have h0 : ∀ o k x y, TM T F' F (arith o k x y) := by
    intro o k x y
    unfold arith
    refine tm_bind (tm_floatArith _ _ _ _) fun _ => ?_
    split <;> first | exact tm_pure _ | exact tm_stuck _
  have h1 : ∀ o k x y, TM T F' F (cmp o k x y) := by
    intro o k x y
    unfold cmp
    exact tm_bind (tm_floatCmp _ _ _ _) fun _ => tm_asBool _
  have h2 : ∀ o k x, TM T F' F (conv o k x) := by
    intro o k x
    unfold conv
    refine tm_ite (tm_pure _) ?_
    refine tm_bind (tm_floatToFloat _ _ _) fun _ => ?_
    split <;> first | exact tm_pure _ | exact tm_stuck _
  have h3 : ∀ x y, TM T F' F (add x y) := fun x y => h0 _ _ _ _
  have h4 : ∀ x y, TM T F' F (sub x y) := fun x y => h0 _ _ _ _
  have h5 : ∀ x y, TM T F' F (mul x y) := fun x y => h0 _ _ _ _
  have h6 : ∀ x y, TM T F' F (quo x y) := fun x y => h0 _ _ _ _
  have h7 : ∀ x y z w, TM T F' F (product x y z w) := by
    intro x y z w
    unfold product
    repeat' first | with_reducible exact h3 _ _ | with_reducible exact h4 _ _ | with_reducible exact h5 _ _ | with_reducible exact tm_pure _ | with_reducible refine tm_bind ?_ (fun _ => ?_)
  have h8 : ∀ s x y z w, TM T F' F (corrected s x y z w) := by
    intro s x y z w
    unfold corrected
    repeat' first | with_reducible exact h3 _ _ | with_reducible exact h4 _ _ | with_reducible exact h5 _ _ | with_reducible exact tm_pure _ | with_reducible refine tm_bind ?_ (fun _ => ?_)
  have h9 : ∀ x y z w, TM T F' F (quotient x y z w) := by
    intro x y z w
    unfold quotient
    dsimp only
    repeat' first | with_reducible exact h1 _ _ _ _ | with_reducible exact h3 _ _ | with_reducible exact h4 _ _ | with_reducible exact h5 _ _ | with_reducible exact h6 _ _ | with_reducible exact h8 _ _ _ _ _ | with_reducible exact tm_pure _ | with_reducible refine tm_bind ?_ (fun _ => ?_) | with_reducible refine tm_ite ?_ ?_ | split
  unfold Op.complexOp
  split
  all_goals repeat' first | with_reducible exact h0 _ _ _ _ | with_reducible exact h1 _ _ _ _ | with_reducible exact h2 _ _ _ | with_reducible exact h7 _ _ _ _ | with_reducible exact h9 _ _ _ _ | with_reducible exact tm_pure _ | with_reducible exact tm_stuck _ | with_reducible refine tm_bind ?_ (fun _ => ?_) | with_reducible refine tm_ite ?_ ?_ | split
end
end Go.Proofs.Tr

/-
  The operations that carry over: comparisons at plain types, the operators whole.
-/
set_option linter.all false
set_option maxRecDepth 100000
namespace Go.Proofs.Tr
open Go

/-- A type whose values are compared without a look into the memory's blocks but at numbers. -/
def flat (p : Program) : Nat → TypeId → Bool
  | 0, _ => true
  | d + 1, t => match p.underlying t with
    | some (.int _) => true
    | some .bool => true
    | none => true
    | some (.struct fs) => !p.stoodInHeld t && fs.toList.all fun f => flat p d f.type
    | _ => false

section
variable {T : Tables} {F F' : Array Func}
theorem tm_forListIn {α β : Type} {l : List α} {f : α → β → Sem (ForInStep β)} (hf : ∀ a ∈ l, ∀ b, TM T F' F (f a b)) (b : β) : TM T F' F (forIn l b f) := by
  induction l generalizing b with
  | nil => rw [List.forIn_nil]; exact tm_pure _
  | cons a l ih =>
    rw [List.forIn_cons]
    refine tm_bind (hf a (by simp) b) fun r => ?_
    cases r
    · exact tm_pure _
    · exact ih (fun a ha => hf a (by simp [ha])) _
theorem tm_forArrayIn {α β : Type} {xs : Array α} {f : α → β → Sem (ForInStep β)} (hf : ∀ a ∈ xs.toList, ∀ b, TM T F' F (f a b)) (b : β) : TM T F' F (forIn xs b f) := by
  rw [← Array.forIn_toList]; exact tm_forListIn hf b
theorem tm_guard {α : Type} {c : Program → Bool} {u : Unsupported} {s : Sem α} {k : Unit → Sem α} (hc : c ⟨T, F⟩ = false) (hu : Gone (.unsupported u)) (hs : TM T F' F s) : TM T F' F (program >>= fun p => if c p = true then unsupported u >>= k else s) := by
  refine .program ?_
  show Tame _ _ Eq (if c ⟨T, F'⟩ = true then unsupported u >>= k else s) (if c ⟨T, F⟩ = true then unsupported u >>= k else s)
  rw [hc]
  cases c ⟨T, F'⟩
  · exact hs
  · exact .gone hu
theorem tm_equalIn : ∀ (d : Nat) (t : TypeId) (x y : Value), flat ⟨T, F⟩ d t = true → TM T F' F (Op.equalIn d t x y)
  | 0, _, _, _, _ => by unfold Op.equalIn; exact tm_unsup trivial
  | d + 1, t, x, y, h => by
    unfold Op.equalIn
    refine tm_under fun k hk => ?_
    unfold flat at h
    rw [hk] at h
    cases k with
    | int k =>
      split
      all_goals first
        | exact tm_pure _
        | exact tm_stuck _
        | exact tm_unsup trivial
        | exact tm_ite (tm_pure _) (tm_stuck _)
        | (rename_i hq; cases hq; done)
        | skip
      refine tm_bind (tm_behindNumber _) fun n => tm_bind (tm_behindNumber _) fun m => ?_
      refine tm_prog' rfl ?_
      refine tm_ite (tm_bind (tm_byteOf _) fun _ => tm_bind (tm_byteOf _) fun _ => tm_pure _) ?_
      refine tm_bind (tm_typeInfo _) fun i => ?_
      split
      · exact tm_ite (tm_pure _) (tm_unsup trivial)
      · exact tm_unsup trivial
    | bool =>
      split
      all_goals first
        | exact tm_pure _
        | exact tm_stuck _
        | exact tm_unsup trivial
        | (rename_i hq; cases hq; done)
    | struct fs =>
      split
      all_goals first
        | exact tm_stuck _
        | exact tm_unsup trivial
        | (rename_i hq; cases hq; done)
        | skip
      rename_i xs ys hq
      cases hq
      have h : (!Program.stoodInHeld ⟨T, F⟩ t && fs.toList.all fun f => flat ⟨T, F⟩ d f.type) = true := h
      rw [Bool.and_eq_true, Bool.not_eq_true', List.all_eq_true] at h
      extract_lets j
      have hj : ∀ u, TM T F' F (j u) := by
        intro u
        unfold j
        refine tm_bind ?_ fun s => ?_
        · refine tm_forArrayIn (fun f hf b => ?_) _
          refine tm_ite ?_ (tm_pure _)
          exact tm_bind (tm_part _ _ _) fun _ => tm_bind (tm_part _ _ _) fun _ => tm_bind (tm_equalIn d _ _ _ (h.2 f hf)) fun _ => tm_ite (tm_pure _) (tm_pure _)
        · obtain ⟨o, _⟩ := s
          cases o <;> exact tm_pure _
      clear_value j
      exact tm_guard (c := fun p => p.stoodInHeld t) h.1 trivial (hj _)
    | _ => simp at h
theorem tm_equal (t : TypeId) (x y : Value) (h : flat ⟨T, F⟩ Op.maxDepth t = true) : TM T F' F (Op.equal t x y) := by unfold Op.equal; exact tm_equalIn _ _ _ _ h
theorem tm_intArith (o : BinOp) (k : IntKind) (x y : Int) : TM T F' F (Op.intArith o k x y) := by unfold Op.intArith; split <;> first | exact tm_pure _ | exact tm_stuck _
theorem tm_intDiv (o : BinOp) (k : IntKind) (x y : Int) : TM T F' F (Op.intDiv o k x y) := by
  unfold Op.intDiv
  refine tm_ite (tm_error _) ?_
  split <;> first | exact tm_pure _ | exact tm_stuck _
theorem tm_intBits (o : BinOp) (k : IntKind) (x y : Int) : TM T F' F (Op.intBits o k x y) := by
  unfold Op.intBits
  extract_lets a b c
  split <;> first | exact tm_pure _ | exact tm_stuck _
theorem tm_intCmp (o : BinOp) (x y : Int) : TM T F' F (Op.intCmp o x y) := by unfold Op.intCmp; split <;> first | exact tm_pure _ | exact tm_stuck _
theorem tm_shift (o : BinOp) (k : IntKind) (x : Int) (k' : IntKind) (y : Int) : TM T F' F (Op.shift o k x k' y) := by
  unfold Op.shift
  refine tm_ite (tm_error _) ?_
  extract_lets n
  split <;> first | exact tm_pure _ | exact tm_stuck _
theorem tm_binOp (o : BinOp) (t : TypeId) (x y : Value) (h : flat ⟨T, F⟩ Op.maxDepth t = true) : TM T F' F (binOp o t x y) := by
  unfold binOp
  split
  all_goals first
    | exact tm_shift _ _ _ _ _
    | exact tm_unsup trivial
    | exact tm_stuck _
    | exact tm_stringOp _ _ _
    | exact tm_bind (tm_equal _ _ _ h) fun _ => tm_pure _
    | exact tm_movedNumber _ _ _
    | exact tm_ite (tm_stuck _) (tm_complex _ _ _ _ _ _)
    | exact tm_bind (tm_behindNumber _) fun _ => tm_addrCmp _ _ _
    | exact tm_bind (tm_behindNumber _) fun _ => tm_addrMod _ _ _
    | exact tm_bind (tm_behindNumber _) fun _ => tm_bind (tm_behindNumber _) fun _ => tm_addrCmp _ _ _
    | exact tm_bind (tm_behindNumber _) fun _ => tm_bind (tm_behindNumber _) fun _ => tm_addrSub _ _ _
    | (refine tm_ite (tm_stuck _) ?_; split <;> first | exact tm_intArith _ _ _ _ | exact tm_intDiv _ _ _ _ | exact tm_intBits _ _ _ _ | exact tm_intCmp _ _ _ | exact tm_floatArith _ _ _ _ | exact tm_floatCmp _ _ _ _)
    | (refine tm_bind (tm_underlying _) fun d => ?_; split <;> first | exact tm_movedPointer _ _ _ | exact tm_movedNumber _ _ _)
    | skip
end
end Go.Proofs.Tr

/-
  The operations that carry over, all: what a function's code may hold.
-/
set_option linter.all false
set_option maxRecDepth 100000
namespace Go.Proofs.Tr
open Go

/-- A function that both programs have, with a body. -/
def callOk (F' F : Array Func) (f : FuncId) : Bool := match F'[f]?, F[f]? with
  | some a, some b => a.body.isSome && b.body.isSome && !(a.name == "runtime.NumGoroutine") && !(b.name == "runtime.NumGoroutine")
  | _, _ => false
/-- An operation that carries over. -/
def opOk (T : Tables) (F' F : Array Func) : Op → Bool
  | .move _ | .assign _ | .pick .. | .box .. | .build .. | .buildSlice .. | .load .. | .store .. | .extract .. | .indexAddr .. | .slice .. | .makeSlice .. | .field .. | .nilCheck _ | .alloc _ | .fieldAddr .. | .makeChan .. => true
  | .unOp .not _ _ => true
  | .binOp _ t _ _ _ => flat ⟨T, F⟩ Op.maxDepth t && !Program.eqGuardType ⟨T, F⟩ (Program.depth ⟨T, F⟩) t
  | .convert s d _ => (match Program.underlying ⟨T, F⟩ s, Program.underlying ⟨T, F⟩ d with | some (.int _), some (.int _) => true | _, _ => false)
  | .call c => (match c.callee with
    | .builtin .append => true
    | .builtin .len => (match (c.argTypes[0]?).bind (Program.underlying ⟨T, F⟩) with | some (.slice _) => true | _ => false)
    | .builtin .copy => true
    | .value (.func f) => callOk F' F f
    | _ => false)
  | _ => false

section
variable {T : Tables} {F F' : Array Func}
theorem eqGuardType_eq : ∀ (d : Nat) (t : TypeId), Program.eqGuardType ⟨T, F'⟩ d t = Program.eqGuardType ⟨T, F⟩ d t
  | 0, _ => rfl
  | d + 1, t => by
    have e : Program.underlying ⟨T, F'⟩ t = Program.underlying ⟨T, F⟩ t := rfl
    unfold Program.eqGuardType
    rw [e]
    simp only [eqGuardType_eq d]
theorem tm_eqGuardNil : ∀ (d : Nat) (t : TypeId), TM T F' F (Op.eqGuardIn d t .nilIface .nilIface)
  | 0, _ => by unfold Op.eqGuardIn; exact tm_unsup trivial
  | d + 1, t => by
    unfold Op.eqGuardIn
    refine tm_bind (tm_underlying _) fun k => ?_
    cases k <;> exact tm_pure _
theorem tm_eqGuard (o : BinOp) (t : TypeId) (x y : Operand) (a b : Value) (h : Program.eqGuardType ⟨T, F⟩ (Program.depth ⟨T, F⟩) t = false) : TM T F' F (eqGuard o t x y a b) := by
  unfold eqGuard
  refine tm_ite (tm_pure _) ?_
  split
  · refine tm_ite (tm_pure _) ?_
    exact tm_bind (tm_eqGuardNil _ _) fun r => tm_ite (tm_unsup trivial) (tm_pure _)
  · refine .program ?_
    refine .program ?_
    have e : Program.eqGuardType ⟨T, F'⟩ (Program.depth ⟨T, F'⟩) t = false := by rw [eqGuardType_eq (F := F)]; exact h
    show Tame _ _ Eq (if (!Program.eqGuardType ⟨T, F'⟩ (Program.depth ⟨T, F'⟩) t) = true then pure () else _) (if (!Program.eqGuardType ⟨T, F⟩ (Program.depth ⟨T, F⟩) t) = true then pure () else _)
    rw [e, h]
    exact tm_pure _
  · exact tm_pure _
theorem tm_unary (o : UnOp) (x : Value) : TM T F' F (Op.unary o x) := by
  unfold Op.unary
  split <;> first | exact tm_pure _ | exact tm_stuck _ | exact tm_unsup trivial | exact tm_intArith _ _ _ _ | exact tm_intBits _ _ _ _
theorem tm_convert (s d : TypeId) (x : Value) (h : (match Program.underlying ⟨T, F⟩ s, Program.underlying ⟨T, F⟩ d with | some (.int _), some (.int _) => true | _, _ => false) = true) : TM T F' F (convert s d x) := by
  unfold convert
  refine tm_under fun k hk => tm_under fun l hl => ?_
  rw [hk, hl] at h
  cases k <;> try (simp at h; done)
  cases l <;> try (simp at h; done)
  cases x with
  | int k n => exact tm_pure _
  | float k b =>
    show TM T F' F (Conv.floatToInt _ _ _)
    unfold Conv.floatToInt
    extract_lets a
    have ha : TM T F' F a := tm_bind (tm_choose _) fun _ => tm_pure _
    split
    · exact tm_ite (tm_pure _) ha
    · exact ha
  | pointer a => cases a <;> exact tm_unsup trivial
  | _ => exact tm_unsup trivial
theorem tm_len (ts : Array TypeId) (t : TypeId) (xs : Array Value) (h : (match (ts[0]?).bind (Program.underlying ⟨T, F⟩) with | some (.slice _) => true | _ => false) = true) : TM T F' F (Builtin.len_ ts t xs) := by
  unfold Builtin.len_
  split
  · rename_i e
    have e1 : ts[0]? = some _ := (Prod.mk.inj e).1
    rw [e1] at h
    refine tm_under fun d hd => ?_
    have h : (match Program.underlying ⟨T, F⟩ _ with | some (.slice _) => true | _ => false) = true := h
    rw [hd] at h
    cases d <;> try (simp at h; done)
    split <;> first | exact tm_pure _ | exact tm_stuck _ | (rename_i hq _; cases hq; done) | (rename_i hq; cases hq; done)
  · exact tm_stuck _
theorem tm_followBlind : ∀ (l : List FieldStep) (t : TypeId) (x : Option Value), TM T F' F (followBlind l t x)
  | [], _, _ => tm_pure _
  | s :: rest, t, x => by
    unfold followBlind
    refine tm_bind (tm_underlying _) fun d => ?_
    split
    · split
      · split
        · exact tm_pure _
        · exact tm_followBlind rest _ _
        · exact tm_stuck _
        · exact tm_pure _
        · exact tm_bind (tm_part _ _ _) fun _ => tm_followBlind rest _ _
        · exact tm_stuck _
        · exact tm_followBlind rest _ _
      · exact tm_stuck _
    · exact tm_stuck _
theorem tm_nilAhead : ∀ (n : Nat) (t : TypeId) (v : Value) (m : String), TM T F' F (nilAhead n t v m)
  | 0, _, _, _ => tm_pure _
  | n + 1, t, v, m => by
    unfold nilAhead
    refine tm_bind (tm_typeInfo _) fun i => ?_
    split
    · refine tm_bind (tm_followBlind _ _ _) fun r => ?_
      split
      · exact tm_pure _
      · split
        · exact tm_nilAhead n _ _ _
        · exact tm_pure _
        · exact tm_stuck _
        · exact tm_pure _
        · exact tm_pure _
        · refine tm_bind (tm_underlying _) fun d => ?_
          split <;> exact tm_pure _
    · exact tm_stuck _
theorem tm_fieldAt (s : TypeId) (a : Value) (f : Nat) : TM T F' F (Instr.fieldAt s a f) := by
  unfold Instr.fieldAt
  refine tm_bind (tm_underlying _) fun d => ?_
  split
  · split
    · refine tm_bind (tm_sureAddr _) fun a => tm_bind ?_ fun _ => tm_pure _
      unfold fieldPlace
      refine tm_bind (tm_sizeOf _) fun n => tm_ite ?_ (tm_pure _)
      unfold partAt
      exact tm_bind (tm_byteOf _) fun b => tm_bind (tm_byteOf _) fun c => tm_pure _
    · exact tm_stuck _
  · exact tm_stuck _
theorem tm_callFunc (f : FuncId) (xs : Array Value) (h : callOk F' F f = true) : TM T F' F (callFunc f xs) := by
  unfold callFunc
  refine .program ?_
  unfold callOk at h
  cases h1 : F'[f]? with
  | none => rw [h1] at h; simp at h
  | some a =>
    cases h2 : F[f]? with
    | none => rw [h1, h2] at h; simp at h
    | some b =>
      rw [h1, h2] at h
      simp only [Bool.and_eq_true, Bool.not_eq_true'] at h
      obtain ⟨⟨⟨ha, hb⟩, hc⟩, hd⟩ := h
      have ha' : a.body.isNone = false := by cases ha' : a.body <;> simp_all
      have hb' : b.body.isNone = false := by cases hb' : b.body <;> simp_all
      show Tame _ _ Eq (match F'[f]? with | none => _ | some fn => _) (match F[f]? with | none => _ | some fn => _)
      rw [h1, h2]
      show Tame _ _ Eq (if (a.name == "runtime.NumGoroutine") = true then _ else if a.body.isNone = true then _ else (pure (Next.enter f xs) : Sem Next)) (if (b.name == "runtime.NumGoroutine") = true then _ else if b.body.isNone = true then _ else (pure (Next.enter f xs) : Sem Next))
      rw [hc, hd, ha', hb']
      exact tm_pure _
theorem tm_v {s : Sem Value} (h : TM T F' F s) : TM T F' F (do pure (Next.value (← s)) : Sem Next) := tm_bind h fun _ => tm_pure _
theorem tm_u {s : Sem Unit} (h : TM T F' F s) : TM T F' F (do s; pure Next.skip : Sem Next) := tm_bind h fun _ => tm_pure _
theorem tm_nilCheck (x : Value) : TM T F' F (match x with
    | .pointer none | .nilIface | .nilFunc => runtimePanic .nilDeref
    | .func (.method name) first captured =>
      match (first[0]? : Option Value) with
      | some .nilIface => runtimePanic .nilDeref
      | some (.iface t w) => do
        if (← nilAhead ((← program).types.size + Made.depth) t w name) != some false then
          unsupported (.noEntry "op/nilCheck.the method's receiver behind this interface value is a nil pointer, or cannot be seen to be none, and the arguments act or may panic (ledger 612)")
        pure (.value (.func (.method name) first captured))
      | _ => pure (.value (.func (.method name) first captured))
    | x => pure (.value x) : Sem Next) := by
  split
  · exact tm_nilDeref
  · exact tm_nilDeref
  · exact tm_nilDeref
  · split
    · exact tm_nilDeref
    · refine tm_prog' rfl ?_
      exact tm_bind (tm_nilAhead _ _ _ _) fun r => tm_ite (tm_bind (tm_unsup trivial) fun _ => tm_pure _) (tm_pure _)
    · exact tm_pure _
  · exact tm_pure _
theorem tm_makeChan (t : TypeId) (x : Value) : TM T F' F (Instr.makeChan t x) := by
  unfold Instr.makeChan
  refine tm_bind (tm_asInt _) fun n => tm_bind (tm_underlying _) fun d => ?_
  split
  · refine tm_bind (tm_typeInfo _) fun i => ?_
    refine tm_ite (tm_bind ?_ fun _ => ?_) ?_
    · unfold runtimePanic; exact tm_prog .panic
    · exact tm_bind (.new (by simp) fun r => .pure rfl) fun r => tm_pure _
    · exact tm_bind (.new (by simp) fun r => .pure rfl) fun r => tm_pure _
  · exact tm_stuck _
theorem tm_execOp (ρ : Operand → Value) (hρ : ∀ f, ρ (.func f) = .func (.func f) #[] #[]) (o : Oper) (h : opOk T F' F o.op = true) : TM T F' F (execOp ρ o) := by
  unfold execOp
  extract_lets v u
  cases e : o.op <;> rw [e] at h <;> try (simp [opOk] at h; done)
  case move x => exact tm_pure _
  case assign x => exact tm_pure _
  case pick c a b => exact tm_bind (tm_asBool _) fun _ => tm_pure _
  case alloc t => exact tm_v (tm_alloc _)
  case box t x => exact tm_v (tm_box _ _)
  case build t ps => exact tm_v (tm_build _ _)
  case buildSlice t n ps => exact tm_v (tm_buildSlice _ _ _)
  case load t a => exact tm_v (tm_loadAt _ _)
  case store t a x => exact tm_u (tm_storeAt _ _ _)
  case nilCheck x => exact tm_nilCheck _
  case binOp op t x y => 
    simp only [opOk, Bool.and_eq_true, Bool.not_eq_true'] at h
    exact tm_v (tm_bind (tm_eqGuard _ _ _ _ _ _ h.2) fun _ => tm_binOp _ _ _ _ h.1)
  case unOp op t x => exact tm_v (tm_unary _ _)
  case convert s d x => exact tm_v (tm_convert _ _ _ h)
  case makeChan t n => exact tm_v (tm_makeChan _ _)
  case makeSlice t l c => exact tm_v (tm_makeSlice _ _ _)
  case slice t x lo hi mx => exact tm_v (tm_sliceAt _ _ _ _ _)
  case fieldAddr s x f => exact tm_v (tm_fieldAt _ _ _)
  case field t x f => exact tm_v (tm_field _ _ _)
  case indexAddr t x i => exact tm_v (tm_indexAt _ _ _)
  case extract t i => exact tm_v (tm_extract _ _)
  case call c =>
    simp only [opOk] at h
    show TM T F' F (resolve ρ c o.type >>= fun d => invoke d.target d.args)
    unfold resolve
    cases ec : c.callee with
    | builtin b =>
      rw [ec] at h
      cases b <;> try (simp at h; done)
      case append => exact tm_v (tm_append _ _ _)
      case copy => exact tm_v (tm_copy _ _ _)
      case len => exact tm_v (tm_len _ _ _ h)
    | invoke r n => rw [ec] at h; simp at h
    | value f =>
      rw [ec] at h
      cases f <;> try (simp at h; done)
      case func f =>
        show TM T F' F (Deferred.ofValue (ρ (.func f)) (c.args.map ρ) >>= fun d => invoke d.target d.args)
        rw [hρ]
        show TM T F' F (callFunc f ((#[] ++ c.args.map ρ) ++ #[]))
        exact tm_callFunc _ _ h
end
end Go.Proofs.Tr
