/-
  Words for memory: nodes; copy as a law for rows whose elements have several cells.
-/
import Derived.Test.YtciekjplhbimdaaZBPure
import Derived.Test.YtciekjplhbimdaaZExact1
import Derived.Test.YtciekjplhbimdaaZStates3
import Derived.Laws.CopyOwn
set_option linter.all false
set_option maxRecDepth 100000
namespace Go.Proofs.YtciekjplhbimdaaZ
open Go.RowKit

/-! ### Blocks of two and of three cells -/
section
variable {w w' : World} {g : Nat} {t : TypeId} {v0 v1 v2 : Value} {cs : Array Value}
theorem Blk.at2 (h : Blk w g t #[v0, v1]) : w.cell? ⟨g, 0, none⟩ = some v0 ∧ w.cell? ⟨g, 1, none⟩ = some v1 ∧ g < w.heap.size := ⟨h.cell 0, h.cell 1, h.lt⟩
theorem Blk.at3 (h : Blk w g t #[v0, v1, v2]) : w.cell? ⟨g, 0, none⟩ = some v0 ∧ w.cell? ⟨g, 1, none⟩ = some v1 ∧ w.cell? ⟨g, 2, none⟩ = some v2 ∧ g < w.heap.size := ⟨h.cell 0, h.cell 1, h.cell 2, h.lt⟩
theorem Blk.at2f (h : Blk w g t #[v0, v1]) : w.cell? ⟨g, 0, none⟩ = some v0 ∧ w.cell? ⟨g, 1, none⟩ = some v1 ∧ g < w.heap.size ∧ w.frozen? ⟨g, 0, none⟩ = false ∧ w.frozen? ⟨g, 1, none⟩ = false := ⟨h.cell 0, h.cell 1, h.lt, h.frozen 0, h.frozen 1⟩
theorem Blk.at3f (h : Blk w g t #[v0, v1, v2]) : w.cell? ⟨g, 0, none⟩ = some v0 ∧ w.cell? ⟨g, 1, none⟩ = some v1 ∧ w.cell? ⟨g, 2, none⟩ = some v2 ∧ g < w.heap.size ∧ w.frozen? ⟨g, 0, none⟩ = false ∧ w.frozen? ⟨g, 1, none⟩ = false ∧ w.frozen? ⟨g, 2, none⟩ = false :=
  ⟨h.cell 0, h.cell 1, h.cell 2, h.lt, h.frozen 0, h.frozen 1, h.frozen 2⟩
theorem Blk.newAt (w : World) (t : TypeId) (cs : Array Value) {g : Nat} (hg : w.heap.size = g) : Blk (w.alloc (.cells cs t)) g t cs := by subst hg; exact Blk.new w t cs
/-- The same where only draws lie between. -/
theorem Blk.over {w1 : World} (h : Blk w g t cs) (hF : Ext w1 w') (hw : w1.heap = w.heap) : Blk w' g t cs := Blk.ext (w := w1) (by unfold Blk; rw [hw]; exact h) hF
theorem ext_over {a w1 : World} (h : Ext a w) (hF : Ext w1 w') (h1 : w1.heap = w.heap) (h2 : w1.os = w.os) (h3 : w1.tape = w.tape) (h4 : w1.output = w.output) : Ext a w' :=
  ⟨hF.os.trans (h2.trans h.os), hF.tape.trans (h3.trans h.tape), hF.output.trans (h4.trans h.output), Nat.le_trans h.size (by rw [← h1]; exact hF.size), fun i hi => (hF.block i (by rw [h1]; exact Nat.lt_of_lt_of_le hi h.size)).trans (by rw [h1]; exact h.block i hi)⟩
theorem CellsR.over {w1 : World} {A : Option Addr} {xs : List Value} (h : CellsR w A xs) (hF : Ext w1 w') (hw : w1.heap = w.heap) : CellsR w' A xs := CellsR.ext (w := w1) (fun hp => by
  obtain ⟨b, o, e, hc⟩ := h hp
  exact ⟨b, o, e, fun j u hu => (World.cell?_of_block (by rw [hw])).trans (hc j u hu)⟩) hF
end

/-! ### A log of the call's own -/
def OwnU (w : World) (base : Nat) (A : Option Addr) (c : Nat) (l : List Upd) : Prop := w.ownsRow base 39 2 (.slice A l.length c) l.length (ucells l)
section
variable {w w' : World} {base : Nat} {A : Option Addr} {c : Nat} {l : List Upd}
theorem OwnU.ext (h : OwnU w base A c l) (hE : Ext w w') : OwnU w' base A c l := World.ownsRow.kept h (only_of_ext hE none) (by cases (Value.slice A l.length c).ownBlock <;> simp)
theorem OwnU.log (h : OwnU w base A c l) : LogR w A l := CellsR.of_own h
theorem OwnU.mono {base' : Nat} (h : OwnU w base A c l) (hb : base' ≤ base) : OwnU w base' A c l := own_mono h hb
theorem OwnU.cap (h : OwnU w base A c l) : l.length ≤ c ∧ c ≤ maxLen := by
  obtain ⟨A', c', hv, h1, h2⟩ := own_form h
  injection hv with _ _ hc
  subst hc
  exact ⟨h1, h2⟩
theorem OwnU.set_ (h : OwnU w base A c l) {p : Addr} (hp : p.block < base) (u : Value) : OwnU (w.setCell p u) base A c l := RowKit.ownsRow_setCell_below h hp u
theorem OwnU.nil (w : World) (base : Nat) : OwnU w base none 0 [] := World.ownsRow_nil w base _ _
end

/-! ### A node is handed back -/
def GotNode (w : World) (x : Nd) (e : Ending) (w' : World) : Prop :=
  ∃ (A : Option Addr) (c : Nat), e = .returned (.agg #[.int .i64 x.id, .slice A x.log.length c, .int .i64 x.done]) ∧ OwnU w' w.heap.size A c x.log ∧ Ext w w'
def GotNodeB (w : World) (x : Nd) (b : Bool) (e : Ending) (w' : World) : Prop :=
  ∃ (A : Option Addr) (c : Nat), e = .returned (.tuple #[.agg #[.int .i64 x.id, .slice A x.log.length c, .int .i64 x.done], .bool b]) ∧ OwnU w' w.heap.size A c x.log ∧ Ext w w'
theorem GotNode.use {w w' : World} {i j : Int} {l : List Upd} {e : Ending} (h : GotNode w ⟨i, l, j⟩ e w') :
    ∃ A c, e = .returned (.agg #[.int .i64 i, .slice A l.length c, .int .i64 j]) ∧ l.length ≤ c ∧ c ≤ maxLen ∧ Hid (OwnU w' w.heap.size A c l) ∧ Ext w w' := by
  obtain ⟨A, c, rfl, h1, h2⟩ := h
  exact ⟨A, c, rfl, h1.cap.1, h1.cap.2, h1, h2⟩
theorem GotNodeB.use {w w' : World} {i j : Int} {l : List Upd} {b : Bool} {e : Ending} (h : GotNodeB w ⟨i, l, j⟩ b e w') :
    ∃ A c, e = .returned (.tuple #[.agg #[.int .i64 i, .slice A l.length c, .int .i64 j], .bool b]) ∧ l.length ≤ c ∧ c ≤ maxLen ∧ Hid (OwnU w' w.heap.size A c l) ∧ Ext w w' := by
  obtain ⟨A, c, rfl, h1, h2⟩ := h
  exact ⟨A, c, rfl, h1.cap.1, h1.cap.2, h1, h2⟩
theorem gotNodeB_of {w w' : World} {x : Nd} {b b' : Bool} {i j : Int} {l : List Upd} {A : Option Addr} {c : Nat} (hx : x = ⟨i, l, j⟩) (hb : b' = b) (h1 : OwnU w' w.heap.size A c l) (h2 : Ext w w') :
    GotNodeB w x b' (.returned (.tuple #[.agg #[.int .i64 i, .slice A l.length c, .int .i64 j], .bool b])) w' := by
  subst hx hb; exact ⟨A, c, rfl, h1, h2⟩
theorem gotNodeB_zero {w w' : World} {x : Nd} {b : Bool} (hx : x = Nd.zero) (hb : b = false) (h2 : Ext w w') :
    GotNodeB w x b (.returned (.tuple #[.agg #[.int .i64 0, .slice none 0 0, .int .i64 0], .bool false])) w' := by
  subst hx hb; exact ⟨none, 0, rfl, OwnU.nil _ _, h2⟩
/-- A log is handed back. -/
def GotRowU (w : World) (l : List Upd) (e : Ending) (w' : World) : Prop :=
  ∃ (A : Option Addr) (c : Nat), e = .returned (.slice A l.length c) ∧ OwnU w' w.heap.size A c l ∧ Ext w w'
theorem GotRowU.use {w w' : World} {l : List Upd} {e : Ending} (h : GotRowU w l e w') :
    ∃ A c, e = .returned (.slice A l.length c) ∧ l.length ≤ c ∧ c ≤ maxLen ∧ Hid (OwnU w' w.heap.size A c l) ∧ Ext w w' := by
  obtain ⟨A, c, rfl, h1, h2⟩ := h
  exact ⟨A, c, rfl, h1.cap.1, h1.cap.2, h1, h2⟩

/-! ### copy of whole elements into a row of the call's own -/
section
variable {P : Program} {w : World}
theorem run_copy_whole (dT sT ty elem : TypeId) (i : TypeInfo) (base size g n c c' : Nat) (xs cs : List Value) (A : Option Addr)
    (hu : P.underlying dT = some (.slice elem)) (hi : P.info? elem = some i) (hsz : i.size = size) (hown : w.ownsRow base elem size (.slice (some ⟨g, 0, none⟩) n c) n xs)
    (hl : cs.length = n * size) (hr : CellsR w A cs) (h1 : ∀ u ∈ cs, u.oneCell' = true) :
    ∃ w', (Builtin.copy_ #[dT, sT] ty #[.slice (some ⟨g, 0, none⟩) n c, .slice A n c']).run P w = .ok (goInt n) w' ∧ w'.ownsRow base elem size (.slice (some ⟨g, 0, none⟩) n c) n cs ∧ w.grownBy w' (some g) := by
  rcases hown.2 with ⟨hv, _⟩ | ⟨g', cap, cur, hv, hb, hg, hn, hcm, hcs, _⟩
  · cases hv
  injection hv with hA _ hc
  injection hA with hA
  injection hA with hA
  subst hA hc
  have hfit : n * size ≤ c * size := Nat.mul_le_mul_right _ hn
  have hst := run_storeCells_at P g 0 elem cs 0 cur w hg (by omega) h1
  have hw' : (w.setRow g (cur.toList.take (0 + 0) ++ cs ++ cur.toList.drop (0 + 0 + cs.length)).toArray).ownsRow base elem size (.slice (some ⟨g, 0, none⟩) n c) n cs := by
    refine ⟨hl, .inr ⟨g, c, _, rfl, hb, setRow_heap w g _ _ _ _ hg, hn, hcm, ?_, ?_⟩⟩
    · simp; omega
    · simp [List.take_append, ← hl]
  have hgr : w.grownBy (w.setRow g (cur.toList.take (0 + 0) ++ cs ++ cur.toList.drop (0 + 0 + cs.length)).toArray) (some g) :=
    ⟨rfl, rfl, rfl, by simp [World.setRow], fun k _ hk => setRow_other w g k _ (fun e => hk (by rw [e]))⟩
  refine ⟨_, ?_, hw', hgr⟩
  have hld : (Builtin.firstCells size n (.slice A n c')).run P w = .ok cs.toArray w := by
    rcases A with _ | ad
    · have : cs = [] := by
        rcases Nat.eq_zero_or_pos cs.length with h0 | h0
        · exact List.eq_nil_of_length_eq_zero h0
        · obtain ⟨b, o, h, _⟩ := hr h0
          cases h
      subst this
      simp [Builtin.firstCells]
    · simp only [Builtin.firstCells]
      rw [← hl]
      refine run_loadCells_list (P := P) w ad cs fun j u hu => ?_
      obtain ⟨b, o, h, hc⟩ := hr (by have := (List.getElem?_eq_some_iff.1 hu).1; omega)
      injection h with h
      subst h
      rw [Addr.add_lit]
      exact hc j u hu
  have hmin : Nat.min n n = n := Nat.min_self n
  simp [Builtin.copy_, run_underlying hu, Builtin.lenOf, sizeOf, typeInfo, hi, hsz, hmin, hld]
  simp at hst
  simp [hst]

theorem wpList_copy_whole {ops : Array Oper} {rest : List Oper} {o : Oper} {a : Act} {Q : Exit → Act → World → Prop} (hgd : o.guard = none) (d s : Operand) (dT sT : TypeId)
    (ho : o.op = .call { callee := .builtin .copy, args := #[d, s], argTypes := #[dT, sT] })
    (base : Nat) (elem : TypeId) (i : TypeInfo) (size : Nat) (hu : P.underlying dT = some (.slice elem)) (hi : P.info? elem = some i) (hsz : i.size = size)
    (g n c : Nat) (xs : List Value) (hd : a.eval d = .slice (some ⟨g, 0, none⟩) n c) (hown : w.ownsRow base elem size (.slice (some ⟨g, 0, none⟩) n c) n xs)
    (A : Option Addr) (c' : Nat) (cs : List Value) (hs : a.eval s = .slice A n c') (hl : cs.length = n * size) (hr : CellsR w A cs) (h1 : ∀ u ∈ cs, u.oneCell' = true)
    (h : ∀ w', w'.ownsRow base elem size (.slice (some ⟨g, 0, none⟩) n c) n cs → w.grownBy w' (some g) → wpList P ops Q rest (a.put o.dst (goInt n)) w') : wpList P ops Q (o :: rest) a w := by
  refine wpList_plain hgd fun K hK => ?_
  obtain ⟨w', hrun, h2, h3⟩ := run_copy_whole (P := P) dT sT o.type elem i base size g n c c' xs cs A hu hi hsz hown hl hr h1
  unfold Oper.wp
  simp [execOp, ho, resolve, invoke, builtin, hd, hs, hrun, Result.andThen]
  exact hK _ _ (h _ h2 h3)
end
end Go.Proofs.YtciekjplhbimdaaZ
