/-
  Words for memory: a slice of updates that reads as a list, a slice of numbers, worlds that have only grown.
-/
import Derived.WalkKit
import Derived.Deep.Draws
import Derived.Test.YtciekjplhbimdaaZBPure
set_option linter.all false
set_option maxRecDepth 100000
namespace Go.Proofs.YtciekjplhbimdaaZ
open Go.RowKit

theorem hide {p : Prop} (h : p) : Hid p := h

/-- Nothing that was there has turned. -/
abbrev Ext (w w' : World) : Prop := Below w.heap.size w w'
theorem ext_trans {a b c : World} (h : Ext a b) (k : Ext b c) : Ext a c := Below.trans h (k.mono h.size)
theorem ext_refl (w : World) : Ext w w := Below.refl _ _
theorem ext_alloc {a w : World} (h : Ext a w) (o : Obj) : Ext a (w.alloc o) := h.alloc h.size o
theorem ext_drewN {a w : World} (h : Ext a w) (n : Nat) : Ext a (w.drewN n) := ⟨h.os, h.tape, h.output, h.size, h.block⟩
theorem ext_drew {a w : World} (h : Ext a w) : Ext a w.drew := h.drew

theorem ext_cell {w w' : World} (h : Ext w w') {b o : Nat} {v : Value} (hc : w.cell? ⟨b, o, none⟩ = some v) : w'.cell? ⟨b, o, none⟩ = some v :=
  (h.cell (p := ⟨b, o, none⟩) (World.block_lt_of_cell? w _ hc)).trans hc

/-- The two rules that the walk takes by itself behind a call. -/
theorem bcell {W w1 : World} {B : Nat} (hb : Below B W w1) : (∀ b o, b < B → w1.cell? ⟨b, o, none⟩ = W.cell? ⟨b, o, none⟩) ∧ (∀ b o, b < B → w1.frozen? ⟨b, o, none⟩ = W.frozen? ⟨b, o, none⟩) :=
  ⟨fun b o h => hb.cell (p := ⟨b, o, none⟩) h, fun b o h => hb.frozen (p := ⟨b, o, none⟩) h⟩

/-! ### Logs -/
/-- The cells of a log. -/
def ucells : List Upd → List Value
  | [] => []
  | u :: l => .int .i64 u.1 :: .int .i64 u.2 :: ucells l
theorem ucells_len : ∀ l : List Upd, (ucells l).length = l.length * 2
  | [] => rfl
  | u :: l => by simp [ucells, ucells_len l]; omega
theorem ucells_append : ∀ a b : List Upd, ucells (a ++ b) = ucells a ++ ucells b
  | [], b => rfl
  | u :: a, b => by simp [ucells, ucells_append a b]
theorem ucells_fst : ∀ (l : List Upd) (i : Nat) (hi : i < l.length), (ucells l)[i * 2]? = some (.int .i64 (l[i]).1)
  | [], i, hi => by simp at hi
  | u :: l, 0, _ => by simp [ucells]
  | u :: l, i + 1, hi => by
    have e : (i + 1) * 2 = i * 2 + 1 + 1 := by omega
    rw [e]; simpa [ucells] using ucells_fst l i (by simpa using hi)
theorem ucells_snd : ∀ (l : List Upd) (i : Nat) (hi : i < l.length), (ucells l)[i * 2 + 1]? = some (.int .i64 (l[i]).2)
  | [], i, hi => by simp at hi
  | u :: l, 0, _ => by simp [ucells]
  | u :: l, i + 1, hi => by
    have e : (i + 1) * 2 + 1 = i * 2 + 1 + 1 + 1 := by omega
    rw [e]; simpa [ucells] using ucells_snd l i (by simpa using hi)
theorem ucells_one : ∀ (l : List Upd), ∀ u ∈ ucells l, u.oneCell' = true
  | [], u, h => by simp [ucells] at h
  | x :: l, u, h => by
    simp only [ucells, List.mem_cons] at h
    rcases h with rfl | rfl | h
    · rfl
    · rfl
    · exact ucells_one l u h
theorem ucells_drop : ∀ (l : List Upd) (k : Nat), (ucells l).drop (k * 2) = ucells (l.drop k)
  | l, 0 => by simp
  | [], k + 1 => by simp [ucells]
  | u :: l, k + 1 => by
    have e : (k + 1) * 2 = k * 2 + 1 + 1 := by omega
    rw [e]; simpa [ucells] using ucells_drop l k
theorem ucells_take : ∀ (l : List Upd) (k : Nat), (ucells l).take (k * 2) = ucells (l.take k)
  | l, 0 => by simp [ucells]
  | [], k + 1 => by simp [ucells]
  | u :: l, k + 1 => by
    have e : (k + 1) * 2 = k * 2 + 1 + 1 := by omega
    rw [e]; simpa [ucells] using ucells_take l k

/-- The address A leads to the cells cs (asked only where there are any). -/
def CellsR (w : World) (A : Option Addr) (cs : List Value) : Prop :=
  0 < cs.length → ∃ b o, A = some ⟨b, o, none⟩ ∧ ∀ j u, cs[j]? = some u → w.cell? ⟨b, o + j, none⟩ = some u
theorem CellsR.nil (w : World) (A : Option Addr) : CellsR w A [] := fun h => absurd h (by simp)
theorem CellsR.ext {w w' : World} {A : Option Addr} {cs : List Value} (h : CellsR w A cs) (hb : Ext w w') : CellsR w' A cs := fun hp => by
  obtain ⟨b, o, e, hc⟩ := h hp
  exact ⟨b, o, e, fun j u hu => ext_cell hb (hc j u hu)⟩
theorem CellsR.drewN {w : World} {A : Option Addr} {cs : List Value} (h : CellsR w A cs) (n : Nat) : CellsR (w.drewN n) A cs := h
theorem CellsR.alloc {w : World} {A : Option Addr} {cs : List Value} (h : CellsR w A cs) (o : Obj) : CellsR (w.alloc o) A cs := h.ext (ext_alloc (ext_refl w) o)

/-- A slice of updates: its address, and what it reads as. -/
def LogR (w : World) (A : Option Addr) (l : List Upd) : Prop := CellsR w A (ucells l)
theorem LogR.ext {w w' : World} {A : Option Addr} {l : List Upd} (h : LogR w A l) (hb : Ext w w') : LogR w' A l := CellsR.ext h hb
theorem LogR.at_ {w : World} {A : Option Addr} {l : List Upd} (h : LogR w A l) {i : Nat} (hi : i < l.length) :
    ∃ b o, A = some ⟨b, o, none⟩ ∧ b < w.heap.size ∧ w.cell? ⟨b, o + i * 2, none⟩ = some (.int .i64 (l[i]).1) ∧ w.cell? ⟨b, o + (i * 2 + 1), none⟩ = some (.int .i64 (l[i]).2) := by
  obtain ⟨b, o, e, hc⟩ := h (by rw [ucells_len]; omega)
  have h1 := hc _ _ (ucells_fst l i hi)
  exact ⟨b, o, e, World.block_lt_of_cell? w _ h1, h1, hc _ _ (ucells_snd l i hi)⟩

/-- A slice of numbers. -/
def icells (l : List Int) : List Value := l.map (Value.int .i64)
def IntsR (w : World) (A : Option Addr) (l : List Int) : Prop := CellsR w A (icells l)
theorem IntsR.ext {w w' : World} {A : Option Addr} {l : List Int} (h : IntsR w A l) (hb : Ext w w') : IntsR w' A l := CellsR.ext h hb
theorem icells_len (l : List Int) : (icells l).length = l.length := by simp [icells]
theorem icells_at (l : List Int) (i : Nat) (hi : i < l.length) : (icells l)[i]? = some (.int .i64 l[i]) := by simp [icells, hi]
theorem icells_one (l : List Int) : ∀ u ∈ icells l, u.oneCell' = true := ints_oneCell _ l
theorem IntsR.at_ {w : World} {A : Option Addr} {l : List Int} (h : IntsR w A l) {i : Nat} (hi : i < l.length) :
    ∃ b o, A = some ⟨b, o, none⟩ ∧ b < w.heap.size ∧ w.cell? ⟨b, o + i, none⟩ = some (.int .i64 l[i]) := by
  obtain ⟨b, o, e, hc⟩ := h (by rw [icells_len]; omega)
  have h1 := hc _ _ (icells_at l i hi)
  exact ⟨b, o, e, World.block_lt_of_cell? w _ h1, h1⟩

/-- What the call owns reads. -/
theorem CellsR.of_own {w : World} {base : Nat} {e : TypeId} {size n : Nat} {A : Option Addr} {c : Nat} {xs : List Value} (h : w.ownsRow base e size (.slice A n c) n xs) : CellsR w A xs := by
  intro hp
  rcases h.2 with ⟨hv, hn⟩ | ⟨g, cap, cur, hv, _, _, _, _, _, _⟩
  · have := h.1
    rw [hn] at this
    omega
  · injection hv with hA
    subst hA
    refine ⟨g, 0, rfl, fun j u hu => ?_⟩
    have := h.cells (g := g) rfl j u hu
    simpa [Addr.add_lit] using this

/-! ### A block that is known whole -/
def Blk (w : World) (g : Nat) (t : TypeId) (cs : Array Value) : Prop := w.heap[g]? = some (.cells cs t (0, 0))
section
variable {w w' : World} {g : Nat} {t : TypeId} {cs : Array Value}
theorem Blk.lt (h : Blk w g t cs) : g < w.heap.size := (Array.getElem?_eq_some_iff.1 h).1
theorem Blk.cell (h : Blk w g t cs) (i : Nat) : w.cell? ⟨g, i, none⟩ = cs[i]? := cell_of_row w g i cs t (0, 0) h
theorem Blk.frozen (h : Blk w g t cs) (i : Nat) : w.frozen? ⟨g, i, none⟩ = false := by
  unfold Blk at h
  simp [World.frozen?, h]
theorem Blk.new (w : World) (t : TypeId) (cs : Array Value) : Blk (w.alloc (.cells cs t)) w.heap.size t cs := heap_alloc_new w _
theorem Blk.alloc (h : Blk w g t cs) (o : Obj) : Blk (w.alloc o) g t cs := (Below.heap_alloc w o g h.lt).trans h
theorem Blk.set_ (h : Blk w g t cs) (i : Nat) (u : Value) : Blk (w.setCell ⟨g, i, none⟩ u) g t (cs.setIfInBounds i u) := by
  unfold Blk at h ⊢
  simp [World.setCell, Array.getElem?_modify, h]
theorem Blk.far (h : Blk w g t cs) {p : Addr} (hp : g ≠ p.block) (u : Value) : Blk (w.setCell p u) g t cs := (Below.heap_setCell w p u g hp).trans h
theorem Blk.below {B : Nat} (h : Blk w g t cs) (hb : Below B w w') (hg : g < B) : Blk w' g t cs := (hb.block g hg).trans h
theorem Blk.ext (h : Blk w g t cs) (hb : Ext w w') : Blk w' g t cs := h.below hb h.lt
theorem Blk.grown {row : Option Nat} (h : Blk w g t cs) (hb : w.grownBy w' row) (hg : some g ≠ row) : Blk w' g t cs := (hb.block g h.lt hg).trans h
end

/-! ### Only one block has turned -/
theorem only_drewN {a w : World} {row : Option Nat} (h : a.grownBy w row) (n : Nat) : a.grownBy (w.drewN n) row := ⟨h.os, h.tape, h.output, h.size, h.block⟩
theorem only_alloc {a w : World} {row : Option Nat} (h : a.grownBy w row) (o : Obj) : a.grownBy (w.alloc o) row :=
  ⟨h.os, h.tape, h.output, Nat.le_trans h.size (by simp), fun i hi hne => (Below.heap_alloc w o i (Nat.lt_of_lt_of_le hi h.size)).trans (h.block i hi hne)⟩
theorem only_setCell {a w : World} {g : Nat} (h : a.grownBy w (some g)) {p : Addr} (hp : p.block = g ∨ a.heap.size ≤ p.block) (u : Value) : a.grownBy (w.setCell p u) (some g) :=
  ⟨h.os, h.tape, h.output, by simpa [World.setCell] using h.size, fun i hi hne => (Below.heap_setCell w p u i (by
    rintro rfl
    rcases hp with hp | hp
    · exact hne (by rw [hp])
    · omega)).trans (h.block i hi hne)⟩
theorem only_ext {a w w' : World} {row : Option Nat} (h : a.grownBy w row) (k : Ext w w') : a.grownBy w' row :=
  ⟨k.os.trans h.os, k.tape.trans h.tape, k.output.trans h.output, Nat.le_trans h.size k.size, fun i hi hn => (k.block i (Nat.lt_of_lt_of_le hi h.size)).trans (h.block i hi hn)⟩
theorem only_of_ext {a w : World} (h : Ext a w) (row : Option Nat) : a.grownBy w row := ⟨h.os, h.tape, h.output, h.size, fun i hi _ => h.block i hi⟩
/-- Behind a step that turns block g, or a row of the call's own. -/
theorem only_trans {a w w' : World} {g : Nat} {row : Option Nat} (h : a.grownBy w (some g)) (k : w.grownBy w' row) (hr : ∀ i, row = some i → i = g ∨ a.heap.size ≤ i) : a.grownBy w' (some g) :=
  ⟨k.os.trans h.os, k.tape.trans h.tape, k.output.trans h.output, Nat.le_trans h.size k.size, fun i hi hn => (k.block i (Nat.lt_of_lt_of_le hi h.size) (by
    intro e
    rcases hr i e.symm with h1 | h1
    · exact hn (by rw [h1])
    · omega)).trans (h.block i hi hn)⟩
theorem only_pick {a w w' : World} {g : Nat} (h : a.grownBy w (some g)) (k : w.grownBy w' (some g)) : a.grownBy w' (some g) :=
  only_trans h k fun i e => .inl (by injection e with e; exact e.symm)
/-- A world in which only a new block has turned has only grown. -/
theorem ext_of_only {a w : World} {g : Nat} (h : a.grownBy w (some g)) (hg : a.heap.size ≤ g) : Ext a w :=
  ⟨h.os, h.tape, h.output, h.size, fun i hi => h.block i hi (by intro e; injection e with e; omega)⟩

end Go.Proofs.YtciekjplhbimdaaZ
