/-
  Contracts: marks laid into logs and nodes of the call's own, and read again.
-/
import Derived.Test.YtciekjplhbimdaaZNodes4
import Derived.Test.YtciekjplhbimdaaZMark
set_option linter.all false
set_option maxRecDepth 100000
namespace Go.Proofs.YtciekjplhbimdaaZ
open Go.RowKit

/-! ### What has turned lies within a range of blocks -/
structure Turned (lo hi : Nat) (w w' : World) : Prop where
  os : w'.os = w.os
  tape : w'.tape = w.tape
  output : w'.output = w.output
  size : w.heap.size ≤ w'.heap.size
  block : ∀ k, k < w.heap.size → (k < lo ∨ hi ≤ k) → w'.heap[k]? = w.heap[k]?
theorem Turned.refl (lo hi : Nat) (w : World) : Turned lo hi w w := ⟨rfl, rfl, rfl, Nat.le_refl _, fun _ _ _ => rfl⟩
theorem Turned.trans {lo hi : Nat} {a b c : World} (h : Turned lo hi a b) (k : Turned lo hi b c) : Turned lo hi a c :=
  ⟨k.os.trans h.os, k.tape.trans h.tape, k.output.trans h.output, Nat.le_trans h.size k.size, fun i hi hh => (k.block i (Nat.lt_of_lt_of_le hi h.size) hh).trans (h.block i hi hh)⟩
theorem Turned.of_ext {lo hi : Nat} {a b : World} (h : Ext a b) : Turned lo hi a b := ⟨h.os, h.tape, h.output, h.size, fun i hi _ => h.block i hi⟩
theorem Turned.of_only {lo hi g : Nat} {w w' : World} (h : w.grownBy w' (some g)) (h1 : lo ≤ g) (h2 : g < hi) : Turned lo hi w w' :=
  ⟨h.os, h.tape, h.output, h.size, fun k hk hh => h.block k hk (by intro e; injection e with e; omega)⟩
theorem Turned.of_row {lo hi : Nat} {row : Option Nat} {w w' : World} (h : w.grownBy w' row) (h1 : ∀ g, row = some g → lo ≤ g ∧ g < hi) : Turned lo hi w w' :=
  ⟨h.os, h.tape, h.output, h.size, fun k hk hh => h.block k hk (by intro e; have := h1 k e.symm; omega)⟩
theorem Turned.ext {lo hi : Nat} {w0 w w' : World} (hE : Ext w0 w) (h : Turned lo hi w w') (hs : w0.heap.size ≤ lo) : Ext w0 w' :=
  ⟨h.os.trans hE.os, h.tape.trans hE.tape, h.output.trans hE.output, Nat.le_trans hE.size h.size, fun i hi => (h.block i (Nat.lt_of_lt_of_le hi hE.size) (by omega)).trans (hE.block i hi)⟩
theorem Blk.turned {lo hi g : Nat} {t : TypeId} {cs : Array Value} {w w' : World} (h : Blk w g t cs) (ht : Turned lo hi w w') (hs : g < lo ∨ hi ≤ g) : Blk w' g t cs := (ht.block g h.lt hs).trans h

/-- A row of the call's own that lies within a range of blocks. -/
def RowIn (w : World) (lo hi : Nat) (e : TypeId) (size : Nat) (v : Value) (n : Nat) (xs : List Value) : Prop := w.ownsRow lo e size v n xs ∧ ∀ g, v.ownBlock = some g → g < hi
section
variable {w w' : World} {lo hi a b : Nat} {e : TypeId} {size n : Nat} {v : Value} {xs : List Value}
theorem RowIn.ext (h : RowIn w a b e size v n xs) (hE : Ext w w') : RowIn w' a b e size v n xs := ⟨h.1.kept (only_of_ext hE none) (by cases v.ownBlock <;> simp), h.2⟩
theorem RowIn.turned (h : RowIn w a b e size v n xs) (ht : Turned lo hi w w') (hs : b ≤ lo ∨ hi ≤ a) : RowIn w' a b e size v n xs := by
  refine ⟨⟨h.1.1, ?_⟩, h.2⟩
  rcases h.1.2 with h0 | ⟨g, cap, cur, rfl, hb, hg, r⟩
  · exact .inl h0
  · have h2 := h.2 g rfl
    exact .inr ⟨g, cap, cur, rfl, hb, (ht.block g (Array.getElem?_eq_some_iff.1 hg).1 (by omega)).trans hg, r⟩
theorem RowIn.of (h : w.ownsRow a e size v n xs) : RowIn w a w.heap.size e size v n xs := ⟨h, fun g hg => (h.lt g hg).2⟩
theorem RowIn.wide {a' b' : Nat} (h : RowIn w a b e size v n xs) (ha : a' ≤ a) (hb : b ≤ b') : RowIn w a' b' e size v n xs := ⟨own_mono h.1 ha, fun g hg => Nat.lt_of_lt_of_le (h.2 g hg) hb⟩
end

/-- A log of the call's own that lies within a range of blocks. -/
def LogIn (w : World) (lo hi : Nat) (A : Option Addr) (c : Nat) (l : List Upd) : Prop := RowIn w lo hi 39 2 (.slice A l.length c) l.length (ucells l)
section
variable {w w' : World} {lo hi a b c : Nat} {A : Option Addr} {l : List Upd}
theorem LogIn.ext (h : LogIn w a b A c l) (hE : Ext w w') : LogIn w' a b A c l := RowIn.ext h hE
theorem LogIn.turned (h : LogIn w a b A c l) (ht : Turned lo hi w w') (hs : b ≤ lo ∨ hi ≤ a) : LogIn w' a b A c l := RowIn.turned h ht hs
theorem LogIn.of (h : OwnU w a A c l) : LogIn w a w.heap.size A c l := RowIn.of h
theorem LogIn.log (h : LogIn w a b A c l) : LogR w A l := CellsR.of_own h.1
theorem LogIn.wide {a' b' : Nat} (h : LogIn w a b A c l) (ha : a' ≤ a) (hb : b ≤ b') : LogIn w a' b' A c l := RowIn.wide h ha hb
end
theorem GotNode.useIn {w w' : World} {i j : Int} {l : List Upd} {e : Ending} (h : GotNode w ⟨i, l, j⟩ e w') :
    ∃ A c, e = .returned (.agg #[.int .i64 i, .slice A l.length c, .int .i64 j]) ∧ l.length ≤ c ∧ c ≤ maxLen ∧ Hid (LogIn w' w.heap.size w'.heap.size A c l) ∧ Ext w w' := by
  obtain ⟨A, c, rfl, h1, h2⟩ := h
  exact ⟨A, c, rfl, h1.cap.1, h1.cap.2, LogIn.of h1, h2⟩
theorem GotNodeB.useIn {w w' : World} {i j : Int} {l : List Upd} {b : Bool} {e : Ending} (h : GotNodeB w ⟨i, l, j⟩ b e w') :
    ∃ A c, e = .returned (.tuple #[.agg #[.int .i64 i, .slice A l.length c, .int .i64 j], .bool b]) ∧ l.length ≤ c ∧ c ≤ maxLen ∧ Hid (LogIn w' w.heap.size w'.heap.size A c l) ∧ Ext w w' := by
  obtain ⟨A, c, rfl, h1, h2⟩ := h
  exact ⟨A, c, rfl, h1.cap.1, h1.cap.2, LogIn.of h1, h2⟩
theorem GotRowU.useIn {w w' : World} {l : List Upd} {e : Ending} (h : GotRowU w l e w') :
    ∃ A c, e = .returned (.slice A l.length c) ∧ l.length ≤ c ∧ c ≤ maxLen ∧ Hid (LogIn w' w.heap.size w'.heap.size A c l) ∧ Ext w w' := by
  obtain ⟨A, c, rfl, h1, h2⟩ := h
  exact ⟨A, c, rfl, h1.cap.1, h1.cap.2, LogIn.of h1, h2⟩

/-! ### Marks in a log -/
def marksU (k : Int) : Nat → List Upd
  | 0 => []
  | n + 1 => marksU k n ++ [(k + 2 * n, k + 2 * n + 1)]
theorem marksU_len (k : Int) : ∀ n, (marksU k n).length = n
  | 0 => rfl
  | n + 1 => by simp [marksU, marksU_len k n]
theorem marksU_at (k : Int) : ∀ (n i : Nat) (hi : i < (marksU k n).length), (marksU k n)[i] = (k + 2 * i, k + 2 * i + 1)
  | 0, i, hi => by simp [marksU] at hi
  | n + 1, i, hi => by
    have hl := marksU_len k n
    by_cases h : i < n
    · simp only [marksU]
      rw [List.getElem_append_left (by omega)]
      exact marksU_at k n i (by omega)
    · have : i = n := by rw [marksU_len] at hi; omega
      subst this
      simp [marksU, hl]

def MarkedU (w : World) (base : Nat) (g n c : Nat) (k : Int) (j : Nat) (wr : World) : Prop :=
  ∃ rest : List Value, rest.length = (n - j) * 2 ∧ wr.ownsRow base 39 2 (.slice (some ⟨g, 0, none⟩) n c) n (ucells (marksU k j) ++ rest) ∧ w.grownBy wr (some g)

theorem markedU_step {w wr : World} {base g n c j : Nat} {k : Int} (h : MarkedU w base g n c k j wr) (hj : j < n) :
    (∃ u, wr.cell? ⟨g, j * 2, none⟩ = some u) ∧ (∃ u, wr.cell? ⟨g, j * 2 + 1, none⟩ = some u) ∧ wr.frozen? ⟨g, j * 2, none⟩ = false ∧ wr.frozen? ⟨g, j * 2 + 1, none⟩ = false ∧
      MarkedU w base g n c k (j + 1) ((wr.setCell ⟨g, j * 2, none⟩ (.int .i64 (k + 2 * j))).setCell ⟨g, j * 2 + 1, none⟩ (.int .i64 (k + 2 * j + 1))) := by
  obtain ⟨rest, hr, hown, hg⟩ := h
  have hl := hown.1
  have htl : (ucells (marksU k j)).length = j * 2 := by rw [ucells_len, marksU_len]
  have c0 := hown.cellAt (j * 2) (by omega)
  have c1 := hown.cellAt (j * 2 + 1) (by omega)
  refine ⟨⟨_, c0.trans (List.getElem?_eq_getElem (by omega))⟩, ⟨_, c1.trans (List.getElem?_eq_getElem (by omega))⟩, hown.frozenAt _, hown.frozenAt _, ?_⟩
  match rest, hr with
  | [], hr => simp at hr; omega
  | [a], hr => simp at hr; omega
  | a :: b :: rest, hr =>
    refine ⟨rest, by simp at hr; omega, ?_, only_setCell (only_setCell hg (.inl rfl) _) (.inl rfl) _⟩
    have h2 := ((hown.stored (j * 2) (.int .i64 (k + 2 * j))).1.stored (j * 2 + 1) (.int .i64 (k + 2 * j + 1))).1
    rw [set_two _ _ _ _ _ _ _ htl] at h2
    have e : ucells (marksU k (j + 1)) = ucells (marksU k j) ++ [.int .i64 (k + 2 * j), .int .i64 (k + 2 * j + 1)] := by simp [ucells, marksU, ucells_append]
    rw [e, List.append_assoc]
    exact h2

theorem markUpdateS_own {w : World} {base g n c : Nat} {xs : List Value} (k : Int) (h : w.ownsRow base 39 2 (.slice (some ⟨g, 0, none⟩) n c) n xs) (hn : n ≤ 1048576) (hk : 0 ≤ k) (hk' : k ≤ 16777216) :
    Calls Alt.prog 77 #[.slice (some ⟨g, 0, none⟩) n c, .int .i64 k] w fun e w' => e = .returned (.int .i64 (k + 2 * n)) ∧
      w'.ownsRow base 39 2 (.slice (some ⟨g, 0, none⟩) n c) n (ucells (marksU k n)) ∧ w.grownBy w' (some g) := by
  have hst := hide (show MarkedU w base g n c k 0 w from ⟨xs, by rw [h.1]; omega, by simpa [marksU, ucells] using h, World.grownBy.refl _ _⟩)
  clear h
  go_enter Alt.func77, Try.ntmps77
  go_wp2_with fail
  go_loopw [1, 5] (fun q i wr => ∃ j : Nat, j ≤ n ∧ i = .int .i64 j ∧ q = .int .i64 (k + 2 * j) ∧ Hid (MarkedU w base g n c k j wr)) (fun _ i _ => n - (intOf i).toNat)
  case atStart => exact ⟨0, Nat.zero_le _, rfl, by simp, hst⟩
  case round =>
    obtain ⟨j, hj, rfl, rfl, hM⟩ := hrel
    by_cases hlt : j < n
    · obtain ⟨⟨u0, c0⟩, ⟨u1, c1⟩, f0, f1, hM'⟩ := markedU_step hM.out hlt
      replace hM' := hide hM'
      clear hM
      go_wp2_with fail
      go_roundw
      case rel => exact ⟨j + 1, by omega, by go_num, by go_num, hM'⟩
      case measure => simp [intOf]; omega
    · obtain rfl : j = n := by omega
      obtain ⟨rest, hr, hown, hg⟩ := hM.out
      have hr0 : rest = [] := List.eq_nil_of_length_eq_zero (by omega)
      rw [hr0, List.append_nil] at hown
      replace hown := hide hown
      replace hg := hide hg
      clear hr hr0 hM
      go_wp2
      go_ret
      exact ⟨rfl, hown.out, hg.out⟩
/-- Marks in whatever log of the call's own. -/
theorem markUpdateS_in {w : World} {lo hi : Nat} {A : Option Addr} {c : Nat} {l : List Upd} (k : Int) (h : LogIn w lo hi A c l) (hn : l.length ≤ 1048576) (hk : 0 ≤ k) (hk' : k ≤ 16777216) :
    Calls Alt.prog 77 #[.slice A l.length c, .int .i64 k] w fun e w' => e = .returned (.int .i64 (k + 2 * l.length)) ∧ LogIn w' lo hi A c (marksU k l.length) ∧ w.grownBy w' (Value.slice A l.length c).ownBlock := by
  rcases h.1.2 with ⟨hv, hn0⟩ | ⟨g, cap, cur, hv, r⟩
  · injection hv with hA _ hc
    subst hA hc
    have hl : l = [] := List.eq_nil_of_length_eq_zero hn0
    subst hl
    have fin := hide h
    clear h
    go_enter Alt.func77, Try.ntmps77
    go_wp2_with fail
    go_loop [1, 5] (fun q i => i = .int .i64 0 ∧ q = .int .i64 k) (fun _ _ => 0)
    case atStart => exact ⟨rfl, rfl⟩
    case round =>
      obtain ⟨rfl, rfl⟩ := hrel
      go_wp2
      go_ret
      exact ⟨by simp, fin.out, World.grownBy.refl _ _⟩
  · injection hv with hA _ hc
    subst hA hc
    refine (markUpdateS_own k h.1 hn hk hk').mono ?_
    rintro e w' ⟨rfl, h1, h2⟩
    refine ⟨rfl, ⟨?_, fun g' hg' => h.2 g' hg'⟩, h2⟩
    rw [marksU_len]
    exact h1

theorem heldUpdateS_any {A : Option Addr} {w : World} (n c : Nat) (k : Int) (h : LogR w A (marksU k n)) (hn : n ≤ 1048576) (hk : 0 ≤ k) (hk' : k ≤ 16777216) :
    Calls Alt.prog 78 #[.slice A n c, .int .i64 k] w fun e w' => e = .returned (.int .i64 (k + 2 * n)) ∧ w = w' := by
  replace h := hide h
  go_enter Alt.func78, Try.ntmps78
  go_wp2_with fail
  go_loop [1, 5] (fun q i => ∃ j : Nat, j ≤ n ∧ i = .int .i64 j ∧ q = .int .i64 (k + 2 * j)) (fun _ i => n - (intOf i).toNat)
  case atStart => exact ⟨0, Nat.zero_le _, rfl, by simp⟩
  case round =>
    obtain ⟨j, hj, rfl, rfl⟩ := hrel
    by_cases hlt : j < n
    · obtain ⟨b, o, hA, hb, hc0, hc1⟩ := h.out.at_ (i := j) (by rw [marksU_len]; exact hlt)
      rw [marksU_at] at hc0 hc1
      simp only at hc0 hc1
      rw [← Nat.add_assoc] at hc1
      subst hA
      go_wp2
      go_round
      case rel => exact ⟨j + 1, by omega, by go_num, by go_num⟩
      case measure => simp [intOf]; omega
    · obtain rfl : j = n := by omega
      go_wp2
      go_ret
      exact ⟨rfl, rfl⟩


end Go.Proofs.YtciekjplhbimdaaZ
