/-
  Contracts: drawing nodes.
-/
import Derived.Test.YtciekjplhbimdaaZNMark
import Derived.Test.YtciekjplhbimdaaZBDraw
set_option linter.all false
set_option maxRecDepth 100000
namespace Go.Proofs.YtciekjplhbimdaaZ
open Go.RowKit
attribute [local go_sem ↓] Go.wp_at_zero Go.wp_at_succ

section
variable {w : World} {g : Nat} {t : TypeId} {a b c u : Value}
theorem Blk.set20 (h : Blk w g t #[a, b]) (u : Value) : Blk (w.setCell ⟨g, 0, none⟩ u) g t #[u, b] := by simpa using h.set_ 0 u
theorem Blk.set21 (h : Blk w g t #[a, b]) (u : Value) : Blk (w.setCell ⟨g, 1, none⟩ u) g t #[a, u] := by simpa using h.set_ 1 u
theorem Blk.set30 (h : Blk w g t #[a, b, c]) (u : Value) : Blk (w.setCell ⟨g, 0, none⟩ u) g t #[u, b, c] := by simpa using h.set_ 0 u
theorem Blk.set31 (h : Blk w g t #[a, b, c]) (u : Value) : Blk (w.setCell ⟨g, 1, none⟩ u) g t #[a, u, c] := by simpa using h.set_ 1 u
theorem Blk.set32 (h : Blk w g t #[a, b, c]) (u : Value) : Blk (w.setCell ⟨g, 2, none⟩ u) g t #[a, b, u] := by simpa using h.set_ 2 u
theorem Turned.set {lo hi : Nat} {p : Addr} (h1 : lo ≤ p.block) (h2 : p.block < hi) (u : Value) : Turned lo hi w (w.setCell p u) :=
  ⟨rfl, rfl, rfl, by simp [World.setCell], fun k _ hk => Below.heap_setCell w p u k (by omega)⟩
theorem Turned.set3 (g : Nat) (u v x : Value) : Turned g (g + 1) w (((w.setCell ⟨g, 0, none⟩ u).setCell ⟨g, 1, none⟩ v).setCell ⟨g, 2, none⟩ x) :=
  ((Turned.set (p := ⟨g, 0, none⟩) (Nat.le_refl _) (Nat.lt_succ_self _) u).trans (Turned.set (p := ⟨g, 1, none⟩) (Nat.le_refl _) (Nat.lt_succ_self _) v)).trans (Turned.set (p := ⟨g, 2, none⟩) (Nat.le_refl _) (Nat.lt_succ_self _) x)
theorem only_turned {a w w' : World} {g lo hi : Nat} (h : a.grownBy w (some g)) (ht : Turned lo hi w w') (hs : a.heap.size ≤ lo) : a.grownBy w' (some g) :=
  ⟨ht.os.trans h.os, ht.tape.trans h.tape, ht.output.trans h.output, Nat.le_trans h.size ht.size, fun k hk hn => (ht.block k (Nat.lt_of_lt_of_le hk h.size) (by omega)).trans (h.block k hk hn)⟩
theorem RdAt.turned {w w' : World} {g P lo hi : Nat} (h : RdAt w g P) (ht : Turned lo hi w w') (hs : g < lo) : RdAt w' g P := by
  have hl := h.lt
  obtain ⟨A, m, c, q, hg, h0, h1, h2, h3⟩ := h
  exact ⟨A, m, c, q, (ht.block g hl (.inl hs)).trans hg, h0, h1, h2, h3.keep fun k hk => ht.block k (by omega) (.inl (by omega))⟩
theorem Turned.pick {w w' : World} (h : w.grownBy w' (some g)) : Turned g (g + 1) w w' := Turned.of_only h (Nat.le_refl _) (Nat.lt_succ_self _)
end

def Picked2 (w : World) (g P : Nat) (e : Ending) (w' : World) : Prop := ∃ i : Nat, i < 2 ∧ e = .returned (.int .i64 i) ∧ w.grownBy w' (some g) ∧ RdAt w' g (P + 1)
theorem pick2_any {w : World} {g P : Nat} (h : RdAt w g P) (hP : P ≤ 1073741824) : Calls Alt.prog 34 #[.pointer (some ⟨g, 0, none⟩), .int .i64 2] w (Picked2 w g P) := by
  refine (pick_any 2 h hP).mono ?_
  rintro e w' ⟨x, rfl, hx, -, h1, h2⟩
  obtain ⟨h3, h4⟩ := hx (by omega)
  obtain ⟨i, rfl⟩ := Int.eq_ofNat_of_zero_le h3
  exact ⟨i, by omega, rfl, h1, h2⟩
theorem two_at (x y : Int) {i : Nat} (hi : i < 2) : ∃ q : Int, (q = x ∨ q = y) ∧ (#[Value.int .i64 x, Value.int .i64 y] : Array Value)[i]? = some (.int .i64 q) ∧ ([Value.int .i64 x, Value.int .i64 y] : List Value)[i]? = some (.int .i64 q) := by
  rcases (show i = 0 ∨ i = 1 from by omega) with rfl | rfl
  · exact ⟨x, .inl rfl, rfl, rfl⟩
  · exact ⟨y, .inr rfl, rfl, rfl⟩

end Go.Proofs.YtciekjplhbimdaaZ
