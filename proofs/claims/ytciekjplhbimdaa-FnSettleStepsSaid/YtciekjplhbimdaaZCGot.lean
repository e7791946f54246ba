/-
  Words: a chain and whether there is one, handed back; nodes of the call's own beside a struct of its own.
-/
import Derived.Test.YtciekjplhbimdaaZCMark
set_option linter.all false
set_option maxRecDepth 100000
namespace Go.Proofs.YtciekjplhbimdaaZ
open Go.RowKit

def GotChB (w : World) (v : Int) (ns : List Nd) (b : Bool) (e : Ending) (w' : World) : Prop :=
  ∃ (A : Option Addr) (c : Nat), e = .returned (.tuple #[.agg #[.int .i64 v, .slice A ns.length c], .bool b]) ∧ NodesOwn w' w.heap.size w'.heap.size A c ns ∧ Ext w w'
theorem GotChB.use {w w' : World} {v : Int} {ns : List Nd} {b : Bool} {e : Ending} (h : GotChB w v ns b e w') :
    ∃ A c, e = .returned (.tuple #[.agg #[.int .i64 v, .slice A ns.length c], .bool b]) ∧ ns.length ≤ c ∧ c ≤ maxLen ∧ Hid (NodesOwn w' w.heap.size w'.heap.size A c ns) ∧ Ext w w' := by
  obtain ⟨A, c, rfl, h1, h2⟩ := h
  exact ⟨A, c, rfl, h1.cap.1, h1.cap.2, h1, h2⟩
theorem NodesOwn.nil (w : World) (lo hi : Nat) : NodesOwn w lo hi none 0 [] :=
  ⟨[], rfl, ⟨World.ownsRow_nil w lo _ _, fun g hg => by simp [Value.ownBlock] at hg⟩, fun i a n h => by simp at h, Apart.nil⟩
theorem gotChB_of {w w' : World} {v v' : Int} {ns ns' : List Nd} {b b' : Bool} {A : Option Addr} {n c : Nat} (hv : v = v') (hns : ns = ns') (hb : b = b') (hn : ns'.length = n) (h1 : NodesOwn w' w.heap.size w'.heap.size A c ns') (h2 : Ext w w') :
    GotChB w v ns b (.returned (.tuple #[.agg #[.int .i64 v', .slice A n c], .bool b'])) w' := by
  subst hv hns hb hn; exact ⟨A, c, rfl, h1, h2⟩
theorem gotChB_zero {w w' : World} {v : Int} {ns : List Nd} {b : Bool} (hv : v = 0) (hns : ns = []) (hb : b = false) (h2 : Ext w w') : GotChB w v ns b (.returned (.tuple #[.agg #[.int .i64 0, .slice none 0 0], .bool false])) w' :=
  gotChB_of hv hns hb rfl (NodesOwn.nil _ _ _) h2

theorem typesCN : 25 ≠ 36 := by decide
theorem typesCU : 25 ≠ 39 := by decide
section
variable {w : World} {lo hi c g : Nat} {t : TypeId} {A : Option Addr} {ns : List Nd} {cs : Array Value}
/-- A store into a block of another type leaves the nodes as they were. -/
theorem NodesOwn.other (h : NodesOwn w lo hi A c ns) (hb : Blk w g t cs) (h1 : t ≠ 36) (h2 : t ≠ 39) (i : Nat) (u : Value) : NodesOwn (w.setCell ⟨g, i, none⟩ u) lo hi A c ns := by
  obtain ⟨ss, e1, e2, e3, e4⟩ := h
  have hg : w.grownBy (w.setCell ⟨g, i, none⟩ u) (some g) := only_setCell (World.grownBy.refl w (some g)) (.inl rfl) u
  refine ⟨ss, e1, ⟨e2.1.kept hg (.inr (blk_types hb e2.1 h1).symm), e2.2⟩, fun k a m ha hm => ?_, e4⟩
  have h5 := e3 k a m ha hm
  exact ⟨World.ownsRow.kept h5.1 hg (.inr (blk_types hb h5.1 h2).symm), h5.2⟩
/-- The two stores of a chain that is handed back. -/
theorem NodesOwn.handed (h : NodesOwn w lo hi A c ns) {u0 u1 : Value} (hb : Blk w g 25 #[u0, u1]) (x y : Value) : NodesOwn ((w.setCell ⟨g, 0, none⟩ x).setCell ⟨g, 1, none⟩ y) lo hi A c ns :=
  (h.other hb typesCN typesCU 0 x).other (hb.set20 x) typesCN typesCU 1 y
end
end Go.Proofs.YtciekjplhbimdaaZ
