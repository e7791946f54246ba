/-
  Contracts: LogKey, both.
-/
import Derived.Test.YtciekjplhbimdaaZExact1
set_option linter.all false
set_option maxRecDepth 100000
namespace Go.Proofs.YtciekjplhbimdaaZ
open Go.RowKit

/-- A new row of numbers is handed back. -/
def GotRowI (w : World) (xs : List Int) (e : Ending) (w' : World) : Prop :=
  ∃ (A : Option Addr) (c : Nat), e = .returned (.slice A xs.length c) ∧ xs.length ≤ c ∧ c ≤ maxLen ∧ w'.ownsRow w.heap.size 3 1 (.slice A xs.length c) xs.length (icells xs) ∧ Ext w w'

theorem gotRowI_of {w w' : World} {v : Value} {n : Nat} {xs : List Int} (hn : xs.length = n) (h : w'.ownsRow w.heap.size 3 1 v n (icells xs)) (hE : Ext w w') : GotRowI w xs (.returned v) w' := by
  subst hn
  rcases h.2 with ⟨rfl, h0⟩ | ⟨g, cap, cur, rfl, hb, hh, h1, h2, r⟩
  · exact ⟨none, 0, by rw [h0], by omega, by simp [maxLen], by rw [h0]; rw [h0] at h; exact h, hE⟩
  · exact ⟨_, cap, rfl, h1, h2, h, hE⟩

theorem keysFrom_append (key : Int) : ∀ (n : Nat) (a b : List Upd), keysFrom key n (a ++ b) = keysFrom key n a ++ keysFrom key (n + a.length) b
  | n, [], b => by simp [keysFrom]
  | n, u :: a, b => by
    simp only [List.cons_append, keysFrom, keysFrom_append key (n + 1) a b, List.length_cons]
    rw [show n + 1 + a.length = n + (a.length + 1) by omega]
    split <;> simp
theorem keysFrom_len (key : Int) : ∀ (n : Nat) (a : List Upd), (keysFrom key n a).length ≤ a.length
  | n, [] => by simp [keysFrom]
  | n, u :: a => by
    have := keysFrom_len key (n + 1) a
    simp only [keysFrom]; split <;> simp <;> omega
theorem keysFrom_hit {l : List Upd} {k : Nat} {x y key : Int} (hk : k < l.length) (hxy : l[k] = (x, y)) (h : x = key) : keysFrom key 0 (l.take (k + 1)) = keysFrom key 0 (l.take k) ++ [(k : Int) + 1] := by
  rw [List.take_succ_eq_append_getElem hk, keysFrom_append, hxy]
  simp [keysFrom, h, List.length_take, show min k l.length = k by omega]
theorem keysFrom_miss {l : List Upd} {k : Nat} {x y key : Int} (hk : k < l.length) (hxy : l[k] = (x, y)) (h : ¬ x = key) : keysFrom key 0 (l.take (k + 1)) = keysFrom key 0 (l.take k) := by
  rw [List.take_succ_eq_append_getElem hk, keysFrom_append, hxy]
  simp [keysFrom, h]

/-- What is held at the head of the loop. -/
def KeysTo (w : World) (l : List Upd) (key : Int) (v : Value) (k : Nat) (wr : World) : Prop :=
  ∃ n, (keysFrom key 0 (l.take k)).length = n ∧ wr.ownsRow w.heap.size 3 1 v n (icells (keysFrom key 0 (l.take k))) ∧ Ext w wr

theorem keysTo_hit {w wr w' : World} {o : Obj} {l : List Upd} {key x y : Int} {v v' : Value} {k n : Nat} (hk : k < l.length) (hxy : l[k] = (x, y)) (h : x = key) (hn : (keysFrom key 0 (l.take k)).length = n)
    (hown : wr.ownsRow w.heap.size 3 1 v n (icells (keysFrom key 0 (l.take k)))) (hE : Ext w wr)
    (hown' : w'.ownsRow w.heap.size 3 1 v' (n + 1) (icells (keysFrom key 0 (l.take k)) ++ [.int .i64 ((k : Int) + 1)])) (hg : (wr.alloc o).grownBy w' v.ownBlock) : KeysTo w l key v' (k + 1) w' := by
  refine ⟨n + 1, by rw [keysFrom_hit hk hxy h]; simp [hn], by rw [keysFrom_hit hk hxy h]; simpa [icells] using hown', ?_⟩
  have h1 : w.grownBy (wr.alloc o) (some w.heap.size) := only_of_ext (ext_alloc hE o) _
  exact ext_of_only (only_trans h1 hg fun i hi => .inr (hown.lt i hi).1) (Nat.le_refl _)


end Go.Proofs.YtciekjplhbimdaaZ
