/-
  Words for memory: slices of nodes.
-/
import Derived.Test.YtciekjplhbimdaaZBPure
import Derived.Test.YtciekjplhbimdaaZNMark
import Derived.Test.YtciekjplhbimdaaZLogs2
set_option linter.all false
set_option maxRecDepth 100000
namespace Go.Proofs.YtciekjplhbimdaaZ
open Go.RowKit

/-- Where a node's log lies, and its capacity. -/
abbrev Sl := Option Addr × Nat
/-- The cells of a slice of nodes. -/
def ncells : List Nd → List Sl → List Value
  | n :: ns, a :: ss => .int .i64 n.id :: .slice a.1 n.log.length a.2 :: .int .i64 n.done :: ncells ns ss
  | _, _ => []
theorem ncells_nil (ss : List Sl) : ncells [] ss = [] := by cases ss <;> rfl
theorem ncells_len : ∀ (ns : List Nd) (ss : List Sl), ss.length = ns.length → (ncells ns ss).length = ns.length * 3
  | [], [], _ => rfl
  | [], a :: ss, h => by simp at h
  | n :: ns, [], h => by simp at h
  | n :: ns, a :: ss, h => by simp [ncells, ncells_len ns ss (by simpa using h)]; omega
theorem ncells_at : ∀ (ns : List Nd) (ss : List Sl) (i : Nat) (n : Nd) (a : Sl), ns[i]? = some n → ss[i]? = some a →
    (ncells ns ss)[i * 3]? = some (.int .i64 n.id) ∧ (ncells ns ss)[i * 3 + 1]? = some (.slice a.1 n.log.length a.2) ∧ (ncells ns ss)[i * 3 + 2]? = some (.int .i64 n.done)
  | [], ss, i, n, a, h, _ => by simp at h
  | m :: ns, [], i, n, a, _, h => by simp at h
  | m :: ns, b :: ss, 0, n, a, h, h' => by
    simp at h h'
    subst h h'
    simp [ncells]
  | m :: ns, b :: ss, i + 1, n, a, h, h' => by
    have := ncells_at ns ss i n a (by simpa using h) (by simpa using h')
    have e1 : (i + 1) * 3 = i * 3 + 1 + 1 + 1 := by omega
    have e2 : (i + 1) * 3 + 1 = (i * 3 + 1) + 1 + 1 + 1 := by omega
    have e3 : (i + 1) * 3 + 2 = (i * 3 + 2) + 1 + 1 + 1 := by omega
    rw [e2, e3, e1]
    simpa [ncells] using this
theorem ncells_append : ∀ (ns : List Nd) (ss : List Sl) (ms : List Nd) (bs : List Sl), ss.length = ns.length → ncells (ns ++ ms) (ss ++ bs) = ncells ns ss ++ ncells ms bs
  | [], [], ms, bs, _ => by simp [ncells]
  | [], a :: ss, ms, bs, h => by simp at h
  | n :: ns, [], ms, bs, h => by simp at h
  | n :: ns, a :: ss, ms, bs, h => by simp [ncells, ncells_append ns ss ms bs (by simpa using h)]
theorem ncells_take : ∀ (ns : List Nd) (ss : List Sl) (k : Nat), (ncells ns ss).take (k * 3) = ncells (ns.take k) (ss.take k)
  | ns, ss, 0 => by simp [ncells]
  | [], ss, k + 1 => by simp [ncells_nil]
  | n :: ns, [], k + 1 => by simp [ncells]
  | n :: ns, a :: ss, k + 1 => by
    have e : (k + 1) * 3 = k * 3 + 1 + 1 + 1 := by omega
    rw [e]
    simpa [ncells] using ncells_take ns ss k
theorem ncells_drop : ∀ (ns : List Nd) (ss : List Sl) (k : Nat), (ncells ns ss).drop (k * 3) = ncells (ns.drop k) (ss.drop k)
  | ns, ss, 0 => by simp
  | [], ss, k + 1 => by simp [ncells_nil]
  | n :: ns, [], k + 1 => by cases h : ns.drop k <;> simp [ncells, h]
  | n :: ns, a :: ss, k + 1 => by
    have e : (k + 1) * 3 = k * 3 + 1 + 1 + 1 := by omega
    rw [e]
    simpa [ncells] using ncells_drop ns ss k
theorem ncells_one : ∀ (ns : List Nd) (ss : List Sl), ∀ u ∈ ncells ns ss, u.oneCell' = true
  | [], ss, u, h => by simp [ncells_nil] at h
  | n :: ns, [], u, h => by simp [ncells] at h
  | n :: ns, a :: ss, u, h => by
    simp only [ncells, List.mem_cons] at h
    rcases h with rfl | rfl | rfl | h
    · rfl
    · rfl
    · rfl
    · exact ncells_one ns ss u h

def NodeAt (w : World) (a : Sl) (n : Nd) : Prop := n.log.length ≤ a.2 ∧ a.2 ≤ maxLen ∧ LogR w a.1 n.log
theorem NodeAt.ext {w w' : World} {a : Sl} {n : Nd} (h : NodeAt w a n) (hE : Ext w w') : NodeAt w' a n := ⟨h.1, h.2.1, h.2.2.ext hE⟩
/-- A slice of nodes: its address, and what it reads ss. -/
def NodesR (w : World) (A : Option Addr) (ns : List Nd) : Prop :=
  ∃ ss : List Sl, ss.length = ns.length ∧ CellsR w A (ncells ns ss) ∧ ∀ (i : Nat) (a : Sl) (n : Nd), ss[i]? = some a → ns[i]? = some n → NodeAt w a n
section
variable {w w' : World} {A : Option Addr} {ns : List Nd}
theorem NodesR.ext (h : NodesR w A ns) (hE : Ext w w') : NodesR w' A ns := by
  obtain ⟨ss, h1, h2, h3⟩ := h
  exact ⟨ss, h1, h2.ext hE, fun i a n ha hn => (h3 i a n ha hn).ext hE⟩
theorem NodesR.over {w1 : World} (h : NodesR w A ns) (hF : Ext w1 w') (hw : w1.heap = w.heap) : NodesR w' A ns := by
  obtain ⟨ss, h1, h2, h3⟩ := h
  exact ⟨ss, h1, h2.over hF hw, fun i a n ha hn => ⟨(h3 i a n ha hn).1, (h3 i a n ha hn).2.1, CellsR.over (h3 i a n ha hn).2.2 hF hw⟩⟩
theorem NodesR.nil (w : World) (A : Option Addr) : NodesR w A [] := ⟨[], rfl, CellsR.nil _ _, fun i a n h => by simp at h⟩
theorem NodesR.take (h : NodesR w A ns) (k : Nat) : NodesR w A (ns.take k) := by
  obtain ⟨ss, h1, h2, h3⟩ := h
  refine ⟨ss.take k, by simp [h1], by rw [← ncells_take]; exact h2.take _, fun i a n ha hn => ?_⟩
  rw [List.getElem?_take] at ha hn
  split at ha
  · rename_i hk; rw [if_pos hk] at hn; exact h3 i a n ha hn
  · cases ha
theorem NodesR.cut (h : NodesR w A ns) (q : Nat) : NodesR w (Option.map (fun x => x.add (q * 3)) A) (ns.drop q) := by
  obtain ⟨ss, h1, h2, h3⟩ := h
  refine ⟨ss.drop q, by simp [h1], ?_, fun i a n ha hn => ?_⟩
  · rw [← ncells_drop]
    refine CellsR.drop h2 _ fun _ b o e => ?_
    subst e
    simp [Addr.add_lit]
  · rw [List.getElem?_drop] at ha hn
    exact h3 _ a n ha hn
/-- The node at a place. -/
theorem node_at (h : NodesR w A ns) {i : Nat} (hi : i < ns.length) :
    ∃ b o x l j B d, A = some ⟨b, o, none⟩ ∧ b < w.heap.size ∧ ns[i]? = some ⟨x, l, j⟩ ∧ l.length ≤ d ∧ d ≤ maxLen ∧ LogR w B l ∧ w.cell? ⟨b, o + i * 3, none⟩ = some (.int .i64 x) ∧
      w.cell? ⟨b, o + (i * 3 + 1), none⟩ = some (.slice B l.length d) ∧ w.cell? ⟨b, o + (i * 3 + 2), none⟩ = some (.int .i64 j) ∧
      w.cell? ⟨b, o + i * 3 + 1, none⟩ = some (.slice B l.length d) ∧ w.cell? ⟨b, o + i * 3 + 2, none⟩ = some (.int .i64 j) := by
  obtain ⟨ss, h1, h2, h3⟩ := h
  have hn : ns[i]? = some ns[i] := List.getElem?_eq_getElem hi
  have ha : ss[i]? = some (ss[i]'(by omega)) := List.getElem?_eq_getElem (by omega)
  obtain ⟨x, l, j, e⟩ := nd_cases ns[i]
  obtain ⟨g1, g2, g3⟩ := h3 i _ _ ha hn
  obtain ⟨e1, e2, e3⟩ := ncells_at ns ss i _ _ hn ha
  rw [e] at hn g1 g3 e1 e2 e3
  obtain ⟨b, o, hA, hc⟩ := h2 (by rw [ncells_len _ _ h1]; omega)
  have c1 := hc _ _ e1
  exact ⟨b, o, x, l, j, _, _, hA, World.block_lt_of_cell? w _ c1, hn, g1, g2, g3, c1, hc _ _ e2, hc _ _ e3, by rw [Nat.add_assoc]; exact hc _ _ e2, by rw [Nat.add_assoc]; exact hc _ _ e3⟩
end
theorem bulk_of {ns : List Nd} {i : Nat} {x j : Int} {l : List Upd} {m : Nat} (hb : bulk ns ≤ m) (h : ns[i]? = some ⟨x, l, j⟩) : l.length ≤ m := by
  obtain ⟨hi, e⟩ := List.getElem?_eq_some_iff.1 h
  have := bulk_at ns i hi
  rw [e] at this
  simp only at this
  omega
end Go.Proofs.YtciekjplhbimdaaZ
