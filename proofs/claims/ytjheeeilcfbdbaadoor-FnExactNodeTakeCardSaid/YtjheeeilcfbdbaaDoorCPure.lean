/-
  The plain words for chains, and their laws. Nothing of the program is in sight here.
-/
import Derived.Test.YtjheeeilcfbdbaaDoorNPure
set_option linter.all false
set_option maxRecDepth 100000
namespace Go.Proofs.YtjheeeilcfbdbaaDoor

/-- How much a list of nodes holds. -/
def bulk : List Nd → Nat
  | [] => 0
  | n :: ns => 1 + n.log.length + bulk ns
theorem bulk_len : ∀ ns : List Nd, ns.length ≤ bulk ns
  | [] => Nat.le_refl _
  | n :: ns => by have := bulk_len ns; simp [bulk]; omega
theorem bulk_at : ∀ (ns : List Nd) (i : Nat) (hi : i < ns.length), (ns[i]).log.length ≤ bulk ns
  | [], i, hi => by simp at hi
  | n :: ns, 0, _ => by simp [bulk]; omega
  | n :: ns, i + 1, hi => by
    have := bulk_at ns i (by simpa using hi)
    simp only [bulk, List.getElem_cons_succ]; omega
theorem bulk_append : ∀ a b : List Nd, bulk (a ++ b) = bulk a + bulk b
  | [], b => by simp [bulk]
  | n :: a, b => by simp [bulk, bulk_append a b]; omega
theorem bulk_take : ∀ (ns : List Nd) (k : Nat), bulk (ns.take k) ≤ bulk ns
  | ns, 0 => by simp [bulk]
  | [], k + 1 => by simp [bulk]
  | n :: ns, k + 1 => by have := bulk_take ns k; simp [bulk]; omega
theorem bulk_take_succ {ns : List Nd} {k : Nat} (h : k < ns.length) : bulk (ns.take (k + 1)) = bulk (ns.take k) + 1 + (ns[k]).log.length := by
  rw [List.take_succ_eq_append_getElem h, bulk_append]; simp [bulk]; omega
theorem bulk_le (m : Nat) : ∀ (ns : List Nd), (∀ n ∈ ns, n.log.length ≤ m) → bulk ns ≤ ns.length * (m + 1)
  | [], _ => by simp [bulk]
  | n :: ns, h => by
    have h1 := bulk_le m ns fun x hx => h x (List.mem_cons_of_mem _ hx)
    have h2 := h n (List.mem_cons_self ..)
    simp only [bulk, List.length_cons, Nat.add_mul]
    omega

/-- The node at place i fits to those ahead of it. -/
def Fits (ns : List Nd) (i : Nat) : Prop :=
  ∀ n, ns[i]? = some n → ndOk n = true ∧ (∀ k, k < i → ∀ m, ns[k]? = some m → m.id ≠ n.id) ∧ (0 < i → ∀ m, ns[i - 1]? = some m → begins n.log m.log = true ∧ m.done ≤ n.done)
/-- A chain is valid. -/
def ChOk (v : Int) (ns : List Nd) : Prop :=
  (0 ≤ v ∧ v ≤ 999) ∧ (1 ≤ ns.length ∧ ns.length ≤ 5) ∧ (∀ i, i < ns.length → Fits ns i) ∧ ∀ n, ns[ns.length - 1]? = some n → n.done = n.log.length

theorem chOk_decides (v : Int) (ns : List Nd) : ∃ b : Bool, b = true ↔ ChOk v ns := by
  by_cases h : ChOk v ns
  · exact ⟨true, by simp [h]⟩
  · exact ⟨false, by simp [h]⟩
theorem iff_false {b : Bool} {p : Prop} (h : b = true ↔ p) (hp : ¬ p) : b = false := by
  cases b with
  | false => rfl
  | true => exact absurd (h.1 rfl) hp
theorem iff_true {b : Bool} {p : Prop} (h : b = true ↔ p) (hp : p) : b = true := h.2 hp

section
variable {v : Int} {ns : List Nd}
theorem ChOk.node (h : ChOk v ns) {i : Nat} (hi : i < ns.length) : ndOk (ns[i]) = true := (h.2.2.1 i hi _ (List.getElem?_eq_getElem hi)).1
theorem ChOk.ids (h : ChOk v ns) {i k : Nat} (hi : i < ns.length) (hk : k < i) : (ns[k]'(by omega)).id ≠ (ns[i]).id :=
  (h.2.2.1 i hi _ (List.getElem?_eq_getElem hi)).2.1 k hk _ (List.getElem?_eq_getElem (by omega))
theorem ChOk.next (h : ChOk v ns) {i : Nat} (hi : i + 1 < ns.length) : begins (ns[i + 1]).log (ns[i]).log = true ∧ (ns[i]).done ≤ (ns[i + 1]).done :=
  (h.2.2.1 (i + 1) hi _ (List.getElem?_eq_getElem hi)).2.2 (by omega) _ (by simp)
theorem ChOk.tail (h : ChOk v ns) : (ns[ns.length - 1]'(by have := h.2.1; omega)).done = (ns[ns.length - 1]'(by have := h.2.1; omega)).log.length :=
  h.2.2.2 _ (List.getElem?_eq_getElem (by have := h.2.1; omega))
theorem ChOk.log12 (h : ChOk v ns) {i : Nat} (hi : i < ns.length) : (ns[i]).log.length ≤ 12 := by
  have := h.node hi
  obtain ⟨a, l, c, e⟩ := nd_cases (ns[i])
  rw [e] at this ⊢
  exact (ndOk_parts this).2.2.2.1
end

theorem begins_len {a b : List Upd} (h : begins a b = true) : a.length ≤ b.length := (common_prefix (begins_ok h).2.2).1
theorem begins_pre {a b : List Upd} (h : begins a b = true) : b.take a.length = a := (common_prefix (begins_ok h).2.2).2
theorem begins_of {a b : List Upd} (h1 : logOk a = true) (h2 : logOk b = true) (h : b.take a.length = a) : begins a b = true := by
  simp [begins, h1, h2, prefix_common h]
theorem begins_refl {a : List Upd} (h : logOk a = true) : begins a a = true := begins_of h h (by simp)
theorem begins_trans {a b c : List Upd} (h1 : begins a b = true) (h2 : begins b c = true) : begins a c = true := by
  refine begins_of (begins_ok h1).1 (begins_ok h2).2.1 ?_
  have e1 := begins_pre h1
  have e2 := begins_pre h2
  have hl := begins_len h1
  have e3 : c.take a.length = (c.take b.length).take a.length := by rw [List.take_take, Nat.min_eq_left hl]
  rw [e3, e2, e1]
section
variable {v : Int} {ns : List Nd}
/-- Each log is the beginning of each one ahead. -/
theorem ChOk.begins (h : ChOk v ns) : ∀ (d k : Nat) (hd : k + d < ns.length), begins (ns[k + d]).log (ns[k]'(by omega)).log = true
  | 0, k, hd => begins_refl (by
      have := h.node (i := k) (by omega)
      obtain ⟨a, l, c, e⟩ := nd_cases (ns[k]'(by omega))
      simp only [Nat.add_zero]
      rw [e] at this ⊢
      exact (ndOk_parts this).2.2.1)
  | d + 1, k, hd => begins_trans (h.next (i := k + d) hd).1 (h.begins d k (by omega))
theorem ChOk.dones (h : ChOk v ns) : ∀ (d k : Nat) (hd : k + d < ns.length), (ns[k]'(by omega)).done ≤ (ns[k + d]).done
  | 0, k, hd => Int.le_refl _
  | d + 1, k, hd => Int.le_trans (h.dones d k (by omega)) (h.next (i := k + d) hd).2
theorem ChOk.begins' (h : ChOk v ns) {i k : Nat} (hi : i < ns.length) (hk : k ≤ i) : Go.Proofs.YtjheeeilcfbdbaaDoor.begins (ns[i]).log (ns[k]'(by omega)).log = true := by
  have := h.begins (i - k) k (by omega)
  have e : k + (i - k) = i := by omega
  simp only [e] at this
  exact this
theorem ChOk.dones' (h : ChOk v ns) {i k : Nat} (hi : i < ns.length) (hk : k ≤ i) : (ns[k]'(by omega)).done ≤ (ns[i]).done := by
  have := h.dones (i - k) k (by omega)
  have e : k + (i - k) = i := by omega
  simp only [e] at this
  exact this
end
end Go.Proofs.YtjheeeilcfbdbaaDoor
