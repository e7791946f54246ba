/-
  Words and contracts, joined: Pure, Pure2, NPure, CPure, CPure2.
-/
/-
  The plain functions on lists and numbers that the program computes, and their laws. Nothing of the program is in sight here.
-/
set_option linter.all false
set_option maxRecDepth 100000
namespace Go.Proofs.YtciekjplhbimdaaZ

/-- An update: its key and its value. -/
abbrev Upd := Int × Int

def updOk (u : Upd) : Bool := decide (0 ≤ u.1 ∧ u.1 ≤ 4 ∧ 0 ≤ u.2 ∧ u.2 ≤ 99)
def logOk (l : List Upd) : Bool := decide (l.length ≤ 12) && l.all updOk

/-- How many updates two logs have in common at their beginning. -/
def common : List Upd → List Upd → Nat
  | a :: as, b :: bs => if a = b then common as bs + 1 else 0
  | _, _ => 0
def commonI (a b : List Upd) : Int := if logOk a && logOk b then (common a b : Int) else -1
def begins (a b : List Upd) : Bool := logOk a && logOk b && decide (common a b = a.length)

/-- The numbers of the updates of a key, the first update having number n + 1. -/
def keysFrom (key : Int) : Nat → List Upd → List Int
  | _, [] => []
  | n, u :: l => if u.1 = key then ((n : Int) + 1) :: keysFrom key (n + 1) l else keysFrom key (n + 1) l
def logKey (l : List Upd) (key : Int) : List Int := if logOk l then keysFrom key 0 l else []

def putAt (s : List Int) (u : Upd) : List Int := s.set u.1.toNat u.2
def stBehind (l : List Upd) : List Int := l.foldl putAt [-1, -1, -1, -1, -1]
def stateAt (l : List Upd) (many : Int) : List Int := if logOk l && decide (0 ≤ many ∧ many ≤ l.length) then stBehind (l.take many.toNat) else []
def stateOf (l : List Upd) : List Int := if logOk l then stBehind l else []
def valOk (v : Int) : Bool := decide (-1 ≤ v ∧ v ≤ 99)
def stateOk (s : List Int) : Bool := decide (s.length = 5) && s.all valOk
def putOk (s : List Int) (u : Upd) : Bool := stateOk s && updOk u
def statePut (s : List Int) (u : Upd) : List Int := if putOk s u then putAt s u else []

/-- A node: its id, its log, how many updates are known to be everywhere. -/
structure Nd where
  id : Int
  log : List Upd
  done : Int
def ndOk (n : Nd) : Bool := decide (1 ≤ n.id ∧ n.id ≤ 99) && logOk n.log && decide (0 ≤ n.done ∧ n.done ≤ n.log.length)
def Nd.zero : Nd := ⟨0, [], 0⟩

/-! ### Laws -/
theorem logOk_len {l : List Upd} (h : logOk l = true) : l.length ≤ 12 := by
  simp [logOk] at h; exact h.1
theorem logOk_at {l : List Upd} (h : logOk l = true) {i : Nat} (hi : i < l.length) : updOk (l[i]) = true := by
  simp [logOk] at h; exact h.2 _ _ (List.getElem_mem hi)
theorem logOk_of {l : List Upd} (h : l.length ≤ 12) (h' : ∀ i (hi : i < l.length), updOk (l[i]) = true) : logOk l = true := by
  simp only [logOk, Bool.and_eq_true, decide_eq_true_eq, List.all_eq_true]
  refine ⟨h, fun x hx => ?_⟩
  obtain ⟨i, hi, rfl⟩ := List.mem_iff_getElem.1 hx
  exact h' i hi
theorem logOk_bad {l : List Upd} {i : Nat} (hi : i < l.length) (h : updOk (l[i]) = false) : logOk l = false := by
  cases e : logOk l with
  | false => rfl
  | true => rw [logOk_at e hi] at h; cases h
theorem logOk_long {l : List Upd} (h : 12 < l.length) : logOk l = false := by
  cases e : logOk l with
  | false => rfl
  | true => have := logOk_len e; omega

theorem common_le_left : ∀ a b : List Upd, common a b ≤ a.length
  | [], b => by cases b <;> simp [common]
  | x :: a, [] => by simp [common]
  | x :: a, y :: b => by
    have := common_le_left a b
    simp only [common]; split <;> simp <;> omega
theorem common_comm : ∀ a b : List Upd, common a b = common b a
  | [], b => by cases b <;> simp [common]
  | x :: a, [] => by simp [common]
  | x :: a, y :: b => by
    simp only [common, common_comm a b, eq_comm]
theorem common_le_right (a b : List Upd) : common a b ≤ b.length := by rw [common_comm]; exact common_le_left b a
theorem common_self : ∀ a : List Upd, common a a = a.length
  | [] => by simp [common]
  | x :: a => by simp [common, common_self a]
/-- One round of the count: both have one more, and it is the same. -/
theorem common_take : ∀ a b : List Upd, a.take (common a b) = b.take (common a b)
  | [], b => by cases b <;> simp [common]
  | x :: a, [] => by simp [common]
  | x :: a, y :: b => by
    simp only [common]
    split
    · rename_i h; subst h; simp [common_take a b]
    · simp
/-- The count is k, if the first k agree and the next ones do not. -/
theorem common_eq : ∀ (k : Nat) (a b : List Upd), k ≤ a.length → k ≤ b.length → (∀ i, i < k → a[i]? = b[i]?) → (k < a.length → k < b.length → a[k]? ≠ b[k]?) → common a b = k
  | 0, a, b, _, _, _, h => by
    match a, b with
    | [], b => cases b <;> simp [common]
    | x :: a, [] => simp [common]
    | x :: a, y :: b =>
      have := h (by simp) (by simp)
      simp only [List.getElem?_cons_zero, ne_eq, Option.some.injEq] at this
      simp [common, this]
  | k + 1, [], b, h, _, _, _ => by simp at h
  | k + 1, x :: a, [], _, h, _, _ => by simp at h
  | k + 1, x :: a, y :: b, ha, hb, he, hn => by
    have h0 := he 0 (by omega)
    simp only [List.getElem?_cons_zero, Option.some.injEq] at h0
    subst h0
    have := common_eq k a b (by simpa using ha) (by simpa using hb) (fun i hi => by simpa using he (i + 1) (by omega)) (fun h1 h2 => by simpa using hn (by simpa using h1) (by simpa using h2))
    simp [common, this]
theorem common_ne (a b : List Upd) (h1 : common a b < a.length) (h2 : common a b < b.length) : a[common a b]? ≠ b[common a b]? := by
  induction a generalizing b with
  | nil => simp at h1
  | cons x a ih =>
    cases b with
    | nil => simp at h2
    | cons y b =>
      by_cases e : x = y
      · subst e
        simp only [common, if_true, List.length_cons] at h1 h2 ⊢
        simpa using ih b (by omega) (by omega)
      · simpa [common, e] using e
theorem common_prefix {a b : List Upd} (h : common a b = a.length) : a.length ≤ b.length ∧ b.take a.length = a := by
  have h1 := common_le_right a b
  have h2 := common_take a b
  rw [h] at h1 h2
  exact ⟨h1, by rw [← h2]; simp⟩
theorem prefix_common {a b : List Upd} (h : b.take a.length = a) : common a b = a.length := by
  have hl : a.length ≤ b.length := by
    have := congrArg List.length h
    simp at this; omega
  refine common_eq _ _ _ (Nat.le_refl _) hl (fun i hi => ?_) (fun h => by omega)
  conv => lhs; rw [← h]
  rw [List.getElem?_take, if_pos hi]

end Go.Proofs.YtciekjplhbimdaaZ

/-
  More laws of the plain functions.
-/
set_option linter.all false
namespace Go.Proofs.YtciekjplhbimdaaZ

theorem logOk_take {l : List Upd} (h : logOk l = true) (k : Nat) : logOk (l.take k) = true := by
  refine logOk_of (by have := logOk_len h; simp; omega) fun i hi => ?_
  have hi' : i < l.length := by simp at hi; omega
  rw [List.getElem_take]
  exact logOk_at h hi'
theorem begins_ok {a b : List Upd} (h : begins a b = true) : logOk a = true ∧ logOk b = true ∧ common a b = a.length := by
  simpa [begins, and_assoc] using h
theorem begins_take {a b : List Upd} (h : begins a b = true) (k : Nat) : begins (a.take k) b = true := by
  obtain ⟨h1, h2, h3⟩ := begins_ok h
  obtain ⟨h4, h5⟩ := common_prefix h3
  have h6 : common (a.take k) b = (a.take k).length := by
    refine prefix_common ?_
    rw [← h5]
    simp [List.take_take]
  simp [begins, logOk_take h1 k, h2, h6]
end Go.Proofs.YtciekjplhbimdaaZ

/-
  The plain functions on nodes, and their laws. Nothing of the program is in sight here.
-/
set_option linter.all false
namespace Go.Proofs.YtciekjplhbimdaaZ

def ackOk (n : Nd) (d : Int) : Bool := ndOk n && decide (n.done ≤ d ∧ d ≤ n.log.length)
def ndAck (n : Nd) (d : Int) : Nd := if ackOk n d then ⟨n.id, n.log, d⟩ else Nd.zero
def ndPend (n : Nd) : List Upd := if ndOk n then n.log.drop n.done.toNat else []
def takeOk (n : Nd) (u : Upd) : Bool := ndOk n && updOk u && decide (n.log.length < 12)
def ndTake (n : Nd) (u : Upd) : Nd := if takeOk n u then ⟨n.id, n.log ++ [u], n.done⟩ else Nd.zero

theorem ndOk_parts {i j : Int} {l : List Upd} (h : ndOk ⟨i, l, j⟩ = true) : 1 ≤ i ∧ i ≤ 99 ∧ logOk l = true ∧ l.length ≤ 12 ∧ 0 ≤ j ∧ j ≤ l.length := by
  simp [ndOk] at h
  exact ⟨h.1.1.1, h.1.1.2, h.1.2, logOk_len h.1.2, h.2.1, h.2.2⟩
theorem ndOk_mk {i j : Int} {l : List Upd} (h1 : 1 ≤ i) (h2 : i ≤ 99) (h3 : logOk l = true) (h4 : 0 ≤ j) (h5 : j ≤ l.length) : ndOk ⟨i, l, j⟩ = true := by
  simp [ndOk, h1, h2, h3, h4, h5]
theorem ndOk_id {i j : Int} {l : List Upd} (h : ¬ (1 ≤ i ∧ i ≤ 99)) : ndOk ⟨i, l, j⟩ = false := by
  have : decide (1 ≤ i ∧ i ≤ 99) = false := by simpa using h
  simp only [ndOk, this, Bool.false_and]
theorem ndOk_log {i j : Int} {l : List Upd} (h : logOk l = false) : ndOk ⟨i, l, j⟩ = false := by simp [ndOk, h]
theorem ndOk_done {i j : Int} {l : List Upd} (h : ¬ (0 ≤ j ∧ j ≤ l.length)) : ndOk ⟨i, l, j⟩ = false := by
  have : decide (0 ≤ j ∧ j ≤ (l.length : Int)) = false := by simpa using h
  simp only [ndOk, this, Bool.and_false]

theorem ackOk_yes {n : Nd} {d : Int} (h : ackOk n d = true) : ndOk n = true ∧ n.done ≤ d ∧ d ≤ n.log.length := by
  simp [ackOk] at h; exact ⟨h.1, h.2.1, h.2.2⟩
theorem ackOk_mk {n : Nd} {d : Int} (h : ndOk n = true) (h1 : n.done ≤ d) (h2 : d ≤ n.log.length) : ackOk n d = true := by simp [ackOk, h, h1, h2]
theorem ackOk_nd {n : Nd} {d : Int} (h : ndOk n = false) : ackOk n d = false := by simp [ackOk, h]
theorem ackOk_d {n : Nd} {d : Int} (h : ¬ (n.done ≤ d ∧ d ≤ n.log.length)) : ackOk n d = false := by
  have : decide (n.done ≤ d ∧ d ≤ (n.log.length : Int)) = false := by simpa using h
  simp only [ackOk, this, Bool.and_false]
theorem ndAck_yes {n : Nd} {d : Int} (h : ackOk n d = true) : ndAck n d = ⟨n.id, n.log, d⟩ := by simp [ndAck, h]
theorem ndAck_no {n : Nd} {d : Int} (h : ackOk n d = false) : ndAck n d = Nd.zero := by simp [ndAck, h]
theorem ndPend_yes {n : Nd} (h : ndOk n = true) : ndPend n = n.log.drop n.done.toNat := by simp [ndPend, h]
theorem ndPend_no {n : Nd} (h : ndOk n = false) : ndPend n = [] := by simp [ndPend, h]

theorem takeOk_yes {n : Nd} {u : Upd} (h : takeOk n u = true) : ndOk n = true ∧ updOk u = true ∧ n.log.length < 12 := by
  simp [takeOk] at h; exact ⟨h.1.1, h.1.2, h.2⟩
theorem takeOk_nd {n : Nd} {u : Upd} (h : ndOk n = false) : takeOk n u = false := by simp [takeOk, h]
theorem takeOk_upd {n : Nd} {u : Upd} (h : updOk u = false) : takeOk n u = false := by simp [takeOk, h]
theorem takeOk_full {n : Nd} {u : Upd} (h : ¬ n.log.length < 12) : takeOk n u = false := by simp [takeOk]; intros; omega
theorem takeOk_mk {n : Nd} {u : Upd} (h : ndOk n = true) (h1 : updOk u = true) (h2 : n.log.length < 12) : takeOk n u = true := by simp [takeOk, h, h1, h2]
theorem ndTake_yes {n : Nd} {u : Upd} (h : takeOk n u = true) : ndTake n u = ⟨n.id, n.log ++ [u], n.done⟩ := by simp [ndTake, h]
theorem ndTake_no {n : Nd} {u : Upd} (h : takeOk n u = false) : ndTake n u = Nd.zero := by simp [ndTake, h]

/-- What a node answers is no longer than it was. -/
theorem ndAck_len (n : Nd) (d : Int) (m : Nat) (h : n.log.length ≤ m) : (ndAck n d).log.length ≤ m := by
  unfold ndAck; split
  · exact h
  · simp [Nd.zero]
theorem ndTake_len (n : Nd) (u : Upd) : (ndTake n u).log.length ≤ 12 := by
  unfold ndTake; split
  · rename_i h; have := (takeOk_yes h).2.2; simp; omega
  · simp [Nd.zero]
theorem ndPend_len (n : Nd) (m : Nat) (h : n.log.length ≤ m) : (ndPend n).length ≤ m := by
  unfold ndPend; split
  · simp; omega
  · simp

theorem nd_cases (n : Nd) : ∃ i l j, n = ⟨i, l, j⟩ := ⟨n.id, n.log, n.done, rfl⟩

/-- A node that has told what is everywhere. -/
theorem ndOk_ack {i j d : Int} {l : List Upd} (h : ackOk ⟨i, l, j⟩ d = true) : ndOk ⟨i, l, d⟩ = true := by
  obtain ⟨h1, h2, h3⟩ := ackOk_yes h
  obtain ⟨a, b, c, e, f, g⟩ := ndOk_parts h1
  simp only at h2 h3
  exact ndOk_mk a b c (by omega) h3
theorem logOk_snoc {l : List Upd} {u : Upd} (h : logOk l = true) (hu : updOk u = true) (hl : l.length < 12) : logOk (l ++ [u]) = true := by
  refine logOk_of (by simp; omega) fun i hi => ?_
  by_cases e : i < l.length
  · rw [List.getElem_append_left e]; exact logOk_at h e
  · rw [List.getElem_append_right (by omega)]; simpa using hu
theorem ndOk_take {i j : Int} {l : List Upd} {u : Upd} (h : takeOk ⟨i, l, j⟩ u = true) : ndOk ⟨i, l ++ [u], j⟩ = true := by
  obtain ⟨h1, h2, h3⟩ := takeOk_yes h
  obtain ⟨a, b, c, e, f, g⟩ := ndOk_parts h1
  exact ndOk_mk a b (logOk_snoc c h2 h3) f (by simp; omega)
end Go.Proofs.YtciekjplhbimdaaZ

/-
  The plain words for chains, and their laws. Nothing of the program is in sight here.
-/
set_option linter.all false
namespace Go.Proofs.YtciekjplhbimdaaZ

/-- How much a list of nodes holds. -/
def bulk : List Nd → Nat
  | [] => 0
  | n :: ns => 1 + n.log.length + bulk ns
theorem bulk_len : ∀ ns : List Nd, ns.length ≤ bulk ns
  | [] => Nat.le_refl _
  | n :: ns => by have := bulk_len ns; simp [bulk]; omega
theorem bulk_at : ∀ (ns : List Nd) (i : Nat) (hi : i < ns.length), (ns[i]).log.length ≤ bulk ns
  | [], i, hi => by simp at hi
  | n :: ns, 0, _ => by simp [bulk]; omega
  | n :: ns, i + 1, hi => by
    have := bulk_at ns i (by simpa using hi)
    simp only [bulk, List.getElem_cons_succ]; omega
theorem bulk_append : ∀ a b : List Nd, bulk (a ++ b) = bulk a + bulk b
  | [], b => by simp [bulk]
  | n :: a, b => by simp [bulk, bulk_append a b]; omega
theorem bulk_take : ∀ (ns : List Nd) (k : Nat), bulk (ns.take k) ≤ bulk ns
  | ns, 0 => by simp [bulk]
  | [], k + 1 => by simp [bulk]
  | n :: ns, k + 1 => by have := bulk_take ns k; simp [bulk]; omega
theorem bulk_take_succ {ns : List Nd} {k : Nat} (h : k < ns.length) : bulk (ns.take (k + 1)) = bulk (ns.take k) + 1 + (ns[k]).log.length := by
  rw [List.take_succ_eq_append_getElem h, bulk_append]; simp [bulk]; omega
theorem bulk_le (m : Nat) : ∀ (ns : List Nd), (∀ n ∈ ns, n.log.length ≤ m) → bulk ns ≤ ns.length * (m + 1)
  | [], _ => by simp [bulk]
  | n :: ns, h => by
    have h1 := bulk_le m ns fun x hx => h x (List.mem_cons_of_mem _ hx)
    have h2 := h n (List.mem_cons_self ..)
    simp only [bulk, List.length_cons, Nat.add_mul]
    omega

/-- The node at place i fits to those ahead of it. -/
def Fits (ns : List Nd) (i : Nat) : Prop :=
  ∀ n, ns[i]? = some n → ndOk n = true ∧ (∀ k, k < i → ∀ m, ns[k]? = some m → m.id ≠ n.id) ∧ (0 < i → ∀ m, ns[i - 1]? = some m → begins n.log m.log = true ∧ m.done ≤ n.done)
/-- A chain is valid. -/
def ChOk (v : Int) (ns : List Nd) : Prop :=
  (0 ≤ v ∧ v ≤ 999) ∧ (1 ≤ ns.length ∧ ns.length ≤ 5) ∧ (∀ i, i < ns.length → Fits ns i) ∧ ∀ n, ns[ns.length - 1]? = some n → n.done = n.log.length

theorem chOk_decides (v : Int) (ns : List Nd) : ∃ b : Bool, b = true ↔ ChOk v ns := by
  by_cases h : ChOk v ns
  · exact ⟨true, by simp [h]⟩
  · exact ⟨false, by simp [h]⟩
theorem iff_false {b : Bool} {p : Prop} (h : b = true ↔ p) (hp : ¬ p) : b = false := by
  cases b with
  | false => rfl
  | true => exact absurd (h.1 rfl) hp
theorem iff_true {b : Bool} {p : Prop} (h : b = true ↔ p) (hp : p) : b = true := h.2 hp

section
variable {v : Int} {ns : List Nd}
theorem ChOk.node (h : ChOk v ns) {i : Nat} (hi : i < ns.length) : ndOk (ns[i]) = true := (h.2.2.1 i hi _ (List.getElem?_eq_getElem hi)).1
theorem ChOk.ids (h : ChOk v ns) {i k : Nat} (hi : i < ns.length) (hk : k < i) : (ns[k]'(by omega)).id ≠ (ns[i]).id :=
  (h.2.2.1 i hi _ (List.getElem?_eq_getElem hi)).2.1 k hk _ (List.getElem?_eq_getElem (by omega))
theorem ChOk.next (h : ChOk v ns) {i : Nat} (hi : i + 1 < ns.length) : begins (ns[i + 1]).log (ns[i]).log = true ∧ (ns[i]).done ≤ (ns[i + 1]).done :=
  (h.2.2.1 (i + 1) hi _ (List.getElem?_eq_getElem hi)).2.2 (by omega) _ (by simp)
theorem ChOk.tail (h : ChOk v ns) : (ns[ns.length - 1]'(by have := h.2.1; omega)).done = (ns[ns.length - 1]'(by have := h.2.1; omega)).log.length :=
  h.2.2.2 _ (List.getElem?_eq_getElem (by have := h.2.1; omega))
theorem ChOk.log12 (h : ChOk v ns) {i : Nat} (hi : i < ns.length) : (ns[i]).log.length ≤ 12 := by
  have := h.node hi
  obtain ⟨a, l, c, e⟩ := nd_cases (ns[i])
  rw [e] at this ⊢
  exact (ndOk_parts this).2.2.2.1
end

theorem begins_len {a b : List Upd} (h : begins a b = true) : a.length ≤ b.length := (common_prefix (begins_ok h).2.2).1
theorem begins_pre {a b : List Upd} (h : begins a b = true) : b.take a.length = a := (common_prefix (begins_ok h).2.2).2
theorem begins_of {a b : List Upd} (h1 : logOk a = true) (h2 : logOk b = true) (h : b.take a.length = a) : begins a b = true := by
  simp [begins, h1, h2, prefix_common h]
theorem begins_refl {a : List Upd} (h : logOk a = true) : begins a a = true := begins_of h h (by simp)
theorem begins_trans {a b c : List Upd} (h1 : begins a b = true) (h2 : begins b c = true) : begins a c = true := by
  refine begins_of (begins_ok h1).1 (begins_ok h2).2.1 ?_
  have e1 := begins_pre h1
  have e2 := begins_pre h2
  have hl := begins_len h1
  have e3 : c.take a.length = (c.take b.length).take a.length := by rw [List.take_take, Nat.min_eq_left hl]
  rw [e3, e2, e1]
section
variable {v : Int} {ns : List Nd}
/-- Each log is the beginning of each one ahead. -/
theorem ChOk.begins (h : ChOk v ns) : ∀ (d k : Nat) (hd : k + d < ns.length), begins (ns[k + d]).log (ns[k]'(by omega)).log = true
  | 0, k, hd => begins_refl (by
      have := h.node (i := k) (by omega)
      obtain ⟨a, l, c, e⟩ := nd_cases (ns[k]'(by omega))
      simp only [Nat.add_zero]
      rw [e] at this ⊢
      exact (ndOk_parts this).2.2.1)
  | d + 1, k, hd => begins_trans (h.next (i := k + d) hd).1 (h.begins d k (by omega))
theorem ChOk.dones (h : ChOk v ns) : ∀ (d k : Nat) (hd : k + d < ns.length), (ns[k]'(by omega)).done ≤ (ns[k + d]).done
  | 0, k, hd => Int.le_refl _
  | d + 1, k, hd => Int.le_trans (h.dones d k (by omega)) (h.next (i := k + d) hd).2
theorem ChOk.begins' (h : ChOk v ns) {i k : Nat} (hi : i < ns.length) (hk : k ≤ i) : Go.Proofs.YtciekjplhbimdaaZ.begins (ns[i]).log (ns[k]'(by omega)).log = true := by
  have := h.begins (i - k) k (by omega)
  have e : k + (i - k) = i := by omega
  simp only [e] at this
  exact this
theorem ChOk.dones' (h : ChOk v ns) {i k : Nat} (hi : i < ns.length) (hk : k ≤ i) : (ns[k]'(by omega)).done ≤ (ns[i]).done := by
  have := h.dones (i - k) k (by omega)
  have e : k + (i - k) = i := by omega
  simp only [e] at this
  exact this
end
end Go.Proofs.YtciekjplhbimdaaZ

/-
  The plain words for telling, writing and passing in chains, and their laws. Nothing of the program is in sight here.
-/
set_option linter.all false
namespace Go.Proofs.YtciekjplhbimdaaZ

theorem getElem_some {α : Type} {l : List α} {i : Nat} {a : α} (h : l[i]? = some a) : i < l.length := (List.getElem?_eq_some_iff.1 h).1
theorem set_at {α : Type} {l : List α} {i : Nat} {a b : α} (h : l[i]? = some a) : (l.set i b)[i]? = some b := by
  rw [List.getElem?_set, if_pos rfl, if_pos (getElem_some h)]
theorem set_off {α : Type} {l : List α} {i k : Nat} {b : α} (h : i ≠ k) : (l.set i b)[k]? = l[k]? := by
  rw [List.getElem?_set, if_neg h]
theorem ndOk_all {n : Nd} (h : ndOk n = true) : (1 ≤ n.id ∧ n.id ≤ 99) ∧ logOk n.log = true ∧ n.log.length ≤ 12 ∧ 0 ≤ n.done ∧ n.done ≤ n.log.length := by
  obtain ⟨a, l, c, e⟩ := nd_cases n
  subst e
  obtain ⟨h1, h2, h3, h4, h5, h6⟩ := ndOk_parts h
  exact ⟨⟨h1, h2⟩, h3, h4, h5, h6⟩
section
variable {v : Int} {ns : List Nd} {i : Nat} {n m : Nd}
theorem ChOk.at_ (h : ChOk v ns) (hn : ns[i]? = some n) : ndOk n = true := (h.2.2.1 i (getElem_some hn) n hn).1
theorem ChOk.nextAt (h : ChOk v ns) {p : Nd} (hn : ns[i]? = some n) (hp : ns[i + 1]? = some p) : Go.Proofs.YtciekjplhbimdaaZ.begins p.log n.log = true ∧ n.done ≤ p.done :=
  (h.2.2.1 (i + 1) (getElem_some hp) p hp).2.2 (Nat.succ_pos _) n hn
theorem ChOk.last (h : ChOk v ns) (hn : ns[i]? = some n) (hi : i + 1 = ns.length) : n.done = n.log.length := h.2.2.2 n (by rw [← hn]; congr 1; omega)
/-- A chain with another node at a place. -/
theorem ChOk.set (h : ChOk v ns) (hn : ns[i]? = some n) (hid : m.id = n.id) (hm : ndOk m = true) (hprev : ∀ p, 0 < i → ns[i - 1]? = some p → Go.Proofs.YtciekjplhbimdaaZ.begins m.log p.log = true ∧ p.done ≤ m.done)
    (hnext : ∀ p, ns[i + 1]? = some p → Go.Proofs.YtciekjplhbimdaaZ.begins p.log m.log = true ∧ m.done ≤ p.done) (hlast : i + 1 = ns.length → m.done = m.log.length) : ChOk v (ns.set i m) := by
  have hi := getElem_some hn
  refine ⟨h.1, by simpa using h.2.1, fun k hk x hx => ?_, fun x hx => ?_⟩
  · rw [List.getElem?_set] at hx
    by_cases e : i = k
    · subst e
      rw [if_pos rfl, if_pos hi] at hx
      cases hx
      refine ⟨hm, fun j hj p hp => ?_, fun h0 p hp => ?_⟩
      · rw [set_off (by omega)] at hp
        rw [hid]
        exact (h.2.2.1 i hi _ hn).2.1 j hj p hp
      · rw [set_off (by omega)] at hp
        exact hprev p h0 hp
    · rw [if_neg e] at hx
      obtain ⟨f1, f2, f3⟩ := h.2.2.1 k (by simpa using hk) x hx
      refine ⟨f1, fun j hj p hp => ?_, fun h0 p hp => ?_⟩
      · by_cases e2 : i = j
        · subst e2
          rw [set_at hn] at hp
          cases hp
          rw [hid]
          exact f2 i hj _ hn
        · rw [set_off e2] at hp
          exact f2 j hj p hp
      · by_cases e2 : i = k - 1
        · have e3 : k = i + 1 := by omega
          subst e3
          rw [show i + 1 - 1 = i by omega, set_at hn] at hp
          cases hp
          exact hnext x hx
        · rw [set_off e2] at hp
          exact f3 h0 p hp
  · rw [List.length_set] at hx
    by_cases e : i = ns.length - 1
    · rw [← e, set_at hn] at hx
      cases hx
      exact hlast (by omega)
    · rw [set_off e] at hx
      exact h.2.2.2 x hx
end
theorem bulk_set : ∀ (ns : List Nd) (i : Nat) (n m : Nd), ns[i]? = some n → bulk (ns.set i m) + n.log.length = bulk ns + m.log.length
  | [], i, n, m, h => by simp at h
  | x :: ns, 0, n, m, h => by simp at h; subst h; simp [bulk]; omega
  | x :: ns, i + 1, n, m, h => by
    have := bulk_set ns i n m (by simpa using h)
    simp only [List.set_cons_succ, bulk]
    omega

/-! ### Telling -/
/-- May node k be told? x is it, y the one behind it. -/
def TellAt (v : Int) (ns : List Nd) (at_ : Int) (k : Nat) (x y : Nd) : Prop := ChOk v ns ∧ at_ = k ∧ ns[k]? = some x ∧ ns[k + 1]? = some y ∧ x.done ≠ y.done
def TellRes (v : Int) (ns : List Nd) (at_ : Int) (rv : Int) (rl : List Nd) (rb : Bool) : Prop :=
  (∃ k x y, TellAt v ns at_ k x y ∧ rv = v ∧ rl = ns.set k ⟨x.id, x.log, y.done⟩ ∧ rb = true) ∨ ((¬ ∃ k x y, TellAt v ns at_ k x y) ∧ rv = 0 ∧ rl = [] ∧ rb = false)
theorem tellRes_ex (v : Int) (ns : List Nd) (at_ : Int) : ∃ rv rl rb, TellRes v ns at_ rv rl rb := by
  by_cases h : ∃ k x y, TellAt v ns at_ k x y
  · obtain ⟨k, x, y, h⟩ := h
    exact ⟨_, _, _, .inl ⟨k, x, y, h, rfl, rfl, rfl⟩⟩
  · exact ⟨_, _, _, .inr ⟨h, rfl, rfl, rfl⟩⟩
theorem tellRes_bulk {v at_ rv : Int} {ns rl : List Nd} {rb : Bool} (h : TellRes v ns at_ rv rl rb) : bulk rl ≤ bulk ns := by
  rcases h with ⟨k, x, y, h, -, rfl, -⟩ | ⟨-, -, rfl, -⟩
  · have := bulk_set ns k x ⟨x.id, x.log, y.done⟩ h.2.2.1
    simp only at this
    omega
  · simp [bulk]
theorem tellAt_ok {v at_ : Int} {ns : List Nd} {k : Nat} {x y : Nd} (h : TellAt v ns at_ k x y) : ChOk v (ns.set k ⟨x.id, x.log, y.done⟩) ∧ x.done < y.done := by
  obtain ⟨hok, -, hx, hy, hne⟩ := h
  obtain ⟨h1, h2⟩ := hok.nextAt hx hy
  obtain ⟨⟨a1, a2⟩, a3, a4, a5, a6⟩ := ndOk_all (hok.at_ hx)
  obtain ⟨⟨b1, b2⟩, b3, b4, b5, b6⟩ := ndOk_all (hok.at_ hy)
  have hl := begins_len h1
  refine ⟨hok.set hx rfl (ndOk_mk a1 a2 a3 (by omega) (by omega)) (fun p h0 hp => ?_) (fun p hp => ?_) (fun e => ?_), by omega⟩
  · have := hok.nextAt (i := k - 1) hp (by rw [show k - 1 + 1 = k by omega]; exact hx)
    exact ⟨this.1, by have := this.2; show p.done ≤ y.done; omega⟩
  · rw [hy] at hp
    cases hp
    exact ⟨h1, Int.le_refl _⟩
  · have := getElem_some hy
    omega
/-- Told twice: nothing is left to be told. -/
theorem tellAt_twice {v at_ : Int} {ns : List Nd} {k : Nat} {x y : Nd} (h : TellAt v ns at_ k x y) : ¬ ∃ k' x' y', TellAt v (ns.set k ⟨x.id, x.log, y.done⟩) at_ k' x' y' := by
  rintro ⟨k', x', y', -, h1, h2, h3, h4⟩
  obtain ⟨hok, hk, hx, hy, -⟩ := h
  have e : k' = k := by omega
  subst e
  rw [set_at hx] at h2
  rw [set_off (by omega), hy] at h3
  cases h2
  cases h3
  exact h4 rfl

/-! ### Passing -/
/-- May node k pass? x is it, y the one behind it. -/
def PassAt (v : Int) (ns : List Nd) (at_ : Int) (k : Nat) (x y : Nd) : Prop := ChOk v ns ∧ at_ = k ∧ ns[k]? = some x ∧ ns[k + 1]? = some y ∧ x.log.length ≠ y.log.length
/-- A node that has taken one update more; the last one knows it to be everywhere. -/
def passed (ns : List Nd) (k : Nat) (y : Nd) (u : Upd) : Nd := ⟨y.id, y.log ++ [u], if k + 2 = ns.length then ((y.log.length + 1 : Nat) : Int) else y.done⟩
def PassRes (v : Int) (ns : List Nd) (at_ : Int) (rv : Int) (rl : List Nd) (rb : Bool) : Prop :=
  (∃ k x y u, PassAt v ns at_ k x y ∧ x.log[y.log.length]? = some u ∧ rv = v ∧ rl = ns.set (k + 1) (passed ns k y u) ∧ rb = true) ∨ ((¬ ∃ k x y, PassAt v ns at_ k x y) ∧ rv = 0 ∧ rl = [] ∧ rb = false)
theorem passAt_lt {v at_ : Int} {ns : List Nd} {k : Nat} {x y : Nd} (h : PassAt v ns at_ k x y) : y.log.length < x.log.length ∧ x.log.length ≤ 12 ∧ x.log.take y.log.length = y.log := by
  obtain ⟨hok, -, hx, hy, hne⟩ := h
  have h1 := (hok.nextAt hx hy).1
  have h2 := begins_len h1
  exact ⟨by omega, (ndOk_all (hok.at_ hx)).2.2.1, begins_pre h1⟩
theorem passRes_ex (v : Int) (ns : List Nd) (at_ : Int) : ∃ rv rl rb, PassRes v ns at_ rv rl rb := by
  by_cases h : ∃ k x y, PassAt v ns at_ k x y
  · obtain ⟨k, x, y, h⟩ := h
    exact ⟨_, _, _, .inl ⟨k, x, y, _, h, List.getElem?_eq_getElem (passAt_lt h).1, rfl, rfl, rfl⟩⟩
  · exact ⟨_, _, _, .inr ⟨h, rfl, rfl, rfl⟩⟩
theorem passRes_bulk {v at_ rv : Int} {ns rl : List Nd} {rb : Bool} (h : PassRes v ns at_ rv rl rb) : bulk rl ≤ bulk ns + 1 := by
  rcases h with ⟨k, x, y, u, h, -, -, rfl, -⟩ | ⟨-, -, rfl, -⟩
  · have := bulk_set ns (k + 1) y (passed ns k y u) h.2.2.2.1
    simp only [passed, List.length_append, List.length_singleton] at this
    unfold passed
    omega
  · simp [bulk]
theorem begins_snoc {a b : List Upd} {u : Upd} (h : begins a b = true) (hu : b[a.length]? = some u) : begins (a ++ [u]) b = true ∧ logOk (a ++ [u]) = true := by
  obtain ⟨h1, h2, -⟩ := begins_ok h
  have h3 := begins_pre h
  have hl := getElem_some hu
  have e : b.take (a ++ [u]).length = a ++ [u] := by
    rw [List.length_append, List.length_singleton, List.take_succ_eq_append_getElem hl, h3]
    congr 2
    rw [List.getElem?_eq_getElem hl] at hu
    exact Option.some.inj hu
  have hb12 : b.length ≤ 12 := by
    unfold logOk at h2
    simp at h2
    exact h2.1
  have hk : logOk (a ++ [u]) = true := by
    refine logOk_snoc h1 ?_ (by omega)
    rw [List.getElem?_eq_getElem hl] at hu
    rw [← Option.some.inj hu]
    exact logOk_at h2 hl
  exact ⟨begins_of hk h2 e, hk⟩
theorem begins_more {a b : List Upd} {u : Upd} (h : begins a b = true) (hk : logOk (b ++ [u]) = true) : begins a (b ++ [u]) = true := by
  refine begins_of (begins_ok h).1 hk ?_
  have h3 := begins_pre h
  rw [List.take_append_of_le_length (begins_len h), h3]
theorem passAt_ok {v at_ : Int} {ns : List Nd} {k : Nat} {x y : Nd} {u : Upd} (h : PassAt v ns at_ k x y) (hu : x.log[y.log.length]? = some u) : ChOk v (ns.set (k + 1) (passed ns k y u)) := by
  have hlt := passAt_lt h
  obtain ⟨hok, -, hx, hy, hne⟩ := h
  obtain ⟨h1, h2⟩ := hok.nextAt hx hy
  obtain ⟨⟨a1, a2⟩, a3, a4, a5, a6⟩ := ndOk_all (hok.at_ hx)
  obtain ⟨⟨b1, b2⟩, b3, b4, b5, b6⟩ := ndOk_all (hok.at_ hy)
  obtain ⟨s1, s2⟩ := begins_snoc h1 hu
  have hd : 0 ≤ (passed ns k y u).done ∧ (passed ns k y u).done ≤ ((y.log ++ [u]).length : Nat) ∧ y.done ≤ (passed ns k y u).done := by
    unfold passed
    simp only [List.length_append, List.length_singleton]
    split <;> omega
  refine hok.set hy rfl (ndOk_mk b1 b2 s2 hd.1 hd.2.1) (fun p h0 hp => ?_) (fun p hp => ?_) (fun e => ?_)
  · rw [show k + 1 - 1 = k by omega, hx] at hp
    cases hp
    exact ⟨s1, by omega⟩
  · have f := hok.nextAt hy hp
    refine ⟨begins_more f.1 s2, ?_⟩
    have := getElem_some hp
    unfold passed
    rw [if_neg (by omega)]
    exact f.2
  · unfold passed
    rw [if_pos (by omega)]
    simp

/-! ### Writing -/
def WriteAt (v : Int) (ns : List Nd) (u : Upd) (x : Nd) : Prop := ChOk v ns ∧ ns[0]? = some x ∧ updOk u = true ∧ x.log.length < 12
def written (ns : List Nd) (x : Nd) (u : Upd) : Nd := ⟨x.id, x.log ++ [u], if ns.length = 1 then ((x.log.length + 1 : Nat) : Int) else x.done⟩
def WriteRes (v : Int) (ns : List Nd) (u : Upd) (rv : Int) (rl : List Nd) (rb : Bool) : Prop :=
  (∃ x, WriteAt v ns u x ∧ rv = v ∧ rl = ns.set 0 (written ns x u) ∧ rb = true) ∨ ((¬ ∃ x, WriteAt v ns u x) ∧ rv = 0 ∧ rl = [] ∧ rb = false)
theorem writeRes_ex (v : Int) (ns : List Nd) (u : Upd) : ∃ rv rl rb, WriteRes v ns u rv rl rb := by
  by_cases h : ∃ x, WriteAt v ns u x
  · obtain ⟨x, h⟩ := h
    exact ⟨_, _, _, .inl ⟨x, h, rfl, rfl, rfl⟩⟩
  · exact ⟨_, _, _, .inr ⟨h, rfl, rfl, rfl⟩⟩
theorem writeRes_bulk {v rv : Int} {ns rl : List Nd} {u : Upd} {rb : Bool} (h : WriteRes v ns u rv rl rb) : bulk rl ≤ bulk ns + 1 := by
  rcases h with ⟨x, h, -, rfl, -⟩ | ⟨-, -, rfl, -⟩
  · have := bulk_set ns 0 x (written ns x u) h.2.1
    simp only [written, List.length_append, List.length_singleton] at this
    unfold written
    omega
  · simp [bulk]
theorem writeAt_ok {v : Int} {ns : List Nd} {u : Upd} {x : Nd} (h : WriteAt v ns u x) : ChOk v (ns.set 0 (written ns x u)) := by
  obtain ⟨hok, hx, hu, hl⟩ := h
  obtain ⟨⟨a1, a2⟩, a3, a4, a5, a6⟩ := ndOk_all (hok.at_ hx)
  have s2 := logOk_snoc a3 hu hl
  have hd : 0 ≤ (written ns x u).done ∧ (written ns x u).done ≤ ((x.log ++ [u]).length : Nat) ∧ x.done ≤ (written ns x u).done := by
    unfold written
    simp only [List.length_append, List.length_singleton]
    split <;> omega
  refine hok.set hx rfl (ndOk_mk a1 a2 s2 hd.1 hd.2.1) (fun p h0 hp => absurd h0 (Nat.lt_irrefl _)) (fun p hp => ?_) (fun e => ?_)
  · have f := hok.nextAt hx hp
    refine ⟨begins_more f.1 s2, ?_⟩
    have := getElem_some hp
    unfold written
    rw [if_neg (by omega)]
    exact f.2
  · unfold written
    rw [if_pos (by omega)]
    simp
end Go.Proofs.YtciekjplhbimdaaZ
