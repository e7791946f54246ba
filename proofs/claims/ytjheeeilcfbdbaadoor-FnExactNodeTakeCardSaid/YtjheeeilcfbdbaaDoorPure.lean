/-
  The plain functions on lists and numbers that the program computes, and their laws. Nothing of the program is in sight here.
-/
set_option linter.all false
set_option maxRecDepth 100000
namespace Go.Proofs.YtjheeeilcfbdbaaDoor

/-- An update: its key and its value. -/
abbrev Upd := Int × Int

def updOk (u : Upd) : Bool := decide (0 ≤ u.1 ∧ u.1 ≤ 4 ∧ 0 ≤ u.2 ∧ u.2 ≤ 99)
def logOk (l : List Upd) : Bool := decide (l.length ≤ 12) && l.all updOk

/-- How many updates two logs have in common at their beginning. -/
def common : List Upd → List Upd → Nat
  | a :: as, b :: bs => if a = b then common as bs + 1 else 0
  | _, _ => 0
def commonI (a b : List Upd) : Int := if logOk a && logOk b then (common a b : Int) else -1
def begins (a b : List Upd) : Bool := logOk a && logOk b && decide (common a b = a.length)

/-- The numbers of the updates of a key, the first update having number n + 1. -/
def keysFrom (key : Int) : Nat → List Upd → List Int
  | _, [] => []
  | n, u :: l => if u.1 = key then ((n : Int) + 1) :: keysFrom key (n + 1) l else keysFrom key (n + 1) l
def logKey (l : List Upd) (key : Int) : List Int := if logOk l then keysFrom key 0 l else []

def putAt (s : List Int) (u : Upd) : List Int := s.set u.1.toNat u.2
def stBehind (l : List Upd) : List Int := l.foldl putAt [-1, -1, -1, -1, -1]
def stateAt (l : List Upd) (many : Int) : List Int := if logOk l && decide (0 ≤ many ∧ many ≤ l.length) then stBehind (l.take many.toNat) else []
def stateOf (l : List Upd) : List Int := if logOk l then stBehind l else []
def valOk (v : Int) : Bool := decide (-1 ≤ v ∧ v ≤ 99)
def stateOk (s : List Int) : Bool := decide (s.length = 5) && s.all valOk
def putOk (s : List Int) (u : Upd) : Bool := stateOk s && updOk u
def statePut (s : List Int) (u : Upd) : List Int := if putOk s u then putAt s u else []

/-- A node: its id, its log, how many updates are known to be everywhere. -/
structure Nd where
  id : Int
  log : List Upd
  done : Int
def ndOk (n : Nd) : Bool := decide (1 ≤ n.id ∧ n.id ≤ 99) && logOk n.log && decide (0 ≤ n.done ∧ n.done ≤ n.log.length)
def Nd.zero : Nd := ⟨0, [], 0⟩

/-! ### Laws -/
theorem logOk_len {l : List Upd} (h : logOk l = true) : l.length ≤ 12 := by
  simp [logOk] at h; exact h.1
theorem logOk_at {l : List Upd} (h : logOk l = true) {i : Nat} (hi : i < l.length) : updOk (l[i]) = true := by
  simp [logOk] at h; exact h.2 _ _ (List.getElem_mem hi)
theorem logOk_of {l : List Upd} (h : l.length ≤ 12) (h' : ∀ i (hi : i < l.length), updOk (l[i]) = true) : logOk l = true := by
  simp only [logOk, Bool.and_eq_true, decide_eq_true_eq, List.all_eq_true]
  refine ⟨h, fun x hx => ?_⟩
  obtain ⟨i, hi, rfl⟩ := List.mem_iff_getElem.1 hx
  exact h' i hi
theorem logOk_bad {l : List Upd} {i : Nat} (hi : i < l.length) (h : updOk (l[i]) = false) : logOk l = false := by
  cases e : logOk l with
  | false => rfl
  | true => rw [logOk_at e hi] at h; cases h
theorem logOk_long {l : List Upd} (h : 12 < l.length) : logOk l = false := by
  cases e : logOk l with
  | false => rfl
  | true => have := logOk_len e; omega

theorem common_le_left : ∀ a b : List Upd, common a b ≤ a.length
  | [], b => by cases b <;> simp [common]
  | x :: a, [] => by simp [common]
  | x :: a, y :: b => by
    have := common_le_left a b
    simp only [common]; split <;> simp <;> omega
theorem common_comm : ∀ a b : List Upd, common a b = common b a
  | [], b => by cases b <;> simp [common]
  | x :: a, [] => by simp [common]
  | x :: a, y :: b => by
    simp only [common, common_comm a b, eq_comm]
theorem common_le_right (a b : List Upd) : common a b ≤ b.length := by rw [common_comm]; exact common_le_left b a
theorem common_self : ∀ a : List Upd, common a a = a.length
  | [] => by simp [common]
  | x :: a => by simp [common, common_self a]
/-- One round of the count: both have one more, and it is the same. -/
theorem common_take : ∀ a b : List Upd, a.take (common a b) = b.take (common a b)
  | [], b => by cases b <;> simp [common]
  | x :: a, [] => by simp [common]
  | x :: a, y :: b => by
    simp only [common]
    split
    · rename_i h; subst h; simp [common_take a b]
    · simp
/-- The count is k, if the first k agree and the next ones do not. -/
theorem common_eq : ∀ (k : Nat) (a b : List Upd), k ≤ a.length → k ≤ b.length → (∀ i, i < k → a[i]? = b[i]?) → (k < a.length → k < b.length → a[k]? ≠ b[k]?) → common a b = k
  | 0, a, b, _, _, _, h => by
    match a, b with
    | [], b => cases b <;> simp [common]
    | x :: a, [] => simp [common]
    | x :: a, y :: b =>
      have := h (by simp) (by simp)
      simp only [List.getElem?_cons_zero, ne_eq, Option.some.injEq] at this
      simp [common, this]
  | k + 1, [], b, h, _, _, _ => by simp at h
  | k + 1, x :: a, [], _, h, _, _ => by simp at h
  | k + 1, x :: a, y :: b, ha, hb, he, hn => by
    have h0 := he 0 (by omega)
    simp only [List.getElem?_cons_zero, Option.some.injEq] at h0
    subst h0
    have := common_eq k a b (by simpa using ha) (by simpa using hb) (fun i hi => by simpa using he (i + 1) (by omega)) (fun h1 h2 => by simpa using hn (by simpa using h1) (by simpa using h2))
    simp [common, this]
theorem common_ne (a b : List Upd) (h1 : common a b < a.length) (h2 : common a b < b.length) : a[common a b]? ≠ b[common a b]? := by
  induction a generalizing b with
  | nil => simp at h1
  | cons x a ih =>
    cases b with
    | nil => simp at h2
    | cons y b =>
      by_cases e : x = y
      · subst e
        simp only [common, if_true, List.length_cons] at h1 h2 ⊢
        simpa using ih b (by omega) (by omega)
      · simpa [common, e] using e
theorem common_prefix {a b : List Upd} (h : common a b = a.length) : a.length ≤ b.length ∧ b.take a.length = a := by
  have h1 := common_le_right a b
  have h2 := common_take a b
  rw [h] at h1 h2
  exact ⟨h1, by rw [← h2]; simp⟩
theorem prefix_common {a b : List Upd} (h : b.take a.length = a) : common a b = a.length := by
  have hl : a.length ≤ b.length := by
    have := congrArg List.length h
    simp at this; omega
  refine common_eq _ _ _ (Nat.le_refl _) hl (fun i hi => ?_) (fun h => by omega)
  conv => lhs; rw [← h]
  rw [List.getElem?_take, if_pos hi]

end Go.Proofs.YtjheeeilcfbdbaaDoor
