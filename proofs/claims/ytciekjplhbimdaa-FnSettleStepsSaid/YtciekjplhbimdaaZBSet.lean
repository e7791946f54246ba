/-
  Words and contracts, joined: SPure, SPure2, Settle1, Settle2, Settle3.
-/
import Derived.Test.YtciekjplhbimdaaZBPure
import Derived.Test.YtciekjplhbimdaaZChain6
import Derived.Test.YtciekjplhbimdaaZCGot
import Derived.Test.YtciekjplhbimdaaZChain13
import Derived.Test.YtciekjplhbimdaaZChain9
import Derived.Test.YtciekjplhbimdaaZChain14
import Derived.Test.YtciekjplhbimdaaZChain8
/-
  The plain words for settling chains, and their laws. Nothing of the program is in sight here.
-/
set_option linter.all false
set_option maxRecDepth 100000
namespace Go.Proofs.YtciekjplhbimdaaZ

/-- How many steps are left, while the head has H updates. -/
def rem (H : Nat) : List Nd → Nat
  | [] => 0
  | [x] => H - x.log.length
  | x :: y :: r => (H - x.log.length) + (if x.done < (H : Int) then 1 else 0) + rem H (y :: r)
/-- All nodes have what the head has, and know it to be everywhere. -/
def settled (L : List Upd) (ns : List Nd) : List Nd := ns.map fun x => ⟨x.id, L, (L.length : Int)⟩
/-- The steps that pass: each place as often as the node behind it lacks updates. -/
def passQ (H : Nat) : Nat → List Nd → List (Bool × Int)
  | _, [] => []
  | i, x :: r => List.replicate (H - x.log.length) (false, (i : Int) - 1) ++ passQ H (i + 1) r
/-- The steps that tell, from the last place on. -/
def tellQ : Nat → List (Bool × Int)
  | 0 => []
  | m + 1 => (true, (m : Int)) :: tellQ m

theorem passQ_nil {H : Nat} : ∀ (ns : List Nd) (i : Nat), (∀ x ∈ ns, H ≤ x.log.length) → passQ H i ns = []
  | [], _, _ => rfl
  | x :: r, i, h => by
    have h1 := h x (List.mem_cons_self ..)
    rw [passQ, passQ_nil r (i + 1) fun y hy => h y (List.mem_cons_of_mem _ hy), show H - x.log.length = 0 by omega]
    rfl
theorem passQ_full {H : Nat} : ∀ (ns : List Nd) (i : Nat), passQ H i ns = [] → ∀ x ∈ ns, H ≤ x.log.length
  | [], _, _, _, hx => by simp at hx
  | y :: r, i, h, x, hx => by
    rw [passQ, List.append_eq_nil_iff, List.replicate_eq_nil_iff] at h
    rcases List.mem_cons.1 hx with rfl | hx
    · omega
    · exact passQ_full r (i + 1) h.2 x hx
theorem passQ_set {H : Nat} {y m : Nd} (hy : y.log.length < H) (hm : m.log.length = y.log.length + 1) : ∀ (ns : List Nd) (off i : Nat), ns[i]? = some y → (∀ j, j < i → ∀ z, ns[j]? = some z → H ≤ z.log.length) →
    passQ H off ns = (false, ((off + i : Nat) : Int) - 1) :: passQ H off (ns.set i m)
  | [], _, _, h, _ => by simp at h
  | x :: r, off, 0, h, _ => by
    simp at h
    subst h
    simp only [passQ, List.set_cons_zero, hm]
    rw [show H - x.log.length = (H - (x.log.length + 1)) + 1 by omega, List.replicate_succ]
    simp
  | x :: r, off, i + 1, h, hj => by
    have h0 := hj 0 (by omega) x (by simp)
    have ih := passQ_set hy hm r (off + 1) i (by simpa using h) fun j hjl z hz => hj (j + 1) (by omega) z (by simpa using hz)
    simp only [passQ, List.set_cons_succ]
    rw [show H - x.log.length = 0 by omega, ih]
    simp
    omega
theorem rem_set {H : Nat} {y m : Nd} (hy : y.log.length < H) (hm : m.log.length = y.log.length + 1) : ∀ (ns : List Nd) (i : Nat), ns[i]? = some y → (i + 1 < ns.length → m.done = y.done) → rem H (ns.set i m) + 1 = rem H ns
  | [], _, h, _ => by simp at h
  | [x], 0, h, _ => by simp at h; subst h; simp [rem]; omega
  | [x], i + 1, h, _ => by simp at h
  | x :: z :: r, 0, h, hd => by
    simp at h
    subst h
    have := hd (by simp)
    simp only [List.set_cons_zero, rem, this]
    omega
  | x :: z :: r, i + 1, h, hd => by
    have ih := rem_set hy hm (z :: r) i (by simpa using h) fun hi => hd (by simpa using hi)
    have e : (x :: z :: r).set (i + 1) m = x :: (z :: r).set i m := rfl
    rw [e]
    cases hq : (z :: r).set i m with
    | nil => have := congrArg List.length hq; simp at this
    | cons a b =>
      rw [hq] at ih
      simp only [rem]
      omega
theorem rem_tell {H : Nat} {x m : Nd} (hl : m.log = x.log) (hx : x.done < (H : Int)) (hm : m.done = (H : Int)) : ∀ (ns : List Nd) (i : Nat), ns[i]? = some x → i + 1 < ns.length → rem H (ns.set i m) + 1 = rem H ns
  | [], _, h, _ => by simp at h
  | [z], i, h, hd => by simp at hd
  | a :: z :: r, 0, h, hd => by
    simp at h
    subst h
    simp only [List.set_cons_zero, rem, hl, hm, hx, if_true]
    rw [if_neg (by omega)]
    omega
  | a :: z :: r, i + 1, h, hd => by
    have ih := rem_tell hl hx hm (z :: r) i (by simpa using h) (by simpa using hd)
    have e : (a :: z :: r).set (i + 1) m = a :: (z :: r).set i m := rfl
    rw [e]
    cases hq : (z :: r).set i m with
    | nil => have := congrArg List.length hq; simp at this
    | cons c d =>
      rw [hq] at ih
      simp only [rem]
      omega
theorem rem_zero {H : Nat} : ∀ (ns : List Nd), (∀ x ∈ ns, H ≤ x.log.length) → (∀ i x, i + 1 < ns.length → ns[i]? = some x → (H : Int) ≤ x.done) → rem H ns = 0
  | [], _, _ => rfl
  | [x], h, _ => by have := h x (List.mem_cons_self ..); simp [rem]; omega
  | x :: y :: r, h, hd => by
    have h1 := h x (List.mem_cons_self ..)
    have h2 := hd 0 x (by simp) (by simp)
    have ih := rem_zero (y :: r) (fun z hz => h z (List.mem_cons_of_mem _ hz)) fun i z hi hz => hd (i + 1) z (by simpa using hi) (by simpa using hz)
    simp only [rem, ih]
    rw [if_neg (by omega)]
    omega
theorem rem_le {H : Nat} (hH : H ≤ 12) : ∀ (ns : List Nd), rem H ns ≤ 13 * ns.length
  | [] => by simp [rem]
  | [x] => by simp [rem]; omega
  | x :: y :: r => by
    have ih := rem_le hH (y :: r)
    simp only [rem, List.length_cons] at ih ⊢
    split <;> omega
theorem settled_set {L : List Upd} {y m : Nd} (h : m.id = y.id) {ns : List Nd} {i : Nat} (hn : ns[i]? = some y) : settled L (ns.set i m) = settled L ns := by
  unfold settled
  rw [List.map_set]
  refine List.ext_getElem? fun j => ?_
  rw [List.getElem?_set]
  split
  · rename_i e
    subst e
    split
    · simp [hn, h]
    · rename_i hl
      simp [hn] at hl ⊢
      exact absurd (getElem_some hn) (by omega)
  · rfl

/-- A chain with its head's log. -/
structure Headed (v : Int) (L : List Upd) (ns : List Nd) : Prop where
  ok : ChOk v ns
  head : ∃ x, ns[0]? = some x ∧ x.log = L
section
variable {v : Int} {L : List Upd} {ns : List Nd}
theorem Headed.le (h : Headed v L ns) {i : Nat} {x : Nd} (hx : ns[i]? = some x) : begins x.log L = true := by
  obtain ⟨x0, h0, rfl⟩ := h.head
  have hi := getElem_some hx
  have h1 := h.ok.begins' hi (Nat.zero_le i)
  rw [List.getElem?_eq_getElem hi] at hx
  rw [List.getElem?_eq_getElem (by omega)] at h0
  rw [Option.some.inj hx, Option.some.inj h0] at h1
  exact h1
theorem Headed.len (h : Headed v L ns) {i : Nat} {x : Nd} (hx : ns[i]? = some x) : x.log.length ≤ L.length := begins_len (h.le hx)
theorem Headed.full (h : Headed v L ns) {i : Nat} {x : Nd} (hx : ns[i]? = some x) (hl : L.length ≤ x.log.length) : x.log = L := by
  have h1 := begins_pre (h.le hx)
  have h2 := h.len hx
  rw [show x.log.length = L.length by omega, List.take_length] at h1
  exact h1.symm
theorem Headed.le12 (h : Headed v L ns) : L.length ≤ 12 := by
  obtain ⟨x0, h0, rfl⟩ := h.head
  exact (ndOk_all (h.ok.at_ h0)).2.2.1
theorem Headed.doneLe (h : Headed v L ns) {i : Nat} {x : Nd} (hx : ns[i]? = some x) : x.done ≤ (L.length : Int) := by
  have h1 := (ndOk_all (h.ok.at_ hx)).2.2.2.2
  have h2 := h.len hx
  omega

/-! ### Passing -/
theorem Headed.pass (h : Headed v L ns) {k : Nat} {x y : Nd} {u : Upd} (hp : PassAt v ns (k : Int) k x y) (hu : x.log[y.log.length]? = some u) :
    Headed v L (ns.set (k + 1) (passed ns k y u)) ∧ settled L (ns.set (k + 1) (passed ns k y u)) = settled L ns ∧ rem L.length (ns.set (k + 1) (passed ns k y u)) + 1 = rem L.length ns := by
  have hok := passAt_ok hp hu
  have hlt := (passAt_lt hp).1
  obtain ⟨-, -, hx, hy, hne⟩ := hp
  have hxl := h.len hx
  refine ⟨⟨hok, ?_⟩, settled_set (m := passed ns k y u) (show y.id = y.id from rfl) hy, rem_set (y := y) (m := passed ns k y u) (by omega) (by simp [passed]) _ _ hy fun hi => ?_⟩
  · obtain ⟨x0, h0, e⟩ := h.head
    exact ⟨x0, by rw [set_off (by omega)]; exact h0, e⟩
  · unfold passed
    simp only
    rw [if_neg (by omega)]
/-- Where nothing is passed ahead of k, the nodes up to it have what the head has. -/
theorem Headed.before (h : Headed v L ns) {k : Nat} (hno : ∀ j, j < k → ¬ ∃ k' x y, PassAt v ns (j : Int) k' x y) : ∀ j, j ≤ k → ∀ z, ns[j]? = some z → L.length ≤ z.log.length
  | 0, _, z, hz => by
    obtain ⟨x0, h0, rfl⟩ := h.head
    rw [hz] at h0
    cases h0
    exact Nat.le_refl _
  | j + 1, hj, z, hz => by
    have hi := getElem_some hz
    have hp : ns[j]? = some (ns[j]'(by omega)) := List.getElem?_eq_getElem _
    have ih := h.before hno j (by omega) _ hp
    have hn := hno j (by omega)
    refine Classical.byContradiction fun hlt => hn ⟨j, _, _, h.ok, rfl, hp, hz, ?_⟩
    omega
theorem Headed.first (h : Headed v L ns) {k : Nat} {x y : Nd} {u : Upd} (hp : PassAt v ns (k : Int) k x y) (hu : x.log[y.log.length]? = some u) (hno : ∀ j, j < k → ¬ ∃ k' x y, PassAt v ns (j : Int) k' x y) :
    passQ L.length 0 ns = (false, (k : Int)) :: passQ L.length 0 (ns.set (k + 1) (passed ns k y u)) := by
  have hlt := (passAt_lt hp).1
  obtain ⟨-, -, hx, hy, hne⟩ := hp
  have hxl := h.len hx
  have := passQ_set (H := L.length) (y := y) (m := passed ns k y u) (by omega) (by simp [passed]) ns 0 (k + 1) hy fun j hj z hz => h.before hno j (by omega) z hz
  rw [this]
  congr 2
  omega
/-- The first place that passes; or no place does. -/
theorem pass_first (v : Int) (ns : List Nd) : ∀ n : Nat, (∃ (k : Nat) (x y : Nd), k < n ∧ PassAt v ns (k : Int) k x y ∧ ∀ j, j < k → ¬ ∃ k' x y, PassAt v ns (j : Int) k' x y) ∨ ∀ j, j < n → ¬ ∃ k' x y, PassAt v ns (j : Int) k' x y
  | 0 => .inr fun j hj => absurd hj (Nat.not_lt_zero _)
  | n + 1 => by
    rcases pass_first v ns n with ⟨k, x, y, h1, h2, h3⟩ | h
    · exact .inl ⟨k, x, y, by omega, h2, h3⟩
    · by_cases hp : ∃ k' x y, PassAt v ns (n : Int) k' x y
      · obtain ⟨k', x, y, hp⟩ := hp
        have e : k' = n := by have := hp.2.1; omega
        subst e
        exact .inl ⟨k', x, y, by omega, hp, h⟩
      · refine .inr fun j hj => ?_
        by_cases e : j = n
        · subst e; exact hp
        · exact h j (by omega)
theorem no_pass_above {j : Nat} (hj : ns.length ≤ j + 1) : ¬ ∃ k' x y, PassAt v ns (j : Int) k' x y := by
  rintro ⟨k, x, y, -, e, -, hy, -⟩
  have := getElem_some hy
  omega
theorem Headed.noPass (h : Headed v L ns) (hno : ∀ j : Nat, ¬ ∃ k' x y, PassAt v ns (j : Int) k' x y) : (∀ (i : Nat) x, ns[i]? = some x → x.log = L) ∧ passQ L.length 0 ns = [] ∧ ∀ x, ns[ns.length - 1]? = some x → x.done = (L.length : Int) := by
  have h1 : ∀ (i : Nat) x, ns[i]? = some x → x.log = L := fun i x hx => h.full hx (h.before (k := i) (fun j _ => hno j) i (Nat.le_refl _) x hx)
  refine ⟨h1, passQ_nil _ _ fun x hx => ?_, fun x hx => ?_⟩
  · obtain ⟨i, hi⟩ := List.getElem?_of_mem hx
    rw [h1 i x hi]
    exact Nat.le_refl _
  · rw [h.ok.2.2.2 x hx, h1 _ x hx]
/-- .. told in terms of the queue. -/
theorem Headed.passes (h : Headed v L ns) : (∃ (k : Nat) (x y : Nd) (u : Upd), PassAt v ns (k : Int) k x y ∧ x.log[y.log.length]? = some u ∧ (∀ j, j < k → ¬ ∃ k' x y, PassAt v ns (j : Int) k' x y) ∧ passQ L.length 0 ns = (false, (k : Int)) :: passQ L.length 0 (ns.set (k + 1) (passed ns k y u))) ∨
    ((∀ j : Nat, ¬ ∃ k' x y, PassAt v ns (j : Int) k' x y) ∧ passQ L.length 0 ns = []) := by
  rcases pass_first v ns ns.length with ⟨k, x, y, h1, h2, h3⟩ | h0
  · have hu : x.log[y.log.length]? = some (x.log[y.log.length]'(passAt_lt h2).1) := List.getElem?_eq_getElem _
    exact .inl ⟨k, x, y, _, h2, hu, h3, h.first h2 hu h3⟩
  · have hall : ∀ j : Nat, ¬ ∃ k' x y, PassAt v ns (j : Int) k' x y := fun j => by
      by_cases hj : j < ns.length
      · exact h0 j hj
      · exact no_pass_above (by omega)
    exact .inr ⟨hall, (h.noPass hall).2.1⟩

/-! ### Telling -/
theorem Headed.tell (h : Headed v L ns) {k : Nat} {x y : Nd} (ht : TellAt v ns (k : Int) k x y) (hy : y.done = (L.length : Int)) :
    Headed v L (ns.set k ⟨x.id, x.log, y.done⟩) ∧ settled L (ns.set k ⟨x.id, x.log, y.done⟩) = settled L ns ∧ rem L.length (ns.set k ⟨x.id, x.log, y.done⟩) + 1 = rem L.length ns := by
  obtain ⟨hok, hlt⟩ := tellAt_ok ht
  obtain ⟨-, -, hx, hyy, hne⟩ := ht
  refine ⟨⟨hok, ?_⟩, settled_set (m := ⟨x.id, x.log, y.done⟩) (show x.id = x.id from rfl) hx, rem_tell (x := x) (m := ⟨x.id, x.log, y.done⟩) rfl (by omega) hy _ _ hx (getElem_some hyy)⟩
  obtain ⟨x0, h0, e⟩ := h.head
  by_cases hk : k = 0
  · subst hk
    rw [hx] at h0
    cases h0
    exact ⟨_, set_at hx, e⟩
  · exact ⟨x0, by rw [set_off (by omega)]; exact h0, e⟩
theorem Headed.end_ (h : Headed v L ns) (h1 : ∀ (i : Nat) x, ns[i]? = some x → x.log = L) (h2 : ∀ (i : Nat) x, ns[i]? = some x → x.done = (L.length : Int)) : settled L ns = ns ∧ rem L.length ns = 0 := by
  refine ⟨?_, rem_zero _ (fun x hx => ?_) fun i x _ hx => by rw [h2 i x hx]; exact Int.le_refl _⟩
  · refine List.ext_getElem? fun i => ?_
    unfold settled
    rw [List.getElem?_map]
    cases hx : ns[i]? with
    | none => rfl
    | some x =>
      obtain ⟨a, l, d, rfl⟩ := nd_cases x
      have e1 := h1 i _ hx
      have e2 := h2 i _ hx
      simp only at e1 e2
      simp [e1, e2]
  · obtain ⟨i, hi⟩ := List.getElem?_of_mem hx
    rw [h1 i x hi]
    exact Nat.le_refl _
end
end Go.Proofs.YtciekjplhbimdaaZ

/-
  Settling, step by step: the program's queue and the reference's search come to the same. Nothing of the program is in sight here.
-/
set_option linter.all false
namespace Go.Proofs.YtciekjplhbimdaaZ

/-- Where a settling stands that began with ns0: n steps were taken. -/
structure St (v : Int) (L : List Upd) (ns0 ns : List Nd) (n : Nat) : Prop where
  hd : Headed v L ns
  same : settled L ns = settled L ns0
  cnt : rem L.length ns + n = rem L.length ns0
  len : ns.length = ns0.length
/-- What is left of the queue. -/
def Qok (L : List Upd) (ns : List Nd) (q : List (Bool × Int)) : Prop :=
  ∃ m, q = passQ L.length 0 ns ++ tellQ m ∧ m + 1 ≤ ns.length ∧ (∀ j z, m ≤ j → ns[j]? = some z → passQ L.length 0 ns = [] → z.done = (L.length : Int)) ∧ (passQ L.length 0 ns ≠ [] → m + 1 = ns.length)
section
variable {v : Int} {L : List Upd} {ns0 ns rl : List Nd} {n : Nat} {q : List (Bool × Int)} {at_ rv : Int} {rb : Bool}
theorem chOk_headed (h : ChOk v ns) : ∃ L, Headed v L ns := by
  have h1 := h.2.1
  have e : ns[0]? = some (ns[0]'(by omega)) := List.getElem?_eq_getElem _
  exact ⟨_, h, _, e, rfl⟩
theorem st_start (h : Headed v L ns) : St v L ns ns 0 := ⟨h, rfl, rfl, rfl⟩
theorem Headed.lastDone (h : Headed v L ns) (hq : passQ L.length 0 ns = []) {j : Nat} {z : Nd} (hj : ns.length ≤ j + 1) (hz : ns[j]? = some z) : z.done = (L.length : Int) := by
  have hl := getElem_some hz
  have e : j = ns.length - 1 := by omega
  subst e
  rw [h.ok.2.2.2 z hz, h.full hz (passQ_full _ _ hq z (List.mem_of_getElem? hz))]
theorem qok_start (h : Headed v L ns) : Qok L ns (passQ L.length 0 ns ++ tellQ (ns.length - 1)) := by
  have h1 := h.ok.2.1
  exact ⟨ns.length - 1, rfl, by omega, fun j z hj hz hq => h.lastDone hq (by omega) hz, fun _ => by omega⟩
theorem St.pass {k : Nat} {x y : Nd} {u : Upd} (s : St v L ns0 ns n) (hp : PassAt v ns (k : Int) k x y) (hu : x.log[y.log.length]? = some u) : St v L ns0 (ns.set (k + 1) (passed ns k y u)) (n + 1) := by
  obtain ⟨h1, h2, h3⟩ := s.hd.pass hp hu
  exact ⟨h1, h2.trans s.same, by have := s.cnt; omega, by rw [List.length_set]; exact s.len⟩
theorem St.tell {k : Nat} {x y : Nd} (s : St v L ns0 ns n) (ht : TellAt v ns (k : Int) k x y) (hy : y.done = (L.length : Int)) : St v L ns0 (ns.set k ⟨x.id, x.log, y.done⟩) (n + 1) := by
  obtain ⟨h1, h2, h3⟩ := s.hd.tell ht hy
  exact ⟨h1, h2.trans s.same, by have := s.cnt; omega, by rw [List.length_set]; exact s.len⟩
/-- A step of the queue that passes. -/
theorem step_pass (s : St v L ns0 ns n) (hq : Qok L ns ((false, at_) :: q)) :
    ∃ (k : Nat) (x y : Nd) (u : Upd), at_ = (k : Int) ∧ PassAt v ns (k : Int) k x y ∧ x.log[y.log.length]? = some u ∧ St v L ns0 (ns.set (k + 1) (passed ns k y u)) (n + 1) ∧ Qok L (ns.set (k + 1) (passed ns k y u)) q := by
  obtain ⟨m, e, hm, hd, hf⟩ := hq
  rcases s.hd.passes with ⟨k, x, y, u, hp, hu, hno, hq⟩ | ⟨hno, hq⟩
  · rw [hq] at e
    injection e with e1 e2
    injection e1 with e3 e4
    refine ⟨k, x, y, u, e4, hp, hu, s.pass hp hu, m, e2, by rw [List.length_set]; exact hm, fun j z hj hz hq2 => ?_, fun _ => by rw [List.length_set]; exact hf (by rw [hq]; simp)⟩
    have := hf (by rw [hq]; simp)
    exact (s.pass hp hu).hd.lastDone hq2 (by rw [List.length_set]; omega) hz
  · rw [hq] at e
    cases m with
    | zero => simp [tellQ] at e
    | succ m => simp [tellQ] at e
/-- .. that tells. -/
theorem step_tell (s : St v L ns0 ns n) (hq : Qok L ns ((true, at_) :: q)) (hr : TellRes v ns at_ rv rl rb) :
    (rb = true → rv = v ∧ St v L ns0 rl (n + 1) ∧ Qok L rl q) ∧ (rb = false → Qok L ns q) := by
  obtain ⟨m, e, hm, hd, hf⟩ := hq
  rcases s.hd.passes with ⟨k, x, y, u, hp, hu, hno, hq⟩ | ⟨hno, hq⟩
  · rw [hq] at e
    simp at e
  · rw [hq] at e
    cases m with
    | zero => simp [tellQ] at e
    | succ m =>
      simp only [tellQ, List.nil_append, List.cons.injEq, Prod.mk.injEq, true_and] at e
      obtain ⟨rfl, rfl⟩ := e
      have hx : ns[m]? = some (ns[m]'(by omega)) := List.getElem?_eq_getElem _
      have hy : ns[m + 1]? = some (ns[m + 1]'(by omega)) := List.getElem?_eq_getElem _
      have hyd := hd (m + 1) _ (Nat.le_refl _) hy hq
      rcases hr with ⟨k, x, y, ht, rfl, rfl, rfl⟩ | ⟨hno2, -, -, rfl⟩
      · refine ⟨fun _ => ?_, fun h => by cases h⟩
        have ek : k = m := by have := ht.2.1; omega
        subst ek
        have hy2 := ht.2.2.2.1
        rw [hy] at hy2
        have hyd2 : y.done = (L.length : Int) := by rw [← Option.some.inj hy2]; exact hyd
        have s2 := s.tell ht hyd2
        obtain ⟨g1, -, -⟩ := s.hd.noPass hno
        have hq2 : passQ L.length 0 (ns.set k ⟨x.id, x.log, y.done⟩) = [] := by
          refine passQ_nil _ _ fun z hz => ?_
          rcases List.mem_or_eq_of_mem_set hz with hz | rfl
          · exact passQ_full _ _ hq z hz
          · exact passQ_full _ _ hq x (List.mem_of_getElem? ht.2.2.1)
        refine ⟨rfl, s2, k, by rw [hq2]; rfl, by rw [List.length_set]; omega, fun j z hj hz _ => ?_, fun h => absurd hq2 h⟩
        rw [List.getElem?_set] at hz
        by_cases ej : k = j
        · subst ej
          rw [if_pos rfl, if_pos (by omega)] at hz
          cases hz
          exact hyd2
        · rw [if_neg ej] at hz
          exact hd j z (by omega) hz hq
      · refine ⟨fun h => (by cases h), fun _ => ⟨m, by rw [hq]; rfl, by omega, fun j z hj hz hqq => ?_, fun h => absurd hq h⟩⟩
        by_cases ej : m = j
        · subst ej
          rw [hx] at hz
          cases hz
          refine Classical.byContradiction fun hne => hno2 ⟨m, _, _, s.hd.ok, rfl, hx, hy, ?_⟩
          rw [hyd]
          exact hne
        · exact hd j z (by omega) hz hqq
theorem step_end (s : St v L ns0 ns n) (hq : Qok L ns []) : ns = settled L ns0 ∧ n = rem L.length ns0 := by
  obtain ⟨m, e, hm, hd, hf⟩ := hq
  have e' := List.append_eq_nil_iff.1 e.symm
  have hm0 : m = 0 := by
    cases m with
    | zero => rfl
    | succ m => have := e'.2; simp [tellQ] at this
  subst hm0
  obtain ⟨h1, h2⟩ := s.hd.end_ (fun i x hx => s.hd.full hx (passQ_full _ _ e'.1 x (List.mem_of_getElem? hx))) fun i x hx => hd i x (Nat.zero_le _) hx e'.1
  have := s.cnt
  exact ⟨by rw [← s.same]; exact h1.symm, by omega⟩

/-! ### the reference's search -/
theorem Headed.tells (h : Headed v L ns) (hno : ∀ j : Nat, ¬ ∃ k' x y, PassAt v ns (j : Int) k' x y) {k : Nat} (ht : ∀ j : Nat, k ≤ j → ¬ ∃ k' x y, TellAt v ns (j : Int) k' x y) : ∀ (d i : Nat), i + d + 1 = ns.length → k ≤ i → ∀ x, ns[i]? = some x → x.done = (L.length : Int)
  | 0, i, hi, _, x, hx => (h.noPass hno).2.2 x (by rw [show ns.length - 1 = i by omega]; exact hx)
  | d + 1, i, hi, hk, x, hx => by
    have hy : ns[i + 1]? = some (ns[i + 1]'(by omega)) := List.getElem?_eq_getElem _
    have ih := h.tells hno ht d (i + 1) (by omega) (by omega) _ hy
    refine Classical.byContradiction fun hne => ht i hk ⟨i, x, _, h.ok, rfl, hx, hy, ?_⟩
    rw [ih]
    exact hne
/-- One step of the reference's: the first place that passes, else the last one that can be told. -/
def NextOf (v : Int) (ns rl : List Nd) : Prop :=
  (∃ (k : Nat) (x y : Nd) (u : Upd), PassAt v ns (k : Int) k x y ∧ x.log[y.log.length]? = some u ∧ rl = ns.set (k + 1) (passed ns k y u)) ∨
    ((∀ j : Nat, ¬ ∃ k' x y, PassAt v ns (j : Int) k' x y) ∧ ∃ (k : Nat) (x y : Nd), TellAt v ns (k : Int) k x y ∧ (∀ j : Nat, k < j → ¬ ∃ k' x y, TellAt v ns (j : Int) k' x y) ∧ rl = ns.set k ⟨x.id, x.log, y.done⟩)
theorem next_st (s : St v L ns0 ns n) (h : NextOf v ns rl) : St v L ns0 rl (n + 1) := by
  rcases h with ⟨k, x, y, u, hp, hu, rfl⟩ | ⟨hno, k, x, y, ht, hno2, rfl⟩
  · exact s.pass hp hu
  · have hk := getElem_some ht.2.2.2.1
    exact s.tell ht (s.hd.tells hno (k := k + 1) (fun j hj => hno2 j (by omega)) (ns.length - (k + 2)) (k + 1) (by omega) (Nat.le_refl _) y ht.2.2.2.1)
theorem none_end (s : St v L ns0 ns n) (h1 : ∀ j : Nat, ¬ ∃ k' x y, PassAt v ns (j : Int) k' x y) (h2 : ∀ j : Nat, ¬ ∃ k' x y, TellAt v ns (j : Int) k' x y) : ns = settled L ns0 ∧ n = rem L.length ns0 := by
  obtain ⟨g1, -, -⟩ := s.hd.noPass h1
  obtain ⟨e1, e2⟩ := s.hd.end_ g1 fun i x hx => s.hd.tells h1 (k := 0) (fun j _ => h2 j) (ns.length - (i + 1)) i (by have := getElem_some hx; omega) (Nat.zero_le _) x hx
  have := s.cnt
  exact ⟨by rw [← s.same]; exact e1.symm, by omega⟩
theorem St.le (s : St v L ns0 ns n) : n ≤ 65 := by
  have h1 := rem_le s.hd.le12 ns0
  have h2 := s.cnt
  have h3 := s.hd.ok.2.1
  have h4 := s.len
  omega
/-- What settling comes to: the chain that is left, and how many steps it took; where the chain is not valid, nothing and -1. -/
def SettleRes (v : Int) (ns : List Nd) (rv : Int) (rl : List Nd) (k : Int) : Prop :=
  (∃ L, Headed v L ns ∧ rv = v ∧ rl = settled L ns ∧ k = (rem L.length ns : Int)) ∨ (¬ ChOk v ns ∧ rv = 0 ∧ rl = [] ∧ k = -1)
theorem settleRes_ex (v : Int) (ns : List Nd) : ∃ rv rl k, SettleRes v ns rv rl k := by
  by_cases h : ChOk v ns
  · obtain ⟨L, hL⟩ := chOk_headed h
    exact ⟨_, _, _, .inl ⟨L, hL, rfl, rfl, rfl⟩⟩
  · exact ⟨_, _, _, .inr ⟨h, rfl, rfl, rfl⟩⟩
theorem bulk_mem {m : Nat} (ns : List Nd) (h : ∀ n ∈ ns, n.log.length ≤ m) : bulk ns ≤ ns.length * (m + 1) := bulk_le m ns h
theorem St.bulk (s : St v L ns0 ns n) : bulk ns ≤ 65 := by
  have h1 := s.hd.ok.2.1
  have h2 := bulk_le 12 ns fun x hx => by
    obtain ⟨i, hi⟩ := List.getElem?_of_mem hx
    have := s.hd.len hi
    have := s.hd.le12
    omega
  have : ns.length * 13 ≤ 65 := by omega
  omega
theorem settleRes_bulk {k : Int} (h : SettleRes v ns rv rl k) : Go.Proofs.YtciekjplhbimdaaZ.bulk rl ≤ 65 := by
  rcases h with ⟨L, hL, -, rfl, -⟩ | ⟨-, -, rfl, -⟩
  · have h1 := hL.ok.2.1
    have h2 := bulk_le 12 (settled L ns) fun x hx => by
      unfold settled at hx
      obtain ⟨y, -, rfl⟩ := List.mem_map.1 hx
      exact hL.le12
    have h3 : (settled L ns).length = ns.length := by simp [settled]
    rw [h3] at h2
    omega
  · simp [Go.Proofs.YtciekjplhbimdaaZ.bulk]
end
end Go.Proofs.YtciekjplhbimdaaZ

/-
  The steps of settling in memory; contract: the queue of the steps that settle a valid chain.
-/
set_option linter.all false
namespace Go.Proofs.YtciekjplhbimdaaZ
open Go.RowKit
attribute [local go_sem ↓] Go.wp_at_zero Go.wp_at_succ

def scells : List (Bool × Int) → List Value
  | [] => []
  | s :: r => .bool s.1 :: .int .i64 s.2 :: scells r
theorem scells_len : ∀ l, (scells l).length = l.length * 2
  | [] => rfl
  | s :: r => by simp [scells, scells_len r]; omega
theorem scells_append : ∀ a b, scells (a ++ b) = scells a ++ scells b
  | [], _ => rfl
  | s :: r, b => by simp [scells, scells_append r b]
theorem scells_one : ∀ (l : List (Bool × Int)), ∀ u ∈ scells l, u.oneCell' = true
  | [], u, h => by simp [scells] at h
  | s :: r, u, h => by
    simp only [scells, List.mem_cons] at h
    rcases h with rfl | rfl | h
    · rfl
    · rfl
    · exact scells_one r u h
theorem infoS : (Alt.prog.info? 78).map (fun i => (i.zero, i.size, i.bytes)) = some (some (.agg #[.bool false, .int .i64 0]), 2, 16) := by kernel_rfl
/-- A queue that is being made. -/
def QueueTo (w : World) (q : List (Bool × Int)) (v : Value) (wr : World) : Prop := wr.ownsRow w.heap.size 78 2 v q.length (scells q) ∧ Ext w wr
theorem queueTo_step {w W w' : World} {q : List (Bool × Int)} {s : Bool × Int} {v v' : Value} (hE : Ext w W) (hlt : ∀ g, v.ownBlock = some g → w.heap.size ≤ g) (hown' : w'.ownsRow w.heap.size 78 2 v' (q.length + 1) (scells q ++ [.bool s.1, .int .i64 s.2])) (hg : W.grownBy w' v.ownBlock) : QueueTo w (q ++ [s]) v' w' := by
  refine ⟨?_, ext_of_only (only_trans (only_of_ext hE (some w.heap.size)) hg fun i hi => .inr (hlt i hi)) (Nat.le_refl _)⟩
  rw [List.length_append, List.length_singleton, scells_append]
  exact hown'
theorem passQ_append {H : Nat} : ∀ (a b : List Nd) (i : Nat), passQ H i (a ++ b) = passQ H i a ++ passQ H (i + a.length) b
  | [], b, i => by simp [passQ]
  | x :: a, b, i => by
    simp only [List.cons_append, passQ, passQ_append a b (i + 1), List.append_assoc, List.length_cons]
    rw [show i + 1 + a.length = i + (a.length + 1) by omega]
theorem passQ_take {H : Nat} {ns : List Nd} {k : Nat} {x : Nd} (h : ns[k]? = some x) : passQ H 0 (ns.take (k + 1)) = passQ H 0 (ns.take k) ++ List.replicate (H - x.log.length) (false, (k : Int) - 1) := by
  obtain ⟨hk, e⟩ := List.getElem?_eq_some_iff.1 h
  rw [List.take_succ_eq_append_getElem hk, e, passQ_append, List.length_take, Nat.min_eq_left (by omega), Nat.zero_add]
  simp [passQ]
theorem passQ_len {H : Nat} : ∀ (ns : List Nd) (i : Nat), (passQ H i ns).length ≤ H * ns.length
  | [], _ => by simp [passQ]
  | x :: r, i => by
    have := passQ_len (H := H) r (i + 1)
    simp only [passQ, List.length_append, List.length_replicate, List.length_cons, Nat.mul_add, Nat.mul_one]
    omega
theorem tellQ_len : ∀ m, (tellQ m).length = m
  | 0 => rfl
  | m + 1 => by simp [tellQ, tellQ_len m]
theorem queue_len {v : Int} {L : List Upd} {ns : List Nd} (h : Headed v L ns) : (passQ L.length 0 ns ++ tellQ (ns.length - 1)).length ≤ 65 := by
  have h1 := h.ok.2.1
  have h2 := h.le12
  have h3 := passQ_len (H := L.length) ns 0
  have h4 : L.length * ns.length ≤ 12 * 5 := Nat.mul_le_mul h2 h1.2
  rw [List.length_append, tellQ_len]
  omega
/-- One step more behind the queue: what append asks. -/
theorem news_at {W : World} {b : Bool} {z : Int} {g : Nat} (hg : W.heap.size = g) : ∀ (j : Nat) u, ([.bool b, .int .i64 z] : List Value)[j]? = some u → (W.alloc (.cells #[.bool b, .int .i64 z] 78)).cell? ((⟨g, 0, none⟩ : Addr).add j) = some u := by
  intro jj u hj
  obtain ⟨h0, h1, -⟩ := (Blk.newAt W 78 #[.bool b, .int .i64 z] hg).at2
  match jj, hj with
  | 0, hj => simp at hj; subst hj; simp only [Addr.add, Nat.add_zero]; exact h0
  | 1, hj => simp at hj; subst hj; simp only [Addr.add, Nat.zero_add]; exact h1
theorem news_one {b : Bool} {z : Int} : ∀ u ∈ ([.bool b, .int .i64 z] : List Value), u.oneCell' = true := fun u hu => by simp at hu; rcases hu with rfl | rfl <;> rfl
theorem own_from {w : World} {base : Nat} {e : TypeId} {size n m c : Nat} {A : Option Addr} {xs : List Value} (h : w.ownsRow base e size (.slice A n c) m xs) : ∀ b o sp, A = some ⟨b, o, sp⟩ → base ≤ b := by
  intro b o sp e1
  subst e1
  rcases h.2 with ⟨h1, -⟩ | ⟨g, cap, cur, hv, hb, -⟩
  · cases h1
  · injection hv with h1
    injection h1 with h1
    injection h1 with h1
    omega
def Alt.underlyingSt := (Alt.und 75).trans Try.underlying75
set_option maxHeartbeats 3200000 in
theorem settleQueue_any {A : Option Addr} {ns : List Nd} {L : List Upd} (c : Nat) (v : Int) {w : World} (h : NodesR w A ns) (hb : bulk ns ≤ 1048576) (hH : Headed v L ns) :
    Calls Alt.prog 56 #[.agg #[.int .i64 v, .slice A ns.length c]] w fun e w' => ∃ (B : Option Addr) (d : Nat) (q : List (Bool × Int)), q = passQ L.length 0 ns ++ tellQ (ns.length - 1) ∧ e = .returned (.slice B q.length d) ∧ q.length ≤ d ∧ d ≤ maxLen ∧ Hid (CellsR w' B (scells q)) ∧ Hid (∀ b o sp, B = some ⟨b, o, sp⟩ → w.heap.size ≤ b) ∧ Ext w w' := by
  have hl := bulk_len ns
  have hql := queue_len hH
  obtain ⟨iS, hiS, zS0, zS1, zS2⟩ := info_parts infoS
  have h5 := hH.ok.2.1
  have h12 := hH.le12
  obtain ⟨x0, hx0, hxL⟩ := hH.head
  have hs : LagRes v ns (lags L.length ns) := .inl ⟨hH.ok, x0, hx0, by rw [hxL]⟩
  replace hs := hide hs
  replace hx0 := hide hx0
  replace hxL := hide hxL
  replace hql := hide hql
  replace hH := hide hH
  have hst := hide (show QueueTo w [] (.slice (some ⟨w.heap.size + 1, 0, none⟩) 0 0) ((w.alloc (.cells #[.int .i64 v, .slice A ns.length c] 25)).alloc (.cells #[] 78)) from by
    have := World.ownsRow_made (base := w.heap.size) (e := 78) (size := 2) (w.alloc (.cells #[.int .i64 v, .slice A ns.length c] 25)) #[] 0 (by simp) (by simp [maxLen]) rfl
    rw [World.size_alloc] at this
    exact ⟨this, ext_alloc (ext_alloc (ext_refl w) _) _⟩)
  have bC := hide (Blk.newAt w 25 #[.int .i64 v, .slice A ns.length c] (g := w.heap.size) rfl)
  replace bC := hide (bC.out.ext (ext_alloc (ext_refl _) (.cells #[] 78)))
  have hN := hide (h.ext hst.out.2)
  clear h
  go_enter Alt.func56, Try.ntmps56
  try clear bC_0 bC_1 bC_lt
  obtain ⟨bC_0, bC_1, bC_lt⟩ := bC.out.at2
  go_wp2_with fail
  refine (implChainLag_any c v hN.out hb hs.out).mono ?_
  rintro e w2 ⟨A9, c9, rfl, hc9, -, hI, hF⟩
  have hls : (lags L.length ns).length = ns.length := by simp [lags]
  rw [hls]
  rw [hls] at hI
  have hI' := hide (own_mono hI (show w.heap.size ≤ _ from (ext_alloc (ext_alloc (ext_refl w) (.cells #[.int .i64 v, .slice A ns.length c] 25)) (.cells #[] 78)).size))
  clear hI
  replace hls := hide hls
  have hq0 := hide (show QueueTo w [] (.slice (some ⟨w.heap.size + 1, 0, none⟩) 0 0) w2 from ⟨World.ownsRow.kept hst.out.1 (only_of_ext hF none) (by simp [Value.ownBlock]), ext_trans hst.out.2 hF⟩)
  replace bC := hide (bC.out.ext hF)
  clear hF hst hN
  go_wp2_with fail
  go_loopw [3, 11] (fun u i wr => ∃ (k : Nat) (q : List (Bool × Int)), k ≤ ns.length ∧ i = .int .i64 k ∧ Hid (q = passQ L.length 0 (ns.take k)) ∧ Hid (QueueTo w q u wr) ∧ Hid (wr.ownsRow w.heap.size 3 1 (.slice A9 ns.length c9) ns.length (icells (lags L.length ns))) ∧ Hid (Blk wr w.heap.size 25 #[.int .i64 v, .slice A ns.length c])) (fun _ i _ => ns.length - (intOf i).toNat)
  case atStart => exact ⟨0, [], Nat.zero_le _, rfl, hide (by simp [passQ]), hq0, hI', bC⟩
  case round =>
    obtain ⟨k, q, hk, rfl, hq, hT, hL9, bK⟩ := hrel
    by_cases hlt : k < ns.length
    · have hd : decide ((k : Int) < (ns.length : Int)) = true := by simp; omega
      have hn := List.getElem?_eq_getElem hlt
      obtain ⟨x, hx⟩ : ∃ x, ns[k] = x := ⟨_, rfl⟩
      rw [hx] at hn
      have hxl := hH.out.len hn
      obtain ⟨g, hg⟩ : ∃ g, g = L.length - x.log.length := ⟨_, rfl⟩
      have hgv : (lags L.length ns)[k]'(by rw [hls.out]; exact hlt) = (g : Int) := by simp [lags, hx]; omega
      obtain ⟨b, o, y, rfl, hbl, hy, hc⟩ := int_at (A := A9) (CellsR.of_own hL9.out) (i := k) (by rw [hls.out]; exact hlt)
      rw [hgv] at hy
      subst hy
      have hi0 : (0 : Int) ≤ (k : Int) := by omega
      have hi1 : (k : Int) < (ns.length : Int) := by omega
      obtain ⟨z, hz⟩ : ∃ z, (k : Int) - 1 = z := ⟨_, rfl⟩
      have hwz : IntKind.i64.wrap ((k : Int) - 1) = z := by rw [hz]; exact IntWalk.i64_in _ (by omega)
      have hqk : passQ L.length 0 (ns.take (k + 1)) = passQ L.length 0 (ns.take k) ++ List.replicate g (false, z) := by rw [passQ_take hn, hg, hz]
      have hg12 : g ≤ 12 := by omega
      have hqk5 : q.length ≤ 60 := by
        rw [hq.out]
        have h3 := passQ_len (H := L.length) (ns.take k) 0
        have h4 : L.length * (ns.take k).length ≤ 12 * 5 := Nat.mul_le_mul h12 (by simp; omega)
        omega
      replace hn := hide hn
      replace hx := hide hx
      replace hg := hide hg
      replace hgv := hide hgv
      replace hz := hide hz
      replace hqk := hide hqk
      replace hqk5 := hide hqk5
      go_wp2_with fail
      clear hc
      go_loopw [3, 17] (fun u i wr => ∃ (m : Nat) (q2 : List (Bool × Int)), m ≤ g ∧ i = .int .i64 m ∧ Hid (q2 = q ++ List.replicate m (false, z)) ∧ Hid (QueueTo w q2 u wr) ∧ Hid (wr.ownsRow w.heap.size 3 1 (.slice (some ⟨b, o, none⟩) ns.length c9) ns.length (icells (lags L.length ns))) ∧ Hid (Blk wr w.heap.size 25 #[.int .i64 v, .slice A ns.length c])) (fun _ i _ => g - (intOf i).toNat)
      case atStart => exact ⟨0, q, Nat.zero_le _, rfl, hide (by simp), hT, hL9, bK⟩
      case round =>
        obtain ⟨m, q2, hm, rfl, hq2, hT2, hL2, bK2⟩ := hrel
        by_cases hlt2 : m < g
        · have hd2 : decide ((m : Int) < (g : Int)) = true := by simp; omega
          have hlt3 : Hid (∀ g, Value.ownBlock u3 = some g → w.heap.size ≤ g) := hide (fun g hg => (hT2.out.1.lt g hg).1)
          have hq2l : q2.length ≤ 72 := by rw [hq2.out]; simp; have := hqk5.out; omega
          have hown := hide (hT2.out.1.alloc (.cells #[.bool false, .int .i64 z] 78))
          have hszr : w.heap.size ≤ wr.heap.size := hT2.out.2.size
          have hownA := hide (hown.out)
          go_wp2_with (at_builtin; refine wpList_append_own _ rfl _ _ 75 rfl w.heap.size 78 iS _ 2 16 Alt.underlyingSt hiS zS0 zS1 zS2 rfl (by decide) _ q2.length _ rfl hown.out ⟨wr.heap.size, 0, none⟩ 1 1 [.bool false, .int .i64 z] rfl rfl (news_at rfl) news_one ?c3 ?c4 ?c5 ?_)
          case c3 => unfold maxLen; omega
          case c4 => omega
          case c5 => simp; omega
          intro v' w' hown' hgrow _
          obtain ⟨A3, c3, rfl, -, -⟩ := own_form hown'
          have hT3 := hide (queueTo_step (s := (false, z)) (ext_alloc hT2.out.2 _) hlt3.out hown' hgrow)
          have hL3 := hide (World.ownsRow.kept (hL2.out.alloc (.cells #[.bool false, .int .i64 z] 78)) hgrow (own_types (hL2.out.alloc _) hown.out (by decide)))
          have bK3 := hide ((bK2.out.ext (ext_alloc (ext_refl wr) (.cells #[.bool false, .int .i64 z] 78))).grown hgrow (blk_types (bK2.out.ext (ext_alloc (ext_refl wr) _)) hown.out (by decide)))
          have hq3 : Hid (q2 ++ [(false, z)] = q ++ List.replicate (m + 1) (false, z)) := hide (by rw [hq2.out, List.replicate_succ', List.append_assoc])
          clear hown' hgrow hown hownA
          go_wp2_with fail
          go_roundw
          case rel => exact ⟨m + 1, q2 ++ [(false, z)], by omega, by go_num, hq3, hT3, hL3, bK3⟩
          case measure => simp [intOf]; omega
        · have hd2 : decide ((m : Int) < (g : Int)) = false := by simp; omega
          have hq3 : Hid (q2 = passQ L.length 0 (ns.take (k + 1))) := hide (by rw [hq2.out, hqk.out, hq.out, show m = g by omega])
          go_wp2
          go_roundw
          case rel => exact ⟨k + 1, q2, by omega, by go_num, hq3, hT2, hL2, bK2⟩
          case measure => simp [intOf]; omega
    · have hd : decide ((k : Int) < (ns.length : Int)) = false := by simp; omega
      have hq3 : q = passQ L.length 0 ns := by rw [hq.out, List.take_of_length_le (by omega)]
      try clear bK_0 bK_1 bK_lt
      obtain ⟨bK_0, bK_1, bK_lt⟩ := bK.out.at2
      obtain ⟨z, hz⟩ : ∃ z, (ns.length : Int) - 2 = z := ⟨_, rfl⟩
      have hwz : IntKind.i64.wrap ((ns.length : Int) - 2) = z := by rw [hz]; exact IntWalk.i64_in _ (by omega)
      replace hz := hide hz
      replace hq3 := hide hq3
      go_wp2_with fail
      go_loopw [3, 6] (fun u i wr => ∃ (m : Nat) (z : Int) (q2 : List (Bool × Int)), m + 1 ≤ ns.length ∧ Hid (z = (m : Int) - 1) ∧ i = .int .i64 z ∧ Hid (q2 ++ tellQ m = passQ L.length 0 ns ++ tellQ (ns.length - 1)) ∧ Hid (QueueTo w q2 u wr)) (fun _ i _ => (intOf i + 1).toNat)
      case atStart => exact ⟨ns.length - 1, z, q, by omega, hide (by have := hz.out; omega), rfl, hide (by rw [hq3.out]), hT⟩
      case round =>
        obtain ⟨m, z2, q2, hm, hz2, rfl, hq2, hT2⟩ := hrel
        have hq2l : q2.length ≤ 65 := by
          have e2 := hql.out
          rw [← hq2.out, List.length_append] at e2
          omega
        cases m with
        | zero =>
          have hd2 : decide (z2 ≥ 0) = false := by have := hz2.out; simp; omega
          have hd2' : decide (0 ≤ z2) = false := by have := hz2.out; simp; omega
          obtain ⟨A3, c3, rfl, hc3, hm3⟩ := own_form hT2.out.1
          have hqe : q2 = passQ L.length 0 ns ++ tellQ (ns.length - 1) := by have := hq2.out; simpa [tellQ] using this
          replace hqe := hide hqe
          go_wp2_with fail
          go_ret
          exact ⟨A3, c3, q2, hqe.out, rfl, hc3, hm3, hide (CellsR.of_own hT2.out.1), hide (own_from hT2.out.1), hT2.out.2⟩
        | succ m =>
          have hz3 : z2 = (m : Int) := by have := hz2.out; omega
          subst hz3
          have hd2 : decide ((m : Int) ≥ 0) = true := by simp
          have hlt3 : Hid (∀ g, Value.ownBlock u3 = some g → w.heap.size ≤ g) := hide (fun g hg => (hT2.out.1.lt g hg).1)
          have hown := hide (hT2.out.1.alloc (.cells #[.bool true, .int .i64 (m : Int)] 78))
          have hszr : w.heap.size ≤ wr.heap.size := hT2.out.2.size
          obtain ⟨z3, hz4⟩ : ∃ z3, (m : Int) - 1 = z3 := ⟨_, rfl⟩
          have hwz3 : IntKind.i64.wrap ((m : Int) - 1) = z3 := by rw [hz4]; exact IntWalk.i64_in _ (by omega)
          replace hz4 := hide hz4
          go_wp2_with (at_builtin; refine wpList_append_own _ rfl _ _ 75 rfl w.heap.size 78 iS _ 2 16 Alt.underlyingSt hiS zS0 zS1 zS2 rfl (by decide) _ q2.length _ rfl hown.out ⟨wr.heap.size, 0, none⟩ 1 1 [.bool true, .int .i64 (m : Int)] rfl rfl (news_at rfl) news_one ?c3 ?c4 ?c5 ?_)
          case c3 => unfold maxLen; omega
          case c4 => omega
          case c5 => simp; omega
          intro v' w' hown' hgrow _
          obtain ⟨A3, c3, rfl, -, -⟩ := own_form hown'
          have hT3 := hide (queueTo_step (s := (true, (m : Int))) (ext_alloc hT2.out.2 _) hlt3.out hown' hgrow)
          have hq3 : Hid (q2 ++ [(true, (m : Int))] ++ tellQ m = passQ L.length 0 ns ++ tellQ (ns.length - 1)) := hide (by rw [← hq2.out]; simp [tellQ])
          clear hown' hgrow hown
          go_wp2_with fail
          go_roundw
          case rel => exact ⟨m, z3, q2 ++ [(true, (m : Int))], by omega, hide (by rw [← hz4.out]), rfl, hq3, hT3⟩
          case measure => have := hz4.out; simp [intOf]; omega
end Go.Proofs.YtciekjplhbimdaaZ

/-
  Contracts: a step of settling; a chain settled by the program (over the turned program).
-/
set_option linter.all false
namespace Go.Proofs.YtciekjplhbimdaaZ
open Go.RowKit
attribute [local go_sem ↓] Go.wp_at_zero Go.wp_at_succ

/-- A chain and a number are handed back. -/
def GotSt (w : World) (v : Int) (ns : List Nd) (k : Int) (e : Ending) (w' : World) : Prop :=
  ∃ (A : Option Addr) (c : Nat), e = .returned (.tuple #[.agg #[.int .i64 v, .slice A ns.length c], .int .i64 k]) ∧ ns.length ≤ c ∧ c ≤ maxLen ∧ Hid (NodesR w' A ns) ∧ Ext w w'
set_option maxHeartbeats 3200000 in
theorem settleDo_tell {A : Option Addr} {ns : List Nd} {rv : Int} {rl : List Nd} {rb : Bool} (c : Nat) (v at_ : Int) {w : World} (h : NodesR w A ns) (hb : bulk ns ≤ 1048576) (hs : TellRes v ns at_ rv rl rb) :
    Calls Alt.prog 57 #[.agg #[.bool true, .int .i64 at_], .agg #[.int .i64 v, .slice A ns.length c]] w (GotChB w rv rl rb) := by
  have hE := hide (ext_refl w)
  replace h := hide h
  replace hs := hide hs
  have S := hide (Blk.newAt (w) 78 #[.bool true, .int .i64 at_] (g := w.heap.size) (by simp))
  replace h := hide (h.out.ext (ext_alloc (ext_refl (w)) (.cells #[.bool true, .int .i64 at_] 78)))
  replace hE := hide (ext_alloc hE.out (.cells #[.bool true, .int .i64 at_] 78))
  have b := hide (Blk.newAt ((w.alloc (.cells #[.bool true, .int .i64 at_] 78))) 25 #[.int .i64 v, .slice A ns.length c] (g := w.heap.size + 1) (by simp))
  replace h := hide (h.out.ext (ext_alloc (ext_refl ((w.alloc (.cells #[.bool true, .int .i64 at_] 78)))) (.cells #[.int .i64 v, .slice A ns.length c] 25)))
  replace S := hide (S.out.ext (ext_alloc (ext_refl ((w.alloc (.cells #[.bool true, .int .i64 at_] 78)))) (.cells #[.int .i64 v, .slice A ns.length c] 25)))
  replace hE := hide (ext_alloc hE.out (.cells #[.int .i64 v, .slice A ns.length c] 25))
  have r := hide (Blk.newAt (((w.alloc (.cells #[.bool true, .int .i64 at_] 78)).alloc (.cells #[.int .i64 v, .slice A ns.length c] 25))) 25 #[.int .i64 0, .slice none 0 0] (g := w.heap.size + 1 + 1) (by simp))
  replace h := hide (h.out.ext (ext_alloc (ext_refl (((w.alloc (.cells #[.bool true, .int .i64 at_] 78)).alloc (.cells #[.int .i64 v, .slice A ns.length c] 25)))) (.cells #[.int .i64 0, .slice none 0 0] 25)))
  replace S := hide (S.out.ext (ext_alloc (ext_refl (((w.alloc (.cells #[.bool true, .int .i64 at_] 78)).alloc (.cells #[.int .i64 v, .slice A ns.length c] 25)))) (.cells #[.int .i64 0, .slice none 0 0] 25)))
  replace b := hide (b.out.ext (ext_alloc (ext_refl (((w.alloc (.cells #[.bool true, .int .i64 at_] 78)).alloc (.cells #[.int .i64 v, .slice A ns.length c] 25)))) (.cells #[.int .i64 0, .slice none 0 0] 25)))
  replace hE := hide (ext_alloc hE.out (.cells #[.int .i64 0, .slice none 0 0] 25))
  go_enter Alt.func57, Try.ntmps57
  try clear S_0 S_1 S_lt
  obtain ⟨S_0, S_1, S_lt⟩ := S.out.at2
  try clear b_0 b_1 b_lt
  obtain ⟨b_0, b_1, b_lt⟩ := b.out.at2
  try clear r_0 r_1 r_lt r_f0 r_f1
  obtain ⟨r_0, r_1, r_lt, r_f0, r_f1⟩ := r.out.at2f
  go_wp2_with fail
  refine (implChainTell_any c v at_ h.out hb hs.out).mono ?_
  intro e w2 hG
  obtain ⟨A2, c2, rfl, -, -, hP, hF⟩ := hG.use
  clear hG
  obtain ⟨n2, hn2⟩ : ∃ n, rl.length = n := ⟨_, rfl⟩
  rw [hn2]
  replace hn2 := hide hn2
  replace S := hide (S.out.ext hF)
  replace b := hide (b.out.ext hF)
  replace r := hide (r.out.ext hF)
  try clear S_0 S_1 S_lt
  obtain ⟨S_0, S_1, S_lt⟩ := S.out.at2
  try clear b_0 b_1 b_lt
  obtain ⟨b_0, b_1, b_lt⟩ := b.out.at2
  try clear r_0 r_1 r_lt r_f0 r_f1
  obtain ⟨r_0, r_1, r_lt, r_f0, r_f1⟩ := r.out.at2f
  replace hE := hide (ext_trans hE.out hF)
  clear hF
  have r3 := hide ((r.out.set20 (.int .i64 rv)).set21 (.slice A2 n2 c2))
  try clear r3_0 r3_1 r3_lt r3_f0 r3_f1
  obtain ⟨r3_0, r3_1, r3_lt, r3_f0, r3_f1⟩ := r3.out.at2f
  go_wp2_with fail
  refine bodyPost_ret (v := .tuple #[.agg #[.int .i64 rv, .slice A2 n2 c2], .bool rb]) (by simp [results, Try.results57, go_sem, r3_0, r3_1, r_0, r_1, r_lt]) rfl ?_
  exact gotChB_of rfl rfl rfl hn2.out ((hP.out.handed r.out _ _).wide (by simp; omega) (by simp [World.setCell])) ((hE.out.setCell (show w.heap.size ≤ w.heap.size + 1 + 1 by omega) _).setCell (show w.heap.size ≤ w.heap.size + 1 + 1 by omega) _)
set_option maxHeartbeats 3200000 in
theorem settleDo_pass {A : Option Addr} {ns : List Nd} {rv : Int} {rl : List Nd} {rb : Bool} (c : Nat) (v at_ : Int) {w : World} (h : NodesR w A ns) (hb : bulk ns ≤ 1048576) (hs : PassRes v ns at_ rv rl rb) :
    Calls Alt.prog 57 #[.agg #[.bool false, .int .i64 at_], .agg #[.int .i64 v, .slice A ns.length c]] w (GotChB w rv rl rb) := by
  have hE := hide (ext_refl w)
  replace h := hide h
  replace hs := hide hs
  have S := hide (Blk.newAt (w) 78 #[.bool false, .int .i64 at_] (g := w.heap.size) (by simp))
  replace h := hide (h.out.ext (ext_alloc (ext_refl (w)) (.cells #[.bool false, .int .i64 at_] 78)))
  replace hE := hide (ext_alloc hE.out (.cells #[.bool false, .int .i64 at_] 78))
  have b := hide (Blk.newAt ((w.alloc (.cells #[.bool false, .int .i64 at_] 78))) 25 #[.int .i64 v, .slice A ns.length c] (g := w.heap.size + 1) (by simp))
  replace h := hide (h.out.ext (ext_alloc (ext_refl ((w.alloc (.cells #[.bool false, .int .i64 at_] 78)))) (.cells #[.int .i64 v, .slice A ns.length c] 25)))
  replace S := hide (S.out.ext (ext_alloc (ext_refl ((w.alloc (.cells #[.bool false, .int .i64 at_] 78)))) (.cells #[.int .i64 v, .slice A ns.length c] 25)))
  replace hE := hide (ext_alloc hE.out (.cells #[.int .i64 v, .slice A ns.length c] 25))
  have r := hide (Blk.newAt (((w.alloc (.cells #[.bool false, .int .i64 at_] 78)).alloc (.cells #[.int .i64 v, .slice A ns.length c] 25))) 25 #[.int .i64 0, .slice none 0 0] (g := w.heap.size + 1 + 1) (by simp))
  replace h := hide (h.out.ext (ext_alloc (ext_refl (((w.alloc (.cells #[.bool false, .int .i64 at_] 78)).alloc (.cells #[.int .i64 v, .slice A ns.length c] 25)))) (.cells #[.int .i64 0, .slice none 0 0] 25)))
  replace S := hide (S.out.ext (ext_alloc (ext_refl (((w.alloc (.cells #[.bool false, .int .i64 at_] 78)).alloc (.cells #[.int .i64 v, .slice A ns.length c] 25)))) (.cells #[.int .i64 0, .slice none 0 0] 25)))
  replace b := hide (b.out.ext (ext_alloc (ext_refl (((w.alloc (.cells #[.bool false, .int .i64 at_] 78)).alloc (.cells #[.int .i64 v, .slice A ns.length c] 25)))) (.cells #[.int .i64 0, .slice none 0 0] 25)))
  replace hE := hide (ext_alloc hE.out (.cells #[.int .i64 0, .slice none 0 0] 25))
  go_enter Alt.func57, Try.ntmps57
  try clear S_0 S_1 S_lt
  obtain ⟨S_0, S_1, S_lt⟩ := S.out.at2
  try clear b_0 b_1 b_lt
  obtain ⟨b_0, b_1, b_lt⟩ := b.out.at2
  try clear r_0 r_1 r_lt r_f0 r_f1
  obtain ⟨r_0, r_1, r_lt, r_f0, r_f1⟩ := r.out.at2f
  go_wp2_with fail
  refine (implChainPass_any c v at_ h.out hb hs.out).mono ?_
  intro e w2 hG
  obtain ⟨A2, c2, rfl, -, -, hP, hF⟩ := hG.use
  clear hG
  obtain ⟨n2, hn2⟩ : ∃ n, rl.length = n := ⟨_, rfl⟩
  rw [hn2]
  replace hn2 := hide hn2
  replace S := hide (S.out.ext hF)
  replace b := hide (b.out.ext hF)
  replace r := hide (r.out.ext hF)
  try clear S_0 S_1 S_lt
  obtain ⟨S_0, S_1, S_lt⟩ := S.out.at2
  try clear b_0 b_1 b_lt
  obtain ⟨b_0, b_1, b_lt⟩ := b.out.at2
  try clear r_0 r_1 r_lt r_f0 r_f1
  obtain ⟨r_0, r_1, r_lt, r_f0, r_f1⟩ := r.out.at2f
  replace hE := hide (ext_trans hE.out hF)
  clear hF
  have r3 := hide ((r.out.set20 (.int .i64 rv)).set21 (.slice A2 n2 c2))
  try clear r3_0 r3_1 r3_lt r3_f0 r3_f1
  obtain ⟨r3_0, r3_1, r3_lt, r3_f0, r3_f1⟩ := r3.out.at2f
  go_wp2_with fail
  refine bodyPost_ret (v := .tuple #[.agg #[.int .i64 rv, .slice A2 n2 c2], .bool rb]) (by simp [results, Try.results57, go_sem, r3_0, r3_1, r_0, r_1, r_lt]) rfl ?_
  exact gotChB_of rfl rfl rfl hn2.out ((hP.out.handed r.out _ _).wide (by simp; omega) (by simp [World.setCell])) ((hE.out.setCell (show w.heap.size ≤ w.heap.size + 1 + 1 by omega) _).setCell (show w.heap.size ≤ w.heap.size + 1 + 1 by omega) _)
/-- A step of the queue, whichever. -/
theorem settleDo_step {v : Int} {L : List Upd} {ns0 ns : List Nd} {n : Nat} {s : Bool × Int} {q : List (Bool × Int)} (hs : St v L ns0 ns n) (hq : Qok L ns (s :: q)) :
    ∃ rv rl rb, (∀ (W : World) (A : Option Addr) (c : Nat), NodesR W A ns → Calls Alt.prog 57 #[.agg #[.bool s.1, .int .i64 s.2], .agg #[.int .i64 v, .slice A ns.length c]] W (GotChB W rv rl rb)) ∧
      (rb = true → rv = v ∧ St v L ns0 rl (n + 1) ∧ Qok L rl q) ∧ (rb = false → Qok L ns q) := by
  have hb : bulk ns ≤ 1048576 := Nat.le_trans hs.bulk (by decide)
  obtain ⟨t, at_⟩ := s
  cases t with
  | true =>
    obtain ⟨rv, rl, rb, hr⟩ := tellRes_ex v ns at_
    obtain ⟨h1, h2⟩ := step_tell hs hq hr
    exact ⟨rv, rl, rb, fun W A c h => settleDo_tell c v at_ h hb hr, h1, h2⟩
  | false =>
    obtain ⟨k, x, y, u, e, hp, hu, h1, h2⟩ := step_pass hs hq
    subst e
    exact ⟨v, _, true, fun W A c h => settleDo_pass c v k h hb (.inl ⟨k, x, y, u, hp, hu, rfl, rfl, rfl⟩), fun _ => ⟨rfl, h1, h2⟩, fun h => by cases h⟩
def lenOfV : Value → Nat
  | .slice _ n _ => n
  | _ => 0
theorem tail_cells {w : World} {b o d n : Nat} {s : Bool × Int} {q : List (Bool × Int)} (h : CellsR w (some ⟨b, o, none⟩) (scells (s :: q))) (hn : n = q.length + 1) (hd : n ≤ d) : CellsR w (if d = 1 then some ⟨b, o, none⟩ else some ⟨b, o + 2, none⟩) (scells q) := by
  intro hp
  rw [scells_len] at hp
  obtain ⟨b', o', e, hc⟩ := h (by simp [scells])
  cases e
  rw [if_neg (by omega)]
  refine ⟨b, o + 2, rfl, fun j u hu => ?_⟩
  have := hc (j + 2) u (by simpa [scells] using hu)
  rw [show o + 2 + j = o + (j + 2) by omega]
  exact this
theorem cellsR_far {w : World} {B : Option Addr} {cs : List Value} {g j : Nat} {u : Value} (h : CellsR w B cs) (hb : ∀ b o sp, B = some ⟨b, o, sp⟩ → b ≠ g) : CellsR (w.setCell ⟨g, j, none⟩ u) B cs := by
  intro hp
  obtain ⟨b, o, e, hc⟩ := h hp
  refine ⟨b, o, e, fun k x hx => ?_⟩
  rw [World.cell?_setCell_other (h := fun e2 => hb b o none e (congrArg Addr.block e2).symm)]
  exact hc k x hx
set_option maxHeartbeats 6400000 in
theorem implChainSettle_any {A : Option Addr} {ns : List Nd} {rv : Int} {rl : List Nd} {k : Int} (c : Nat) (v : Int) {w : World} (h : NodesR w A ns) (hb : bulk ns ≤ 1048576) (hs : SettleRes v ns rv rl k) :
    Calls Alt.prog 28 #[.agg #[.int .i64 v, .slice A ns.length c]] w (GotSt w rv rl k) := by
  have hl := bulk_len ns
  have hE := hide (ext_refl w)
  replace h := hide h
  have b := hide (Blk.newAt (w) 25 #[.int .i64 v, .slice A ns.length c] (g := w.heap.size) (by simp))
  replace h := hide (h.out.ext (ext_alloc (ext_refl (w)) (.cells #[.int .i64 v, .slice A ns.length c] 25)))
  replace hE := hide (ext_alloc hE.out (.cells #[.int .i64 v, .slice A ns.length c] 25))
  have r := hide (Blk.newAt ((w.alloc (.cells #[.int .i64 v, .slice A ns.length c] 25))) 25 #[.int .i64 0, .slice none 0 0] (g := w.heap.size + 1) (by simp))
  replace h := hide (h.out.ext (ext_alloc (ext_refl ((w.alloc (.cells #[.int .i64 v, .slice A ns.length c] 25)))) (.cells #[.int .i64 0, .slice none 0 0] 25)))
  replace b := hide (b.out.ext (ext_alloc (ext_refl ((w.alloc (.cells #[.int .i64 v, .slice A ns.length c] 25)))) (.cells #[.int .i64 0, .slice none 0 0] 25)))
  replace hE := hide (ext_alloc hE.out (.cells #[.int .i64 0, .slice none 0 0] 25))
  rcases hs with ⟨L, hH, rfl, rfl, rfl⟩ | ⟨hno, rfl, rfl, rfl⟩
  · have hok := hide hH.ok
    have h5 := hH.ok.2.1
    replace hH := hide hH
    go_enter Alt.func28, Try.ntmps28
    try clear b_0 b_1 b_lt
    obtain ⟨b_0, b_1, b_lt⟩ := b.out.at2
    try clear r_0 r_1 r_lt r_f0 r_f1
    obtain ⟨r_0, r_1, r_lt, r_f0, r_f1⟩ := r.out.at2f
    go_wp2_with fail
    refine (implChainValid_yes c rv h.out hb hok.out).mono ?_
    rintro e w1 ⟨rfl, hF⟩
    have hz1 := hF.size
    simp only [World.size_alloc] at hz1
    replace h := hide (h.out.ext hF)
    replace b := hide (b.out.ext hF)
    replace r := hide (r.out.ext hF)
    try clear b_0 b_1 b_lt
    obtain ⟨b_0, b_1, b_lt⟩ := b.out.at2
    try clear r_0 r_1 r_lt r_f0 r_f1
    obtain ⟨r_0, r_1, r_lt, r_f0, r_f1⟩ := r.out.at2f
    replace hE := hide (ext_trans hE.out hF)
    clear hF
    go_wp2_with fail
    refine (copyChain_any c rv h.out hb).mono ?_
    intro e w2 hG
    obtain ⟨A2, c2, rfl, hlc2, hcm2, hP, hF⟩ := hG.use
    clear hG
    have hz2 := hF.size
    replace h := hide (h.out.ext hF)
    replace b := hide (b.out.ext hF)
    replace r := hide (r.out.ext hF)
    try clear b_0 b_1 b_lt
    obtain ⟨b_0, b_1, b_lt⟩ := b.out.at2
    try clear r_0 r_1 r_lt r_f0 r_f1
    obtain ⟨r_0, r_1, r_lt, r_f0, r_f1⟩ := r.out.at2f
    replace hE := hide (ext_trans hE.out hF)
    clear hF
    have hP' := hide (hP.out.wide (show w.heap.size ≤ w1.heap.size by omega) (Nat.le_refl _))
    obtain ⟨qb, hqb⟩ : ∃ qb, qb = w2.heap.size := ⟨_, rfl⟩
    have Q := hide (Blk.newAt (w2) 25 #[.int .i64 rv, .slice A2 ns.length c2] (g := (w2).heap.size) (by simp))
    replace h := hide (h.out.ext (ext_alloc (ext_refl (w2)) (.cells #[.int .i64 rv, .slice A2 ns.length c2] 25)))
    replace hP' := hide (hP'.out.ext (ext_alloc (ext_refl (w2)) (.cells #[.int .i64 rv, .slice A2 ns.length c2] 25)))
    replace b := hide (b.out.ext (ext_alloc (ext_refl (w2)) (.cells #[.int .i64 rv, .slice A2 ns.length c2] 25)))
    replace r := hide (r.out.ext (ext_alloc (ext_refl (w2)) (.cells #[.int .i64 rv, .slice A2 ns.length c2] 25)))
    replace hE := hide (ext_alloc hE.out (.cells #[.int .i64 rv, .slice A2 ns.length c2] 25))
    rw [← hqb] at Q
    have hzq : w.heap.size + 1 < qb := by omega
    try clear b_0 b_1 b_lt
    obtain ⟨b_0, b_1, b_lt⟩ := b.out.at2
    try clear r_0 r_1 r_lt r_f0 r_f1
    obtain ⟨r_0, r_1, r_lt, r_f0, r_f1⟩ := r.out.at2f
    go_wp2_with fail
    refine (settleQueue_any c rv h.out hb hH.out).mono ?_
    rintro e w3 ⟨B, d, q0, hq0, rfl, hqd, hdm, hC, hBb, hF⟩
    have hqs := hide (show Qok L ns q0 by rw [hq0]; exact qok_start hH.out)
    have hst := hide (st_start hH.out)
    have hBn := hide (show ∀ b o sp, B = some ⟨b, o, sp⟩ → b ≠ qb from fun b o sp e => by
      have := hBb.out b o sp e
      rw [World.size_alloc] at this
      omega)
    replace hq0 := hide hq0
    have hz3 := hF.size
    rw [World.size_alloc] at hz3
    replace Q := hide (Q.out.ext hF)
    replace hP' := hide (hP'.out.ext hF)
    replace r := hide (r.out.ext hF)
    try clear r_0 r_1 r_lt r_f0 r_f1
    obtain ⟨r_0, r_1, r_lt, r_f0, r_f1⟩ := r.out.at2f
    replace hE := hide (ext_trans hE.out hF)
    clear hF
    rw [← hqb]
    replace hqb := hide hqb
    clear hP b h hBb
    replace hP' := hide (hP'.out.wide (Nat.le_refl _) (show w2.heap.size ≤ w3.heap.size by omega))
    go_wp2_with fail
    go_loopw [5, 6] (fun n u wr => ∃ (j : Nat) (q : List (Bool × Int)) (B : Option Addr) (d : Nat) (ns' : List Nd) (A' : Option Addr) (c' : Nat), n = .int .i64 j ∧ u = .slice B q.length d ∧ q.length ≤ d ∧ d ≤ maxLen ∧ ns'.length ≤ c' ∧ c' ≤ maxLen ∧ Hid (St rv L ns ns' j) ∧ Hid (Qok L ns' q) ∧ Hid (CellsR wr B (scells q)) ∧ Hid (∀ b o sp, B = some ⟨b, o, sp⟩ → b ≠ qb) ∧ Hid (NodesOwn wr w.heap.size wr.heap.size A' c' ns') ∧ Hid (Blk wr qb 25 #[.int .i64 rv, .slice A' ns'.length c']) ∧ Hid (Blk wr (w.heap.size + 1) 25 #[.int .i64 0, .slice none 0 0]) ∧ Hid (Ext w wr)) (fun _ u _ => lenOfV u)
    case atStart => exact ⟨0, q0, B, d, ns, A2, c2, rfl, rfl, hqd, hdm, hlc2, hcm2, hst, hqs, hC, hBn, hP', Q, r, hE⟩
    case round =>
      clear hst hqs hC hBn hP' Q r hE hz1 hz2 hz3 hqd hdm r_0 r_1 r_lt r_f0 r_f1
      obtain ⟨j, q, B, d, ns', A', c', rfl, rfl, hqd, hdm, hlc, hcm, hst, hqs, hC, hBn, hP, Q, r, hE⟩ := hrel
      have hr9 : qb ≠ w.heap.size + 1 := by omega
      cases q with
      | nil =>
        obtain ⟨he1, he2⟩ := step_end hst.out hqs.out
        replace he1 := hide he1
        replace he2 := hide he2
        try clear Q_0 Q_1 Q_lt
        obtain ⟨Q_0, Q_1, Q_lt⟩ := Q.out.at2
        try clear r_0 r_1 r_lt r_f0 r_f1
        obtain ⟨r_0, r_1, r_lt, r_f0, r_f1⟩ := r.out.at2f
        go_wp2_with fail
        refine bodyPost_ret (v := .tuple #[.agg #[.int .i64 rv, .slice A' ns'.length c'], .int .i64 j]) (by simp [results, Try.results28, go_sem, r_0, r_1, r_lt]) rfl ?_
        refine ⟨A', c', by rw [← he1.out, ← he2.out], by rw [← he1.out]; exact hlc, hcm, ?_, ?_⟩
        · rw [← he1.out]
          exact hide (hP.out.handed r.out _ _).read
        · exact (hE.out.setCell (show w.heap.size ≤ w.heap.size + 1 by omega) _).setCell (show w.heap.size ≤ w.heap.size + 1 by omega) _
      | cons s q =>
        obtain ⟨n9, hn9⟩ : ∃ n9, n9 = q.length + 1 := ⟨_, rfl⟩
        rw [show (s :: q).length = n9 by rw [hn9]; rfl] at hqd ⊢
        have hd1 : decide ((n9 : Int) > 0) = true := by simp; omega
        have hd2 : decide ((0 : Int) < (n9 : Int)) = true := by simp; omega
        have hn0 : (0 : Int) < (n9 : Int) := by omega
        have hn1 : 1 ≤ n9 := by omega
        have hn2 : (1 : Int) ≤ (n9 : Int) := by omega
        obtain ⟨b, o, rfl, hcs⟩ := hC.out (by simp [scells])
        have hc0 : wr.cell? ⟨b, o, none⟩ = some (.bool s.1) := by simpa using hcs 0 (.bool s.1) (by simp [scells])
        have hc1 : wr.cell? ⟨b, o + 1, none⟩ = some (.int .i64 s.2) := by simpa using hcs 1 (.int .i64 s.2) (by simp [scells])
        have hbq := hBn.out _ _ _ rfl
        have hT := hide (tail_cells hC.out hn9 hqd)
        have hn8 := hide (show n9 - 1 = q.length by omega)
        replace hn9 := hide hn9
        replace hcs := hide hcs
        obtain ⟨rv2, rl, rb, hcall, hyes, hno⟩ := settleDo_step hst.out hqs.out
        replace hcall := hide hcall
        try clear Q_0 Q_1 Q_lt
        obtain ⟨Q_0, Q_1, Q_lt⟩ := Q.out.at2
        try clear r_0 r_1 r_lt r_f0 r_f1
        obtain ⟨r_0, r_1, r_lt, r_f0, r_f1⟩ := r.out.at2f
        go_wp2_with fail
        all_goals
          refine (hcall.out _ A' c' (hP.out.read.ext (ext_alloc (ext_refl wr) _))).mono ?_
          intro e w4 hG
          obtain ⟨A3, c3, rfl, hlc3, hcm3, hP3, hF0⟩ := hG.use
          clear hG Q_0 Q_1 Q_lt r_0 r_1 r_lt r_f0 r_f1 hc0 hc1
          have hF := ext_trans (ext_alloc (ext_refl wr) _) hF0
          have hz4 := hF.size
          have hz0 := hE.out.size
          rw [World.size_alloc] at hP3
          replace hP3 := hide (hP3.out.wide (show w.heap.size ≤ wr.heap.size + 1 by omega) (Nat.le_refl _))
          have hC4 := hT.out
          first
            | rw [if_pos (by assumption)] at hC4
            | rw [if_neg (by assumption)] at hC4
          replace hC4 := hide (hC4.ext hF)
          replace Q := hide (Q.out.ext hF)
          replace r := hide (r.out.ext hF)
          replace hP := hide ((hP.out.ext hF).wide (Nat.le_refl _) hz4)
          replace hE := hide (ext_trans hE.out hF)
          clear hT hC hF hF0
          cases rb with
          | true =>
            obtain ⟨rfl, hst2, hqs2⟩ := hyes rfl
            have hj := hst2.le
            replace hst2 := hide hst2
            replace hqs2 := hide hqs2
            have z8 := hide (Blk.newAt (w4) 25 #[.int .i64 rv2, .slice A3 rl.length c3] (g := (w4).heap.size) (by simp))
            replace Q := hide (Q.out.ext (ext_alloc (ext_refl (w4)) (.cells #[.int .i64 rv2, .slice A3 rl.length c3] 25)))
            replace r := hide (r.out.ext (ext_alloc (ext_refl (w4)) (.cells #[.int .i64 rv2, .slice A3 rl.length c3] 25)))
            replace hP3 := hide (hP3.out.ext (ext_alloc (ext_refl (w4)) (.cells #[.int .i64 rv2, .slice A3 rl.length c3] 25)))
            replace hC4 := hide (hC4.out.ext (ext_alloc (ext_refl (w4)) (.cells #[.int .i64 rv2, .slice A3 rl.length c3] 25)))
            replace hE := hide (ext_alloc hE.out (.cells #[.int .i64 rv2, .slice A3 rl.length c3] 25))
            try clear Q_0 Q_1 Q_lt Q_f0 Q_f1
            obtain ⟨Q_0, Q_1, Q_lt, Q_f0, Q_f1⟩ := Q.out.at2f
            go_wp2_with fail
            go_roundw
            case rel =>
              refine ⟨j + 1, q, _, _, rl, A3, c3, by go_num, by rw [hn8.out], by have := hn8.out; omega, by omega, hlc3, hcm3, hst2, hqs2, hide (cellsR_far (cellsR_far hC4.out ?_) ?_), hide ?_, hide ((hP3.out.handed Q.out _ _).wide (Nat.le_refl _) (by simp [World.setCell])), hide ((Q.out.set20 _).set21 _), hide ((r.out.far (p := ⟨qb, 0, none⟩) hr9.symm _).far (p := ⟨qb, 1, none⟩) hr9.symm _), hide ((hE.out.setCell (p := ⟨qb, 0, none⟩) (show w.heap.size ≤ qb by omega) _).setCell (p := ⟨qb, 1, none⟩) (show w.heap.size ≤ qb by omega) _)⟩
              all_goals
                intro b' o' sp e
                cases e
                exact hbq
            case measure => simp [lenOfV]; omega
          | false =>
            have hqs2 := hide (hno rfl)
            go_wp2_with fail
            go_roundw
            case rel =>
              refine ⟨j, q, _, _, ns', A', c', rfl, by rw [hn8.out], by have := hn8.out; omega, by omega, hlc, hcm, hst, hqs2, hide (hC4.out.ext (ext_alloc (ext_refl w4) _)), hide ?_, hide ((hP.out.ext (ext_alloc (ext_refl w4) _)).wide (Nat.le_refl _) (by simp)), hide (Q.out.ext (ext_alloc (ext_refl w4) _)), hide (r.out.ext (ext_alloc (ext_refl w4) _)), hide (ext_alloc hE.out _)⟩
              intro b' o' sp e
              cases e
              exact hbq
            case measure => simp [lenOfV]; omega
  · go_enter Alt.func28, Try.ntmps28
    try clear b_0 b_1 b_lt
    obtain ⟨b_0, b_1, b_lt⟩ := b.out.at2
    try clear r_0 r_1 r_lt r_f0 r_f1
    obtain ⟨r_0, r_1, r_lt, r_f0, r_f1⟩ := r.out.at2f
    go_wp2_with fail
    refine (implChainValid_no c v h.out hb hno).mono ?_
    rintro e w1 ⟨rfl, hF⟩
    replace h := hide (h.out.ext hF)
    replace b := hide (b.out.ext hF)
    replace r := hide (r.out.ext hF)
    try clear b_0 b_1 b_lt
    obtain ⟨b_0, b_1, b_lt⟩ := b.out.at2
    try clear r_0 r_1 r_lt r_f0 r_f1
    obtain ⟨r_0, r_1, r_lt, r_f0, r_f1⟩ := r.out.at2f
    replace hE := hide (ext_trans hE.out hF)
    clear hF
    go_wp2_with fail
    refine bodyPost_ret (v := .tuple #[.agg #[.int .i64 0, .slice none 0 0], .int .i64 (-1)]) (by simp [results, Try.results28, go_sem, r_0, r_1, r_lt]) rfl ?_
    exact ⟨none, 0, rfl, Nat.zero_le _, by decide, hide (NodesR.nil _ _), (hE.out.setCell (p := ⟨w.heap.size + 1, 0, none⟩) (show w.heap.size ≤ w.heap.size + 1 by omega) _).setCell (p := ⟨w.heap.size + 1, 1, none⟩) (show w.heap.size ≤ w.heap.size + 1 by omega) _⟩
end Go.Proofs.YtciekjplhbimdaaZ

/-
  Contracts: a step of the reference's settling; a chain settled by the reference.
-/
set_option linter.all false
namespace Go.Proofs.YtciekjplhbimdaaZ
open Go.RowKit
attribute [local go_sem ↓] Go.wp_at_zero Go.wp_at_succ

theorem tell_yes9 {v at_ rv : Int} {ns rl : List Nd} (h : TellRes v ns at_ rv rl true) : ∃ (k : Nat) (x y : Nd), TellAt v ns at_ k x y ∧ rv = v ∧ rl = ns.set k ⟨x.id, x.log, y.done⟩ := by
  rcases h with ⟨k, x, y, h1, h2, h3, -⟩ | ⟨-, -, -, h⟩
  · exact ⟨k, x, y, h1, h2, h3⟩
  · cases h
theorem pass_none9 {v at_ rv : Int} {ns rl : List Nd} (h : PassRes v ns at_ rv rl false) : ¬ ∃ k x y, PassAt v ns at_ k x y := by
  rcases h with ⟨k, x, y, u, h1, h2, -, -, h⟩ | ⟨h, -⟩
  · cases h
  · exact h
theorem tell_none9 {v at_ rv : Int} {ns rl : List Nd} (h : TellRes v ns at_ rv rl false) : ¬ ∃ k x y, TellAt v ns at_ k x y := by
  rcases h with ⟨k, x, y, h1, -, -, h⟩ | ⟨h, -⟩
  · cases h
  · exact h
/-- What a step of the reference comes to. -/
def Stepped (w : World) (v : Int) (ns : List Nd) (e : Ending) (w' : World) : Prop :=
  (∃ rl, NextOf v ns rl ∧ GotChB w v rl true e w') ∨ ((∀ j : Nat, ¬ ∃ k' x y, PassAt v ns (j : Int) k' x y) ∧ (∀ j : Nat, ¬ ∃ k' x y, TellAt v ns (j : Int) k' x y) ∧ GotChB w 0 [] false e w')
theorem next_pass9 {v rv : Int} {k : Nat} {ns rl : List Nd} (h : PassRes v ns (k : Int) rv rl true) : rv = v ∧ NextOf v ns rl := by
  obtain ⟨k', x, y, u, hp, hu, e1, e2⟩ := pass_yes h
  have := hp.2.1
  have ek : k' = k := by omega
  subst ek
  exact ⟨e1, .inl ⟨_, x, y, u, hp, hu, e2⟩⟩
theorem next_tell9 {v rv : Int} {k : Nat} {ns rl : List Nd} (hno : ∀ j : Nat, ¬ ∃ k' x y, PassAt v ns (j : Int) k' x y) (ht : ∀ j : Nat, k < j → ¬ ∃ k' x y, TellAt v ns (j : Int) k' x y) (h : TellRes v ns (k : Int) rv rl true) : rv = v ∧ NextOf v ns rl := by
  obtain ⟨k', x, y, hp, e1, e2⟩ := tell_yes9 h
  have := hp.2.1
  have ek : k' = k := by omega
  subst ek
  exact ⟨e1, .inr ⟨hno, _, x, y, hp, ht, e2⟩⟩
set_option maxHeartbeats 6400000 in
theorem l5Step_any {A : Option Addr} {ns : List Nd} (c : Nat) (v : Int) {w : World} (h : NodesR w A ns) (hb : bulk ns ≤ 1048576) (hlc : ns.length ≤ c) (h1 : 1 ≤ ns.length) :
    Calls Alt.prog 59 #[.agg #[.int .i64 v, .slice A ns.length c]] w (Stepped w v ns) := by
  have hl := bulk_len ns
  have hE := hide (ext_refl w)
  replace h := hide h
  have b := hide (Blk.newAt (w) 25 #[.int .i64 v, .slice A ns.length c] (g := w.heap.size) (by simp))
  replace h := hide (h.out.ext (ext_alloc (ext_refl (w)) (.cells #[.int .i64 v, .slice A ns.length c] 25)))
  replace hE := hide (ext_alloc hE.out (.cells #[.int .i64 v, .slice A ns.length c] 25))
  have r := hide (Blk.newAt ((w.alloc (.cells #[.int .i64 v, .slice A ns.length c] 25))) 25 #[.int .i64 0, .slice none 0 0] (g := w.heap.size + 1) (by simp))
  replace h := hide (h.out.ext (ext_alloc (ext_refl ((w.alloc (.cells #[.int .i64 v, .slice A ns.length c] 25)))) (.cells #[.int .i64 0, .slice none 0 0] 25)))
  replace b := hide (b.out.ext (ext_alloc (ext_refl ((w.alloc (.cells #[.int .i64 v, .slice A ns.length c] 25)))) (.cells #[.int .i64 0, .slice none 0 0] 25)))
  replace hE := hide (ext_alloc hE.out (.cells #[.int .i64 0, .slice none 0 0] 25))
  go_enter Alt.func59, Try.ntmps59
  try clear b_0 b_1 b_lt
  obtain ⟨b_0, b_1, b_lt⟩ := b.out.at2
  try clear r_0 r_1 r_lt r_f0 r_f1
  obtain ⟨r_0, r_1, r_lt, r_f0, r_f1⟩ := r.out.at2f
  go_wp2_with fail
  clear b_0 b_1 b_lt r_0 r_1 r_lt r_f0 r_f1
  go_loopw [4] (fun i wr => ∃ (k : Nat), k + 1 ≤ ns.length ∧ i = .int .i64 k ∧ Hid (∀ j : Nat, j < k → ¬ ∃ k' x y, PassAt v ns (j : Int) k' x y) ∧ Hid (NodesR wr A ns) ∧ Hid (Blk wr w.heap.size 25 #[.int .i64 v, .slice A ns.length c]) ∧ Hid (Blk wr (w.heap.size + 1) 25 #[.int .i64 0, .slice none 0 0]) ∧ Hid (Ext w wr)) (fun i _ => ns.length - (intOf i).toNat)
  case atStart => exact ⟨0, by omega, rfl, hide (fun j hj => by omega), h, b, r, hE⟩
  case round =>
    clear h b r hE
    obtain ⟨k, hk, rfl, hno, h, b, r, hE⟩ := hrel
    obtain ⟨k1, hk1⟩ : ∃ k1, k1 = k + 1 := ⟨_, rfl⟩
    have hw1 : IntKind.i64.wrap ((k : Int) + 1) = (k1 : Int) := by rw [show ((k : Int) + 1) = (k1 : Int) by omega]; exact IntWalk.i64_in _ (by omega)
    replace hk1 := hide hk1
    by_cases hlt : k1 < ns.length
    · have hd : decide ((k1 : Int) < (ns.length : Int)) = true := by simp; omega
      obtain ⟨rv, rl, rb, hP⟩ := passRes_ex v ns (k : Int)
      try clear b_0 b_1 b_lt
      obtain ⟨b_0, b_1, b_lt⟩ := b.out.at2
      try clear r_0 r_1 r_lt r_f0 r_f1
      obtain ⟨r_0, r_1, r_lt, r_f0, r_f1⟩ := r.out.at2f
      go_wp2_with fail
      refine (specChainPass_any c v _ h.out hb hlc hP).mono ?_
      intro e w2 hG
      obtain ⟨A2, c2, rfl, -, -, hP2, hF⟩ := hG.use
      clear hG
      have hz2 := hF.size
      have hz0 := hE.out.size
      replace h := hide (h.out.ext hF)
      replace b := hide (b.out.ext hF)
      replace r := hide (r.out.ext hF)
      try clear b_0 b_1 b_lt
      obtain ⟨b_0, b_1, b_lt⟩ := b.out.at2
      try clear r_0 r_1 r_lt r_f0 r_f1
      obtain ⟨r_0, r_1, r_lt, r_f0, r_f1⟩ := r.out.at2f
      replace hE := hide (ext_trans hE.out hF)
      clear hF
      cases rb with
      | true =>
        have z8 := hide (Blk.newAt (w2) 25 #[.int .i64 rv, .slice A2 rl.length c2] (g := (w2).heap.size) (by simp))
        replace hP2 := hide (hP2.out.ext (ext_alloc (ext_refl (w2)) (.cells #[.int .i64 rv, .slice A2 rl.length c2] 25)))
        replace b := hide (b.out.ext (ext_alloc (ext_refl (w2)) (.cells #[.int .i64 rv, .slice A2 rl.length c2] 25)))
        replace r := hide (r.out.ext (ext_alloc (ext_refl (w2)) (.cells #[.int .i64 rv, .slice A2 rl.length c2] 25)))
        replace hE := hide (ext_alloc hE.out (.cells #[.int .i64 rv, .slice A2 rl.length c2] 25))
        try clear r_0 r_1 r_lt r_f0 r_f1
        obtain ⟨r_0, r_1, r_lt, r_f0, r_f1⟩ := r.out.at2f
        go_wp2_with fail
        obtain ⟨rfl, hN⟩ := next_pass9 hP
        refine bodyPost_ret (v := .tuple #[.agg #[.int .i64 rv, .slice A2 rl.length c2], .bool true]) (by simp [results, Try.results59, go_sem, r_0, r_1, r_lt]) rfl ?_
        exact .inl ⟨rl, hN, gotChB_of rfl rfl rfl rfl ((hP2.out.handed r.out _ _).wide (by omega) (by simp [World.setCell])) ((hE.out.setCell (show w.heap.size ≤ w.heap.size + 1 by omega) _).setCell (show w.heap.size ≤ w.heap.size + 1 by omega) _)⟩
      | false =>
        have hno2 := hide (show ∀ j : Nat, j < k1 → ¬ ∃ k' x y, PassAt v ns (j : Int) k' x y from fun j hj => by
          have := hk1.out
          by_cases e : j = k
          · rw [e]; exact pass_none9 hP
          · exact hno.out j (by omega))
        try clear b_0 b_1 b_lt
        obtain ⟨b_0, b_1, b_lt⟩ := b.out.at2
        go_wp2_with fail
        go_roundw
        case rel => exact ⟨k1, by omega, rfl, hno2, hide (h.out.ext (ext_alloc (ext_refl w2) _)), hide (b.out.ext (ext_alloc (ext_refl w2) _)), hide (r.out.ext (ext_alloc (ext_refl w2) _)), hide (ext_alloc hE.out _)⟩
        case measure => have := hk1.out; simp [intOf]; omega
    · have hd : decide ((k1 : Int) < (ns.length : Int)) = false := by simp; omega
      have hno2 := hide (show ∀ j : Nat, ¬ ∃ k' x y, PassAt v ns (j : Int) k' x y from fun j => by
        have := hk1.out
        by_cases e : j < k
        · exact hno.out j e
        · exact no_pass_above (by omega))
      obtain ⟨z, hz⟩ : ∃ z, (ns.length : Int) - 2 = z := ⟨_, rfl⟩
      have hwz : IntKind.i64.wrap ((ns.length : Int) - 2) = z := by rw [hz]; exact IntWalk.i64_in _ (by omega)
      replace hz := hide hz
      try clear b_0 b_1 b_lt
      obtain ⟨b_0, b_1, b_lt⟩ := b.out.at2
      go_wp2_with fail
      clear b_0 b_1 b_lt hno
      go_loopw [7] (fun i wr => ∃ (m : Nat) (z : Int), m + 1 ≤ ns.length ∧ Hid (z = (m : Int) - 1) ∧ i = .int .i64 z ∧ Hid (∀ j : Nat, m ≤ j → ¬ ∃ k' x y, TellAt v ns (j : Int) k' x y) ∧ Hid (NodesR wr A ns) ∧ Hid (Blk wr w.heap.size 25 #[.int .i64 v, .slice A ns.length c]) ∧ Hid (Blk wr (w.heap.size + 1) 25 #[.int .i64 0, .slice none 0 0]) ∧ Hid (Ext w wr)) (fun i _ => (intOf i + 1).toNat)
      case atStart =>
        refine ⟨ns.length - 1, z, by omega, hide (by have := hz.out; omega), rfl, hide (fun j hj => ?_), h, b, r, hE⟩
        rintro ⟨k', x, y, -, e, -, hy, -⟩
        have := getElem_some hy
        omega
      case round =>
        clear h b r hE
        obtain ⟨m, z2, hm, hz2, rfl, hnt, h, b, r, hE⟩ := hrel
        cases m with
        | zero =>
          have hd2 : decide (z2 ≥ 0) = false := by have := hz2.out; simp; omega
          have hd2' : decide (0 ≤ z2) = false := by have := hz2.out; simp; omega
          try clear r_0 r_1 r_lt r_f0 r_f1
          obtain ⟨r_0, r_1, r_lt, r_f0, r_f1⟩ := r.out.at2f
          go_wp2_with fail
          refine bodyPost_ret (v := .tuple #[.agg #[.int .i64 0, .slice none 0 0], .bool false]) (by simp [results, Try.results59, go_sem, r_0, r_1, r_lt]) rfl ?_
          exact .inr ⟨hno2.out, fun j => hnt.out j (Nat.zero_le _), gotChB_zero rfl rfl rfl ((hE.out.setCell (p := ⟨w.heap.size + 1, 0, none⟩) (show w.heap.size ≤ w.heap.size + 1 by omega) _).setCell (p := ⟨w.heap.size + 1, 1, none⟩) (show w.heap.size ≤ w.heap.size + 1 by omega) _)⟩
        | succ m =>
          have hz3 : z2 = (m : Int) := by have := hz2.out; omega
          subst hz3
          have hd2 : decide ((m : Int) ≥ 0) = true := by simp
          obtain ⟨z3, hz4⟩ : ∃ z3, (m : Int) - 1 = z3 := ⟨_, rfl⟩
          have hwz3 : IntKind.i64.wrap ((m : Int) - 1) = z3 := by rw [hz4]; exact IntWalk.i64_in _ (by omega)
          replace hz4 := hide hz4
          obtain ⟨rv, rl, rb, hP⟩ := tellRes_ex v ns (m : Int)
          try clear b_0 b_1 b_lt
          obtain ⟨b_0, b_1, b_lt⟩ := b.out.at2
          try clear r_0 r_1 r_lt r_f0 r_f1
          obtain ⟨r_0, r_1, r_lt, r_f0, r_f1⟩ := r.out.at2f
          go_wp2_with fail
          refine (specChainTell_any c v _ h.out hb hlc hP).mono ?_
          intro e w2 hG
          obtain ⟨A2, c2, rfl, -, -, hP2, hF⟩ := hG.use
          clear hG
          have hz2 := hF.size
          have hz0 := hE.out.size
          replace h := hide (h.out.ext hF)
          replace b := hide (b.out.ext hF)
          replace r := hide (r.out.ext hF)
          try clear b_0 b_1 b_lt
          obtain ⟨b_0, b_1, b_lt⟩ := b.out.at2
          try clear r_0 r_1 r_lt r_f0 r_f1
          obtain ⟨r_0, r_1, r_lt, r_f0, r_f1⟩ := r.out.at2f
          replace hE := hide (ext_trans hE.out hF)
          clear hF
          cases rb with
          | true =>
            have z8 := hide (Blk.newAt (w2) 25 #[.int .i64 rv, .slice A2 rl.length c2] (g := (w2).heap.size) (by simp))
            replace hP2 := hide (hP2.out.ext (ext_alloc (ext_refl (w2)) (.cells #[.int .i64 rv, .slice A2 rl.length c2] 25)))
            replace b := hide (b.out.ext (ext_alloc (ext_refl (w2)) (.cells #[.int .i64 rv, .slice A2 rl.length c2] 25)))
            replace r := hide (r.out.ext (ext_alloc (ext_refl (w2)) (.cells #[.int .i64 rv, .slice A2 rl.length c2] 25)))
            replace hE := hide (ext_alloc hE.out (.cells #[.int .i64 rv, .slice A2 rl.length c2] 25))
            try clear r_0 r_1 r_lt r_f0 r_f1
            obtain ⟨r_0, r_1, r_lt, r_f0, r_f1⟩ := r.out.at2f
            go_wp2_with fail
            obtain ⟨rfl, hN⟩ := next_tell9 hno2.out (fun j hj => hnt.out j hj) hP
            refine bodyPost_ret (v := .tuple #[.agg #[.int .i64 rv, .slice A2 rl.length c2], .bool true]) (by simp [results, Try.results59, go_sem, r_0, r_1, r_lt]) rfl ?_
            exact .inl ⟨rl, hN, gotChB_of rfl rfl rfl rfl ((hP2.out.handed r.out _ _).wide (by omega) (by simp [World.setCell])) ((hE.out.setCell (show w.heap.size ≤ w.heap.size + 1 by omega) _).setCell (show w.heap.size ≤ w.heap.size + 1 by omega) _)⟩
          | false =>
            have hnt2 := hide (show ∀ j : Nat, m ≤ j → ¬ ∃ k' x y, TellAt v ns (j : Int) k' x y from fun j hj => by
              by_cases e : j = m
              · rw [e]; exact tell_none9 hP
              · exact hnt.out j (by omega))
            go_wp2_with fail
            go_roundw
            case rel => exact ⟨m, z3, by omega, hide hz4.out.symm, rfl, hnt2, hide (h.out.ext (ext_alloc (ext_refl w2) _)), hide (b.out.ext (ext_alloc (ext_refl w2) _)), hide (r.out.ext (ext_alloc (ext_refl w2) _)), hide (ext_alloc hE.out _)⟩
            case measure => have := hz4.out; simp [intOf]; omega

set_option maxHeartbeats 6400000 in
theorem specChainSettle_any {A : Option Addr} {ns : List Nd} {rv : Int} {rl : List Nd} {k : Int} (c : Nat) (v : Int) {w : World} (h : NodesR w A ns) (hb : bulk ns ≤ 1048576) (hlc : ns.length ≤ c) (hs : SettleRes v ns rv rl k) :
    Calls Alt.prog 29 #[.agg #[.int .i64 v, .slice A ns.length c]] w (GotSt w rv rl k) := by
  have hl := bulk_len ns
  have hE := hide (ext_refl w)
  replace h := hide h
  have b := hide (Blk.newAt (w) 25 #[.int .i64 v, .slice A ns.length c] (g := w.heap.size) (by simp))
  replace h := hide (h.out.ext (ext_alloc (ext_refl (w)) (.cells #[.int .i64 v, .slice A ns.length c] 25)))
  replace hE := hide (ext_alloc hE.out (.cells #[.int .i64 v, .slice A ns.length c] 25))
  have r := hide (Blk.newAt ((w.alloc (.cells #[.int .i64 v, .slice A ns.length c] 25))) 25 #[.int .i64 0, .slice none 0 0] (g := w.heap.size + 1) (by simp))
  replace h := hide (h.out.ext (ext_alloc (ext_refl ((w.alloc (.cells #[.int .i64 v, .slice A ns.length c] 25)))) (.cells #[.int .i64 0, .slice none 0 0] 25)))
  replace b := hide (b.out.ext (ext_alloc (ext_refl ((w.alloc (.cells #[.int .i64 v, .slice A ns.length c] 25)))) (.cells #[.int .i64 0, .slice none 0 0] 25)))
  replace hE := hide (ext_alloc hE.out (.cells #[.int .i64 0, .slice none 0 0] 25))
  rcases hs with ⟨L, hH, rfl, rfl, rfl⟩ | ⟨hno, rfl, rfl, rfl⟩
  · have hok := hide hH.ok
    have h5 := hH.ok.2.1
    replace hH := hide hH
    go_enter Alt.func29, Try.ntmps29
    try clear b_0 b_1 b_lt
    obtain ⟨b_0, b_1, b_lt⟩ := b.out.at2
    try clear r_0 r_1 r_lt r_f0 r_f1
    obtain ⟨r_0, r_1, r_lt, r_f0, r_f1⟩ := r.out.at2f
    go_wp2_with fail
    refine (specChainValid_yes c rv h.out hb hlc hok.out).mono ?_
    rintro e w1 ⟨rfl, hF⟩
    have hz1 := hF.size
    simp only [World.size_alloc] at hz1
    replace h := hide (h.out.ext hF)
    replace b := hide (b.out.ext hF)
    replace r := hide (r.out.ext hF)
    try clear b_0 b_1 b_lt
    obtain ⟨b_0, b_1, b_lt⟩ := b.out.at2
    try clear r_0 r_1 r_lt r_f0 r_f1
    obtain ⟨r_0, r_1, r_lt, r_f0, r_f1⟩ := r.out.at2f
    replace hE := hide (ext_trans hE.out hF)
    clear hF
    go_wp2_with fail
    refine (l4Copy_any c rv h.out hb).mono ?_
    intro e w2 hG
    obtain ⟨A2, c2, rfl, hlc2, hcm2, hP, hF⟩ := hG.use
    clear hG
    have hz2 := hF.size
    replace h := hide (h.out.ext hF)
    replace b := hide (b.out.ext hF)
    replace r := hide (r.out.ext hF)
    try clear b_0 b_1 b_lt
    obtain ⟨b_0, b_1, b_lt⟩ := b.out.at2
    try clear r_0 r_1 r_lt r_f0 r_f1
    obtain ⟨r_0, r_1, r_lt, r_f0, r_f1⟩ := r.out.at2f
    replace hE := hide (ext_trans hE.out hF)
    clear hF
    have hP' := hide (hP.out.wide (show w.heap.size ≤ w1.heap.size by omega) (Nat.le_refl _))
    obtain ⟨qb, hqb⟩ : ∃ qb, qb = w2.heap.size := ⟨_, rfl⟩
    have Q := hide (Blk.newAt (w2) 25 #[.int .i64 rv, .slice A2 ns.length c2] (g := (w2).heap.size) (by simp))
    replace hP' := hide (hP'.out.ext (ext_alloc (ext_refl (w2)) (.cells #[.int .i64 rv, .slice A2 ns.length c2] 25)))
    replace r := hide (r.out.ext (ext_alloc (ext_refl (w2)) (.cells #[.int .i64 rv, .slice A2 ns.length c2] 25)))
    replace hE := hide (ext_alloc hE.out (.cells #[.int .i64 rv, .slice A2 ns.length c2] 25))
    rw [← hqb] at Q
    have hzq : w.heap.size + 1 < qb := by omega
    have hst := hide (st_start hH.out)
    go_wp2_with fail
    rw [← hqb]
    replace hqb := hide hqb
    clear hP h b b_0 b_1 b_lt
    go_loopw [5] (fun n wr => ∃ (j : Nat) (ns' : List Nd) (A' : Option Addr) (c' : Nat), n = .int .i64 j ∧ ns'.length ≤ c' ∧ c' ≤ maxLen ∧ Hid (St rv L ns ns' j) ∧ Hid (NodesOwn wr w.heap.size wr.heap.size A' c' ns') ∧ Hid (Blk wr qb 25 #[.int .i64 rv, .slice A' ns'.length c']) ∧ Hid (Blk wr (w.heap.size + 1) 25 #[.int .i64 0, .slice none 0 0]) ∧ Hid (Ext w wr)) (fun n _ => 101 - (intOf n).toNat)
    case atStart => exact ⟨0, ns, A2, c2, rfl, hlc2, hcm2, hst, hide (hP'.out.wide (Nat.le_refl _) (by simp)), Q, r, hE⟩
    case round =>
      clear hst hP' Q r hE hz1 hz2
      obtain ⟨j, ns', A', c', rfl, hlc', hcm', hst, hP, Q, r, hE⟩ := hrel
      have hr9 : qb ≠ w.heap.size + 1 := by omega
      have hj := hst.out.le
      have hd : decide ((j : Int) ≤ 100) = true := by simp; omega
      have hd' : decide (j ≤ 100) = true := by simp; omega
      have hl5 := hide hst.out.len
      try clear Q_0 Q_1 Q_lt
      obtain ⟨Q_0, Q_1, Q_lt⟩ := Q.out.at2
      try clear r_0 r_1 r_lt r_f0 r_f1
      obtain ⟨r_0, r_1, r_lt, r_f0, r_f1⟩ := r.out.at2f
      go_wp2_with fail
      refine (l5Step_any c' rv hP.out.read (Nat.le_trans hst.out.bulk (by decide)) hlc' (by have := hl5.out; omega)).mono ?_
      intro e w4 hG
      rcases hG with ⟨rl, hN, hG⟩ | ⟨hn1, hn2, hG⟩
      · obtain ⟨A3, c3, rfl, hlc3, hcm3, hP3, hF⟩ := hG.use
        clear hG
        have hst2 := next_st hst.out hN
        have hj2 := hst2.le
        have hz4 := hF.size
        have hz0 := hE.out.size
        replace hst2 := hide hst2
        replace hP3 := hide (hP3.out.wide (show w.heap.size ≤ wr.heap.size by omega) (Nat.le_refl _))
        replace hP := hide (hP.out.wide (Nat.le_refl _) hz4)
        replace hP := hide (hP.out.ext hF)
        replace Q := hide (Q.out.ext hF)
        replace r := hide (r.out.ext hF)
        try clear Q_0 Q_1 Q_lt
        obtain ⟨Q_0, Q_1, Q_lt⟩ := Q.out.at2
        try clear r_0 r_1 r_lt r_f0 r_f1
        obtain ⟨r_0, r_1, r_lt, r_f0, r_f1⟩ := r.out.at2f
        replace hE := hide (ext_trans hE.out hF)
        clear hF
        have z8 := hide (Blk.newAt (w4) 25 #[.int .i64 rv, .slice A3 rl.length c3] (g := (w4).heap.size) (by simp))
        replace hP3 := hide (hP3.out.ext (ext_alloc (ext_refl (w4)) (.cells #[.int .i64 rv, .slice A3 rl.length c3] 25)))
        replace Q := hide (Q.out.ext (ext_alloc (ext_refl (w4)) (.cells #[.int .i64 rv, .slice A3 rl.length c3] 25)))
        replace r := hide (r.out.ext (ext_alloc (ext_refl (w4)) (.cells #[.int .i64 rv, .slice A3 rl.length c3] 25)))
        replace hE := hide (ext_alloc hE.out (.cells #[.int .i64 rv, .slice A3 rl.length c3] 25))
        clear Q_0 Q_1 Q_lt r_0 r_1 r_lt r_f0 r_f1
        try clear Q_0 Q_1 Q_lt Q_f0 Q_f1
        obtain ⟨Q_0, Q_1, Q_lt, Q_f0, Q_f1⟩ := Q.out.at2f
        go_wp2_with fail
        go_roundw
        case rel =>
          exact ⟨j + 1, rl, A3, c3, by go_num, hlc3, hcm3, hst2, hide ((hP3.out.handed Q.out _ _).wide (Nat.le_refl _) (by simp [World.setCell])), hide ((Q.out.set20 _).set21 _), hide ((r.out.far (p := ⟨qb, 0, none⟩) hr9.symm _).far (p := ⟨qb, 1, none⟩) hr9.symm _), hide ((hE.out.setCell (p := ⟨qb, 0, none⟩) (show w.heap.size ≤ qb by omega) _).setCell (p := ⟨qb, 1, none⟩) (show w.heap.size ≤ qb by omega) _)⟩
        case measure => simp [intOf]; omega
      · obtain ⟨A3, c3, rfl, hlc3, hcm3, hP3, hF⟩ := hG.use
        clear hG
        obtain ⟨he1, he2⟩ := none_end hst.out hn1 hn2
        replace he1 := hide he1
        replace he2 := hide he2
        have hz4 := hF.size
        have hz0 := hE.out.size
        replace hP := hide (hP.out.wide (Nat.le_refl _) hz4)
        replace hP := hide (hP.out.ext hF)
        replace Q := hide (Q.out.ext hF)
        replace r := hide (r.out.ext hF)
        try clear Q_0 Q_1 Q_lt
        obtain ⟨Q_0, Q_1, Q_lt⟩ := Q.out.at2
        try clear r_0 r_1 r_lt r_f0 r_f1
        obtain ⟨r_0, r_1, r_lt, r_f0, r_f1⟩ := r.out.at2f
        replace hE := hide (ext_trans hE.out hF)
        clear hF
        have z8 := hide (Blk.newAt (w4) 25 #[.int .i64 0, .slice A3 0 c3] (g := (w4).heap.size) (by simp))
        replace hP := hide (hP.out.ext (ext_alloc (ext_refl (w4)) (.cells #[.int .i64 0, .slice A3 0 c3] 25)))
        replace Q := hide (Q.out.ext (ext_alloc (ext_refl (w4)) (.cells #[.int .i64 0, .slice A3 0 c3] 25)))
        replace r := hide (r.out.ext (ext_alloc (ext_refl (w4)) (.cells #[.int .i64 0, .slice A3 0 c3] 25)))
        replace hE := hide (ext_alloc hE.out (.cells #[.int .i64 0, .slice A3 0 c3] 25))
        try clear Q_0 Q_1 Q_lt
        obtain ⟨Q_0, Q_1, Q_lt⟩ := Q.out.at2
        try clear r_0 r_1 r_lt r_f0 r_f1
        obtain ⟨r_0, r_1, r_lt, r_f0, r_f1⟩ := r.out.at2f
        go_wp2_with fail
        refine bodyPost_ret (v := .tuple #[.agg #[.int .i64 rv, .slice A' ns'.length c'], .int .i64 j]) (by simp [results, Try.results29, go_sem, r_0, r_1, r_lt]) rfl ?_
        refine ⟨A', c', by rw [← he1.out, ← he2.out], by rw [← he1.out]; exact hlc', hcm', ?_, ?_⟩
        · rw [← he1.out]
          exact hide (hP.out.handed r.out _ _).read
        · exact (hE.out.setCell (show w.heap.size ≤ w.heap.size + 1 by omega) _).setCell (show w.heap.size ≤ w.heap.size + 1 by omega) _
  · go_enter Alt.func29, Try.ntmps29
    try clear b_0 b_1 b_lt
    obtain ⟨b_0, b_1, b_lt⟩ := b.out.at2
    try clear r_0 r_1 r_lt r_f0 r_f1
    obtain ⟨r_0, r_1, r_lt, r_f0, r_f1⟩ := r.out.at2f
    go_wp2_with fail
    refine (specChainValid_no c v h.out hb hlc hno).mono ?_
    rintro e w1 ⟨rfl, hF⟩
    replace h := hide (h.out.ext hF)
    replace b := hide (b.out.ext hF)
    replace r := hide (r.out.ext hF)
    try clear b_0 b_1 b_lt
    obtain ⟨b_0, b_1, b_lt⟩ := b.out.at2
    try clear r_0 r_1 r_lt r_f0 r_f1
    obtain ⟨r_0, r_1, r_lt, r_f0, r_f1⟩ := r.out.at2f
    replace hE := hide (ext_trans hE.out hF)
    clear hF
    go_wp2_with fail
    refine bodyPost_ret (v := .tuple #[.agg #[.int .i64 0, .slice none 0 0], .int .i64 (-1)]) (by simp [results, Try.results29, go_sem, r_0, r_1, r_lt]) rfl ?_
    exact ⟨none, 0, rfl, Nat.zero_le _, by decide, hide (NodesR.nil _ _), (hE.out.setCell (p := ⟨w.heap.size + 1, 0, none⟩) (show w.heap.size ≤ w.heap.size + 1 by omega) _).setCell (p := ⟨w.heap.size + 1, 1, none⟩) (show w.heap.size ≤ w.heap.size + 1 by omega) _⟩
end Go.Proofs.YtciekjplhbimdaaZ
