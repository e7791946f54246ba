/-
  The plain words for telling, writing and passing in chains, and their laws. Nothing of the program is in sight here.
-/
import Derived.Test.YtjheeeilcfbdbaaCPure
set_option linter.all false
set_option maxRecDepth 100000
namespace Go.Proofs.Ytjheeeilcfbdbaa

theorem getElem_some {α : Type} {l : List α} {i : Nat} {a : α} (h : l[i]? = some a) : i < l.length := (List.getElem?_eq_some_iff.1 h).1
theorem set_at {α : Type} {l : List α} {i : Nat} {a b : α} (h : l[i]? = some a) : (l.set i b)[i]? = some b := by
  rw [List.getElem?_set, if_pos rfl, if_pos (getElem_some h)]
theorem set_off {α : Type} {l : List α} {i k : Nat} {b : α} (h : i ≠ k) : (l.set i b)[k]? = l[k]? := by
  rw [List.getElem?_set, if_neg h]
theorem ndOk_all {n : Nd} (h : ndOk n = true) : (1 ≤ n.id ∧ n.id ≤ 99) ∧ logOk n.log = true ∧ n.log.length ≤ 12 ∧ 0 ≤ n.done ∧ n.done ≤ n.log.length := by
  obtain ⟨a, l, c, e⟩ := nd_cases n
  subst e
  obtain ⟨h1, h2, h3, h4, h5, h6⟩ := ndOk_parts h
  exact ⟨⟨h1, h2⟩, h3, h4, h5, h6⟩
section
variable {v : Int} {ns : List Nd} {i : Nat} {n m : Nd}
theorem ChOk.at_ (h : ChOk v ns) (hn : ns[i]? = some n) : ndOk n = true := (h.2.2.1 i (getElem_some hn) n hn).1
theorem ChOk.nextAt (h : ChOk v ns) {p : Nd} (hn : ns[i]? = some n) (hp : ns[i + 1]? = some p) : Go.Proofs.Ytjheeeilcfbdbaa.begins p.log n.log = true ∧ n.done ≤ p.done :=
  (h.2.2.1 (i + 1) (getElem_some hp) p hp).2.2 (Nat.succ_pos _) n hn
theorem ChOk.last (h : ChOk v ns) (hn : ns[i]? = some n) (hi : i + 1 = ns.length) : n.done = n.log.length := h.2.2.2 n (by rw [← hn]; congr 1; omega)
/-- A chain with another node at a place. -/
theorem ChOk.set (h : ChOk v ns) (hn : ns[i]? = some n) (hid : m.id = n.id) (hm : ndOk m = true) (hprev : ∀ p, 0 < i → ns[i - 1]? = some p → Go.Proofs.Ytjheeeilcfbdbaa.begins m.log p.log = true ∧ p.done ≤ m.done)
    (hnext : ∀ p, ns[i + 1]? = some p → Go.Proofs.Ytjheeeilcfbdbaa.begins p.log m.log = true ∧ m.done ≤ p.done) (hlast : i + 1 = ns.length → m.done = m.log.length) : ChOk v (ns.set i m) := by
  have hi := getElem_some hn
  refine ⟨h.1, by simpa using h.2.1, fun k hk x hx => ?_, fun x hx => ?_⟩
  · rw [List.getElem?_set] at hx
    by_cases e : i = k
    · subst e
      rw [if_pos rfl, if_pos hi] at hx
      cases hx
      refine ⟨hm, fun j hj p hp => ?_, fun h0 p hp => ?_⟩
      · rw [set_off (by omega)] at hp
        rw [hid]
        exact (h.2.2.1 i hi _ hn).2.1 j hj p hp
      · rw [set_off (by omega)] at hp
        exact hprev p h0 hp
    · rw [if_neg e] at hx
      obtain ⟨f1, f2, f3⟩ := h.2.2.1 k (by simpa using hk) x hx
      refine ⟨f1, fun j hj p hp => ?_, fun h0 p hp => ?_⟩
      · by_cases e2 : i = j
        · subst e2
          rw [set_at hn] at hp
          cases hp
          rw [hid]
          exact f2 i hj _ hn
        · rw [set_off e2] at hp
          exact f2 j hj p hp
      · by_cases e2 : i = k - 1
        · have e3 : k = i + 1 := by omega
          subst e3
          rw [show i + 1 - 1 = i by omega, set_at hn] at hp
          cases hp
          exact hnext x hx
        · rw [set_off e2] at hp
          exact f3 h0 p hp
  · rw [List.length_set] at hx
    by_cases e : i = ns.length - 1
    · rw [← e, set_at hn] at hx
      cases hx
      exact hlast (by omega)
    · rw [set_off e] at hx
      exact h.2.2.2 x hx
end
theorem bulk_set : ∀ (ns : List Nd) (i : Nat) (n m : Nd), ns[i]? = some n → bulk (ns.set i m) + n.log.length = bulk ns + m.log.length
  | [], i, n, m, h => by simp at h
  | x :: ns, 0, n, m, h => by simp at h; subst h; simp [bulk]; omega
  | x :: ns, i + 1, n, m, h => by
    have := bulk_set ns i n m (by simpa using h)
    simp only [List.set_cons_succ, bulk]
    omega

/-! ### Telling -/
/-- May node k be told? x is it, y the one behind it. -/
def TellAt (v : Int) (ns : List Nd) (at_ : Int) (k : Nat) (x y : Nd) : Prop := ChOk v ns ∧ at_ = k ∧ ns[k]? = some x ∧ ns[k + 1]? = some y ∧ x.done ≠ y.done
def TellRes (v : Int) (ns : List Nd) (at_ : Int) (rv : Int) (rl : List Nd) (rb : Bool) : Prop :=
  (∃ k x y, TellAt v ns at_ k x y ∧ rv = v ∧ rl = ns.set k ⟨x.id, x.log, y.done⟩ ∧ rb = true) ∨ ((¬ ∃ k x y, TellAt v ns at_ k x y) ∧ rv = 0 ∧ rl = [] ∧ rb = false)
theorem tellRes_ex (v : Int) (ns : List Nd) (at_ : Int) : ∃ rv rl rb, TellRes v ns at_ rv rl rb := by
  by_cases h : ∃ k x y, TellAt v ns at_ k x y
  · obtain ⟨k, x, y, h⟩ := h
    exact ⟨_, _, _, .inl ⟨k, x, y, h, rfl, rfl, rfl⟩⟩
  · exact ⟨_, _, _, .inr ⟨h, rfl, rfl, rfl⟩⟩
theorem tellRes_bulk {v at_ rv : Int} {ns rl : List Nd} {rb : Bool} (h : TellRes v ns at_ rv rl rb) : bulk rl ≤ bulk ns := by
  rcases h with ⟨k, x, y, h, -, rfl, -⟩ | ⟨-, -, rfl, -⟩
  · have := bulk_set ns k x ⟨x.id, x.log, y.done⟩ h.2.2.1
    simp only at this
    omega
  · simp [bulk]
theorem tellAt_ok {v at_ : Int} {ns : List Nd} {k : Nat} {x y : Nd} (h : TellAt v ns at_ k x y) : ChOk v (ns.set k ⟨x.id, x.log, y.done⟩) ∧ x.done < y.done := by
  obtain ⟨hok, -, hx, hy, hne⟩ := h
  obtain ⟨h1, h2⟩ := hok.nextAt hx hy
  obtain ⟨⟨a1, a2⟩, a3, a4, a5, a6⟩ := ndOk_all (hok.at_ hx)
  obtain ⟨⟨b1, b2⟩, b3, b4, b5, b6⟩ := ndOk_all (hok.at_ hy)
  have hl := begins_len h1
  refine ⟨hok.set hx rfl (ndOk_mk a1 a2 a3 (by omega) (by omega)) (fun p h0 hp => ?_) (fun p hp => ?_) (fun e => ?_), by omega⟩
  · have := hok.nextAt (i := k - 1) hp (by rw [show k - 1 + 1 = k by omega]; exact hx)
    exact ⟨this.1, by have := this.2; show p.done ≤ y.done; omega⟩
  · rw [hy] at hp
    cases hp
    exact ⟨h1, Int.le_refl _⟩
  · have := getElem_some hy
    omega
/-- Told twice: nothing is left to be told. -/
theorem tellAt_twice {v at_ : Int} {ns : List Nd} {k : Nat} {x y : Nd} (h : TellAt v ns at_ k x y) : ¬ ∃ k' x' y', TellAt v (ns.set k ⟨x.id, x.log, y.done⟩) at_ k' x' y' := by
  rintro ⟨k', x', y', -, h1, h2, h3, h4⟩
  obtain ⟨hok, hk, hx, hy, -⟩ := h
  have e : k' = k := by omega
  subst e
  rw [set_at hx] at h2
  rw [set_off (by omega), hy] at h3
  cases h2
  cases h3
  exact h4 rfl

/-! ### Passing -/
/-- May node k pass? x is it, y the one behind it. -/
def PassAt (v : Int) (ns : List Nd) (at_ : Int) (k : Nat) (x y : Nd) : Prop := ChOk v ns ∧ at_ = k ∧ ns[k]? = some x ∧ ns[k + 1]? = some y ∧ x.log.length ≠ y.log.length
/-- A node that has taken one update more; the last one knows it to be everywhere. -/
def passed (ns : List Nd) (k : Nat) (y : Nd) (u : Upd) : Nd := ⟨y.id, y.log ++ [u], if k + 2 = ns.length then ((y.log.length + 1 : Nat) : Int) else y.done⟩
def PassRes (v : Int) (ns : List Nd) (at_ : Int) (rv : Int) (rl : List Nd) (rb : Bool) : Prop :=
  (∃ k x y u, PassAt v ns at_ k x y ∧ x.log[y.log.length]? = some u ∧ rv = v ∧ rl = ns.set (k + 1) (passed ns k y u) ∧ rb = true) ∨ ((¬ ∃ k x y, PassAt v ns at_ k x y) ∧ rv = 0 ∧ rl = [] ∧ rb = false)
theorem passAt_lt {v at_ : Int} {ns : List Nd} {k : Nat} {x y : Nd} (h : PassAt v ns at_ k x y) : y.log.length < x.log.length ∧ x.log.length ≤ 12 ∧ x.log.take y.log.length = y.log := by
  obtain ⟨hok, -, hx, hy, hne⟩ := h
  have h1 := (hok.nextAt hx hy).1
  have h2 := begins_len h1
  exact ⟨by omega, (ndOk_all (hok.at_ hx)).2.2.1, begins_pre h1⟩
theorem passRes_ex (v : Int) (ns : List Nd) (at_ : Int) : ∃ rv rl rb, PassRes v ns at_ rv rl rb := by
  by_cases h : ∃ k x y, PassAt v ns at_ k x y
  · obtain ⟨k, x, y, h⟩ := h
    exact ⟨_, _, _, .inl ⟨k, x, y, _, h, List.getElem?_eq_getElem (passAt_lt h).1, rfl, rfl, rfl⟩⟩
  · exact ⟨_, _, _, .inr ⟨h, rfl, rfl, rfl⟩⟩
theorem passRes_bulk {v at_ rv : Int} {ns rl : List Nd} {rb : Bool} (h : PassRes v ns at_ rv rl rb) : bulk rl ≤ bulk ns + 1 := by
  rcases h with ⟨k, x, y, u, h, -, -, rfl, -⟩ | ⟨-, -, rfl, -⟩
  · have := bulk_set ns (k + 1) y (passed ns k y u) h.2.2.2.1
    simp only [passed, List.length_append, List.length_singleton] at this
    unfold passed
    omega
  · simp [bulk]
theorem begins_snoc {a b : List Upd} {u : Upd} (h : begins a b = true) (hu : b[a.length]? = some u) : begins (a ++ [u]) b = true ∧ logOk (a ++ [u]) = true := by
  obtain ⟨h1, h2, -⟩ := begins_ok h
  have h3 := begins_pre h
  have hl := getElem_some hu
  have e : b.take (a ++ [u]).length = a ++ [u] := by
    rw [List.length_append, List.length_singleton, List.take_succ_eq_append_getElem hl, h3]
    congr 2
    rw [List.getElem?_eq_getElem hl] at hu
    exact Option.some.inj hu
  have hb12 : b.length ≤ 12 := by
    unfold logOk at h2
    simp at h2
    exact h2.1
  have hk : logOk (a ++ [u]) = true := by
    refine logOk_snoc h1 ?_ (by omega)
    rw [List.getElem?_eq_getElem hl] at hu
    rw [← Option.some.inj hu]
    exact logOk_at h2 hl
  exact ⟨begins_of hk h2 e, hk⟩
theorem begins_more {a b : List Upd} {u : Upd} (h : begins a b = true) (hk : logOk (b ++ [u]) = true) : begins a (b ++ [u]) = true := by
  refine begins_of (begins_ok h).1 hk ?_
  have h3 := begins_pre h
  rw [List.take_append_of_le_length (begins_len h), h3]
theorem passAt_ok {v at_ : Int} {ns : List Nd} {k : Nat} {x y : Nd} {u : Upd} (h : PassAt v ns at_ k x y) (hu : x.log[y.log.length]? = some u) : ChOk v (ns.set (k + 1) (passed ns k y u)) := by
  have hlt := passAt_lt h
  obtain ⟨hok, -, hx, hy, hne⟩ := h
  obtain ⟨h1, h2⟩ := hok.nextAt hx hy
  obtain ⟨⟨a1, a2⟩, a3, a4, a5, a6⟩ := ndOk_all (hok.at_ hx)
  obtain ⟨⟨b1, b2⟩, b3, b4, b5, b6⟩ := ndOk_all (hok.at_ hy)
  obtain ⟨s1, s2⟩ := begins_snoc h1 hu
  have hd : 0 ≤ (passed ns k y u).done ∧ (passed ns k y u).done ≤ ((y.log ++ [u]).length : Nat) ∧ y.done ≤ (passed ns k y u).done := by
    unfold passed
    simp only [List.length_append, List.length_singleton]
    split <;> omega
  refine hok.set hy rfl (ndOk_mk b1 b2 s2 hd.1 hd.2.1) (fun p h0 hp => ?_) (fun p hp => ?_) (fun e => ?_)
  · rw [show k + 1 - 1 = k by omega, hx] at hp
    cases hp
    exact ⟨s1, by omega⟩
  · have f := hok.nextAt hy hp
    refine ⟨begins_more f.1 s2, ?_⟩
    have := getElem_some hp
    unfold passed
    rw [if_neg (by omega)]
    exact f.2
  · unfold passed
    rw [if_pos (by omega)]
    simp

/-! ### Writing -/
def WriteAt (v : Int) (ns : List Nd) (u : Upd) (x : Nd) : Prop := ChOk v ns ∧ ns[0]? = some x ∧ updOk u = true ∧ x.log.length < 12
def written (ns : List Nd) (x : Nd) (u : Upd) : Nd := ⟨x.id, x.log ++ [u], if ns.length = 1 then ((x.log.length + 1 : Nat) : Int) else x.done⟩
def WriteRes (v : Int) (ns : List Nd) (u : Upd) (rv : Int) (rl : List Nd) (rb : Bool) : Prop :=
  (∃ x, WriteAt v ns u x ∧ rv = v ∧ rl = ns.set 0 (written ns x u) ∧ rb = true) ∨ ((¬ ∃ x, WriteAt v ns u x) ∧ rv = 0 ∧ rl = [] ∧ rb = false)
theorem writeRes_ex (v : Int) (ns : List Nd) (u : Upd) : ∃ rv rl rb, WriteRes v ns u rv rl rb := by
  by_cases h : ∃ x, WriteAt v ns u x
  · obtain ⟨x, h⟩ := h
    exact ⟨_, _, _, .inl ⟨x, h, rfl, rfl, rfl⟩⟩
  · exact ⟨_, _, _, .inr ⟨h, rfl, rfl, rfl⟩⟩
theorem writeRes_bulk {v rv : Int} {ns rl : List Nd} {u : Upd} {rb : Bool} (h : WriteRes v ns u rv rl rb) : bulk rl ≤ bulk ns + 1 := by
  rcases h with ⟨x, h, -, rfl, -⟩ | ⟨-, -, rfl, -⟩
  · have := bulk_set ns 0 x (written ns x u) h.2.1
    simp only [written, List.length_append, List.length_singleton] at this
    unfold written
    omega
  · simp [bulk]
theorem writeAt_ok {v : Int} {ns : List Nd} {u : Upd} {x : Nd} (h : WriteAt v ns u x) : ChOk v (ns.set 0 (written ns x u)) := by
  obtain ⟨hok, hx, hu, hl⟩ := h
  obtain ⟨⟨a1, a2⟩, a3, a4, a5, a6⟩ := ndOk_all (hok.at_ hx)
  have s2 := logOk_snoc a3 hu hl
  have hd : 0 ≤ (written ns x u).done ∧ (written ns x u).done ≤ ((x.log ++ [u]).length : Nat) ∧ x.done ≤ (written ns x u).done := by
    unfold written
    simp only [List.length_append, List.length_singleton]
    split <;> omega
  refine hok.set hx rfl (ndOk_mk a1 a2 s2 hd.1 hd.2.1) (fun p h0 hp => absurd h0 (Nat.lt_irrefl _)) (fun p hp => ?_) (fun e => ?_)
  · have f := hok.nextAt hx hp
    refine ⟨begins_more f.1 s2, ?_⟩
    have := getElem_some hp
    unfold written
    rw [if_neg (by omega)]
    exact f.2
  · unfold written
    rw [if_pos (by omega)]
    simp
end Go.Proofs.Ytjheeeilcfbdbaa
