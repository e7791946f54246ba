/-
  Nodes of the call's own, one of them turned; marks laid into chains, and read again.
-/
import Derived.Test.YtciekjplhbimdaaZCExact
set_option linter.all false
set_option maxRecDepth 100000
namespace Go.Proofs.YtciekjplhbimdaaZ
open Go.RowKit
attribute [local go_sem ↓] Go.wp_at_zero Go.wp_at_succ

theorem own_types {w : World} {base base' : Nat} {e e' : TypeId} {size size' n n' : Nat} {v v' : Value} {xs xs' : List Value} (h : w.ownsRow base e size v n xs) (h' : w.ownsRow base' e' size' v' n' xs') (he : e ≠ e') :
    v.ownBlock = none ∨ v.ownBlock ≠ v'.ownBlock := by
  rcases h.2 with ⟨rfl, _⟩ | ⟨g, cap, cur, rfl, _, hg, _⟩
  · exact .inl rfl
  · rcases h'.2 with ⟨rfl, _⟩ | ⟨g', cap', cur', rfl, _, hg', _⟩
    · exact .inr (by simp [Value.ownBlock])
    · refine .inr fun e1 => ?_
      simp [Value.ownBlock] at e1
      subst e1
      rw [hg] at hg'
      injection hg' with hg'
      injection hg' with _ h2
      exact he h2
theorem blk_types {w : World} {base : Nat} {e t : TypeId} {size n g : Nat} {v : Value} {xs : List Value} {cs : Array Value} (hb : Blk w g t cs) (h : w.ownsRow base e size v n xs) (he : t ≠ e) : some g ≠ v.ownBlock := by
  intro e1
  rcases h.2 with ⟨rfl, _⟩ | ⟨g', cap, cur, rfl, _, hg, _⟩
  · simp [Value.ownBlock] at e1
  · simp [Value.ownBlock] at e1
    subst e1
    unfold Blk at hb
    rw [hg] at hb
    injection hb with hb
    injection hb with _ h2
    exact he h2.symm

theorem ncells_id : ∀ (ns : List Nd) (ss : List Sl) (i : Nat) (n : Nd) (x : Int), ns[i]? = some n → (ncells ns ss).set (i * 3) (.int .i64 x) = ncells (ns.set i ⟨x, n.log, n.done⟩) ss
  | [], ss, i, n, x, h => by simp at h
  | m :: ns, [], i, n, x, h => by cases i <;> simp [ncells]
  | m :: ns, b :: ss, 0, n, x, h => by simp at h; subst h; simp [ncells]
  | m :: ns, b :: ss, i + 1, n, x, h => by
    have e : (i + 1) * 3 = i * 3 + 1 + 1 + 1 := by omega
    rw [e]
    simpa [ncells] using ncells_id ns ss i n x (by simpa using h)
theorem ncells_done : ∀ (ns : List Nd) (ss : List Sl) (i : Nat) (n : Nd) (x : Int), ns[i]? = some n → (ncells ns ss).set (i * 3 + 2) (.int .i64 x) = ncells (ns.set i ⟨n.id, n.log, x⟩) ss
  | [], ss, i, n, x, h => by simp at h
  | m :: ns, [], i, n, x, h => by cases i <;> simp [ncells]
  | m :: ns, b :: ss, 0, n, x, h => by simp at h; subst h; simp [ncells]
  | m :: ns, b :: ss, i + 1, n, x, h => by
    have e : (i + 1) * 3 + 2 = (i * 3 + 2) + 1 + 1 + 1 := by omega
    rw [e]
    simpa [ncells] using ncells_done ns ss i n x (by simpa using h)
theorem ncells_log : ∀ (ns : List Nd) (ss : List Sl) (i : Nat) (n : Nd) (a : Sl) (l : List Upd), ns[i]? = some n → (ncells ns ss).set (i * 3 + 1) (.slice a.1 l.length a.2) = ncells (ns.set i ⟨n.id, l, n.done⟩) (ss.set i a)
  | [], ss, i, n, a, l, h => by simp at h
  | m :: ns, [], i, n, a, l, h => by cases i <;> simp [ncells]
  | m :: ns, b :: ss, 0, n, a, l, h => by simp at h; subst h; simp [ncells]
  | m :: ns, b :: ss, i + 1, n, a, l, h => by
    have e : (i + 1) * 3 + 1 = (i * 3 + 1) + 1 + 1 + 1 := by omega
    rw [e]
    simpa [ncells] using ncells_log ns ss i n a l (by simpa using h)
theorem ncells_same : ∀ (ns : List Nd) (ss : List Sl) (i : Nat) (n : Nd) (l : List Upd), ns[i]? = some n → l.length = n.log.length → ncells ns ss = ncells (ns.set i ⟨n.id, l, n.done⟩) ss
  | [], ss, i, n, l, h, _ => by simp at h
  | m :: ns, [], i, n, l, h, _ => by cases i <;> simp [ncells]
  | m :: ns, b :: ss, 0, n, l, h, hl => by simp at h; subst h; simp [ncells, hl]
  | m :: ns, b :: ss, i + 1, n, l, h, hl => by simpa [ncells] using ncells_same ns ss i n l (by simpa using h) hl

theorem typesNU : 36 ≠ 39 := by decide
section
variable {w w' : World} {lo hi c i : Nat} {A : Option Addr} {ns : List Nd}
/-- The row of nodes lies in a block. -/
theorem NodesOwn.addr (h : NodesOwn w lo hi A c ns) (hn : 0 < ns.length) : ∃ g, A = some ⟨g, 0, none⟩ ∧ lo ≤ g ∧ g < hi ∧ g < w.heap.size := by
  obtain ⟨ss, h1, h2, h3, h4⟩ := h
  obtain ⟨g, c', hv, hg, hgl, -, -⟩ := own_at h2.1 hn
  injection hv with hA
  subst hA
  exact ⟨g, rfl, hg, h2.2 g rfl, hgl⟩
theorem NodesOwn.cellsAt {g : Nat} (h : NodesOwn w lo hi (some ⟨g, 0, none⟩) c ns) {j : Nat} (hj : j < ns.length * 3) : (∃ u, w.cell? ⟨g, j, none⟩ = some u) ∧ w.frozen? ⟨g, j, none⟩ = false := by
  obtain ⟨ss, h1, h2, h3, h4⟩ := h
  have hl := h2.1.1
  exact ⟨⟨_, (h2.1.cellAt j hj).trans (List.getElem?_eq_getElem (by omega))⟩, h2.1.frozenAt j⟩
/-- Another cell of the row of nodes, the logs as they were. -/
theorem NodesOwn.cell {g j : Nat} {ms : List Nd} (u : Value) (h : NodesOwn w lo hi (some ⟨g, 0, none⟩) c ns) (hl : ms.length = ns.length) (hc : ∀ ss : List Sl, (ncells ns ss).set j u = ncells ms ss) (hlog : ∀ (i : Nat) (m : Nd), ms[i]? = some m → ∃ n, ns[i]? = some n ∧ n.log = m.log) :
    NodesOwn (w.setCell ⟨g, j, none⟩ u) lo hi (some ⟨g, 0, none⟩) c ms := by
  obtain ⟨ss, h1, h2, h3, h4⟩ := h
  refine ⟨ss, by omega, ⟨?_, h2.2⟩, fun i a m ha hm => ?_, h4⟩
  · have := (h2.1.stored j u).1
    rw [hc ss] at this
    rw [hl]
    exact this
  · obtain ⟨n, hn, e⟩ := hlog i m hm
    have h5 := h3 i a n ha hn
    rw [e] at h5
    refine ⟨World.ownsRow.kept h5.1 (h2.1.stored j u).2 ?_, h5.2⟩
    exact own_types h5.1 h2.1 typesNU.symm
theorem NodesOwn.setId {g : Nat} {x y j : Int} {l : List Upd} (h : NodesOwn w lo hi (some ⟨g, 0, none⟩) c ns) (hn : ns[i]? = some ⟨x, l, j⟩) : NodesOwn (w.setCell ⟨g, i * 3, none⟩ (.int .i64 y)) lo hi (some ⟨g, 0, none⟩) c (ns.set i ⟨y, l, j⟩) :=
  h.cell _ (by simp) (fun ss => ncells_id ns ss i _ y hn) (fun k m hm => by
    rw [List.getElem?_set] at hm
    split at hm
    · rename_i e; subst e
      split at hm
      · cases hm; exact ⟨_, hn, rfl⟩
      · cases hm
    · exact ⟨m, hm, rfl⟩)
theorem NodesOwn.setDone {g : Nat} {x y j : Int} {l : List Upd} (h : NodesOwn w lo hi (some ⟨g, 0, none⟩) c ns) (hn : ns[i]? = some ⟨x, l, j⟩) : NodesOwn (w.setCell ⟨g, i * 3 + 2, none⟩ (.int .i64 y)) lo hi (some ⟨g, 0, none⟩) c (ns.set i ⟨x, l, y⟩) :=
  h.cell _ (by simp) (fun ss => ncells_done ns ss i _ y hn) (fun k m hm => by
    rw [List.getElem?_set] at hm
    split at hm
    · rename_i e; subst e
      split at hm
      · cases hm; exact ⟨_, hn, rfl⟩
      · cases hm
    · exact ⟨m, hm, rfl⟩)
/-- The log of a node, as a log of the call's own. -/
theorem NodesOwn.log (h : NodesOwn w lo hi A c ns) {x j : Int} {l : List Upd} (hn : ns[i]? = some ⟨x, l, j⟩) : ∃ B d, LogIn w lo hi B d l ∧ l.length ≤ d ∧ d ≤ maxLen ∧
    (∀ b o, A = some ⟨b, o, none⟩ → w.cell? ⟨b, o + i * 3 + 1, none⟩ = some (.slice B l.length d)) ∧
    ∀ (w' : World) (l' : List Upd), l'.length = l.length → LogIn w' lo hi B d l' → w.grownBy w' (Value.slice B l.length d).ownBlock → NodesOwn w' lo hi A c (ns.set i ⟨x, l', j⟩) := by
  obtain ⟨ss, h1, h2, h3, h4⟩ := h
  have hi' := (List.getElem?_eq_some_iff.1 hn).1
  have ha : ss[i]? = some (ss[i]'(by omega)) := List.getElem?_eq_getElem (by omega)
  obtain ⟨⟨B, d⟩, e⟩ : ∃ a : Sl, ss[i]'(by omega) = a := ⟨_, rfl⟩
  rw [e] at ha
  have hL := h3 i _ _ ha hn
  obtain ⟨g1, g2⟩ := OwnU.cap (w := w) (base := lo) (l := l) hL.1
  refine ⟨B, d, hL, g1, g2, fun b o eA => ?_, fun w' l' hl hL' hg => ?_⟩
  · obtain ⟨b', o', hA, hc⟩ := CellsR.of_own h2.1 (by rw [ncells_len _ _ h1]; omega)
    rw [eA] at hA
    cases hA
    have := hc _ _ (ncells_at ns ss i _ _ hn ha).2.1
    rw [Nat.add_assoc]
    exact this
  · refine ⟨ss, by simp [h1], ⟨?_, fun g hg2 => h2.2 g (by cases A <;> exact hg2)⟩, fun k a m hka hkm => ?_, h4⟩
    · rw [List.length_set, ← ncells_same ns ss i _ l' hn hl]
      exact h2.1.kept hg (own_types h2.1 hL.1 typesNU)
    · rw [List.getElem?_set] at hkm
      split at hkm
      · rename_i e2
        subst e2
        cases hkm
        rw [ha] at hka
        cases hka
        exact hL'
      · rename_i hne
        have h5 := h3 k a m hka hkm
        refine ⟨World.ownsRow.kept h5.1 hg ?_, h5.2⟩
        rw [blk_own a, blk_own (B, d)]
        rcases hb : blk a with _ | ga
        · exact .inl rfl
        · refine .inr fun e3 => ?_
          rcases Nat.lt_or_gt_of_ne hne with hlt | hgt
          · exact h4 i k _ a hlt ha hka ga e3.symm hb
          · exact h4 k i a _ hgt hka ha ga hb e3.symm
end

/-! ### Marks -/
def marksN (k : Int) : List Nd → List Nd
  | [] => []
  | n :: ns => ⟨k, marksU (k + 1) n.log.length, k + 1 + 2 * n.log.length⟩ :: marksN (k + 2 + 2 * n.log.length) ns
theorem marksN_len : ∀ (k : Int) (ns : List Nd), (marksN k ns).length = ns.length
  | k, [] => rfl
  | k, n :: ns => by simp [marksN, marksN_len]
theorem marksN_at : ∀ (ns : List Nd) (k : Int) (i : Nat) (n : Nd), ns[i]? = some n → (marksN k ns)[i]? = some ⟨k + 2 * bulk (ns.take i), marksU (k + 2 * bulk (ns.take i) + 1) n.log.length, k + 2 * bulk (ns.take i) + 1 + 2 * n.log.length⟩
  | [], k, i, n, h => by simp at h
  | m :: ns, k, 0, n, h => by simp at h; subst h; simp [marksN, bulk]
  | m :: ns, k, i + 1, n, h => by
    have := marksN_at ns (k + 2 + 2 * m.log.length) i n (by simpa using h)
    simp only [marksN, List.getElem?_cons_succ, List.take_succ_cons, bulk]
    rw [this]
    have e : k + 2 + 2 * (m.log.length : Int) + 2 * (bulk (ns.take i) : Int) = k + 2 * ((1 + m.log.length + bulk (ns.take i) : Nat) : Int) := by omega
    rw [e]
/-- The first j nodes are marked. -/
def markedTo (k : Int) (ns : List Nd) (j : Nat) : List Nd := (marksN k ns).take j ++ ns.drop j
theorem markedTo_len (k : Int) (ns : List Nd) (j : Nat) (hj : j ≤ ns.length) : (markedTo k ns j).length = ns.length := by
  simp [markedTo, marksN_len]; omega
theorem markedTo_at {k : Int} {ns : List Nd} {j : Nat} (hj : j < ns.length) : (markedTo k ns j)[j]? = ns[j]? := by
  unfold markedTo
  rw [List.getElem?_append_right (by simp [marksN_len]; omega)]
  simp [marksN_len, Nat.min_eq_left (Nat.le_of_lt hj)]
theorem markedTo_succ {k : Int} {ns : List Nd} {j : Nat} {n : Nd} (hn : ns[j]? = some n) :
    (markedTo k ns j).set j ⟨k + 2 * bulk (ns.take j), marksU (k + 2 * bulk (ns.take j) + 1) n.log.length, k + 2 * bulk (ns.take j) + 1 + 2 * n.log.length⟩ = markedTo k ns (j + 1) := by
  obtain ⟨hj, e⟩ := List.getElem?_eq_some_iff.1 hn
  have hm := marksN_at ns k j n hn
  obtain ⟨hj', e'⟩ := List.getElem?_eq_some_iff.1 hm
  have hl : ((marksN k ns).take j).length = j := by simp [marksN_len]; omega
  unfold markedTo
  rw [List.set_append_right _ _ (by omega), hl, Nat.sub_self, List.drop_eq_getElem_cons hj, List.set_cons_zero, List.take_succ_eq_append_getElem hj', e']
  simp
theorem markedTo_zero (k : Int) (ns : List Nd) : markedTo k ns 0 = ns := by simp [markedTo]
theorem markedTo_all (k : Int) (ns : List Nd) : markedTo k ns ns.length = marksN k ns := by
  unfold markedTo
  rw [List.take_of_length_le (by rw [marksN_len]; omega)]
  simp
end Go.Proofs.YtciekjplhbimdaaZ
