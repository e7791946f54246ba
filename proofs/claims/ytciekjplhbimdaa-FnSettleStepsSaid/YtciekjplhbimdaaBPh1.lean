/-
  Words and contracts, joined: PhA, PhB, PhC, PhD, PhE, PhF, PhG, PhH, PhI, PhJ, PhK.
-/
import Derived.Conc.Beside
import Derived.Conc.CrowdTrace
import Derived.Conc.FxEnd
import Derived.Conc.WrWorld
import Derived.Conc.CrowdComm
import Derived.Conc.CrowdInv
/-
  The trace of a phase: goroutine 0 starts two workers, K and K + 1, that talk over a channel and are joined by a group; beside goroutines that only leave.
-/
set_option linter.all false
set_option maxRecDepth 100000
namespace Go.Proofs.Ph
open Go Go.Conc
open Go.ConcN (fork_knows RelBy)

/-- Where the group's cells lie. -/
def OfW (Wg : Nat) (l : Loc) : Prop := ∃ x : Addr, l = .cell x ∧ x.block = Wg

/-- What is known of a touch of memory. -/
inductive Cls (Shun : Loc → Prop) (Wg : Nat) (Ro : Loc → Prop) (K j : Nat) (t : Trace) (i : Nat) (a : Touch) : Prop
  | shun : Shun a.loc → a.kind = .atomic → Cls Shun Wg Ro K j t i a
  | known : Knows t 0 i → (1 ≤ j → Knows t K i) → (2 ≤ j → Knows t (K + 1) i) → Cls Shun Wg Ro K j t i a
  | zero : t.g? i = some 0 → OfW Wg a.loc → a.kind ≠ .plain → Cls Shun Wg Ro K j t i a
  | wk {g : Nat} : 1 ≤ j → g ≠ 0 → OfW Wg a.loc → a.kind = .atomic → t.g? i = some g → Cls Shun Wg Ro K j t i a
  | a : 1 ≤ j → t.g? i = some K → t.counts i → (Ro a.loc ∨ ∃ r, a.loc = .obj r) → a.write = false → Cls Shun Wg Ro K j t i a
  | b : 2 ≤ j → t.g? i = some (K + 1) → t.counts i → ¬ Shun a.loc → ¬ OfW Wg a.loc → (Ro a.loc ∨ (∃ r, a.loc = .obj r) → a.write = false) → Cls Shun Wg Ro K j t i a

structure PT (Shun : Loc → Prop) (Wg : Nat) (Ro : Loc → Prop) (B K j : Nat) (t : Trace) : Prop where
  clean : ∀ said, ¬ Race said t
  seen : ∀ op ∈ t, op.act.low B
  kinds : ∀ i a, touchAt t i = some a → a.loc.isMemory = true → Cls Shun Wg Ro K j t i a
  old : ∀ i g, t.g? i = some g → g ≠ 0 → ¬ (g = K ∧ 1 ≤ j) → ¬ (g = K + 1 ∧ 2 ≤ j) → t.counts i → ∃ q, t.g? q = some 0 ∧ HappensBefore t i q

/-- The places lie apart. -/
structure Apt (Shun : Loc → Prop) (Wg : Nat) (Ro : Loc → Prop) : Prop where
  wg : ∀ l, OfW Wg l → ¬ Shun l
  ro : ∀ l, Ro l → ¬ Shun l ∧ ¬ OfW Wg l
  cell : ∀ l, Shun l → ∃ a, l = .cell a

section
variable {Shun : Loc → Prop} {Wg : Nat} {Ro : Loc → Prop} {B K j : Nat} {t u : Trace} {i : Nat} {a : Touch}

theorem g?_of {op : MemOp} (h : t[i]? = some op) : t.g? i = some op.g := by simp [Trace.g?, h]
theorem lt_of_g {g : Nat} (h : t.g? i = some g) : i < t.size := by
  obtain ⟨z, hz, _⟩ := Option.map_eq_some_iff.1 h
  exact lt_size_of_getElem? hz
theorem lt_of_counts (h : t.counts i) : i < t.size := by
  obtain ⟨x, hx, _⟩ := h
  obtain ⟨op, hop, _⟩ := touch_of hx
  exact lt_size_of_getElem? hop
theorem Cls.app (u : Trace) (h : Cls Shun Wg Ro K j t i a) : Cls Shun Wg Ro K j (t ++ u) i a := by
  cases h with
  | shun h1 h2 => exact .shun h1 h2
  | known h1 h2 h3 => exact .known (h1.app u) (fun h => (h2 h).app u) (fun h => (h3 h).app u)
  | zero h1 h2 h3 => exact .zero (by rw [g?_old (lt_of_g h1)]; exact h1) h2 h3
  | wk h0 h1 h2 h3 h4 => exact .wk h0 h1 h2 h3 (by rw [g?_old (lt_of_g h4)]; exact h4)
  | a h1 h2 h3 h4 h5 => exact .a h1 (by rw [g?_old (lt_of_g h2)]; exact h2) ((counts_old (lt_of_g h2)).2 h3) h4 h5
  | b h1 h2 h3 h4 h5 h6 => exact .b h1 (by rw [g?_old (lt_of_g h2)]; exact h2) ((counts_old (lt_of_g h2)).2 h3) h4 h5 h6

/-- Kinds of an appended trace: of the old part as before; of the new as told. -/
theorem kinds_app (h : ∀ i a, touchAt t i = some a → a.loc.isMemory = true → Cls Shun Wg Ro K j t i a)
    (hu : ∀ k op a, u[k]? = some op → op.act.touch? = some a → a.loc.isMemory = true → Cls Shun Wg Ro K j (t ++ u) (t.size + k) a) :
    ∀ i a, touchAt (t ++ u) i = some a → a.loc.isMemory = true → Cls Shun Wg Ro K j (t ++ u) i a := by
  intro i a ha hm
  rcases Nat.lt_or_ge i t.size with hlt | hge
  · rw [touchAt_old hlt] at ha
    exact (h i a ha hm).app u
  · obtain ⟨x, hx, hxa⟩ := touch_of ha
    obtain ⟨k, rfl⟩ : ∃ k, i = t.size + k := ⟨i - t.size, by omega⟩
    rw [Array.getElem?_append_right (by omega), show t.size + k - t.size = k by omega] at hx
    exact hu k x a hx hxa hm
theorem old_app (h : ∀ i g, t.g? i = some g → g ≠ 0 → ¬ (g = K ∧ 1 ≤ j) → ¬ (g = K + 1 ∧ 2 ≤ j) → t.counts i → ∃ q, t.g? q = some 0 ∧ HappensBefore t i q)
    (hu : ∀ op ∈ u, op.g = 0 ∨ (op.g = K ∧ 1 ≤ j) ∨ (op.g = K + 1 ∧ 2 ≤ j) ∨ op.act.touch? = none) :
    ∀ i g, (t ++ u).g? i = some g → g ≠ 0 → ¬ (g = K ∧ 1 ≤ j) → ¬ (g = K + 1 ∧ 2 ≤ j) → (t ++ u).counts i → ∃ q, (t ++ u).g? q = some 0 ∧ HappensBefore (t ++ u) i q := by
  intro i g hg h0 hK hK1 hc
  rcases Nat.lt_or_ge i t.size with hlt | hge
  · rw [g?_old hlt] at hg
    rw [counts_old hlt] at hc
    obtain ⟨q, h1, h2⟩ := h i g hg h0 hK hK1 hc
    exact ⟨q, by rw [g?_old (lt_of_g h1)]; exact h1, hb_app u h2⟩
  · exfalso
    obtain ⟨x, hx, _⟩ := hc
    obtain ⟨op, hop, hox⟩ := touch_of hx
    have hg2 : op.g = g := by
      have := g?_of hop
      rw [this] at hg
      exact Option.some.inj hg
    have hmem : op ∈ u := by
      rcases getElem?_append_cases hop with ⟨hlt, _⟩ | ⟨_, hm⟩
      · omega
      · exact hm
    rcases hu op hmem with h | h | h | h
    · exact h0 (hg2 ▸ h)
    · exact hK (hg2 ▸ h)
    · exact hK1 (hg2 ▸ h)
    · rw [h] at hox; cases hox

/-- Words that touch nothing, whoever says them. -/
theorem PT.mute (h : PT Shun Wg Ro B K j t) {g : Nat} (hg : ∀ op ∈ u, op.g = g) (hn : ∀ op ∈ u, op.act.touch? = none) (hl : ∀ op ∈ u, op.act.low B) : PT Shun Wg Ro B K j (t ++ u) :=
  ⟨fun said => noRace_append (h.clean said) hg fun i a _ op hop b hb _ => (by rw [hn op hop] at hb; cases hb), seen_app h.seen hl,
    kinds_app h.kinds fun k op a hk ha _ => (by rw [hn op (Array.mem_of_getElem? hk)] at ha; cases ha), old_app h.old fun op hop => .inr (.inr (.inr (hn op hop)))⟩

/-- Ahead of the first go statement: goroutine 0's own. -/
theorem PT.alone (h : PT Shun Wg Ro B K 0 t) (hg : ∀ op ∈ u, op.g = 0) (hn : ∀ op ∈ u, ∀ b, op.act.touch? = some b → Shun b.loc → b.kind ≠ .plain) (hl : ∀ op ∈ u, op.act.low B) : PT Shun Wg Ro B K 0 (t ++ u) := by
  refine ⟨fun said => noRace_append (h.clean said) hg fun i a ha op hop b hb hc => ?_, seen_app h.seen hl, kinds_app h.kinds fun k op a hk ha hm => ?_, old_app h.old fun op hop => .inl (hg op hop)⟩
  · cases h.kinds i a ha hc.2.1 with
    | shun h1 h2 =>
      have hb' := hn op hop b hb (hc.1 ▸ h1)
      obtain ⟨_, _, _, hcase⟩ := hc
      rw [h2] at hcase
      rcases hcase with x | x | ⟨_, x, _⟩
      · cases x
      · exact absurd x hb'
      · cases x
    | known h1 _ _ => exact h1
    | zero h1 _ _ =>
      obtain ⟨op1, ho, hg1⟩ := Option.map_eq_some_iff.1 h1
      have := knows_own ho
      rwa [hg1] at this
    | wk h1 => omega
    | a h1 => omega
    | b h1 => omega
  · refine .known ?_ (fun h => by omega) (fun h => by omega)
    have hk' : (t ++ u)[t.size + k]? = some op := by rw [Array.getElem?_append_right (by omega), show t.size + k - t.size = k by omega]; exact hk
    have := knows_own hk'
    rwa [hg op (Array.mem_of_getElem? hk)] at this

theorem new_at {k : Nat} {op : MemOp} (hk : u[k]? = some op) : (t ++ u)[t.size + k]? = some op := by rw [Array.getElem?_append_right (by omega), show t.size + k - t.size = k by omega]; exact hk
theorem own_knows {g : Nat} (h : t.g? i = some g) : Knows t g i := by
  obtain ⟨op1, ho, hg1⟩ := Option.map_eq_some_iff.1 h
  have := knows_own ho
  rwa [hg1] at this
/-- Goroutine 0 looks after the group: never plainly. -/
theorem PT.zero (A : Apt Shun Wg Ro) (h : PT Shun Wg Ro B K j t) (hg : ∀ op ∈ u, op.g = 0) (hn : ∀ op ∈ u, ∀ b, op.act.touch? = some b → OfW Wg b.loc ∧ b.kind ≠ .plain) (hl : ∀ op ∈ u, op.act.low B) : PT Shun Wg Ro B K j (t ++ u) := by
  refine ⟨fun said => noRace_append (h.clean said) hg fun i a ha op hop b hb hc => ?_, seen_app h.seen hl, kinds_app h.kinds fun k op a hk ha hm => ?_, old_app h.old fun op hop => .inl (hg op hop)⟩
  · obtain ⟨hb1, hb2⟩ := hn op hop b hb
    obtain ⟨e, hm, _, hcase⟩ := hc
    rw [← e] at hb1
    cases h.kinds i a ha hm with
    | shun h1 h2 => exact absurd h1 (A.wg _ hb1)
    | known h1 _ _ => exact h1
    | zero h1 _ _ => exact own_knows h1
    | wk _ _ _ h3 _ =>
      rw [h3] at hcase
      rcases hcase with x | x | ⟨_, x, _⟩
      · cases x
      · exact absurd x hb2
      · cases x
    | a _ _ _ h4 _ =>
      rcases h4 with h4 | ⟨r, h4⟩
      · exact absurd hb1 (A.ro _ h4).2
      · obtain ⟨x, hx, _⟩ := hb1; rw [h4] at hx; cases hx
    | b _ _ _ _ h5 _ => exact absurd hb1 h5
  · obtain ⟨hb1, hb2⟩ := hn op (Array.mem_of_getElem? hk) a ha
    exact .zero (by rw [g?_of (new_at hk), hg op (Array.mem_of_getElem? hk)]) hb1 hb2
/-- A worker looks after the group: atomically. -/
theorem PT.work (A : Apt Shun Wg Ro) (h : PT Shun Wg Ro B K j t) (hK : 0 < K) {g : Nat} (hgj : (g = K ∧ 1 ≤ j) ∨ (g = K + 1 ∧ 2 ≤ j)) (hg : ∀ op ∈ u, op.g = g) (hn : ∀ op ∈ u, ∀ b, op.act.touch? = some b → OfW Wg b.loc ∧ b.kind = .atomic) (hl : ∀ op ∈ u, op.act.low B) :
    PT Shun Wg Ro B K j (t ++ u) := by
  refine ⟨fun said => noRace_append (h.clean said) hg fun i a ha op hop b hb hc => ?_, seen_app h.seen hl, kinds_app h.kinds fun k op a hk ha hm => ?_, old_app h.old fun op hop => ?_⟩
  · obtain ⟨hb1, hb2⟩ := hn op hop b hb
    obtain ⟨e, hm, _, hcase⟩ := hc
    rw [← e] at hb1
    cases h.kinds i a ha hm with
    | shun h1 h2 => exact absurd h1 (A.wg _ hb1)
    | known h1 h2 h3 =>
      rcases hgj with ⟨rfl, hj⟩ | ⟨rfl, hj⟩
      · exact h2 hj
      · exact h3 hj
    | zero h1 _ h3 =>
      rw [hb2] at hcase
      rcases hcase with x | x | ⟨_, _, x⟩
      · exact absurd x h3
      · cases x
      · cases x
    | wk _ _ _ h3 _ =>
      rw [h3, hb2] at hcase
      rcases hcase with x | x | ⟨_, x, _⟩ <;> cases x
    | a _ _ _ h4 _ =>
      rcases h4 with h4 | ⟨r, h4⟩
      · exact absurd hb1 (A.ro _ h4).2
      · obtain ⟨x, hx, _⟩ := hb1; rw [h4] at hx; cases hx
    | b _ _ _ _ h5 _ => exact absurd hb1 h5
  · obtain ⟨hb1, hb2⟩ := hn op (Array.mem_of_getElem? hk) a ha
    exact .wk (g := g) (by omega) (by omega) hb1 hb2 (by rw [g?_of (new_at hk), hg op (Array.mem_of_getElem? hk)])
  · rcases hgj with ⟨rfl, hj⟩ | ⟨rfl, hj⟩
    · exact .inr (.inl ⟨hg op hop, hj⟩)
    · exact .inr (.inr (.inl ⟨hg op hop, hj⟩))
/-- The first worker reads what nobody writes, and looks at the channel. -/
theorem PT.workA (A : Apt Shun Wg Ro) (h : PT Shun Wg Ro B K j t) (hj : 1 ≤ j) (hg : ∀ op ∈ u, op.g = K) (hn : ∀ op ∈ u, ∀ b, op.act.touch? = some b → (Ro b.loc ∨ ∃ r, b.loc = .obj r) ∧ b.write = false)
    (hc : ∀ k op a, u[k]? = some op → op.act.touch? = some a → a.loc.isMemory = true → (t ++ u).counts (t.size + k)) (hl : ∀ op ∈ u, op.act.low B) : PT Shun Wg Ro B K j (t ++ u) := by
  refine ⟨fun said => noRace_append (h.clean said) hg fun i a ha op hop b hb hc => ?_, seen_app h.seen hl, kinds_app h.kinds fun k op a hk ha hm => ?_, old_app h.old fun op hop => .inr (.inl ⟨hg op hop, hj⟩)⟩
  · obtain ⟨hb1, hb2⟩ := hn op hop b hb
    obtain ⟨e, hm, hw, hcase⟩ := hc
    rw [← e] at hb1
    have hnW : ¬ OfW Wg a.loc := by
      rcases hb1 with h4 | ⟨r, h4⟩
      · exact (A.ro _ h4).2
      · rintro ⟨x, hx, _⟩; rw [h4] at hx; cases hx
    cases h.kinds i a ha hm with
    | shun h1 h2 =>
      rcases hb1 with h4 | ⟨r, h4⟩
      · exact absurd h1 (A.ro _ h4).1
      · obtain ⟨x, hx⟩ := A.cell _ h1; rw [h4] at hx; cases hx
    | known h1 h2 h3 => exact h2 hj
    | zero h1 h2 h3 => exact absurd h2 hnW
    | wk _ _ h2 _ _ => exact absurd h2 hnW
    | a _ h2 _ _ _ => exact own_knows h2
    | b _ _ _ _ _ h6 =>
      have := h6 hb1
      rcases hw with x | x
      · rw [this] at x; cases x
      · rw [hb2] at x; cases x
  · obtain ⟨hb1, hb2⟩ := hn op (Array.mem_of_getElem? hk) a ha
    exact .a hj (by rw [g?_of (new_at hk), hg op (Array.mem_of_getElem? hk)]) (hc k op a hk ha hm) hb1 hb2
/-- The second worker touches what is neither the group's nor shunned; what nobody writes it reads. -/
theorem PT.workB (A : Apt Shun Wg Ro) (h : PT Shun Wg Ro B K j t) (hj : 2 ≤ j) (hg : ∀ op ∈ u, op.g = K + 1)
    (hn : ∀ op ∈ u, ∀ b, op.act.touch? = some b → b.loc.isMemory = true → ¬ Shun b.loc ∧ ¬ OfW Wg b.loc ∧ (Ro b.loc ∨ (∃ r, b.loc = .obj r) → b.write = false))
    (hc : ∀ k op a, u[k]? = some op → op.act.touch? = some a → a.loc.isMemory = true → (t ++ u).counts (t.size + k)) (hl : ∀ op ∈ u, op.act.low B) : PT Shun Wg Ro B K j (t ++ u) := by
  refine ⟨fun said => noRace_append (h.clean said) hg fun i a ha op hop b hb hc => ?_, seen_app h.seen hl, kinds_app h.kinds fun k op a hk ha hm => ?_, old_app h.old fun op hop => .inr (.inr (.inl ⟨hg op hop, hj⟩))⟩
  · obtain ⟨e, hm, hw, hcase⟩ := hc
    obtain ⟨hb1, hb2, hb3⟩ := hn op hop b hb (by rw [← e]; exact hm)
    rw [← e] at hb1 hb2 hb3
    cases h.kinds i a ha hm with
    | shun h1 h2 => exact absurd h1 hb1
    | known h1 h2 h3 => exact h3 hj
    | zero h1 h2 h3 => exact absurd h2 hb2
    | wk _ _ h2 _ _ => exact absurd h2 hb2
    | a _ h2 _ h4 h5 =>
      have := hb3 h4
      rcases hw with x | x
      · rw [h5] at x; cases x
      · rw [this] at x; cases x
    | b _ h2 _ _ _ _ => exact own_knows h2
  · obtain ⟨hb1, hb2, hb3⟩ := hn op (Array.mem_of_getElem? hk) a ha hm
    exact .b hj (by rw [g?_of (new_at hk), hg op (Array.mem_of_getElem? hk)]) (hc k op a hk ha hm) hb1 hb2 hb3
/-- Words of whoever, that touch nothing. -/
theorem PT.mutes : ∀ (l : List MemOp) {t : Trace}, PT Shun Wg Ro B K j t → (∀ op ∈ l, op.act.touch? = none ∧ op.act.low B) → PT Shun Wg Ro B K j (t ++ l.toArray)
  | [], t, h, _ => by simpa using h
  | x :: l, t, h, hl => by
    have e : t ++ (x :: l).toArray = (t ++ #[x]) ++ l.toArray := by simp
    rw [e]
    refine PT.mutes l (h.mute (g := x.g) (by simp) (fun op hop => ?_) (fun op hop => ?_)) fun op hop => hl op (by simp [hop])
    · obtain rfl : op = x := by simpa using hop
      exact (hl op (by simp)).1
    · obtain rfl : op = x := by simpa using hop
      exact (hl op (by simp)).2
/-- A go statement. -/
theorem PT.fork {j : Nat} (h : PT Shun Wg Ro B K j t) (hj : j ≤ 1) {x y : MemOp} (hx : x.g = 0 ∧ x.act = .go (K + j)) (hy : y.g = K + j ∧ y.act = .start) (h0 : Deaf t 0 = 0) (hk : Deaf t (K + j) = 0) : PT Shun Wg Ro B K (j + 1) (t ++ #[x, y]) := by
  have hm : PT Shun Wg Ro B K j (t ++ #[x, y]) := PT.mutes [x, y] h (fun op hop => by
    simp only [List.mem_cons, List.not_mem_nil, or_false] at hop
    rcases hop with rfl | rfl
    · rw [hx.2]; exact ⟨rfl, trivial⟩
    · rw [hy.2]; exact ⟨rfl, trivial⟩)
  refine ⟨hm.clean, hm.seen, fun i a ha hmem => ?_, fun i g hg h0 h1 h2 hc => hm.old i g hg h0 (fun ⟨e, _⟩ => h1 ⟨e, by omega⟩) (fun ⟨e, _⟩ => h2 ⟨e, by omega⟩) hc⟩
  have hlt : i < t.size := by
    obtain ⟨z, hz, hza⟩ := touch_of ha
    rcases getElem?_append_cases hz with ⟨hlt, _⟩ | ⟨_, hmm⟩
    · exact hlt
    · simp only [List.mem_toArray, List.mem_cons, List.not_mem_nil, or_false] at hmm
      rcases hmm with rfl | rfl
      · rw [hx.2] at hza; cases hza
      · rw [hy.2] at hza; cases hza
  rw [touchAt_old hlt] at ha
  cases h.kinds i a ha hmem with
  | shun h1 h2 => exact .shun h1 h2
  | known h1 h2 h3 =>
    have hf : Knows (t ++ #[x, y]) (K + j) i := fork_knows (k := K + j) hx hy h0 hk h1
    refine .known (h1.app _) (fun _ => ?_) (fun hj2 => ?_)
    · rcases Nat.eq_zero_or_pos j with rfl | hp
      · exact hf
      · exact (h2 hp).app _
    · obtain rfl : j = 1 := by omega
      exact hf
  | zero h1 h2 h3 => exact .zero (by rw [g?_old hlt]; exact h1) h2 h3
  | wk h0 h1 h2 h3 h4 => exact .wk (by omega) h1 h2 h3 (by rw [g?_old hlt]; exact h4)
  | a h1 h2 h3 h4 h5 => exact .a (by omega) (by rw [g?_old hlt]; exact h2) ((counts_old hlt).2 h3) h4 h5
  | b h1 => omega
/-- The beginning: what went before. -/
theorem PT.of_past (h : Past Shun B t) : PT Shun Wg Ro B K 0 t := by
  refine ⟨h.clean, h.seen, fun i a ha hm => ?_, fun i g hg h0 _ _ hc => h.over i g hg h0 hc⟩
  rcases h.known i a ha hm with hk | ⟨h1, h2⟩
  · exact .known hk (fun h => by omega) (fun h => by omega)
  · exact .shun h1 h2
theorem PT.mono {B' : Nat} (h : PT Shun Wg Ro B K j t) (hB : B ≤ B') : PT Shun Wg Ro B' K j t := ⟨h.clean, fun op hop => MemAct.low_mono hB (h.seen op hop), h.kinds, h.old⟩
/-- THE END: goroutine 0 has acquired, behind both releases. -/
theorem PT.past {ad : Addr} (h : PT Shun Wg Ro B K 2 t) {q rA rB : Nat} (hn : NoRelease ad t) (hq : t.act? q = some (.mark (.acquire ad))) (hg : t.g? q = some 0) (hh : t.heard q) (hA : RelBy ad t K rA) (hAq : rA < q) (hB : RelBy ad t (K + 1) rB) (hBq : rB < q)
    (hd : Deaf t 0 = 0) : Past (fun l => Shun l ∨ OfW Wg l) B t := by
  have key : ∀ g r i, RelBy ad t g r → r < q → t.g? i = some g → t.counts i → HappensBefore t i q := by
    intro g r i hr hrq hi hc
    have edge : HappensBefore t r q := .single (.inr ⟨.marked hrq (.inr hr.act) hq (fun k _ _ => hn k), hr.heard, hh⟩)
    have hle : i ≤ r := Nat.le_of_not_lt fun hlt => hr.after i hlt hi hc
    rcases Nat.lt_or_ge i r with hlt | hge
    · exact .trans (.single (.inl ⟨hlt, g, hi, hr.g⟩)) edge
    · obtain rfl : i = r := by omega
      exact edge
  have toK : ∀ i, HappensBefore t i q → Knows t 0 i := by
    intro i hi
    obtain ⟨z, hz, hzg⟩ := Option.map_eq_some_iff.1 hg
    exact ⟨q, z, hz, hzg, .inr hi⟩
  refine ⟨h.clean, fun i a ha hm => ?_, fun i g hgi h0 hc => ?_, hd, h.seen⟩
  · cases h.kinds i a ha hm with
    | shun h1 h2 => exact .inr ⟨.inl h1, h2⟩
    | known h1 _ _ => exact .inl h1
    | zero h1 _ _ => exact .inl (own_knows h1)
    | wk _ _ h2 h3 _ => exact .inr ⟨.inr h2, h3⟩
    | a _ h2 h3 _ _ => exact .inl (toK i (key K rA i hA hAq h2 h3))
    | b _ h2 h3 _ _ _ => exact .inl (toK i (key (K + 1) rB i hB hBq h2 h3))
  · by_cases e1 : g = K
    · subst e1; exact ⟨q, hg, key _ rA i hA hAq hgi hc⟩
    · by_cases e2 : g = K + 1
      · subst e2; exact ⟨q, hg, key _ rB i hB hBq hgi hc⟩
      · exact h.old i g hgi h0 (fun e => e1 e.1) (fun e => e2 e.1) hc

/-- What a hearing goroutine's step touches counts. -/
theorem counts_new {g : Nat} {fn : FuncId} {pos : String} {es : Array Event} (hd : Deaf t g = 0) (hes : ∀ e ∈ es, e.loc ≠ .mark .disable ∧ e.loc ≠ .mark .enable) :
    ∀ k op a, (MemOp.ofEvents g fn pos es)[k]? = some op → op.act.touch? = some a → a.loc.isMemory = true → (t ++ MemOp.ofEvents g fn pos es).counts (t.size + k) := by
  intro k op a hk ha hm
  have hat := new_at (t := t) hk
  refine ⟨a, by simp [Trace.act?, hat, ha], hm, .inr ⟨g, by rw [g?_of hat]; obtain ⟨e, _, rfl⟩ := Go.Conc.mem_ofEvents (Array.mem_of_getElem? hk); rfl, ?_⟩⟩
  have hks : k ≤ es.size := by
    have := (Array.getElem?_eq_some_iff.1 hk).1
    rw [ofEvents_eq] at this
    simp at this
    omega
  rw [deaf_inside t g fn pos es k hks, hd]
  exact deafBehind_still (fun e he => hes e (by
    obtain ⟨m, hm2⟩ := Array.getElem?_of_mem he
    rw [Array.getElem?_extract] at hm2
    split at hm2
    · exact Array.mem_of_getElem? (by simpa using hm2)
    · cases hm2)) 0
end
end Go.Proofs.Ph

/-
  The scripts of a phase: what is asked of the two workers and of goroutine 0, from their ends backwards; where each stands; what it suffers.
-/
set_option linter.all false
namespace Go.Proofs.Ph
open Go Go.Conc
open Go.ConcR (KK wgBlock WgAt stA smA rd wr mk DC0)

/-- The group's block is one. -/
def WgLive (ty : TypeId) (Wg : Nat) (w : World) : Prop := ∃ st sm, WgAt ty Wg w st sm
/-- The channel's block is one. -/
def ChLive (c : Nat) (w : World) : Prop := ∃ cap buf cl s r tm, w.heap[c]? = some (.chan cap buf cl s r tm)
/-- What goroutine 0 suffers. -/
def R0 (ty : TypeId) (Wg : Nat) (w w₁ : World) : Prop := WgLive ty Wg w → WgLive ty Wg w₁
/-- What the first worker suffers: the blocks of KA stand. -/
structure RA (ty : TypeId) (Wg : Nat) (KA : Nat → Prop) (w w₁ : World) : Prop where
  keep : ∀ b, KA b → w₁.heap[b]? = w.heap[b]?
  live : WgLive ty Wg w → WgLive ty Wg w₁
/-- What the second worker suffers: all stands but the group and the channel. -/
structure RB (ty : TypeId) (Wg c : Nat) (w w₁ : World) : Prop where
  tape : w₁.tape = w.tape
  os : w₁.os = w.os
  output : w₁.output = w.output
  size : w₁.heap.size = w.heap.size
  block : ∀ b, b ≠ Wg → b ≠ c → w₁.heap[b]? = w.heap[b]?
  live : WgLive ty Wg w → WgLive ty Wg w₁
  chan : ChLive c w → ChLive c w₁

section
variable {ty : TypeId} {Wg c : Nat} {KA : Nat → Prop} {w w₁ w₂ : World}
theorem R0.refl (w : World) : R0 ty Wg w w := id
theorem R0.trans (a b d : World) (h : R0 ty Wg a b) (k : R0 ty Wg b d) : R0 ty Wg a d := fun x => k (h x)
theorem RA.refl (w : World) : RA ty Wg KA w w := ⟨fun _ _ => rfl, id⟩
theorem RA.trans (a b d : World) (h : RA ty Wg KA a b) (k : RA ty Wg KA b d) : RA ty Wg KA a d := ⟨fun x hx => (k.keep x hx).trans (h.keep x hx), fun x => k.live (h.live x)⟩
theorem RB.refl (w : World) : RB ty Wg c w w := ⟨rfl, rfl, rfl, rfl, fun _ _ _ => rfl, id, id⟩
theorem RB.trans (a b d : World) (h : RB ty Wg c a b) (k : RB ty Wg c b d) : RB ty Wg c a d :=
  ⟨k.tape.trans h.tape, k.os.trans h.os, k.output.trans h.output, k.size.trans h.size, fun x h1 h2 => (k.block x h1 h2).trans (h.block x h1 h2), fun x => k.live (h.live x), fun x => k.chan (h.chan x)⟩
theorem R0.at (w : World) (d : Nat) : R0 ty Wg w (w.at d) := id
theorem RA.at (w : World) (d : Nat) : RA ty Wg KA w (w.at d) := ⟨fun _ _ => rfl, id⟩
theorem RB.at (w : World) (d : Nat) : RB ty Wg c w (w.at d) := ⟨rfl, rfl, rfl, rfl, fun _ _ _ => rfl, id, id⟩
end

/-! ### a worker, behind its work -/
section
variable (P : Program) (ty : TypeId) (Wg : Nat)
def AtD4 (g : Goroutine) (w : World) : Prop :=
  g.status = .running ∧ mayWake P g = true ∧ (WgAt ty Wg w 0 0 → ∃ g', stepG P false g w = .go g' (w.setCell (smA Wg) (.int .u32 1)) (semEvents (smA Wg)) ∧ ∃ q, QuitsD P q 1 g')
def AtD3 (g : Goroutine) (w : World) : Prop :=
  g.status = .running ∧ (WgAt ty Wg w 1 0 → ∃ g', stepG P false g w = .go g' (w.setCell (stA Wg) (.int .u64 0)) #[wr (stA Wg)] ∧ ∃ m, Goes P false (R0 ty Wg) DC0 (AtD4 P ty Wg) m g' (w.setCell (stA Wg) (.int .u64 0)))
def AtD2 (g : Goroutine) (w : World) : Prop :=
  g.status = .running ∧ (WgAt ty Wg w 1 0 → ∃ g', stepG P false g w = .go g' w #[rd (stA Wg)] ∧ ∃ m, Goes P false (R0 ty Wg) DC0 (AtD3 P ty Wg) m g' w)
/-- The atomic add of -1. -/
def AtD1 (g : Goroutine) (w : World) : Prop :=
  g.status = .running ∧ ∀ v wt : Nat, wt ≤ 1 → v ≤ 1 → WgAt ty Wg w (((v : Int) + 1) * KK + wt) 0 →
    ∃ g', stepG P false g w = .go g' (w.setCell (stA Wg) (.int .u64 ((v : Int) * KK + wt))) #[rd (stA Wg), wr (stA Wg)] ∧
      ((v = 0 ∧ wt = 1) → ∃ m, Goes P false (R0 ty Wg) DC0 (AtD2 P ty Wg) m g' (w.setCell (stA Wg) (.int .u64 ((v : Int) * KK + wt)))) ∧ (¬ (v = 0 ∧ wt = 1) → ∃ q, QuitsD P q 1 g')
def AtK1 (g : Goroutine) (w : World) : Prop :=
  g.status = .running ∧ ∃ g', stepG P false g w = .go g' w #[mk .disable] ∧ ∃ m, Goes P false (R0 ty Wg) DC0 (AtD1 P ty Wg) m g' w
def AtR0 (g : Goroutine) (w : World) : Prop :=
  g.status = .running ∧ ∃ g', stepG P false g w = .go g' w #[mk (.releaseMerge (stA Wg))] ∧ ∃ m, Goes P false (R0 ty Wg) DC0 (AtK1 P ty Wg) m g' w
end

/-! ### the workers, at work -/
section
variable (Shun Ro : Loc → Prop) (B : Nat) (Wg c : Nat) (KA : Nat → Prop)
/-- What the first worker lists. -/
def EvA (e : Event) : Prop := ∃ a : Addr, e = ⟨.cell a, false, false⟩ ∧ Ro (.cell a) ∧ a.block < B
def DA (w w' : World) (es : Array Event) : Prop := w' = w ∧ ∀ e ∈ es, EvA Ro B e
/-- What the second worker lists. -/
def EvB (e : Event) : Prop :=
  (∀ b, (MemAct.ofEvent e).touch? = some b → b.loc.isMemory = true → ¬ Shun b.loc ∧ ¬ OfW Wg b.loc ∧ (Ro b.loc ∨ (∃ r, b.loc = .obj r) → b.write = false)) ∧
    e.loc ≠ .mark .disable ∧ e.loc ≠ .mark .enable ∧ e.loc ≠ .mark (.release (stA Wg)) ∧ (MemAct.ofEvent e).low B
structure DB (w w' : World) (es : Array Event) : Prop where
  tape : w'.tape = w.tape
  keep : ∀ b, KA b ∨ b = Wg ∨ b = c → w'.heap[b]? = w.heap[b]?
  evs : ∀ e ∈ es, EvB Shun Ro B Wg e
end

section
variable (P : Program) (ty : TypeId) (Wg c : Nat) (KA : Nat → Prop) (Shun Ro : Loc → Prop) (B : Nat) (val : Value) (Fin : World → Prop)
def AtClose (g : Goroutine) (w : World) : Prop :=
  g.status = .running ∧ mayWake P g = true ∧ ∀ cap buf s r tm, w.heap[c]? = some (.chan cap buf false s r tm) →
    ∃ g', stepG P false g w = .go g' (w.setChan c cap buf true s r tm) #[⟨.obj c, false, true⟩, ⟨.obj c, true, true⟩] ∧ ∃ m, Goes P false (R0 ty Wg) DC0 (AtR0 P ty Wg) m g' (w.setChan c cap buf true s r tm)
def AtSend (g : Goroutine) (w : World) : Prop :=
  g.status = .running ∧ g.offers = none ∧ ∃ z, stepG P false g w = .comm g #[scase c val z] true .send w #[] ∧ ∃ m, Goes P false (RA ty Wg KA) (DA Ro B) (AtClose P ty Wg c) m (Conc.served g undef) w
def AtRecv2 (g : Goroutine) (w : World) : Prop :=
  g.status = .running ∧ g.offers = none ∧ Fin w ∧ ∃ z, stepG P false g w = .comm g #[rcase c z] true (.recv true) w #[] ∧ ∃ m, Goes P false (R0 ty Wg) DC0 (AtR0 P ty Wg) m (Conc.served g (recvd true z false)) w
def AtRecv1 (g : Goroutine) (w : World) : Prop :=
  g.status = .running ∧ g.offers = none ∧ ∃ z, stepG P false g w = .comm g #[rcase c z] true (.recv true) w #[] ∧ ∃ m, Goes P false (RB ty Wg c) (DB Shun Ro B Wg c KA) (AtRecv2 P ty Wg c Fin) m (Conc.served g (recvd true val true)) w

/-- Where a worker stands behind its work: stage, fuel, deafness. -/
inductive TS : Nat → Nat → Nat → Goroutine → World → Prop
  | r0 {m : Nat} {g : Goroutine} {w : World} : Goes P false (R0 ty Wg) DC0 (AtR0 P ty Wg) m g w → TS 7 m 0 g w
  | k1 {m : Nat} {g : Goroutine} {w : World} : Goes P false (R0 ty Wg) DC0 (AtK1 P ty Wg) m g w → TS 6 m 0 g w
  | d1 {m : Nat} {g : Goroutine} {w : World} : Goes P false (R0 ty Wg) DC0 (AtD1 P ty Wg) m g w → TS 5 m 1 g w
  | d2 {m : Nat} {g : Goroutine} {w : World} : Goes P false (R0 ty Wg) DC0 (AtD2 P ty Wg) m g w → TS 4 m 1 g w
  | d3 {m : Nat} {g : Goroutine} {w : World} : Goes P false (R0 ty Wg) DC0 (AtD3 P ty Wg) m g w → TS 3 m 1 g w
  | d4 {m : Nat} {g : Goroutine} {w : World} : Goes P false (R0 ty Wg) DC0 (AtD4 P ty Wg) m g w → TS 2 m 1 g w
  | quit {q d : Nat} {g : Goroutine} {w : World} : QuitsD P q d g → TS 1 q d g w
/-- .. and the first, at work. -/
inductive SA : Nat → Nat → Nat → Goroutine → World → Prop
  | send {m : Nat} {g : Goroutine} {w : World} : Goes P false (RA ty Wg KA) (DA Ro B) (AtSend P ty Wg c KA Ro B val) m g w → SA 12 m 0 g w
  | park {g : Goroutine} {w : World} {z : Value} : (∀ w₁, RA ty Wg KA w w₁ → AtSend P ty Wg c KA Ro B val g w₁) → SA 11 0 0 (parked g #[scase c val z] .send) w
  | close {m : Nat} {g : Goroutine} {w : World} : Goes P false (RA ty Wg KA) (DA Ro B) (AtClose P ty Wg c) m g w → SA 10 m 0 g w
  | tail {s m d : Nat} {g : Goroutine} {w : World} : TS P ty Wg s m d g w → SA s m d g w
/-- .. and the second. -/
inductive SB : Nat → Nat → Nat → Goroutine → World → Prop
  | recv {m : Nat} {g : Goroutine} {w : World} : Goes P false (RB ty Wg c) (DB Shun Ro B Wg c KA) (AtRecv1 P ty Wg c KA Shun Ro B val Fin) m g w → SB 12 m 0 g w
  | park {g : Goroutine} {w : World} {z : Value} : (∀ w₁, RB ty Wg c w w₁ → AtRecv1 P ty Wg c KA Shun Ro B val Fin g w₁) → SB 11 0 0 (parked g #[rcase c z] (.recv true)) w
  | more {m : Nat} {g : Goroutine} {w : World} : Goes P false (RB ty Wg c) (DB Shun Ro B Wg c KA) (AtRecv2 P ty Wg c Fin) m g w → SB 10 m 0 g w
  | park2 {g : Goroutine} {w : World} {z : Value} : (∀ w₁, RB ty Wg c w w₁ → AtRecv2 P ty Wg c Fin g w₁) → SB 9 0 0 (parked g #[rcase c z] (.recv true)) w
  | woke {g : Goroutine} {w : World} {z : Value} : (∀ w₁, RB ty Wg c w w₁ → AtRecv2 P ty Wg c Fin g w₁) → SB 8 0 0 { parked g #[rcase c z] (.recv true) with status := .running } w
  | tail {s m d : Nat} {g : Goroutine} {w : World} : TS P ty Wg s m d g w → SB s m d g w
def Sit : Bool → Nat → Nat → Nat → Goroutine → World → Prop
  | false => SA P ty Wg c KA Ro B val
  | true => SB P ty Wg c KA Shun Ro B val Fin
end

/-! ### goroutine 0, in Wait -/
/-- What goroutine 0 lists there: that it writes the group's second cell, said. -/
def EvZ (Wg : Nat) (e : Event) : Prop := ∃ a : Addr, a.block = Wg ∧ e = ⟨.mark (.write a), false, true⟩
def D0 (Wg : Nat) (w w' : World) (es : Array Event) : Prop := w' = w ∧ ∀ e ∈ es, EvZ Wg e
section
variable (P : Program) (ty : TypeId) (Wg : Nat) (AnchW : Goroutine → World → Prop) (Anch : Goroutine → Prop)
def AtAcq (g : Goroutine) (w : World) : Prop :=
  g.status = .running ∧ ∃ g', stepG P true g w = .go g' w #[mk (.acquire (stA Wg))] ∧ g'.status = .running ∧ Anch g'
def AtKe (g : Goroutine) (w : World) : Prop :=
  g.status = .running ∧ ∃ g', stepG P true g w = .go g' w #[mk .enable] ∧ ∃ m, Goes P true (R0 ty Wg) (D0 Wg) (AtAcq P Wg Anch) m g' w
def AtW4 (g : Goroutine) (w : World) : Prop :=
  g.status = .running ∧ (WgAt ty Wg w 0 0 → ∃ g', stepG P true g w = .go g' w #[rd (stA Wg)] ∧ ∃ m, Goes P true (R0 ty Wg) (D0 Wg) (AtKe P ty Wg Anch) m g' w)
def AtW3 (g : Goroutine) (w : World) : Prop :=
  g.status = .running ∧ g.offers = none ∧
    ((∃ st, WgAt ty Wg w st 0) → stepG P true g w = .go { g with status := .blocked } w #[]) ∧
    (WgAt ty Wg w 0 1 → ∃ g', stepG P true g w = .go g' (w.setCell (smA Wg) (.int .u32 0)) (semEvents (smA Wg)) ∧ ∃ m, Goes P true (R0 ty Wg) (D0 Wg) (AtW4 P ty Wg Anch) m g' (w.setCell (smA Wg) (.int .u32 0)))
/-- The CompareAndSwap, 'vs' having been seen: it hits, or misses. -/
def AtW2 (vs : Nat) (g : Goroutine) (w : World) : Prop :=
  g.status = .running ∧ ∀ v : Nat, v ≤ 2 → WgAt ty Wg w ((v : Int) * KK) 0 →
    (v = vs → ∃ g', stepG P true g w = .go g' (w.setCell (stA Wg) (.int .u64 ((v : Int) * KK + 1))) #[rd (stA Wg), wr (stA Wg)] ∧ ∃ m, Goes P true (R0 ty Wg) (D0 Wg) (AtW3 P ty Wg Anch) m g' (w.setCell (stA Wg) (.int .u64 ((v : Int) * KK + 1)))) ∧
    (v ≠ vs → ∃ g', stepG P true g w = .go g' w #[rd (stA Wg)] ∧ ∃ m, Goes P true (R0 ty Wg) (D0 Wg) AnchW m g' w)
def AtW1 (g : Goroutine) (w : World) : Prop :=
  g.status = .running ∧ ∀ v : Nat, v ≤ 2 → WgAt ty Wg w ((v : Int) * KK) 0 → ∃ g', stepG P true g w = .go g' w #[rd (stA Wg)] ∧
    (v = 0 → ∃ m, Goes P true (R0 ty Wg) (D0 Wg) (AtKe P ty Wg Anch) m g' w) ∧ (v ≠ 0 → ∃ m, Goes P true (R0 ty Wg) (D0 Wg) (AtW2 P ty Wg AnchW Anch v) m g' w)
def AtKd (g : Goroutine) (w : World) : Prop :=
  g.status = .running ∧ ∃ g', stepG P true g w = .go g' w #[mk .disable] ∧ ∃ m, Goes P true (R0 ty Wg) (D0 Wg) AnchW m g' w

inductive Tag where
  | kd | anch | w1 | w2 (vs : Nat) | w3 | blk | w4 | ke | acq
def phi (v : Nat) : Tag → Nat
  | .kd => 23
  | .anch => 8 * v + 6
  | .w1 => 8 * v + 5
  | .w2 vs => 8 * vs + 4
  | .w3 => 5
  | .blk => 5
  | .w4 => 4
  | .ke => 3
  | .acq => 2
/-- Where goroutine 0 stands: tag, fuel, deafness. -/
inductive CS : Tag → Nat → Nat → Goroutine → World → Prop
  | kd {m : Nat} {g : Goroutine} {w : World} : Goes P true (R0 ty Wg) (D0 Wg) (AtKd P ty Wg AnchW) m g w → CS .kd m 0 g w
  | anch {m : Nat} {g : Goroutine} {w : World} : Goes P true (R0 ty Wg) (D0 Wg) AnchW m g w → CS .anch m 1 g w
  | w1 {m : Nat} {g : Goroutine} {w : World} : Goes P true (R0 ty Wg) (D0 Wg) (AtW1 P ty Wg AnchW Anch) m g w → CS .w1 m 1 g w
  | w2 {vs m : Nat} {g : Goroutine} {w : World} : Goes P true (R0 ty Wg) (D0 Wg) (AtW2 P ty Wg AnchW Anch vs) m g w → CS (.w2 vs) m 1 g w
  | w3 {m : Nat} {g : Goroutine} {w : World} : Goes P true (R0 ty Wg) (D0 Wg) (AtW3 P ty Wg Anch) m g w → CS .w3 (m + 1) 1 g w
  | blk {g : Goroutine} {w : World} : (∀ w₁, R0 ty Wg w w₁ → AtW3 P ty Wg Anch g w₁) → CS .blk 0 1 { g with status := .blocked } w
  | w4 {m : Nat} {g : Goroutine} {w : World} : Goes P true (R0 ty Wg) (D0 Wg) (AtW4 P ty Wg Anch) m g w → CS .w4 m 1 g w
  | ke {m : Nat} {g : Goroutine} {w : World} : Goes P true (R0 ty Wg) (D0 Wg) (AtKe P ty Wg Anch) m g w → CS .ke m 1 g w
  | acq {m : Nat} {g : Goroutine} {w : World} : Goes P true (R0 ty Wg) (D0 Wg) (AtAcq P Wg Anch) m g w → CS .acq m 0 g w
end

/-! ### under another's step -/
section
variable {P : Program} {ty : TypeId} {Wg c : Nat} {KA : Nat → Prop} {Shun Ro : Loc → Prop} {B : Nat} {val : Value} {Fin : World → Prop} {AnchW : Goroutine → World → Prop} {Anch : Goroutine → Prop} {s m d f : Nat} {g x x' : Goroutine} {w w' : World} {tag : Tag}
theorem TS.rely (h : TS P ty Wg s m d g w) (hr : R0 ty Wg w w') : TS P ty Wg s m d g w' := by
  cases h with
  | r0 h => exact .r0 (Goes.rely R0.trans h hr)
  | k1 h => exact .k1 (Goes.rely R0.trans h hr)
  | d1 h => exact .d1 (Goes.rely R0.trans h hr)
  | d2 h => exact .d2 (Goes.rely R0.trans h hr)
  | d3 h => exact .d3 (Goes.rely R0.trans h hr)
  | d4 h => exact .d4 (Goes.rely R0.trans h hr)
  | quit h => exact .quit h
theorem TS.status (h : TS P ty Wg s m d g w) : g.status = .running ∨ g.status = .finished := by
  cases h with
  | r0 h => exact .inl (Goes.running (fun _ _ x => x.1) w (R0.refl w) h)
  | k1 h => exact .inl (Goes.running (fun _ _ x => x.1) w (R0.refl w) h)
  | d1 h => exact .inl (Goes.running (fun _ _ x => x.1) w (R0.refl w) h)
  | d2 h => exact .inl (Goes.running (fun _ _ x => x.1) w (R0.refl w) h)
  | d3 h => exact .inl (Goes.running (fun _ _ x => x.1) w (R0.refl w) h)
  | d4 h => exact .inl (Goes.running (fun _ _ x => x.1) w (R0.refl w) h)
  | quit h => exact h.status
theorem TS.le (h : TS P ty Wg s m d g w) : 1 ≤ s ∧ s ≤ 7 := by cases h <;> omega
theorem TS.runs (h : TS P ty Wg s m d g w) (hs : s ≠ 1) : g.status = .running := by
  cases h with
  | r0 h => exact (Goes.running (fun _ _ x => x.1) w (R0.refl w) h)
  | k1 h => exact (Goes.running (fun _ _ x => x.1) w (R0.refl w) h)
  | d1 h => exact (Goes.running (fun _ _ x => x.1) w (R0.refl w) h)
  | d2 h => exact (Goes.running (fun _ _ x => x.1) w (R0.refl w) h)
  | d3 h => exact (Goes.running (fun _ _ x => x.1) w (R0.refl w) h)
  | d4 h => exact (Goes.running (fun _ _ x => x.1) w (R0.refl w) h)
  | quit h => exact absurd rfl hs
theorem woken_awake (x x' : Goroutine) (w' : World) (h : g.status = .running ∨ g.status = .finished) : woken P x x' w' g = g := by
  unfold woken
  split
  · exact again_running _ h
  · rfl
/-- Its own make of step aside: the others' steps leave it where it stands. -/
theorem SA.rely (h : SA P ty Wg c KA Ro B val s m d g w) (hr : RA ty Wg KA w w') : SA P ty Wg c KA Ro B val s m d g w' := by
  cases h with
  | send h => exact .send (Goes.rely RA.trans h hr)
  | park h => exact .park fun w₁ h1 => h w₁ (RA.trans _ _ _ hr h1)
  | close h => exact .close (Goes.rely RA.trans h hr)
  | tail h => exact .tail (h.rely hr.live)
theorem SB.rely (h : SB P ty Wg c KA Shun Ro B val Fin s m d g w) (hr : RB ty Wg c w w') : SB P ty Wg c KA Shun Ro B val Fin s m d g w' := by
  cases h with
  | recv h => exact .recv (Goes.rely RB.trans h hr)
  | park h => exact .park fun w₁ h1 => h w₁ (RB.trans _ _ _ hr h1)
  | more h => exact .more (Goes.rely RB.trans h hr)
  | park2 h => exact .park2 fun w₁ h1 => h w₁ (RB.trans _ _ _ hr h1)
  | woke h => exact .woke fun w₁ h1 => h w₁ (RB.trans _ _ _ hr h1)
  | tail h => exact .tail (h.rely hr.live)
theorem SA.status (h : SA P ty Wg c KA Ro B val s m d g w) (hs : s ≠ 11) : g.status = .running ∨ g.status = .finished := by
  cases h with
  | send h => exact .inl (Goes.running (fun _ _ x => x.1) w (RA.refl w) h)
  | park h => exact absurd rfl hs
  | close h => exact .inl (Goes.running (fun _ _ x => x.1) w (RA.refl w) h)
  | tail h => exact h.status
theorem SB.status (h : SB P ty Wg c KA Shun Ro B val Fin s m d g w) (hs : s ≠ 11) (hs9 : s ≠ 9) : g.status = .running ∨ g.status = .finished := by
  cases h with
  | recv h => exact .inl (Goes.running (fun _ _ x => x.1) w (RB.refl w) h)
  | park h => exact absurd rfl hs
  | more h => exact .inl (Goes.running (fun _ _ x => x.1) w (RB.refl w) h)
  | park2 h => exact absurd rfl hs9
  | woke h => exact .inl rfl
  | tail h => exact h.status
theorem SA.runs (h : SA P ty Wg c KA Ro B val s m d g w) (hs : s ≠ 11) (h1 : s ≠ 1) : g.status = .running := by
  cases h with
  | send h => exact (Goes.running (fun _ _ x => x.1) w (RA.refl w) h)
  | park h => exact absurd rfl hs
  | close h => exact (Goes.running (fun _ _ x => x.1) w (RA.refl w) h)
  | tail h => exact h.runs h1
theorem SB.runs (h : SB P ty Wg c KA Shun Ro B val Fin s m d g w) (hs : s ≠ 11) (hs9 : s ≠ 9) (h1 : s ≠ 1) : g.status = .running := by
  cases h with
  | recv h => exact (Goes.running (fun _ _ x => x.1) w (RB.refl w) h)
  | park h => exact absurd rfl hs
  | more h => exact (Goes.running (fun _ _ x => x.1) w (RB.refl w) h)
  | park2 h => exact absurd rfl hs9
  | woke h => rfl
  | tail h => exact h.runs h1
/-- Who is let try again: nobody that waits at an open channel. -/
theorem SA.stays (h : SA P ty Wg c KA Ro B val s m d g w) (ho : s = 11 → ∃ cap buf s r tm, w'.heap[c]? = some (.chan cap buf false s r tm)) : woken P x x' w' g = g := by
  by_cases hs : s = 11
  · obtain ⟨cap, buf, s1, r, tm, hc⟩ := ho hs
    subst hs
    cases h with
    | park h => exact woken_send_open x x' hc
    | tail h => exact absurd h.le (by omega)
  · exact woken_awake x x' w' (h.status hs)
theorem SB.stays (h : SB P ty Wg c KA Shun Ro B val Fin s m d g w) (ho : s = 11 ∨ s = 9 → ∃ cap buf s r tm, w'.heap[c]? = some (.chan cap buf false s r tm)) : woken P x x' w' g = g := by
  by_cases hs : s = 11 ∨ s = 9
  · obtain ⟨cap, buf, s1, r, tm, hc⟩ := ho hs
    rcases hs with rfl | rfl
    · cases h with
      | park h => exact woken_recv_open x x' hc
      | tail h => exact absurd h.le (by omega)
    · cases h with
      | park2 h => exact woken_recv_open x x' hc
      | tail h => exact absurd h.le (by omega)
  · exact woken_awake x x' w' (h.status (fun e => hs (.inl e)) (fun e => hs (.inr e)))
/-- .. and the close lets the second worker try again. -/
theorem SB.closed (h : SB P ty Wg c KA Shun Ro B val Fin 9 m d g w) (hw : (mayWake P x && x'.status != .blocked && x'.status != .waiting) = true) {cap s r : Nat} {buf : Array Value} {tm : Bool} (hc : w'.heap[c]? = some (.chan cap buf true s r tm)) :
    SB P ty Wg c KA Shun Ro B val Fin 8 m d (woken P x x' w' g) w := by
  cases h with
  | park2 h =>
    unfold Go.Conc.woken
    rw [if_pos hw, again_recv_closed hc]
    exact .woke h
  | tail h => exact absurd h.le (by omega)

theorem CS.rely (h : CS P ty Wg AnchW Anch tag f d g w) (hr : R0 ty Wg w w') : CS P ty Wg AnchW Anch tag f d g w' := by
  cases h with
  | kd h => exact .kd (Goes.rely R0.trans h hr)
  | anch h => exact .anch (Goes.rely R0.trans h hr)
  | w1 h => exact .w1 (Goes.rely R0.trans h hr)
  | w2 h => exact .w2 (Goes.rely R0.trans h hr)
  | w3 h => exact .w3 (Goes.rely R0.trans h hr)
  | blk h => exact .blk fun w₂ h₂ => h w₂ (R0.trans _ _ _ hr h₂)
  | w4 h => exact .w4 (Goes.rely R0.trans h hr)
  | ke h => exact .ke (Goes.rely R0.trans h hr)
  | acq h => exact .acq (Goes.rely R0.trans h hr)
theorem CS.status (hAr : ∀ g w, AnchW g w → g.status = .running) (h : CS P ty Wg AnchW Anch tag f d g w) : (g.status = .running ∧ tag ≠ .blk) ∨ (g.status = .blocked ∧ g.offers = none ∧ tag = .blk) := by
  cases h with
  | kd h => exact .inl ⟨Goes.running (fun _ _ x => x.1) w (R0.refl w) h, by simp⟩
  | anch h => exact .inl ⟨Goes.running hAr w (R0.refl w) h, by simp⟩
  | w1 h => exact .inl ⟨Goes.running (fun _ _ x => x.1) w (R0.refl w) h, by simp⟩
  | w2 h => exact .inl ⟨Goes.running (fun _ _ x => x.1) w (R0.refl w) h, by simp⟩
  | w3 h => exact .inl ⟨Goes.running (fun _ _ x => x.1) w (R0.refl w) h, by simp⟩
  | blk h => exact .inr ⟨rfl, (h w (R0.refl w)).2.1, rfl⟩
  | w4 h => exact .inl ⟨Goes.running (fun _ _ x => x.1) w (R0.refl w) h, by simp⟩
  | ke h => exact .inl ⟨Goes.running (fun _ _ x => x.1) w (R0.refl w) h, by simp⟩
  | acq h => exact .inl ⟨Goes.running (fun _ _ x => x.1) w (R0.refl w) h, by simp⟩
/-- UNDER ANOTHER's STEP: as it stood; or, blocked, it is let try again. -/
theorem CS.wokenBy (hAr : ∀ g w, AnchW g w → g.status = .running) (h : CS P ty Wg AnchW Anch tag f d g w) (hr : R0 ty Wg w w') (x x' : Goroutine) :
    ∃ tag' f', CS P ty Wg AnchW Anch tag' f' d (woken P x x' w' g) w' ∧ f' ≤ f + 1 ∧ (tag' = tag ∨ (tag = .blk ∧ tag' = .w3)) ∧ (mayWake P x = true → x'.status = .running → tag' ≠ .blk) := by
  have h' := h.rely hr
  unfold Go.Conc.woken
  split
  · rcases h'.status hAr with ⟨hs, hne⟩ | ⟨_, _, rfl⟩
    · exact ⟨tag, f, by rw [again_running _ (.inl hs)]; exact h', by omega, .inl rfl, fun _ _ => hne⟩
    · cases h' with
      | blk hb =>
        rename_i g0
        have h3 := hb w' (R0.refl w')
        exact ⟨.w3, 0 + 1, by rw [Go.ConcR.again_blocked h3.1 h3.2.1]; exact .w3 (Goes.stop hb), by omega, .inr ⟨rfl, rfl⟩, fun _ _ => by simp⟩
  · rename_i hc
    exact ⟨tag, f, h', by omega, .inl rfl, fun h1 h2 => absurd (by simp [h1, h2]) hc⟩
end
end Go.Proofs.Ph

/-
  A phase's invariant: how the group, the channel, the trace and the places of all hang together; how it is kept by a step of a worker's, of goroutine 0's, of a leaver's.
-/
set_option linter.all false
namespace Go.Proofs.Ph
open Go Go.Conc
open Go.ConcR (KK wgBlock WgAt stA smA rd wr mk DC0 Bk)
open Go.ConcN (RelBy sumTo upd sumTo_upd upd_ne upd_same get_map_set get_map_set_same norel_of)

structure WD where
  stage : Nat
  fuel : Nat
  deaf : Nat
/-- One worker's data laid anew. -/
def up (D : Bool → WD) (b : Bool) (x : WD) : Bool → WD := fun a => if a = b then x else D a
theorem up_same (D : Bool → WD) (b : Bool) (x : WD) : up D b x b = x := by simp [up]
theorem up_other (D : Bool → WD) (b : Bool) (x : WD) : up D b x (!b) = D (!b) := by cases b <;> simp [up]
def cnt (d : WD) : Nat := if 5 ≤ d.stage then 1 else 0
def V (D : Bool → WD) : Nat := cnt (D false) + cnt (D true)
def Sg (D : Bool → WD) : Nat := (D false).stage + (D true).stage
def Fu (D : Bool → WD) : Nat := (D false).fuel + (D true).fuel
def isOpen : Tag → Prop
  | .kd | .anch | .w1 | .w2 _ => True
  | _ => False
def isW3 : Tag → Prop
  | .w3 | .blk => True
  | _ => False
def isFin : Tag → Prop
  | .w4 | .ke | .acq => True
  | _ => False
/-- How the group's two cells hang on where all stand. -/
inductive Mode (D : Bool → WD) : Tag → Int → Int → Prop
  | opn {tag : Tag} : isOpen tag → (∀ b, 5 ≤ (D b).stage ∨ (D b).stage = 1) → (∀ vs, tag = .w2 vs → V D ≤ vs ∧ 1 ≤ vs) → Mode D tag ((V D : Int) * KK) 0
  | reg {tag : Tag} : isW3 tag → (∀ b, 5 ≤ (D b).stage ∨ (D b).stage = 1) → 1 ≤ V D → Mode D tag ((V D : Int) * KK + 1) 0
  | last {tag : Tag} (b : Bool) : isW3 tag → ((D b).stage = 4 ∨ (D b).stage = 3 ∨ (D b).stage = 2) → (D (!b)).stage = 1 → Mode D tag (if (D b).stage = 2 then 0 else 1) 0
  | sema : (∀ b, (D b).stage = 1) → Mode D .w3 0 1
  | fin {tag : Tag} : isFin tag → (∀ b, (D b).stage = 1) → Mode D tag 0 0
/-- How the channel hangs on where the workers stand. -/
inductive CM : Nat → Nat → Obj → Prop
  | c1 {sa sb : Nat} : (sa = 12 ∨ sa = 11) → (sb = 12 ∨ sb = 11) → ¬ (sa = 11 ∧ sb = 11) → CM sa sb (.chan 0 #[] false 0 0 false)
  | c2 {sa sb : Nat} : sa = 10 → (sb = 10 ∨ sb = 9) → CM sa sb (.chan 0 #[] false 1 1 false)
  | c3 {sa sb : Nat} : sa ≤ 7 → (sb = 10 ∨ sb = 8 ∨ sb ≤ 7) → CM sa sb (.chan 0 #[] true 1 1 false)
theorem CM.opens {sa sb : Nat} {o : Obj} (h : CM sa sb o) (hs : sa = 11 ∨ sb = 11 ∨ sb = 9) : ∃ cap buf s r tm, o = .chan cap buf false s r tm := by
  cases h with
  | c1 => exact ⟨_, _, _, _, _, rfl⟩
  | c2 => exact ⟨_, _, _, _, _, rfl⟩
  | c3 h1 h2 => omega
theorem V_le (D : Bool → WD) : V D ≤ 2 := by simp only [V, cnt]; split <;> split <;> omega
theorem V_eq (D : Bool → WD) (b : Bool) : V D = cnt (D b) + cnt (D (!b)) := by cases b <;> simp [V, Nat.add_comm]
theorem V_up (D : Bool → WD) (b : Bool) (x : WD) : V (up D b x) = cnt x + cnt (D (!b)) := by rw [V_eq _ b, up_same, up_other]
theorem Sg_up (D : Bool → WD) (b : Bool) (x : WD) : Sg (up D b x) + (D b).stage = Sg D + x.stage := by cases b <;> simp [Sg, up] <;> omega
theorem Fu_up (D : Bool → WD) (b : Bool) (x : WD) : Fu (up D b x) + (D b).fuel = Fu D + x.fuel := by cases b <;> simp [Fu, up] <;> omega
theorem all_up {D : Bool → WD} {b : Bool} {x : WD} {p : WD → Prop} (h1 : p x) (h2 : p (D (!b))) : ∀ a, p (up D b x a) := by
  intro a
  by_cases e : a = b
  · subst e; rw [up_same]; exact h1
  · have : a = !b := by cases a <;> cases b <;> simp_all
    subst this; rw [up_other]; exact h2
/-- A worker that is counted, and stays counted. -/
theorem Mode.work {D : Bool → WD} {tag : Tag} {st sm : Int} (h : Mode D tag st sm) {b : Bool} (hb : 5 ≤ (D b).stage) {x : WD} (hx : 5 ≤ x.stage) : Mode (up D b x) tag st sm := by
  have e : V (up D b x) = V D := by rw [V_up, V_eq D b]; simp [cnt, hb, hx]
  cases h with
  | opn h1 h2 h3 => rw [← e]; exact .opn h1 (all_up (p := fun d => 5 ≤ d.stage ∨ d.stage = 1) (.inl hx) (h2 _)) (by rw [e]; exact h3)
  | reg h1 h2 h3 => rw [← e]; exact .reg h1 (all_up (p := fun d => 5 ≤ d.stage ∨ d.stage = 1) (.inl hx) (h2 _)) (by rw [e]; exact h3)
  | last L h1 h2 h3 =>
    exfalso
    by_cases e : b = L
    · subst e; omega
    · have : b = !L := by cases b <;> cases L <;> simp_all
      subst this; omega
  | sema h1 => have := h1 b; omega
  | fin _ h1 => have := h1 b; omega
/-- A worker whose stage stands. -/
theorem Mode.idle {D : Bool → WD} {tag : Tag} {st sm : Int} (h : Mode D tag st sm) {b : Bool} {x : WD} (hx : x.stage = (D b).stage) : Mode (up D b x) tag st sm := by
  have es : ∀ a, (up D b x a).stage = (D a).stage := by
    intro a
    by_cases e : a = b
    · subst e; rw [up_same]; exact hx
    · simp [up, e]
  have e : V (up D b x) = V D := by simp [V, cnt, es]
  cases h with
  | opn h1 h2 h3 => rw [← e]; exact .opn h1 (fun a => by rw [es]; exact h2 a) (by rw [e]; exact h3)
  | reg h1 h2 h3 => rw [← e]; exact .reg h1 (fun a => by rw [es]; exact h2 a) (by rw [e]; exact h3)
  | last L h1 h2 h3 => rw [← es L]; exact .last L h1 (by rw [es]; exact h2) (by rw [es]; exact h3)
  | sema h1 => exact .sema fun a => by rw [es]; exact h1 a
  | fin h0 h1 => exact .fin h0 fun a => by rw [es]; exact h1 a
theorem Mode.retag {D : Bool → WD} {tag tag' : Tag} {st sm : Int} (h : Mode D tag st sm) (e : tag' = tag ∨ (tag = .blk ∧ tag' = .w3)) : Mode D tag' st sm := by
  rcases e with rfl | ⟨rfl, rfl⟩
  · exact h
  · cases h with
    | opn h1 _ _ => exact h1.elim
    | reg _ h2 h3 => exact .reg trivial h2 h3
    | last L _ h2 h3 => exact .last L trivial h2 h3
    | fin h1 _ => exact h1.elim
theorem phi_mono {v v' : Nat} (h : v' ≤ v) (tag : Tag) : phi v' tag ≤ phi v tag := by cases tag <;> simp only [phi] <;> omega
theorem phi_retag (v : Nat) {tag tag' : Tag} (e : tag' = tag ∨ (tag = .blk ∧ tag' = .w3)) : phi v tag' = phi v tag := by
  rcases e with rfl | ⟨rfl, rfl⟩ <;> rfl

/-! ### what a step adds to the trace -/
section
variable {Shun Ro : Loc → Prop} {Wg B K j c : Nat} {t : Trace} {fn : FuncId} {pos : String} {es : Array Event}
theorem pt_of {u : Trace} {p : MemOp → Prop} (h : ∀ e ∈ es, ∀ g, p { g := g, fn, pos, act := .ofEvent e }) {g : Nat} : ∀ op ∈ MemOp.ofEvents g fn pos es, p op := by
  intro op hop
  obtain ⟨e, he, rfl⟩ := Go.Conc.mem_ofEvents hop
  exact h e he g
theorem bk_op (hWg : Wg < B) {e : Event} (h : Bk Wg e) : (∀ b, (MemAct.ofEvent e).touch? = some b → OfW Wg b.loc ∧ b.kind = .atomic) ∧ (MemAct.ofEvent e).low B ∧ e.loc ≠ .mark (.release (stA Wg)) := by
  obtain ⟨loc, x, s⟩ := e
  rcases h with h | h | ⟨a, x', h, ha⟩
  · simp only at h; subst h
    exact ⟨fun b hb => (by cases hb), trivial, by simp⟩
  · simp only at h; subst h
    exact ⟨fun b hb => (by cases hb), trivial, by simp⟩
  · cases h
    refine ⟨fun b hb => ?_, by show a.block < B; omega, by simp⟩
    simp only [MemAct.ofEvent, MemAct.touch?, Option.some.injEq, if_true] at hb
    subst hb
    exact ⟨⟨a, rfl, ha⟩, rfl⟩
theorem pt_bk0 (A : Apt Shun Wg Ro) (hWg : Wg < B) (h : PT Shun Wg Ro B K j t) (he : ∀ e ∈ es, Bk Wg e) : PT Shun Wg Ro B K j (t ++ MemOp.ofEvents 0 fn pos es) :=
  h.zero A others' (pt_of (u := t) fun e h g b hb => let x := (bk_op hWg (he e h)).1 b hb; ⟨x.1, by rw [x.2]; simp⟩) (pt_of (u := t) fun e h g => (bk_op hWg (he e h)).2.1)
where others' : ∀ op ∈ MemOp.ofEvents 0 fn pos es, op.g = 0 := fun op hop => by obtain ⟨e, _, rfl⟩ := Go.Conc.mem_ofEvents hop; rfl
theorem of_g {g : Nat} : ∀ op ∈ MemOp.ofEvents g fn pos es, op.g = g := fun op hop => by obtain ⟨e, _, rfl⟩ := Go.Conc.mem_ofEvents hop; rfl
theorem wix (b : Bool) (K : Nat) : (K + b.toNat = K ∧ 1 ≤ 2) ∨ (K + b.toNat = K + 1 ∧ 2 ≤ 2) := by cases b <;> simp
theorem pt_bkW (A : Apt Shun Wg Ro) (hWg : Wg < B) (hK : 0 < K) (h : PT Shun Wg Ro B K 2 t) (b : Bool) (he : ∀ e ∈ es, Bk Wg e) : PT Shun Wg Ro B K 2 (t ++ MemOp.ofEvents (K + b.toNat) fn pos es) :=
  h.work A hK (wix b K) of_g (pt_of (u := t) fun e h g b hb => (bk_op hWg (he e h)).1 b hb) (pt_of (u := t) fun e h g => (bk_op hWg (he e h)).2.1)
theorem pt_mute {g : Nat} (h : PT Shun Wg Ro B K j t) (hn : ∀ e ∈ es, (MemAct.ofEvent e).touch? = none ∧ (MemAct.ofEvent e).low B) : PT Shun Wg Ro B K j (t ++ MemOp.ofEvents g fn pos es) :=
  h.mute of_g (pt_of (u := t) fun e h g => (hn e h).1) (pt_of (u := t) fun e h g => (hn e h).2)
theorem pt_z (A : Apt Shun Wg Ro) (hWg : Wg < B) (h : PT Shun Wg Ro B K j t) (he : ∀ e ∈ es, EvZ Wg e) : PT Shun Wg Ro B K j (t ++ MemOp.ofEvents 0 fn pos es) := by
  refine h.zero A of_g (pt_of (u := t) fun e h g b hb => ?_) (pt_of (u := t) fun e h g => ?_)
  · obtain ⟨a, ha, rfl⟩ := he e h
    simp only [MemAct.ofEvent, MemAct.touch?, Option.some.injEq] at hb
    subst hb
    exact ⟨⟨a, rfl, ha⟩, by simp⟩
  · obtain ⟨a, ha, rfl⟩ := he e h
    show a.block < B
    omega
theorem pt_a (A : Apt Shun Wg Ro) (hd : Deaf t K = 0) (h : PT Shun Wg Ro B K 2 t) (he : ∀ e ∈ es, EvA Ro B e) : PT Shun Wg Ro B K 2 (t ++ MemOp.ofEvents K fn pos es) := by
  refine h.workA A (by omega) of_g (pt_of (u := t) fun e h g b hb => ?_) (counts_new hd fun e h => ?_) (pt_of (u := t) fun e h g => ?_)
  · obtain ⟨a, rfl, h1, h2⟩ := he e h
    simp only [MemAct.ofEvent, MemAct.touch?, Option.some.injEq] at hb
    subst hb
    exact ⟨.inl h1, rfl⟩
  · obtain ⟨a, rfl, h1, h2⟩ := he e h
    simp
  · obtain ⟨a, rfl, h1, h2⟩ := he e h
    exact h2
theorem pt_close (A : Apt Shun Wg Ro) (hc : c < B) (hd : Deaf t K = 0) (h : PT Shun Wg Ro B K 2 t) : PT Shun Wg Ro B K 2 (t ++ MemOp.ofEvents K fn pos #[⟨.obj c, false, true⟩, ⟨.obj c, true, true⟩]) := by
  refine h.workA A (by omega) of_g (pt_of (u := t) fun e h g b hb => ?_) (counts_new hd fun e h => ?_) (pt_of (u := t) fun e h g => ?_)
  · simp only [List.mem_toArray, List.mem_cons, List.not_mem_nil, or_false] at h
    rcases h with rfl | rfl
    · simp only [MemAct.ofEvent, MemAct.touch?, Option.some.injEq] at hb
      subst hb
      exact ⟨.inr ⟨c, rfl⟩, rfl⟩
    · cases hb
  · simp only [List.mem_toArray, List.mem_cons, List.not_mem_nil, or_false] at h
    rcases h with rfl | rfl <;> simp
  · simp only [List.mem_toArray, List.mem_cons, List.not_mem_nil, or_false] at h
    rcases h with rfl | rfl
    · exact hc
    · exact hc
theorem pt_b (A : Apt Shun Wg Ro) (hd : Deaf t (K + 1) = 0) (h : PT Shun Wg Ro B K 2 t) (he : ∀ e ∈ es, EvB Shun Ro B Wg e) : PT Shun Wg Ro B K 2 (t ++ MemOp.ofEvents (K + 1) fn pos es) :=
  h.workB A (Nat.le_refl _) of_g (pt_of (u := t) fun e h g b hb hm => (he e h).1 b hb hm) (counts_new hd fun e h => ⟨(he e h).2.1, (he e h).2.2.1⟩) (pt_of (u := t) fun e h g => (he e h).2.2.2.2)
end

/-! ### the invariant -/
section
variable (P : Program) (ty : TypeId) (Wg c : Nat) (KA : Nat → Prop) (Shun Ro : Loc → Prop) (B : Nat) (val : Value) (Fin : World → Prop) (AnchW : Goroutine → World → Prop) (Anch : Goroutine → Prop) (K : Nat) (τ : Nat → Question → Nat)
/-- Where the blocks lie. -/
structure Geo : Prop where
  kpos : 0 < K
  apt : Apt Shun Wg Ro
  wg : Wg < B
  ch : c < B
  wc : Wg ≠ c
  ka : ∀ b, KA b → b ≠ Wg ∧ b ≠ c
  fin : ∀ w w', RB ty Wg c w w' → Fin w → Fin w'
structure Com (gs : Array Goroutine) (w : World) (t : Trace) (D : Bool → WD) (d0 : Nat) (q : Nat → Nat) : Prop where
  size : gs.size = K + 2
  wk : ∀ b, ∃ g, gs[K + b.toNat]? = some g ∧ Sit P ty Wg c KA Shun Ro B val Fin b (D b).stage (D b).fuel (D b).deaf g w
  lv : ∀ i g, 0 < i → i < K → gs[i]? = some g → QuitsD P (q i) (Deaf t i) g
  above : ∀ j, gs.size ≤ j → Deaf t j = 0
  pt : PT Shun Wg Ro B K 2 t
  norel : NoRelease (stA Wg) t
  deaf0 : Deaf t 0 = d0
  deafW : ∀ b, Deaf t (K + b.toNat) = (D b).deaf
  rel : ∀ b, (D b).stage ≤ 6 → ∃ r, RelBy (stA Wg) t (K + b.toNat) r
  fin : (D true).stage ≤ 9 → Fin w
  tape : w.tape = τ
def Inv (μ : Nat × Nat) (m : Machine) (t : Trace) : Prop :=
  ∃ (gs : Array Goroutine) (w : World) (sl : Option (Nat × Nat)) (D : Bool → WD) (tag : Tag) (f0 d0 : Nat) (q : Nat → Nat) (a : Goroutine) (st sm : Int) (o : Obj),
    m = crowd gs w sl ∧ gs[0]? = some a ∧ CS P ty Wg AnchW Anch tag f0 d0 a w ∧ Com P ty Wg c KA Shun Ro B val Fin K τ gs w t D d0 q ∧ WgAt ty Wg w st sm ∧ Mode D tag st sm ∧
    w.heap[c]? = some o ∧ CM (D false).stage (D true).stage o ∧ μ = (phi (V D) tag + Sg D, f0 + 2 * Fu D + 2 * sumTo K q)
/-- Behind the join. -/
def Done (m : Machine) (t : Trace) : Prop :=
  ∃ (gs : Array Goroutine) (w : World) (sl : Option (Nat × Nat)) (q : Nat → Nat) (a : Goroutine), m = crowd gs w sl ∧ gs[0]? = some a ∧ a.status = .running ∧ Anch a ∧ gs.size = K + 2 ∧ Leavers P t gs q ∧ Past (fun l => Shun l ∨ OfW Wg l) B t ∧ Fin w ∧ w.tape = τ ∧ WgLive ty Wg w
end
abbrev Lt2 : Nat × Nat → Nat × Nat → Prop := Prod.Lex (· < ·) (· < ·)

section
variable {P : Program} {ty : TypeId} {Wg c : Nat} {KA : Nat → Prop} {Shun Ro : Loc → Prop} {B : Nat} {val : Value} {Fin : World → Prop} {AnchW : Goroutine → World → Prop} {Anch : Goroutine → Prop} {K : Nat} {τ : Nat → Question → Nat}
  {gs : Array Goroutine} {w w' : World} {sl : Option (Nat × Nat)} {D : Bool → WD} {tag : Tag} {f0 d0 : Nat} {q : Nat → Nat} {a : Goroutine} {t : Trace} {st sm : Int} {o : Obj}
theorem Com.at (h : Com P ty Wg c KA Shun Ro B val Fin K τ gs w t D d0 q) (G : Geo ty Wg c KA Shun Ro B Fin K) (d : Nat) : Com P ty Wg c KA Shun Ro B val Fin K τ gs (w.at d) t D d0 q :=
  ⟨h.size, fun b => let ⟨g, hg, hs⟩ := h.wk b; ⟨g, hg, by cases b; exact SA.rely hs (RA.at w d); exact SB.rely hs (RB.at w d)⟩, h.lv, h.above, h.pt, h.norel, h.deaf0, h.deafW, h.rel, fun hf => G.fin _ _ (RB.at w d) (h.fin hf), h.tape⟩
theorem ix_ne (b : Bool) : K + b.toNat ≠ K + (!b).toNat := by cases b <;> simp
theorem bool_cases {b x : Bool} (h : x ≠ b) : x = !b := by cases b <;> cases x <;> simp_all

/-- WHATEVER STEP OF A WORKER's THAT IS ITS OWN. -/
theorem workerStep (G : Geo ty Wg c KA Shun Ro B Fin K) (hAr : ∀ g w, AnchW g w → g.status = .running) (ha : gs[0]? = some a) (hcs : CS P ty Wg AnchW Anch tag f0 d0 a w) (hcom : Com P ty Wg c KA Shun Ro B val Fin K τ gs w t D d0 q)
    {b : Bool} {g g' : Goroutine} {es : Array Event} {x : WD} {y : WD} {st' sm' : Int} {o' : Obj} (hg : gs[K + b.toNat]? = some g) (hgo : stepG P false g w = .go g' w' es) (h0 : R0 ty Wg w w') (htp : w'.tape = w.tape)
    (hs' : Sit P ty Wg c KA Shun Ro B val Fin b x.stage x.fuel x.deaf g' w')
    (hoth : ∀ g2, Sit P ty Wg c KA Shun Ro B val Fin (!b) (D (!b)).stage (D (!b)).fuel (D (!b)).deaf g2 w → Sit P ty Wg c KA Shun Ro B val Fin (!b) y.stage y.fuel y.deaf (woken P g g' w' g2) w')
    (hy : y.fuel = (D (!b)).fuel ∧ y.deaf = (D (!b)).deaf ∧ y.stage ≤ (D (!b)).stage ∧ cnt y = cnt (D (!b)) ∧ (y.stage ≤ 6 → (D (!b)).stage ≤ 6))
    (hpt : PT Shun Wg Ro B K 2 (t ++ MemOp.ofEvents (K + b.toNat) g.frame.fn g.frame.place es)) (hnr : ∀ e ∈ es, e.loc ≠ .mark (.release (stA Wg))) (hdeaf : deafBehind (D b).deaf es = x.deaf)
    (hrel : x.stage ≤ 6 → ∃ r, RelBy (stA Wg) (t ++ MemOp.ofEvents (K + b.toNat) g.frame.fn g.frame.place es) (K + b.toNat) r)
    (hfin : (up (up D (!b) y) b x true).stage ≤ 9 → Fin w') (hwg : WgAt ty Wg w' st' sm') (hco : w'.heap[c]? = some o') (hcm : CM (up (up D (!b) y) b x false).stage (up (up D (!b) y) b x true).stage o')
    (hmode : ∀ tag', (tag' = tag ∨ (tag = .blk ∧ tag' = .w3)) → (mayWake P g = true → g'.status = .running → tag' ≠ .blk) → Mode (up (up D (!b) y) b x) tag' st' sm')
    (hlt : (x.stage < (D b).stage ∧ cnt x ≤ cnt (D b)) ∨ (x.stage = (D b).stage ∧ y.stage = (D (!b)).stage ∧ x.fuel + 1 = (D b).fuel)) :
    ∃ m₁ ops μ', runT P (crowd gs w sl) (K + b.toNat) = (.next m₁, ops) ∧ Lt2 μ' (phi (V D) tag + Sg D, f0 + 2 * Fu D + 2 * sumTo K q) ∧ Inv P ty Wg c KA Shun Ro B val Fin AnchW Anch K τ μ' m₁ (t ++ ops) := by
  obtain ⟨tag', f', hcs', hf', htag, hwk⟩ := hcs.wokenBy hAr h0 g g'
  have hk := G.kpos
  have hi0 : (K + b.toNat == 0) = false := by simp; omega
  have hrun := runT_crowd_go (P := P) (sl := sl) (i := K + b.toNat) hg (by rw [hi0]; exact hgo)
  have hD : ∀ z, up (up D (!b) y) b x z = if z = b then x else y := by
    intro z
    by_cases e : z = b
    · subst e; simp [up]
    · have := bool_cases e; subst this; simp [up]
  have hDb : up (up D (!b) y) b x b = x := by rw [hD]; simp
  have hDn : up (up D (!b) y) b x (!b) = y := by rw [hD]; simp
  have hlt0 : K + b.toNat < gs.size := (Array.getElem?_eq_some_iff.1 hg).1
  have hothers : ∀ {u : Nat}, u ≠ K + b.toNat → Deaf (t ++ MemOp.ofEvents (K + b.toNat) g.frame.fn g.frame.place es) u = Deaf t u := fun hu => Deaf_other t (fun e => hu e.symm) _ of_g
  refine ⟨_, _, _, hrun, ?_, (gs.map (woken P g g' w')).setIfInBounds (K + b.toNat) g', w', sl, up (up D (!b) y) b x, tag', f', d0, q, woken P g g' w' a, st', sm', o', rfl, by rw [get_map_set _ _ _ _ (by omega), ha]; rfl, hcs', ?_, hwg, hmode tag' htag hwk, hco, hcm, rfl⟩
  · have e1 := V_up (up D (!b) y) b x
    have e2 : up D (!b) y (!b) = y := by simp [up]
    have e3 : V (up (up D (!b) y) b x) = cnt x + cnt (D (!b)) := by rw [e1, e2, hy.2.2.2.1]
    have e4 := V_eq D b
    have e5 := Sg_up (up D (!b) y) b x
    have e6 := Sg_up D (!b) y
    have e7 : up D (!b) y b = D b := by simp [up]
    have e8 := Fu_up (up D (!b) y) b x
    have e9 := Fu_up D (!b) y
    rw [e7] at e5 e8
    rw [phi_retag _ htag]
    rcases hlt with ⟨h1, h2⟩ | ⟨h1, h2, h3⟩
    · refine Prod.Lex.left _ _ ?_
      have := phi_mono (v' := V (up (up D (!b) y) b x)) (v := V D) (by omega) tag
      omega
    · have ec : cnt x = cnt (D b) := by simp only [cnt, h1]
      have ev : V (up (up D (!b) y) b x) = V D := by omega
      have es : Sg (up (up D (!b) y) b x) = Sg D := by omega
      rw [ev, es]
      refine Prod.Lex.right _ ?_
      omega
  · refine ⟨by simp [hcom.size], fun z => ?_, fun i g2 hi hiK h2 => ?_, fun j hj => ?_, hpt, hcom.norel.app (norel_of hnr), by rw [hothers (by omega), hcom.deaf0], fun z => ?_, fun z hz => ?_, hfin, htp.trans hcom.tape⟩
    · by_cases e : z = b
      · subst e
        exact ⟨g', get_map_set_same _ _ _ hlt0, by rw [hDb]; exact hs'⟩
      · have := bool_cases e
        subst this
        obtain ⟨g2, hg2, hs2⟩ := hcom.wk (!b)
        exact ⟨woken P g g' w' g2, by rw [get_map_set _ _ _ _ (ix_ne b), hg2]; rfl, by rw [hDn]; exact hoth g2 hs2⟩
    · rw [get_map_set _ _ _ _ (by omega)] at h2
      obtain ⟨g3, h3, rfl⟩ := Option.map_eq_some_iff.1 h2
      have hq := hcom.lv i g3 hi hiK h3
      rw [woken_quitsD hq, hothers (by omega)]
      exact hq
    · have : gs.size ≤ j := by simpa using hj
      rw [hothers (by have := hcom.size; cases b <;> simp <;> omega)]
      exact hcom.above j this
    · by_cases e : z = b
      · subst e; rw [Deaf_own, hcom.deafW, hDb]; exact hdeaf
      · have := bool_cases e
        subst this
        rw [hothers (Ne.symm (ix_ne b)), hcom.deafW, hDn]
        exact hy.2.1.symm
    · by_cases e : z = b
      · subst e; rw [hDb] at hz; exact hrel hz
      · have := bool_cases e
        subst this
        rw [hDn] at hz
        obtain ⟨r, hr⟩ := hcom.rel (!b) (hy.2.2.2.2 hz)
        exact ⟨r, hr.appOther of_g (ix_ne b)⟩
end
end Go.Proofs.Ph

/-
  A phase's invariant is kept: by a step of goroutine 0's, by a leaver's, by the communications.
-/
set_option linter.all false
namespace Go.Proofs.Ph
open Go Go.Conc
open Go.ConcR (KK wgBlock WgAt stA smA rd wr mk DC0 Bk)
open Go.ConcN (RelBy sumTo upd sumTo_upd upd_ne upd_same get_map_set get_map_set_same norel_of)

section
variable {P : Program} {ty : TypeId} {Wg c : Nat} {KA : Nat → Prop} {Shun Ro : Loc → Prop} {B : Nat} {val : Value} {Fin : World → Prop} {AnchW : Goroutine → World → Prop} {Anch : Goroutine → Prop} {K : Nat} {τ : Nat → Question → Nat}
  {gs : Array Goroutine} {w w' : World} {sl : Option (Nat × Nat)} {D : Bool → WD} {tag : Tag} {f0 d0 : Nat} {q : Nat → Nat} {a : Goroutine} {t : Trace} {st sm : Int} {o : Obj}

/-- The workers, under a step that leaves the channel. -/
theorem Sit.keep {b : Bool} {s m d : Nat} {g x x' : Goroutine} (h : Sit P ty Wg c KA Shun Ro B val Fin b s m d g w) (hA : RA ty Wg KA w w') (hB : RB ty Wg c w w') (hw : (s = 11 ∨ s = 9) → ∃ cap buf s r tm, w'.heap[c]? = some (.chan cap buf false s r tm)) :
    Sit P ty Wg c KA Shun Ro B val Fin b s m d (woken P x x' w' g) w' := by
  cases b with
  | false =>
    have h' : SA P ty Wg c KA Ro B val s m d g w := h
    rw [h'.stays fun e => hw (.inl e)]
    exact h'.rely hA
  | true =>
    have h' : SB P ty Wg c KA Shun Ro B val Fin s m d g w := h
    rw [h'.stays fun e => hw e]
    exact h'.rely hB
theorem cm_opens (hco : w'.heap[c]? = some o) (hcm : CM (D false).stage (D true).stage o) (b : Bool) (hs : (D b).stage = 11 ∨ (D b).stage = 9) : ∃ cap buf s r tm, w'.heap[c]? = some (.chan cap buf false s r tm) := by
  have : (D false).stage = 11 ∨ (D true).stage = 11 ∨ (D true).stage = 9 := by
    cases b
    · rcases hs with h | h
      · exact .inl h
      · cases hcm <;> omega
    · rcases hs with h | h
      · exact .inr (.inl h)
      · exact .inr (.inr h)
  obtain ⟨cap, buf, s, r, tm, rfl⟩ := hcm.opens this
  exact ⟨_, _, _, _, _, hco⟩

/-- WHATEVER STEP OF GOROUTINE 0's THAT IS ITS OWN. -/
theorem zeroStep (G : Geo ty Wg c KA Shun Ro B Fin K) (ha : gs[0]? = some a) (hcom : Com P ty Wg c KA Shun Ro B val Fin K τ gs w t D d0 q) (hco : w.heap[c]? = some o) (hcm : CM (D false).stage (D true).stage o)
    {a' : Goroutine} {es : Array Event} {tag' : Tag} {f' : Nat} {st' sm' : Int} (hgo : stepG P true a w = .go a' w' es) (hA : RA ty Wg KA w w') (hB : RB ty Wg c w w') (hch : w'.heap[c]? = w.heap[c]?)
    (hpt : PT Shun Wg Ro B K 2 (t ++ MemOp.ofEvents 0 a.frame.fn a.frame.place es)) (hnr : ∀ e ∈ es, e.loc ≠ .mark (.release (stA Wg)))
    (hcs' : CS P ty Wg AnchW Anch tag' f' (deafBehind d0 es) a' w') (hwg : WgAt ty Wg w' st' sm') (hmode : Mode D tag' st' sm') (hlt : phi (V D) tag' < phi (V D) tag ∨ (phi (V D) tag' = phi (V D) tag ∧ f' < f0)) :
    ∃ m₁ ops μ', runT P (crowd gs w sl) 0 = (.next m₁, ops) ∧ Lt2 μ' (phi (V D) tag + Sg D, f0 + 2 * Fu D + 2 * sumTo K q) ∧ Inv P ty Wg c KA Shun Ro B val Fin AnchW Anch K τ μ' m₁ (t ++ ops) := by
  have hk := G.kpos
  have hrun := runT_crowd_go (P := P) (sl := sl) (i := 0) ha (show stepG P (0 == 0) a w = _ from hgo)
  have hothers : ∀ {u : Nat}, u ≠ 0 → Deaf (t ++ MemOp.ofEvents 0 a.frame.fn a.frame.place es) u = Deaf t u := fun hu => Deaf_other t (fun e => hu e.symm) _ of_g
  have hs := hcom.size
  refine ⟨_, _, (phi (V D) tag' + Sg D, f' + 2 * Fu D + 2 * sumTo K q), hrun, ?_, (gs.map (woken P a a' w')).setIfInBounds 0 a', w', sl, D, tag', f', deafBehind d0 es, q, a', st', sm', o, rfl, get_map_set_same _ _ _ (by omega), hcs', ?_, hwg, hmode, by rw [hch]; exact hco, hcm, rfl⟩
  · rcases hlt with h | ⟨h1, h2⟩
    · exact Prod.Lex.left _ _ (by omega)
    · rw [h1]; exact Prod.Lex.right _ (by omega)
  · refine ⟨by simp [hs], fun z => ?_, fun i g2 hi hiK h2 => ?_, fun j hj => ?_, hpt, hcom.norel.app (norel_of hnr), by rw [Deaf_own, hcom.deaf0], fun z => by rw [hothers (by omega)]; exact hcom.deafW z, fun z hz => ?_, fun hf => G.fin _ _ hB (hcom.fin hf), hB.tape.trans hcom.tape⟩
    · obtain ⟨g2, hg2, hs2⟩ := hcom.wk z
      refine ⟨woken P a a' w' g2, by rw [get_map_set _ _ _ _ (by omega), hg2]; rfl, hs2.keep hA hB fun e => ?_⟩
      exact cm_opens (D := D) (by rw [hch]; exact hco) hcm z e
    · rw [get_map_set _ _ _ _ (by omega)] at h2
      obtain ⟨g3, h3, rfl⟩ := Option.map_eq_some_iff.1 h2
      have hq := hcom.lv i g3 hi hiK h3
      rw [woken_quitsD hq, hothers (by omega)]
      exact hq
    · have : gs.size ≤ j := by simpa using hj
      rw [hothers (by omega)]
      exact hcom.above j this
    · obtain ⟨r, hr⟩ := hcom.rel z hz
      exact ⟨r, hr.appOther of_g (by omega)⟩

/-- A LEAVER's STEP. -/
theorem leaverStep (G : Geo ty Wg c KA Shun Ro B Fin K) (hAr : ∀ g w, AnchW g w → g.status = .running) (ha : gs[0]? = some a) (hcs : CS P ty Wg AnchW Anch tag f0 d0 a w) (hcom : Com P ty Wg c KA Shun Ro B val Fin K τ gs w t D d0 q) (hwg : WgAt ty Wg w st sm) (hmode : Mode D tag st sm)
    (hco : w.heap[c]? = some o) (hcm : CM (D false).stage (D true).stage o) {i : Nat} {g : Goroutine} (hi : 0 < i) (hiK : i < K) (hg : gs[i]? = some g) (hgr : g.status = .running) :
    ∃ m₁ ops μ', runT P (crowd gs w sl) i = (.next m₁, ops) ∧ Lt2 μ' (phi (V D) tag + Sg D, f0 + 2 * Fu D + 2 * sumTo K q) ∧ Inv P ty Wg c KA Shun Ro B val Fin AnchW Anch K τ μ' m₁ (t ++ ops) := by
  have hq := hcom.lv i g hi hiK hg
  have hlt0 : i < gs.size := (Array.getElem?_eq_some_iff.1 hg).1
  cases hqi : q i with
  | zero => rw [hqi] at hq; rw [hq.1] at hgr; cases hgr
  | succ k =>
    rw [hqi] at hq
    rcases hq with ⟨hf, _⟩ | ⟨_, g', es, hm, hstp, hq'⟩
    · rw [hf] at hgr; cases hgr
    obtain ⟨tag', f', hcs', hf', htag, hwk⟩ := hcs.wokenBy hAr (R0.refl w) g g'
    have hi0 : (i == 0) = false := by simp; omega
    have hrun := runT_crowd_go (P := P) (sl := sl) (i := i) hg (by rw [hi0]; exact hstp w)
    have hothers : ∀ {u : Nat}, u ≠ i → Deaf (t ++ MemOp.ofEvents i g.frame.fn g.frame.place es) u = Deaf t u := fun hu => Deaf_other t (fun e => hu e.symm) _ of_g
    have hs := hcom.size
    have hsum : sumTo K (upd q i k) + (k + 1) = sumTo K q + k := by
      have := sumTo_upd q k id hiK
      simpa [hqi] using this
    refine ⟨_, _, (phi (V D) tag' + Sg D, f' + 2 * Fu D + 2 * sumTo K (upd q i k)), hrun, ?_, (gs.map (woken P g g' w)).setIfInBounds i g', w, sl, D, tag', f', d0, upd q i k, woken P g g' w a, st, sm, o, rfl, by rw [get_map_set _ _ _ _ (by omega), ha]; rfl, hcs', ?_, hwg, hmode.retag htag, hco, hcm, rfl⟩
    · rw [phi_retag _ htag]
      exact Prod.Lex.right _ (by omega)
    · refine ⟨by simp [hs], fun z => ?_, fun j g2 hj hjK h2 => ?_, fun j hj => ?_, pt_mute hcom.pt fun e he => ⟨touch_mute (hm e he), low_mute (hm e he) B⟩, hcom.norel.app (norel_of fun e he => ?_), by rw [hothers (by omega), hcom.deaf0], fun z => by rw [hothers (by omega)]; exact hcom.deafW z, fun z hz => ?_, hcom.fin, hcom.tape⟩
      · obtain ⟨g2, hg2, hs2⟩ := hcom.wk z
        exact ⟨woken P g g' w g2, by rw [get_map_set _ _ _ _ (by omega), hg2]; rfl, hs2.keep (RA.refl w) (RB.refl w) fun e => cm_opens (D := D) hco hcm z e⟩
      · by_cases hji : i = j
        · subst hji
          rw [get_map_set_same _ _ _ hlt0] at h2
          cases h2
          rw [upd_same, Deaf_own]
          exact hq'
        · rw [get_map_set _ _ _ _ hji] at h2
          obtain ⟨g3, h3, rfl⟩ := Option.map_eq_some_iff.1 h2
          have hqj := hcom.lv j g3 hj hjK h3
          rw [woken_quitsD hqj, upd_ne q k (Ne.symm hji), hothers (Ne.symm hji)]
          exact hqj
      · have : gs.size ≤ j := by simpa using hj
        rw [hothers (by omega)]
        exact hcom.above j this
      · intro hl
        have := hm e he
        obtain ⟨loc, x, s⟩ := e
        simp only at hl
        subst hl
        cases this
      · obtain ⟨r, hr⟩ := hcom.rel z hz
        exact ⟨r, hr.appOther of_g (by omega)⟩

/-! ### the communications -/
theorem rel_mutes {ad : Addr} {K : Nat} {t : Trace} {r : Nat} (h : RelBy ad t K r) {u : Trace} (hu : ∀ op ∈ u, op.act.touch? = none) : RelBy ad (t ++ u) K r := by
  refine h.app fun i hi _ hc => ?_
  obtain ⟨x, hx, _⟩ := hc
  obtain ⟨op, hop, hox⟩ := touch_of hx
  rcases getElem?_append_cases hop with ⟨hlt, _⟩ | ⟨_, hm⟩
  · omega
  · rw [hu op hm] at hox; cases hox
theorem deaf_mutes {t u : Trace} {g : Nat} (hu : ∀ op ∈ u, op.act ≠ .mark .disable ∧ op.act ≠ .mark .enable) : Deaf (t ++ u) g = Deaf t g := Go.ConcN.Deaf_still t g u hu
/-- Nobody but the two workers offers anything. -/
theorem no_offers (hAr : ∀ g w, AnchW g w → g.status = .running) (ha : gs[0]? = some a) (hcs : CS P ty Wg AnchW Anch tag f0 d0 a w) (hcom : Com P ty Wg c KA Shun Ro B val Fin K τ gs w t D d0 q) {j : Nat} {g : Goroutine} (hg : gs[j]? = some g) (hj : ∀ b : Bool, j ≠ K + b.toNat) (r : Nat) (send : Bool) : offersAt g r send = [] := by
  rcases Nat.eq_zero_or_pos j with rfl | hj0
  · rw [ha] at hg
    cases hg
    rcases hcs.status hAr with ⟨h, _⟩ | ⟨h1, h2, _⟩
    · exact offersAt_of_not_blocked (by rw [h]; simp) r send
    · unfold offersAt; rw [h1, h2]
  · have hlt : j < gs.size := (Array.getElem?_eq_some_iff.1 hg).1
    have hs := hcom.size
    have h1 := hj false
    have h2 := hj true
    simp at h1 h2
    have hq := hcom.lv j g hj0 (by omega) hg
    rcases hq.status with h | h
    · exact offersAt_of_not_blocked (by rw [h]; simp) r send
    · exact offersAt_of_not_blocked (by rw [h]; simp) r send
/-- The partners of worker b: the other worker's offers. -/
theorem partners_other (hAr : ∀ g w, AnchW g w → g.status = .running) (ha : gs[0]? = some a) (hcs : CS P ty Wg AnchW Anch tag f0 d0 a w) (hcom : Com P ty Wg c KA Shun Ro B val Fin K τ gs w t D d0 q) (hk : 0 < K) (b : Bool) {g2 : Goroutine} (hg2 : gs[K + (!b).toNat]? = some g2) (r : Nat) (send : Bool) :
    partners (gs.setIfInBounds (K + b.toNat) ph) r send = (offersAt g2 r send).map fun k => (K + (!b).toNat, k) := by
  refine partners_one (stand_get (fun e => ix_ne (K := K) b e.symm) hg2) fun k x hk2 hx => ?_
  rcases getElem?_stand gs _ k x hx with ⟨_, rfl⟩ | ⟨h1, h2⟩
  · exact offersAt_ph r send
  · refine no_offers hAr ha hcs hcom h2 (fun z e => ?_) r send
    subst e
    by_cases hz : z = b
    · subst hz; exact h1 rfl
    · have := bool_cases hz; subst this; exact hk2 rfl
end
end Go.Proofs.Ph

/-
  A phase's invariant is kept by the workers' steps, each kind.
-/
set_option linter.all false
namespace Go.Proofs.Ph
open Go Go.Conc
open Go.ConcR (KK wgBlock WgAt stA smA rd wr mk DC0 Bk)
open Go.ConcN (RelBy sumTo upd sumTo_upd upd_ne upd_same get_map_set get_map_set_same norel_of)

section
variable {P : Program} {ty : TypeId} {Wg c : Nat} {KA : Nat → Prop} {Shun Ro : Loc → Prop} {B : Nat} {val : Value} {Fin : World → Prop} {AnchW : Goroutine → World → Prop} {Anch : Goroutine → Prop} {K : Nat} {τ : Nat → Question → Nat}
  {gs gs' : Array Goroutine} {w w' : World} {sl : Option (Nat × Nat)} {D D' : Bool → WD} {tag : Tag} {f0 d0 : Nat} {q : Nat → Nat} {a : Goroutine} {t : Trace} {st sm : Int} {o o' : Obj}

/-- Words about a channel. -/
def Talk (B : Nat) (op : MemOp) : Prop := op.act.touch? = none ∧ op.act.low B ∧ ∀ m, op.act ≠ .mark m
theorem Com.comm (hcom : Com P ty Wg c KA Shun Ro B val Fin K τ gs w t D d0 q) (hsz : gs'.size = gs.size) (hkeep : ∀ i, (∀ b : Bool, i ≠ K + b.toNat) → gs'[i]? = gs[i]?) {u : Trace} (hu : ∀ op ∈ u, Talk B op)
    (hwk : ∀ b, ∃ g, gs'[K + b.toNat]? = some g ∧ Sit P ty Wg c KA Shun Ro B val Fin b (D' b).stage (D' b).fuel (D' b).deaf g w') (hdeaf : ∀ b, (D' b).deaf = (D b).deaf) (hst : ∀ b, (D' b).stage ≤ 6 → (D b).stage ≤ 6)
    (hfin : (D' true).stage ≤ 9 → Fin w') (htape : w'.tape = w.tape) : Com P ty Wg c KA Shun Ro B val Fin K τ gs' w' (t ++ u) D' d0 q := by
  have hm : ∀ {g : Nat}, Deaf (t ++ u) g = Deaf t g := deaf_mutes fun op hop => ⟨(hu op hop).2.2 _, (hu op hop).2.2 _⟩
  refine ⟨hsz.trans hcom.size, hwk, fun i g hi hiK hg => ?_, fun j hj => ?_, ?_, hcom.norel.app fun op hop => (hu op hop).2.2 _, by rw [hm]; exact hcom.deaf0, fun b => by rw [hm, hcom.deafW, hdeaf], fun b hb => ?_, hfin, htape.trans hcom.tape⟩
  · rw [hkeep i fun b => by omega] at hg
    rw [hm]
    exact hcom.lv i g hi hiK hg
  · rw [hm]
    exact hcom.above j (by rw [← hsz]; exact hj)
  · have := PT.mutes u.toList hcom.pt fun op hop => ⟨(hu op (by simpa using hop)).1, (hu op (by simpa using hop)).2.1⟩
    simpa using this
  · obtain ⟨r, hr⟩ := hcom.rel b (hst b hb)
    exact ⟨r, rel_mutes hr fun op hop => (hu op hop).1⟩
theorem Mode.works (h : Mode D tag st sm) (h1 : ∀ b, 5 ≤ (D b).stage) (h2 : ∀ b, 5 ≤ (D' b).stage) : Mode D' tag st sm := by
  have e := (h.work (b := false) (h1 false) (x := D' false) (h2 false)).work (b := true) (by rw [show up D false (D' false) true = D true by simp [up]]; exact h1 true) (x := D' true) (h2 true)
  have : up (up D false (D' false)) true (D' true) = D' := by funext b; cases b <;> simp [up]
  rwa [this] at e
theorem Mode.one (h : Mode D tag st sm) {b : Bool} (h1 : 5 ≤ (D b).stage) (h2 : 5 ≤ (D' b).stage) (h3 : D' (!b) = D (!b)) : Mode D' tag st sm := by
  have e := h.work h1 (x := D' b) h2
  have : up D b (D' b) = D' := by
    funext z
    by_cases hz : z = b
    · subst hz; simp [up]
    · have := bool_cases hz; subst this; rw [up_other]; exact h3.symm
  rwa [this] at e
theorem ofEvents_nil (g : Nat) (fn : FuncId) (pos : String) : MemOp.ofEvents g fn pos #[] = #[] := rfl
theorem V_full (h : ∀ b, 5 ≤ (D b).stage) : V D = 2 := by
  have h1 := h false
  have h2 := h true
  simp [V, cnt, h1, h2]

/-- A worker parks. -/
theorem waitStep (G : Geo ty Wg c KA Shun Ro B Fin K) (ha : gs[0]? = some a) (hcs : CS P ty Wg AnchW Anch tag f0 d0 a w) (hcom : Com P ty Wg c KA Shun Ro B val Fin K τ gs w t D d0 q) (hwg : WgAt ty Wg w st sm) (hmode : Mode D tag st sm)
    (hco : w.heap[c]? = some o) {b : Bool} {g : Goroutine} {cs : Array CommCase} {sh : CommShape} {s' : Nat} (hg : gs[K + b.toNat]? = some g) (hst : stepG P false g w = .comm g cs true sh w #[]) (hno : ∀ cc ∈ cs, NoWays w (gs.setIfInBounds (K + b.toNat) ph) cc)
    (hd : (D b).deaf = 0) (hs5 : 5 ≤ (D b).stage) (hs : s' < (D b).stage) (hs9 : 9 ≤ s') (hsit : Sit P ty Wg c KA Shun Ro B val Fin b s' 0 0 (parked g cs sh) w) (hfin : b = true → s' ≤ 9 → Fin w)
    (hcm : CM (up D b ⟨s', 0, 0⟩ false).stage (up D b ⟨s', 0, 0⟩ true).stage o) :
    ∃ m₁ ops μ', runT P (crowd gs w sl) (K + b.toNat) = (.next m₁, ops) ∧ Lt2 μ' (phi (V D) tag + Sg D, f0 + 2 * Fu D + 2 * sumTo K q) ∧ Inv P ty Wg c KA Shun Ro B val Fin AnchW Anch K τ μ' m₁ (t ++ ops) := by
  have hk := G.kpos
  have hi0 : (K + b.toNat == 0) = false := by simp; omega
  have hlt0 : K + b.toNat < gs.size := (Array.getElem?_eq_some_iff.1 hg).1
  have hrun := crowd_waits (P := P) (sl := sl) (i := K + b.toNat) hg (by rw [hi0]; exact hst) hno
  rw [ofEvents_nil] at hrun
  have hm := hmode.work hs5 (x := ⟨s', 0, 0⟩) (by show 5 ≤ s'; omega)
  have eS := Sg_up D b ⟨s', 0, 0⟩
  have eV : V (up D b ⟨s', 0, 0⟩) = V D := by
    rw [V_up, V_eq D b]
    have : 5 ≤ s' := by omega
    simp [cnt, hs5, this]
  refine ⟨_, _, _, hrun, ?_, gs.setIfInBounds (K + b.toNat) (parked g cs sh), w, sl, up D b ⟨s', 0, 0⟩, tag, f0, d0, q, a, st, sm, o, rfl, by rw [Array.getElem?_setIfInBounds_ne (by omega)]; exact ha, hcs, ?_, hwg, hm, hco, hcm, rfl⟩
  · refine Prod.Lex.left _ _ ?_
    rw [eV]
    simp only at eS
    omega
  · refine hcom.comm (by simp) (fun i hi => by rw [Array.getElem?_setIfInBounds_ne (fun e => hi b e.symm)]) (by simp) (fun z => ?_) (fun z => ?_) (fun z hz => ?_) (fun hf => ?_) rfl
    · by_cases e : z = b
      · subst e
        exact ⟨_, by rw [Array.getElem?_setIfInBounds_self_of_lt hlt0], by rw [up_same]; exact hsit⟩
      · have := bool_cases e
        subst this
        obtain ⟨g2, h1, h2⟩ := hcom.wk (!b)
        exact ⟨g2, by rw [Array.getElem?_setIfInBounds_ne (ix_ne b)]; exact h1, by rw [up_other]; exact h2⟩
    · by_cases e : z = b
      · subst e; rw [up_same]; exact hd.symm
      · have := bool_cases e; subst this; rw [up_other]
    · by_cases e : z = b
      · subst e; rw [up_same] at hz; simp only at hz; omega
      · have := bool_cases e; subst this; rw [up_other] at hz; exact hz
    · by_cases e : b = true
      · subst e; rw [up_same] at hf; exact hfin rfl hf
      · have := bool_cases (Ne.symm e); 
        have hb : b = false := by simpa using e
        subst hb
        exact hcom.fin (by simpa [up] using hf)

theorem setChan_off {cap : Nat} {buf : Array Value} {cl : Bool} {s r : Nat} {tm : Bool} {b : Nat} (h : b ≠ c) : (w.setChan c cap buf cl s r tm).heap[b]? = w.heap[b]? := by
  simp only [World.setChan]
  rw [Array.getElem?_setIfInBounds_ne (Ne.symm h)]
theorem setChan_on {cap : Nat} {buf : Array Value} {cl : Bool} {s r : Nat} {tm : Bool} (h : w.heap[c]? = some o) : (w.setChan c cap buf cl s r tm).heap[c]? = some (.chan cap buf cl s r tm) := by
  have := (Array.getElem?_eq_some_iff.1 h).1
  simp [World.setChan, this]
theorem chan_rely (G : Geo ty Wg c KA Shun Ro B Fin K) (hco : w.heap[c]? = some o) (cap : Nat) (buf : Array Value) (cl : Bool) (s r : Nat) (tm : Bool) :
    RA ty Wg KA w (w.setChan c cap buf cl s r tm) ∧ RB ty Wg c w (w.setChan c cap buf cl s r tm) := by
  have hl : WgLive ty Wg w → WgLive ty Wg (w.setChan c cap buf cl s r tm) := fun ⟨st, sm, h⟩ => ⟨st, sm, h.of_block (setChan_off G.wc)⟩
  exact ⟨⟨fun b hb => setChan_off (G.ka b hb).2, hl⟩, ⟨rfl, rfl, rfl, by simp [World.setChan], fun b h1 h2 => setChan_off h2, hl, fun _ => ⟨_, _, _, _, _, _, setChan_on hco⟩⟩⟩

/-- The two meet. -/
theorem meetStep (G : Geo ty Wg c KA Shun Ro B Fin K) (ha : gs[0]? = some a) (hcs : CS P ty Wg AnchW Anch tag f0 d0 a w) (hcom : Com P ty Wg c KA Shun Ro B val Fin K τ gs w t D d0 q) (hwg : WgAt ty Wg w st sm) (hmode : Mode D tag st sm)
    (hco : w.heap[c]? = some (.chan 0 #[] false 0 0 false)) {b : Bool} {gA gB : Goroutine} {u : Trace} {mA mB : Nat} (hlt0 : K + 1 < gs.size)
    (hrun : runT P (crowd gs w sl) (K + b.toNat) = (.next (crowd gs' (w.setChan c 0 #[] false 1 1 false) sl), u)) (hgs : gs'.size = gs.size ∧ gs'[K]? = some gA ∧ gs'[K + 1]? = some gB ∧ ∀ i, i ≠ K → i ≠ K + 1 → gs'[i]? = gs[i]?) (hu : ∀ op ∈ u, Talk B op)
    (hA : Goes P false (RA ty Wg KA) (DA Ro B) (AtClose P ty Wg c) mA gA w) (hB : Goes P false (RB ty Wg c) (DB Shun Ro B Wg c KA) (AtRecv2 P ty Wg c Fin) mB gB w)
    (hd : ∀ b, (D b).deaf = 0) (hs : ∀ b, 11 ≤ (D b).stage) :
    ∃ m₁ ops μ', runT P (crowd gs w sl) (K + b.toNat) = (.next m₁, ops) ∧ Lt2 μ' (phi (V D) tag + Sg D, f0 + 2 * Fu D + 2 * sumTo K q) ∧ Inv P ty Wg c KA Shun Ro B val Fin AnchW Anch K τ μ' m₁ (t ++ ops) := by
  obtain ⟨r1, r2⟩ := chan_rely G hco 0 #[] false 1 1 false
  obtain ⟨z1, z2, z3, z4⟩ := hgs
  let D' : Bool → WD := fun b => if b then ⟨10, mB, 0⟩ else ⟨10, mA, 0⟩
  have h5 : ∀ b, 5 ≤ (D' b).stage := by intro b; cases b <;> simp [D']
  have hk := G.kpos
  refine ⟨_, _, (phi (V D') tag + Sg D', f0 + 2 * Fu D' + 2 * sumTo K q), hrun, ?_, gs', w.setChan c 0 #[] false 1 1 false, sl, D', tag, f0, d0, q, a, st, sm, .chan 0 #[] false 1 1 false, rfl, by rw [z4 0 (by omega) (by omega)]; exact ha, hcs.rely r1.live, ?_, hwg.of_block (setChan_off G.wc), hmode.works (fun b => by have := hs b; omega) h5, setChan_on hco, .c2 rfl (.inl rfl), rfl⟩
  · refine Prod.Lex.left _ _ ?_
    rw [V_full h5, V_full (fun b => by have := hs b; omega)]
    have h1 := hs false
    have h2 := hs true
    simp only [Sg, D']
    simp
    omega
  · refine hcom.comm z1 (fun i hi => z4 i (by simpa using hi false) (by simpa using hi true)) hu (fun b => ?_) (fun b => ?_) (fun b hb => ?_) (fun hf => ?_) rfl
    · cases b
      · exact ⟨gA, by simpa using z2, .close (Goes.rely RA.trans hA r1)⟩
      · exact ⟨gB, by simpa using z3, .more (Goes.rely RB.trans hB r2)⟩
    · rw [hd b]; cases b <;> rfl
    · have := h5 b; cases b <;> simp [D'] at hb
    · simp [D'] at hf

theorem talk_of {g : Nat} {fn : FuncId} {pos : String} {x : MemAct} (h : x.touch? = none ∧ x.low B ∧ ∀ m, x ≠ .mark m) : Talk B { g, fn, pos, act := x } := h

/-- The second worker finds the channel closed. -/
theorem closedStep (G : Geo ty Wg c KA Shun Ro B Fin K) (hAr : ∀ g w, AnchW g w → g.status = .running) (ha : gs[0]? = some a) (hcs : CS P ty Wg AnchW Anch tag f0 d0 a w) (hcom : Com P ty Wg c KA Shun Ro B val Fin K τ gs w t D d0 q) (hwg : WgAt ty Wg w st sm) (hmode : Mode D tag st sm)
    (hco : w.heap[c]? = some (.chan 0 #[] true 1 1 false)) {g g₂ : Goroutine} {z : Value} {m : Nat} (hg : gs[K + 1]? = some g) (hst : stepG P false g w = .comm g₂ #[rcase c z] true (.recv true) w #[])
    (hgo : Goes P false (R0 ty Wg) DC0 (AtR0 P ty Wg) m (Conc.served g₂ (recvd true z false)) w) (hfin : Fin w) (hsA : (D false).stage ≤ 7) (hd : (D true).deaf = 0) (hs : 8 ≤ (D true).stage) :
    ∃ m₁ ops μ', runT P (crowd gs w sl) (K + 1) = (.next m₁, ops) ∧ Lt2 μ' (phi (V D) tag + Sg D, f0 + 2 * Fu D + 2 * sumTo K q) ∧ Inv P ty Wg c KA Shun Ro B val Fin AnchW Anch K τ μ' m₁ (t ++ ops) := by
  have hk := G.kpos
  have hi0 : (K + 1 == 0) = false := by simp
  have hlt0 : K + 1 < gs.size := (Array.getElem?_eq_some_iff.1 hg).1
  obtain ⟨gA, hgA, hsitA⟩ := hcom.wk false
  have hp : partners (gs.setIfInBounds (K + 1) ph) c true = [] := by
    rw [show partners (gs.setIfInBounds (K + 1) ph) c true = _ from partners_other hAr ha hcs hcom hk true hgA c true]
    have hsa : SA P ty Wg c KA Ro B val (D false).stage (D false).fuel (D false).deaf gA w := hsitA
    rcases hsa.status (by omega) with h | h
    · rw [offersAt_of_not_blocked (by rw [h]; simp)]; rfl
    · rw [offersAt_of_not_blocked (by rw [h]; simp)]; rfl
  have hrun := crowd_recv_closed (P := P) (sl := sl) (i := K + 1) hg (by rw [hi0]; exact hst) hco hp
  rw [ofEvents_nil] at hrun
  rw [finishComm_recv] at hrun
  have hm := hmode.work (b := true) (by omega) (x := ⟨7, m, 0⟩) (by show 5 ≤ 7; omega)
  have eS := Sg_up D true ⟨7, m, 0⟩
  have eV : V (up D true ⟨7, m, 0⟩) = V D := by
    rw [V_up, V_eq D true]
    have : 5 ≤ (D true).stage := by omega
    simp [cnt, this]
  refine ⟨_, _, _, hrun, ?_, gs.setIfInBounds (K + 1) (Conc.served g₂ (recvd true z false)), w, sl, up D true ⟨7, m, 0⟩, tag, f0, d0, q, a, st, sm, _, rfl, by rw [Array.getElem?_setIfInBounds_ne (by omega)]; exact ha, hcs, ?_, hwg, hm, hco, .c3 (by simpa [up] using hsA) (.inr (.inr (by simp [up]))), rfl⟩
  · refine Prod.Lex.left _ _ ?_
    rw [eV]
    simp only at eS
    omega
  · refine hcom.comm (by simp) (fun i hi => by have h1 := hi true; simp only [Bool.toNat_true] at h1; rw [Array.getElem?_setIfInBounds_ne (fun e => h1 e.symm)]) (fun op hop => ?_) (fun b => ?_) (fun b => ?_) (fun b hb => ?_) (fun _ => hfin) rfl
    · have : op = { g := K + 1, fn := g₂.frame.fn, pos := g₂.frame.place, act := MemAct.recvClosed c } := by simpa using hop
      subst this
      exact talk_of ⟨rfl, G.ch, fun m => by simp⟩
    · cases b
      · exact ⟨gA, by rw [Array.getElem?_setIfInBounds_ne (by simp)]; exact hgA, by simpa [up] using hsitA⟩
      · exact ⟨_, by show (gs.setIfInBounds (K + 1) _)[K + 1]? = _; rw [Array.getElem?_setIfInBounds_self_of_lt hlt0], by rw [up_same]; exact .tail (.r0 hgo)⟩
    · cases b
      · simp [up]
      · rw [up_same]; exact hd.symm
    · cases b
      · simpa [up] using hb
      · rw [up_same] at hb; simp at hb
end
end Go.Proofs.Ph

/-
  A phase's invariant is kept by whatever step of a worker's.
-/
set_option linter.all false
namespace Go.Proofs.Ph
open Go Go.Conc
open Go.ConcR (KK wgBlock WgAt stA smA rd wr mk DC0 Bk)
open Go.ConcN (RelBy sumTo upd sumTo_upd upd_ne upd_same get_map_set get_map_set_same norel_of)

section
variable {P : Program} {ty : TypeId} {Wg c : Nat} {KA : Nat → Prop} {Shun Ro : Loc → Prop} {B : Nat} {val : Value} {Fin : World → Prop} {AnchW : Goroutine → World → Prop} {Anch : Goroutine → Prop} {K : Nat} {τ : Nat → Question → Nat}
  {gs gs' : Array Goroutine} {w w' : World} {sl : Option (Nat × Nat)} {D D' : Bool → WD} {tag : Tag} {f0 d0 : Nat} {q : Nat → Nat} {a : Goroutine} {t : Trace} {st sm : Int} {o o' : Obj}

theorem goes_cases {main : Bool} {R : World → World → Prop} {E : World → World → Array Event → Prop} {Stop : Goroutine → World → Prop} {n : Nat} {g : Goroutine} {w : World} (hr : R w w) (h : Goes P main R E Stop n g w) :
    Stop g w ∨ ∃ m g' w' es, n = m + 1 ∧ stepG P main g w = .go g' w' es ∧ E w w' es ∧ Goes P main R E Stop m g' w' := by
  cases n with
  | zero => exact .inl (h w hr)
  | succ n =>
    rcases h with h | ⟨_, h⟩
    · exact .inl (h w hr)
    · have := h w hr
      cases hs : stepG P main g w with
      | go g' w' es => rw [hs] at this; exact .inr ⟨n, g', w', es, rfl, rfl, this.1, this.2⟩
      | _ => rw [hs] at this; exact this.elim

/-- A step of a worker's that leaves the other worker and the channel. -/
theorem workerSame (G : Geo ty Wg c KA Shun Ro B Fin K) (hAr : ∀ g w, AnchW g w → g.status = .running) (ha : gs[0]? = some a) (hcs : CS P ty Wg AnchW Anch tag f0 d0 a w) (hcom : Com P ty Wg c KA Shun Ro B val Fin K τ gs w t D d0 q)
    (hco : w.heap[c]? = some o) (hcm : CM (D false).stage (D true).stage o)
    {b : Bool} {g g' : Goroutine} {es : Array Event} {x : WD} {st' sm' : Int} (hg : gs[K + b.toNat]? = some g) (hgo : stepG P false g w = .go g' w' es) (h0 : R0 ty Wg w w') (htp : w'.tape = w.tape)
    (hA : b = true → RA ty Wg KA w w') (hB : b = false → RB ty Wg c w w') (hch : w'.heap[c]? = w.heap[c]?)
    (hs' : Sit P ty Wg c KA Shun Ro B val Fin b x.stage x.fuel x.deaf g' w')
    (hpt : PT Shun Wg Ro B K 2 (t ++ MemOp.ofEvents (K + b.toNat) g.frame.fn g.frame.place es)) (hnr : ∀ e ∈ es, e.loc ≠ .mark (.release (stA Wg))) (hdeaf : deafBehind (D b).deaf es = x.deaf)
    (hrel : x.stage ≤ 6 → ∃ r, RelBy (stA Wg) (t ++ MemOp.ofEvents (K + b.toNat) g.frame.fn g.frame.place es) (K + b.toNat) r)
    (hfin : b = true → x.stage ≤ 9 → Fin w') (hwg : WgAt ty Wg w' st' sm') (hcm' : CM (up D b x false).stage (up D b x true).stage o)
    (hmode : ∀ tag', (tag' = tag ∨ (tag = .blk ∧ tag' = .w3)) → (mayWake P g = true → g'.status = .running → tag' ≠ .blk) → Mode (up D b x) tag' st' sm')
    (hlt : (x.stage < (D b).stage ∧ cnt x ≤ cnt (D b)) ∨ (x.stage = (D b).stage ∧ x.fuel + 1 = (D b).fuel)) : (∃ m₁ ops μ', runT P (crowd gs w sl) (K + Bool.toNat b) = (Stepped.next m₁, ops) ∧ Lt2 μ' (phi (V D) tag + Sg D, f0 + 2 * Fu D + 2 * sumTo K q) ∧ Inv P ty Wg c KA Shun Ro B val Fin AnchW Anch K τ μ' m₁ (t ++ ops)) := by
  have e : up (up D (!b) (D (!b))) b x = up D b x := by
    have : up D (!b) (D (!b)) = D := by funext z; by_cases hz : z = !b <;> simp [up, hz]
    rw [this]
  refine workerStep (sl := sl) G hAr ha hcs hcom (b := b) (x := x) (y := D (!b)) (o' := o) hg hgo h0 htp hs' (fun g2 h2 => ?_) ⟨rfl, rfl, Nat.le_refl _, rfl, id⟩ hpt hnr hdeaf hrel (fun hf => ?_) hwg (by rw [hch]; exact hco) (by rw [e]; exact hcm') (by rw [e]; exact hmode) (hlt.imp id fun h => ⟨h.1, rfl, h.2⟩)
  · have hop : ((D (!b)).stage = 11 ∨ (D (!b)).stage = 9) → ∃ cap buf s r tm, w'.heap[c]? = some (.chan cap buf false s r tm) := fun hs => by
      exact cm_opens (D := D) (by rw [hch]; exact hco) hcm (!b) hs
    cases b with
    | true =>
      have h2' : SA P ty Wg c KA Ro B val (D false).stage (D false).fuel (D false).deaf g2 w := h2
      show SA P ty Wg c KA Ro B val _ _ _ _ _
      rw [h2'.stays fun hs => hop (.inl hs)]
      exact h2'.rely (hA rfl)
    | false =>
      have h2' : SB P ty Wg c KA Shun Ro B val Fin (D true).stage (D true).fuel (D true).deaf g2 w := h2
      show SB P ty Wg c KA Shun Ro B val Fin _ _ _ _ _
      rw [h2'.stays fun hs => hop hs]
      exact h2'.rely (hB rfl)
  · rw [e] at hf
    cases b with
    | true => rw [up_same] at hf; exact hfin rfl hf
    | false => exact G.fin _ _ (hB rfl) (hcom.fin (by simpa [up] using hf))

theorem one_mem {e x : Event} (h : e ∈ #[x]) : e = x := by simpa using h
theorem deaf_rw (n : Nat) : deafBehind n #[rd (stA Wg), wr (stA Wg)] = n ∧ deafBehind n #[rd (stA Wg)] = n ∧ deafBehind n #[wr (stA Wg)] = n := ⟨rfl, rfl, rfl⟩
theorem sem_deaf (n : Nat) : deafBehind n (semEvents (smA Wg)) = n := by
  show n + 1 - 1 = n
  omega
theorem bk_rd : Bk Wg (rd (stA Wg)) := .inr (.inr ⟨stA Wg, false, rfl, rfl⟩)
theorem bk_wr : Bk Wg (wr (stA Wg)) := .inr (.inr ⟨stA Wg, true, rfl, rfl⟩)
theorem bk_sem : ∀ e ∈ semEvents (smA Wg), Bk Wg e := by
  intro e he
  simp only [semEvents, List.mem_toArray, List.mem_cons, List.not_mem_nil, or_false] at he
  rcases he with rfl | rfl | rfl | rfl
  · exact .inl rfl
  · exact .inr (.inr ⟨smA Wg, false, rfl, rfl⟩)
  · exact .inr (.inr ⟨smA Wg, true, rfl, rfl⟩)
  · exact .inr (.inl rfl)
theorem bk_norel {es : Array Event} (h : ∀ e ∈ es, Bk Wg e) : ∀ e ∈ es, e.loc ≠ .mark (.release (stA Wg)) := by
  intro e he hl
  rcases h e he with h1 | h1 | ⟨x, y, rfl, _⟩
  · rw [h1] at hl; cases hl
  · rw [h1] at hl; cases hl
  · cases hl
theorem idle_rel {g : Nat} {fn : FuncId} {pos : String} {r : Nat} (h : RelBy (stA Wg) t g r) : RelBy (stA Wg) (t ++ MemOp.ofEvents g fn pos #[]) g r := by
  rw [ofEvents_nil]; simpa using h
theorem setCell_off {x : Addr} {v : Value} {b : Nat} (h : b ≠ x.block) : (w.setCell x v).heap[b]? = w.heap[b]? := by
  simp [World.setCell, Array.getElem?_modify, Ne.symm h]
theorem wg_rely (G : Geo ty Wg c KA Shun Ro B Fin K) {v : Value} {x : Addr} (hx : x.block = Wg) (hl : WgLive ty Wg (w.setCell x v)) :
    R0 ty Wg w (w.setCell x v) ∧ RA ty Wg KA w (w.setCell x v) ∧ RB ty Wg c w (w.setCell x v) ∧ (w.setCell x v).heap[c]? = w.heap[c]? := by
  have hb : ∀ b, b ≠ Wg → (w.setCell x v).heap[b]? = w.heap[b]? := fun b hb => setCell_off (by rw [hx]; exact hb)
  exact ⟨fun _ => hl, ⟨fun b h => hb b (G.ka b h).1, fun _ => hl⟩, ⟨rfl, rfl, rfl, by simp, fun b h1 _ => hb b h1, fun _ => hl, fun ⟨a1, a2, a3, a4, a5, a6, h⟩ => ⟨a1, a2, a3, a4, a5, a6, by rw [hb c (Ne.symm G.wc)]; exact h⟩⟩, hb c (Ne.symm G.wc)⟩

/-- A worker behind its work. -/
theorem tailStep (G : Geo ty Wg c KA Shun Ro B Fin K) (hAr : ∀ g w, AnchW g w → g.status = .running) (ha : gs[0]? = some a) (hcs : CS P ty Wg AnchW Anch tag f0 d0 a w) (hcom : Com P ty Wg c KA Shun Ro B val Fin K τ gs w t D d0 q) (hwg : WgAt ty Wg w st sm) (hmode : Mode D tag st sm)
    (hco : w.heap[c]? = some o) (hcm : CM (D false).stage (D true).stage o) {b : Bool} {g : Goroutine} (hg : gs[K + b.toNat]? = some g) (hr : g.status = .running) (hsit : TS P ty Wg (D b).stage (D b).fuel (D b).deaf g w) : (∃ m₁ ops μ', runT P (crowd gs w sl) (K + Bool.toNat b) = (Stepped.next m₁, ops) ∧ Lt2 μ' (phi (V D) tag + Sg D, f0 + 2 * Fu D + 2 * sumTo K q) ∧ Inv P ty Wg c KA Shun Ro B val Fin AnchW Anch K τ μ' m₁ (t ++ ops)) := by
  have hk := G.kpos
  have hdW := hcom.deafW b
  have hle := hsit.le
  have mks : ∀ {x : WD} {g' : Goroutine}, TS P ty Wg x.stage x.fuel x.deaf g' w → Sit P ty Wg c KA Shun Ro B val Fin b x.stage x.fuel x.deaf g' w := fun h => by cases b; exact SA.tail h; exact SB.tail h
  have mkw : ∀ {x : WD} {g' : Goroutine} {w' : World}, TS P ty Wg x.stage x.fuel x.deaf g' w' → Sit P ty Wg c KA Shun Ro B val Fin b x.stage x.fuel x.deaf g' w' := fun h => by cases b; exact SA.tail h; exact SB.tail h
  have cm' : ∀ {x : WD}, x.stage ≤ 7 → CM (up D b x false).stage (up D b x true).stage o := fun {x} hx => by
    cases hcm with
    | c1 h1 h2 _ => cases b <;> omega
    | c2 h1 h2 => cases b <;> omega
    | c3 h1 h2 =>
      cases b
      · exact .c3 (by simpa [up] using hx) (by simpa [up] using h2)
      · exact .c3 (by simpa [up] using h1) (.inr (.inr (by simpa [up] using hx)))
  have fin' : b = true → ∀ n : Nat, n ≤ 9 → Fin w := fun e n _ => hcom.fin (by subst e; omega)
  -- idle
  have idle : ∀ (m : Nat) (g' : Goroutine), stepG P false g w = .go g' w #[] → (D b).fuel = m + 1 → TS P ty Wg (D b).stage m (D b).deaf g' w → (∃ m₁ ops μ', runT P (crowd gs w sl) (K + Bool.toNat b) = (Stepped.next m₁, ops) ∧ Lt2 μ' (phi (V D) tag + Sg D, f0 + 2 * Fu D + 2 * sumTo K q) ∧ Inv P ty Wg c KA Shun Ro B val Fin AnchW Anch K τ μ' m₁ (t ++ ops)) := by
    intro m g' hgo hm hs
    refine workerSame (x := ⟨(D b).stage, m, (D b).deaf⟩) (st' := st) (sm' := sm) G hAr ha hcs hcom hco hcm hg hgo (R0.refl w) rfl (fun _ => RA.refl w) (fun _ => RB.refl w) rfl (mks (x := ⟨(D b).stage, m, (D b).deaf⟩) hs) (by rw [ofEvents_nil]; simpa using hcom.pt) (by simp) rfl (fun hx => ?_) (fun e h => fin' e _ h) hwg (cm' hle.2) (fun tag' ht _ => (hmode.retag ht).idle rfl) (.inr ⟨rfl, by simp only; omega⟩)
    obtain ⟨r, hr⟩ := hcom.rel b hx
    exact ⟨r, idle_rel hr⟩
  generalize hD : (D b).stage = s at hsit
  generalize hF : (D b).fuel = f at hsit
  generalize hDe : (D b).deaf = dd at hsit
  have rel6 : ∀ {fn : FuncId} {pos : String} {es : Array Event}, s ≤ 6 → (∀ j e, es[j]? = some e → (MemAct.ofEvent e).touch? = none ∨ ((∃ ad wr, e = ⟨.cell ad, wr, true⟩) ∧ 0 < deafBehind (Deaf t (K + b.toNat)) (es.extract 0 j))) → ∃ r, RelBy (stA Wg) (t ++ MemOp.ofEvents (K + b.toNat) fn pos es) (K + b.toNat) r := by
    intro fn pos es h6 hes
    obtain ⟨r, hr⟩ := hcom.rel b (by rw [hD]; exact h6)
    exact ⟨r, hr.appOwn fn pos es hes⟩
  cases hsit with
  | r0 h =>
    rcases goes_cases (R0.refl w) h with ⟨_, g', hgo, m', h'⟩ | ⟨m, g', w', es, rfl, hgo, ⟨rfl, rfl⟩, h'⟩
    · have hpt : PT Shun Wg Ro B K 2 (t ++ MemOp.ofEvents (K + b.toNat) g.frame.fn g.frame.place #[mk (.releaseMerge (stA Wg))]) := pt_mute hcom.pt fun e he => by
        have := one_mem he
        subst this
        exact ⟨rfl, G.wg⟩
      refine workerSame (x := ⟨6, m', 0⟩) (st' := st) (sm' := sm) G hAr ha hcs hcom hco hcm hg hgo (R0.refl w) rfl (fun _ => RA.refl w) (fun _ => RB.refl w) rfl (mks (x := ⟨6, m', 0⟩) (.k1 h')) hpt (fun e he => by have := one_mem he; subst this; simp [Go.ConcR.mk]) (by rw [hDe]; rfl) (fun _ => ?_) (fun e h => fin' e _ h) hwg (cm' (by simp)) (fun tag' ht _ => (hmode.retag ht).work (by omega) (by simp)) (.inl ⟨by simp only; omega, by simp [cnt, hD]⟩)
      exact ⟨t.size, RelBy.new (by rw [hdW, hDe]) _ _⟩
    · exact idle m g' hgo hF (by rw [hD, hDe]; exact .r0 h')
  | k1 h =>
    rcases goes_cases (R0.refl w) h with ⟨_, g', hgo, m', h'⟩ | ⟨m, g', w', es, rfl, hgo, ⟨rfl, rfl⟩, h'⟩
    · have hbk : ∀ e ∈ #[mk .disable], Bk Wg e := fun e he => by have := one_mem he; subst this; exact .inl rfl
      refine workerSame (x := ⟨5, m', 1⟩) (st' := st) (sm' := sm) G hAr ha hcs hcom hco hcm hg hgo (R0.refl w) rfl (fun _ => RA.refl w) (fun _ => RB.refl w) rfl (mks (x := ⟨5, m', 1⟩) (.d1 h')) (pt_bkW G.apt G.wg hk hcom.pt b hbk) (bk_norel hbk) (by rw [hDe]; rfl) (fun _ => rel6 (by omega) fun j e he => ?_) (fun e h => fin' e _ h) hwg (cm' (by simp)) (fun tag' ht _ => (hmode.retag ht).work (by omega) (by simp)) (.inl ⟨by simp only; omega, by simp [cnt, hD]⟩)
      have := Array.mem_of_getElem? he
      have := one_mem this
      subst this
      exact .inl rfl
    · exact idle m g' hgo hF (by rw [hD, hDe]; exact .k1 h')
  | d1 h =>
    rcases goes_cases (R0.refl w) h with ⟨_, hst⟩ | ⟨m, g', w', es, rfl, hgo, ⟨rfl, rfl⟩, h'⟩
    · -- THE ADD
      have hcb : cnt (D b) = 1 := by simp [cnt, hD]
      have hVb := V_eq D b
      have hVn : cnt (D (!b)) ≤ 1 := by simp only [cnt]; split <;> omega
      have relrw : ∃ r, RelBy (stA Wg) (t ++ MemOp.ofEvents (K + b.toNat) g.frame.fn g.frame.place #[rd (stA Wg), wr (stA Wg)]) (K + b.toNat) r := rel6 (by omega) fun j e he => by
        have h0 : Deaf t (K + b.toNat) = 1 := by rw [hdW, hDe]
        rw [h0]
        match j with
        | 0 => cases he; exact .inr ⟨⟨_, _, rfl⟩, (by show (0 : Nat) < 1; decide)⟩
        | 1 => cases he; exact .inr ⟨⟨_, _, rfl⟩, (by show (0 : Nat) < 1; decide)⟩
        | j + 2 => cases he
      have hbk : ∀ e ∈ #[rd (stA Wg), wr (stA Wg)], Bk Wg e := fun e he => by
        simp only [List.mem_toArray, List.mem_cons, List.not_mem_nil, or_false] at he
        rcases he with rfl | rfl
        · exact bk_rd
        · exact bk_wr
      have hother : ∀ tag' : Tag, Mode D tag' st sm → 5 ≤ (D (!b)).stage ∨ (D (!b)).stage = 1 := fun tag' hm => by
        cases hm with
        | opn _ h2 _ => exact h2 _
        | reg _ h2 _ => exact h2 _
        | last L h1 h2 h3 =>
          exfalso
          by_cases e : b = L
          · subst e; omega
          · have := bool_cases e; subst this; omega
        | sema h1 => have := h1 b; omega
        | fin _ h1 => have := h1 b; omega
      obtain ⟨wt, hwt, hst1, hsm1⟩ : ∃ wt : Nat, wt ≤ 1 ∧ st = (((cnt (D (!b)) : Nat) : Int) + 1) * KK + wt ∧ sm = 0 := by
        cases hmode with
        | opn _ _ _ => exact ⟨0, by omega, by rw [hVb, hcb]; simp only [KK]; omega, rfl⟩
        | reg _ _ _ => exact ⟨1, by omega, by rw [hVb, hcb]; simp only [KK]; omega, rfl⟩
        | last L h1 h2 h3 =>
          exfalso
          by_cases e : b = L
          · subst e; omega
          · have := bool_cases e; subst this; omega
        | sema h1 => have := h1 b; omega
        | fin _ h1 => have := h1 b; omega
      have hwg' : WgAt ty Wg w ((((cnt (D (!b)) : Nat) : Int) + 1) * KK + wt) 0 := by rw [← hst1, ← hsm1]; exact hwg
      obtain ⟨g', hgo, hl1, hl2⟩ := hst (cnt (D (!b))) wt hwt hVn hwg'
      have hwg2 := hwg'.setSt ((((cnt (D (!b)) : Nat) : Int)) * KK + wt)
      obtain ⟨w1, w2, w3, w4⟩ := wg_rely (w := w) (x := stA Wg) (v := .int .u64 ((((cnt (D (!b)) : Nat) : Int)) * KK + wt)) G rfl ⟨_, _, hwg2⟩
      have finw : b = true → ∀ n : Nat, n ≤ 9 → Fin (w.setCell (stA Wg) (.int .u64 ((((cnt (D (!b)) : Nat) : Int)) * KK + wt))) := fun e n hn => G.fin _ _ w3 (fin' e n hn)
      have hoth := hother tag hmode
      by_cases hl : cnt (D (!b)) = 0 ∧ wt = 1
      · obtain ⟨m', h'⟩ := hl1 hl
        refine workerSame (x := ⟨4, m', 1⟩) (st' := _) (sm' := 0) G hAr ha hcs hcom hco hcm hg hgo w1 rfl (fun _ => w2) (fun _ => w3) w4 (mkw (x := ⟨4, m', 1⟩) (.d2 h')) (pt_bkW G.apt G.wg hk hcom.pt b hbk) (bk_norel hbk) (by rw [hDe]; rfl) (fun _ => relrw) (fun e h => finw e _ h) hwg2 (cm' (by simp)) (fun tag' ht _ => ?_) (.inl ⟨by simp only; omega, by simp [cnt, hD]⟩)
        have hm' := hmode.retag ht
        have h3 : isW3 tag' := by
          cases hm' with
          | opn h1 _ _ => rw [hVb, hcb] at hst1; simp only [KK] at hst1; omega
          | reg h1 _ _ => exact h1
          | last L h1 _ _ => exact h1
          | sema => exact trivial
          | fin _ h1 => have := h1 b; omega
        have e1 : ((((cnt (D (!b)) : Nat) : Int)) * KK + wt) = (if (up D b ⟨4, m', 1⟩ b).stage = 2 then 0 else 1) := by rw [hl.1, hl.2, up_same]; simp
        rw [e1]
        refine .last b h3 (by rw [up_same]; simp) ?_
        rw [up_other]
        rcases hoth with h | h
        · have := hl.1; simp [cnt, h] at this
        · exact h
      · obtain ⟨q', h'⟩ := hl2 hl
        refine workerSame (x := ⟨1, q', 1⟩) (st' := _) (sm' := 0) G hAr ha hcs hcom hco hcm hg hgo w1 rfl (fun _ => w2) (fun _ => w3) w4 (mkw (x := ⟨1, q', 1⟩) (.quit h')) (pt_bkW G.apt G.wg hk hcom.pt b hbk) (bk_norel hbk) (by rw [hDe]; rfl) (fun _ => relrw) (fun e h => finw e _ h) hwg2 (cm' (by simp)) (fun tag' ht _ => ?_) (.inl ⟨by simp only; omega, by simp [cnt]⟩)
        have hm' := hmode.retag ht
        have eV : V (up D b ⟨1, q', 1⟩) = cnt (D (!b)) := by rw [V_up]; simp [cnt]
        have hall : ∀ z, 5 ≤ (up D b ⟨1, q', 1⟩ z).stage ∨ (up D b ⟨1, q', 1⟩ z).stage = 1 := all_up (p := fun d => 5 ≤ d.stage ∨ d.stage = 1) (.inr rfl) hoth
        cases hm' with
        | opn h1 h2 h3 =>
          have hw0 : wt = 0 := by rw [hVb, hcb] at hst1; simp only [KK] at hst1; omega
          have e1 : ((((cnt (D (!b)) : Nat) : Int)) * KK + wt) = ((V (up D b ⟨1, q', 1⟩) : Nat) : Int) * KK := by rw [eV, hw0]; simp
          rw [e1]
          refine .opn h1 hall fun vs e => ?_
          have := h3 vs e
          exact ⟨by rw [eV]; omega, this.2⟩
        | reg h1 h2 h3 =>
          have hw1 : wt = 1 := by rw [hVb, hcb] at hst1; simp only [KK] at hst1; omega
          have hv1 : cnt (D (!b)) = 1 := by
            rcases Nat.eq_zero_or_pos (cnt (D (!b))) with h | h
            · exact absurd ⟨h, hw1⟩ hl
            · omega
          have e1 : ((((cnt (D (!b)) : Nat) : Int)) * KK + wt) = ((V (up D b ⟨1, q', 1⟩) : Nat) : Int) * KK + 1 := by rw [eV, hw1]; simp
          rw [e1]
          exact .reg h1 hall (by rw [eV, hv1]; exact Nat.le_refl _)
        | last L h1 h2 h3 =>
          exfalso
          by_cases e : b = L
          · subst e; omega
          · have := bool_cases e; subst this; omega
        | sema h1 => have := h1 b; omega
        | fin _ h1 => have := h1 b; omega
    · exact idle m g' hgo hF (by rw [hD, hDe]; exact .d1 h')
  | d2 h =>
    have hlast : ∀ {tag' : Tag} {st sm : Int}, Mode D tag' st sm → isW3 tag' ∧ (D (!b)).stage = 1 ∧ st = 1 ∧ sm = 0 := fun {tag'} {st} {sm} hm => by
      cases hm with
      | opn _ h2 _ => have := h2 b; omega
      | reg _ h2 _ => have := h2 b; omega
      | last L h1 h2 h3 =>
        by_cases e : b = L
        · subst e; rw [hD]; exact ⟨h1, h3, by simp, rfl⟩
        · have := bool_cases e; subst this; omega
      | sema h1 => have := h1 b; omega
      | fin _ h1 => have := h1 b; omega
    rcases goes_cases (R0.refl w) h with ⟨_, hst⟩ | ⟨m, g', w', es, rfl, hgo, ⟨rfl, rfl⟩, h'⟩
    · obtain ⟨_, _, hs1, hs2⟩ := hlast hmode
      have hwg' : WgAt ty Wg w 1 0 := by rw [← hs1, ← hs2]; exact hwg
      obtain ⟨g', hgo, m', h'⟩ := hst hwg'
      have hbk : ∀ e ∈ #[rd (stA Wg)], Bk Wg e := fun e he => by have := one_mem he; subst this; exact bk_rd
      refine workerSame (x := ⟨3, m', 1⟩) (st' := 1) (sm' := 0) G hAr ha hcs hcom hco hcm hg hgo (R0.refl w) rfl (fun _ => RA.refl w) (fun _ => RB.refl w) rfl (mks (x := ⟨3, m', 1⟩) (.d3 h')) (pt_bkW G.apt G.wg hk hcom.pt b hbk) (bk_norel hbk) (by rw [hDe]; rfl) (fun _ => rel6 (by omega) fun j e he => ?_) (fun e h => fin' e _ h) hwg' (cm' (by simp)) (fun tag' ht _ => ?_) (.inl ⟨by simp only; omega, by simp [cnt]⟩)
      · rw [hdW, hDe]
        match j with
        | 0 => cases he; exact .inr ⟨⟨_, _, rfl⟩, (by show (0 : Nat) < 1; decide)⟩
        | j + 1 => cases he
      · have hm' := hlast (hmode.retag ht)
        have := Mode.last (D := up D b ⟨3, m', 1⟩) b hm'.1 (by rw [up_same]; simp) (by rw [up_other]; exact hm'.2.1)
        rw [up_same] at this
        simpa using this
    · exact idle m g' hgo hF (by rw [hD, hDe]; exact .d2 h')
  | d3 h =>
    have hlast : ∀ {tag' : Tag} {st sm : Int}, Mode D tag' st sm → isW3 tag' ∧ (D (!b)).stage = 1 ∧ st = 1 ∧ sm = 0 := fun {tag'} {st} {sm} hm => by
      cases hm with
      | opn _ h2 _ => have := h2 b; omega
      | reg _ h2 _ => have := h2 b; omega
      | last L h1 h2 h3 =>
        by_cases e : b = L
        · subst e; rw [hD]; exact ⟨h1, h3, by simp, rfl⟩
        · have := bool_cases e; subst this; omega
      | sema h1 => have := h1 b; omega
      | fin _ h1 => have := h1 b; omega
    rcases goes_cases (R0.refl w) h with ⟨_, hst⟩ | ⟨m, g', w', es, rfl, hgo, ⟨rfl, rfl⟩, h'⟩
    · obtain ⟨_, _, hs1, hs2⟩ := hlast hmode
      have hwg' : WgAt ty Wg w 1 0 := by rw [← hs1, ← hs2]; exact hwg
      obtain ⟨g', hgo, m', h'⟩ := hst hwg'
      have hwg2 := hwg'.setSt 0
      obtain ⟨w1, w2, w3, w4⟩ := wg_rely (w := w) (x := stA Wg) (v := .int .u64 0) G rfl ⟨_, _, hwg2⟩
      have hbk : ∀ e ∈ #[wr (stA Wg)], Bk Wg e := fun e he => by have := one_mem he; subst this; exact bk_wr
      refine workerSame (x := ⟨2, m', 1⟩) (st' := 0) (sm' := 0) G hAr ha hcs hcom hco hcm hg hgo w1 rfl (fun _ => w2) (fun _ => w3) w4 (mkw (x := ⟨2, m', 1⟩) (.d4 h')) (pt_bkW G.apt G.wg hk hcom.pt b hbk) (bk_norel hbk) (by rw [hDe]; rfl) (fun _ => rel6 (by omega) fun j e he => ?_) (fun e h => G.fin _ _ w3 (fin' e _ h)) hwg2 (cm' (by simp)) (fun tag' ht _ => ?_) (.inl ⟨by simp only; omega, by simp [cnt]⟩)
      · rw [hdW, hDe]
        match j with
        | 0 => cases he; exact .inr ⟨⟨_, _, rfl⟩, (by show (0 : Nat) < 1; decide)⟩
        | j + 1 => cases he
      · have hm' := hlast (hmode.retag ht)
        have := Mode.last (D := up D b ⟨2, m', 1⟩) b hm'.1 (by rw [up_same]; simp) (by rw [up_other]; exact hm'.2.1)
        rw [up_same] at this
        simpa using this
    · exact idle m g' hgo hF (by rw [hD, hDe]; exact .d3 h')
  | d4 h =>
    have hlast : ∀ {tag' : Tag} {st sm : Int}, Mode D tag' st sm → isW3 tag' ∧ (D (!b)).stage = 1 ∧ st = 0 ∧ sm = 0 := fun {tag'} {st} {sm} hm => by
      cases hm with
      | opn _ h2 _ => have := h2 b; omega
      | reg _ h2 _ => have := h2 b; omega
      | last L h1 h2 h3 =>
        by_cases e : b = L
        · subst e; rw [hD]; exact ⟨h1, h3, by simp, rfl⟩
        · have := bool_cases e; subst this; omega
      | sema h1 => have := h1 b; omega
      | fin _ h1 => have := h1 b; omega
    rcases goes_cases (R0.refl w) h with ⟨_, hmw, hst⟩ | ⟨m, g', w', es, rfl, hgo, ⟨rfl, rfl⟩, h'⟩
    · obtain ⟨_, _, hs1, hs2⟩ := hlast hmode
      have hwg' : WgAt ty Wg w 0 0 := by subst hs1 hs2; exact hwg
      obtain ⟨g', hgo, q', h'⟩ := hst hwg'
      have hwg2 := hwg'.setSm 1
      obtain ⟨w1, w2, w3, w4⟩ := wg_rely (w := w) (x := smA Wg) (v := .int .u32 1) G rfl ⟨_, _, hwg2⟩
      have hrun' : g'.status = .running := by
        rcases h'.status with h | h
        · exact h
        · cases q' with
          | zero => have := h'.2; cases this
          | succ n =>
            rcases h' with ⟨_, h2⟩ | ⟨h2, _⟩
            · cases h2
            · rw [h2] at h; cases h
      refine workerSame (x := ⟨1, q', 1⟩) (st' := 0) (sm' := 1) G hAr ha hcs hcom hco hcm hg hgo w1 rfl (fun _ => w2) (fun _ => w3) w4 (mkw (x := ⟨1, q', 1⟩) (.quit h')) (pt_bkW G.apt G.wg hk hcom.pt b bk_sem) (bk_norel bk_sem) (by rw [hDe]; exact sem_deaf 1) (fun _ => rel6 (by omega) fun j e he => ?_) (fun e h => G.fin _ _ w3 (fin' e _ h)) hwg2 (cm' (by simp)) (fun tag' ht hwk => ?_) (.inl ⟨by simp only; omega, by simp [cnt]⟩)
      · rw [hdW, hDe]
        match j with
        | 0 => cases he; exact .inl rfl
        | 1 => cases he; exact .inr ⟨⟨_, _, rfl⟩, (by show (0 : Nat) < 2; decide)⟩
        | 2 => cases he; exact .inr ⟨⟨_, _, rfl⟩, (by show (0 : Nat) < 2; decide)⟩
        | 3 => cases he; exact .inl rfl
        | j + 4 => cases he
      · have hm' := hlast (hmode.retag ht)
        have hne := hwk hmw hrun'
        have : tag' = .w3 := by
          cases tag' <;> first | rfl | exact hm'.1.elim | exact absurd rfl hne
        subst this
        exact .sema (all_up (p := fun d => d.stage = 1) rfl hm'.2.1)
    · exact idle m g' hgo hF (by rw [hD, hDe]; exact .d4 h')
  | quit h =>
    cases f with
    | zero => rw [h.1] at hr; cases hr
    | succ n =>
      rcases h with ⟨h1, _⟩ | ⟨_, g', es, hm, hstp, hq'⟩
      · rw [h1] at hr; cases hr
      · refine workerSame (x := ⟨1, n, deafBehind dd es⟩) (st' := st) (sm' := sm) G hAr ha hcs hcom hco hcm hg (hstp w) (R0.refl w) rfl (fun _ => RA.refl w) (fun _ => RB.refl w) rfl (mks (x := ⟨1, n, deafBehind dd es⟩) (.quit hq')) (pt_mute hcom.pt fun e he => ⟨touch_mute (hm e he), low_mute (hm e he) B⟩) (fun e he hl => ?_) (by rw [hDe]) (fun _ => rel6 (by omega) fun j e he => .inl (touch_mute (hm e (Array.mem_of_getElem? he)))) (fun e h => fin' e _ h) hwg (cm' (by simp)) (fun tag' ht _ => (hmode.retag ht).idle (by simp only; omega)) (.inr ⟨by simp only; omega, by simp only; omega⟩)
        have := hm e he
        obtain ⟨loc, x, s⟩ := e
        simp only at hl
        subst hl
        cases this
end
end Go.Proofs.Ph

/-
  A phase's invariant is kept by the workers at work.
-/
set_option linter.all false
namespace Go.Proofs.Ph
open Go Go.Conc
open Go.ConcR (KK wgBlock WgAt stA smA rd wr mk DC0 Bk)
open Go.ConcN (RelBy sumTo upd sumTo_upd upd_ne upd_same get_map_set get_map_set_same norel_of)

section
variable {P : Program} {ty : TypeId} {Wg c : Nat} {KA : Nat → Prop} {Shun Ro : Loc → Prop} {B : Nat} {val : Value} {Fin : World → Prop} {AnchW : Goroutine → World → Prop} {Anch : Goroutine → Prop} {K : Nat} {τ : Nat → Question → Nat}
  {gs gs' : Array Goroutine} {w w' : World} {sl : Option (Nat × Nat)} {D D' : Bool → WD} {tag : Tag} {f0 d0 : Nat} {q : Nat → Nat} {a : Goroutine} {t : Trace} {st sm : Int} {o o' : Obj}

theorem sit_deaf {b : Bool} {s m d : Nat} {g : Goroutine} (h : Sit P ty Wg c KA Shun Ro B val Fin b s m d g w) (hs : 8 ≤ s) : d = 0 := by
  cases b with
  | false =>
    have h' : SA P ty Wg c KA Ro B val s m d g w := h
    cases h' with
    | tail h => exact absurd h.le (by omega)
    | _ => rfl
  | true =>
    have h' : SB P ty Wg c KA Shun Ro B val Fin s m d g w := h
    cases h' with
    | tail h => exact absurd h.le (by omega)
    | _ => rfl
theorem mem_one {x y : CommCase} (h : x ∈ #[y]) : x = y := by simpa using h
theorem talk4 (G : Geo ty Wg c KA Shun Ro B Fin K) {g1 g2 : Nat} {f1 f2 : FuncId} {p1 p2 : String} {s r cap : Nat} : ∀ op ∈ #[({ g := g1, fn := f1, pos := p1, act := .send c s } : MemOp), { g := g2, fn := f2, pos := p2, act := .recv c r cap }, { g := g1, fn := f1, pos := p1, act := .sendDone c s }, { g := g2, fn := f2, pos := p2, act := .recvDone c r }], Talk B op := by
  intro op hop
  simp only [List.mem_toArray, List.mem_cons, List.not_mem_nil, or_false] at hop
  rcases hop with rfl | rfl | rfl | rfl <;> exact talk_of ⟨rfl, G.ch, fun m => by simp⟩

theorem workA (G : Geo ty Wg c KA Shun Ro B Fin K) (hAr : ∀ g w, AnchW g w → g.status = .running) (ha : gs[0]? = some a) (hcs : CS P ty Wg AnchW Anch tag f0 d0 a w) (hcom : Com P ty Wg c KA Shun Ro B val Fin K τ gs w t D d0 q) (hwg : WgAt ty Wg w st sm) (hmode : Mode D tag st sm)
    (hco : w.heap[c]? = some o) (hcm : CM (D false).stage (D true).stage o) {g : Goroutine} (hg : gs[K]? = some g) (hr : g.status = .running) (hsit : SA P ty Wg c KA Ro B val (D false).stage (D false).fuel (D false).deaf g w) : (∃ m₁ ops μ', runT P (crowd gs w sl) (K + Bool.toNat false) = (Stepped.next m₁, ops) ∧ Lt2 μ' (phi (V D) tag + Sg D, f0 + 2 * Fu D + 2 * sumTo K q) ∧ Inv P ty Wg c KA Shun Ro B val Fin AnchW Anch K τ μ' m₁ (t ++ ops)) := by
  have hk := G.kpos
  have hi0 : (K == 0) = false := by simp; omega
  have hdW := hcom.deafW false
  obtain ⟨gB, hgB, hsB⟩ := hcom.wk true
  have hsB' : SB P ty Wg c KA Shun Ro B val Fin (D true).stage (D true).fuel (D true).deaf gB w := hsB
  have hlt1 : K + 1 < gs.size := (Array.getElem?_eq_some_iff.1 hgB).1
  generalize hD : (D false).stage = s at hsit
  generalize hF : (D false).fuel = f at hsit
  generalize hDe : (D false).deaf = dd at hsit
  have idle : ∀ (m : Nat) (g' : Goroutine) (es : Array Event), stepG P false g w = .go g' w es → (∀ e ∈ es, EvA Ro B e) → f = m + 1 → 8 ≤ s → SA P ty Wg c KA Ro B val s m dd g' w → (∃ m₁ ops μ', runT P (crowd gs w sl) (K + Bool.toNat false) = (Stepped.next m₁, ops) ∧ Lt2 μ' (phi (V D) tag + Sg D, f0 + 2 * Fu D + 2 * sumTo K q) ∧ Inv P ty Wg c KA Shun Ro B val Fin AnchW Anch K τ μ' m₁ (t ++ ops)) := by
    intro m g' es hgo hes hm h8 hs
    have hd0 : dd = 0 := sit_deaf (b := false) (show Sit P ty Wg c KA Shun Ro B val Fin false s m dd g' w from hs) h8
    have hmk : ∀ e ∈ es, e.loc ≠ .mark .disable ∧ e.loc ≠ .mark .enable ∧ e.loc ≠ .mark (.release (stA Wg)) := fun e he => by
      obtain ⟨x, rfl, _⟩ := hes e he
      exact ⟨by simp, by simp, by simp⟩
    refine workerSame (b := false) (x := ⟨s, m, dd⟩) (st' := st) (sm' := sm) G hAr ha hcs hcom hco hcm hg hgo (R0.refl w) rfl (fun _ => RA.refl w) (fun _ => RB.refl w) rfl hs (pt_a G.apt (by rw [show K = K + false.toNat from rfl, hdW, hDe]; exact hd0) hcom.pt hes) (fun e he => (hmk e he).2.2) (by rw [hDe]; exact deafBehind_still (fun e he => ⟨(hmk e he).1, (hmk e he).2.1⟩) _) (fun hx => absurd hx (by simp only; omega)) (fun e => by cases e) hwg (by simpa [up, hD] using hcm) (fun tag' ht _ => (hmode.retag ht).idle (by rw [hD])) (.inr ⟨hD.symm, by simp only; omega⟩)
  cases hsit with
  | send h =>
    rcases h.cases with hst | ⟨m, hm, hstep⟩
    · obtain ⟨_, hoff, z, hgo, m', h'⟩ := hst w (RA.refl w)
      rw [hD] at hcm
      generalize hDB : (D true).stage = sB at hcm hsB'
      cases hcm with
      | c2 h1 _ => omega
      | c3 h1 _ => omega
      | c1 h1 h2 h3 =>
        rcases h2 with rfl | rfl
        · -- it waits
          have hp : partners (gs.setIfInBounds K ph) c false = [] := by
            rw [show partners (gs.setIfInBounds K ph) c false = _ from partners_other hAr ha hcs hcom hk false hgB c false]
            rcases hsB'.status (by omega) (by omega) with h | h
            · rw [offersAt_of_not_blocked (by rw [h]; simp)]; rfl
            · rw [offersAt_of_not_blocked (by rw [h]; simp)]; rfl
          refine waitStep (b := false) (s' := 11) G ha hcs hcom hwg hmode hco hg hgo (fun cc hcc => by rw [mem_one hcc]; exact ways_send_none hco (by simp) hp) hDe (by omega) (by omega) (by omega) (SA.park hst) (fun e => by cases e) ?_
          have : CM 11 12 (.chan 0 #[] false 0 0 false) := .c1 (.inr rfl) (.inl rfl) (by omega)
          simpa [up, hDB] using this
        · -- it meets
          generalize hFB : (D true).fuel = fB at hsB'
          generalize hdB : (D true).deaf = dB at hsB'
          cases hsB' with
          | tail h => exact absurd h.le (by omega)
          | park hB =>
            rename_i g0 z0
            obtain ⟨_, _, z1, hgo1, m1, h1'⟩ := hB w (RB.refl w)
            have hp : partners (gs.setIfInBounds K ph) c false = [(K + 1, 0)] := by
              rw [show partners (gs.setIfInBounds K ph) c false = _ from partners_other hAr ha hcs hcom hk false hgB c false, offersAt_parked_recv]
              simp
            have hrun := crowd_send_meets (P := P) (sl := sl) (i := K) hg (by rw [hi0]; exact hgo) hco (show K + 1 ≠ K by omega) hgB hp
            rw [ofEvents_nil, finishComm_recv, finishComm_send] at hrun
            simp only [Array.empty_append, Nat.zero_add] at hrun
            refine meetStep (b := false) G ha hcs hcom hwg hmode hco hlt1 hrun ⟨by simp, by rw [Array.getElem?_setIfInBounds_self_of_lt (by rw [Array.size_setIfInBounds]; omega)], by rw [Array.getElem?_setIfInBounds_ne (by omega), Array.getElem?_setIfInBounds_self_of_lt hlt1], fun i h1 h2 => by rw [Array.getElem?_setIfInBounds_ne (fun e => h1 e.symm), Array.getElem?_setIfInBounds_ne (fun e => h2 e.symm)]⟩ (talk4 G) h' h1' (fun b => ?_) (fun b => ?_)
            · cases b
              · exact hDe
              · exact hdB
            · cases b
              · omega
              · omega
    · obtain ⟨g', w', es, hgo, ⟨rfl, hes⟩, h'⟩ := hstep w (RA.refl w)
      exact idle m g' es hgo hes hm (by omega) (.send h')
  | park h => cases hr
  | close h =>
    rcases h.cases with hst | ⟨m, hm, hstep⟩
    · obtain ⟨_, hmw, hst⟩ := hst w (RA.refl w)
      rw [hD] at hcm
      generalize hDB : (D true).stage = sB at hcm hsB'
      cases hcm with
      | c1 h1 _ => omega
      | c3 h1 _ => omega
      | c2 h1 h2 =>
        obtain ⟨g', hgo, m', h'⟩ := hst _ _ _ _ _ hco
        obtain ⟨r1, r2⟩ := chan_rely G hco 0 #[] true 1 1 false
        have hg' : g'.status = .running := Goes.running (fun _ _ x => x.1) _ (R0.refl _) h'
        have hwk : (mayWake P g && g'.status != .blocked && g'.status != .waiting) = true := by rw [hmw, hg']; rfl
        have hd0 : Deaf t K = 0 := by rw [show K = K + false.toNat from rfl, hdW, hDe]
        have hcon := setChan_on (cap := 0) (buf := #[]) (cl := true) (s := 1) (r := 1) (tm := false) hco
        let y : WD := if sB = 9 then ⟨8, (D true).fuel, (D true).deaf⟩ else D true
        have hys : y.stage = 8 ∨ y.stage = 10 := by
          rcases h2 with h | h
          · right; simp [y, h, hDB]
          · left; simp [y, h]
        have hy : up (up D (!false) y) false ⟨7, m', 0⟩ = fun z => if z then y else ⟨7, m', 0⟩ := by funext z; cases z <;> simp [up]
        refine workerStep (sl := sl) (b := false) (x := ⟨7, m', 0⟩) (y := y) (st' := st) (sm' := sm) (o' := .chan 0 #[] true 1 1 false) G hAr ha hcs hcom hg hgo r1.live rfl (SA.tail (.r0 h')) (fun g2 h2' => ?_) ?_ (pt_close G.apt G.ch hd0 hcom.pt) (fun e he => ?_) (by rw [hDe]; rfl) (fun hx => absurd hx (by simp)) (fun hf => ?_) (hwg.of_block (setChan_off G.wc)) hcon ?_ (fun tag' ht _ => ?_) (.inl ⟨by simp only; omega, by simp [cnt, hD]⟩)
        · have h3 : SB P ty Wg c KA Shun Ro B val Fin (D true).stage (D true).fuel (D true).deaf g2 w := h2'
          show SB P ty Wg c KA Shun Ro B val Fin y.stage y.fuel y.deaf _ _
          rw [hDB] at h3
          rcases h2 with rfl | rfl
          · have e : y = D true := by simp [y]
            rw [e, hDB, show woken P g g' _ g2 = g2 from woken_awake g g' _ (h3.status (by omega) (by omega))]
            exact h3.rely r2
          · have e : y = ⟨8, (D true).fuel, (D true).deaf⟩ := by simp [y]
            rw [e]
            exact (h3.closed hwk hcon).rely r2
        · show y.fuel = (D true).fuel ∧ y.deaf = (D true).deaf ∧ y.stage ≤ (D true).stage ∧ cnt y = cnt (D true) ∧ (y.stage ≤ 6 → (D true).stage ≤ 6)
          rcases h2 with h | h
          · have e : y = D true := by simp [y, h]
            rw [e]; exact ⟨rfl, rfl, Nat.le_refl _, rfl, id⟩
          · have e : y = ⟨8, (D true).fuel, (D true).deaf⟩ := by simp [y, h]
            rw [e]; exact ⟨rfl, rfl, by simp only; omega, by simp [cnt, hDB, h], fun hx => absurd hx (by simp)⟩
        · simp only [List.mem_toArray, List.mem_cons, List.not_mem_nil, or_false] at he
          rcases he with rfl | rfl <;> simp
        · rw [hy] at hf
          simp only [if_true] at hf
          refine G.fin _ _ r2 (hcom.fin ?_)
          rcases h2 with h | h
          · have e : y = D true := by simp [y, h]
            rw [e] at hf; omega
          · omega
        · rw [hy]
          exact .c3 (by simp) (by rcases hys with h | h <;> simp [h])
        · have h5 : ∀ b, 5 ≤ (D b).stage := fun b => by cases b <;> omega
          refine (hmode.retag ht).works h5 fun b => ?_
          rw [hy]
          cases b
          · simp
          · simp; omega
    · obtain ⟨g', w', es, hgo, ⟨rfl, hes⟩, h'⟩ := hstep w (RA.refl w)
      exact idle m g' es hgo hes hm (by omega) (.close h')
  | tail h => exact tailStep (b := false) G hAr ha hcs hcom hwg hmode hco (by rw [hD]; rw [hD] at hcm; exact hcm) hg hr (by rw [hD, hF, hDe]; exact h)

theorem workB (G : Geo ty Wg c KA Shun Ro B Fin K) (hAr : ∀ g w, AnchW g w → g.status = .running) (ha : gs[0]? = some a) (hcs : CS P ty Wg AnchW Anch tag f0 d0 a w) (hcom : Com P ty Wg c KA Shun Ro B val Fin K τ gs w t D d0 q) (hwg : WgAt ty Wg w st sm) (hmode : Mode D tag st sm)
    (hco : w.heap[c]? = some o) (hcm : CM (D false).stage (D true).stage o) {g : Goroutine} (hg : gs[K + 1]? = some g) (hr : g.status = .running) (hsit : SB P ty Wg c KA Shun Ro B val Fin (D true).stage (D true).fuel (D true).deaf g w) : (∃ m₁ ops μ', runT P (crowd gs w sl) (K + Bool.toNat true) = (Stepped.next m₁, ops) ∧ Lt2 μ' (phi (V D) tag + Sg D, f0 + 2 * Fu D + 2 * sumTo K q) ∧ Inv P ty Wg c KA Shun Ro B val Fin AnchW Anch K τ μ' m₁ (t ++ ops)) := by
  have hk := G.kpos
  have hi0 : (K + 1 == 0) = false := by simp
  have hdW := hcom.deafW true
  obtain ⟨gA, hgA, hsA⟩ := hcom.wk false
  have hsA' : SA P ty Wg c KA Ro B val (D false).stage (D false).fuel (D false).deaf gA w := hsA
  have hlt1 : K + 1 < gs.size := (Array.getElem?_eq_some_iff.1 hg).1
  have hne : K + 1 ≠ K := by omega
  generalize hD : (D true).stage = s at hsit
  generalize hF : (D true).fuel = f at hsit
  generalize hDe : (D true).deaf = dd at hsit
  have idle : ∀ (m : Nat) (g' : Goroutine) (w' : World) (es : Array Event), stepG P false g w = .go g' w' es → DB Shun Ro B Wg c KA w w' es → f = m + 1 → 10 ≤ s → SB P ty Wg c KA Shun Ro B val Fin s m dd g' w' → (∃ m₁ ops μ', runT P (crowd gs w sl) (K + Bool.toNat true) = (Stepped.next m₁, ops) ∧ Lt2 μ' (phi (V D) tag + Sg D, f0 + 2 * Fu D + 2 * sumTo K q) ∧ Inv P ty Wg c KA Shun Ro B val Fin AnchW Anch K τ μ' m₁ (t ++ ops)) := by
    intro m g' w' es hgo hdb hm h8 hs
    have hd0 : dd = 0 := sit_deaf (b := true) (show Sit P ty Wg c KA Shun Ro B val Fin true s m dd g' w' from hs) (by omega)
    have hWk := hdb.keep Wg (.inr (.inl rfl))
    have hlive : WgLive ty Wg w → WgLive ty Wg w' := fun ⟨x, y, h⟩ => ⟨x, y, h.of_block hWk⟩
    refine workerSame (b := true) (x := ⟨s, m, dd⟩) (st' := st) (sm' := sm) G hAr ha hcs hcom hco hcm hg hgo hlive hdb.tape (fun _ => ⟨fun b hb => hdb.keep b (.inl hb), hlive⟩) (fun e => by cases e) (hdb.keep c (.inr (.inr rfl))) hs (pt_b G.apt (by rw [show K + 1 = K + true.toNat from rfl, hdW, hDe]; exact hd0) hcom.pt hdb.evs) (fun e he => (hdb.evs e he).2.2.2.1) (by rw [hDe]; exact deafBehind_still (fun e he => ⟨(hdb.evs e he).2.1, (hdb.evs e he).2.2.1⟩) _) (fun hx => absurd hx (by simp only; omega)) (fun _ hx => absurd hx (by simp only; omega)) (hwg.of_block hWk) (by simpa [up, hD] using hcm) (fun tag' ht _ => (hmode.retag ht).idle (by rw [hD])) (.inr ⟨hD.symm, by simp only; omega⟩)
  have stuckC1 : ∀ sa, (D false).stage = sa → sa ≠ 11 → ∀ r, partners (gs.setIfInBounds (K + 1) ph) r true = [] := by
    intro sa hsa h11 r
    rw [show partners (gs.setIfInBounds (K + 1) ph) r true = _ from partners_other hAr ha hcs hcom hk true hgA r true]
    rcases hsA'.status (by omega) with h | h
    · rw [offersAt_of_not_blocked (by rw [h]; simp)]; rfl
    · rw [offersAt_of_not_blocked (by rw [h]; simp)]; rfl
  cases hsit with
  | recv h =>
    rcases h.cases with hst | ⟨m, hm, hstep⟩
    · obtain ⟨_, hoff, z, hgo, m', h'⟩ := hst w (RB.refl w)
      rw [hD] at hcm
      generalize hDA : (D false).stage = sA at hcm hsA'
      cases hcm with
      | c2 _ h1 => omega
      | c3 _ h1 => omega
      | c1 h1 h2 h3 =>
        rcases h1 with rfl | rfl
        · -- it waits
          refine waitStep (b := true) (s' := 11) G ha hcs hcom hwg hmode hco hg hgo (fun cc hcc => by rw [mem_one hcc]; exact ways_recv_none hco (stuckC1 _ hDA (by omega) c)) hDe (by omega) (by omega) (by omega) (SB.park hst) (fun _ h => by omega) ?_
          have : CM 12 11 (.chan 0 #[] false 0 0 false) := .c1 (.inl rfl) (.inr rfl) (by omega)
          simpa [up, hDA] using this
        · -- it meets
          generalize hFA : (D false).fuel = fA at hsA'
          generalize hdA : (D false).deaf = dA at hsA'
          cases hsA' with
          | tail h => exact absurd h.le (by omega)
          | park hA =>
            rename_i g0 z0
            obtain ⟨_, _, z1, hgo1, m1, h1'⟩ := hA w (RA.refl w)
            have hp : partners (gs.setIfInBounds (K + 1) ph) c true = [(K, 0)] := by
              rw [show partners (gs.setIfInBounds (K + 1) ph) c true = _ from partners_other hAr ha hcs hcom hk true hgA c true, offersAt_parked_send]
              simp
            have hrun := crowd_recv_meets (P := P) (sl := sl) (i := K + 1) hg (by rw [hi0]; exact hgo) hco (show K ≠ K + 1 by omega) hgA hp
            rw [ofEvents_nil, finishComm_recv, finishComm_send] at hrun
            simp only [Array.empty_append, Nat.zero_add] at hrun
            refine meetStep (b := true) G ha hcs hcom hwg hmode hco hlt1 hrun ⟨by simp, by rw [Array.getElem?_setIfInBounds_ne (by omega), Array.getElem?_setIfInBounds_self_of_lt (by omega)], by rw [Array.getElem?_setIfInBounds_self_of_lt (by rw [Array.size_setIfInBounds]; exact hlt1)], fun i h1 h2 => by rw [Array.getElem?_setIfInBounds_ne (fun e => h2 e.symm), Array.getElem?_setIfInBounds_ne (fun e => h1 e.symm)]⟩ (talk4 G) h1' h' (fun b => ?_) (fun b => ?_)
            · cases b
              · exact hdA
              · exact hDe
            · cases b
              · omega
              · omega
    · obtain ⟨g', w', es, hgo, hdb, h'⟩ := hstep w (RB.refl w)
      exact idle m g' w' es hgo hdb hm (by omega) (.recv h')
  | park h => cases hr
  | more h =>
    rcases h.cases with hst | ⟨m, hm, hstep⟩
    · obtain ⟨_, hoff, hfin, z, hgo, m', h'⟩ := hst w (RB.refl w)
      rw [hD] at hcm
      generalize hDA : (D false).stage = sA at hcm hsA'
      cases hcm with
      | c1 _ h1 => omega
      | c2 h1 h2 =>
        refine waitStep (b := true) (s' := 9) G ha hcs hcom hwg hmode hco hg hgo (fun cc hcc => by rw [mem_one hcc]; exact ways_recv_none hco (stuckC1 _ hDA (by omega) c)) hDe (by omega) (by omega) (by omega) (SB.park2 hst) (fun _ _ => hfin) ?_
        have : CM 10 9 (.chan 0 #[] false 1 1 false) := .c2 rfl (.inr rfl)
        simpa [up, hDA, h1] using this
      | c3 h1 h2 => exact closedStep G hAr ha hcs hcom hwg hmode hco hg hgo h' hfin (by omega) hDe (by omega)
    · obtain ⟨g', w', es, hgo, hdb, h'⟩ := hstep w (RB.refl w)
      exact idle m g' w' es hgo hdb hm (by omega) (.more h')
  | park2 h => cases hr
  | woke h =>
    rename_i g0 z0
    obtain ⟨hr0, hoff, hfin, z, hgo, m', h'⟩ := h w (RB.refl w)
    have hgo' : stepG P false { parked g0 #[rcase c z0] (.recv true) with status := .running } w = .comm g0 #[rcase c z] true (.recv true) w #[] := by
      rw [stepG_tries, show ({ g0 with status := .running } : Goroutine) = g0 by rw [← hr0]]
      exact hgo
    rw [hD] at hcm
    generalize hDA : (D false).stage = sA at hcm hsA'
    cases hcm with
    | c1 _ h1 => omega
    | c2 _ h1 => omega
    | c3 h1 h2 => exact closedStep G hAr ha hcs hcom hwg hmode hco hg hgo' h' hfin (by omega) hDe (by omega)
  | tail h => exact tailStep (b := true) G hAr ha hcs hcom hwg hmode hco (by rw [hD]; rw [hD] at hcm; exact hcm) hg hr (by rw [hD, hF, hDe]; exact h)
end
end Go.Proofs.Ph

/-
  A phase's invariant is kept by whatever step of goroutine 0's in Wait; the run comes to its end: behind the join.
-/
set_option linter.all false
namespace Go.Proofs.Ph
open Go Go.Conc
open Go.ConcR (KK wgBlock WgAt stA smA rd wr mk DC0 Bk)
open Go.ConcN (RelBy sumTo upd sumTo_upd upd_ne upd_same get_map_set get_map_set_same norel_of)

section
variable {P : Program} {ty : TypeId} {Wg c : Nat} {KA : Nat → Prop} {Shun Ro : Loc → Prop} {B : Nat} {val : Value} {Fin : World → Prop} {AnchW : Goroutine → World → Prop} {Anch : Goroutine → Prop} {K : Nat} {τ : Nat → Question → Nat}
  {gs gs' : Array Goroutine} {w w' : World} {sl : Option (Nat × Nat)} {D D' : Bool → WD} {tag : Tag} {f0 d0 : Nat} {q : Nat → Nat} {a : Goroutine} {t : Trace} {st sm : Int} {o o' : Obj}

/-- An idle step in Wait. -/
theorem idle0 (G : Geo ty Wg c KA Shun Ro B Fin K) (ha : gs[0]? = some a) (hcom : Com P ty Wg c KA Shun Ro B val Fin K τ gs w t D d0 q) (hwg : WgAt ty Wg w st sm) (hmode : Mode D tag st sm) (hco : w.heap[c]? = some o) (hcm : CM (D false).stage (D true).stage o)
    {a' : Goroutine} {es : Array Event} {tag' : Tag} {f' : Nat} (hgo : stepG P true a w = .go a' w es) (hz : ∀ e ∈ es, EvZ Wg e) (hcs' : CS P ty Wg AnchW Anch tag' f' d0 a' w) (hmode' : Mode D tag' st sm) (hlt : phi (V D) tag' < phi (V D) tag ∨ (phi (V D) tag' = phi (V D) tag ∧ f' < f0)) : (∃ m₁ ops μ', runT P (crowd gs w sl) 0 = (Stepped.next m₁, ops) ∧ Lt2 μ' (phi (V D) tag + Sg D, f0 + 2 * Fu D + 2 * sumTo K q) ∧ Inv P ty Wg c KA Shun Ro B val Fin AnchW Anch K τ μ' m₁ (t ++ ops)) := by
  refine zeroStep (sl := sl) G ha hcom hco hcm hgo (RA.refl w) (RB.refl w) rfl (pt_z G.apt G.wg hcom.pt hz) (fun e he => ?_) ?_ hwg hmode' hlt
  · obtain ⟨x, _, rfl⟩ := hz e he
    simp
  · rw [deafBehind_still (fun e he => ?_) d0]
    · exact hcs'
    · obtain ⟨x, _, rfl⟩ := hz e he
      simp
/-- A step that reads or words. -/
theorem word0 (G : Geo ty Wg c KA Shun Ro B Fin K) (ha : gs[0]? = some a) (hcom : Com P ty Wg c KA Shun Ro B val Fin K τ gs w t D d0 q) (hwg : WgAt ty Wg w st sm) (hco : w.heap[c]? = some o) (hcm : CM (D false).stage (D true).stage o)
    {a' : Goroutine} {es : Array Event} {tag' : Tag} {f' : Nat} (hgo : stepG P true a w = .go a' w es) (hz : ∀ e ∈ es, Bk Wg e) (hcs' : CS P ty Wg AnchW Anch tag' f' (deafBehind d0 es) a' w) (hmode' : Mode D tag' st sm) (hlt : phi (V D) tag' < phi (V D) tag ∨ (phi (V D) tag' = phi (V D) tag ∧ f' < f0)) : (∃ m₁ ops μ', runT P (crowd gs w sl) 0 = (Stepped.next m₁, ops) ∧ Lt2 μ' (phi (V D) tag + Sg D, f0 + 2 * Fu D + 2 * sumTo K q) ∧ Inv P ty Wg c KA Shun Ro B val Fin AnchW Anch K τ μ' m₁ (t ++ ops)) :=
  zeroStep (sl := sl) G ha hcom hco hcm hgo (RA.refl w) (RB.refl w) rfl (pt_bk0 G.apt G.wg hcom.pt hz) (bk_norel hz) hcs' hwg hmode' hlt
theorem bk_one {e : Event} (h : Bk Wg e) : ∀ x ∈ #[e], Bk Wg x := fun x hx => by rw [one_mem hx]; exact h

/-- The load of the group's state. -/
theorem w1Step (G : Geo ty Wg c KA Shun Ro B Fin K) (ha : gs[0]? = some a) (hcom : Com P ty Wg c KA Shun Ro B val Fin K τ gs w t D 1 q) (hwg : WgAt ty Wg w st sm) (hmode : Mode D .w1 st sm) (hco : w.heap[c]? = some o) (hcm : CM (D false).stage (D true).stage o)
    {m : Nat} (h : Goes P true (R0 ty Wg) (D0 Wg) (AtW1 P ty Wg AnchW Anch) m a w) (htag : (tag = .w1 ∧ f0 = m) ∨ tag = .anch) : (∃ m₁ ops μ', runT P (crowd gs w sl) 0 = (Stepped.next m₁, ops) ∧ Lt2 μ' (phi (V D) tag + Sg D, f0 + 2 * Fu D + 2 * sumTo K q) ∧ Inv P ty Wg c KA Shun Ro B val Fin AnchW Anch K τ μ' m₁ (t ++ ops)) := by
  have hphi : phi (V D) .w1 ≤ phi (V D) tag := by rcases htag with ⟨rfl, _⟩ | rfl <;> simp [phi]
  rcases goes_cases (R0.refl w) h with ⟨_, hst⟩ | ⟨m', g', w', es, rfl, hgo, ⟨rfl, hz⟩, h'⟩
  · cases hmode with
    | fin h1 _ => exact h1.elim
    | reg h1 _ _ => exact h1.elim
    | last L h1 _ _ => exact h1.elim
    | opn h1 h2 h3 =>
      obtain ⟨g', hgo, hl1, hl2⟩ := hst (V D) (V_le D) hwg
      by_cases hv : V D = 0
      · obtain ⟨m', h'⟩ := hl1 hv
        have hall : ∀ b, (D b).stage = 1 := fun b => by
          rcases h2 b with h | h
          · rw [V_eq D b] at hv; simp [cnt, h] at hv
          · exact h
        refine word0 (tag' := .ke) (f' := m') G ha hcom hwg hco hcm hgo (bk_one bk_rd) (.ke h') ?_ (.inl (by rcases htag with ⟨rfl, _⟩ | rfl <;> simp only [phi] <;> omega))
        rw [hv]
        have : (((0 : Nat) : Int) * KK) = 0 := by simp
        rw [this]
        exact .fin trivial hall
      · obtain ⟨m', h'⟩ := hl2 hv
        refine word0 (tag' := .w2 (V D)) (f' := m') G ha hcom hwg hco hcm hgo (bk_one bk_rd) (.w2 h') (.opn trivial h2 fun vs e => by cases e; exact ⟨Nat.le_refl _, by omega⟩) (.inl (by rcases htag with ⟨rfl, _⟩ | rfl <;> simp only [phi] <;> omega))
  · refine idle0 (tag := tag) (tag' := .w1) (f' := m') G ha hcom hwg ?_ hco hcm hgo hz (.w1 h') hmode ?_
    · rcases htag with ⟨rfl, _⟩ | rfl
      · exact hmode
      · cases hmode with
        | opn h1 h2 h3 => exact .opn trivial h2 fun vs e => by cases e
        | fin h1 _ => exact h1.elim
        | reg h1 _ _ => exact h1.elim
        | last L h1 _ _ => exact h1.elim
    · rcases htag with ⟨rfl, hf⟩ | rfl
      · exact .inr ⟨rfl, by omega⟩
      · exact .inl (by simp only [phi]; omega)

/-- THE END. -/
theorem acqStep (G : Geo ty Wg c KA Shun Ro B Fin K) (ha : gs[0]? = some a) (hcom : Com P ty Wg c KA Shun Ro B val Fin K τ gs w t D 0 q) (hwg : WgAt ty Wg w st sm) (hall : ∀ b, (D b).stage = 1)
    (hco : w.heap[c]? = some o) {a' : Goroutine} (hgo : stepG P true a w = .go a' w #[mk (.acquire (stA Wg))]) (hr : a'.status = .running) (han : Anch a') : (∃ m₁ ops, runT P (crowd gs w sl) 0 = (Stepped.next m₁, ops) ∧ Done P ty Wg Shun B Fin Anch K τ m₁ (t ++ ops)) := by
  have hk := G.kpos
  have hrun := runT_crowd_go (P := P) (sl := sl) (i := 0) ha (show stepG P (0 == 0) a w = _ from hgo)
  have hs := hcom.size
  have hothers : ∀ {u : Nat}, u ≠ 0 → Deaf (t ++ MemOp.ofEvents 0 a.frame.fn a.frame.place #[mk (.acquire (stA Wg))]) u = Deaf t u := fun hu => Deaf_other t (fun e => hu e.symm) _ of_g
  have h0 : Deaf (t ++ MemOp.ofEvents 0 a.frame.fn a.frame.place #[mk (.acquire (stA Wg))]) 0 = 0 := by rw [Deaf_own, hcom.deaf0]; rfl
  have hwk : ∀ b, ∃ g, gs[K + b.toNat]? = some g ∧ QuitsD P (D b).fuel (D b).deaf g := fun b => by
    obtain ⟨g, hg, hsit⟩ := hcom.wk b
    refine ⟨g, hg, ?_⟩
    have hst := hall b
    have ht : TS P ty Wg (D b).stage (D b).fuel (D b).deaf g w := by
      cases b with
      | false =>
        have h' : SA P ty Wg c KA Ro B val (D false).stage (D false).fuel (D false).deaf g w := hsit
        generalize (D false).stage = s at h' hst ⊢
        generalize (D false).fuel = f at h' ⊢
        generalize (D false).deaf = dd at h' ⊢
        cases h' with
        | tail h => exact h
        | _ => omega
      | true =>
        have h' : SB P ty Wg c KA Shun Ro B val Fin (D true).stage (D true).fuel (D true).deaf g w := hsit
        generalize (D true).stage = s at h' hst ⊢
        generalize (D true).fuel = f at h' ⊢
        generalize (D true).deaf = dd at h' ⊢
        cases h' with
        | tail h => exact h
        | _ => omega
    generalize (D b).stage = s at ht hst
    generalize (D b).fuel = f at ht ⊢
    generalize (D b).deaf = dd at ht ⊢
    cases ht with
    | quit h => exact h
    | _ => omega
  have hacq : (t ++ MemOp.ofEvents 0 a.frame.fn a.frame.place #[mk (.acquire (stA Wg))])[t.size]? = some { g := 0, fn := a.frame.fn, pos := a.frame.place, act := .mark (.acquire (stA Wg)) } := by
    rw [ofEvents_eq]
    simp [Go.ConcR.mk, MemAct.ofEvent]
  obtain ⟨rA, hA⟩ := hcom.rel false (by rw [hall]; omega)
  obtain ⟨rB, hB⟩ := hcom.rel true (by rw [hall]; omega)
  have hA' : RelBy (stA Wg) t K rA := hA
  have hB' : RelBy (stA Wg) t (K + 1) rB := hB
  have hnr : ∀ e ∈ #[mk (.acquire (stA Wg))], e.loc ≠ .mark (.release (stA Wg)) := fun e he => by rw [one_mem he]; simp [Go.ConcR.mk]
  have hpt : PT Shun Wg Ro B K 2 (t ++ MemOp.ofEvents 0 a.frame.fn a.frame.place #[mk (.acquire (stA Wg))]) := pt_mute hcom.pt fun e he => by
    rw [one_mem he]
    exact ⟨rfl, G.wg⟩
  have hpast := hpt.past (ad := stA Wg) (q := t.size) (rA := rA) (rB := rB) (hcom.norel.app (norel_of hnr)) (by rw [act?_of hacq]) (by rw [g?_of hacq])
    ⟨0, by rw [g?_of hacq], by rw [deaf_old (Nat.le_refl _)]; exact hcom.deaf0⟩ (hA'.appOther of_g (by omega)) (lt_of_act? hA'.act) (hB'.appOther of_g (by omega)) (lt_of_act? hB'.act) h0
  refine ⟨_, _, hrun, (gs.map (woken P a a' w)).setIfInBounds 0 a', w, sl, fun i => if i = K then (D false).fuel else if i = K + 1 then (D true).fuel else q i, a', rfl, get_map_set_same _ _ _ (by omega), hr, han, by simp [hs], ⟨fun i g hi hg => ?_, fun j hj => ?_⟩, hpast, hcom.fin (by rw [hall]; omega), hcom.tape, ⟨_, _, hwg⟩⟩
  · rw [get_map_set _ _ _ _ (by omega)] at hg
    obtain ⟨g3, h3, rfl⟩ := Option.map_eq_some_iff.1 hg
    have hlt : i < gs.size := (Array.getElem?_eq_some_iff.1 h3).1
    rw [hothers (by omega)]
    by_cases e1 : i = K
    · subst e1
      obtain ⟨g4, h4, h5⟩ := hwk false
      have : g3 = g4 := by rw [show i + false.toNat = i from rfl, h3] at h4; exact Option.some.inj h4
      subst this
      rw [woken_quitsD h5]
      have hd := hcom.deafW false
      rw [show i + false.toNat = i from rfl] at hd
      simpa [hd] using h5
    · by_cases e2 : i = K + 1
      · subst e2
        obtain ⟨g4, h4, h5⟩ := hwk true
        have : g3 = g4 := by rw [show K + true.toNat = K + 1 from rfl, h3] at h4; exact Option.some.inj h4
        subst this
        rw [woken_quitsD h5]
        have hd := hcom.deafW true
        rw [show K + true.toNat = K + 1 from rfl] at hd
        simpa [hd] using h5
      · have hq := hcom.lv i g3 hi (by omega) h3
        rw [woken_quitsD hq]
        simpa [e1, e2] using hq
  · have : gs.size ≤ j := by simpa using hj
    rw [hothers (by omega)]
    exact hcom.above j this

theorem zeroAll (G : Geo ty Wg c KA Shun Ro B Fin K) (hAr : ∀ g w, AnchW g w → g.status = .running) (hAn : ∀ g w, AnchW g w → ∃ m, Goes P true (R0 ty Wg) (D0 Wg) (AtW1 P ty Wg AnchW Anch) m g w)
    (ha : gs[0]? = some a) (hr : a.status = .running) (hcs : CS P ty Wg AnchW Anch tag f0 d0 a w) (hcom : Com P ty Wg c KA Shun Ro B val Fin K τ gs w t D d0 q) (hwg : WgAt ty Wg w st sm) (hmode : Mode D tag st sm) (hco : w.heap[c]? = some o) (hcm : CM (D false).stage (D true).stage o) : (∃ m₁ ops, runT P (crowd gs w sl) 0 = (Stepped.next m₁, ops) ∧ Done P ty Wg Shun B Fin Anch K τ m₁ (t ++ ops)) ∨ (∃ m₁ ops μ', runT P (crowd gs w sl) 0 = (Stepped.next m₁, ops) ∧ Lt2 μ' (phi (V D) tag + Sg D, f0 + 2 * Fu D + 2 * sumTo K q) ∧ Inv P ty Wg c KA Shun Ro B val Fin AnchW Anch K τ μ' m₁ (t ++ ops)) := by
  cases hcs with
  | kd h =>
    refine .inr ?_
    rcases goes_cases (R0.refl w) h with ⟨_, g', hgo, m', h'⟩ | ⟨m', g', w', es, rfl, hgo, ⟨rfl, hz⟩, h'⟩
    · refine word0 (tag' := .anch) (f' := m') G ha hcom hwg hco hcm hgo (bk_one (.inl rfl)) (.anch h') ?_ (.inl (by have := V_le D; simp only [phi]; omega))
      cases hmode with
      | opn h1 h2 h3 => exact .opn trivial h2 fun vs e => by cases e
      | fin h1 _ => exact h1.elim
      | reg h1 _ _ => exact h1.elim
      | last L h1 _ _ => exact h1.elim
    · exact idle0 (f' := m') G ha hcom hwg hmode hco hcm hgo hz (.kd h') hmode (.inr ⟨rfl, by omega⟩)
  | anch h =>
    refine .inr ?_
    rcases goes_cases (R0.refl w) h with hst | ⟨m', g', w', es, rfl, hgo, ⟨rfl, hz⟩, h'⟩
    · obtain ⟨m', h'⟩ := hAn _ _ hst
      refine w1Step G ha hcom hwg ?_ hco hcm h' (.inr rfl)
      cases hmode with
      | opn h1 h2 h3 => exact .opn trivial h2 fun vs e => by cases e
      | fin h1 _ => exact h1.elim
      | reg h1 _ _ => exact h1.elim
      | last L h1 _ _ => exact h1.elim
    · exact idle0 (f' := m') G ha hcom hwg hmode hco hcm hgo hz (.anch h') hmode (.inr ⟨rfl, by omega⟩)
  | w1 h => exact .inr (w1Step G ha hcom hwg hmode hco hcm h (.inl ⟨rfl, rfl⟩))
  | @w2 vs m _ _ h =>
    refine .inr ?_
    rcases goes_cases (R0.refl w) h with ⟨_, hst⟩ | ⟨m', g', w', es, rfl, hgo, ⟨rfl, hz⟩, h'⟩
    · cases hmode with
      | fin h1 _ => exact h1.elim
      | reg h1 _ _ => exact h1.elim
      | last L h1 _ _ => exact h1.elim
      | opn h1 h2 h3 =>
        obtain ⟨h4, h5⟩ := h3 vs rfl
        obtain ⟨hl1, hl2⟩ := hst (V D) (V_le D) hwg
        by_cases hv : V D = vs
        · obtain ⟨g', hgo, m', h'⟩ := hl1 hv
          have hwg2 := hwg.setSt (((V D : Nat) : Int) * KK + 1)
          obtain ⟨w1, w2, w3, w4⟩ := wg_rely (w := w) (x := stA Wg) (v := .int .u64 (((V D : Nat) : Int) * KK + 1)) G rfl ⟨_, _, hwg2⟩
          have hbk : ∀ e ∈ #[rd (stA Wg), wr (stA Wg)], Bk Wg e := fun e he => by
            simp only [List.mem_toArray, List.mem_cons, List.not_mem_nil, or_false] at he
            rcases he with rfl | rfl
            · exact bk_rd
            · exact bk_wr
          exact zeroStep (sl := sl) (tag' := .w3) (f' := m' + 1) G ha hcom hco hcm hgo w2 w3 w4 (pt_bk0 G.apt G.wg hcom.pt hbk) (bk_norel hbk) (.w3 h') hwg2 (.reg trivial h2 (by omega)) (.inl (by simp only [phi]; omega))
        · obtain ⟨g', hgo, m', h'⟩ := hl2 hv
          exact word0 (tag' := .anch) (f' := m') G ha hcom hwg hco hcm hgo (bk_one bk_rd) (.anch h') (.opn trivial h2 fun vs e => by cases e) (.inl (by simp only [phi]; omega))
    · exact idle0 (f' := m') G ha hcom hwg hmode hco hcm hgo hz (.w2 h') hmode (.inr ⟨rfl, by omega⟩)
  | w3 h =>
    refine .inr ?_
    rcases h.cases with hst | ⟨m', hm, hstep⟩
    · obtain ⟨_, hoff, hl1, hl2⟩ := hst w (R0.refl w)
      cases hmode with
      | opn h1 _ _ => exact h1.elim
      | fin h1 _ => exact h1.elim
      | reg h1 h2 h3 => exact idle0 (tag' := .blk) (f' := 0) G ha hcom hwg (.reg h1 h2 h3) hco hcm (hl1 ⟨_, hwg⟩) (by simp) (.blk hst) (.reg trivial h2 h3) (.inr ⟨rfl, by omega⟩)
      | last L h1 h2 h3 => exact idle0 (tag' := .blk) (f' := 0) G ha hcom hwg (.last L h1 h2 h3) hco hcm (hl1 ⟨_, hwg⟩) (by simp) (.blk hst) (.last L trivial h2 h3) (.inr ⟨rfl, by omega⟩)
      | sema h1 =>
        obtain ⟨g', hgo, m', h'⟩ := hl2 hwg
        have hwg2 := hwg.setSm 0
        obtain ⟨w1, w2, w3, w4⟩ := wg_rely (w := w) (x := smA Wg) (v := .int .u32 0) G rfl ⟨_, _, hwg2⟩
        exact zeroStep (sl := sl) (tag' := .w4) (f' := m') G ha hcom hco hcm hgo w2 w3 w4 (pt_bk0 G.apt G.wg hcom.pt bk_sem) (bk_norel bk_sem) (by rw [sem_deaf]; exact .w4 h') hwg2 (.fin trivial h1) (.inl (by simp only [phi]; omega))
    · obtain ⟨g', w', es, hgo, ⟨rfl, hz⟩, h'⟩ := hstep w (R0.refl w)
      exact idle0 (f' := m' + 1) G ha hcom hwg hmode hco hcm hgo hz (.w3 h') hmode (.inr ⟨rfl, by omega⟩)
  | blk h => cases hr
  | w4 h =>
    refine .inr ?_
    rcases goes_cases (R0.refl w) h with ⟨_, hst⟩ | ⟨m', g', w', es, rfl, hgo, ⟨rfl, hz⟩, h'⟩
    · cases hmode with
      | opn h1 _ _ => exact h1.elim
      | reg h1 _ _ => exact h1.elim
      | last L h1 _ _ => exact h1.elim
      | fin h1 h2 =>
        obtain ⟨g', hgo, m', h'⟩ := hst hwg
        exact word0 (tag' := .ke) (f' := m') G ha hcom hwg hco hcm hgo (bk_one bk_rd) (.ke h') (.fin trivial h2) (.inl (by simp only [phi]; omega))
    · exact idle0 (f' := m') G ha hcom hwg hmode hco hcm hgo hz (.w4 h') hmode (.inr ⟨rfl, by omega⟩)
  | ke h =>
    refine .inr ?_
    rcases goes_cases (R0.refl w) h with ⟨_, g', hgo, m', h'⟩ | ⟨m', g', w', es, rfl, hgo, ⟨rfl, hz⟩, h'⟩
    · refine word0 (tag' := .acq) (f' := m') G ha hcom hwg hco hcm hgo (bk_one (.inr (.inl rfl))) (.acq h') ?_ (.inl (by simp only [phi]; omega))
      cases hmode with
      | opn h1 _ _ => exact h1.elim
      | reg h1 _ _ => exact h1.elim
      | last L h1 _ _ => exact h1.elim
      | fin h1 h2 => exact .fin trivial h2
    · exact idle0 (f' := m') G ha hcom hwg hmode hco hcm hgo hz (.ke h') hmode (.inr ⟨rfl, by omega⟩)
  | acq h =>
    rcases goes_cases (R0.refl w) h with ⟨_, g', hgo, h1, h2⟩ | ⟨m', g', w', es, rfl, hgo, ⟨rfl, hz⟩, h'⟩
    · refine .inl ?_
      cases hmode with
      | opn h1 _ _ => exact h1.elim
      | reg h1 _ _ => exact h1.elim
      | last L h1 _ _ => exact h1.elim
      | fin h3 h4 => exact acqStep G ha hcom hwg h4 hco hgo h1 h2
    · exact .inr (idle0 (f' := m') G ha hcom hwg hmode hco hcm hgo hz (.acq h') hmode (.inr ⟨rfl, by omega⟩))
end
end Go.Proofs.Ph

/-
  The run of a phase: from the two go statements to behind the join.
-/
set_option linter.all false
namespace Go.Proofs.Ph
open Go Go.Conc
open Go.ConcR (KK wgBlock WgAt stA smA rd wr mk DC0 Bk)
open Go.ConcN (RelBy sumTo upd sumTo_upd upd_ne upd_same get_map_set get_map_set_same norel_of)

/-- A run whose invariant falls, to a place where it is done. -/
theorem run_to {P : Program} {α : Type} {r : α → α → Prop} (wf : WellFounded r) (I : α → Machine → Trace → Prop) (Q : Machine → Trace → Prop)
    (h : ∀ μ m t, I μ m t → (∃ m' ops, stepT P m = (.next m', ops) ∧ Q m' (t ++ ops)) ∨ (∃ m' ops μ', stepT P m = (.next m', ops) ∧ r μ' μ ∧ I μ' m' (t ++ ops))) :
    ∀ μ m t, I μ m t → ∃ n m' t', runNT P n m t = (.next m', t') ∧ Q m' t' := by
  intro μ
  induction μ using wf.induction with
  | _ μ ih =>
    intro m t hI
    rcases h μ m t hI with ⟨m', ops, hs, hq⟩ | ⟨m', ops, μ', hs, hr, hI'⟩
    · exact ⟨1, m', t ++ ops, by simp [runNT, hs], hq⟩
    · obtain ⟨n, m2, t2, h1, h2⟩ := ih μ' hr m' (t ++ ops) hI'
      exact ⟨n + 1, m2, t2, by rw [runNT, hs]; exact h1, h2⟩
theorem lt2_wf : WellFounded Lt2 := (Prod.lex Nat.lt_wfRel Nat.lt_wfRel).wf

section
variable {P : Program} {ty : TypeId} {Wg c : Nat} {KA : Nat → Prop} {Shun Ro : Loc → Prop} {B : Nat} {val : Value} {Fin : World → Prop} {AnchW : Goroutine → World → Prop} {Anch : Goroutine → Prop} {K : Nat} {τ : Nat → Question → Nat}
  {gs gs' : Array Goroutine} {w w' : World} {sl : Option (Nat × Nat)} {D D' : Bool → WD} {tag : Tag} {f0 d0 : Nat} {q : Nat → Nat} {a : Goroutine} {t : Trace} {st sm : Int} {o o' : Obj}

theorem sit_awake {b : Bool} {s m d : Nat} {g : Goroutine} (h : Sit P ty Wg c KA Shun Ro B val Fin b s m d g w) : awake g := by
  cases b with
  | false =>
    have h' : SA P ty Wg c KA Ro B val s m d g w := h
    by_cases hs : s = 11
    · cases h' with
      | park h => exact awake_of (.inr (.inl rfl))
      | tail h => exact absurd h.le (by omega)
      | _ => omega
    · rcases h'.status hs with h | h
      · exact awake_of (.inl h)
      · exact awake_of (.inr (.inr h))
  | true =>
    have h' : SB P ty Wg c KA Shun Ro B val Fin s m d g w := h
    by_cases hs : s = 11 ∨ s = 9
    · rcases hs with rfl | rfl
      · cases h' with
        | park h => exact awake_of (.inr (.inl rfl))
        | tail h => exact absurd h.le (by omega)
      · cases h' with
        | park2 h => exact awake_of (.inr (.inl rfl))
        | tail h => exact absurd h.le (by omega)
    · rcases h'.status (fun e => hs (.inl e)) (fun e => hs (.inr e)) with h | h
      · exact awake_of (.inl h)
      · exact awake_of (.inr (.inr h))
theorem sit_runs {b : Bool} {s m d : Nat} {g : Goroutine} (h : Sit P ty Wg c KA Shun Ro B val Fin b s m d g w) (h11 : s ≠ 11) (h9 : s ≠ 9) (h1 : s ≠ 1) : g.status = .running := by
  cases b with
  | false => exact SA.runs h h11 h1
  | true => exact SB.runs h h11 h9 h1

/-- ONE STEP OF THE MACHINE. -/
theorem phase_step (G : Geo ty Wg c KA Shun Ro B Fin K) (hAr : ∀ g w, AnchW g w → g.status = .running) (hAn : ∀ g w, AnchW g w → ∃ m, Goes P true (R0 ty Wg) (D0 Wg) (AtW1 P ty Wg AnchW Anch) m g w) (μ : Nat × Nat) (m : Machine) (t : Trace)
    (h : Inv P ty Wg c KA Shun Ro B val Fin AnchW Anch K τ μ m t) :
    (∃ m' ops, stepT P m = (.next m', ops) ∧ Done P ty Wg Shun B Fin Anch K τ m' (t ++ ops)) ∨ (∃ m' ops μ', stepT P m = (.next m', ops) ∧ Lt2 μ' μ ∧ Inv P ty Wg c KA Shun Ro B val Fin AnchW Anch K τ μ' m' (t ++ ops)) := by
  obtain ⟨gs, w, sl, D, tag, f0, d0, q, a, st, sm, o, rfl, ha, hcs, hcom, hwg, hmode, hco, hcm, rfl⟩ := h
  have hk := G.kpos
  have hs := hcom.size
  have haw : ∀ g ∈ gs, awake g := by
    intro g hg
    obtain ⟨i, hi⟩ := Array.getElem?_of_mem hg
    have hlt : i < gs.size := (Array.getElem?_eq_some_iff.1 hi).1
    by_cases h0 : i = 0
    · subst h0
      rw [ha] at hi
      cases hi
      rcases hcs.status hAr with ⟨h, _⟩ | ⟨h, _⟩
      · exact awake_of (.inl h)
      · exact awake_of (.inr (.inl h))
    · by_cases hlk : i < K
      · rcases (hcom.lv i g (by omega) hlk hi).status with h | h
        · exact awake_of (.inl h)
        · exact awake_of (.inr (.inr h))
      · obtain ⟨b, hb⟩ : ∃ b : Bool, i = K + b.toNat := by
          by_cases e : i = K
          · exact ⟨false, e⟩
          · exact ⟨true, by simp; omega⟩
        obtain ⟨g2, hg2, hsit⟩ := hcom.wk b
        rw [← hb, hi] at hg2
        cases hg2
        exact sit_awake hsit
  have worker : ∀ b : Bool, (D b).stage ≠ 11 → (D b).stage ≠ 9 → (D b).stage ≠ 1 → ∃ (i : Nat) (g : Goroutine), gs[i]? = some g ∧ g.status = .running := fun b h11 h9 h1 => by
    obtain ⟨g, hg, hsit⟩ := hcom.wk b
    exact ⟨_, g, hg, sit_runs hsit h11 h9 h1⟩
  have some1 : ∃ (i : Nat) (g : Goroutine), gs[i]? = some g ∧ g.status = .running := by
    rcases hcs.status hAr with ⟨h, _⟩ | ⟨_, _, rfl⟩
    · exact ⟨0, a, ha, h⟩
    · cases hmode with
      | opn h1 _ _ => exact h1.elim
      | fin h1 _ => exact h1.elim
      | last L h1 h2 h3 => exact worker L (by omega) (by omega) (by omega)
      | reg h1 h2 h3 =>
        cases hcm with
        | c1 k1 k2 k3 =>
          by_cases e : (D false).stage = 12
          · exact worker false (by omega) (by omega) (by omega)
          · exact worker true (by omega) (by omega) (by omega)
        | c2 k1 k2 => exact worker false (by omega) (by omega) (by omega)
        | c3 k1 k2 =>
          by_cases e : (D false).stage = 1
          · have hv : 1 ≤ cnt (D true) := by
              have := V_eq D false
              rw [this] at h3
              simp [cnt, e] at h3
              simp [cnt]
              omega
            have : 5 ≤ (D true).stage := by
              simp only [cnt] at hv
              split at hv
              · assumption
              · omega
            exact worker true (by omega) (by omega) (by omega)
          · exact worker false (by omega) (by omega) e
  obtain ⟨i, g, d, sl', hi, hg, hst⟩ := crowd_pick (P := P) (w := w) (sl := sl) haw some1
  rw [hst]
  have hcs' := hcs.rely (R0.at w d)
  have hcom' := hcom.at G d
  have hwg' : WgAt ty Wg (w.at d) st sm := hwg
  have hco' : (w.at d).heap[c]? = some o := hco
  have hlt : i < gs.size := (Array.getElem?_eq_some_iff.1 hi).1
  by_cases h0 : i = 0
  · subst h0
    rw [ha] at hi
    cases hi
    exact zeroAll G hAr hAn ha hg hcs' hcom' hwg' hmode hco' hcm
  · refine .inr ?_
    by_cases hlk : i < K
    · exact leaverStep G hAr ha hcs' hcom' hwg' hmode hco' hcm (by omega) hlk hi hg
    · by_cases e : i = K
      · subst e
        obtain ⟨g2, hg2, hsit⟩ := hcom'.wk false
        have : g2 = g := by
          have e2 : gs[i]? = some g2 := hg2
          rw [hi] at e2
          exact (Option.some.inj e2).symm
        subst this
        exact workA G hAr ha hcs' hcom' hwg' hmode hco' hcm hi hg hsit
      · have e1 : i = K + 1 := by omega
        subst e1
        obtain ⟨g2, hg2, hsit⟩ := hcom'.wk true
        have : g2 = g := by
          have e2 : gs[K + 1]? = some g2 := hg2
          rw [hi] at e2
          exact (Option.some.inj e2).symm
        subst this
        exact workB G hAr ha hcs' hcom' hwg' hmode hco' hcm hi hg hsit

/-! ### between the two go statements -/
/-- Goroutine 0 at the second go statement. -/
def AtGoB (P : Program) (ty : TypeId) (Wg c : Nat) (KA : Nat → Prop) (Shun Ro : Loc → Prop) (B : Nat) (val : Value) (Fin : World → Prop) (AnchW : Goroutine → World → Prop) (g : Goroutine) (w : World) : Prop :=
  g.status = .running ∧ ∃ g' child, stepG P true g w = .spawn g' child w #[] ∧ (∃ m, Goes P false (RB ty Wg c) (DB Shun Ro B Wg c KA) (AtRecv1 P ty Wg c KA Shun Ro B val Fin) m child w) ∧ ∃ m, Goes P true (R0 ty Wg) (D0 Wg) (AtKd P ty Wg AnchW) m g' w
/-- .. at the first. -/
def AtGoA (P : Program) (ty : TypeId) (Wg c : Nat) (KA : Nat → Prop) (Shun Ro : Loc → Prop) (B : Nat) (val : Value) (Fin : World → Prop) (AnchW : Goroutine → World → Prop) (τ : Nat → Question → Nat) (g : Goroutine) (w : World) : Prop :=
  g.status = .running ∧ WgAt ty Wg w (2 * KK) 0 ∧ w.heap[c]? = some (.chan 0 #[] false 0 0 false) ∧ w.tape = τ ∧ ∃ g' child, stepG P true g w = .spawn g' child w #[] ∧ (∃ m, Goes P false (RA ty Wg KA) (DA Ro B) (AtSend P ty Wg c KA Ro B val) m child w) ∧ ∃ m, Goes P true AtRel DC0 (AtGoB P ty Wg c KA Shun Ro B val Fin AnchW) m g' w

/-- Behind the first go statement. -/
def Inv1 (P : Program) (ty : TypeId) (Wg c : Nat) (KA : Nat → Prop) (Shun Ro : Loc → Prop) (B : Nat) (val : Value) (Fin : World → Prop) (AnchW : Goroutine → World → Prop) (K : Nat) (τ : Nat → Question → Nat) (μ : Nat) (m : Machine) (t : Trace) : Prop :=
  ∃ (gs : Array Goroutine) (w : World) (sl : Option (Nat × Nat)) (n mA sA : Nat) (q : Nat → Nat) (a gA : Goroutine), m = crowd gs w sl ∧ gs.size = K + 1 ∧ gs[0]? = some a ∧ Goes P true AtRel DC0 (AtGoB P ty Wg c KA Shun Ro B val Fin AnchW) n a w ∧
    gs[K]? = some gA ∧ SA P ty Wg c KA Ro B val sA mA 0 gA w ∧ (sA = 12 ∨ sA = 11) ∧ (∀ i g, 0 < i → i < K → gs[i]? = some g → QuitsD P (q i) (Deaf t i) g) ∧ (∀ j, gs.size ≤ j → Deaf t j = 0) ∧
    PT Shun Wg Ro B K 1 t ∧ NoRelease (stA Wg) t ∧ Deaf t 0 = 0 ∧ Deaf t K = 0 ∧ w.tape = τ ∧ WgAt ty Wg w (2 * KK) 0 ∧ w.heap[c]? = some (.chan 0 #[] false 0 0 false) ∧ μ = n + mA + sA + sumTo K q
end
end Go.Proofs.Ph

/-
  A phase, whole: from goroutine 0 on its way into Add, beside goroutines that only leave, to behind the join.
-/
set_option linter.all false
namespace Go.Proofs.Ph
open Go Go.Conc
open Go.ConcR (KK wgBlock WgAt stA smA rd wr mk DC0 Bk)
open Go.ConcN (RelBy sumTo upd sumTo_upd upd_ne upd_same get_map_set get_map_set_same norel_of le_sumTo)

section
variable {P : Program} {ty : TypeId} {Wg c : Nat} {KA : Nat → Prop} {Shun Ro : Loc → Prop} {B : Nat} {val : Value} {Fin : World → Prop} {AnchW : Goroutine → World → Prop} {Anch : Goroutine → Prop} {K : Nat} {τ : Nat → Question → Nat}
  {gs gs' : Array Goroutine} {w w' : World} {sl : Option (Nat × Nat)} {q : Nat → Nat} {a : Goroutine} {t : Trace}

/-- Between the two go statements: one step. -/
theorem inv1_step (G : Geo ty Wg c KA Shun Ro B Fin K) (hAr : ∀ g w, AnchW g w → g.status = .running) (μ : Nat) (m : Machine) (t : Trace) (h : Inv1 P ty Wg c KA Shun Ro B val Fin AnchW K τ μ m t) :
    (∃ m' ops, stepT P m = (.next m', ops) ∧ ∃ μ', Inv P ty Wg c KA Shun Ro B val Fin AnchW Anch K τ μ' m' (t ++ ops)) ∨ (∃ m' ops μ', stepT P m = (.next m', ops) ∧ μ' < μ ∧ Inv1 P ty Wg c KA Shun Ro B val Fin AnchW K τ μ' m' (t ++ ops)) := by
  obtain ⟨gs, w, sl, n, mA, sA, q, a, gA, rfl, hsz, ha, hgo0, hgA, hsA, hst, hlv, habove, hpt, hnr, hd0, hdK, htp, hwg, hch, rfl⟩ := h
  have hk := G.kpos
  have hrun0 : a.status = .running := hgo0.running (fun _ _ x => x.1) w (atRel_refl w)
  have hltK : K < gs.size := by omega
  have hKst : awake gA ∧ (gA.status = .running → sA = 12) := by
    generalize hm0 : (0 : Nat) = dA at hsA
    rcases hst with rfl | rfl
    · exact ⟨by rcases hsA.status (by omega) with h | h; exact awake_of (.inl h); exact awake_of (.inr (.inr h)), fun _ => rfl⟩
    · cases hsA with
      | park h => exact ⟨awake_of (.inr (.inl rfl)), fun h => by cases h⟩
      | tail h => exact absurd h.le (by omega)
  have haw : ∀ g ∈ gs, awake g := by
    intro g hg
    obtain ⟨i, hi⟩ := Array.getElem?_of_mem hg
    have hlt : i < gs.size := (Array.getElem?_eq_some_iff.1 hi).1
    by_cases h0 : i = 0
    · subst h0; rw [ha] at hi; cases hi; exact awake_of (.inl hrun0)
    · by_cases hlk : i < K
      · rcases (hlv i g (by omega) hlk hi).status with h | h
        · exact awake_of (.inl h)
        · exact awake_of (.inr (.inr h))
      · obtain rfl : i = K := by omega
        rw [hgA] at hi; cases hi; exact hKst.1
  obtain ⟨i, g, d, sl', hi, hg, hstp⟩ := crowd_pick (P := P) (w := w) (sl := sl) haw ⟨0, a, ha, hrun0⟩
  rw [hstp]
  have hlt : i < gs.size := (Array.getElem?_eq_some_iff.1 hi).1
  have hwg' : WgAt ty Wg (w.at d) (2 * KK) 0 := hwg
  have hch' : (w.at d).heap[c]? = some (.chan 0 #[] false 0 0 false) := hch
  have hsA' : SA P ty Wg c KA Ro B val sA mA 0 gA (w.at d) := hsA.rely (RA.at w d)
  have hgo0' : Goes P true AtRel DC0 (AtGoB P ty Wg c KA Shun Ro B val Fin AnchW) n a (w.at d) := Goes.rely atRel_trans hgo0 ⟨d, rfl⟩
  have hstay : ∀ (x x' : Goroutine), woken P x x' (w.at d) gA = gA := fun x x' => hsA'.stays fun _ => ⟨_, _, _, _, _, hch'⟩
  by_cases h0 : i = 0
  · subst h0
    rw [ha] at hi
    cases hi
    rcases goes_cases (atRel_refl (w.at d)) hgo0' with ⟨_, g', child, hsp, ⟨mB, hB⟩, m', hW⟩ | ⟨n', g', w', es, rfl, hgo, ⟨rfl, rfl⟩, h'⟩
    · -- THE SECOND GO STATEMENT
      refine .inl ?_
      have hr := runT_crowd_spawn (P := P) (sl := sl') (i := 0) ha (show stepG P (0 == 0) a (w.at d) = _ from hsp)
      rw [ofEvents_nil, hsz, show ∀ x y : MemOp, ((#[] : Trace).push x).push y = #[x, y] from fun _ _ => rfl] at hr
      have hst2 : ∀ op ∈ (#[({ g := 0, fn := a.frame.fn, pos := a.frame.place, act := .go (K + 1) } : MemOp), { g := K + 1, fn := child.frame.fn, pos := a.frame.place, act := .start }] : Trace), op.act ≠ .mark .disable ∧ op.act ≠ .mark .enable := by
        intro op hop
        simp only [List.mem_toArray, List.mem_cons, List.not_mem_nil, or_false] at hop
        rcases hop with rfl | rfl <;> simp
      have hdd : ∀ u, Deaf (t ++ (#[({ g := 0, fn := a.frame.fn, pos := a.frame.place, act := .go (K + 1) } : MemOp), { g := K + 1, fn := child.frame.fn, pos := a.frame.place, act := .start }] : Trace)) u = Deaf t u := fun u => deaf_mutes hst2
      have hfk := hpt.fork (j := 1) (by omega) (x := { g := 0, fn := a.frame.fn, pos := a.frame.place, act := .go (K + 1) }) (y := { g := K + 1, fn := child.frame.fn, pos := a.frame.place, act := .start }) ⟨rfl, rfl⟩ ⟨rfl, rfl⟩ hd0 (habove (K + 1) (by omega))
      have hold : ∀ j, j < gs.size → j ≠ 0 → ((gs.setIfInBounds 0 g').push child)[j]? = gs[j]? := fun j hj hj0 => by
        rw [Array.getElem?_push_lt (by simpa using hj), ← Array.getElem?_eq_getElem, Array.getElem?_setIfInBounds_ne (by omega)]
      let D : Bool → WD := fun b => if b then ⟨12, mB, 0⟩ else ⟨sA, mA, 0⟩
      have hs5 : 5 ≤ sA := by omega
      refine ⟨_, _, hr, _, (gs.setIfInBounds 0 g').push child, w.at d, sl', D, .kd, m', 0, q, g', 2 * KK, 0, .chan 0 #[] false 0 0 false, rfl, ?_, .kd hW, ⟨by simp [hsz], fun b => ?_, fun i g hi hiK hg => ?_, fun j hj => ?_, hfk, hnr.app fun op hop => ?_, by rw [hdd]; exact hd0, fun b => ?_, fun b hb => ?_, fun hb => ?_, htp⟩, hwg', ?_, hch', .c1 hst (.inl rfl) (by simp [D]), rfl⟩
      · rw [Array.getElem?_push_lt (by simp; omega), ← Array.getElem?_eq_getElem, Array.getElem?_setIfInBounds_self_of_lt (by omega)]
      · cases b with
        | false => exact ⟨gA, by rw [show K + false.toNat = K from rfl, hold K hltK (by omega)]; exact hgA, hsA'⟩
        | true =>
          refine ⟨child, ?_, .recv hB⟩
          have : ((gs.setIfInBounds 0 g').push child)[(gs.setIfInBounds 0 g').size]? = some child := Array.getElem?_push_size
          rw [show K + true.toNat = (gs.setIfInBounds 0 g').size by simp [hsz]]
          exact this
      · rw [hold i (by omega) (by omega)] at hg
        rw [hdd]
        exact hlv i g hi hiK hg
      · rw [hdd]
        exact habove j (by simp at hj; omega)
      · have : op ∈ (#[({ g := 0, fn := a.frame.fn, pos := a.frame.place, act := .go (K + 1) } : MemOp), { g := K + 1, fn := child.frame.fn, pos := a.frame.place, act := .start }] : Trace) := hop
        simp only [List.mem_toArray, List.mem_cons, List.not_mem_nil, or_false] at this
        rcases this with rfl | rfl <;> simp
      · rw [hdd]
        cases b
        · exact hdK
        · exact habove (K + 1) (by omega)
      · cases b <;> simp [D] at hb <;> omega
      · simp [D] at hb
      · have : V D = 2 := by simp [V, cnt, D, hs5]
        have e : (2 * KK : Int) = ((V D : Nat) : Int) * KK := by rw [this]; rfl
        rw [e]
        refine .opn trivial (fun b => by cases b <;> simp [D] <;> omega) fun vs e => by cases e
    · refine .inr ?_
      have hr := runT_crowd_go (P := P) (sl := sl') (i := 0) ha (show stepG P (0 == 0) a (w.at d) = _ from hgo)
      rw [ofEvents_nil] at hr
      refine ⟨_, _, n' + mA + sA + sumTo K q, hr, by omega, _, w.at d, sl', n', mA, sA, q, g', gA, rfl, by simp [hsz], get_map_set_same _ _ _ (by omega), h', by rw [get_map_set _ _ _ _ (by omega), hgA, Option.map_some, hstay], hsA', hst, fun i g hi hiK hg => ?_, fun j hj => by simpa using habove j (by simpa using hj), by simpa using hpt, by simpa using hnr, by simpa using hd0, by simpa using hdK, htp, hwg', hch', rfl⟩
      rw [get_map_set _ _ _ _ (by omega)] at hg
      obtain ⟨g3, h3, rfl⟩ := Option.map_eq_some_iff.1 hg
      have hq := hlv i g3 hi hiK h3
      rw [woken_quitsD hq]
      simpa using hq
  · refine .inr ?_
    by_cases hlk : i < K
    · have hq := hlv i g (by omega) hlk hi
      cases hqi : q i with
      | zero => rw [hqi] at hq; rw [hq.1] at hg; cases hg
      | succ k =>
        rw [hqi] at hq
        rcases hq with ⟨hf, _⟩ | ⟨_, g', es, hm, hsq, hq'⟩
        · rw [hf] at hg; cases hg
        have hi0 : (i == 0) = false := by simp; omega
        have hr := runT_crowd_go (P := P) (sl := sl') (i := i) hi (by rw [hi0]; exact hsq (w.at d))
        have hothers : ∀ {u : Nat}, u ≠ i → Deaf (t ++ MemOp.ofEvents i g.frame.fn g.frame.place es) u = Deaf t u := fun hu => Deaf_other t (fun e => hu e.symm) _ of_g
        have hsum : sumTo K (upd q i k) + (k + 1) = sumTo K q + k := by
          have := sumTo_upd q k id hlk
          simpa [hqi] using this
        refine ⟨_, _, n + mA + sA + sumTo K (upd q i k), hr, by omega, _, w.at d, sl', n, mA, sA, upd q i k, a, gA, rfl, by simp [hsz], by rw [get_map_set _ _ _ _ (by omega), ha, Option.map_some, woken_run hrun0], hgo0', by rw [get_map_set _ _ _ _ (by omega), hgA, Option.map_some, hstay], hsA', hst, fun j g2 hj hjK h2 => ?_, fun j hj => ?_, pt_mute hpt fun e he => ⟨touch_mute (hm e he), low_mute (hm e he) B⟩, hnr.app (norel_of fun e he hl => ?_), by rw [hothers (by omega)]; exact hd0, by rw [hothers (by omega)]; exact hdK, htp, hwg', hch', rfl⟩
        · by_cases hji : i = j
          · subst hji
            rw [get_map_set_same _ _ _ hlt] at h2
            cases h2
            rw [upd_same, Deaf_own]
            exact hq'
          · rw [get_map_set _ _ _ _ hji] at h2
            obtain ⟨g3, h3, rfl⟩ := Option.map_eq_some_iff.1 h2
            have hqj := hlv j g3 hj hjK h3
            rw [woken_quitsD hqj, upd_ne q k (Ne.symm hji), hothers (Ne.symm hji)]
            exact hqj
        · have : gs.size ≤ j := by simpa using hj
          rw [hothers (by omega)]
          exact habove j this
        · have := hm e he
          obtain ⟨loc, x, s⟩ := e
          simp only at hl
          subst hl
          cases this
    · -- the first worker
      obtain rfl : i = K := by omega
      rw [hgA] at hi
      cases hi
      have h12 := hKst.2 hg
      subst h12
      have hi0 : (i == 0) = false := by simp; omega
      generalize hm0 : (0 : Nat) = dA at hsA'
      cases hsA' with
      | tail h => exact absurd h.le (by omega)
      | send h =>
        rcases h.cases with hstop | ⟨m', hm', hstep⟩
        · obtain ⟨_, hoff, z, hgo, _⟩ := hstop _ (RA.refl _)
          have hp : partners (gs.setIfInBounds i ph) c false = [] := partners_nil fun j x hx => by
            rcases getElem?_stand gs _ j x hx with ⟨_, rfl⟩ | ⟨h1, h2⟩
            · exact offersAt_ph c false
            · have hltj : j < gs.size := (Array.getElem?_eq_some_iff.1 h2).1
              by_cases e0 : j = 0
              · subst e0; rw [ha] at h2; cases h2; exact offersAt_of_not_blocked (by rw [hrun0]; simp) c false
              · rcases (hlv j x (by omega) (by omega) h2).status with h | h
                · exact offersAt_of_not_blocked (by rw [h]; simp) c false
                · exact offersAt_of_not_blocked (by rw [h]; simp) c false
          have hr := crowd_waits (P := P) (sl := sl') (i := i) hgA (by rw [hi0]; exact hgo) (fun cc hcc => by rw [mem_one hcc]; exact ways_send_none hch' (by simp) hp)
          rw [ofEvents_nil] at hr
          refine ⟨_, _, n + 0 + 11 + sumTo i q, hr, by omega, _, w.at d, sl', n, 0, 11, q, a, _, rfl, by simp [hsz], by rw [Array.getElem?_setIfInBounds_ne (by omega)]; exact ha, hgo0', by rw [Array.getElem?_setIfInBounds_self_of_lt hltK], SA.park hstop, .inr rfl, fun j g hj hjK hg => ?_, fun j hj => by simpa using habove j (by simpa using hj), by simpa using hpt, by simpa using hnr, by simpa using hd0, by simpa using hdK, htp, hwg', hch', rfl⟩
          rw [Array.getElem?_setIfInBounds_ne (by omega)] at hg
          simpa using hlv j g hj hjK hg
        · obtain ⟨g', w', es, hgo, ⟨rfl, hes⟩, h'⟩ := hstep _ (RA.refl _)
          have hr := runT_crowd_go (P := P) (sl := sl') (i := i) hgA (by rw [hi0]; exact hgo)
          have hothers : ∀ {u : Nat}, u ≠ i → Deaf (t ++ MemOp.ofEvents i gA.frame.fn gA.frame.place es) u = Deaf t u := fun hu => Deaf_other t (fun e => hu e.symm) _ of_g
          have hmk : ∀ e ∈ es, e.loc ≠ .mark .disable ∧ e.loc ≠ .mark .enable ∧ e.loc ≠ .mark (.release (stA Wg)) := fun e he => by
            obtain ⟨x, rfl, _⟩ := hes e he
            exact ⟨by simp, by simp, by simp⟩
          have hpt' : PT Shun Wg Ro B i 1 (t ++ MemOp.ofEvents i gA.frame.fn gA.frame.place es) := by
            refine hpt.workA G.apt (by omega) of_g (pt_of (u := t) fun e h g b hb => ?_) (counts_new hdK fun e h => ⟨(hmk e h).1, (hmk e h).2.1⟩) (pt_of (u := t) fun e h g => ?_)
            · obtain ⟨x, rfl, h1, h2⟩ := hes e h
              simp only [MemAct.ofEvent, MemAct.touch?, Option.some.injEq] at hb
              subst hb
              exact ⟨.inl h1, rfl⟩
            · obtain ⟨x, rfl, h1, h2⟩ := hes e h
              exact h2
          refine ⟨_, _, n + m' + 12 + sumTo i q, hr, by omega, _, w.at d, sl', n, m', 12, q, a, g', rfl, by simp [hsz], by rw [get_map_set _ _ _ _ (by omega), ha, Option.map_some, woken_run hrun0], hgo0', get_map_set_same _ _ _ hltK, .send h', .inl rfl, fun j g2 hj hjK h2 => ?_, fun j hj => ?_, hpt', hnr.app (norel_of fun e he => (hmk e he).2.2), by rw [hothers (by omega)]; exact hd0, ?_, htp, hwg', hch', rfl⟩
          · rw [get_map_set _ _ _ _ (by omega)] at h2
            obtain ⟨g3, h3, rfl⟩ := Option.map_eq_some_iff.1 h2
            have hqj := hlv j g3 hj hjK h3
            rw [woken_quitsD hqj, hothers (by omega)]
            exact hqj
          · have : gs.size ≤ j := by simpa using hj
            rw [hothers (by omega)]
            exact habove j this
          · rw [Deaf_own, hdK]
            exact deafBehind_still (fun e he => ⟨(hmk e he).1, (hmk e he).2.1⟩) 0
end
end Go.Proofs.Ph

/-
  A phase, whole: from goroutine 0 on its way into Add, beside goroutines that only leave, to behind the join.
-/
set_option linter.all false
namespace Go.Proofs.Ph
open Go Go.Conc
open Go.ConcR (KK wgBlock WgAt stA smA rd wr mk DC0 Bk)
open Go.ConcN (RelBy sumTo upd sumTo_upd upd_ne upd_same get_map_set get_map_set_same norel_of le_sumTo)

section
variable {P : Program} {X : Trace → Prop}
theorem leavers_all {t : Trace} {gs : Array Goroutine} {q : Nat → Nat} {a : Goroutine} (hL : Leavers P t gs q) (h0 : gs[0]? = some a) (hrun : a.status = .running) : ∀ g ∈ gs, awake g := by
  intro g hg
  obtain ⟨i, hi⟩ := Array.getElem?_of_mem hg
  cases i with
  | zero => rw [h0] at hi; cases hi; exact awake_of (.inl hrun)
  | succ i =>
    rcases (hL.old (i + 1) g (by omega) hi).status with h | h
    · exact awake_of (.inl h)
    · exact awake_of (.inr (.inr h))
/-- GOROUTINE 0's TURN COMES: the leavers' steps ahead of it. -/
theorem zero_next (hX : ∀ t i fn pos es, i ≠ 0 → X t → (∀ e ∈ es, Event.mute e = true) → X (t ++ MemOp.ofEvents i fn pos es)) : ∀ (M : Nat) (gs : Array Goroutine) (a : Goroutine) (w : World) (sl : Option (Nat × Nat)) (t : Trace) (q : Nat → Nat),
    sumTo gs.size q ≤ M → gs[0]? = some a → a.status = .running → Leavers P t gs q → X t →
      ∃ (N : Nat) (gs1 : Array Goroutine) (sl1 : Option (Nat × Nat)) (t1 : Trace) (q1 : Nat → Nat) (d1 d : Nat) (sl2 : Option (Nat × Nat)),
        runNT P N (crowd gs w sl) t = (.next (crowd gs1 (w.at d1) sl1), t1) ∧ gs1.size = gs.size ∧ gs1[0]? = some a ∧ Leavers P t1 gs1 q1 ∧ X t1 ∧ stepT P (crowd gs1 (w.at d1) sl1) = runT P (crowd gs1 (w.at d) sl2) 0 := by
  intro M
  induction M with
  | zero =>
    intro gs a w sl t q hM h0 hrun hL hx
    obtain ⟨i, g, d, sl', hi, hg, hst⟩ := crowd_pick (P := P) (w := w) (sl := sl) (leavers_all hL h0 hrun) ⟨0, a, h0, hrun⟩
    cases i with
    | zero => exact ⟨0, gs, sl, t, q, w.drawn, d, sl', rfl, rfl, h0, hL, hx, hst⟩
    | succ i =>
      have hq := hL.old (i + 1) g (by omega) hi
      have : q (i + 1) = 0 := by
        have := le_sumTo (f := q) (Array.getElem?_eq_some_iff.1 hi).1
        omega
      rw [this] at hq
      rw [hq.1] at hg
      cases hg
  | succ M ih =>
    intro gs a w sl t q hM h0 hrun hL hx
    obtain ⟨i, g, d, sl', hi, hg, hst⟩ := crowd_pick (P := P) (w := w) (sl := sl) (leavers_all hL h0 hrun) ⟨0, a, h0, hrun⟩
    cases i with
    | zero => exact ⟨0, gs, sl, t, q, w.drawn, d, sl', rfl, rfl, h0, hL, hx, hst⟩
    | succ i =>
      have hlt : i + 1 < gs.size := (Array.getElem?_eq_some_iff.1 hi).1
      have hq := hL.old (i + 1) g (by omega) hi
      cases hqi : q (i + 1) with
      | zero => rw [hqi] at hq; rw [hq.1] at hg; cases hg
      | succ k =>
        rw [hqi] at hq
        rcases hq with ⟨hf, _⟩ | ⟨_, g', es, hm, hstp, hq'⟩
        · rw [hf] at hg; cases hg
        have hr := runT_crowd_go (P := P) (sl := sl') (i := i + 1) hi (hstp (w.at d))
        have hsz : ((gs.map (woken P g g' (w.at d))).setIfInBounds (i + 1) g').size = gs.size := by simp
        have hsum : sumTo gs.size (upd q (i + 1) k) + (k + 1) = sumTo gs.size q + k := by
          have := sumTo_upd q k id hlt
          simpa [hqi] using this
        have hL' : Leavers P (t ++ MemOp.ofEvents (i + 1) g.frame.fn g.frame.place es) ((gs.map (woken P g g' (w.at d))).setIfInBounds (i + 1) g') (upd q (i + 1) k) := by
          refine ⟨fun j x hj hx => ?_, fun j hj => ?_⟩
          · by_cases hji : i + 1 = j
            · subst hji
              rw [get_map_set_same _ _ _ hlt] at hx
              cases hx
              rw [upd_same, Deaf_own]
              exact hq'
            · rw [get_map_set _ _ _ _ hji] at hx
              obtain ⟨y, hy, rfl⟩ := Option.map_eq_some_iff.1 hx
              have hqj := hL.old j y hj hy
              rw [woken_quitsD hqj, upd_ne q k (Ne.symm hji), Deaf_other t hji _ of_g]
              exact hqj
          · have : gs.size ≤ j := by simpa using hj
            rw [Deaf_other t (g' := i + 1) (by omega) _ of_g]
            exact hL.above j this
        obtain ⟨N, gs1, sl1, t1, q1, d1, d2, sl2, r1, r2, r3, r4, r5, r6⟩ := ih ((gs.map (woken P g g' (w.at d))).setIfInBounds (i + 1) g') a (w.at d) sl' (t ++ MemOp.ofEvents (i + 1) g.frame.fn g.frame.place es) (upd q (i + 1) k)
          (by rw [hsz]; omega) (by rw [get_map_set _ _ _ _ (by omega), h0, Option.map_some, woken_run hrun]) hrun hL' (hX _ _ _ _ _ (by omega) hx hm)
        exact ⟨N + 1, gs1, sl1, t1, q1, d1, d2, sl2, by rw [runNT, hst, hr]; exact r1, r2.trans hsz, r3, r4, r5, r6⟩
theorem leavers_zero {t : Trace} {gs : Array Goroutine} {q : Nat → Nat} {a a' : Goroutine} {w' : World} {fn : FuncId} {pos : String} {es : Array Event} (hn : 0 < gs.size) (hL : Leavers P t gs q) :
    Leavers P (t ++ MemOp.ofEvents 0 fn pos es) ((gs.map (woken P a a' w')).setIfInBounds 0 a') q := by
  refine ⟨fun j x hj hx => ?_, fun j hj => ?_⟩
  · rw [get_map_set _ _ _ _ (by omega)] at hx
    obtain ⟨y, hy, rfl⟩ := Option.map_eq_some_iff.1 hx
    have hq := hL.old j y hj hy
    rw [woken_quitsD hq, Deaf_other t (by omega) _ of_g]
    exact hq
  · have : gs.size ≤ j := by simpa using hj
    rw [Deaf_other t (g' := 0) (by omega) _ of_g]
    exact hL.above j this
/-- One step of goroutine 0's own. -/
theorem zero_go {X' : Trace → Prop} (hX : ∀ t i fn pos es, i ≠ 0 → X t → (∀ e ∈ es, Event.mute e = true) → X (t ++ MemOp.ofEvents i fn pos es)) {gs : Array Goroutine} {a : Goroutine} {w : World} {sl : Option (Nat × Nat)} {t : Trace} {q : Nat → Nat}
    (h0 : gs[0]? = some a) (hrun : a.status = .running) (hL : Leavers P t gs q) (hx : X t) {Q : Goroutine → World → Prop}
    (hstep : ∀ d, ∃ g' w' es, stepG P true a (w.at d) = .go g' w' es ∧ Q g' w' ∧ ∀ t1 fn pos, X t1 → X' (t1 ++ MemOp.ofEvents 0 fn pos es)) :
    ∃ (N : Nat) (gs' : Array Goroutine) (a' : Goroutine) (w' : World) (sl' : Option (Nat × Nat)) (t' : Trace) (q' : Nat → Nat), runNT P N (crowd gs w sl) t = (.next (crowd gs' w' sl'), t') ∧ gs'.size = gs.size ∧ gs'[0]? = some a' ∧ Leavers P t' gs' q' ∧ X' t' ∧ Q a' w' := by
  obtain ⟨N, gs1, sl1, t1, q1, d1, d, sl2, r1, r2, r3, r4, r5, r6⟩ := zero_next hX _ gs a w sl t q (Nat.le_refl _) h0 hrun hL hx
  obtain ⟨g', w', es, hgo, hq, hx'⟩ := hstep d
  have hr := runT_crowd_go (P := P) (sl := sl2) (i := 0) r3 (show stepG P (0 == 0) a (w.at d) = _ from hgo)
  have hn : 0 < gs1.size := (Array.getElem?_eq_some_iff.1 r3).1
  refine ⟨N + 1, (gs1.map (woken P a g' w')).setIfInBounds 0 g', g', w', sl2, t1 ++ MemOp.ofEvents 0 a.frame.fn a.frame.place es, q1, ?_, by simp [r2], get_map_set_same _ _ _ hn, leavers_zero hn r4, hx' _ _ _ r5, hq⟩
  rw [runNT_add, r1]
  simp only [runNT, r6, hr]
/-- A walk of goroutine 0's. -/
theorem zero_walk (hX : ∀ t i fn pos es, i ≠ 0 → X t → (∀ e ∈ es, Event.mute e = true) → X (t ++ MemOp.ofEvents i fn pos es)) {E : World → World → Array Event → Prop} {Stop : Goroutine → World → Prop} (hSt : ∀ g w, Stop g w → g.status = .running)
    (hE : ∀ w w' es, E w w' es → ∀ t fn pos, X t → X (t ++ MemOp.ofEvents 0 fn pos es)) : ∀ (n : Nat) (gs : Array Goroutine) (a : Goroutine) (w : World) (sl : Option (Nat × Nat)) (t : Trace) (q : Nat → Nat), gs[0]? = some a → Leavers P t gs q → X t → Goes P true AtRel E Stop n a w →
      ∃ (N : Nat) (gs' : Array Goroutine) (a' : Goroutine) (w' : World) (sl' : Option (Nat × Nat)) (t' : Trace) (q' : Nat → Nat), runNT P N (crowd gs w sl) t = (.next (crowd gs' w' sl'), t') ∧ gs'.size = gs.size ∧ gs'[0]? = some a' ∧ Leavers P t' gs' q' ∧ X t' ∧ ∀ d, Stop a' (w'.at d) := by
  intro n
  induction n with
  | zero => exact fun gs a w sl t q h0 hL hx h => ⟨0, gs, a, w, sl, t, q, rfl, rfl, h0, hL, hx, fun d => h _ ⟨d, rfl⟩⟩
  | succ n ih =>
    intro gs a w sl t q h0 hL hx h
    rcases h with h | ⟨hrun, h⟩
    · exact ⟨0, gs, a, w, sl, t, q, rfl, rfl, h0, hL, hx, fun d => h _ ⟨d, rfl⟩⟩
    · obtain ⟨N, gs1, a1, w1, sl1, t1, q1, r1, r2, r3, r4, r5, r6⟩ := zero_go (X' := X) (Q := fun g' w' => Goes P true AtRel E Stop n g' w') (sl := sl) hX h0 hrun hL hx (fun d => by
        obtain ⟨g', w', es, hgo, hk⟩ := goes_elim (h (w.at d) ⟨d, rfl⟩)
        exact ⟨g', w', es, hgo, hk.2, fun t1 fn pos hx1 => hE _ _ _ hk.1 t1 fn pos hx1⟩)
      obtain ⟨N2, gs2, a2, w2, sl2, t2, q2, k1, k2, k3, k4, k5, k6⟩ := ih gs1 a1 w1 sl1 t1 q1 r3 r4 r5 r6
      exact ⟨N + N2, gs2, a2, w2, sl2, t2, q2, by rw [runNT_add, r1]; exact k1, k2.trans r2, k3, k4, k5, k6⟩
end

section
variable {P : Program} {ty : TypeId} {Wg c : Nat} {KA : Nat → Prop} {Shun Ro : Loc → Prop} {B : Nat} {val : Value} {Fin : World → Prop} {AnchW : Goroutine → World → Prop} {Anch : Goroutine → Prop} {K : Nat} {τ : Nat → Question → Nat}
  {gs gs' : Array Goroutine} {w w' : World} {sl : Option (Nat × Nat)} {q : Nat → Nat} {a : Goroutine} {t : Trace}
/-- The trace while goroutine 0 is the only one that acts. -/
def TX (Shun : Loc → Prop) (Wg : Nat) (Ro : Loc → Prop) (B K d0 : Nat) (t : Trace) : Prop := PT Shun Wg Ro B K 0 t ∧ NoRelease (stA Wg) t ∧ Deaf t 0 = d0
theorem tx_mute {d0 : Nat} (t : Trace) (i : Nat) (fn : FuncId) (pos : String) (es : Array Event) (hi : i ≠ 0) (h : TX Shun Wg Ro B K d0 t) (hm : ∀ e ∈ es, Event.mute e = true) : TX Shun Wg Ro B K d0 (t ++ MemOp.ofEvents i fn pos es) := by
  refine ⟨pt_mute h.1 fun e he => ⟨touch_mute (hm e he), low_mute (hm e he) B⟩, h.2.1.app (norel_of fun e he hl => ?_), by rw [Deaf_other t hi _ of_g]; exact h.2.2⟩
  have := hm e he
  obtain ⟨loc, x, s⟩ := e
  simp only at hl
  subst hl
  cases this
theorem tx_bk {d0 : Nat} (A : Apt Shun Wg Ro) (hWg : Wg < B) {es : Array Event} {fn : FuncId} {pos : String} (h : TX Shun Wg Ro B K d0 t) (hes : ∀ e ∈ es, Bk Wg e) : TX Shun Wg Ro B K (deafBehind d0 es) (t ++ MemOp.ofEvents 0 fn pos es) :=
  ⟨pt_bk0 A hWg h.1 hes, h.2.1.app (norel_of (bk_norel hes)), by rw [Deaf_own, h.2.2]⟩
/-- What Add says of the group's second cell. -/
def DR (Wg : Nat) (w w' : World) (es : Array Event) : Prop := w' = w ∧ ∀ e ∈ es, ∃ x : Addr, x.block = Wg ∧ e = ⟨.mark (.read x), false, true⟩
theorem tx_r {d0 : Nat} (A : Apt Shun Wg Ro) (hWg : Wg < B) {es : Array Event} {fn : FuncId} {pos : String} (h : TX Shun Wg Ro B K d0 t) (hes : ∀ e ∈ es, ∃ x : Addr, x.block = Wg ∧ e = ⟨.mark (.read x), false, true⟩) : TX Shun Wg Ro B K d0 (t ++ MemOp.ofEvents 0 fn pos es) := by
  refine ⟨h.1.zero A of_g (pt_of (u := t) fun e he g b hb => ?_) (pt_of (u := t) fun e he g => ?_), h.2.1.app (norel_of fun e he => ?_), ?_⟩
  · obtain ⟨x, hx, rfl⟩ := hes e he
    simp only [MemAct.ofEvent, MemAct.touch?, Option.some.injEq] at hb
    subst hb
    exact ⟨⟨x, rfl, hx⟩, by simp⟩
  · obtain ⟨x, hx, rfl⟩ := hes e he
    show x.block < B
    omega
  · obtain ⟨x, hx, rfl⟩ := hes e he
    simp
  · rw [Deaf_own, h.2.2]
    exact deafBehind_still (fun e he => by obtain ⟨x, hx, rfl⟩ := hes e he; simp) _
theorem norel_past {B0 : Nat} (h : Past Shun B0 t) (hW : B0 ≤ Wg) : NoRelease (stA Wg) t := by
  intro i hi
  obtain ⟨op, hop, hoa⟩ := Option.map_eq_some_iff.1 hi
  have := h.seen op (Array.mem_of_getElem? hop)
  rw [hoa] at this
  have h2 : Wg < B0 := this
  omega

/-! ### goroutine 0, in Add -/
def AtAdd3 (P : Program) (NX : Goroutine → World → Prop) (g : Goroutine) (w : World) : Prop :=
  g.status = .running ∧ ∃ g', stepG P true g w = .go g' w #[mk .enable] ∧ ∃ m, Goes P true AtRel DC0 NX m g' w
def AtAdd2 (P : Program) (Wg : Nat) (NX : Goroutine → World → Prop) (g : Goroutine) (w : World) : Prop :=
  g.status = .running ∧ ∃ g', stepG P true g w = .go g' (w.setCell (stA Wg) (.int .u64 (2 * KK))) #[rd (stA Wg), wr (stA Wg)] ∧ ∃ m, Goes P true AtRel (DR Wg) (AtAdd3 P NX) m g' (w.setCell (stA Wg) (.int .u64 (2 * KK)))
def AtAdd1 (P : Program) (Wg : Nat) (NX : Goroutine → World → Prop) (g : Goroutine) (w : World) : Prop :=
  g.status = .running ∧ ∃ g', stepG P true g w = .go g' w #[mk .disable] ∧ ∃ m, Goes P true AtRel DC0 (AtAdd2 P Wg NX) m g' w

/-- THE PHASE. -/
theorem phase (G : Geo ty Wg c KA Shun Ro B Fin gs.size) (hAr : ∀ g w, AnchW g w → g.status = .running) (hAn : ∀ g w, AnchW g w → ∃ m, Goes P true (R0 ty Wg) (D0 Wg) (AtW1 P ty Wg AnchW Anch) m g w)
    {B0 : Nat} (h0 : gs[0]? = some a) (hL : Leavers P t gs q) (hP : Past Shun B0 t) (hB0 : B0 ≤ Wg)
    {E : World → World → Array Event → Prop} (hE : ∀ w w' es, E w w' es → ∀ e ∈ es, EvL Shun B e ∧ e.loc ≠ .mark (.release (stA Wg))) {n : Nat}
    (h : Goes P true AtRel E (AtAdd1 P Wg (AtGoA P ty Wg c KA Shun Ro B val Fin AnchW τ)) n a w) :
    ∃ N m' t', runNT P N (crowd gs w sl) t = (.next m', t') ∧ Done P ty Wg Shun B Fin Anch gs.size τ m' t' := by
  have hx0 : TX Shun Wg Ro B gs.size 0 t := ⟨(PT.of_past hP).mono (by have := G.wg; omega), norel_past hP hB0, hP.hears⟩
  have nil : ∀ {d0 : Nat} {t : Trace} {fn : FuncId} {pos : String}, TX Shun Wg Ro B gs.size d0 t → TX Shun Wg Ro B gs.size d0 (t ++ MemOp.ofEvents 0 fn pos #[]) := fun hx => by rw [ofEvents_nil]; simpa using hx
  -- to Add
  obtain ⟨N1, gs1, a1, w1, sl1, t1, q1, r1, z1, h01, L1, x1, s1⟩ := zero_walk (X := TX Shun Wg Ro B gs.size 0) tx_mute (fun g w h => h.1) (fun w w' es he t fn pos hx => by
    have hev := hE w w' es he
    refine ⟨hx.1.alone of_g (pt_of (u := t) fun e h g b hb hs => (hev e h).1.1 b hb hs) (pt_of (u := t) fun e h g => (hev e h).1.2.2.2), hx.2.1.app (norel_of fun e h => (hev e h).2), ?_⟩
    rw [Deaf_own, hx.2.2]
    exact deafBehind_still (fun e h => ⟨(hev e h).1.2.1, (hev e h).1.2.2.1⟩) 0) n gs a w sl t q h0 hL hx0 h
  -- disable
  obtain ⟨N2, gs2, a2, w2, sl2, t2, q2, r2, z2, h02, L2, x2, m2, s2⟩ := zero_go (X' := TX Shun Wg Ro B gs.size 1) (Q := fun g w => ∃ m, Goes P true AtRel DC0 (AtAdd2 P Wg (AtGoA P ty Wg c KA Shun Ro B val Fin AnchW τ)) m g w) (sl := sl1) tx_mute h01 (s1 0).1 L1 x1 (fun d => by
    obtain ⟨_, g', hgo, hm⟩ := s1 d
    exact ⟨g', _, _, hgo, hm, fun t1 fn pos hx => tx_bk G.apt G.wg hx (bk_one (.inl rfl))⟩)
  obtain ⟨N3, gs3, a3, w3, sl3, t3, q3, r3, z3, h03, L3, x3, s3⟩ := zero_walk (X := TX Shun Wg Ro B gs.size 1) tx_mute (fun g w h => h.1) (fun w w' es he t fn pos hx => by rw [he.2]; exact nil hx) m2 gs2 a2 w2 sl2 t2 q2 h02 L2 x2 s2
  -- the add
  obtain ⟨N4, gs4, a4, w4, sl4, t4, q4, r4, z4, h04, L4, x4, m4, s4⟩ := zero_go (X' := TX Shun Wg Ro B gs.size 1) (Q := fun g w => ∃ m, Goes P true AtRel (DR Wg) (AtAdd3 P (AtGoA P ty Wg c KA Shun Ro B val Fin AnchW τ)) m g w) (sl := sl3) tx_mute h03 (s3 0).1 L3 x3 (fun d => by
    obtain ⟨_, g', hgo, hm⟩ := s3 d
    exact ⟨g', _, _, hgo, hm, fun t1 fn pos hx => tx_bk G.apt G.wg hx (fun e he => by
      simp only [List.mem_toArray, List.mem_cons, List.not_mem_nil, or_false] at he
      rcases he with rfl | rfl
      · exact bk_rd
      · exact bk_wr)⟩)
  obtain ⟨N5, gs5, a5, w5, sl5, t5, q5, r5, z5, h05, L5, x5, s5⟩ := zero_walk (X := TX Shun Wg Ro B gs.size 1) tx_mute (fun g w h => h.1) (fun w w' es he t fn pos hx => tx_r G.apt G.wg hx he.2) m4 gs4 a4 w4 sl4 t4 q4 h04 L4 x4 s4
  -- enable
  obtain ⟨N6, gs6, a6, w6, sl6, t6, q6, r6, z6, h06, L6, x6, m6, s6⟩ := zero_go (X' := TX Shun Wg Ro B gs.size 0) (Q := fun g w => ∃ m, Goes P true AtRel DC0 (AtGoA P ty Wg c KA Shun Ro B val Fin AnchW τ) m g w) (sl := sl5) tx_mute h05 (s5 0).1 L5 x5 (fun d => by
    obtain ⟨_, g', hgo, hm⟩ := s5 d
    exact ⟨g', _, _, hgo, hm, fun t1 fn pos hx => tx_bk G.apt G.wg hx (bk_one (.inr (.inl rfl)))⟩)
  obtain ⟨N7, gs7, a7, w7, sl7, t7, q7, r7, z7, h07, L7, x7, s7⟩ := zero_walk (X := TX Shun Wg Ro B gs.size 0) tx_mute (fun g w h => h.1) (fun w w' es he t fn pos hx => by rw [he.2]; exact nil hx) m6 gs6 a6 w6 sl6 t6 q6 h06 L6 x6 s6
  -- the first go statement
  obtain ⟨N8, gs8, sl8, t8, q8, d8, d9, sl9, r8, z8, h08, L8, x8, e8⟩ := zero_next (X := TX Shun Wg Ro B gs.size 0) tx_mute _ gs7 a7 w7 sl7 t7 q7 (Nat.le_refl _) h07 (s7 0).1 L7 x7
  have hsz : gs8.size = gs.size := by omega
  obtain ⟨_, hwg, hch, htp, g', child, hsp, ⟨mA, hA⟩, n9, h9⟩ := s7 d9
  have hr := runT_crowd_spawn (P := P) (sl := sl9) (i := 0) h08 (show stepG P (0 == 0) a7 (w7.at d9) = _ from hsp)
  rw [ofEvents_nil, hsz, show ∀ x y : MemOp, ((#[] : Trace).push x).push y = #[x, y] from fun _ _ => rfl] at hr
  have hk := G.kpos
  have hst2 : ∀ op ∈ (#[({ g := 0, fn := a7.frame.fn, pos := a7.frame.place, act := .go gs.size } : MemOp), { g := gs.size, fn := child.frame.fn, pos := a7.frame.place, act := .start }] : Trace), op.act ≠ .mark .disable ∧ op.act ≠ .mark .enable := by
    intro op hop
    simp only [List.mem_toArray, List.mem_cons, List.not_mem_nil, or_false] at hop
    rcases hop with rfl | rfl <;> simp
  have hdd : ∀ u, Deaf (t8 ++ (#[({ g := 0, fn := a7.frame.fn, pos := a7.frame.place, act := .go gs.size } : MemOp), { g := gs.size, fn := child.frame.fn, pos := a7.frame.place, act := .start }] : Trace)) u = Deaf t8 u := fun u => deaf_mutes hst2
  have hfk := x8.1.fork (j := 0) (by omega) (x := { g := 0, fn := a7.frame.fn, pos := a7.frame.place, act := .go gs.size }) (y := { g := gs.size, fn := child.frame.fn, pos := a7.frame.place, act := .start }) ⟨rfl, rfl⟩ ⟨rfl, rfl⟩ x8.2.2 (L8.above gs.size (by omega))
  have hold : ∀ j, j < gs8.size → j ≠ 0 → ((gs8.setIfInBounds 0 g').push child)[j]? = gs8[j]? := fun j hj hj0 => by
    rw [Array.getElem?_push_lt (by simpa using hj), ← Array.getElem?_eq_getElem, Array.getElem?_setIfInBounds_ne (by omega)]
  have hI : Inv1 P ty Wg c KA Shun Ro B val Fin AnchW gs.size τ (n9 + mA + 12 + sumTo gs.size q8) (crowd ((gs8.setIfInBounds 0 g').push child) (w7.at d9) sl9) (t8 ++ (#[({ g := 0, fn := a7.frame.fn, pos := a7.frame.place, act := .go gs.size } : MemOp), { g := gs.size, fn := child.frame.fn, pos := a7.frame.place, act := .start }] : Trace)) := by
    refine ⟨_, _, _, n9, mA, 12, q8, g', child, rfl, by simp [hsz], ?_, h9, ?_, .send hA, .inl rfl, fun i g hi hiK hg => ?_, fun j hj => ?_, hfk, x8.2.1.app fun op hop => ?_, by rw [hdd]; exact x8.2.2, by rw [hdd]; exact L8.above _ (by omega), htp, hwg, hch, rfl⟩
    · rw [Array.getElem?_push_lt (by simp; omega), ← Array.getElem?_eq_getElem, Array.getElem?_setIfInBounds_self_of_lt (by omega)]
    · have : ((gs8.setIfInBounds 0 g').push child)[(gs8.setIfInBounds 0 g').size]? = some child := Array.getElem?_push_size
      rw [show gs.size = (gs8.setIfInBounds 0 g').size by simp [hsz]]
      exact this
    · rw [hold i (by omega) (by omega)] at hg
      rw [hdd]
      exact L8.old i g hi hg
    · rw [hdd]
      exact L8.above j (by simp at hj; omega)
    · simp only [List.mem_toArray, List.mem_cons, List.not_mem_nil, or_false] at hop
      rcases hop with rfl | rfl <;> simp
  obtain ⟨N9, m9, t9, r9, μ9, I9⟩ := run_to Nat.lt_wfRel.wf _ (fun m t => ∃ μ', Inv P ty Wg c KA Shun Ro B val Fin AnchW Anch gs.size τ μ' m t) (inv1_step G hAr) _ _ _ hI
  obtain ⟨N10, m10, t10, r10, D10⟩ := run_to lt2_wf _ (fun m t => Done P ty Wg Shun B Fin Anch gs.size τ m t) (phase_step G hAr hAn) _ _ _ I9
  refine ⟨N1 + N2 + N3 + N4 + N5 + N6 + N7 + N8 + (1 + N9 + N10), m10, t10, ?_, D10⟩
  have e7 : runNT P (N1 + N2 + N3 + N4 + N5 + N6 + N7 + N8) (crowd gs w sl) t = (.next (crowd gs8 (w7.at d8) sl8), t8) := by
    simp only [runNT_add, r1, r2, r3, r4, r5, r6, r7, r8]
  rw [runNT_add, e7]
  have e8' : runNT P 1 (crowd gs8 (w7.at d8) sl8) t8 = (.next (crowd ((gs8.setIfInBounds 0 g').push child) (w7.at d9) sl9), t8 ++ (#[({ g := 0, fn := a7.frame.fn, pos := a7.frame.place, act := .go gs.size } : MemOp), { g := gs.size, fn := child.frame.fn, pos := a7.frame.place, act := .start }] : Trace)) := by
    simp only [runNT, e8, hr]
  simp only [runNT_add, e8', r9, r10]
end
end Go.Proofs.Ph
