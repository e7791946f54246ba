/-
  Contracts: drawing logs and states with a number or an update.
-/
import Derived.Test.YtfkongkokegjjaaDraw5
set_option linter.all false
namespace Go.Proofs.Ytfkongkokegjjaa
open Go.RowKit

theorem own_caps {w : World} {base : Nat} {e : TypeId} {size n : Nat} {A : Option Addr} {c : Nat} {xs : List Value} (h : w.ownsRow base e size (.slice A n c) n xs) : n ≤ c ∧ c ≤ maxLen := by
  obtain ⟨A', c', hv, h1, h2⟩ := own_form h
  injection hv with _ _ hc
  subst hc
  exact ⟨h1, h2⟩

theorem drawStateOf_any {A : Option Addr} {n c : Nat} {w : World} (h : CodeR w A n c) : Calls Try.prog 40 #[.slice A n c] w (GotLog w) := by
  go_enter Try.func40, Try.ntmps40
  go_wp2_with fail
  refine (l6Open_any h).mono ?_
  rintro e w1 ⟨rfl, hE, hr⟩
  have hE := hide hE
  go_wp2_with fail
  refine (l91Log_any hr (by omega)).mono ?_
  intro e w2 hd
  have hd := hide (gotLog_of hE.out hd)
  obtain ⟨A2, c2, l, rfl, hl, h1, h2, h3, h4⟩ := hd.out
  have h3 := hide h3
  go_wp2_with fail
  go_ret
  exact ⟨A2, c2, l, rfl, hl, h1, h2, h3.out, h4⟩

/-- A log and a number have been drawn. -/
def GotLogInt (w : World) (e : Ending) (w' : World) : Prop :=
  ∃ (A : Option Addr) (c : Nat) (l : List Upd) (k : Int), e = .returned (.tuple #[.slice A l.length c, .int .i64 k]) ∧ l.length ≤ 13 ∧ l.length ≤ c ∧ c ≤ maxLen ∧ -1 ≤ k ∧ k ≤ 100 ∧ LogR w' A l ∧ Ext w w'

theorem drawLogKey_any {A : Option Addr} {n c : Nat} {w : World} (h : CodeR w A n c) : Calls Try.prog 15 #[.slice A n c] w (GotLogInt w) := by
  go_enter Try.func15, Try.ntmps15
  go_wp2_with fail
  refine (l6Open_any h).mono ?_
  rintro e w1 ⟨rfl, hE, hr⟩
  have hE := hide hE
  go_wp2_with fail
  have hlt := hr.lt
  refine (l91Log_any hr (by omega)).mono ?_
  rintro e w2 ⟨A2, c2, l, rfl, hl, hn, hown, ho, hr2⟩
  obtain ⟨h1, h2⟩ := own_caps hown
  have hown := hide hown
  have ho := hide ho
  go_wp2_with fail
  refine (pick_any 4 hr2 (by omega)).mono ?_
  rintro e w3 ⟨x, rfl, hx, -, hg3, hr3⟩
  have hx' := hx (by omega)
  have fin := hide (show GotLogInt w (.returned (.tuple #[.slice A2 l.length c2, .int .i64 x])) w3 from ⟨A2, c2, l, x, rfl, hl, h1, h2, by omega, by omega, CellsR.of_own (own_keep hown.out hg3 hlt), ext_open hE.out (only_pick ho.out hg3)⟩)
  clear hx hg3 hown ho hr3 hr2
  go_wp2_with fail
  go_ret2
  exact fin.out

theorem drawStateAt_any {A : Option Addr} {n c : Nat} {w : World} (h : CodeR w A n c) : Calls Try.prog 44 #[.slice A n c] w (GotLogInt w) := by
  go_enter Try.func44, Try.ntmps44
  go_wp2_with fail
  refine (l6Open_any h).mono ?_
  rintro e w1 ⟨rfl, hE, hr⟩
  have hE := hide hE
  go_wp2_with fail
  have hlt := hr.lt
  refine (l91Log_any hr (by omega)).mono ?_
  rintro e w2 ⟨A2, c2, l, rfl, hl, hn, hown, ho, hr2⟩
  obtain ⟨h1, h2⟩ := own_caps hown
  have hown := hide hown
  have ho := hide ho
  go_wp2_with fail
  refine (pick_any _ hr2 (by omega)).mono ?_
  rintro e w3 ⟨x, rfl, hx, -, hg3, hr3⟩
  have hx' := hx (by omega)
  have hg3 := hide hg3
  clear hx
  go_wp2_with fail
  refine (pick_any 20 hr3 (by omega)).mono ?_
  rintro e w4 ⟨y, rfl, hy, -, hg4, hr4⟩
  have hy' := hy (by omega)
  have hg4 := hide (only_pick hg3.out hg4)
  clear hy hr3
  obtain ⟨yn, rfl⟩ := Int.eq_ofNat_of_zero_le hy'.1
  have fin := hide (show GotLogInt w (.returned (.tuple #[.slice A2 l.length c2, .int .i64 (x - (yn : Int) / 19)])) w4 from ⟨A2, c2, l, _, rfl, hl, h1, h2, by omega, by omega, CellsR.of_own (own_keep hown.out hg4.out hlt), ext_open hE.out (only_pick ho.out hg4.out)⟩)
  clear hg3 hown ho hr4 hr2
  go_wp2_with fail
  go_ret2
  exact fin.out

/-- A state and an update have been drawn. -/
def GotStUpd (w : World) (e : Ending) (w' : World) : Prop :=
  ∃ (A : Option Addr) (c : Nat) (l : List Int) (x y : Int), e = .returned (.tuple #[.slice A l.length c, .agg #[.int .i64 x, .int .i64 y]]) ∧ l.length ≤ 5 ∧ l.length ≤ c ∧ c ≤ maxLen ∧ -1 ≤ x ∧ x ≤ 5 ∧ -1 ≤ y ∧ y ≤ 100 ∧ IntsR w' A l ∧ Ext w w'
theorem ints_keep {w w' : World} {A : Option Addr} {l : List Int} {g : Nat} (h : IntsR w A l) (hA : ∀ b o, A = some ⟨b, o, none⟩ → g < b) (hg : w.grownBy w' (some g)) : IntsR w' A l := fun hp => by
  obtain ⟨b, o, e, hc⟩ := h hp
  have hb := hA b o e
  refine ⟨b, o, e, fun j u hj => ?_⟩
  have h1 := hc j u hj
  have hbl := World.block_lt_of_cell? w _ h1
  exact (World.cell?_of_block (w := w) (hg.block b hbl (by intro e'; injection e' with e'; omega))).trans h1
theorem ints_far {w : World} {A : Option Addr} {l : List Int} {p : Addr} (h : IntsR w A l) (hA : ∀ b o, A = some ⟨b, o, none⟩ → b ≠ p.block) (u : Value) : IntsR (w.setCell p u) A l := fun hp => by
  obtain ⟨b, o, e, hc⟩ := h hp
  exact ⟨b, o, e, fun j v hj => (World.cell?_of_block (w := w) (Below.heap_setCell w p u b (hA b o e))).trans (hc j v hj)⟩
theorem drawStatePut_any {A : Option Addr} {n c : Nat} {w : World} (h : CodeR w A n c) : Calls Try.prog 38 #[.slice A n c] w (GotStUpd w) := by
  replace h := hide (h.alloc (.cells #[.int .i64 0, .int .i64 0] 31))
  have hE0 := hide (ext_alloc (ext_refl w) (.cells #[.int .i64 0, .int .i64 0] 31))
  have hb0 := hide (Blk.new w 31 #[.int .i64 0, .int .i64 0])
  go_enter Try.func38, Try.ntmps38
  go_wp2_with fail
  refine (l6Open_any h.out).mono ?_
  rintro e w1 ⟨rfl, hE, hr⟩
  have hb1 := hide (hb0.out.ext hE)
  have hE := hide hE
  go_wp2_with fail
  have hlt := hr.lt
  have hsz : (w.alloc (.cells #[.int .i64 0, .int .i64 0] 31)).heap.size = w.heap.size + 1 := by simp
  rw [hsz] at hlt hr
  refine (l91State_any hr (by omega)).mono ?_
  rintro e w2 ⟨A2, c2, l, rfl, hl, h1, h2, h3, ho, hr2, hA2⟩
  have h3 := hide h3
  have hb2 := hide (hb1.out.grown ho (by simp <;> omega))
  have ho := hide ho
  go_wp2_with fail
  refine (l91Update_any hr2 (by omega)).mono ?_
  rintro e w3 ⟨x, y, rfl, hx1, hx2, hy1, hy2, hg3, hr3⟩
  have hb3 := hide (hb2.out.grown hg3 (by simp <;> omega))
  have hI := hide (ints_keep h3.out (fun b o e => by have := hA2 b o e; omega) hg3)
  have hE3 := hide (ext_trans hE0.out (ext_open hE.out (by rw [hsz]; exact only_pick ho.out hg3)))
  clear hg3 h3 ho hr3 hr2 hb1 hb2
  have cb0 : w3.cell? ⟨w.heap.size, 0, none⟩ = some (.int .i64 0) := by simpa using hb3.out.cell 0
  have cb1 : w3.cell? ⟨w.heap.size, 1, none⟩ = some (.int .i64 0) := by simpa using hb3.out.cell 1
  have fb0 := hb3.out.frozen 0
  have fb1 := hb3.out.frozen 1
  have hfar := hide (fun b o (e : A2 = some ⟨b, o, none⟩) => (show b ≠ w.heap.size by have := hA2 b o e; have := hlt; omega))
  go_wp2_with fail
  refine bodyPost_ret (v := .tuple #[.slice A2 l.length c2, .agg #[.int .i64 x, .int .i64 y]]) (by simp [results, Try.results38, go_sem, cb0, cb1]) rfl ?_
  exact ⟨A2, c2, l, x, y, rfl, hl, h1, h2, hx1, hx2, hy1, hy2, ints_far (ints_far hI.out hfar.out _) hfar.out _, (hE3.out.setCell (Nat.le_refl _) _).setCell (Nat.le_refl _) _⟩
end Go.Proofs.Ytfkongkokegjjaa
