/-
  Contracts: an update in a state, both.
-/
import Derived.Test.YtfkongkokegjjaaStates3
set_option linter.all false
namespace Go.Proofs.Ytfkongkokegjjaa
open Go.RowKit

/-- A new state is handed back, and whether there is one. -/
def GotPut (w : World) (s : List Int) (u : Upd) (e : Ending) (w' : World) : Prop :=
  ∃ (A : Option Addr) (c : Nat), e = .returned (.tuple #[.slice A (statePut s u).length c, .bool (putOk s u)]) ∧ (statePut s u).length ≤ c ∧ c ≤ maxLen ∧ w'.ownsRow w.heap.size 3 1 (.slice A (statePut s u).length c) (statePut s u).length (icells (statePut s u)) ∧ Ext w w'
theorem gotPut_of {w w' : World} {s xs : List Int} {u : Upd} {A : Option Addr} {n c : Nat} (hx : statePut s u = xs) (h : GotRowI w xs (.returned (.slice A n c)) w') : GotPut w s u (.returned (.tuple #[.slice A n c, .bool (putOk s u)])) w' := by
  obtain ⟨A', c', he, h1, h2, h3, h4⟩ := h
  simp only [Ending.returned.injEq, Value.slice.injEq] at he
  obtain ⟨rfl, rfl, rfl⟩ := he
  subst hx
  exact ⟨_, _, rfl, h1, h2, h3, h4⟩
theorem statePut_no {s : List Int} {u : Upd} (h : putOk s u = false) : statePut s u = [] := by unfold statePut; rw [h]; rfl
theorem statePut_yes {s : List Int} {u : Upd} (h : putOk s u = true) : statePut s u = putAt s u := by unfold statePut; rw [if_pos h]
theorem putOk_state {s : List Int} {u : Upd} (h : stateOk s = false) : putOk s u = false := by simp [putOk, h]
theorem putOk_upd {s : List Int} {u : Upd} (h : updOk u = false) : putOk s u = false := by simp [putOk, h]
theorem putOk_yes {s : List Int} {u : Upd} (h : stateOk s = true) (h' : updOk u = true) : putOk s u = true := by simp [putOk, h, h']

set_option maxHeartbeats 800000 in
theorem implStatePut_any {A : Option Addr} {s : List Int} (c : Nat) (x y : Int) {w : World} (h : IntsR w A s) (hm : s.length ≤ 1048576) :
    Calls Try.prog 37 #[.slice A s.length c, .agg #[.int .i64 x, .int .i64 y]] w (GotPut w s (x, y)) := by
  have hE0 := hide (ext_alloc (ext_refl w) (.cells #[.int .i64 x, .int .i64 y] 31))
  replace h := hide (h.ext hE0.out)
  by_cases hs : stateOk s = true
  · by_cases hu : updOk (x, y) = true
    · have hok := putOk_yes hs hu
      have hxs := statePut_yes hok
      have hkey : 0 ≤ x ∧ x ≤ 4 := by simp [updOk] at hu; omega
      have h5 := hide (stateOk_len hs)
      go_enter Try.func37, Try.ntmps37
      go_wp2_with fail
      refine (implStateValid_any c h.out hm).mono ?_
      rintro e w1 ⟨rfl, hE1⟩
      have hb1 := hide ((Blk.new w 31 #[.int .i64 x, .int .i64 y]).ext hE1)
      replace h := hide (h.out.ext hE1)
      replace hE1 := hide (ext_trans hE0.out hE1)
      have cb0 : w1.cell? ⟨w.heap.size, 0, none⟩ = some (.int .i64 x) := by simpa using hb1.out.cell 0
      have cb1 : w1.cell? ⟨w.heap.size, 1, none⟩ = some (.int .i64 y) := by simpa using hb1.out.cell 1
      go_wp2_with fail
      refine (implUpdateValid_any _ _ _).mono ?_
      rintro e w2 ⟨rfl, hE2⟩
      have hb2 := hide (hb1.out.ext hE2)
      replace h := hide (h.out.ext hE2)
      replace hE2 := hide (ext_trans hE1.out hE2)
      clear cb0 cb1 hb1
      go_wp2_with fail
      rw [h5.out]
      refine (stateFrom_any c h.out h5.out).mono ?_
      rintro e w3 ⟨rfl, hS3, hE3⟩
      have hb3 := hide (hb2.out.ext hE3)
      have hgw : w.heap.size ≤ w2.heap.size := hE2.out.size
      have hne : w.heap.size < w2.heap.size := hb2.out.lt
      replace hS3 := hide hS3
      replace hE3 := hide (ext_trans hE2.out hE3)
      have cb0 : w3.cell? ⟨w.heap.size, 0, none⟩ = some (.int .i64 x) := by simpa using hb3.out.cell 0
      have cb1 : w3.cell? ⟨w.heap.size, 1, none⟩ = some (.int .i64 y) := by simpa using hb3.out.cell 1
      clear hE2
      go_wp2_with fail
      refine (put_any _ _ hS3.out hkey).mono ?_
      rintro e w4 ⟨rfl, hS4, hg4⟩
      have hE4 := hide (ext_only hE3.out hg4 hgw)
      replace hS4 := hide hS4
      clear hg4 hS3 hE3 cb0 cb1
      go_wp2_with fail
      refine (list_any hS4.out).mono ?_
      intro e w5 hG
      have hG' := GotRowI.trans hE4.out hG
      obtain ⟨A5, c5, rfl, _⟩ := hG
      have fin := hide (gotPut_of (u := (x, y)) hxs hG')
      rw [hok] at fin
      clear hG'
      go_wp2_with fail
      go_ret2
      exact fin.out
    · have hu : updOk (x, y) = false := by simpa using hu
      have hok := putOk_upd (s := s) hu
      have hxs := statePut_no hok
      go_enter Try.func37, Try.ntmps37
      go_wp2_with fail
      refine (implStateValid_any c h.out hm).mono ?_
      rintro e w1 ⟨rfl, hE1⟩
      have hb1 := hide ((Blk.new w 31 #[.int .i64 x, .int .i64 y]).ext hE1)
      replace hE1 := hide (ext_trans hE0.out hE1)
      have cb0 : w1.cell? ⟨w.heap.size, 0, none⟩ = some (.int .i64 x) := by simpa using hb1.out.cell 0
      have cb1 : w1.cell? ⟨w.heap.size, 1, none⟩ = some (.int .i64 y) := by simpa using hb1.out.cell 1
      go_wp2_with fail
      refine (implUpdateValid_any _ _ _).mono ?_
      rintro e w2 ⟨rfl, hE2⟩
      have fin := hide (gotPut_of (u := (x, y)) hxs (gotNone (ext_trans hE1.out hE2)))
      rw [hok] at fin
      clear hE2
      go_wp2_with fail
      go_ret2
      exact fin.out
  · have hs : stateOk s = false := by simpa using hs
    have hok := putOk_state (u := (x, y)) hs
    have hxs := statePut_no hok
    go_enter Try.func37, Try.ntmps37
    go_wp2_with fail
    refine (implStateValid_any c h.out hm).mono ?_
    rintro e w1 ⟨rfl, hE1⟩
    have fin := hide (gotPut_of (u := (x, y)) hxs (gotNone (ext_trans hE0.out hE1)))
    rw [hok] at fin
    clear hE1
    go_wp2_with fail
    go_ret2
    exact fin.out

set_option maxHeartbeats 800000 in
theorem specStatePut_any {A : Option Addr} {s : List Int} (c : Nat) (x y : Int) {w : World} (h : IntsR w A s) (hm : s.length ≤ 1048576) :
    Calls Try.prog 34 #[.slice A s.length c, .agg #[.int .i64 x, .int .i64 y]] w (GotPut w s (x, y)) := by
  have hE0 := hide (ext_alloc (ext_refl w) (.cells #[.int .i64 x, .int .i64 y] 31))
  obtain ⟨i0, hi, hz0, hz1, hz2⟩ := info_parts infoI'
  replace h := hide (h.ext hE0.out)
  by_cases hs : stateOk s = true
  · by_cases hu : updOk (x, y) = true
    · have hok := putOk_yes hs hu
      have hxs := statePut_yes hok
      have hkey : 0 ≤ x ∧ x ≤ 4 := by simp [updOk] at hu; omega
      have h5 := hide (stateOk_len hs)
      go_enter Try.func34, Try.ntmps34
      go_wp2_with fail
      refine (specStateValid_any c h.out hm).mono ?_
      rintro e w1 ⟨rfl, hE1⟩
      have hb1 := hide ((Blk.new w 31 #[.int .i64 x, .int .i64 y]).ext hE1)
      replace h := hide (h.out.ext hE1)
      replace hE1 := hide (ext_trans hE0.out hE1)
      have cb0 : w1.cell? ⟨w.heap.size, 0, none⟩ = some (.int .i64 x) := by simpa using hb1.out.cell 0
      have cb1 : w1.cell? ⟨w.heap.size, 1, none⟩ = some (.int .i64 y) := by simpa using hb1.out.cell 1
      go_wp2_with fail
      refine (specUpdateValid_any _ _ _).mono ?_
      rintro e w2 ⟨rfl, hE2⟩
      have hb2 := hide (hb1.out.ext hE2)
      replace h := hide (h.out.ext hE2)
      replace hE2 := hide (ext_trans hE1.out hE2)
      clear cb0 cb1 hb1
      have hs2 := hE2.out.size
      have hlt2 := hb2.out.lt
      have hoe := hide (World.ownsRow_made (base := w2.heap.size) (e := 3) (size := 1) w2 #[] 0 (Nat.le_refl _) (by simp [maxLen]) rfl)
      have hA2 := hide (h.out.ext (ext_alloc (ext_refl w2) (.cells #[] 3)))
      go_wp2_with (at_builtin; refine wpList_append_cells _ rfl _ _ 26 rfl w2.heap.size 3 i0 _ 1 8 Try.underlying26 hi hz0 hz1 hz2 rfl (by decide) _ 0 _ rfl hoe.out A s.length c (icells s) rfl (by rw [icells_len]; omega) hA2.out (icells_one _) (by unfold maxLen; omega) (by omega) (by simp) ?_)
      intro v3 w3 hv3 hg3 hat3
      have hE3' : Ext w2 w3 := ext_of_only (only_trans (g := w2.heap.size) (only_alloc (World.grownBy.refl w2 (some w2.heap.size)) (.cells #[] 3)) hg3 (by intro i e; simp [Value.ownBlock] at e; omega)) (Nat.le_refl _)
      have hb3 := hide (hb2.out.ext hE3')
      have hE3 := hide (ext_trans hE2.out hE3')
      clear hE3' hg3 hat3 hoe hA2
      obtain ⟨g, c3, hvv, hg0, hg1, hlc3, hcm3⟩ := own_at hv3 (by have := h5.out; omega)
      subst hvv
      replace hv3 := hide hv3
      obtain ⟨xn, rfl⟩ := Int.eq_ofNat_of_zero_le hkey.1
      have hx5 : xn < 5 := by omega
      have cb0 : w3.cell? ⟨w.heap.size, 0, none⟩ = some (.int .i64 xn) := by simpa using hb3.out.cell 0
      have cb1 : w3.cell? ⟨w.heap.size, 1, none⟩ = some (.int .i64 y) := by simpa using hb3.out.cell 1
      have c0 : ∃ u, w3.cell? ⟨g, xn, none⟩ = some u := by
        rw [hv3.out.cellAt xn (by have := h5.out; omega)]
        exact ⟨_, List.getElem?_eq_getElem (by rw [icells_len, h5.out]; omega)⟩
      obtain ⟨u0, c0⟩ := c0
      have f0 := hv3.out.frozenAt xn
      have hl5 : (xn : Int) < (s.length : Int) := by have := h5.out; omega
      have hl6 : xn < s.length := by have := h5.out; omega
      have fin : Hid (GotPut w s ((xn : Int), y) (.returned (.tuple #[.slice (some ⟨g, 0, none⟩) s.length c3, .bool true])) (w3.setCell ⟨g, xn, none⟩ (.int .i64 y))) := hide (by
        have h1 := (hv3.out.stored xn (.int .i64 y)).1
        have h2 : (w3.setCell ⟨g, xn, none⟩ (.int .i64 y)).ownsRow w.heap.size 3 1 (.slice (some ⟨g, 0, none⟩) s.length c3) s.length (icells (putAt s ((xn : Int), y))) := by
          have := own_mono h1 hs2
          unfold icells at this ⊢
          simp only [putAt, Int.toNat_natCast]
          rw [List.map_set]
          exact this
        have h3 := gotPut_of (u := ((xn : Int), y)) hxs (gotRowI_of (putAt_len _ _) h2 (hE3.out.setCell (by show w.heap.size ≤ g; omega) _))
        rw [hok] at h3
        exact h3)
      go_wp2_with fail
      go_ret2
      exact fin.out
    · have hu : updOk (x, y) = false := by simpa using hu
      have hok := putOk_upd (s := s) hu
      have hxs := statePut_no hok
      go_enter Try.func34, Try.ntmps34
      go_wp2_with fail
      refine (specStateValid_any c h.out hm).mono ?_
      rintro e w1 ⟨rfl, hE1⟩
      have hb1 := hide ((Blk.new w 31 #[.int .i64 x, .int .i64 y]).ext hE1)
      replace hE1 := hide (ext_trans hE0.out hE1)
      have cb0 : w1.cell? ⟨w.heap.size, 0, none⟩ = some (.int .i64 x) := by simpa using hb1.out.cell 0
      have cb1 : w1.cell? ⟨w.heap.size, 1, none⟩ = some (.int .i64 y) := by simpa using hb1.out.cell 1
      go_wp2_with fail
      refine (specUpdateValid_any _ _ _).mono ?_
      rintro e w2 ⟨rfl, hE2⟩
      have fin := hide (gotPut_of (u := (x, y)) hxs (gotNone (ext_trans hE1.out hE2)))
      rw [hok] at fin
      clear hE2
      go_wp2_with fail
      go_ret2
      exact fin.out
  · have hs : stateOk s = false := by simpa using hs
    have hok := putOk_state (u := (x, y)) hs
    have hxs := statePut_no hok
    go_enter Try.func34, Try.ntmps34
    go_wp2_with fail
    refine (specStateValid_any c h.out hm).mono ?_
    rintro e w1 ⟨rfl, hE1⟩
    have fin := hide (gotPut_of (u := (x, y)) hxs (gotNone (ext_trans hE0.out hE1)))
    rw [hok] at fin
    clear hE1
    go_wp2_with fail
    go_ret2
    exact fin.out
end Go.Proofs.Ytfkongkokegjjaa
