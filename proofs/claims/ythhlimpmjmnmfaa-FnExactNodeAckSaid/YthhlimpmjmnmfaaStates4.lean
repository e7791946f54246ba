/-
  Contracts: an update in a state, both.
-/
import Derived.Test.YthhlimpmjmnmfaaStates3
set_option linter.all false
namespace Go.Proofs.Ythhlimpmjmnmfaa
open Go.RowKit

/-- A new state is handed back, and whether there is one. -/
def GotPut (w : World) (s : List Int) (u : Upd) (e : Ending) (w' : World) : Prop :=
  ∃ (A : Option Addr) (c : Nat), e = .returned (.tuple #[.slice A (statePut s u).length c, .bool (putOk s u)]) ∧ (statePut s u).length ≤ c ∧ c ≤ maxLen ∧ w'.ownsRow w.heap.size 3 1 (.slice A (statePut s u).length c) (statePut s u).length (icells (statePut s u)) ∧ Ext w w'
theorem gotPut_of {w w' : World} {s xs : List Int} {u : Upd} {A : Option Addr} {n c : Nat} (hx : statePut s u = xs) (h : GotRowI w xs (.returned (.slice A n c)) w') : GotPut w s u (.returned (.tuple #[.slice A n c, .bool (putOk s u)])) w' := by
  obtain ⟨A', c', he, h1, h2, h3, h4⟩ := h
  simp only [Ending.returned.injEq, Value.slice.injEq] at he
  obtain ⟨rfl, rfl, rfl⟩ := he
  subst hx
  exact ⟨_, _, rfl, h1, h2, h3, h4⟩
theorem statePut_no {s : List Int} {u : Upd} (h : putOk s u = false) : statePut s u = [] := by unfold statePut; rw [h]; rfl
theorem statePut_yes {s : List Int} {u : Upd} (h : putOk s u = true) : statePut s u = putAt s u := by unfold statePut; rw [if_pos h]
theorem putOk_state {s : List Int} {u : Upd} (h : stateOk s = false) : putOk s u = false := by simp [putOk, h]
theorem putOk_upd {s : List Int} {u : Upd} (h : updOk u = false) : putOk s u = false := by simp [putOk, h]
theorem putOk_yes {s : List Int} {u : Upd} (h : stateOk s = true) (h' : updOk u = true) : putOk s u = true := by simp [putOk, h, h']

set_option maxHeartbeats 800000 in
theorem implStatePut_any {A : Option Addr} {s : List Int} (c : Nat) (x y : Int) {w : World} (h : IntsR w A s) (hm : s.length ≤ 1048576) :
    Calls Try.prog 43 #[.slice A s.length c, .agg #[.int .i64 x, .int .i64 y]] w (GotPut w s (x, y)) := by
  have hE0 := hide (ext_alloc (ext_refl w) (.cells #[.int .i64 x, .int .i64 y] 58))
  replace h := hide (h.ext hE0.out)
  by_cases hs : stateOk s = true
  · by_cases hu : updOk (x, y) = true
    · have hok := putOk_yes hs hu
      have hxs := statePut_yes hok
      have hkey : 0 ≤ x ∧ x ≤ 4 := by simp [updOk] at hu; omega
      have h5 := hide (stateOk_len hs)
      go_enter Try.func43, Try.ntmps43
      go_wp2_with fail
      refine (implStateValid_any c h.out hm).mono ?_
      rintro e w1 ⟨rfl, hE1⟩
      have hb1 := hide ((Blk.new w 58 #[.int .i64 x, .int .i64 y]).ext hE1)
      replace h := hide (h.out.ext hE1)
      replace hE1 := hide (ext_trans hE0.out hE1)
      have cb0 : w1.cell? ⟨w.heap.size, 0, none⟩ = some (.int .i64 x) := by simpa using hb1.out.cell 0
      have cb1 : w1.cell? ⟨w.heap.size, 1, none⟩ = some (.int .i64 y) := by simpa using hb1.out.cell 1
      go_wp2_with fail
      refine (implUpdateValid_any _ _ _).mono ?_
      rintro e w2 ⟨rfl, hE2⟩
      have hb2 := hide (hb1.out.ext hE2)
      replace h := hide (h.out.ext hE2)
      replace hE2 := hide (ext_trans hE1.out hE2)
      clear cb0 cb1 hb1
      go_wp2_with fail
      rw [h5.out]
      refine (stateFrom_any c h.out h5.out).mono ?_
      rintro e w3 ⟨rfl, hS3, hE3⟩
      have hb3 := hide (hb2.out.ext hE3)
      have hgw : w.heap.size ≤ w2.heap.size := hE2.out.size
      have hne : w.heap.size < w2.heap.size := hb2.out.lt
      replace hS3 := hide hS3
      replace hE3 := hide (ext_trans hE2.out hE3)
      have cb0 : w3.cell? ⟨w.heap.size, 0, none⟩ = some (.int .i64 x) := by simpa using hb3.out.cell 0
      have cb1 : w3.cell? ⟨w.heap.size, 1, none⟩ = some (.int .i64 y) := by simpa using hb3.out.cell 1
      clear hE2
      go_wp2_with fail
      refine (put_any _ _ hS3.out hkey).mono ?_
      rintro e w4 ⟨rfl, hS4, hg4⟩
      have hE4 := hide (ext_only hE3.out hg4 hgw)
      replace hS4 := hide hS4
      clear hg4 hS3 hE3 cb0 cb1
      go_wp2_with fail
      refine (list_any hS4.out).mono ?_
      intro e w5 hG
      have hG' := GotRowI.trans hE4.out hG
      obtain ⟨A5, c5, rfl, _⟩ := hG
      have fin := hide (gotPut_of (u := (x, y)) hxs hG')
      rw [hok] at fin
      clear hG'
      go_wp2_with fail
      go_ret2
      exact fin.out
    · have hu : updOk (x, y) = false := by simpa using hu
      have hok := putOk_upd (s := s) hu
      have hxs := statePut_no hok
      go_enter Try.func43, Try.ntmps43
      go_wp2_with fail
      refine (implStateValid_any c h.out hm).mono ?_
      rintro e w1 ⟨rfl, hE1⟩
      have hb1 := hide ((Blk.new w 58 #[.int .i64 x, .int .i64 y]).ext hE1)
      replace hE1 := hide (ext_trans hE0.out hE1)
      have cb0 : w1.cell? ⟨w.heap.size, 0, none⟩ = some (.int .i64 x) := by simpa using hb1.out.cell 0
      have cb1 : w1.cell? ⟨w.heap.size, 1, none⟩ = some (.int .i64 y) := by simpa using hb1.out.cell 1
      go_wp2_with fail
      refine (implUpdateValid_any _ _ _).mono ?_
      rintro e w2 ⟨rfl, hE2⟩
      have fin := hide (gotPut_of (u := (x, y)) hxs (gotNone (ext_trans hE1.out hE2)))
      rw [hok] at fin
      clear hE2
      go_wp2_with fail
      go_ret2
      exact fin.out
  · have hs : stateOk s = false := by simpa using hs
    have hok := putOk_state (u := (x, y)) hs
    have hxs := statePut_no hok
    go_enter Try.func43, Try.ntmps43
    go_wp2_with fail
    refine (implStateValid_any c h.out hm).mono ?_
    rintro e w1 ⟨rfl, hE1⟩
    have fin := hide (gotPut_of (u := (x, y)) hxs (gotNone (ext_trans hE0.out hE1)))
    rw [hok] at fin
    clear hE1
    go_wp2_with fail
    go_ret2
    exact fin.out

end Go.Proofs.Ythhlimpmjmnmfaa
