/-
  Contracts: the draws of the laws of taking and of writing.
-/
import Derived.Test.YtjheeeilcfbdbaaDoorNDraw2
import Derived.Test.YtjheeeilcfbdbaaDoorCExact
set_option linter.all false
set_option maxRecDepth 100000
namespace Go.Proofs.YtjheeeilcfbdbaaDoor
open Go.RowKit
attribute [local go_sem ↓] Go.wp_at_zero Go.wp_at_succ

/-- A node and an update have been drawn. -/
def GotNdUpd (w : World) (e : Ending) (w' : World) : Prop :=
  ∃ (A : Option Addr) (c : Nat) (i j : Int) (l : List Upd) (x y : Int), e = .returned (.tuple #[.agg #[.int .i64 i, .slice A l.length c, .int .i64 j], .agg #[.int .i64 x, .int .i64 y]]) ∧ l.length ≤ 13 ∧ -1 ≤ j ∧ j ≤ l.length + 1 ∧ l.length ≤ c ∧ c ≤ maxLen ∧ LogR w' A l ∧ Ext w w'

set_option maxHeartbeats 1600000 in
theorem drawNodeTake_any {A : Option Addr} {n c : Nat} {w : World} (h : CodeR w A n c) : Calls Tryd.prog 9 #[.slice A n c] w (GotNdUpd w) := by
  go_enter Tryd.func9, Tryd.ntmps9
  go_wp2_with fail
  refine (l6Open_any ((h.alloc _).alloc _)).mono ?_
  rintro e w1 ⟨rfl, hE, hr⟩
  simp only [World.size_alloc] at hE hr ⊢
  have hR := hide (((Blk.new w 25 #[.int .i64 0, .slice none 0 0, .int .i64 0]).ext (ext_alloc (ext_refl _) _)).ext (by exact hE))
  have hU := hide ((Blk.new (w.alloc (.cells #[.int .i64 0, .slice none 0 0, .int .i64 0] 25)) 27 #[.int .i64 0, .int .i64 0]).ext (by exact hE))
  simp only [World.size_alloc] at hU
  replace hE := hide (ext_trans (ext_alloc (ext_alloc (ext_refl w) _) _) hE)
  have s1 := hr.lt
  go_wp2_with fail
  refine (l91Node_any hr (by omega)).mono ?_
  rintro e w2 ⟨A2, c2, i, j, l, rfl, hl, -, -, hj0, hj1, hO, hg, hr2⟩
  obtain ⟨hlc, hcm⟩ := hO.cap
  have s2 := hg.size
  replace hO := hide (LogIn.of hO)
  replace hR := hide (hR.out.grown hg (by simp <;> omega))
  replace hU := hide (hU.out.grown hg (by simp <;> omega))
  have ho := hide (only_pick (only_of_ext hE.out (some (w.heap.size + 1 + 1))) hg)
  clear hg hr hE
  have hN := hide (Blk.new w2 25 #[.int .i64 i, .slice A2 l.length c2, .int .i64 j])
  have hX := ext_alloc (ext_refl w2) (.cells #[.int .i64 i, .slice A2 l.length c2, .int .i64 j] 25)
  replace hO := hide (hO.out.ext hX)
  replace hR := hide (hR.out.ext hX)
  replace hU := hide (hU.out.ext hX)
  replace ho := hide (only_alloc ho.out (.cells #[.int .i64 i, .slice A2 l.length c2, .int .i64 j] 25))
  replace hr2 := hide (hr2.ext hX)
  clear hX
  go_wp2_with fail
  have hrA := hide (show RdAt (w2.alloc (.cells #[.int .i64 i, .slice A2 l.length c2, .int .i64 j] 25)).drew (w.heap.size + 1 + 1) (0 + 60) from hr2.out)
  have hNA := hide (show Blk (w2.alloc (.cells #[.int .i64 i, .slice A2 l.length c2, .int .i64 j] 25)).drew w2.heap.size 25 #[.int .i64 i, .slice A2 l.length c2, .int .i64 j] from hN.out)
  have hRA := hide (show Blk (w2.alloc (.cells #[.int .i64 i, .slice A2 l.length c2, .int .i64 j] 25)).drew w.heap.size 25 #[.int .i64 0, .slice none 0 0, .int .i64 0] from hR.out)
  have hUA := hide (show Blk (w2.alloc (.cells #[.int .i64 i, .slice A2 l.length c2, .int .i64 j] 25)).drew (w.heap.size + 1) 27 #[.int .i64 0, .int .i64 0] from hU.out)
  have hOA := hide (show LogIn (w2.alloc (.cells #[.int .i64 i, .slice A2 l.length c2, .int .i64 j] 25)).drew w1.heap.size w2.heap.size A2 c2 l from hO.out)
  have hoA := hide (show w.grownBy (w2.alloc (.cells #[.int .i64 i, .slice A2 l.length c2, .int .i64 j] 25)).drew (some (w.heap.size + 1 + 1)) from ⟨ho.out.os, ho.out.tape, ho.out.output, ho.out.size, ho.out.block⟩)
  have hp0 : 0 + 60 ≤ 536870912 := by omega
  have hne1 : some w2.heap.size ≠ some (w.heap.size + 1 + 1) := by simp; omega
  have hne2 : some w.heap.size ≠ some (w.heap.size + 1 + 1) := by simp; omega
  have hne3 : some (w.heap.size + 1) ≠ some (w.heap.size + 1 + 1) := by simp
  have hne4 : w.heap.size ≠ w2.heap.size := by omega
  have hne8 : w2.heap.size ≠ w.heap.size := by omega
  have hne5 : w.heap.size + 1 ≠ w2.heap.size := by omega
  have hne6 : w.heap.size ≠ w.heap.size + 1 := by omega
  have hne7 : w.heap.size + 1 ≠ w.heap.size := by omega
  generalize hU1 : w.heap.size + 1 = U at *
  generalize hG1 : U + 1 = G at *
  go_region_held3 (fun w' => w'.cell? ⟨w2.heap.size, 0, none⟩ = some (.int .i64 i) ∧ w'.cell? ⟨w2.heap.size, 1, none⟩ = some (.slice A2 l.length c2) ∧ w'.cell? ⟨w2.heap.size, 2, none⟩ = some (.int .i64 j)) (first | with_reducible exact ⟨n_0, n_1, n_2⟩ | with_reducible exact ⟨k_0, k_1, k_2⟩ | go_keep)
    ((go_at_call 36; first
      | ((with_reducible refine (l91Update_any hrA.out hp0).mono ?_); rintro e w3 ⟨x, y, rfl, hx1, hx2, hy1, hy2, hg3, hr3⟩; obtain ⟨n_0, n_1, n_2, n_lt⟩ := (hNA.out.grown hg3 hne1).at3; obtain ⟨r_0, r_1, r_2, r_lt, r_f0, r_f1, r_f2⟩ := (hRA.out.grown hg3 hne2).at3f; obtain ⟨u_0, u_1, u_lt, u_f0, u_f1⟩ := ((((hUA.out.grown hg3 hne3).far (p := ⟨w.heap.size, 0, none⟩) hne7 (.int .i64 i)).far (p := ⟨w.heap.size, 1, none⟩) hne7 (.slice A2 l.length c2)).far (p := ⟨w.heap.size, 2, none⟩) hne7 (.int .i64 j)).at2f; obtain ⟨k_0, k_1, k_2, k_lt⟩ := ((((hNA.out.grown hg3 hne1).far (p := ⟨w.heap.size, 0, none⟩) hne8 (.int .i64 i)).far (p := ⟨w.heap.size, 1, none⟩) hne8 (.slice A2 l.length c2)).far (p := ⟨w.heap.size, 2, none⟩) hne8 (.int .i64 j)).at3)))
  have f1 := (((hOA.out.turned (Turned.pick hg3) (.inr (by omega))).turned (Turned.set3 w.heap.size (.int .i64 i) (.slice A2 l.length c2) (.int .i64 j)) (.inr (by omega))).turned (Turned.set2 U (.int .i64 x) (.int .i64 y)) (.inr (by omega))).log
  have f2 := ext_of_only (only_turned (only_turned (only_pick hoA.out hg3) (Turned.set3 w.heap.size (.int .i64 i) (.slice A2 l.length c2) (.int .i64 j)) (Nat.le_refl _)) (Turned.set2 U (.int .i64 x) (.int .i64 y)) (by omega)) (by omega)
  have fin : Hid (GotNdUpd w (.returned (.tuple #[.agg #[.int .i64 i, .slice A2 l.length c2, .int .i64 j], .agg #[.int .i64 x, .int .i64 y]])) (((((w3.setCell ⟨w.heap.size, 0, none⟩ (.int .i64 i)).setCell ⟨w.heap.size, 1, none⟩ (.slice A2 l.length c2)).setCell ⟨w.heap.size, 2, none⟩ (.int .i64 j)).setCell ⟨U, 0, none⟩ (.int .i64 x)).setCell ⟨U, 1, none⟩ (.int .i64 y))) :=
    hide ⟨A2, c2, i, j, l, x, y, rfl, hl, hj0, hj1, hlc, hcm, f1, f2⟩
  clear f1 f2 hx1 hx2 hy1 hy2 hr3 hg3 hrA hNA hRA hUA hOA hoA
  go_wp2_with fail
  refine bodyPost_ret (v := .tuple #[.agg #[.int .i64 i, .slice A2 l.length c2, .int .i64 j], .agg #[.int .i64 x, .int .i64 y]]) (by simp [results, Tryd.results9, go_sem, r_0, r_1, r_2, u_0, u_1, hne6, hne7]) rfl ?_
  exact fin.out
end Go.Proofs.YtjheeeilcfbdbaaDoor
