/-
  Contract: passNext's sequential twin: the log behind, and the next update.
-/
import Derived.Test.YtciekjplhbimdaaZNodes4
import Derived.Test.YtciekjplhbimdaaZCGot
import Derived.Test.YtciekjplhbimdaaZNTake
set_option linter.all false
set_option maxRecDepth 100000
namespace Go.Proofs.YtciekjplhbimdaaZ
open Go.RowKit
attribute [local go_sem ↓] Go.wp_at_zero Go.wp_at_succ

theorem run_field36 (x y z : Value) (w : World) : Sem.run Alt.prog (Instr.field 36 (.agg #[x, y, z]) 1) w = .ok y w := by simp [Instr.field, asAgg, part, go_sem]
theorem run_field39a (x y : Value) (w : World) : Sem.run Alt.prog (Instr.field 39 (.agg #[x, y]) 0) w = .ok x w := by simp [Instr.field, asAgg, part, go_sem]
theorem run_field39b (x y : Value) (w : World) : Sem.run Alt.prog (Instr.field 39 (.agg #[x, y]) 1) w = .ok y w := by simp [Instr.field, asAgg, part, go_sem]
theorem run_makeChan85 (w : World) : Sem.run Alt.prog (Instr.makeChan 85 (.int .i64 0)) w = .ok (.chan (some w.heap.size)) (w.alloc (.chan 0 #[] false 0 0 false)) := by simp [Instr.makeChan, go_sem]
attribute [local go_sem] run_field36 run_field39a run_field39b run_makeChan85
/-- The four blocks that are made ahead of the copy. -/
def made4 (w : World) : World := (((w.alloc (.cells #[] 36)).alloc (.cells #[] 36)).alloc (.chan 0 #[] false 0 0 false)).alloc (.cells #[] 85)
theorem made4_ext (w : World) : Ext w (made4 w) := ext_alloc (ext_alloc (ext_alloc (ext_alloc (ext_refl w) _) _) _) _
theorem made4_size (w : World) : (made4 w).heap.size = w.heap.size + 4 := by simp [made4]
set_option maxHeartbeats 1600000 in
theorem altPass_any {A B : Option Addr} {xl yl : List Upd} {ux uy : Int} (c d : Nat) (xi xj yi yj : Int) {w : World} (hx : LogR w A xl) (hy : LogR w B yl) (hm : xl.length ≤ 1048576) (hu : xl[yl.length]? = some (ux, uy)) :
    Calls Alt.prog 37 #[.agg #[.int .i64 xi, .slice A xl.length c, .int .i64 xj], .agg #[.int .i64 yi, .slice B yl.length d, .int .i64 yj]] w
      fun e w' => ∃ A' c', e = .returned (.slice A' (yl.length + 1) c') ∧ w.heap.size < w'.heap.size ∧ OwnU w' (w.heap.size + 4) A' c' (yl ++ [(ux, uy)]) ∧ Ext w w' := by
  obtain ⟨iU, hiU, zU0, zU1, zU2⟩ := info_parts infoU'
  have hlt : yl.length < xl.length := (List.getElem?_eq_some_iff.1 hu).1
  have hge : xl[yl.length] = (ux, uy) := by rw [List.getElem?_eq_getElem hlt] at hu; exact Option.some.inj hu
  obtain ⟨b, o, rfl, hb, q0, q1⟩ := hx.at_ hlt
  have hE4 := made4_ext w
  have hs4 := made4_size w
  have hy4 : CellsR (made4 w) B (ucells yl) := LogR.ext hy hE4
  replace hy4 := hide hy4
  replace hu := hide hu
  rw [hge] at q0 q1
  simp only at q0 q1
  rw [← Nat.add_assoc] at q1
  clear hge hx
  clear hy
  go_enter Alt.func37, Alt.ntmps37
  simp only [Alt.ops, Alt.op]
  go_wp2_with (at_make; refine wpList_make_full (made4 w) rfl _ _ 34 rfl (w.heap.size + 4) 39 iU _ 2 Alt.underlying34 hiU zU0 zU1 _ _ _ _ yl.length rfl rfl rfl rfl (by rw [zU2]; omega) (by unfold maxLen; omega) (by rw [hs4]; exact Nat.le_refl _) ?_)
  intro w1 hown hgr
  have hEa : Ext (made4 w) w1 := ⟨hgr.os, hgr.tape, hgr.output, hgr.size, fun i hi => hgr.block i hi (by simp)⟩
  have hE1 := hide (ext_trans hE4 hEa)
  have hcs := hy4.out.ext hEa
  clear hgr
  go_wp2_with (with_reducible refine wpList_copy_whole rfl (.tmp 10) (.tmp 5) 34 34 rfl (w.heap.size + 4) 39 iU 2 Alt.underlying34 hiU zU1 (w.heap.size + 4) yl.length yl.length _ rfl hown B d (ucells yl) rfl (ucells_len yl) hcs (ucells_one yl) ?_)
  intro w2 hown2 hg2
  have hs2 : w.heap.size + 4 ≤ w2.heap.size := by have := hEa.size; have := hg2.size; omega
  have hE2 := hide (ext_only hE1.out hg2 (show w.heap.size ≤ w.heap.size + 4 by omega))
  replace hown2 := hide hown2
  have qa := ext_cell (ext_alloc hE2.out (.cells #[] 34)) q0
  have qb := ext_cell (ext_alloc hE2.out (.cells #[] 34)) q1
  have hi0 : (0 : Int) ≤ (yl.length : Int) := by omega
  have hi1 : (yl.length : Int) < (xl.length : Int) := by omega
  clear hg2 hown hcs hy4 hEa hE4 hE1 q0 q1
  replace hs4 := hide hs4
  have hown := hide ((((hown2.out.alloc (.cells #[] 34)).alloc (.cells #[] 39)).alloc (.cells #[] 96)).alloc (.cells #[] 39))
  obtain ⟨hB0, hB1, -⟩ := (Blk.newAt ((((w2.alloc (.cells #[] 34)).alloc (.cells #[] 39)).alloc (.cells #[] 96)).alloc (.cells #[] 39)) 39 #[.int .i64 ux, .int .i64 uy] (g := w2.heap.size + 1 + 1 + 1 + 1) (by simp)).at2
  go_wp2_with (at_builtin; refine wpList_append_own _ rfl _ _ 34 rfl (w.heap.size + 4) 39 iU _ 2 16 Alt.underlying34 hiU zU0 zU1 zU2 rfl (by decide) _ yl.length _ rfl (hown.out.alloc _) ⟨w2.heap.size + 1 + 1 + 1 + 1, 0, none⟩ 1 1 [.int .i64 ux, .int .i64 uy] rfl rfl ?c1 ?c2 ?c3 ?c4 ?c5 ?_)
  case c1 =>
    intro jj u hj
    match jj, hj with
    | 0, hj => simp at hj; subst hj; simp only [Addr.add, Nat.add_zero]; exact hB0
    | 1, hj => simp at hj; subst hj; simp only [Addr.add, Nat.zero_add]; exact hB1
  case c2 => intro u hu; simp at hu; rcases hu with rfl | rfl <;> rfl
  case c3 => unfold maxLen; omega
  case c4 => omega
  case c5 => simp; omega
  intro v' w' hown' hgrow _
  obtain ⟨A3, c3, rfl, -, -⟩ := own_form hown'
  have hE' := hide (Turned.ext (ext_alloc (ext_alloc (ext_alloc (ext_alloc (ext_alloc hE2.out (.cells #[] 34)) (.cells #[] 39)) (.cells #[] 96)) (.cells #[] 39)) (.cells #[.int .i64 ux, .int .i64 uy] 39)) (Turned.of_row hgrow fun g hg => ⟨(hown.out.lt g hg).1, by have := (hown.out.lt g hg).2; simp at this ⊢; omega⟩) (show w.heap.size ≤ w.heap.size + 4 by omega))
  have hz : w.heap.size < w'.heap.size := by have := hgrow.size; simp at this; omega
  have hown9 : OwnU w' (w.heap.size + 4) A3 c3 (yl ++ [(ux, uy)]) := by
    unfold OwnU
    rw [ucells_snoc, List.length_append, List.length_singleton]
    exact hown'
  replace hown9 := hide hown9
  clear hown' hgrow hown hown2
  go_wp2_with fail
  refine bodyPost_end (results_tmp Alt.results37 _ _ _) rfl ?_
  exact ⟨A3, c3, rfl, hz, hown9.out, hE'.out⟩
end Go.Proofs.YtciekjplhbimdaaZ
