/-
  Contracts: the draws of the laws on nodes.
-/
import Derived.Test.YthhlimpmjmnmfaaNDraw
set_option linter.all false
namespace Go.Proofs.Ythhlimpmjmnmfaa
open Go.RowKit
attribute [local go_sem ↓] Go.wp_at_zero Go.wp_at_succ

/-- A node has been drawn. -/
def GotNd (w : World) (e : Ending) (w' : World) : Prop :=
  ∃ (A : Option Addr) (c : Nat) (i j : Int) (l : List Upd), e = .returned (.agg #[.int .i64 i, .slice A l.length c, .int .i64 j]) ∧ l.length ≤ 13 ∧ -1 ≤ j ∧ j ≤ l.length + 1 ∧ l.length ≤ c ∧ c ≤ maxLen ∧ LogR w' A l ∧ Ext w w'
/-- A node and a number have been drawn. -/
def GotNdInt (w : World) (e : Ending) (w' : World) : Prop :=
  ∃ (A : Option Addr) (c : Nat) (i j : Int) (l : List Upd) (d : Int), e = .returned (.tuple #[.agg #[.int .i64 i, .slice A l.length c, .int .i64 j], .int .i64 d]) ∧ l.length ≤ 13 ∧ -1 ≤ j ∧ j ≤ l.length + 1 ∧ l.length ≤ c ∧ c ≤ maxLen ∧ LogR w' A l ∧ Ext w w'

theorem drawNodeValid_any {A : Option Addr} {n c : Nat} {w : World} (h : CodeR w A n c) : Calls Try.prog 14 #[.slice A n c] w (GotNd w) := by
  go_enter Try.func14, Try.ntmps14
  go_wp2_with fail
  refine (l6Open_any (h.alloc _)).mono ?_
  rintro e w1 ⟨rfl, hE, hr⟩
  simp only [World.size_alloc] at hE hr ⊢
  have hR := hide ((Blk.new w 25 #[.int .i64 0, .slice none 0 0, .int .i64 0]).ext (by exact hE))
  replace hE := hide (ext_trans (ext_alloc (ext_refl w) _) hE)
  have s1 := hr.lt
  go_wp2_with fail
  refine (l91Node_any hr (by omega)).mono ?_
  rintro e w2 ⟨A2, c2, i, j, l, rfl, hl, -, -, hj0, hj1, hO, hg, -⟩
  obtain ⟨hlc, hcm⟩ := hO.cap
  replace hO := hide hO
  replace hR := hide (hR.out.grown hg (by simp))
  replace hE := hide (ext_of_only (g := w.heap.size + 1) (only_pick (only_of_ext hE.out _) hg) (by omega))
  clear hg hr
  try clear hR_0 hR_1 hR_2 hR_lt hR_f0 hR_f1 hR_f2
  obtain ⟨hR_0, hR_1, hR_2, hR_lt, hR_f0, hR_f1, hR_f2⟩ := hR.out.at3f
  go_wp2_with fail
  refine bodyPost_ret (v := .agg #[.int .i64 i, .slice A2 l.length c2, .int .i64 j]) (by simp [results, Try.results14, go_sem, hR_0, hR_1, hR_2]) rfl ?_
  have e1 : w.heap.size < w1.heap.size := by omega
  exact ⟨A2, c2, i, j, l, rfl, hl, hj0, hj1, hlc, hcm, (((hO.out.set_ e1 _).set_ e1 _).set_ e1 _).log, ((hE.out.setCell (Nat.le_refl _) _).setCell (Nat.le_refl _) _).setCell (Nat.le_refl _) _⟩

theorem drawNodePending_any {A : Option Addr} {n c : Nat} {w : World} (h : CodeR w A n c) : Calls Try.prog 20 #[.slice A n c] w (GotNd w) := by
  go_enter Try.func20, Try.ntmps20
  go_wp2_with fail
  refine (l6Open_any (h.alloc _)).mono ?_
  rintro e w1 ⟨rfl, hE, hr⟩
  simp only [World.size_alloc] at hE hr ⊢
  have hR := hide ((Blk.new w 25 #[.int .i64 0, .slice none 0 0, .int .i64 0]).ext (by exact hE))
  replace hE := hide (ext_trans (ext_alloc (ext_refl w) _) hE)
  have s1 := hr.lt
  go_wp2_with fail
  refine (l91Node_any hr (by omega)).mono ?_
  rintro e w2 ⟨A2, c2, i, j, l, rfl, hl, -, -, hj0, hj1, hO, hg, -⟩
  obtain ⟨hlc, hcm⟩ := hO.cap
  replace hO := hide hO
  replace hR := hide (hR.out.grown hg (by simp))
  replace hE := hide (ext_of_only (g := w.heap.size + 1) (only_pick (only_of_ext hE.out _) hg) (by omega))
  clear hg hr
  try clear hR_0 hR_1 hR_2 hR_lt hR_f0 hR_f1 hR_f2
  obtain ⟨hR_0, hR_1, hR_2, hR_lt, hR_f0, hR_f1, hR_f2⟩ := hR.out.at3f
  go_wp2_with fail
  refine bodyPost_ret (v := .agg #[.int .i64 i, .slice A2 l.length c2, .int .i64 j]) (by simp [results, Try.results20, go_sem, hR_0, hR_1, hR_2]) rfl ?_
  have e1 : w.heap.size < w1.heap.size := by omega
  exact ⟨A2, c2, i, j, l, rfl, hl, hj0, hj1, hlc, hcm, (((hO.out.set_ e1 _).set_ e1 _).set_ e1 _).log, ((hE.out.setCell (Nat.le_refl _) _).setCell (Nat.le_refl _) _).setCell (Nat.le_refl _) _⟩

set_option maxHeartbeats 1600000 in
theorem drawNodeAck_any {A : Option Addr} {n c : Nat} {w : World} (h : CodeR w A n c) : Calls Try.prog 24 #[.slice A n c] w (GotNdInt w) := by
  go_enter Try.func24, Try.ntmps24
  go_wp2_with fail
  refine (l6Open_any (h.alloc _)).mono ?_
  rintro e w1 ⟨rfl, hE, hr⟩
  simp only [World.size_alloc] at hE hr ⊢
  have hR := hide ((Blk.new w 25 #[.int .i64 0, .slice none 0 0, .int .i64 0]).ext (by exact hE))
  replace hE := hide (ext_trans (ext_alloc (ext_refl w) _) hE)
  have s1 := hr.lt
  go_wp2_with fail
  refine (l91Node_any hr (by omega)).mono ?_
  rintro e w2 ⟨A2, c2, i, j, l, rfl, hl, -, -, hj0, hj1, hO, hg, hr2⟩
  obtain ⟨hlc, hcm⟩ := hO.cap
  have s2 := hg.size
  replace hO := hide (LogIn.of hO)
  replace hR := hide (hR.out.grown hg (by simp))
  have ho := hide (only_pick (only_of_ext hE.out (some (w.heap.size + 1))) hg)
  clear hg hr hE
  have hN := hide (Blk.new w2 25 #[.int .i64 i, .slice A2 l.length c2, .int .i64 j])
  replace hO := hide (hO.out.ext (ext_alloc (ext_refl w2) (.cells #[.int .i64 i, .slice A2 l.length c2, .int .i64 j] 25)))
  replace hR := hide (hR.out.ext (ext_alloc (ext_refl w2) (.cells #[.int .i64 i, .slice A2 l.length c2, .int .i64 j] 25)))
  replace ho := hide (only_alloc ho.out (.cells #[.int .i64 i, .slice A2 l.length c2, .int .i64 j] 25))
  replace hr2 := hide (hr2.ext (ext_alloc (ext_refl w2) (.cells #[.int .i64 i, .slice A2 l.length c2, .int .i64 j] 25)))
  go_wp2_with fail
  have hrA := hide (show RdAt (w2.alloc (.cells #[.int .i64 i, .slice A2 l.length c2, .int .i64 j] 25)).drew (w.heap.size + 1) (0 + 60) from hr2.out)
  have hNA := hide (show Blk (w2.alloc (.cells #[.int .i64 i, .slice A2 l.length c2, .int .i64 j] 25)).drew w2.heap.size 25 #[.int .i64 i, .slice A2 l.length c2, .int .i64 j] from hN.out)
  have hRA := hide (show Blk (w2.alloc (.cells #[.int .i64 i, .slice A2 l.length c2, .int .i64 j] 25)).drew w.heap.size 25 #[.int .i64 0, .slice none 0 0, .int .i64 0] from hR.out)
  have hOA := hide (show LogIn (w2.alloc (.cells #[.int .i64 i, .slice A2 l.length c2, .int .i64 j] 25)).drew w1.heap.size w2.heap.size A2 c2 l from hO.out)
  have hoA := hide (show w.grownBy (w2.alloc (.cells #[.int .i64 i, .slice A2 l.length c2, .int .i64 j] 25)).drew (some (w.heap.size + 1)) from ⟨ho.out.os, ho.out.tape, ho.out.output, ho.out.size, ho.out.block⟩)
  have hp0 : 0 + 60 ≤ 1073741824 := by omega
  have hp1 : 0 + 60 + 1 ≤ 1073741824 := by omega
  have hne1 : some w2.heap.size ≠ some (w.heap.size + 1) := by simp; omega
  have hne2 : some w.heap.size ≠ some (w.heap.size + 1) := by simp
  have hne3 : w.heap.size ≠ w2.heap.size := by omega
  go_region_held3 (fun w' => w'.cell? ⟨w2.heap.size, 0, none⟩ = some (.int .i64 i) ∧ w'.cell? ⟨w2.heap.size, 1, none⟩ = some (.slice A2 l.length c2) ∧ w'.cell? ⟨w2.heap.size, 2, none⟩ = some (.int .i64 j)) (first | exact ⟨m_0, m_1, m_2⟩ | exact ⟨n_0, n_1, n_2⟩ | go_keep)
    ((go_at_call 52; first
      | ((with_reducible refine (pick_any 4 hrA.out hp0).mono ?_); rintro e w3 ⟨x, rfl, hx, -, hg3, hr3⟩; obtain ⟨n_0, n_1, n_2, n_lt⟩ := (hNA.out.grown hg3 hne1).at3)
      | ((with_reducible refine (pick_any 8 hr3 hp1).mono ?_); rintro e w4 ⟨y, rfl, hy, -, hg4, hr4⟩; obtain ⟨m_0, m_1, m_2, m_lt⟩ := ((hNA.out.grown hg3 hne1).grown hg4 hne1).at3; obtain ⟨r_0, r_1, r_2, r_lt, r_f0, r_f1, r_f2⟩ := ((hRA.out.grown hg3 hne2).grown hg4 hne2).at3f)))
  generalize IntKind.i64.wrap (IntKind.i64.wrap (j + x) - IntKind.i64.wrap (y.tdiv 7)) = D
  have f1 := (((hOA.out.turned (Turned.pick hg3) (.inr (by omega))).turned (Turned.pick hg4) (.inr (by omega))).turned (Turned.set3 w.heap.size (.int .i64 i) (.slice A2 l.length c2) (.int .i64 j)) (.inr (by omega))).log
  have f2 := ext_of_only (only_turned (only_pick (only_pick hoA.out hg3) hg4) (Turned.set3 w.heap.size (.int .i64 i) (.slice A2 l.length c2) (.int .i64 j)) (Nat.le_refl _)) (by omega)
  have fin : Hid (GotNdInt w (.returned (.tuple #[.agg #[.int .i64 i, .slice A2 l.length c2, .int .i64 j], .int .i64 D])) (((w4.setCell ⟨w.heap.size, 0, none⟩ (.int .i64 i)).setCell ⟨w.heap.size, 1, none⟩ (.slice A2 l.length c2)).setCell ⟨w.heap.size, 2, none⟩ (.int .i64 j))) :=
    hide ⟨A2, c2, i, j, l, D, rfl, hl, hj0, hj1, hlc, hcm, f1, f2⟩
  clear f1 f2 hx hy hr3 hr4 hg3 hg4 hrA hNA hRA hOA hoA
  go_wp2_with fail
  refine bodyPost_ret (v := .tuple #[.agg #[.int .i64 i, .slice A2 l.length c2, .int .i64 j], .int .i64 D]) (by simp [results, Try.results24, go_sem, r_0, r_1, r_2]) rfl ?_
  exact fin.out
end Go.Proofs.Ythhlimpmjmnmfaa
