/-
  Contracts: the draw of the laws of writing.
-/
import Derived.Test.YtjheeeilcfbdbaaDoorCDraw3
import Derived.Test.YtjheeeilcfbdbaaDoorCDraw4
set_option linter.all false
set_option maxRecDepth 100000
namespace Go.Proofs.YtjheeeilcfbdbaaDoor
open Go.RowKit
attribute [local go_sem ↓] Go.wp_at_zero Go.wp_at_succ

/-- A chain and an update have been drawn. -/
def GotCU (w : World) (e : Ending) (w' : World) : Prop :=
  ∃ (A : Option Addr) (c : Nat) (v : Int) (ns : List Nd) (x y : Int), e = .returned (.tuple #[.agg #[.int .i64 v, .slice A ns.length c], .agg #[.int .i64 x, .int .i64 y]]) ∧ 1 ≤ ns.length ∧ ns.length ≤ 5 ∧ Low ns ∧ ns.length ≤ c ∧ c ≤ maxLen ∧ Hid (NodesR w' A ns) ∧ Ext w w'
set_option maxHeartbeats 3200000 in
theorem drawChainWrite_any {A : Option Addr} {n c : Nat} {w : World} (h : CodeR w A n c) : Calls Tryd.prog 22 #[.slice A n c] w (GotCU w) := by
  go_enter Tryd.func22, Tryd.ntmps22
  go_wp2_with fail
  refine (l6Open_any ((h.alloc _).alloc _)).mono ?_
  rintro e w1 ⟨rfl, hE, hr⟩
  simp only [World.size_alloc] at hE hr ⊢
  have hR := hide (((Blk.new w 48 #[.int .i64 0, .slice none 0 0]).ext (ext_alloc (ext_refl _) _)).ext (by exact hE))
  have hU := hide ((Blk.new (w.alloc (.cells #[.int .i64 0, .slice none 0 0] 48)) 27 #[.int .i64 0, .int .i64 0]).ext (by exact hE))
  simp only [World.size_alloc] at hU
  replace hE := hide (ext_trans (ext_alloc (ext_alloc (ext_refl w) _) _) hE)
  have s1 := hr.lt
  go_wp2_with fail
  refine (l91Chain_any hr (by omega)).mono ?_
  rintro e w2 ⟨A2, c2, v, ns, rfl, h1, h5, hlow, hN, hg, hr2⟩
  have hne3 : w.heap.size ≠ w2.heap.size := by have := hg.size; omega
  have hne5 : w.heap.size + 1 ≠ w2.heap.size := by have := hg.size; omega
  have hC := hide (cf_start (v := v) (hR.out.grown hg (by simp <;> omega)) hN hg hr2 (by omega) s1 (by omega) (low_of hlow))
  replace hU := hide ((hU.out.grown hg (by simp <;> omega)).alloc (.cells #[.int .i64 v, .slice A2 ns.length c2] 48))
  clear hg hr hR hN hr2 hlow
  have hCA := hide (hC.out.ext (show Ext _ (w2.alloc (.cells #[.int .i64 v, .slice A2 ns.length c2] 48)).drew from ext_drew (ext_refl _)))
  have hUA := hide (show Blk (w2.alloc (.cells #[.int .i64 v, .slice A2 ns.length c2] 48)).drew (w.heap.size + 1) 27 #[.int .i64 0, .int .i64 0] from hU.out)
  have hp0 : 0 + 90 ≤ 536870912 := by omega
  have hne1 : some (w.heap.size + 1) ≠ some (w.heap.size + 1 + 1) := by simp
  have hne6 : w.heap.size ≠ w.heap.size + 1 := by omega
  have hne7 : w.heap.size + 1 ≠ w.heap.size := by omega
  have hne8 : w2.heap.size ≠ w.heap.size := fun e => hne3 e.symm
  go_wp2_with fail
  generalize hU1 : w.heap.size + 1 = U at *
  generalize hG1 : U + 1 = G at *
  go_region_held3 (fun w' => w'.cell? ⟨w2.heap.size, 0, none⟩ = some (.int .i64 v) ∧ w'.cell? ⟨w2.heap.size, 1, none⟩ = some (.slice A2 ns.length c2)) (first | with_reducible exact ⟨n_0, n_1⟩ | with_reducible exact ⟨k_0, k_1⟩ | go_keep)
    ((go_at_call 36; first
      | ((with_reducible refine (l91Update_any hCA.out.rd hp0).mono ?_); rintro e w3 ⟨x, y, rfl, hx1, hx2, hy1, hy2, hg3, hr3⟩; have hCB := hide (hCA.out.pick hg3 hr3); obtain ⟨n_0, n_1, n_lt, n_f0, n_f1⟩ := hCB.out.chain.at2f; obtain ⟨r_0, r_1, r_lt, r_f0, r_f1⟩ := hCB.out.back.at2f; have hUB := hide (hUA.out.grown hg3 hne1); obtain ⟨u_0, u_1, u_lt, u_f0, u_f1⟩ := ((hUB.out.far (p := ⟨w.heap.size, 0, none⟩) hne7 (.int .i64 v)).far (p := ⟨w.heap.size, 1, none⟩) hne7 (.slice A2 ns.length c2)).at2f; obtain ⟨k_0, k_1, k_lt⟩ := ((hCB.out.chain.far (p := ⟨w.heap.size, 0, none⟩) hne8 (.int .i64 v)).far (p := ⟨w.heap.size, 1, none⟩) hne8 (.slice A2 ns.length c2)).at2)))
  have f0 := (hCB.out.nodes.handed hCB.out.back (.int .i64 v) (.slice A2 ns.length c2)).turned (Turned.set2 U (.int .i64 x) (.int .i64 y)) (.inr (by omega))
  have f2 := ext_of_only (only_turned (only_turned (only_pick (only_of_ext hE.out (some G)) hCB.out.only) (Turned.set2 w.heap.size (.int .i64 v) (.slice A2 ns.length c2)) (Nat.le_refl _)) (Turned.set2 U (.int .i64 x) (.int .i64 y)) (by omega)) (by omega)
  have fin : Hid (GotCU w (.returned (.tuple #[.agg #[.int .i64 v, .slice A2 ns.length c2], .agg #[.int .i64 x, .int .i64 y]])) ((((w3.setCell ⟨w.heap.size, 0, none⟩ (.int .i64 v)).setCell ⟨w.heap.size, 1, none⟩ (.slice A2 ns.length c2)).setCell ⟨U, 0, none⟩ (.int .i64 x)).setCell ⟨U, 1, none⟩ (.int .i64 y))) :=
    hide ⟨A2, c2, v, ns, x, y, rfl, h1, h5, hCB.out.low, f0.cap.1, f0.cap.2, hide f0.read, f2⟩
  clear f0 f2 hx1 hx2 hy1 hy2 hr3 hg3 hCA hCB hUA hUB
  go_wp2_with fail
  refine bodyPost_ret (v := .tuple #[.agg #[.int .i64 v, .slice A2 ns.length c2], .agg #[.int .i64 x, .int .i64 y]]) (by simp [results, Tryd.results22, go_sem, r_0, r_1, u_0, u_1, hne6, hne7]) rfl ?_
  exact fin.out
end Go.Proofs.YtjheeeilcfbdbaaDoor
