/-
  Contracts: drawing updates and logs.
-/
import Derived.Test.YtjheeeilcfbdbaaDoorOpen
set_option linter.all false
set_option maxRecDepth 100000
namespace Go.Proofs.YtjheeeilcfbdbaaDoor
open Go.RowKit

theorem RdAt.setCell {w : World} {g P : Nat} (h : RdAt w g P) {p : Addr} (hp : g < p.block) (u : Value) : RdAt (w.setCell p u) g P := by
  obtain ⟨A, m, c, q, hg, h0, h1, h2, h3⟩ := h
  exact ⟨A, m, c, q, (Below.heap_setCell w p u g (by omega)).trans hg, h0, h1, h2, h3.keep fun k hk => Below.heap_setCell w p u k (by omega)⟩

/-- What a drawn update leaves. -/
def DrewU (w : World) (g P : Nat) (e : Ending) (w' : World) : Prop :=
  ∃ k v : Int, e = .returned (.agg #[.int .i64 k, .int .i64 v]) ∧ -1 ≤ k ∧ k ≤ 5 ∧ -1 ≤ v ∧ v ≤ 100 ∧ w.grownBy w' (some g) ∧ RdAt w' g (P + 4)

theorem l91Update_any {w : World} {g P : Nat} (h : RdAt w g P) (hP : P ≤ 536870912) : Calls Tryd.prog 36 #[.pointer (some ⟨g, 0, none⟩)] w (DrewU w g P) := by
  have hlt := h.lt
  go_enter Tryd.func36, Tryd.ntmps36
  go_wp2_with fail
  refine (pick_any 3 (h.ext (ext_alloc (ext_refl _) _)) (by omega)).mono ?_
  rintro e w1 ⟨x, rfl, hx, -, hg1, hr1⟩
  have hx' := hx (by omega)
  clear hx
  have hb1 := hide ((Blk.new w 27 #[.int .i64 0, .int .i64 0]).grown hg1 (by simp; omega))
  have ho1 := hide (only_pick (only_alloc (World.grownBy.refl w (some g)) _) hg1)
  clear hg1
  go_wp2_with fail
  refine (pick_any 100 hr1 (by omega)).mono ?_
  rintro e w2 ⟨y, rfl, hy, -, hg2, hr2⟩
  have hy' := hy (by omega)
  clear hy hr1
  have hb2 := hide (hb1.out.grown hg2 (by simp; omega))
  have ho2 := hide (only_pick ho1.out hg2)
  clear hg2 hb1 ho1
  have hu2 := hide (Blk.new w2 27 #[.int .i64 x, .int .i64 y])
  have hb2' := hide (hb2.out.alloc (.cells #[.int .i64 x, .int .i64 y] 27))
  have hlt2 := hb2.out.lt
  have ne1 : ¬ w.heap.size = w2.heap.size := by omega
  have ne2 : ¬ w2.heap.size = w.heap.size := by omega
  go_wp2_with fail
  refine (pick_any 50 (hr2.ext (ext_alloc (ext_refl _) _)) (by omega)).mono ?_
  rintro e w3 ⟨z, rfl, hz, -, hg3, hr3⟩
  have hz' := hz (by omega)
  have hgl := hr2.lt
  clear hz hr2
  have hu3 := hide (hu2.out.grown hg3 (by simp; omega))
  have hb3 := hide (hb2'.out.grown hg3 (by simp; omega))
  have ho3 := hide (only_pick (only_alloc ho2.out _) hg3)
  have hs3 := hg3.size
  simp at hs3
  clear hg3 hb2 hb2' ho2 hu2
  by_cases z0 : z = 0
  · subst z0
    go_wp2_with fail
    refine (pick_any 3 (hr3.ext (ext_alloc (ext_refl _) _)) (by omega)).mono ?_
    rintro e w4 ⟨j, rfl, hj, -, hg4, hr4⟩
    obtain ⟨hj0, hj3⟩ := hj (by omega)
    have hl4 := hide ((Blk.new w3 3 #[.int .i64 (-1), .int .i64 4, .int .i64 5]).grown hg4 (by simp; omega))
    have hu4 := hide ((hu3.out.alloc (.cells #[.int .i64 (-1), .int .i64 4, .int .i64 5] 3)).grown hg4 (by simp; omega))
    have hb4 := hide ((hb3.out.alloc (.cells #[.int .i64 (-1), .int .i64 4, .int .i64 5] 3)).grown hg4 (by simp; omega))
    have ho4 := hide (only_pick (only_alloc ho3.out _) hg4)
    clear hj hg4 hb3 hu3 ho3 hr3
    have cu0 : w4.cell? ⟨w2.heap.size, 0, none⟩ = some (.int .i64 x) := by simpa using hu4.out.cell 0
    have cu1 : w4.cell? ⟨w2.heap.size, 1, none⟩ = some (.int .i64 y) := by simpa using hu4.out.cell 1
    have fu0 := hu4.out.frozen 0
    have cb0 : w4.cell? ⟨w.heap.size, 0, none⟩ = some (.int .i64 0) := by simpa using hb4.out.cell 0
    have cb1 : w4.cell? ⟨w.heap.size, 1, none⟩ = some (.int .i64 0) := by simpa using hb4.out.cell 1
    have fb0 := hb4.out.frozen 0
    have fb1 := hb4.out.frozen 1
    obtain ⟨i, hi⟩ := Int.eq_ofNat_of_zero_le hj0
    subst hi
    obtain ⟨q, hq1, hq2, hq3⟩ : ∃ q : Int, -1 ≤ q ∧ q ≤ 5 ∧ w4.cell? ⟨w3.heap.size, i, none⟩ = some (.int .i64 q) := by
      have := hl4.out.cell i
      rcases (show i = 0 ∨ i = 1 ∨ i = 2 from by omega) with rfl | rfl | rfl
      · exact ⟨-1, by omega, by omega, by simpa using this⟩
      · exact ⟨4, by omega, by omega, by simpa using this⟩
      · exact ⟨5, by omega, by omega, by simpa using this⟩
    go_wp2_with fail
    refine bodyPost_ret (v := .agg #[.int .i64 q, .int .i64 y]) (by simp [results, Tryd.results36, go_sem, cb0, cb1, ne1, ne2]) rfl ?_
    exact ⟨q, y, rfl, hq1, hq2, by omega, by omega, only_setCell (only_setCell (only_setCell ho4.out (.inr (by show _ ≤ w2.heap.size; omega)) _) (.inr (Nat.le_refl _)) _) (.inr (Nat.le_refl _)) _,
      ((hr4.setCell (by show g < w2.heap.size; omega) _).setCell hlt _).setCell hlt _⟩
  by_cases z1 : z = 1
  · subst z1
    go_wp2_with fail
    refine (pick_any 3 (hr3.ext (ext_alloc (ext_refl _) _)) (by omega)).mono ?_
    rintro e w4 ⟨j, rfl, hj, -, hg4, hr4⟩
    obtain ⟨hj0, hj3⟩ := hj (by omega)
    have hl4 := hide ((Blk.new w3 3 #[.int .i64 (-1), .int .i64 99, .int .i64 100]).grown hg4 (by simp; omega))
    have hu4 := hide ((hu3.out.alloc (.cells #[.int .i64 (-1), .int .i64 99, .int .i64 100] 3)).grown hg4 (by simp; omega))
    have hb4 := hide ((hb3.out.alloc (.cells #[.int .i64 (-1), .int .i64 99, .int .i64 100] 3)).grown hg4 (by simp; omega))
    have ho4 := hide (only_pick (only_alloc ho3.out _) hg4)
    clear hj hg4 hb3 hu3 ho3 hr3
    have cu0 : w4.cell? ⟨w2.heap.size, 0, none⟩ = some (.int .i64 x) := by simpa using hu4.out.cell 0
    have cu1 : w4.cell? ⟨w2.heap.size, 1, none⟩ = some (.int .i64 y) := by simpa using hu4.out.cell 1
    have fu0 := hu4.out.frozen 1
    have cb0 : w4.cell? ⟨w.heap.size, 0, none⟩ = some (.int .i64 0) := by simpa using hb4.out.cell 0
    have cb1 : w4.cell? ⟨w.heap.size, 1, none⟩ = some (.int .i64 0) := by simpa using hb4.out.cell 1
    have fb0 := hb4.out.frozen 0
    have fb1 := hb4.out.frozen 1
    obtain ⟨i, hi⟩ := Int.eq_ofNat_of_zero_le hj0
    subst hi
    obtain ⟨q, hq1, hq2, hq3⟩ : ∃ q : Int, -1 ≤ q ∧ q ≤ 100 ∧ w4.cell? ⟨w3.heap.size, i, none⟩ = some (.int .i64 q) := by
      have := hl4.out.cell i
      rcases (show i = 0 ∨ i = 1 ∨ i = 2 from by omega) with rfl | rfl | rfl
      · exact ⟨-1, by omega, by omega, by simpa using this⟩
      · exact ⟨99, by omega, by omega, by simpa using this⟩
      · exact ⟨100, by omega, by omega, by simpa using this⟩
    go_wp2_with fail
    refine bodyPost_ret (v := .agg #[.int .i64 x, .int .i64 q]) (by simp [results, Tryd.results36, go_sem, cb0, cb1, ne1, ne2]) rfl ?_
    exact ⟨x, q, rfl, by omega, by omega, hq1, hq2, only_setCell (only_setCell (only_setCell ho4.out (.inr (by show _ ≤ w2.heap.size; omega)) _) (.inr (Nat.le_refl _)) _) (.inr (Nat.le_refl _)) _,
      ((hr4.setCell (by show g < w2.heap.size; omega) _).setCell hlt _).setCell hlt _⟩
  · have z0' : (z == 0) = false := by simpa using z0
    have z1' : (z == 1) = false := by simpa using z1
    have cu0 : w3.cell? ⟨w2.heap.size, 0, none⟩ = some (.int .i64 x) := by simpa using hu3.out.cell 0
    have cu1 : w3.cell? ⟨w2.heap.size, 1, none⟩ = some (.int .i64 y) := by simpa using hu3.out.cell 1
    have cb0 : w3.cell? ⟨w.heap.size, 0, none⟩ = some (.int .i64 0) := by simpa using hb3.out.cell 0
    have cb1 : w3.cell? ⟨w.heap.size, 1, none⟩ = some (.int .i64 0) := by simpa using hb3.out.cell 1
    have fb0 := hb3.out.frozen 0
    have fb1 := hb3.out.frozen 1
    go_wp2_with fail
    refine bodyPost_ret (v := .agg #[.int .i64 x, .int .i64 y]) (by simp [results, Tryd.results36, go_sem, cb0, cb1, ne1, ne2]) rfl ?_
    exact ⟨x, y, rfl, by omega, by omega, by omega, by omega, only_setCell (only_setCell ho3.out (.inr (Nat.le_refl _)) _) (.inr (Nat.le_refl _)) _,
      ((hr3.setCell hlt _).setCell hlt _).more (by omega)⟩
end Go.Proofs.YtjheeeilcfbdbaaDoor
