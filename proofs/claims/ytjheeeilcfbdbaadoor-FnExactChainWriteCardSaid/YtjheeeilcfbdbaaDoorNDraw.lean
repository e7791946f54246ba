/-
  Contracts: drawing nodes.
-/
import Derived.Test.YtjheeeilcfbdbaaDoorNMark
import Derived.Test.YtjheeeilcfbdbaaDoorBDraw
set_option linter.all false
set_option maxRecDepth 100000
namespace Go.Proofs.YtjheeeilcfbdbaaDoor
open Go.RowKit
attribute [local go_sem ↓] Go.wp_at_zero Go.wp_at_succ

section
variable {w : World} {g : Nat} {t : TypeId} {a b c u : Value}
theorem Blk.set20 (h : Blk w g t #[a, b]) (u : Value) : Blk (w.setCell ⟨g, 0, none⟩ u) g t #[u, b] := by simpa using h.set_ 0 u
theorem Blk.set21 (h : Blk w g t #[a, b]) (u : Value) : Blk (w.setCell ⟨g, 1, none⟩ u) g t #[a, u] := by simpa using h.set_ 1 u
theorem Blk.set30 (h : Blk w g t #[a, b, c]) (u : Value) : Blk (w.setCell ⟨g, 0, none⟩ u) g t #[u, b, c] := by simpa using h.set_ 0 u
theorem Blk.set31 (h : Blk w g t #[a, b, c]) (u : Value) : Blk (w.setCell ⟨g, 1, none⟩ u) g t #[a, u, c] := by simpa using h.set_ 1 u
theorem Blk.set32 (h : Blk w g t #[a, b, c]) (u : Value) : Blk (w.setCell ⟨g, 2, none⟩ u) g t #[a, b, u] := by simpa using h.set_ 2 u
theorem Turned.set {lo hi : Nat} {p : Addr} (h1 : lo ≤ p.block) (h2 : p.block < hi) (u : Value) : Turned lo hi w (w.setCell p u) :=
  ⟨rfl, rfl, rfl, by simp [World.setCell], fun k _ hk => Below.heap_setCell w p u k (by omega)⟩
theorem Turned.set3 (g : Nat) (u v x : Value) : Turned g (g + 1) w (((w.setCell ⟨g, 0, none⟩ u).setCell ⟨g, 1, none⟩ v).setCell ⟨g, 2, none⟩ x) :=
  ((Turned.set (p := ⟨g, 0, none⟩) (Nat.le_refl _) (Nat.lt_succ_self _) u).trans (Turned.set (p := ⟨g, 1, none⟩) (Nat.le_refl _) (Nat.lt_succ_self _) v)).trans (Turned.set (p := ⟨g, 2, none⟩) (Nat.le_refl _) (Nat.lt_succ_self _) x)
theorem only_turned {a w w' : World} {g lo hi : Nat} (h : a.grownBy w (some g)) (ht : Turned lo hi w w') (hs : a.heap.size ≤ lo) : a.grownBy w' (some g) :=
  ⟨ht.os.trans h.os, ht.tape.trans h.tape, ht.output.trans h.output, Nat.le_trans h.size ht.size, fun k hk hn => (ht.block k (Nat.lt_of_lt_of_le hk h.size) (by omega)).trans (h.block k hk hn)⟩
theorem RdAt.turned {w w' : World} {g P lo hi : Nat} (h : RdAt w g P) (ht : Turned lo hi w w') (hs : g < lo) : RdAt w' g P := by
  have hl := h.lt
  obtain ⟨A, m, c, q, hg, h0, h1, h2, h3⟩ := h
  exact ⟨A, m, c, q, (ht.block g hl (.inl hs)).trans hg, h0, h1, h2, h3.keep fun k hk => ht.block k (by omega) (.inl (by omega))⟩
theorem Turned.pick {w w' : World} (h : w.grownBy w' (some g)) : Turned g (g + 1) w w' := Turned.of_only h (Nat.le_refl _) (Nat.lt_succ_self _)
end

def Picked2 (w : World) (g P : Nat) (e : Ending) (w' : World) : Prop := ∃ i : Nat, i < 2 ∧ e = .returned (.int .i64 i) ∧ w.grownBy w' (some g) ∧ RdAt w' g (P + 1)
theorem pick2_any {w : World} {g P : Nat} (h : RdAt w g P) (hP : P ≤ 1073741824) : Calls Tryd.prog 65 #[.pointer (some ⟨g, 0, none⟩), .int .i64 2] w (Picked2 w g P) := by
  refine (pick_any 2 h hP).mono ?_
  rintro e w' ⟨x, rfl, hx, -, h1, h2⟩
  obtain ⟨h3, h4⟩ := hx (by omega)
  obtain ⟨i, rfl⟩ := Int.eq_ofNat_of_zero_le h3
  exact ⟨i, by omega, rfl, h1, h2⟩
theorem two_at (x y : Int) {i : Nat} (hi : i < 2) : ∃ q : Int, (q = x ∨ q = y) ∧ (#[Value.int .i64 x, Value.int .i64 y] : Array Value)[i]? = some (.int .i64 q) ∧ ([Value.int .i64 x, Value.int .i64 y] : List Value)[i]? = some (.int .i64 q) := by
  rcases (show i = 0 ∨ i = 1 from by omega) with rfl | rfl
  · exact ⟨x, .inl rfl, rfl, rfl⟩
  · exact ⟨y, .inr rfl, rfl, rfl⟩

/-- What a drawn node leaves. -/
def DrewN (w : World) (g P : Nat) (e : Ending) (w' : World) : Prop :=
  ∃ (A : Option Addr) (c : Nat) (i j : Int) (l : List Upd), e = .returned (.agg #[.int .i64 i, .slice A l.length c, .int .i64 j]) ∧ l.length ≤ 13 ∧ 0 ≤ i ∧ i ≤ 100 ∧ -1 ≤ j ∧ j ≤ l.length + 1 ∧ OwnU w' w.heap.size A c l ∧ w.grownBy w' (some g) ∧ RdAt w' g (P + 60)

theorem drewN_mk {w w' : World} {g P c : Nat} {A : Option Addr} {i j : Int} {l : List Upd} (hl : l.length ≤ 13) (h1 : 0 ≤ i) (h2 : i ≤ 100) (h3 : -1 ≤ j) (h4 : j ≤ l.length + 1) (f1 : OwnU w' w.heap.size A c l) (f2 : w.grownBy w' (some g)) (f3 : RdAt w' g (P + 60)) :
    DrewN w g P (.returned (.agg #[.int .i64 i, .slice A l.length c, .int .i64 j])) w' := ⟨A, c, i, j, l, rfl, hl, h1, h2, h3, h4, f1, f2, f3⟩

set_option maxHeartbeats 1600000 in
theorem l91Node_any {w : World} {g P : Nat} (h : RdAt w g P) (hP : P ≤ 134217728) : Calls Tryd.prog 35 #[.pointer (some ⟨g, 0, none⟩)] w (DrewN w g P) := by
  have hlt := h.lt
  go_enter Tryd.func35, Tryd.ntmps35
  go_wp2_with fail
  refine (pick_any 9 (h.ext (ext_alloc (ext_refl _) _)) (by omega)).mono ?_
  rintro e w1 ⟨x, rfl, hx, -, hg, hr1⟩
  have hx' := hx (by omega)
  have hR := hide ((Blk.new w 25 #[.int .i64 0, .slice none 0 0, .int .i64 0]).grown hg (by simp; omega))
  have ho := hide (only_pick (only_alloc (World.grownBy.refl w (some g)) _) hg)
  have s1 := hg.size
  simp at s1
  clear hg hx
  go_wp2_with fail
  refine (l91Log_any hr1 (by omega)).mono ?_
  rintro e w2 ⟨A, c, l, rfl, hl, -, hown, hg, hr2⟩
  have hL := hide (LogIn.of hown)
  replace hR := hide (hR.out.grown hg (by simp; omega))
  replace ho := hide (only_pick ho.out hg)
  have s2 := hg.size
  clear hown hg hr1
  have hN := hide (Blk.new w2 25 #[.int .i64 (1 + x), .slice A l.length c, .int .i64 0])
  replace hL := hide (hL.out.ext (ext_alloc (ext_refl w2) (.cells #[.int .i64 (1 + x), .slice A l.length c, .int .i64 0] 25)))
  replace hR := hide (hR.out.ext (ext_alloc (ext_refl w2) (.cells #[.int .i64 (1 + x), .slice A l.length c, .int .i64 0] 25)))
  replace ho := hide (only_alloc ho.out (.cells #[.int .i64 (1 + x), .slice A l.length c, .int .i64 0] 25))
  go_wp2_with fail
  refine (pick_any _ (hr2.ext (ext_alloc (ext_refl _) _)) (by omega)).mono ?_
  rintro e w3 ⟨j, rfl, hj, -, hg, hr3⟩
  obtain ⟨hj0, hj1⟩ := hj (by omega)
  have s3 := hg.size
  simp at s3
  replace hL := hide (hL.out.turned (Turned.pick hg) (.inr (by omega)))
  replace hR := hide (hR.out.grown hg (by simp; omega))
  replace hN := hide (hN.out.grown hg (by simp; omega))
  replace ho := hide (only_pick ho.out hg)
  clear hg hr2 hj
  try clear hN_0 hN_1 hN_2 hN_lt hN_f0 hN_f1 hN_f2
  obtain ⟨hN_0, hN_1, hN_2, hN_lt, hN_f0, hN_f1, hN_f2⟩ := hN.out.at3f
  try clear hR_0 hR_1 hR_2 hR_lt hR_f0 hR_f1 hR_f2
  obtain ⟨hR_0, hR_1, hR_2, hR_lt, hR_f0, hR_f1, hR_f2⟩ := hR.out.at3f
  go_wp2_with fail
  replace hL := hide (hL.out.turned (Turned.set (p := ⟨w2.heap.size, 2, none⟩) (lo := w2.heap.size) (hi := w2.heap.size + 1) (Nat.le_refl _) (by show w2.heap.size < _; omega) (.int .i64 j)) (.inl (Nat.le_refl _)))
  replace hR := hide (hR.out.far (p := ⟨w2.heap.size, 2, none⟩) (by show w.heap.size ≠ w2.heap.size; omega) (.int .i64 j))
  replace hN := hide (hN.out.set32 (.int .i64 j))
  replace ho := hide (only_setCell ho.out (p := ⟨w2.heap.size, 2, none⟩) (.inr (by show w.heap.size ≤ w2.heap.size; omega)) (.int .i64 j))
  replace hr3 := hide (hr3.setCell (p := ⟨w2.heap.size, 2, none⟩) (by show g < w2.heap.size; omega) (.int .i64 j))
  refine (pick_any 40 hr3.out (by omega)).mono ?_
  rintro e w4 ⟨y, rfl, hy, -, hg, hr4⟩
  have hy' := hy (by omega)
  have s4 := hg.size
  simp [World.setCell] at s4
  replace hL := hide (hL.out.turned (Turned.pick hg) (.inr (by omega)))
  replace hR := hide (hR.out.grown hg (by simp; omega))
  replace hN := hide (hN.out.grown hg (by simp; omega))
  replace ho := hide (only_pick ho.out hg)
  clear hg hr3 hy
  by_cases y0 : y = 0
  · subst y0
    try clear hN_0 hN_1 hN_2 hN_lt hN_f0 hN_f1 hN_f2
    obtain ⟨hN_0, hN_1, hN_2, hN_lt, hN_f0, hN_f1, hN_f2⟩ := hN.out.at3f
    try clear hR_0 hR_1 hR_2 hR_lt hR_f0 hR_f1 hR_f2
    obtain ⟨hR_0, hR_1, hR_2, hR_lt, hR_f0, hR_f1, hR_f2⟩ := hR.out.at3f
    go_wp2_with fail
    refine (pick_any 3 (hr4.ext (ext_alloc (ext_refl _) _)) (by omega)).mono ?_
    rintro e w5 ⟨z, rfl, hz, -, hg, hr5⟩
    obtain ⟨hz0, hz3⟩ := hz (by omega)
    have s5 := hg.size
    simp at s5
    have hK := hide ((Blk.new w4 3 #[.int .i64 0, .int .i64 99, .int .i64 100]).grown hg (by simp; omega))
    replace hL := hide ((hL.out.ext (ext_alloc (ext_refl w4) (.cells #[.int .i64 0, .int .i64 99, .int .i64 100] 3))).turned (Turned.pick hg) (.inr (by omega)))
    replace hR := hide ((hR.out.ext (ext_alloc (ext_refl w4) (.cells #[.int .i64 0, .int .i64 99, .int .i64 100] 3))).grown hg (by simp; omega))
    replace hN := hide ((hN.out.ext (ext_alloc (ext_refl w4) (.cells #[.int .i64 0, .int .i64 99, .int .i64 100] 3))).grown hg (by simp; omega))
    replace ho := hide (only_pick (only_alloc ho.out (.cells #[.int .i64 0, .int .i64 99, .int .i64 100] 3)) hg)
    clear hg hr4 hz
    obtain ⟨i, hi⟩ := Int.eq_ofNat_of_zero_le hz0
    subst hi
    obtain ⟨q, hq1, hq2, hq3⟩ : ∃ q : Int, 0 ≤ q ∧ q ≤ 100 ∧ w5.cell? ⟨w4.heap.size, i, none⟩ = some (.int .i64 q) := by
      have := hK.out.cell i
      rcases (show i = 0 ∨ i = 1 ∨ i = 2 from by omega) with rfl | rfl | rfl
      · exact ⟨0, by omega, by omega, by simpa using this⟩
      · exact ⟨99, by omega, by omega, by simpa using this⟩
      · exact ⟨100, by omega, by omega, by simpa using this⟩
    try clear hN_0 hN_1 hN_2 hN_lt hN_f0 hN_f1 hN_f2
    obtain ⟨hN_0, hN_1, hN_2, hN_lt, hN_f0, hN_f1, hN_f2⟩ := hN.out.at3f
    try clear hR_0 hR_1 hR_2 hR_lt hR_f0 hR_f1 hR_f2
    obtain ⟨hR_0, hR_1, hR_2, hR_lt, hR_f0, hR_f1, hR_f2⟩ := hR.out.at3f
    have ne1 : ¬ w.heap.size = w2.heap.size := by omega
    have ne2 : ¬ w2.heap.size = w.heap.size := by omega
    go_wp2_with fail
    refine bodyPost_ret (v := .agg #[.int .i64 q, .slice A l.length c, .int .i64 j]) (by simp [results, Tryd.results35, go_sem, hR_0, hR_1, hR_2, ne1, ne2]) rfl ?_
    have ht := (Turned.set (w := w5) (p := ⟨w2.heap.size, 0, none⟩) (lo := w2.heap.size) (hi := w2.heap.size + 1) (Nat.le_refl _) (Nat.lt_succ_self _) (.int .i64 q))
    have ht2 := Turned.set3 (w := w5.setCell ⟨w2.heap.size, 0, none⟩ (.int .i64 q)) w.heap.size (.int .i64 q) (.slice A l.length c) (.int .i64 j)
    exact ⟨A, c, q, j, l, rfl, hl, hq1, hq2, by omega, by omega, OwnU.mono ((hL.out.turned ht (.inl (Nat.le_refl _))).turned ht2 (.inr (by omega))).1 (by omega), only_turned (only_turned ho.out ht (by omega)) ht2 (by omega), ((hr5.turned ht (by omega)).turned ht2 (by omega)).more (by omega)⟩
  · have y0' : (y == 0) = false := by simpa using y0
    by_cases y1 : y = 1
    · subst y1
      try clear hN_0 hN_1 hN_2 hN_lt hN_f0 hN_f1 hN_f2
      obtain ⟨hN_0, hN_1, hN_2, hN_lt, hN_f0, hN_f1, hN_f2⟩ := hN.out.at3f
      try clear hR_0 hR_1 hR_2 hR_lt hR_f0 hR_f1 hR_f2
      obtain ⟨hR_0, hR_1, hR_2, hR_lt, hR_f0, hR_f1, hR_f2⟩ := hR.out.at3f
      go_wp2_with fail
      have hwr : IntKind.i64.wrap ((l.length : Int) + 1) = (l.length : Int) + 1 := IntWalk.i64_in _ (by omega)
      have hrA0 : RdAt (w4.alloc (.cells #[.int .i64 (-1), .int .i64 (↑l.length + 1)] 3)) g (P + 1 + 55 + 1 + 1) := RdAt.ext hr4 (ext_alloc (ext_refl _) _)
      have hrA := hide (show RdAt (w4.alloc (.cells #[.int .i64 (-1), .int .i64 (↑l.length + 1)] 3)).drew g (P + 1 + 55 + 1 + 1) from hrA0)
      have hrB := hide (show RdAt w4.drew g (P + 1 + 55 + 1 + 1) from hr4)
      have hK0 : Blk (w4.alloc (.cells #[.int .i64 (-1), .int .i64 (↑l.length + 1)] 3)) w4.heap.size 3 #[.int .i64 (-1), .int .i64 (↑l.length + 1)] := Blk.new w4 _ _
      have hK := hide (show Blk (w4.alloc (.cells #[.int .i64 (-1), .int .i64 (↑l.length + 1)] 3)).drew w4.heap.size 3 #[.int .i64 (-1), .int .i64 (↑l.length + 1)] from hK0)
      have hN0 := hN.out.ext (ext_alloc (ext_refl w4) (.cells #[.int .i64 (-1), .int .i64 (↑l.length + 1)] 3))
      have hNA := hide (show Blk (w4.alloc (.cells #[.int .i64 (-1), .int .i64 (↑l.length + 1)] 3)).drew w2.heap.size 25 #[.int .i64 (1 + x), .slice A l.length c, .int .i64 j] from hN0)
      have hNB := hide (show Blk w4.drew w2.heap.size 25 #[.int .i64 (1 + x), .slice A l.length c, .int .i64 j] from hN.out)
      have hNne : some w2.heap.size ≠ some g := by simp; omega
      have hKne : some w4.heap.size ≠ some g := by simp; omega
      have hPP : P + 1 + 55 + 1 + 1 ≤ 1073741824 := by omega
      go_region_with (go_at_call 65; first | ((with_reducible refine (pick2_any hrA.out hPP).mono ?_); rintro e w5 ⟨i, hi, rfl, hg, hr5⟩; obtain ⟨q, hq, hqq, hql⟩ := two_at (-1) (↑l.length + 1) hi; have hcc := ((hK.out.grown hg hKne).cell i).trans hqq; obtain ⟨n_0, n_1, n_2, n_lt, n_f0, n_f1, n_f2⟩ := (hNA.out.grown hg hNne).at3f) | ((with_reducible refine (pick2_any hrB.out hPP).mono ?_); rintro e w5 ⟨i, hi, rfl, hg, hr5⟩; obtain ⟨q, hq, hqq, hql⟩ := two_at (-1) (↑l.length + 1) hi; have hii := Int.ofNat_lt.mpr hi; clear hi; obtain ⟨n_0, n_1, n_2, n_lt, n_f0, n_f1, n_f2⟩ := (hNB.out.grown hg hNne).at3f; obtain ⟨m_0, m_1, m_2, m_lt, m_f0, m_f1, m_f2⟩ := ((hNB.out.grown hg hNne).ext (ext_alloc (ext_refl w5) (.cells #[.int .i64 (-1), .int .i64 (↑l.length + 1)] 3))).at3f))
      all_goals first
        | (have hT : Turned g (g + 1) (w4.alloc (.cells #[.int .i64 (-1), .int .i64 (↑l.length + 1)] 3)) w5 := Turned.pick ⟨hg.os, hg.tape, hg.output, hg.size, hg.block⟩
           replace hL := hide ((hL.out.ext (ext_alloc (ext_refl w4) (.cells #[.int .i64 (-1), .int .i64 (↑l.length + 1)] 3))).turned hT (.inr (by omega)))
           replace hR := hide ((hR.out.ext (ext_alloc (ext_refl w4) (.cells #[.int .i64 (-1), .int .i64 (↑l.length + 1)] 3))).turned hT (.inr (by omega)))
           replace ho := hide (only_pick (only_alloc ho.out (.cells #[.int .i64 (-1), .int .i64 (↑l.length + 1)] 3)) (⟨hg.os, hg.tape, hg.output, hg.size, hg.block⟩ : World.grownBy (w4.alloc (.cells #[.int .i64 (-1), .int .i64 (↑l.length + 1)] 3)) w5 (some g))))
        | (have hT : Turned g (g + 1) w4 w5 := Turned.pick ⟨hg.os, hg.tape, hg.output, hg.size, hg.block⟩
           replace hL := hide (hL.out.turned hT (.inr (by omega)))
           replace hR := hide (hR.out.turned hT (.inr (by omega)))
           replace ho := hide (only_pick ho.out (⟨hg.os, hg.tape, hg.output, hg.size, hg.block⟩ : World.grownBy w4 w5 (some g))))
      all_goals
        have hq1 : -1 ≤ q := by omega
        have hq2 : q ≤ l.length + 1 := by omega
        have hx1 : 0 ≤ 1 + x := by omega
        have hx2 : 1 + x ≤ 100 := by omega
        clear hqq hql hg hq
        obtain ⟨hR_0, hR_1, hR_2, hR_lt, hR_f0, hR_f1, hR_f2⟩ := hR.out.at3f
        have ne1 : ¬ w.heap.size = w2.heap.size := by omega
        have ne2 : ¬ w2.heap.size = w.heap.size := by omega
        go_wp2_with fail
        refine bodyPost_ret (v := .agg #[.int .i64 (1 + x), .slice A l.length c, .int .i64 q]) (by simp [results, Tryd.results35, go_sem, hR_0, hR_1, hR_2, ne1, ne2, hR_lt]) rfl ?_
        have ht := (Turned.set (w := w5) (p := ⟨w2.heap.size, 2, none⟩) (lo := w2.heap.size) (hi := w2.heap.size + 1) (Nat.le_refl _) (Nat.lt_succ_self _) (.int .i64 q))
        have ht2 := Turned.set3 (w := w5.setCell ⟨w2.heap.size, 2, none⟩ (.int .i64 q)) w.heap.size (.int .i64 (1 + x)) (.slice A l.length c) (.int .i64 q)
        have f1 := OwnU.mono ((hL.out.turned ht (.inl (Nat.le_refl _))).turned ht2 (.inr (by omega))).1 (show w.heap.size ≤ w1.heap.size by omega)
        have f2 := only_turned (only_turned ho.out ht (by omega)) ht2 (by omega)
        have f3 := ((hr5.turned ht (by omega)).turned ht2 (by omega)).more (show P + 1 + 55 + 1 + 1 + 1 ≤ P + 60 by omega)
        first
          | (with_reducible exact drewN_mk hl hx1 hx2 hq1 hq2 f1 f2 f3)
          | (with_reducible exact drewN_mk hl hx1 hx2 hq1 hq2 (f1.ext (ext_alloc (ext_refl _) _)) (only_alloc f2 _) (f3.ext (ext_alloc (ext_refl _) _)))
    · have y1' : (y == 1) = false := by simpa using y1
      try clear hN_0 hN_1 hN_2 hN_lt hN_f0 hN_f1 hN_f2
      obtain ⟨hN_0, hN_1, hN_2, hN_lt, hN_f0, hN_f1, hN_f2⟩ := hN.out.at3f
      try clear hR_0 hR_1 hR_2 hR_lt hR_f0 hR_f1 hR_f2
      obtain ⟨hR_0, hR_1, hR_2, hR_lt, hR_f0, hR_f1, hR_f2⟩ := hR.out.at3f
      have ne1 : ¬ w.heap.size = w2.heap.size := by omega
      have ne2 : ¬ w2.heap.size = w.heap.size := by omega
      go_wp2_with fail
      refine bodyPost_ret (v := .agg #[.int .i64 (1 + x), .slice A l.length c, .int .i64 j]) (by simp [results, Tryd.results35, go_sem, hR_0, hR_1, hR_2, ne1, ne2]) rfl ?_
      have ht2 := Turned.set3 (w := w4) w.heap.size (.int .i64 (1 + x)) (.slice A l.length c) (.int .i64 j)
      exact ⟨A, c, 1 + x, j, l, rfl, hl, by omega, by omega, by omega, by omega, OwnU.mono (hL.out.turned ht2 (.inr (by omega))).1 (by omega), only_turned ho.out ht2 (by omega), (hr4.turned ht2 (by omega)).more (by omega)⟩
end Go.Proofs.YtjheeeilcfbdbaaDoor
