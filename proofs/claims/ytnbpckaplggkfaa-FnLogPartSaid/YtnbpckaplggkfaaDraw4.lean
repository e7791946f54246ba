/-
  Contracts: the draws of the laws on updates and logs.
-/
import Derived.Test.YtnbpckaplggkfaaDraw3
set_option linter.all false
namespace Go.Proofs.Ytnbpckaplggkfaa
open Go.RowKit

/-- A code that came in: a row of bytes. -/
def CodeR (w : World) (A : Option Addr) (n c : Nat) : Prop := n ≤ c ∧ c ≤ maxLen ∧ BytesR w w.heap.size A n

theorem CodeR.alloc {w : World} {A : Option Addr} {n c : Nat} (h : CodeR w A n c) (o : Obj) : CodeR (w.alloc o) A n c := by
  obtain ⟨h1, h2, h3⟩ := h
  refine ⟨h1, h2, fun hn => ?_⟩
  obtain ⟨b, o', hA, hb, hc⟩ := h3 hn
  refine ⟨b, o', hA, by simp; omega, fun i hi => ?_⟩
  obtain ⟨x, hx, hx', hcx⟩ := hc i hi
  exact ⟨x, hx, hx', ext_cell (ext_alloc (ext_refl w) o) hcx⟩

theorem l6Open_any {A : Option Addr} {n c : Nat} {w : World} (h : CodeR w A n c) :
    Calls Try.prog 38 #[.slice A n c] w fun e w' => e = .returned (.pointer (some ⟨w.heap.size, 0, none⟩)) ∧ Ext w w' ∧ RdAt w' w.heap.size 0 := by
  obtain ⟨hnc, hc, hB⟩ := h
  by_cases hn : n ≤ 2000
  · refine (open_lo A n c w hn).mono ?_
    rintro e w' ⟨he, hE, hb⟩
    exact ⟨he, hE, A, n, c, 0, hb, by omega, by omega, hn, hB.keep hE.block⟩
  · refine (open_hi A n c w (by omega) hnc hc (by omega)).mono ?_
    rintro e w' ⟨he, hE, hb⟩
    refine ⟨he, hE, A, 2000, c, 0, hb, by omega, by omega, by omega, BytesR.keep (fun _ => ?_) hE.block⟩
    obtain ⟨b, o, h1, h2, h3⟩ := hB (by omega)
    exact ⟨b, o, h1, h2, fun i hi => h3 i (by omega)⟩

theorem ext_open {w w1 w' : World} (hE : Ext w w1) (hg : w1.grownBy w' (some w.heap.size)) : Ext w w' :=
  ext_of_only (only_pick (only_of_ext hE _) hg) (Nat.le_refl _)

/-- A log has been drawn. -/
def GotLog (w : World) (e : Ending) (w' : World) : Prop :=
  ∃ (A : Option Addr) (c : Nat) (l : List Upd), e = .returned (.slice A l.length c) ∧ l.length ≤ 13 ∧ l.length ≤ c ∧ c ≤ maxLen ∧ LogR w' A l ∧ Ext w w'
def GotTwo (w : World) (e : Ending) (w' : World) : Prop :=
  ∃ (A : Option Addr) (c : Nat) (l : List Upd) (B : Option Addr) (d : Nat) (m : List Upd), e = .returned (.tuple #[.slice A l.length c, .slice B m.length d]) ∧ l.length ≤ 13 ∧ m.length ≤ 13 ∧
    l.length ≤ c ∧ c ≤ maxLen ∧ m.length ≤ d ∧ d ≤ maxLen ∧ LogR w' A l ∧ LogR w' B m ∧ Ext w w'
def GotUpd (w : World) (e : Ending) (w' : World) : Prop :=
  ∃ k v : Int, e = .returned (.agg #[.int .i64 k, .int .i64 v]) ∧ -1 ≤ k ∧ k ≤ 8 ∧ -1 ≤ v ∧ v ≤ 100 ∧ Ext w w'

theorem gotLog_of {w w1 w' : World} {P : Nat} {e : Ending} (hE : Ext w w1) (h : DrewL w1 w.heap.size P e w') : GotLog w e w' := by
  obtain ⟨A, c, l, he, hl, hn, hown, ho, hr⟩ := h
  obtain ⟨A', c', hv, h1, h2⟩ := own_form hown
  injection hv with _ _ hc
  subst hc
  exact ⟨A, c, l, he, hl, h1, h2, CellsR.of_own hown, ext_open hE ho⟩

theorem drawLogValid_any {A : Option Addr} {n c : Nat} {w : World} (h : CodeR w A n c) : Calls Try.prog 29 #[.slice A n c] w (GotLog w) := by
  go_enter Try.func29, Try.ntmps29
  go_wp2_with fail
  refine (l6Open_any h).mono ?_
  rintro e w1 ⟨rfl, hE, hr⟩
  have hE := hide hE
  go_wp2_with fail
  refine (l91Log_any hr (by omega)).mono ?_
  intro e w2 hd
  have hd := hide (gotLog_of hE.out hd)
  obtain ⟨A2, c2, l, rfl, hl, h1, h2, h3, h4⟩ := hd.out
  have h3 := hide h3
  go_wp2_with fail
  go_ret
  exact ⟨A2, c2, l, rfl, hl, h1, h2, h3.out, h4⟩

theorem drawLogBegins_any {A : Option Addr} {n c : Nat} {w : World} (h : CodeR w A n c) : Calls Try.prog 35 #[.slice A n c] w (GotTwo w) := by
  go_enter Try.func35, Try.ntmps35
  go_wp2_with fail
  refine (l6Open_any h).mono ?_
  rintro e w1 ⟨rfl, hE, hr⟩
  have hE := hide hE
  go_wp2_with fail
  refine (l91Two_any hr (by omega)).mono ?_
  rintro e w2 ⟨A2, c2, l, B2, d2, m, rfl, hl, hm, h1, h2, h3, h4, h5, h6, ho, hr2⟩
  have h5 := hide h5
  have h6 := hide h6
  have ho := hide ho
  clear hr2 hr
  go_wp2_with fail
  go_ret2
  exact ⟨A2, c2, l, B2, d2, m, rfl, hl, hm, h1, h2, h3, h4, h5.out, h6.out, ext_open hE.out ho.out⟩

theorem drawLogCommon_any {A : Option Addr} {n c : Nat} {w : World} (h : CodeR w A n c) : Calls Try.prog 34 #[.slice A n c] w (GotTwo w) := by
  go_enter Try.func34, Try.ntmps34
  go_wp2_with fail
  refine (l6Open_any h).mono ?_
  rintro e w1 ⟨rfl, hE, hr⟩
  have hE := hide hE
  go_wp2_with fail
  refine (l91Two_any hr (by omega)).mono ?_
  rintro e w2 ⟨A2, c2, l, B2, d2, m, rfl, hl, hm, h1, h2, h3, h4, h5, h6, ho, hr2⟩
  have h5 := hide h5
  have h6 := hide h6
  have ho := hide ho
  clear hr2 hr
  go_wp2_with fail
  go_ret2
  exact ⟨A2, c2, l, B2, d2, m, rfl, hl, hm, h1, h2, h3, h4, h5.out, h6.out, ext_open hE.out ho.out⟩

theorem drawUpdateValid_any {A : Option Addr} {n c : Nat} {w : World} (h : CodeR w A n c) : Calls Try.prog 22 #[.slice A n c] w (GotUpd w) := by
  go_enter Try.func22, Try.ntmps22
  go_wp2_with fail
  refine (l6Open_any (h.alloc _)).mono ?_
  rintro e w1 ⟨rfl, hE, hr⟩
  simp only [World.size_alloc] at hE hr ⊢
  have hb1 := hide ((Blk.new w 26 #[.int .i64 0, .int .i64 0]).ext (by exact hE))
  have hE := hide (ext_trans (ext_alloc (ext_refl w) _) hE)
  go_wp2_with fail
  refine (pick_any 3 hr (by omega)).mono ?_
  rintro e w2 ⟨x, rfl, hx, -, hg2, hr2⟩
  have hx' := hx (by omega)
  clear hx hr
  have hb2 := hide (hb1.out.grown hg2 (by simp))
  have ho2 := hide hg2
  have hs2 := hg2.size
  have hs1 := hE.out.size
  have hl2 := hb2.out.lt
  have hgl := hr2.lt
  clear hg2 hb1
  by_cases x0 : x = 0
  · subst x0
    go_wp2_with fail
    refine (pick_any 8 hr2 (by omega)).mono ?_
    rintro e w3 ⟨y, rfl, hy, -, hg3, hr3⟩
    have hy' := hy (by omega)
    clear hy hr2
    have hb3 := hide (hb2.out.grown hg3 (by simp))
    have ho3 := hide (only_pick ho2.out hg3)
    have hs3 := hg3.size
    clear hg3 hb2 ho2
    go_wp2_with fail
    refine (pick_any 4 (hr3.ext (ext_alloc (ext_refl _) _)) (by omega)).mono ?_
    rintro e w4 ⟨j, rfl, hj, -, hg4, hr4⟩
    obtain ⟨hj0, hj3⟩ := hj (by omega)
    have hl4 := hide ((Blk.new w3 3 #[.int .i64 (-1), .int .i64 0, .int .i64 99, .int .i64 100]).grown hg4 (by simp; omega))
    have hb4 := hide ((hb3.out.alloc (.cells #[.int .i64 (-1), .int .i64 0, .int .i64 99, .int .i64 100] 3)).grown hg4 (by simp))
    have ho4 := hide (only_pick (only_alloc ho3.out _) hg4)
    clear hj hg4 hb3 ho3 hr3 hr4
    have cb0 : w4.cell? ⟨w.heap.size, 0, none⟩ = some (.int .i64 0) := by simpa using hb4.out.cell 0
    have cb1 : w4.cell? ⟨w.heap.size, 1, none⟩ = some (.int .i64 0) := by simpa using hb4.out.cell 1
    have fb0 := hb4.out.frozen 0
    have fb1 := hb4.out.frozen 1
    obtain ⟨i, hi⟩ := Int.eq_ofNat_of_zero_le hj0
    subst hi
    obtain ⟨q, hq1, hq2, hq3⟩ : ∃ q : Int, -1 ≤ q ∧ q ≤ 100 ∧ w4.cell? ⟨w3.heap.size, i, none⟩ = some (.int .i64 q) := by
      have := hl4.out.cell i
      rcases (show i = 0 ∨ i = 1 ∨ i = 2 ∨ i = 3 from by omega) with rfl | rfl | rfl | rfl
      · exact ⟨-1, by omega, by omega, by simpa using this⟩
      · exact ⟨0, by omega, by omega, by simpa using this⟩
      · exact ⟨99, by omega, by omega, by simpa using this⟩
      · exact ⟨100, by omega, by omega, by simpa using this⟩
    go_wp2_with fail
    refine bodyPost_ret (v := .agg #[.int .i64 (y - 1), .int .i64 q]) (by simp [results, Try.results22, go_sem, cb0, cb1]) rfl ?_
    refine ⟨y - 1, q, rfl, by omega, by omega, hq1, hq2, ?_⟩
    exact ext_of_only (g := w.heap.size) (only_setCell (only_setCell (only_trans (only_of_ext hE.out (some w.heap.size)) ho4.out (by intro i e; injection e with e; omega)) (.inl rfl) _) (.inl rfl) _) (Nat.le_refl _)
  · have x0' : (x == 0) = false := by simpa using x0
    go_wp2_with fail
    refine (l91Update_any hr2 (by omega)).mono ?_
    rintro e w4 ⟨a, b, rfl, ha1, ha2, hc1, hc2, hg4, hr4⟩
    have hb4 := hide (hb2.out.grown hg4 (by simp))
    have ho4 := hide (only_pick ho2.out hg4)
    clear hg4 hb2 ho2 hr2 hr4
    have cb0 : w4.cell? ⟨w.heap.size, 0, none⟩ = some (.int .i64 0) := by simpa using hb4.out.cell 0
    have cb1 : w4.cell? ⟨w.heap.size, 1, none⟩ = some (.int .i64 0) := by simpa using hb4.out.cell 1
    have fb0 := hb4.out.frozen 0
    have fb1 := hb4.out.frozen 1
    go_wp2_with fail
    refine bodyPost_ret (v := .agg #[.int .i64 a, .int .i64 b]) (by simp [results, Try.results22, go_sem, cb0, cb1]) rfl ?_
    refine ⟨a, b, rfl, ha1, by omega, hc1, hc2, ?_⟩
    exact ext_of_only (g := w.heap.size) (only_setCell (only_setCell (only_trans (only_of_ext hE.out (some w.heap.size)) ho4.out (by intro i e; injection e with e; omega)) (.inl rfl) _) (.inl rfl) _) (Nat.le_refl _)
end Go.Proofs.Ytnbpckaplggkfaa
