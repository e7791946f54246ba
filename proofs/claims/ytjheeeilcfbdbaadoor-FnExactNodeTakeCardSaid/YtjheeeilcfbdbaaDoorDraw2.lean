/-
  Contracts: drawing logs.
-/
import Derived.Test.YtjheeeilcfbdbaaDoorDraw1
set_option linter.all false
set_option maxRecDepth 100000
namespace Go.Proofs.YtjheeeilcfbdbaaDoor
open Go.RowKit

theorem infoU : (Tryd.prog.info? 27).map (fun i => (i.zero, i.size, i.bytes)) = some (some (.agg #[.int .i64 0, .int .i64 0]), 2, 16) := by kernel_rfl
theorem infoI : (Tryd.prog.info? 3).map (fun i => (i.zero, i.size, i.bytes)) = some (some (.int .i64 0), 1, 8) := by kernel_rfl

theorem RdAt.grown {w w' : World} {g P : Nat} {row : Option Nat} (h : RdAt w g P) (hg : w.grownBy w' row) (hr : ∀ i, row = some i → g < i) : RdAt w' g P := by
  have hl := h.lt
  obtain ⟨A, m, c, p, h0, h1, h2, h3, h4⟩ := h
  exact ⟨A, m, c, p, (hg.block g hl (fun e => by have := hr g e.symm; omega)).trans h0, h1, h2, h3, h4.keep fun k hk => hg.block k (by omega) (fun e => by have := hr k e.symm; omega)⟩

/-- The range of a drawn update. -/
def Near (u : Upd) : Prop := -1 ≤ u.1 ∧ u.1 ≤ 5 ∧ -1 ≤ u.2 ∧ u.2 ≤ 100

/-- What is held at the head of the loop that draws a log. -/
def LogTo (w : World) (g P : Nat) (v : Value) (k : Nat) (wr : World) : Prop :=
  ∃ l : List Upd, l.length = k ∧ (∀ u ∈ l, Near u) ∧ wr.ownsRow w.heap.size 27 2 v k (ucells l) ∧ w.grownBy wr (some g) ∧ RdAt wr g (P + 4 * k)

theorem logTo_step {w w1 w2 : World} {g P k : Nat} {v v' : Value} {l : List Upd} {a b : Int} {o : Obj} {wr : World} (hl : l.length = k) (hn : ∀ u ∈ l, Near u) (hu : Near (a, b)) (hown : wr.ownsRow w.heap.size 27 2 v k (ucells l)) (ho : w.grownBy wr (some g))
    (hg : g < w.heap.size) (hg1 : wr.grownBy w1 (some g)) (hr1 : RdAt w1 g (P + 4 * k + 4))
    (hown' : w2.ownsRow w.heap.size 27 2 v' (k + 1) (ucells l ++ [.int .i64 a, .int .i64 b])) (hgrow : (w1.alloc o).grownBy w2 v.ownBlock) : LogTo w g P v' (k + 1) w2 := by
  have hrow : ∀ i, v.ownBlock = some i → w.heap.size ≤ i := fun i hi => (hown.lt i hi).1
  refine ⟨l ++ [(a, b)], by simp [hl], ?_, by rw [ucells_append]; exact hown', only_trans (only_alloc (only_pick ho hg1) o) hgrow fun i hi => .inr (hrow i hi), ?_⟩
  · intro u hm
    simp only [List.mem_append, List.mem_singleton] at hm
    rcases hm with hm | rfl
    · exact hn u hm
    · exact hu
  · exact ((hr1.ext (ext_alloc (ext_refl _) o)).grown hgrow fun i hi => by have := hrow i hi; omega).more (by omega)

/-- What a drawn log leaves. -/
def DrewL (w : World) (g P : Nat) (e : Ending) (w' : World) : Prop :=
  ∃ (A : Option Addr) (c : Nat) (l : List Upd), e = .returned (.slice A l.length c) ∧ l.length ≤ 13 ∧ (∀ u ∈ l, Near u) ∧ w'.ownsRow w.heap.size 27 2 (.slice A l.length c) l.length (ucells l) ∧ w.grownBy w' (some g) ∧ RdAt w' g (P + 55)

theorem own_form {w : World} {base : Nat} {e : TypeId} {size n : Nat} {v : Value} {xs : List Value} (h : w.ownsRow base e size v n xs) : ∃ A c, v = .slice A n c ∧ n ≤ c ∧ c ≤ maxLen := by
  rcases h.2 with ⟨rfl, rfl⟩ | ⟨g, cap, cur, rfl, _, _, h1, h2, _⟩
  · exact ⟨none, 0, rfl, Nat.le_refl _, by simp [maxLen]⟩
  · exact ⟨_, _, rfl, h1, h2⟩

set_option maxRecDepth 100000 in
/-- The loop, whatever number it goes to. -/
theorem l91Log_any {w : World} {g P : Nat} (h : RdAt w g P) (hP : P ≤ 268435456) : Calls Tryd.prog 66 #[.pointer (some ⟨g, 0, none⟩)] w (DrewL w g P) := by
  have hlt := h.lt
  obtain ⟨i0, hi, hz0, hz1, hz2⟩ := info_parts infoU
  go_enter Tryd.func66, Tryd.ntmps66
  go_wp2_with fail
  refine (pick_any 7 (h.ext (ext_alloc (ext_refl _) _)) (by omega)).mono ?_
  rintro e w1 ⟨x, rfl, hx, -, hg1, hr1⟩
  have hx' := hx (by omega)
  clear hx
  have how1 := hide ((World.ownsRow_made (base := w.heap.size) (e := 27) (size := 2) w #[] 0 (Nat.le_refl _) (by simp [maxLen]) rfl).kept hg1 (.inr (by simp [Value.ownBlock]; omega)))
  have ho1 := hide (only_pick (only_alloc (World.grownBy.refl w (some g)) _) hg1)
  have hs1 := hg1.size
  simp at hs1
  clear hg1
  go_wp2_with fail
  refine (pick_any 16 hr1 (by omega)).mono ?_
  rintro e w2 ⟨y, rfl, hy, -, hg2, hr2⟩
  have hy' := hy (by omega)
  clear hy hr1
  have how2 := hide (how1.out.kept hg2 (.inr (by simp [Value.ownBlock]; omega)))
  have ho2 := hide (only_pick ho1.out hg2)
  have hs2 := hg2.size
  clear hg2 how1 ho1
  by_cases y0 : y = 0
  · subst y0
    go_wp2_with fail
    refine (pick_any 3 hr2 (by omega)).mono ?_
    rintro e w3 ⟨z, rfl, hz, -, hg3, hr3⟩
    have hz' := hz (by omega)
    clear hz hr2
    have how3 := hide (how2.out.kept hg3 (.inr (by simp [Value.ownBlock]; omega)))
    have ho3 := hide (only_pick ho2.out hg3)
    have hs3 := hg3.size
    clear hg3 how2 ho2
    obtain ⟨zn, hzn⟩ := Int.eq_ofNat_of_zero_le hz'.1
    subst hzn
    have hst := hide (show LogTo w g (P + 3) (.slice (some ⟨w.heap.size, 0, none⟩) 0 0) 0 w3 from ⟨[], rfl, by simp, how3.out, ho3.out, hr3⟩)
    clear how3 ho3 hr3
    go_wp2_with fail
    go_loopw [3, 5] (fun v i wr => ∃ k : Nat, k ≤ (11 + zn) ∧ i = .int .i64 k ∧ Hid (LogTo w g (P + 3) v k wr)) (fun _ i _ => (11 + zn) - (intOf i).toNat)
    case atStart => exact ⟨0, Nat.zero_le _, rfl, hst⟩
    case round =>
      obtain ⟨k, hk, rfl, hR⟩ := hrel
      obtain ⟨l, hl, hn, hown, ho, hr⟩ := hR.out
      have hown := hide hown
      have ho := hide ho
      have hn := hide hn
      have hl := hide hl
      have hrr := hide hr
      clear hR hr
      by_cases hlt' : k < (11 + zn)
      · skip
        go_wp2_with fail
        refine (l91Update_any hrr.out (by omega)).mono ?_
        rintro e wa ⟨a, b, rfl, ha1, ha2, hb1, hb2, hga, hra⟩
        have hu : Hid (Near (a, b)) := hide ⟨ha1, ha2, hb1, hb2⟩
        have hga := hide hga
        have hra := hide hra
        have hsa := hga.out.size
        have hsw := ho.out.size
        have hownA := hide (hown.out.kept hga.out (.inr (by intro e; have := (hown.out.lt g e).1; omega)))
        clear hrr
        go_wp2_with (at_builtin; refine wpList_append_own _ rfl _ _ 23 rfl w.heap.size 27 i0 _ 2 16 Tryd.underlying23 hi hz0 hz1 hz2 rfl (by decide) _ k _ rfl (hownA.out.alloc _) ⟨wa.heap.size, 0, none⟩ 1 1 [.int .i64 a, .int .i64 b] rfl rfl ?c1 ?c2 ?c3 ?c4 ?c5 ?_)
        case c1 =>
          intro j u hj
          match j, hj with
          | 0, hj => simp at hj; subst hj; simp [Addr.add]
          | 1, hj => simp at hj; subst hj; simp [Addr.add]
        case c2 => intro u hu; simp at hu; rcases hu with rfl | rfl <;> rfl
        case c3 => unfold maxLen; omega
        case c4 => omega
        case c5 => simp; omega
        intro v' w' hown' hgrow _
        have hst' := hide (logTo_step hl.out hn.out hu.out hown.out ho.out hlt hga.out hra.out hown' hgrow)
        clear hown' hgrow hownA hga hra hown ho hn hl hu
        go_wp2
        go_roundw
        case rel => exact ⟨k + 1, by omega, by go_num, hst'⟩
        case measure => simp [intOf]; omega
      · obtain ⟨A, c, hv, hlc, hcm⟩ := own_form hown.out
        subst hv
        go_wp2
        go_ret
        obtain rfl := hl.out
        exact ⟨A, c, l, rfl, by omega, hn.out, hown.out, ho.out, hrr.out.more (by omega)⟩
  · have y0' : (y == 0) = false := by simpa using y0
    obtain ⟨xn, hxn⟩ := Int.eq_ofNat_of_zero_le hx'.1
    subst hxn
    have hst := hide (show LogTo w g (P + 2) (.slice (some ⟨w.heap.size, 0, none⟩) 0 0) 0 w2 from ⟨[], rfl, by simp, how2.out, ho2.out, hr2⟩)
    clear how2 ho2 hr2
    go_wp2_with fail
    go_loopw [3, 5] (fun v i wr => ∃ k : Nat, k ≤ xn ∧ i = .int .i64 k ∧ Hid (LogTo w g (P + 2) v k wr)) (fun _ i _ => xn - (intOf i).toNat)
    case atStart => exact ⟨0, Nat.zero_le _, rfl, hst⟩
    case round =>
      obtain ⟨k, hk, rfl, hR⟩ := hrel
      obtain ⟨l, hl, hn, hown, ho, hr⟩ := hR.out
      have hown := hide hown
      have ho := hide ho
      have hn := hide hn
      have hl := hide hl
      have hrr := hide hr
      clear hR hr
      by_cases hlt' : k < xn
      · skip
        go_wp2_with fail
        refine (l91Update_any hrr.out (by omega)).mono ?_
        rintro e wa ⟨a, b, rfl, ha1, ha2, hb1, hb2, hga, hra⟩
        have hu : Hid (Near (a, b)) := hide ⟨ha1, ha2, hb1, hb2⟩
        have hga := hide hga
        have hra := hide hra
        have hsa := hga.out.size
        have hsw := ho.out.size
        have hownA := hide (hown.out.kept hga.out (.inr (by intro e; have := (hown.out.lt g e).1; omega)))
        clear hrr
        go_wp2_with (at_builtin; refine wpList_append_own _ rfl _ _ 23 rfl w.heap.size 27 i0 _ 2 16 Tryd.underlying23 hi hz0 hz1 hz2 rfl (by decide) _ k _ rfl (hownA.out.alloc _) ⟨wa.heap.size, 0, none⟩ 1 1 [.int .i64 a, .int .i64 b] rfl rfl ?c1 ?c2 ?c3 ?c4 ?c5 ?_)
        case c1 =>
          intro j u hj
          match j, hj with
          | 0, hj => simp at hj; subst hj; simp [Addr.add]
          | 1, hj => simp at hj; subst hj; simp [Addr.add]
        case c2 => intro u hu; simp at hu; rcases hu with rfl | rfl <;> rfl
        case c3 => unfold maxLen; omega
        case c4 => omega
        case c5 => simp; omega
        intro v' w' hown' hgrow _
        have hst' := hide (logTo_step hl.out hn.out hu.out hown.out ho.out hlt hga.out hra.out hown' hgrow)
        clear hown' hgrow hownA hga hra hown ho hn hl hu
        go_wp2
        go_roundw
        case rel => exact ⟨k + 1, by omega, by go_num, hst'⟩
        case measure => simp [intOf]; omega
      · obtain ⟨A, c, hv, hlc, hcm⟩ := own_form hown.out
        subst hv
        go_wp2
        go_ret
        obtain rfl := hl.out
        exact ⟨A, c, l, rfl, by omega, hn.out, hown.out, ho.out, hrr.out.more (by omega)⟩
end Go.Proofs.YtjheeeilcfbdbaaDoor
