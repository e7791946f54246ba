/-
  Contracts: drawing states.
-/
import Derived.Test.YtfkongkokegjjaaDraw4
set_option linter.all false
namespace Go.Proofs.Ytfkongkokegjjaa
open Go.RowKit

/-- What is held at the head of the loop that draws a state. -/
def IntsTo (w : World) (g P : Nat) (v : Value) (k : Nat) (wr : World) : Prop :=
  ∃ l : List Int, l.length = k ∧ wr.ownsRow w.heap.size 3 1 v k (icells l) ∧ w.grownBy wr (some g) ∧ RdAt wr g (P + 2 * k)

theorem intsTo_step {w w1 w2 : World} {g P k : Nat} {v v' : Value} {l : List Int} {a : Int} {o : Obj} {wr : World} (hl : l.length = k) (hown : wr.ownsRow w.heap.size 3 1 v k (icells l)) (ho : w.grownBy wr (some g))
    (hg : g < w.heap.size) (hg1 : wr.grownBy w1 (some g)) (hr1 : RdAt w1 g (P + 2 * k + 2))
    (hown' : w2.ownsRow w.heap.size 3 1 v' (k + 1) (icells l ++ [.int .i64 a])) (hgrow : (w1.alloc o).grownBy w2 v.ownBlock) : IntsTo w g P v' (k + 1) w2 := by
  have hrow : ∀ i, v.ownBlock = some i → w.heap.size ≤ i := fun i hi => (hown.lt i hi).1
  refine ⟨l ++ [a], by simp [hl], by simpa [icells] using hown', only_trans (only_alloc (only_pick ho hg1) o) hgrow fun i hi => .inr (hrow i hi), ?_⟩
  exact ((hr1.ext (ext_alloc (ext_refl _) o)).grown hgrow fun i hi => by have := hrow i hi; omega).more (by omega)

theorem own_at {w : World} {base : Nat} {e : TypeId} {size n : Nat} {v : Value} {xs : List Value} (h : w.ownsRow base e size v n xs) (hn : 0 < n) : ∃ g c, v = .slice (some ⟨g, 0, none⟩) n c ∧ base ≤ g ∧ g < w.heap.size ∧ n ≤ c ∧ c ≤ maxLen := by
  rcases h.2 with ⟨rfl, rfl⟩ | ⟨g, cap, cur, rfl, hb, hh, h1, h2, _⟩
  · omega
  · exact ⟨g, cap, rfl, hb, (Array.getElem?_eq_some_iff.1 hh).1, h1, h2⟩

/-- What a drawn state leaves. -/
def DrewS (w : World) (g P : Nat) (e : Ending) (w' : World) : Prop :=
  ∃ (A : Option Addr) (c : Nat) (l : List Int), e = .returned (.slice A l.length c) ∧ l.length ≤ 5 ∧ l.length ≤ c ∧ c ≤ maxLen ∧ IntsR w' A l ∧ w.grownBy w' (some g) ∧ RdAt w' g (P + 15) ∧ ∀ b o, A = some ⟨b, o, none⟩ → w.heap.size ≤ b

set_option maxHeartbeats 1000000 in
theorem l91State_any {w : World} {g P : Nat} (h : RdAt w g P) (hP : P ≤ 268435456) : Calls Try.prog 59 #[.pointer (some ⟨g, 0, none⟩)] w (DrewS w g P) := by
  have hlt := h.lt
  obtain ⟨i0, hi, hz0, hz1, hz2⟩ := info_parts infoI
  have hst := hide (show IntsTo w g P (.slice (some ⟨w.heap.size, 0, none⟩) 0 0) 0 (w.alloc (.cells #[] 3)) from
    ⟨[], rfl, World.ownsRow_made (base := w.heap.size) (e := 3) (size := 1) w #[] 0 (Nat.le_refl _) (by simp [maxLen]) rfl, only_alloc (World.grownBy.refl w (some g)) _, h.ext (ext_alloc (ext_refl _) _)⟩)
  go_enter Try.func59, Try.ntmps59
  go_wp2_with fail
  go_loopw [3, 4] (fun v i wr => ∃ k : Nat, k ≤ 5 ∧ i = .int .i64 k ∧ Hid (IntsTo w g P v k wr)) (fun _ i _ => 5 - (intOf i).toNat)
  case atStart => exact ⟨0, Nat.zero_le _, rfl, hst⟩
  case round =>
    obtain ⟨k, hk, rfl, hR⟩ := hrel
    obtain ⟨l, hl, hown, ho, hr⟩ := hR.out
    have hown := hide hown
    have ho := hide ho
    have hl := hide hl
    have hrr := hide hr
    have hsw := ho.out.size
    clear hR hr
    by_cases hlt' : k < 5
    · go_wp2_with fail
      refine (pick_any 100 hrr.out (by omega)).mono ?_
      rintro e wa ⟨x, rfl, hx, -, hga, hra⟩
      have hx' := hx (by omega)
      have hownA := hide (own_keep hown.out hga hlt)
      have hga := hide hga
      have hsa := hga.out.size
      clear hx
      go_wp2_with fail
      refine (pick_any 2 (hra.ext (ext_alloc (ext_refl _) _)) (by omega)).mono ?_
      rintro e wb ⟨j, rfl, hj, -, hgb, hrb⟩
      obtain ⟨hj0, hj3⟩ := hj (by omega)
      have hlb := hide ((Blk.new wa 3 #[.int .i64 (-1), .int .i64 x]).grown hgb (by simp; omega))
      have hownB := hide (own_keep (hownA.out.alloc (.cells #[.int .i64 (-1), .int .i64 x] 3)) hgb hlt)
      have hgb := hide (only_pick (only_alloc hga.out (.cells #[.int .i64 (-1), .int .i64 x] 3)) hgb)
      have hsb := hgb.out.size
      have hrb := hide hrb
      clear hj hownA hga hra hrr
      obtain ⟨i, hi'⟩ := Int.eq_ofNat_of_zero_le hj0
      subst hi'
      obtain ⟨q, hq3⟩ : ∃ q : Int, wb.cell? ⟨wa.heap.size, i, none⟩ = some (.int .i64 q) := by
        have := hlb.out.cell i
        rcases (show i = 0 ∨ i = 1 from by omega) with rfl | rfl
        · exact ⟨-1, by simpa using this⟩
        · exact ⟨x, by simpa using this⟩
      go_wp2_with (at_builtin; refine wpList_append_own _ rfl _ _ 26 rfl w.heap.size 3 i0 _ 1 8 Try.underlying26 hi hz0 hz1 hz2 rfl (by decide) _ k _ rfl (hownB.out.alloc _) ⟨wb.heap.size, 0, none⟩ 1 1 [.int .i64 q] rfl rfl ?c1 ?c2 ?c3 ?c4 ?c5 ?_)
      case c1 =>
        intro j u hj
        match j, hj with
        | 0, hj => simp at hj; subst hj; simp [Addr.add]
      case c2 => intro u hu; simp at hu; rcases hu with rfl; rfl
      case c3 => unfold maxLen; omega
      case c4 => omega
      case c5 => simp; omega
      intro v' w' hown' hgrow _
      have hst' := hide (intsTo_step hl.out hown.out ho.out hlt hgb.out hrb.out hown' hgrow)
      clear hown' hgrow hownB hgb hrb hown ho hl hlb
      go_wp2
      go_roundw
      case rel => exact ⟨k + 1, by omega, by go_num, hst'⟩
      case measure => simp [intOf]; omega
    · obtain rfl : k = 5 := by omega
      obtain ⟨ga, c, hv, hga, hgl, hlc, hcm⟩ := own_at hown.out (by omega)
      subst hv
      have hcm' := hcm
      unfold maxLen at hcm'
      have hgaw := hide hga
      have fin : Hid (∀ w' n, n ≤ 5 → wr.grownBy w' (some g) → RdAt w' g (P + 15) → ∃ l' : List Int, l'.length = n ∧ DrewS w g P (.returned (.slice (some ⟨ga, 0, none⟩) n c)) w') := hide (by
        intro w' n hn hgw hrw
        have hlen : (l.take n).length = n := by rw [List.length_take, hl.out]; omega
        refine ⟨l.take n, hlen, some ⟨ga, 0, none⟩, c, l.take n, by rw [hlen], by omega, by omega, hcm, ?_, only_pick ho.out hgw, hrw, fun b o e => by cases e; exact hgaw.out⟩
        have := CellsR.take (CellsR.of_own (own_keep hown.out hgw hlt)) n
        unfold IntsR icells
        rw [List.map_take]
        exact this)
      go_wp2_with fail
      refine (pick_any 30 hrr.out (by omega)).mono ?_
      rintro e wa ⟨x, rfl, hx, -, hga, hra⟩
      have hx' := hx (by omega)
      have hga := hide hga
      clear hx
      by_cases x0 : x = 0
      · subst x0
        go_wp2_with fail
        refine (pick_any 5 hra (by omega)).mono ?_
        rintro e wb ⟨y, rfl, hy, -, hgb, hrb⟩
        obtain ⟨hy0, hy5⟩ := hy (by omega)
        obtain ⟨yn, hyn⟩ := Int.eq_ofNat_of_zero_le hy0
        subst hyn
        have hgb := hide (only_pick hga.out hgb)
        have hsb := hgb.out.size
        clear hy hra hga
        go_wp2_with fail
        refine (pick_any 2 (hrb.ext (ext_alloc (ext_refl _) _)) (by omega)).mono ?_
        rintro e wc ⟨j, rfl, hj, -, hgc, hrc⟩
        obtain ⟨hj0, hj3⟩ := hj (by omega)
        obtain ⟨jn, hjn⟩ := Int.eq_ofNat_of_zero_le hj0
        subst hjn
        have hlc' := hide ((Blk.new wb 3 #[.int .i64 (-2), .int .i64 100]).grown hgc (by simp; omega))
        have hgc := hide (only_pick (only_alloc hgb.out (.cells #[.int .i64 (-2), .int .i64 100] 3)) hgc)
        clear hj hrb hgb
        have hownC := hide (own_keep hown.out hgc.out hlt)
        obtain ⟨q, hq3⟩ : ∃ q : Int, wc.cell? ⟨wb.heap.size, jn, none⟩ = some (.int .i64 q) := by
          have := hlc'.out.cell jn
          rcases (show jn = 0 ∨ jn = 1 from by omega) with rfl | rfl
          · exact ⟨-2, by simpa using this⟩
          · exact ⟨100, by simpa using this⟩
        have ca0 : ∃ u, wc.cell? ⟨ga, yn, none⟩ = some u := by
          rw [hownC.out.cellAt yn (by omega)]
          exact ⟨_, List.getElem?_eq_getElem (by have := hownC.out.1; omega)⟩
        obtain ⟨u0, ca0⟩ := ca0
        have fa0 := hownC.out.frozenAt yn
        go_wp2_with fail
        go_ret
        have h1 := hownC.out.stored yn (.int .i64 q)
        have hlen : (l.set yn q).length = 5 := by rw [List.length_set]; exact hl.out
        refine ⟨some ⟨ga, 0, none⟩, c, l.set yn q, by rw [hlen]; rfl, by omega, by omega, hcm, ?_, only_setCell (only_pick ho.out hgc.out) (.inr hgaw.out) _, (hrc.setCell (by show g < ga; have := hgaw.out; omega) _).more (by omega), fun b o e => by cases e; exact hgaw.out⟩
        have := CellsR.of_own h1.1
        unfold IntsR icells
        rw [List.map_set]
        exact this
      · have x0' : (x == 0) = false := by simpa using x0
        by_cases x1 : x = 1
        · subst x1
          go_wp2_with fail
          go_ret
          obtain ⟨l', _, hd⟩ := fin.out wa 4 (by omega) hga.out (hra.more (by omega))
          exact hd
        · have x1' : (x == 1) = false := by simpa using x1
          go_wp2_with fail
          go_ret
          obtain ⟨l', _, hd⟩ := fin.out wa 5 (by omega) hga.out (hra.more (by omega))
          exact hd

end Go.Proofs.Ytfkongkokegjjaa
