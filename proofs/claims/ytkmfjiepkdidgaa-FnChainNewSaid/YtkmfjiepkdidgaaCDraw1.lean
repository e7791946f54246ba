/-
  Contracts: drawing the ids of a new chain.
-/
import Derived.Test.YtkmfjiepkdidgaaDraw5
import Derived.Test.YtkmfjiepkdidgaaDraw6
set_option linter.all false
set_option maxRecDepth 100000
namespace Go.Proofs.Ytkmfjiepkdidgaa
open Go.RowKit

/-- A row of numbers has been drawn. -/
def GotIds (w : World) (e : Ending) (w' : World) : Prop :=
  ∃ (A : Option Addr) (c : Nat) (l : List Int), e = .returned (.slice A l.length c) ∧ l.length ≤ 6 ∧ l.length ≤ c ∧ c ≤ maxLen ∧ Hid (IntsR w' A l) ∧ Ext w w'
set_option maxHeartbeats 1600000 in
theorem drawChainNew_any {A : Option Addr} {n c : Nat} {w : World} (h : CodeR w A n c) : Calls Try.prog 34 #[.slice A n c] w (GotIds w) := by
  obtain ⟨i0, hi, hz0, hz1, hz2⟩ := info_parts infoI
  go_enter Try.func34, Try.ntmps34
  go_wp2_with fail
  refine (l6Open_any h).mono ?_
  rintro e w1 ⟨rfl, hE, hr⟩
  have hlt := hr.lt
  have hE := hide hE
  go_wp2_with fail
  refine (pick_any 7 (hr.ext (ext_alloc (ext_refl _) (.cells #[] 3))) (by omega)).mono ?_
  rintro e w2 ⟨m, rfl, hm, -, hg2, hr2⟩
  obtain ⟨hm0, hm7⟩ := hm (by omega)
  obtain ⟨mn, rfl⟩ := Int.eq_ofNat_of_zero_le hm0
  have hst := hide (show IntsTo w1 w.heap.size 1 (.slice (some ⟨w1.heap.size, 0, none⟩) 0 0) 0 w2 from
    ⟨[], rfl, own_keep (World.ownsRow_made (base := w1.heap.size) (e := 3) (size := 1) w1 #[] 0 (Nat.le_refl _) (by simp [maxLen]) rfl) hg2 hlt, only_pick (only_alloc (World.grownBy.refl w1 (some w.heap.size)) _) hg2, hr2⟩)
  clear hm hg2 hr2 hr
  go_wp2_with fail
  go_loopw [4, 6] (fun v i wr => ∃ k : Nat, k ≤ mn ∧ i = .int .i64 k ∧ Hid (IntsTo w1 w.heap.size 1 v k wr)) (fun _ i _ => mn - (intOf i).toNat)
  case atStart => exact ⟨0, Nat.zero_le _, rfl, hst⟩
  case round =>
    obtain ⟨k, hk, rfl, hR⟩ := hrel
    obtain ⟨l, hl, hown, ho, hr⟩ := hR.out
    have hown := hide hown
    have ho := hide ho
    have hl := hide hl
    have hrr := hide hr
    have hsw := ho.out.size
    clear hR hr
    by_cases hlt' : k < mn
    · go_wp2_with fail
      refine (pick_any 12 hrr.out (by omega)).mono ?_
      rintro e wa ⟨x, rfl, hx, -, hga, hra⟩
      have hx' := hx (by omega)
      have hownA := hide (own_keep hown.out hga hlt)
      have hga := hide hga
      have hsa := hga.out.size
      clear hx
      go_wp2_with fail
      refine (pick_any 30 hra (by omega)).mono ?_
      rintro e wb ⟨y, rfl, hy, -, hgb, hrb⟩
      have hy' := hy (by omega)
      obtain ⟨yn, rfl⟩ := Int.eq_ofNat_of_zero_le hy'.1
      have hownB := hide (own_keep hownA.out hgb hlt)
      have hgb := hide (only_pick hga.out hgb)
      have hsb := hgb.out.size
      have hrb := hide hrb
      clear hy hownA hga hra hrr
      have hq1 : IntKind.i64.wrap ((yn : Int) / 29 * 12) = (yn : Int) / 29 * 12 := IntWalk.i64_in _ (by omega)
      have hq2 : IntKind.i64.wrap (1 + x - (yn : Int) / 29 * 12) = 1 + x - (yn : Int) / 29 * 12 := IntWalk.i64_in _ (by omega)
      obtain ⟨q, hq⟩ : ∃ q : Int, 1 + x - (yn : Int) / 29 * 12 = q := ⟨_, rfl⟩
      rw [hq] at hq2
      go_wp2_with (at_builtin; refine wpList_append_own _ rfl _ _ 33 rfl w1.heap.size 3 i0 _ 1 8 Try.underlying33 hi hz0 hz1 hz2 rfl (by decide) _ k _ rfl (hownB.out.alloc _) ⟨wb.heap.size, 0, none⟩ 1 1 [.int .i64 q] rfl rfl ?c1 ?c2 ?c3 ?c4 ?c5 ?_)
      case c1 =>
        intro j u hj
        match j, hj with
        | 0, hj => simp at hj; subst hj; simp [Addr.add]
      case c2 => intro u hu; simp at hu; rcases hu with rfl; rfl
      case c3 => unfold maxLen; omega
      case c4 => omega
      case c5 => simp; omega
      intro v' w' hown' hgrow _
      have hst' := hide (intsTo_step hl.out hown.out ho.out hlt hgb.out hrb.out hown' hgrow)
      clear hown' hgrow hownB hgb hrb hown ho hl
      go_wp2
      go_roundw
      case rel => exact ⟨k + 1, by omega, by go_num, hst'⟩
      case measure => simp [intOf]; omega
    · obtain rfl : k = mn := by omega
      have fin : Hid (∃ A c l, u4 = .slice A (List.length l) c ∧ l.length ≤ 6 ∧ l.length ≤ c ∧ c ≤ maxLen ∧ IntsR wr A l) := hide (by
        obtain ⟨A', c', h0, h1, h2⟩ := own_form hown.out
        have h3 := hl.out
        subst h3
        subst h0
        exact ⟨A', c', l, rfl, by omega, h1, h2, CellsR.of_own hown.out⟩)
      have hE' := hide (ext_open hE.out ho.out)
      clear hown ho hl hrr
      obtain ⟨A3, c3, l3, rfl, f1, f2, f3, f4⟩ := fin.out
      replace f4 := hide f4
      clear fin
      go_wp2_with fail
      go_ret
      exact ⟨A3, c3, l3, rfl, f1, f2, f3, f4, hE'.out⟩
end Go.Proofs.Ytkmfjiepkdidgaa
