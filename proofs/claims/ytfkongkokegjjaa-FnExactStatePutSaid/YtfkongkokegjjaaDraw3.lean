/-
  Contracts: drawing two logs.
-/
import Derived.Test.YtfkongkokegjjaaDraw2
import Derived.Test.YtfkongkokegjjaaApp
set_option linter.all false
namespace Go.Proofs.Ytfkongkokegjjaa
open Go.RowKit

/-- What two drawn logs leave. -/
def DrewTwo (w : World) (g P : Nat) (e : Ending) (w' : World) : Prop :=
  ∃ (A : Option Addr) (c : Nat) (l : List Upd) (B : Option Addr) (d : Nat) (m : List Upd), e = .returned (.tuple #[.slice A l.length c, .slice B m.length d]) ∧ l.length ≤ 13 ∧ m.length ≤ 13 ∧
    l.length ≤ c ∧ c ≤ maxLen ∧ m.length ≤ d ∧ d ≤ maxLen ∧ LogR w' A l ∧ LogR w' B m ∧ w.grownBy w' (some g) ∧ RdAt w' g (P + 70)

theorem own_keep {w w' : World} {base : Nat} {e : TypeId} {size n : Nat} {v : Value} {xs : List Value} {g : Nat} (h : w.ownsRow base e size v n xs) (hg : w.grownBy w' (some g)) (hb : g < base) : w'.ownsRow base e size v n xs :=
  h.kept hg (.inr (by intro e; have := (h.lt g e).1; omega))

theorem l91Two_any {w : World} {g P : Nat} (h : RdAt w g P) (hP : P ≤ 134217728) : Calls Try.prog 51 #[.pointer (some ⟨g, 0, none⟩)] w (DrewTwo w g P) := by
  have hlt := h.lt
  obtain ⟨i0, hi, hz0, hz1, hz2⟩ := info_parts infoU
  go_enter Try.func51, Try.ntmps51
  go_wp2_with fail
  refine (l91Log_any h (by omega)).mono ?_
  rintro e w1 ⟨A, c, l, rfl, hl, hnear, hown, ho, hr⟩
  have hf := hide (fun k hk => (hown.lt k hk).2)
  obtain ⟨hlc, hcm⟩ : l.length ≤ c ∧ c ≤ maxLen := by
    obtain ⟨A', c', hv, h1, h2⟩ := own_form hown
    injection hv with _ _ hc
    subst hc
    exact ⟨h1, h2⟩
  have hcm' := hcm
  unfold maxLen at hcm'
  have hnear := hide hnear
  have hs1 := ho.size
  have how1 := hide (hown.alloc (.cells #[] 31))
  have hoe1 := hide (World.ownsRow_made (base := w.heap.size) (e := 31) (size := 2) w1 #[] 0 hs1 (by simp [maxLen]) rfl)
  have ho1 := hide (only_alloc ho (.cells #[] 31))
  clear hown ho
  go_wp2_with fail
  refine (pick_any ((l.length : Int) + 1) (hr.ext (ext_alloc (ext_refl _) _)) (by omega)).mono ?_
  rintro e w2 ⟨x, rfl, hx, -, hg2, hr2⟩
  obtain ⟨hx0, hx1⟩ := hx (by omega)
  obtain ⟨k, hk⟩ := Int.eq_ofNat_of_zero_le hx0
  subst hk
  clear hx hr
  have how2 := hide (own_keep how1.out hg2 hlt)
  have hoe2 := hide (own_keep hoe1.out hg2 hlt)
  have ho2 := hide (only_pick ho1.out hg2)
  have hs2 := hg2.size
  simp at hs2
  clear hg2 how1 hoe1 ho1
  have hcs := hide (CellsR.take (CellsR.of_own how2.out) (k * 2))
  have hln := hide (show ((ucells l).take (k * 2)).length = k * 2 by rw [ucells_take, ucells_len, List.length_take]; congr 1; omega)
  go_wp2_with (at_builtin; refine wpList_append_cells _ rfl _ _ 23 rfl w.heap.size 31 i0 _ 2 16 Try.underlying23 hi hz0 hz1 hz2 rfl (by decide) _ 0 _ rfl hoe2.out A k c ((ucells l).take (k * 2)) rfl hln.out hcs.out (by rw [ucells_take]; exact ucells_one _) (by unfold maxLen; omega) (by omega) (by omega) ?_)
  intro v3 w3 hv3 hg3 hat3
  have hgB : Hid (w1.heap.size < w2.heap.size) := hide (by omega)
  obtain ⟨A2, c2, hv, hk2, hc2⟩ := own_form hv3
  subst hv
  have hc2' := hc2
  unfold maxLen at hc2'
  have hb3 := hide (how2.out.kept hg3 (.inr (by intro e; have := hf.out _ e; simp [Value.ownBlock] at this)))
  have ha3 := hide hv3
  have ho3 := hide (only_trans ho2.out hg3 (by intro i hi; simp [Value.ownBlock] at hi; omega))
  have hr3 := hide (hr2.grown hg3 (by intro i hi; simp [Value.ownBlock] at hi; omega))
  have hs3 := hg3.size
  have ha3b : Hid (∀ i, (Value.slice A2 k c2).ownBlock = some i → w1.heap.size ≤ i) := hide (by
    intro i hi
    rcases hat3 with e | e <;> rw [hi] at e
    · simp [Value.ownBlock] at e; omega
    · simp [Value.ownBlock] at e; omega)
  have hlt3 : Hid ((l.take k).length = k) := hide (by rw [List.length_take]; omega)
  have ha3' : Hid (LogR w3 A2 (l.take k)) := hide (by unfold LogR; rw [← ucells_take]; exact CellsR.of_own hv3)
  have hb3' : Hid (LogR w3 A l) := hide (CellsR.of_own hb3.out)
  clear hv3 hg3 hat3 hoe2 how2 ho2 hr2 hcs hln
  have fin : Hid (∀ w', w3.grownBy w' (some g) → RdAt w' g (P + 70) → DrewTwo w g P (.returned (.tuple #[.slice A2 k c2, .slice A l.length c])) w') := hide (by
    intro w' hgw hrw
    refine ⟨A2, c2, l.take k, A, c, l, by rw [hlt3.out], by rw [hlt3.out]; omega, by omega, by rw [hlt3.out]; omega, hc2, by omega, hcm, ?_, ?_, only_pick ho3.out hgw, hrw⟩
    · have := CellsR.of_own (own_keep ha3.out hgw hlt)
      unfold LogR
      rw [← ucells_take]
      exact this
    · exact CellsR.of_own (own_keep hb3.out hgw hlt))
  by_cases k0 : k = 0
  · have k0' : ¬ 0 < k := by omega
    go_wp2_with fail
    go_ret2
    exact fin.out _ (World.grownBy.refl _ _) (hr3.out.more (by omega))
  · have k0' : 0 < k := by omega
    go_wp2_with fail
    refine (pick_any 3 hr3.out (by omega)).mono ?_
    rintro e w4 ⟨z, rfl, hz, -, hg4, hr4⟩
    have hz' := hz (by omega)
    clear hz
    by_cases z0 : z = 0
    · subst z0
      have hg4 := hide hg4
      go_wp2_with fail
      refine (pick_any (k : Int) hr4 (by omega)).mono ?_
      rintro e w5 ⟨j, rfl, hj, -, hg5, hr5⟩
      obtain ⟨hj0, hj1⟩ := hj (by omega)
      obtain ⟨q, hq⟩ := Int.eq_ofNat_of_zero_le hj0
      subst hq
      clear hj hr4
      have hg5 := hide hg5
      go_wp2_with fail
      refine (l91Update_any hr5 (by omega)).mono ?_
      rintro e w6 ⟨a, b, rfl, ha1, ha2, hb1, hb2, hg6, hr6⟩
      have hg6 := hide (only_pick (only_pick hg4.out hg5.out) hg6)
      clear hg4 hg5 hr5
      obtain ⟨ga, hga⟩ : ∃ ga, A2 = some ⟨ga, 0, none⟩ := by
        rcases ha3.out.2 with ⟨hv, _⟩ | ⟨g', _, _, hv, _⟩
        · injection hv with _ hn; omega
        · injection hv with hv; exact ⟨g', hv⟩
      subst hga
      have ha6 := hide (own_keep ha3.out hg6.out hlt)
      have hlen6 : Hid (((ucells l).take (k * 2)).length = k * 2) := hide ha6.out.1
      have gaw : Hid (w.heap.size ≤ ga) := hide (ha6.out.lt ga rfl).1
      have ca0 : ∃ u, w6.cell? ⟨ga, q * 2, none⟩ = some u := by
        rw [ha6.out.cellAt (q * 2) (by omega)]
        exact ⟨_, List.getElem?_eq_getElem (by rw [hlen6.out]; omega)⟩
      have ca1 : ∃ u, w6.cell? ⟨ga, q * 2 + 1, none⟩ = some u := by
        rw [ha6.out.cellAt (q * 2 + 1) (by omega)]
        exact ⟨_, List.getElem?_eq_getElem (by rw [hlen6.out]; omega)⟩
      obtain ⟨u0, ca0⟩ := ca0
      obtain ⟨u1, ca1⟩ := ca1
      have fa0 := ha6.out.frozenAt (q * 2)
      have fa1 := ha6.out.frozenAt (q * 2 + 1)
      go_wp2_with fail
      go_ret2
      have ga1 : w.heap.size ≤ ga := gaw.out
      have h1 := ha6.out.stored (q * 2) (.int .i64 a)
      have h2 := h1.1.stored (q * 2 + 1) (.int .i64 b)
      have hlog : LogR ((w6.setCell ⟨ga, q * 2, none⟩ (.int .i64 a)).setCell ⟨ga, q * 2 + 1, none⟩ (.int .i64 b)) (some ⟨ga, 0, none⟩) ((l.take k).set q (a, b)) := by
        have e := CellsR.of_own h2.1
        rw [ucells_take, ucells_set _ _ (a, b)] at e
        exact e
      have hlen : ((l.take k).set q (a, b)).length = k := by rw [List.length_set]; exact hlt3.out
      have hnot : ∀ i, (Value.slice A l.length c).ownBlock = some i → i ≠ ga := by
        intro i hi e
        have e1 := hf.out i hi
        have e2 := ha3b.out ga rfl
        omega
      have hb6 := own_keep hb3.out hg6.out hlt
      have hb7 := hb6.kept h1.2 (by
        rcases h : (Value.slice A l.length c).ownBlock with _ | i
        · exact .inl rfl
        · exact .inr (by intro e; injection e with e; exact hnot i h e))
      have hb8 := hb7.kept h2.2 (by
        rcases h : (Value.slice A l.length c).ownBlock with _ | i
        · exact .inl rfl
        · exact .inr (by intro e; injection e with e; exact hnot i h e))
      exact ⟨some ⟨ga, 0, none⟩, c2, (l.take k).set q (a, b), A, c, l, by rw [hlen]; rfl, by rw [hlen]; omega, by omega, by rw [hlen]; omega, hc2, by omega, hcm, hlog, CellsR.of_own hb8,
        only_setCell (only_setCell (only_pick ho3.out hg6.out) (.inr ga1) _) (.inr ga1) _, ((hr6.setCell (by show g < ga; omega) _).setCell (by show g < ga; omega) _).more (by omega)⟩
    · have z0' : (z == 0) = false := by simpa using z0
      have hg4 := hide hg4
      go_wp2_with fail
      go_ret2
      exact fin.out _ hg4.out (hr4.more (by omega))
end Go.Proofs.Ytfkongkokegjjaa
