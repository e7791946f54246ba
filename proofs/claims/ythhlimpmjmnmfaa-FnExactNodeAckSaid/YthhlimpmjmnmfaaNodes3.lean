/-
  Contracts: what is pending at a node, both.
-/
import Derived.Test.YthhlimpmjmnmfaaNodes2
set_option linter.all false
namespace Go.Proofs.Ythhlimpmjmnmfaa
open Go.RowKit

theorem LogR.cut {w : World} {A : Option Addr} {l : List Upd} (h : LogR w A l) (q : Nat) : LogR w (Option.map (fun x => x.add (q * 2)) A) (l.drop q) := by
  unfold LogR
  rw [← ucells_drop]
  refine CellsR.drop h _ fun _ b o e => ?_
  subst e
  simp [Addr.add_lit]
theorem LogR.cut0 {w : World} {A : Option Addr} {l : List Upd} {q : Nat} (h : l.length ≤ q) : LogR w A (l.drop q) := by
  rw [List.drop_eq_nil_of_le h]
  exact CellsR.nil _ _
theorem gotRowU_of {w w' : World} {xs l' : List Upd} {n c : Nat} {A : Option Addr} (hx : xs = l') (hn : l'.length = n) (h1 : OwnU w' w.heap.size A c l') (hE : Ext w w') : GotRowU w xs (.returned (.slice A n c)) w' := by
  subst hx hn; exact ⟨A, c, rfl, h1, hE⟩
theorem gotRowU_none {w w1 : World} {xs : List Upd} (hx : xs = []) (hE1 : Ext w w1) : GotRowU w xs (.returned (.slice (some ⟨w1.heap.size, 0, none⟩) 0 0)) (w1.alloc (.cells #[] 58)) :=
  gotRowU_of hx rfl (made_at (base := w.heap.size) rfl hE1.size) (ext_alloc hE1 _)

theorem copyLog_n {A : Option Addr} {l : List Upd} {n : Nat} (c : Nat) {w : World} (hn : Hid (l.length = n)) (h : LogR w A l) (hm : n ≤ 1048576) :
    Calls Try.prog 51 #[.slice A n c] w (GotRowU w l) := by
  have e := hn.out
  subst e
  refine (copyLog_any c h hm).mono ?_
  rintro e w' ⟨rfl, h1, h2⟩
  exact ⟨_, _, rfl, h1, h2⟩

set_option maxHeartbeats 800000 in
theorem implNodePending_any {A : Option Addr} {l : List Upd} (c : Nat) (i j : Int) {w : World} (h : LogR w A l) (hm : l.length ≤ 1048576) (hlc : l.length ≤ c) :
    Calls Try.prog 21 #[.agg #[.int .i64 i, .slice A l.length c, .int .i64 j]] w (GotRowU w (ndPend ⟨i, l, j⟩)) := by
  replace h := hide h
  have hE := hide (ext_refl w)
  have b := hide (Blk.newAt (w) 25 #[.int .i64 i, .slice A l.length c, .int .i64 j] (g := w.heap.size) (by simp))
  replace h := hide (h.out.ext (ext_alloc (ext_refl (w)) (.cells #[.int .i64 i, .slice A l.length c, .int .i64 j] 25)))
  replace hE := hide (ext_alloc hE.out (.cells #[.int .i64 i, .slice A l.length c, .int .i64 j] 25))
  by_cases hok : ndOk ⟨i, l, j⟩ = true
  · obtain ⟨-, -, -, h12, hj0, hj1⟩ := ndOk_parts hok
    obtain ⟨q, rfl⟩ := Int.eq_ofNat_of_zero_le hj0
    have hql : q ≤ l.length := by omega
    have hn : Hid ((l.drop q).length = l.length - q) := hide (by simp)
    have hx : Hid (ndPend ⟨i, l, (q : Int)⟩ = l.drop q) := hide (ndPend_yes hok)
    have hnil : Hid (([] : List Upd).length = 0) := hide rfl
    by_cases hcq : c = q
    · subst hcq
      have hx0 : Hid (ndPend ⟨i, l, (c : Int)⟩ = []) := hide (by rw [hx.out, List.drop_eq_nil_of_le hlc])
      go_enter Try.func21, Try.ntmps21
      go_wp2_with fail
      refine (implNodeValid_any c i c h.out hm).mono ?_
      rintro e w1 ⟨rfl, hF⟩
      replace h := hide (h.out.ext hF)
      replace b := hide (b.out.ext hF)
      try clear b_0 b_1 b_2 b_lt
      obtain ⟨b_0, b_1, b_2, b_lt⟩ := b.out.at3
      replace hE := hide (ext_trans hE.out hF)
      clear hF
      go_wp2_with fail
      refine (copyLog_n (l := []) (n := 0) _ hnil (CellsR.nil _ _) (by omega)).mono ?_
      intro e w2 hG
      obtain ⟨A2, c2, rfl, hlc2, hcm2, hO, hF⟩ := hG.use
      have fin := hide (gotRowU_of hx0.out rfl (OwnU.mono hO.out hE.out.size) (ext_trans hE.out hF))
      clear hG hF hO
      go_wp2_with fail
      go_ret
      exact fin.out
    · go_enter Try.func21, Try.ntmps21
      go_wp2_with fail
      refine (implNodeValid_any c i q h.out hm).mono ?_
      rintro e w1 ⟨rfl, hF⟩
      replace h := hide (h.out.ext hF)
      replace b := hide (b.out.ext hF)
      try clear b_0 b_1 b_2 b_lt
      obtain ⟨b_0, b_1, b_2, b_lt⟩ := b.out.at3
      replace hE := hide (ext_trans hE.out hF)
      clear hF
      go_wp2_with fail
      refine (copyLog_n (l := l.drop q) _ hn (h.out.cut q) (by omega)).mono ?_
      intro e w2 hG
      obtain ⟨A2, c2, rfl, hlc2, hcm2, hO, hF⟩ := hG.use
      have fin := hide (gotRowU_of hx.out hn.out (OwnU.mono hO.out hE.out.size) (ext_trans hE.out hF))
      clear hG hF hO
      go_wp2_with fail
      go_ret
      exact fin.out
  · have hok : ndOk ⟨i, l, j⟩ = false := by simpa using hok
    go_enter Try.func21, Try.ntmps21
    go_wp2_with fail
    refine (implNodeValid_any c i j h.out hm).mono ?_
    rintro e w1 ⟨rfl, hF⟩
    have fin := hide (gotRowU_none (ndPend_no hok) (ext_trans hE.out hF))
    clear hF
    go_wp2_with fail
    go_ret
    exact fin.out

set_option maxHeartbeats 800000 in
theorem specNodePending_any {A : Option Addr} {l : List Upd} (c : Nat) (i j : Int) {w : World} (h : LogR w A l) (hm : l.length ≤ 1048576) (hlc : l.length ≤ c) :
    Calls Try.prog 22 #[.agg #[.int .i64 i, .slice A l.length c, .int .i64 j]] w (GotRowU w (ndPend ⟨i, l, j⟩)) := by
  replace h := hide h
  obtain ⟨i0, hi, hz0, hz1, hz2⟩ := info_parts infoU'
  have hE := hide (ext_refl w)
  have b := hide (Blk.newAt (w) 25 #[.int .i64 i, .slice A l.length c, .int .i64 j] (g := w.heap.size) (by simp))
  replace h := hide (h.out.ext (ext_alloc (ext_refl (w)) (.cells #[.int .i64 i, .slice A l.length c, .int .i64 j] 25)))
  replace hE := hide (ext_alloc hE.out (.cells #[.int .i64 i, .slice A l.length c, .int .i64 j] 25))
  by_cases hok : ndOk ⟨i, l, j⟩ = true
  · obtain ⟨-, -, -, h12, hj0, hj1⟩ := ndOk_parts hok
    obtain ⟨q, rfl⟩ := Int.eq_ofNat_of_zero_le hj0
    have hql : q ≤ l.length := by omega
    have hn : Hid ((l.drop q).length = l.length - q) := hide (by simp)
    have hn2 : Hid ((ucells (l.drop q)).length = (l.length - q) * 2) := hide (by rw [ucells_len, hn.out])
    have hx : Hid (ndPend ⟨i, l, (q : Int)⟩ = l.drop q) := hide (ndPend_yes hok)
    by_cases hcq : c = q
    · subst hcq
      have hx0 : Hid (ndPend ⟨i, l, (c : Int)⟩ = []) := hide (by rw [hx.out, List.drop_eq_nil_of_le hlc])
      go_enter Try.func22, Try.ntmps22
      go_wp2_with fail
      refine (specNodeValid_any c i c h.out hm).mono ?_
      rintro e w1 ⟨rfl, hF⟩
      replace h := hide (h.out.ext hF)
      replace b := hide (b.out.ext hF)
      try clear b_0 b_1 b_2 b_lt
      obtain ⟨b_0, b_1, b_2, b_lt⟩ := b.out.at3
      replace hE := hide (ext_trans hE.out hF)
      clear hF
      have hnil2 : Hid ((ucells []).length = 0 * 2) := hide rfl
      have hoe := hide (made_at (w := w1) (base := w1.heap.size) (t := 58) (size := 2) rfl (Nat.le_refl _))
      have hcs := hide (show CellsR (w1.alloc (.cells #[] 58)) A (ucells []) from CellsR.nil _ _)
      go_wp2_with (at_builtin; refine wpList_append_cells _ rfl _ _ 23 rfl w1.heap.size 58 i0 _ 2 16 Try.underlying23 hi hz0 hz1 hz2 rfl (by decide) _ 0 _ rfl hoe.out A 0 _ (ucells []) rfl hnil2.out hcs.out (ucells_one _) (by unfold maxLen; omega) (by omega) (by simp) ?_)
      intro v3 w3 hv3 hg3 hat3
      have hF := ext_made rfl hg3
      obtain ⟨A3, c3, rfl, hlc3, hcm3, hO⟩ := ownU_of (l := []) hv3 rfl
      have fin := hide (gotRowU_of hx0.out rfl (OwnU.mono hO hE.out.size) (ext_trans hE.out hF))
      clear hF hO hv3 hg3 hat3 hoe hcs
      go_wp2_with fail
      go_ret
      exact fin.out
    · go_enter Try.func22, Try.ntmps22
      go_wp2_with fail
      refine (specNodeValid_any c i q h.out hm).mono ?_
      rintro e w1 ⟨rfl, hF⟩
      replace h := hide (h.out.ext hF)
      replace b := hide (b.out.ext hF)
      try clear b_0 b_1 b_2 b_lt
      obtain ⟨b_0, b_1, b_2, b_lt⟩ := b.out.at3
      replace hE := hide (ext_trans hE.out hF)
      clear hF
      have hoe := hide (made_at (w := w1) (base := w1.heap.size) (t := 58) (size := 2) rfl (Nat.le_refl _))
      have hcs := hide (CellsR.ext (h.out.cut q) (ext_alloc (ext_refl w1) (.cells #[] 58)))
      go_wp2_with (at_builtin; refine wpList_append_cells _ rfl _ _ 23 rfl w1.heap.size 58 i0 _ 2 16 Try.underlying23 hi hz0 hz1 hz2 rfl (by decide) _ 0 _ rfl hoe.out _ (l.length - q) _ (ucells (l.drop q)) rfl hn2.out hcs.out (ucells_one _) (by unfold maxLen; omega) (by omega) (by simp) ?_)
      intro v3 w3 hv3 hg3 hat3
      have hF := ext_made rfl hg3
      obtain ⟨A3, c3, rfl, hlc3, hcm3, hO⟩ := ownU_of hv3 (by have := hn.out; omega)
      have fin := hide (gotRowU_of hx.out rfl (OwnU.mono hO hE.out.size) (ext_trans hE.out hF))
      clear hF hO hv3 hg3 hat3 hoe hcs
      go_wp2_with fail
      go_ret
      exact fin.out
  · have hok : ndOk ⟨i, l, j⟩ = false := by simpa using hok
    go_enter Try.func22, Try.ntmps22
    go_wp2_with fail
    refine (specNodeValid_any c i j h.out hm).mono ?_
    rintro e w1 ⟨rfl, hF⟩
    have fin := hide (gotRowU_none (ndPend_no hok) (ext_trans hE.out hF))
    clear hF
    go_wp2_with fail
    go_ret
    exact fin.out
end Go.Proofs.Ythhlimpmjmnmfaa
