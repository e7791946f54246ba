/-
  Contracts: what is pending at a node, both.
-/
import Derived.Test.YtjheeeilcfbdbaaDoorNodes2
set_option linter.all false
set_option maxRecDepth 100000
namespace Go.Proofs.YtjheeeilcfbdbaaDoor
open Go.RowKit

theorem LogR.cut {w : World} {A : Option Addr} {l : List Upd} (h : LogR w A l) (q : Nat) : LogR w (Option.map (fun x => x.add (q * 2)) A) (l.drop q) := by
  unfold LogR
  rw [← ucells_drop]
  refine CellsR.drop h _ fun _ b o e => ?_
  subst e
  simp [Addr.add_lit]
theorem LogR.cut0 {w : World} {A : Option Addr} {l : List Upd} {q : Nat} (h : l.length ≤ q) : LogR w A (l.drop q) := by
  rw [List.drop_eq_nil_of_le h]
  exact CellsR.nil _ _
theorem gotRowU_of {w w' : World} {xs l' : List Upd} {n c : Nat} {A : Option Addr} (hx : xs = l') (hn : l'.length = n) (h1 : OwnU w' w.heap.size A c l') (hE : Ext w w') : GotRowU w xs (.returned (.slice A n c)) w' := by
  subst hx hn; exact ⟨A, c, rfl, h1, hE⟩
theorem gotRowU_none {w w1 : World} {xs : List Upd} (hx : xs = []) (hE1 : Ext w w1) : GotRowU w xs (.returned (.slice (some ⟨w1.heap.size, 0, none⟩) 0 0)) (w1.alloc (.cells #[] 27)) :=
  gotRowU_of hx rfl (made_at (base := w.heap.size) rfl hE1.size) (ext_alloc hE1 _)

theorem copyLog_n {A : Option Addr} {l : List Upd} {n : Nat} (c : Nat) {w : World} (hn : Hid (l.length = n)) (h : LogR w A l) (hm : n ≤ 1048576) :
    Calls Tryd.prog 45 #[.slice A n c] w (GotRowU w l) := by
  have e := hn.out
  subst e
  refine (copyLog_any c h hm).mono ?_
  rintro e w' ⟨rfl, h1, h2⟩
  exact ⟨_, _, rfl, h1, h2⟩

set_option maxHeartbeats 800000 in
theorem implNodePending_any {A : Option Addr} {l : List Upd} (c : Nat) (i j : Int) {w : World} (h : LogR w A l) (hm : l.length ≤ 1048576) (hlc : l.length ≤ c) :
    Calls Tryd.prog 15 #[.agg #[.int .i64 i, .slice A l.length c, .int .i64 j]] w (GotRowU w (ndPend ⟨i, l, j⟩)) := by
  replace h := hide h
  have hE := hide (ext_refl w)
  have b := hide (Blk.newAt (w) 25 #[.int .i64 i, .slice A l.length c, .int .i64 j] (g := w.heap.size) (by simp))
  replace h := hide (h.out.ext (ext_alloc (ext_refl (w)) (.cells #[.int .i64 i, .slice A l.length c, .int .i64 j] 25)))
  replace hE := hide (ext_alloc hE.out (.cells #[.int .i64 i, .slice A l.length c, .int .i64 j] 25))
  by_cases hok : ndOk ⟨i, l, j⟩ = true
  · obtain ⟨-, -, -, h12, hj0, hj1⟩ := ndOk_parts hok
    obtain ⟨q, rfl⟩ := Int.eq_ofNat_of_zero_le hj0
    have hql : q ≤ l.length := by omega
    have hn : Hid ((l.drop q).length = l.length - q) := hide (by simp)
    have hx : Hid (ndPend ⟨i, l, (q : Int)⟩ = l.drop q) := hide (ndPend_yes hok)
    have hnil : Hid (([] : List Upd).length = 0) := hide rfl
    by_cases hcq : c = q
    · subst hcq
      have hx0 : Hid (ndPend ⟨i, l, (c : Int)⟩ = []) := hide (by rw [hx.out, List.drop_eq_nil_of_le hlc])
      go_enter Tryd.func15, Tryd.ntmps15
      go_wp2_with fail
      refine (implNodeValid_any c i c h.out hm).mono ?_
      rintro e w1 ⟨rfl, hF⟩
      replace h := hide (h.out.ext hF)
      replace b := hide (b.out.ext hF)
      try clear b_0 b_1 b_2 b_lt
      obtain ⟨b_0, b_1, b_2, b_lt⟩ := b.out.at3
      replace hE := hide (ext_trans hE.out hF)
      clear hF
      go_wp2_with fail
      refine (copyLog_n (l := []) (n := 0) _ hnil (CellsR.nil _ _) (by omega)).mono ?_
      intro e w2 hG
      obtain ⟨A2, c2, rfl, hlc2, hcm2, hO, hF⟩ := hG.use
      have fin := hide (gotRowU_of hx0.out rfl (OwnU.mono hO.out hE.out.size) (ext_trans hE.out hF))
      clear hG hF hO
      go_wp2_with fail
      go_ret
      exact fin.out
    · go_enter Tryd.func15, Tryd.ntmps15
      go_wp2_with fail
      refine (implNodeValid_any c i q h.out hm).mono ?_
      rintro e w1 ⟨rfl, hF⟩
      replace h := hide (h.out.ext hF)
      replace b := hide (b.out.ext hF)
      try clear b_0 b_1 b_2 b_lt
      obtain ⟨b_0, b_1, b_2, b_lt⟩ := b.out.at3
      replace hE := hide (ext_trans hE.out hF)
      clear hF
      go_wp2_with fail
      refine (copyLog_n (l := l.drop q) _ hn (h.out.cut q) (by omega)).mono ?_
      intro e w2 hG
      obtain ⟨A2, c2, rfl, hlc2, hcm2, hO, hF⟩ := hG.use
      have fin := hide (gotRowU_of hx.out hn.out (OwnU.mono hO.out hE.out.size) (ext_trans hE.out hF))
      clear hG hF hO
      go_wp2_with fail
      go_ret
      exact fin.out
  · have hok : ndOk ⟨i, l, j⟩ = false := by simpa using hok
    go_enter Tryd.func15, Tryd.ntmps15
    go_wp2_with fail
    refine (implNodeValid_any c i j h.out hm).mono ?_
    rintro e w1 ⟨rfl, hF⟩
    have fin := hide (gotRowU_none (ndPend_no hok) (ext_trans hE.out hF))
    clear hF
    go_wp2_with fail
    go_ret
    exact fin.out

end Go.Proofs.YtjheeeilcfbdbaaDoor
