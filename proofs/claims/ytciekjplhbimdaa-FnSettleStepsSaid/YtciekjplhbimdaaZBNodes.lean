/-
  Words and contracts, joined: Nodes1, Nodes2, Nodes3.
-/
import Derived.Test.YtciekjplhbimdaaZNMem
import Derived.Deep.RegionHeld3
import Derived.Deep.DrawnRows
/-
  Contracts: nodes: valid, copied, told, pending, both.
-/
set_option linter.all false
set_option maxRecDepth 100000
namespace Go.Proofs.YtciekjplhbimdaaZ
open Go.RowKit
attribute [local go_sem ↓] Go.wp_at_zero Go.wp_at_succ

/-- A copy of a log in new memory. -/
theorem copyLog_any {A : Option Addr} {l : List Upd} (c : Nat) {w : World} (h : LogR w A l) (hm : l.length ≤ 1048576) :
    Calls Alt.prog 63 #[.slice A l.length c] w fun e w' => e = .returned (.slice (some ⟨w.heap.size, 0, none⟩) l.length l.length) ∧ OwnU w' w.heap.size (some ⟨w.heap.size, 0, none⟩) l.length l ∧ Ext w w' := by
  have h := hide h
  obtain ⟨i0, hi, hz0, hz1, hz2⟩ := info_parts infoU'
  go_enter Alt.func63, Try.ntmps63
  go_wp2_with (at_make; refine wpList_make_full _ rfl _ _ 34 rfl w.heap.size 39 i0 _ 2 Alt.underlying34 hi hz0 hz1 _ _ _ _ l.length rfl rfl rfl rfl (by rw [hz2]; omega) (by unfold maxLen; omega) (Nat.le_refl _) ?_)
  intro w1 hown hgr
  have hE1 : Hid (Ext w w1) := hide ⟨hgr.os, hgr.tape, hgr.output, hgr.size, fun i hi => hgr.block i hi (by simp)⟩
  clear hgr
  have hcs : CellsR w1 A (ucells l) := h.out.ext hE1.out
  go_wp2_with (with_reducible refine wpList_copy_whole rfl (.tmp 7) (.tmp 8) 34 34 rfl w.heap.size 39 i0 2 Alt.underlying34 hi hz1 w.heap.size l.length l.length _ rfl hown A c (ucells l) rfl (ucells_len l) hcs (ucells_one l) ?_)
  intro w2 hown2 hg2
  have hE2 := hide (ext_only hE1.out hg2 (Nat.le_refl _))
  replace hown2 := hide hown2
  clear hg2 hown
  go_wp2
  go_ret
  exact ⟨rfl, hown2.out, hE2.out⟩

theorem copyLog_at {A : Option Addr} {l : List Upd} (c : Nat) {w : World} {H : Nat} (hH : Hid (w.heap.size = H)) (h : LogR w A l) (hm : l.length ≤ 1048576) :
    Calls Alt.prog 63 #[.slice A l.length c] w fun e w' => e = .returned (.slice (some ⟨H, 0, none⟩) l.length l.length) ∧ OwnU w' H (some ⟨H, 0, none⟩) l.length l ∧ Ext w w' := by
  have e := hH.out
  subst e
  exact copyLog_any c h hm
set_option maxHeartbeats 1600000 in
theorem copyNode_any {A : Option Addr} {l : List Upd} (c : Nat) (i j : Int) {w : World} (h : LogR w A l) (hm : l.length ≤ 1048576) :
    Calls Alt.prog 62 #[.agg #[.int .i64 i, .slice A l.length c, .int .i64 j]] w (GotNode w ⟨i, l, j⟩) := by
  replace h := hide h
  have hE := hide (ext_refl w)
  have b := hide (Blk.newAt (w) 36 #[.int .i64 i, .slice A l.length c, .int .i64 j] (g := w.heap.size) (by simp))
  replace h := hide (h.out.ext (ext_alloc (ext_refl (w)) (.cells #[.int .i64 i, .slice A l.length c, .int .i64 j] 36)))
  replace hE := hide (ext_alloc hE.out (.cells #[.int .i64 i, .slice A l.length c, .int .i64 j] 36))
  have r := hide (Blk.newAt (w.alloc (.cells #[.int .i64 i, .slice A l.length c, .int .i64 j] 36)) 36 #[.int .i64 0, .slice none 0 0, .int .i64 0] (g := w.heap.size + 1) (by simp))
  replace h := hide (h.out.ext (ext_alloc (ext_refl (w.alloc (.cells #[.int .i64 i, .slice A l.length c, .int .i64 j] 36))) (.cells #[.int .i64 0, .slice none 0 0, .int .i64 0] 36)))
  replace b := hide (b.out.ext (ext_alloc (ext_refl (w.alloc (.cells #[.int .i64 i, .slice A l.length c, .int .i64 j] 36))) (.cells #[.int .i64 0, .slice none 0 0, .int .i64 0] 36)))
  replace hE := hide (ext_alloc hE.out (.cells #[.int .i64 0, .slice none 0 0, .int .i64 0] 36))
  go_enter Alt.func62, Try.ntmps62
  go_wp2_with fail
  have hD := hide (show LogR ((w.alloc (.cells #[.int .i64 i, .slice A l.length c, .int .i64 j] 36)).alloc (.cells #[.int .i64 0, .slice none 0 0, .int .i64 0] 36)).drew A l from h.out)
  have hH := hide (show ((w.alloc (.cells #[.int .i64 i, .slice A l.length c, .int .i64 j] 36)).alloc (.cells #[.int .i64 0, .slice none 0 0, .int .i64 0] 36)).drew.heap.size = w.heap.size + 1 + 1 by simp)
  go_region_held3 (fun w' => w'.cell? ⟨w.heap.size, 0, none⟩ = some (.int .i64 i) ∧ w'.cell? ⟨w.heap.size, 1, none⟩ = some (.slice A l.length c) ∧ w'.cell? ⟨w.heap.size, 2, none⟩ = some (.int .i64 j)) (first | exact ⟨b_0, b_1, b_2⟩ | go_keep)
    ((go_at_call 63; refine (copyLog_at c hH hD.out hm).mono ?_; rintro e w1 ⟨rfl, hO, hF⟩; obtain ⟨b_0, b_1, b_2, b_lt⟩ := (b.out.over hF rfl).at3; obtain ⟨r_0, r_1, r_2, r_lt, r_f0, r_f1, r_f2⟩ := (r.out.over hF rfl).at3f))
  replace hO := hide hO
  replace hE := hide (ext_over hE.out hF rfl rfl rfl rfl)
  clear hF
  go_wp2_with fail
  refine bodyPost_ret (v := .agg #[.int .i64 i, .slice _ l.length l.length, .int .i64 j]) (by simp [results, Try.results62, go_sem, r_0, r_1, r_2]; rfl) rfl ?_
  exact ⟨_, _, rfl, OwnU.mono (((hO.out.set_ (by show w.heap.size + 1 < _; omega) _).set_ (by show w.heap.size + 1 < _; omega) _).set_ (by show w.heap.size + 1 < _; omega) _) (by omega), ((hE.out.setCell (by show w.heap.size ≤ w.heap.size + 1; omega) _).setCell (by show w.heap.size ≤ w.heap.size + 1; omega) _).setCell (by show w.heap.size ≤ w.heap.size + 1; omega) _⟩

theorem idValid_any (n : Int) (w : World) : Calls Alt.prog 69 #[.int .i64 n] w fun e w' => e = .returned (.bool (decide (1 ≤ n ∧ n ≤ 99))) ∧ w = w' := by
  go_enter Alt.func69, Try.ntmps69
  go_wp2
  all_goals (go_ret; refine ⟨ret_bool ?_, rfl⟩; rw [Bool.eq_iff_iff]; simp; try omega)

theorem implNodeValid_any {A : Option Addr} {l : List Upd} (c : Nat) (i j : Int) {w : World} (h : LogR w A l) (hm : l.length ≤ 1048576) :
    Calls Alt.prog 38 #[.agg #[.int .i64 i, .slice A l.length c, .int .i64 j]] w fun e w' => e = .returned (.bool (ndOk ⟨i, l, j⟩)) ∧ Ext w w' := by
  replace h := hide h
  have hE := hide (ext_refl w)
  have b := hide (Blk.newAt (w) 36 #[.int .i64 i, .slice A l.length c, .int .i64 j] (g := w.heap.size) (by simp))
  replace h := hide (h.out.ext (ext_alloc (ext_refl (w)) (.cells #[.int .i64 i, .slice A l.length c, .int .i64 j] 36)))
  replace hE := hide (ext_alloc hE.out (.cells #[.int .i64 i, .slice A l.length c, .int .i64 j] 36))
  by_cases hi : 1 ≤ i ∧ i ≤ 99
  · have hd : decide (1 ≤ i ∧ i ≤ 99) = true := by simpa using hi
    by_cases hl : logOk l = true
    · go_enter Alt.func38, Try.ntmps38
      go_wp2_with (go_at_call 69; refine (idValid_any _ _).mono ?_; rintro e w' ⟨rfl, rfl⟩)
      refine (implLogValid_any c h.out hm).mono ?_
      rintro e w1 ⟨rfl, hF⟩
      replace h := hide (h.out.ext hF)
      replace b := hide (b.out.ext hF)
      try clear b_0 b_1 b_2 b_lt
      obtain ⟨b_0, b_1, b_2, b_lt⟩ := b.out.at3
      replace hE := hide (ext_trans hE.out hF)
      clear hF
      go_wp2_with fail
      all_goals (go_ret; refine ⟨ret_bool ?_, hE.out⟩; rw [Bool.eq_iff_iff]; simp [ndOk, hl]; try omega)
    · have hl : logOk l = false := by simpa using hl
      go_enter Alt.func38, Try.ntmps38
      go_wp2_with (go_at_call 69; refine (idValid_any _ _).mono ?_; rintro e w' ⟨rfl, rfl⟩)
      refine (implLogValid_any c h.out hm).mono ?_
      rintro e w1 ⟨rfl, hF⟩
      replace h := hide (h.out.ext hF)
      replace b := hide (b.out.ext hF)
      try clear b_0 b_1 b_2 b_lt
      obtain ⟨b_0, b_1, b_2, b_lt⟩ := b.out.at3
      replace hE := hide (ext_trans hE.out hF)
      clear hF
      go_wp2_with fail
      go_ret
      exact ⟨ret_bool (ndOk_log hl).symm, hE.out⟩
  · have hd : decide (1 ≤ i ∧ i ≤ 99) = false := by simpa using hi
    go_enter Alt.func38, Try.ntmps38
    go_wp2_with (go_at_call 69; refine (idValid_any _ _).mono ?_; rintro e w' ⟨rfl, rfl⟩)
    go_ret
    exact ⟨ret_bool (ndOk_id hi).symm, hE.out⟩

theorem specNodeValid_any {A : Option Addr} {l : List Upd} (c : Nat) (i j : Int) {w : World} (h : LogR w A l) (hm : l.length ≤ 1048576) :
    Calls Alt.prog 46 #[.agg #[.int .i64 i, .slice A l.length c, .int .i64 j]] w fun e w' => e = .returned (.bool (ndOk ⟨i, l, j⟩)) ∧ Ext w w' := by
  replace h := hide h
  have hE := hide (ext_refl w)
  have b := hide (Blk.newAt (w) 36 #[.int .i64 i, .slice A l.length c, .int .i64 j] (g := w.heap.size) (by simp))
  replace h := hide (h.out.ext (ext_alloc (ext_refl (w)) (.cells #[.int .i64 i, .slice A l.length c, .int .i64 j] 36)))
  replace hE := hide (ext_alloc hE.out (.cells #[.int .i64 i, .slice A l.length c, .int .i64 j] 36))
  by_cases hi : 1 ≤ i ∧ i ≤ 99
  · have hd : decide (1 ≤ i ∧ i ≤ 99) = true := by simpa using hi
    by_cases hl : logOk l = true
    · go_enter Alt.func46, Try.ntmps46
      go_wp2_with (go_at_call 43; refine (l6In_any _ _ _ _).mono ?_; rintro e w' ⟨rfl, rfl⟩)
      refine (specLogValid_any c h.out hm).mono ?_
      rintro e w1 ⟨rfl, hF⟩
      replace h := hide (h.out.ext hF)
      replace b := hide (b.out.ext hF)
      try clear b_0 b_1 b_2 b_lt
      obtain ⟨b_0, b_1, b_2, b_lt⟩ := b.out.at3
      replace hE := hide (ext_trans hE.out hF)
      clear hF
      go_wp2_with (go_at_call 43; refine (l6In_any _ _ _ _).mono ?_; rintro e w' ⟨rfl, rfl⟩)
      go_ret
      refine ⟨ret_bool ?_, hE.out⟩
      rw [Bool.eq_iff_iff]; simp [ndOk, hl]; try omega
    · have hl : logOk l = false := by simpa using hl
      go_enter Alt.func46, Try.ntmps46
      go_wp2_with (go_at_call 43; refine (l6In_any _ _ _ _).mono ?_; rintro e w' ⟨rfl, rfl⟩)
      refine (specLogValid_any c h.out hm).mono ?_
      rintro e w1 ⟨rfl, hF⟩
      replace h := hide (h.out.ext hF)
      replace b := hide (b.out.ext hF)
      try clear b_0 b_1 b_2 b_lt
      obtain ⟨b_0, b_1, b_2, b_lt⟩ := b.out.at3
      replace hE := hide (ext_trans hE.out hF)
      clear hF
      go_wp2_with fail
      go_ret
      exact ⟨ret_bool (ndOk_log hl).symm, hE.out⟩
  · have hd : decide (1 ≤ i ∧ i ≤ 99) = false := by simpa using hi
    go_enter Alt.func46, Try.ntmps46
    go_wp2_with (go_at_call 43; refine (l6In_any _ _ _ _).mono ?_; rintro e w' ⟨rfl, rfl⟩)
    go_ret
    exact ⟨ret_bool (ndOk_id hi).symm, hE.out⟩
end Go.Proofs.YtciekjplhbimdaaZ

/-
  Contracts: nodes: told what is everywhere, pending, both.
-/
set_option linter.all false
namespace Go.Proofs.YtciekjplhbimdaaZ
open Go.RowKit

theorem made_at {w : World} {H base : Nat} {t : TypeId} {size : Nat} (hH : w.heap.size = H) (hb : base ≤ H) : (w.alloc (.cells #[] t)).ownsRow base t size (.slice (some ⟨H, 0, none⟩) 0 0) 0 [] := by
  subst hH; exact World.ownsRow_made w #[] 0 hb (by simp [maxLen]) (by simp)
/-- Behind an append to a row made just now the elder world has only grown. -/
theorem ext_made {w w' : World} {H : Nat} {t : TypeId} (hH : w.heap.size = H) (h : (w.alloc (.cells #[] t)).grownBy w' (Value.slice (some ⟨H, 0, none⟩) 0 0).ownBlock) : Ext w w' := by
  subst hH
  exact ext_of_only (only_trans (g := w.heap.size) (only_alloc (World.grownBy.refl w (some w.heap.size)) (.cells #[] t)) h (by intro i e; simp [Value.ownBlock] at e; omega)) (Nat.le_refl _)
theorem ownU_of {w : World} {base n : Nat} {v : Value} {l : List Upd} (h : w.ownsRow base 39 2 v n (ucells l)) (hn : n = l.length) : ∃ A c, v = .slice A l.length c ∧ l.length ≤ c ∧ c ≤ maxLen ∧ OwnU w base A c l := by
  subst hn
  obtain ⟨A, c, rfl, h1, h2⟩ := own_form h
  exact ⟨A, c, rfl, h1, h2, h⟩

set_option maxHeartbeats 800000 in
theorem l3Copy_any {A : Option Addr} {l : List Upd} (c : Nat) (i j : Int) {w : World} (h : LogR w A l) (hm : l.length ≤ 1048576) :
    Calls Alt.prog 79 #[.agg #[.int .i64 i, .slice A l.length c, .int .i64 j]] w (GotNode w ⟨i, l, j⟩) := by
  replace h := hide h
  obtain ⟨i0, hi, hz0, hz1, hz2⟩ := info_parts infoU'
  have hE := hide (ext_refl w)
  have b := hide (Blk.newAt (w) 36 #[.int .i64 i, .slice A l.length c, .int .i64 j] (g := w.heap.size) (by simp))
  replace h := hide (h.out.ext (ext_alloc (ext_refl (w)) (.cells #[.int .i64 i, .slice A l.length c, .int .i64 j] 36)))
  replace hE := hide (ext_alloc hE.out (.cells #[.int .i64 i, .slice A l.length c, .int .i64 j] 36))
  have r := hide (Blk.newAt (w.alloc (.cells #[.int .i64 i, .slice A l.length c, .int .i64 j] 36)) 36 #[.int .i64 0, .slice none 0 0, .int .i64 0] (g := w.heap.size + 1) (by simp))
  replace h := hide (h.out.ext (ext_alloc (ext_refl (w.alloc (.cells #[.int .i64 i, .slice A l.length c, .int .i64 j] 36))) (.cells #[.int .i64 0, .slice none 0 0, .int .i64 0] 36)))
  replace b := hide (b.out.ext (ext_alloc (ext_refl (w.alloc (.cells #[.int .i64 i, .slice A l.length c, .int .i64 j] 36))) (.cells #[.int .i64 0, .slice none 0 0, .int .i64 0] 36)))
  replace hE := hide (ext_alloc hE.out (.cells #[.int .i64 0, .slice none 0 0, .int .i64 0] 36))
  have hH : Hid (((w.alloc (.cells #[.int .i64 i, .slice A l.length c, .int .i64 j] 36)).alloc (.cells #[.int .i64 0, .slice none 0 0, .int .i64 0] 36)).heap.size = w.heap.size + 1 + 1) := hide (by simp)
  have hoe := hide (made_at (base := w.heap.size + 1 + 1) (t := 39) (size := 2) hH.out (Nat.le_refl _))
  have hcs := hide (CellsR.ext h.out (ext_alloc (ext_refl _) (.cells #[] 39)))
  have hb1 : Hid (w.heap.size + 1 + 1 ≤ (((w.alloc (.cells #[.int .i64 i, .slice A l.length c, .int .i64 j] 36)).alloc (.cells #[.int .i64 0, .slice none 0 0, .int .i64 0] 36)).alloc (.cells #[] 39)).heap.size) := hide (by simp)
  go_enter Alt.func79, Try.ntmps79
  go_wp2_with (at_builtin; refine wpList_append_cells _ rfl _ _ 34 rfl (w.heap.size + 1 + 1) 39 i0 _ 2 16 Alt.underlying34 hi hz0 hz1 hz2 rfl (by decide) _ 0 _ rfl hoe.out A l.length c (ucells l) rfl (ucells_len l) hcs.out (ucells_one l) (by unfold maxLen; omega) (by omega) hb1.out ?_)
  intro v3 w3 hv3 hg3 hat3
  have hF := ext_made hH.out hg3
  obtain ⟨A3, c3, rfl, hlc3, hcm3, hO⟩ := ownU_of hv3 (by omega)
  replace hO := hide hO
  clear hg3 hat3 hoe hcs hb1 hv3 h
  replace b := hide (b.out.ext hF)
  replace r := hide (r.out.ext hF)
  try clear b_0 b_1 b_2 b_lt b_f0 b_f1 b_f2
  obtain ⟨b_0, b_1, b_2, b_lt, b_f0, b_f1, b_f2⟩ := b.out.at3f
  try clear r_0 r_1 r_2 r_lt r_f0 r_f1 r_f2
  obtain ⟨r_0, r_1, r_2, r_lt, r_f0, r_f1, r_f2⟩ := r.out.at3f
  replace hE := hide (ext_trans hE.out hF)
  clear hF
  go_wp2_with fail
  refine bodyPost_ret (v := .agg #[.int .i64 i, .slice A3 l.length c3, .int .i64 j]) (by simp [results, Try.results79, go_sem, r_0, r_1, r_2]) rfl ?_
  exact ⟨A3, c3, rfl, OwnU.mono ((((hO.out.set_ (by show w.heap.size < _; omega) _).set_ (by show w.heap.size + 1 < _; omega) _).set_ (by show w.heap.size + 1 < _; omega) _).set_ (by show w.heap.size + 1 < _; omega) _) (by omega),
    (((hE.out.setCell (Nat.le_refl _) _).setCell (by show w.heap.size ≤ w.heap.size + 1; omega) _).setCell (by show w.heap.size ≤ w.heap.size + 1; omega) _).setCell (by show w.heap.size ≤ w.heap.size + 1; omega) _⟩


end Go.Proofs.YtciekjplhbimdaaZ

/-
  Contracts: what is pending at a node, both.
-/
set_option linter.all false
namespace Go.Proofs.YtciekjplhbimdaaZ
open Go.RowKit

theorem LogR.cut {w : World} {A : Option Addr} {l : List Upd} (h : LogR w A l) (q : Nat) : LogR w (Option.map (fun x => x.add (q * 2)) A) (l.drop q) := by
  unfold LogR
  rw [← ucells_drop]
  refine CellsR.drop h _ fun _ b o e => ?_
  subst e
  simp [Addr.add_lit]
theorem LogR.cut0 {w : World} {A : Option Addr} {l : List Upd} {q : Nat} (h : l.length ≤ q) : LogR w A (l.drop q) := by
  rw [List.drop_eq_nil_of_le h]
  exact CellsR.nil _ _
theorem gotRowU_of {w w' : World} {xs l' : List Upd} {n c : Nat} {A : Option Addr} (hx : xs = l') (hn : l'.length = n) (h1 : OwnU w' w.heap.size A c l') (hE : Ext w w') : GotRowU w xs (.returned (.slice A n c)) w' := by
  subst hx hn; exact ⟨A, c, rfl, h1, hE⟩
theorem gotRowU_none {w w1 : World} {xs : List Upd} (hx : xs = []) (hE1 : Ext w w1) : GotRowU w xs (.returned (.slice (some ⟨w1.heap.size, 0, none⟩) 0 0)) (w1.alloc (.cells #[] 39)) :=
  gotRowU_of hx rfl (made_at (base := w.heap.size) rfl hE1.size) (ext_alloc hE1 _)

theorem copyLog_n {A : Option Addr} {l : List Upd} {n : Nat} (c : Nat) {w : World} (hn : Hid (l.length = n)) (h : LogR w A l) (hm : n ≤ 1048576) :
    Calls Alt.prog 63 #[.slice A n c] w (GotRowU w l) := by
  have e := hn.out
  subst e
  refine (copyLog_any c h hm).mono ?_
  rintro e w' ⟨rfl, h1, h2⟩
  exact ⟨_, _, rfl, h1, h2⟩


end Go.Proofs.YtciekjplhbimdaaZ
