/-
  Contracts: nodes: told what is everywhere, pending, both.
-/
import Derived.Test.YtjheeeilcfbdbaaDoorNodes1
set_option linter.all false
set_option maxRecDepth 100000
namespace Go.Proofs.YtjheeeilcfbdbaaDoor
open Go.RowKit

theorem made_at {w : World} {H base : Nat} {t : TypeId} {size : Nat} (hH : w.heap.size = H) (hb : base ≤ H) : (w.alloc (.cells #[] t)).ownsRow base t size (.slice (some ⟨H, 0, none⟩) 0 0) 0 [] := by
  subst hH; exact World.ownsRow_made w #[] 0 hb (by simp [maxLen]) (by simp)
/-- Behind an append to a row made just now the elder world has only grown. -/
theorem ext_made {w w' : World} {H : Nat} {t : TypeId} (hH : w.heap.size = H) (h : (w.alloc (.cells #[] t)).grownBy w' (Value.slice (some ⟨H, 0, none⟩) 0 0).ownBlock) : Ext w w' := by
  subst hH
  exact ext_of_only (only_trans (g := w.heap.size) (only_alloc (World.grownBy.refl w (some w.heap.size)) (.cells #[] t)) h (by intro i e; simp [Value.ownBlock] at e; omega)) (Nat.le_refl _)
theorem ownU_of {w : World} {base n : Nat} {v : Value} {l : List Upd} (h : w.ownsRow base 27 2 v n (ucells l)) (hn : n = l.length) : ∃ A c, v = .slice A l.length c ∧ l.length ≤ c ∧ c ≤ maxLen ∧ OwnU w base A c l := by
  subst hn
  obtain ⟨A, c, rfl, h1, h2⟩ := own_form h
  exact ⟨A, c, rfl, h1, h2, h⟩

set_option maxHeartbeats 800000 in
theorem l3Copy_any {A : Option Addr} {l : List Upd} (c : Nat) (i j : Int) {w : World} (h : LogR w A l) (hm : l.length ≤ 1048576) :
    Calls Tryd.prog 42 #[.agg #[.int .i64 i, .slice A l.length c, .int .i64 j]] w (GotNode w ⟨i, l, j⟩) := by
  replace h := hide h
  obtain ⟨i0, hi, hz0, hz1, hz2⟩ := info_parts infoU'
  have hE := hide (ext_refl w)
  have b := hide (Blk.newAt (w) 25 #[.int .i64 i, .slice A l.length c, .int .i64 j] (g := w.heap.size) (by simp))
  replace h := hide (h.out.ext (ext_alloc (ext_refl (w)) (.cells #[.int .i64 i, .slice A l.length c, .int .i64 j] 25)))
  replace hE := hide (ext_alloc hE.out (.cells #[.int .i64 i, .slice A l.length c, .int .i64 j] 25))
  have r := hide (Blk.newAt (w.alloc (.cells #[.int .i64 i, .slice A l.length c, .int .i64 j] 25)) 25 #[.int .i64 0, .slice none 0 0, .int .i64 0] (g := w.heap.size + 1) (by simp))
  replace h := hide (h.out.ext (ext_alloc (ext_refl (w.alloc (.cells #[.int .i64 i, .slice A l.length c, .int .i64 j] 25))) (.cells #[.int .i64 0, .slice none 0 0, .int .i64 0] 25)))
  replace b := hide (b.out.ext (ext_alloc (ext_refl (w.alloc (.cells #[.int .i64 i, .slice A l.length c, .int .i64 j] 25))) (.cells #[.int .i64 0, .slice none 0 0, .int .i64 0] 25)))
  replace hE := hide (ext_alloc hE.out (.cells #[.int .i64 0, .slice none 0 0, .int .i64 0] 25))
  have hH : Hid (((w.alloc (.cells #[.int .i64 i, .slice A l.length c, .int .i64 j] 25)).alloc (.cells #[.int .i64 0, .slice none 0 0, .int .i64 0] 25)).heap.size = w.heap.size + 1 + 1) := hide (by simp)
  have hoe := hide (made_at (base := w.heap.size + 1 + 1) (t := 27) (size := 2) hH.out (Nat.le_refl _))
  have hcs := hide (CellsR.ext h.out (ext_alloc (ext_refl _) (.cells #[] 27)))
  have hb1 : Hid (w.heap.size + 1 + 1 ≤ (((w.alloc (.cells #[.int .i64 i, .slice A l.length c, .int .i64 j] 25)).alloc (.cells #[.int .i64 0, .slice none 0 0, .int .i64 0] 25)).alloc (.cells #[] 27)).heap.size) := hide (by simp)
  go_enter Tryd.func42, Tryd.ntmps42
  go_wp2_with (at_builtin; refine wpList_append_cells _ rfl _ _ 23 rfl (w.heap.size + 1 + 1) 27 i0 _ 2 16 Tryd.underlying23 hi hz0 hz1 hz2 rfl (by decide) _ 0 _ rfl hoe.out A l.length c (ucells l) rfl (ucells_len l) hcs.out (ucells_one l) (by unfold maxLen; omega) (by omega) hb1.out ?_)
  intro v3 w3 hv3 hg3 hat3
  have hF := ext_made hH.out hg3
  obtain ⟨A3, c3, rfl, hlc3, hcm3, hO⟩ := ownU_of hv3 (by omega)
  replace hO := hide hO
  clear hg3 hat3 hoe hcs hb1 hv3 h
  replace b := hide (b.out.ext hF)
  replace r := hide (r.out.ext hF)
  try clear b_0 b_1 b_2 b_lt b_f0 b_f1 b_f2
  obtain ⟨b_0, b_1, b_2, b_lt, b_f0, b_f1, b_f2⟩ := b.out.at3f
  try clear r_0 r_1 r_2 r_lt r_f0 r_f1 r_f2
  obtain ⟨r_0, r_1, r_2, r_lt, r_f0, r_f1, r_f2⟩ := r.out.at3f
  replace hE := hide (ext_trans hE.out hF)
  clear hF
  go_wp2_with fail
  refine bodyPost_ret (v := .agg #[.int .i64 i, .slice A3 l.length c3, .int .i64 j]) (by simp [results, Tryd.results42, go_sem, r_0, r_1, r_2]) rfl ?_
  exact ⟨A3, c3, rfl, OwnU.mono ((((hO.out.set_ (by show w.heap.size < _; omega) _).set_ (by show w.heap.size + 1 < _; omega) _).set_ (by show w.heap.size + 1 < _; omega) _).set_ (by show w.heap.size + 1 < _; omega) _) (by omega),
    (((hE.out.setCell (Nat.le_refl _) _).setCell (by show w.heap.size ≤ w.heap.size + 1; omega) _).setCell (by show w.heap.size ≤ w.heap.size + 1; omega) _).setCell (by show w.heap.size ≤ w.heap.size + 1; omega) _⟩


end Go.Proofs.YtjheeeilcfbdbaaDoor
