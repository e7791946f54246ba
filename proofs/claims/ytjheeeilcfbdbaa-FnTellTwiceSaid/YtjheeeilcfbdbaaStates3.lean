/-
  Contracts: the states behind a log, both.
-/
import Derived.Test.YtjheeeilcfbdbaaStates2
import Derived.Test.YtjheeeilcfbdbaaApp2
import Derived.Test.YtjheeeilcfbdbaaDraw5
set_option linter.all false
set_option maxRecDepth 100000
namespace Go.Proofs.Ytjheeeilcfbdbaa
open Go.RowKit

theorem ext_only {w wr w' : World} {g : Nat} (h : Ext w wr) (k : wr.grownBy w' (some g)) (hg : w.heap.size ≤ g) : Ext w w' :=
  ext_of_only (only_trans (only_of_ext h (some g)) k (fun i e => by cases e; exact .inl rfl)) hg
theorem own_mono {w : World} {base base' : Nat} {e : TypeId} {size n : Nat} {v : Value} {xs : List Value} (h : w.ownsRow base e size v n xs) (hb : base' ≤ base) : w.ownsRow base' e size v n xs :=
  ⟨h.1, h.2.imp id fun ⟨g, cap, cur, hv, hg, r⟩ => ⟨g, cap, cur, hv, Nat.le_trans hb hg, r⟩⟩
theorem GotRowI.trans {w wr w' : World} {s : List Int} {e : Ending} (hE : Ext w wr) (h : GotRowI wr s e w') : GotRowI w s e w' := by
  obtain ⟨A, c, rfl, h1, h2, hown, hE'⟩ := h
  refine ⟨A, c, rfl, h1, h2, ⟨hown.1, ?_⟩, ext_trans hE hE'⟩
  rcases hown.2 with h | ⟨g, cap, cur, hv, hb, r⟩
  · exact .inl h
  · exact .inr ⟨g, cap, cur, hv, Nat.le_trans hE.size hb, r⟩
theorem gotNone {w w1 : World} (hE1 : Ext w w1) : GotRowI w [] (.returned (.slice (some ⟨w1.heap.size, 0, none⟩) 0 0)) (w1.alloc (.cells #[] 3)) :=
  GotRowI.trans hE1 (gotRowI_of rfl (World.ownsRow_made (base := w1.heap.size) (e := 3) (size := 1) w1 #[] 0 (Nat.le_refl _) (by simp [maxLen]) rfl) (ext_alloc (ext_refl _) _))
theorem gotNone' {w w1 : World} (hE1 : Ext (w.alloc (.cells #[] 3)) w1) : GotRowI w [] (.returned (.slice (some ⟨w.heap.size, 0, none⟩) 0 0)) w1 :=
  gotRowI_of rfl ((World.ownsRow_made (base := w.heap.size) (e := 3) (size := 1) w #[] 0 (Nat.le_refl _) (by simp [maxLen]) rfl).kept (only_of_ext hE1 none) (by simp [Value.ownBlock])) (ext_trans (ext_alloc (ext_refl _) _) hE1)

theorem putAt_len (s : List Int) (u : Upd) : (putAt s u).length = s.length := by simp [putAt]
theorem stBehind_len (l : List Upd) : (stBehind l).length = 5 := by
  unfold stBehind
  suffices ∀ (l : List Upd) (s : List Int), (l.foldl putAt s).length = s.length from this _ _
  intro l
  induction l with
  | nil => simp
  | cons u l ih => intro s; rw [List.foldl_cons, ih, putAt_len]
theorem stBehind_succ {l : List Upd} {k : Nat} {x y : Int} (hk : k < l.length) (hxy : l[k] = (x, y)) : stBehind (l.take (k + 1)) = putAt (stBehind (l.take k)) (x, y) := by
  rw [List.take_succ_eq_append_getElem hk, hxy]
  simp [stBehind, List.foldl_append]
theorem updOk_key {l : List Upd} (hv : logOk l = true) {k : Nat} {x y : Int} (hk : k < l.length) (hxy : l[k] = (x, y)) : 0 ≤ x ∧ x ≤ 4 := by
  have := logOk_at hv hk
  rw [hxy] at this
  simp [updOk] at this
  omega


theorem stateOf_at (l : List Upd) : stateAt l l.length = stateOf l := by
  unfold stateAt stateOf
  cases logOk l <;> simp





end Go.Proofs.Ytjheeeilcfbdbaa
