/-
  The walks of the laws FnStatePart, FnStateAll: each returns true for every input, and leaves its arguments as they were.
-/
import Derived.Test.YtciekjplhbimdaaZStates4
import Derived.Test.YtciekjplhbimdaaZBDraw
import Derived.Test.YtciekjplhbimdaaZSame
set_option linter.all false
set_option maxRecDepth 100000
namespace Go.Proofs.YtciekjplhbimdaaZ
open Go.RowKit

theorem len64c {n c : Nat} {w : World} {a : Option Addr} (h : CodeR w a n c) : n ≤ 9223372036854775807 := by have := h.1; have := h.2.1; unfold maxLen at this; omega
theorem GotRowI.use {w w' : World} {xs : List Int} {e : Ending} (h : GotRowI w xs e w') : ∃ A c, e = .returned (.slice A xs.length c) ∧ xs.length ≤ c ∧ c ≤ maxLen ∧ Hid (IntsR w' A xs) ∧ Hid (Ext w w') := by
  obtain ⟨A, c, rfl, h1, h2, h3, h4⟩ := h
  exact ⟨A, c, rfl, h1, h2, CellsR.of_own h3, h4⟩

theorem stateOk_put {s : List Int} {u : Upd} (h : stateOk s = true) (hu : updOk u = true) : stateOk (putAt s u) = true := by
  refine stateOk_of (by rw [putAt_len]; exact stateOk_len h) fun i hi => ?_
  simp only [putAt, List.getElem_set]
  split
  · simp [updOk] at hu; simp [valOk]; omega
  · exact stateOk_at h _
theorem stateOk_behind {l : List Upd} (h : logOk l = true) : stateOk (stBehind l) = true := by
  unfold stBehind
  suffices ∀ (l : List Upd) (s : List Int), (∀ u ∈ l, updOk u = true) → stateOk s = true → stateOk (l.foldl putAt s) = true by
    refine this _ _ (fun u hu => ?_) (by decide)
    obtain ⟨j, hj, e⟩ := List.mem_iff_getElem.1 hu
    rw [← e]; exact logOk_at h hj
  intro l
  induction l with
  | nil => intro s _ hs; simpa using hs
  | cons u l ih => intro s hu hs; exact ih _ (fun v hv => hu v (List.mem_cons_of_mem _ hv)) (stateOk_put hs (hu u (List.mem_cons_self ..)))
theorem stateAt_len (l : List Upd) (k : Int) : (stateAt l k).length ≤ 5 := by unfold stateAt; split <;> simp [stBehind_len]
theorem stateOf_len (l : List Upd) : (stateOf l).length ≤ 5 := by unfold stateOf; split <;> simp [stBehind_len]
theorem stateAt_yes {l : List Upd} {k : Int} {s : List Int} (hs : stateAt l k = s) (hz : s.length ≠ 0) : logOk l = true ∧ 0 ≤ k ∧ k ≤ l.length ∧ s = stBehind (l.take k.toNat) := by
  unfold stateAt at hs
  split at hs
  · rename_i h; simp at h; exact ⟨h.1, h.2.1, h.2.2, hs.symm⟩
  · subst hs; simp at hz
theorem stateOf_yes {l : List Upd} {s : List Int} (hs : stateOf l = s) (hz : s.length ≠ 0) : logOk l = true ∧ s = stBehind l := by
  unfold stateOf at hs
  split at hs
  · rename_i h; exact ⟨h, hs.symm⟩
  · subst hs; simp at hz

theorem implStateOf_s {A : Option Addr} {l : List Upd} {n : Nat} {s : List Int} (c : Nat) {w : World} (h : LogR w A l) (hn : l.length = n) (hm : l.length ≤ 1048576) (hlc : l.length ≤ c) (hs : stateOf l = s) :
    Calls Alt.prog 50 #[.slice A n c] w (GotRowI w s) := by subst hs hn; exact implStateOf_any c h hm hlc


end Go.Proofs.YtciekjplhbimdaaZ
