/-
  Contracts: the states of the program: an array behind a pointer.
-/
import Derived.Test.YtciekjplhbimdaaZKeys
import Derived.Test.YtciekjplhbimdaaZStates1
import Derived.Laws.CopyOwn
import Derived.RegionTactic
set_option linter.all false
set_option maxRecDepth 100000
namespace Go.Proofs.YtciekjplhbimdaaZ
open Go.RowKit

/-- Block g is the array of a state. -/
def StArr (w : World) (g : Nat) (s : List Int) : Prop := s.length = 5 ∧ Blk w g 139 (icells s).toArray
theorem StArr.cell {w : World} {g : Nat} {s : List Int} (h : StArr w g s) {i : Nat} (hi : i < 5) : ∃ x, w.cell? ⟨g, i, none⟩ = some (.int .i64 x) ∧ w.frozen? ⟨g, i, none⟩ = false := by
  have hi' : i < s.length := by rw [h.1]; exact hi
  refine ⟨s[i], ?_, h.2.frozen i⟩
  rw [h.2.cell i]
  simpa using icells_at s i hi'
theorem StArr.set_ {w : World} {g : Nat} {s : List Int} (h : StArr w g s) (i : Nat) (x : Int) : StArr (w.setCell ⟨g, i, none⟩ (.int .i64 x)) g (s.set i x) := by
  refine ⟨by simp [h.1], ?_⟩
  have := h.2.set_ i (.int .i64 x)
  unfold icells at this ⊢
  rw [List.map_set]
  simpa using this
theorem StArr.ext {w w' : World} {g : Nat} {s : List Int} (h : StArr w g s) (hE : Ext w w') : StArr w' g s := ⟨h.1, h.2.ext hE⟩
theorem StArr.drewN {w : World} {g : Nat} {s : List Int} (h : StArr w g s) (n : Nat) : StArr (w.drewN n) g s := h

theorem newState_any (w : World) : Calls Alt.prog 102 #[] w fun e w' => e = .returned (.pointer (some ⟨w.heap.size, 0, none⟩)) ∧ StArr w' w.heap.size [-1, -1, -1, -1, -1] ∧ Ext w w' := by
  have hst := hide (show StArr (w.alloc (.cells #[.int .i64 0, .int .i64 0, .int .i64 0, .int .i64 0, .int .i64 0] 139)) w.heap.size [0, 0, 0, 0, 0] from ⟨rfl, Blk.new w _ _⟩)
  go_enter Alt.func102, Try.ntmps102
  go_wp2_with fail
  go_loopw [4] (fun i wr => ∃ k : Nat, k ≤ 5 ∧ i = .int .i64 k ∧ Hid (∃ s : List Int, StArr wr w.heap.size s ∧ ∀ j, j < k → s[j]? = some (-1)) ∧ Hid (Ext w wr)) (fun i _ => 5 - (intOf i).toNat)
  case atStart => exact ⟨0, Nat.zero_le _, rfl, hide ⟨_, hst.out, fun j hj => absurd hj (Nat.not_lt_zero _)⟩, hide (ext_alloc (ext_refl _) _)⟩
  case round =>
    obtain ⟨k, hk, rfl, hS, hE⟩ := hrel
    by_cases hlt : k < 5
    · obtain ⟨s, hs, hj⟩ := hS.out
      obtain ⟨x, hc, hf⟩ := hs.cell hlt
      have hs' := hide (hs.set_ k (-1))
      have hj' : Hid (∀ j, j < k + 1 → (s.set k (-1))[j]? = some (-1)) := hide (fun j hjk => by
        by_cases e : k = j
        · subst e; rw [List.getElem?_set_self (by rw [hs.1]; exact hlt)]
        · rw [List.getElem?_set_ne e]; exact hj j (by omega))
      have hE' := hide (hE.out.setCell (p := ⟨w.heap.size, k, none⟩) (Nat.le_refl _) (.int .i64 (-1)))
      clear hs hj hS hE
      go_wp2_with fail
      go_roundw
      case rel => exact ⟨k + 1, by omega, by go_num, hide ⟨_, hs'.out, hj'.out⟩, hE'⟩
      case measure => simp [intOf]; omega
    · obtain rfl : k = 5 := by omega
      obtain ⟨s, hs, hj⟩ := hS.out
      have e : s = [-1, -1, -1, -1, -1] := by
        match s, hs.1 with
        | [a, b, c, d, f], _ =>
          have h0 := hj 0 (by omega)
          have h1 := hj 1 (by omega)
          have h2 := hj 2 (by omega)
          have h3 := hj 3 (by omega)
          have h4 := hj 4 (by omega)
          simp at h0 h1 h2 h3 h4
          simp [h0, h1, h2, h3, h4]
      subst e
      replace hs := hide hs
      clear hj hS
      go_wp2
      go_ret
      exact ⟨rfl, hs.out, hE.out⟩

theorem put_any {w : World} {g : Nat} {s : List Int} (k v : Int) (h : StArr w g s) (hk : 0 ≤ k ∧ k ≤ 4) :
    Calls Alt.prog 103 #[.pointer (some ⟨g, 0, none⟩), .agg #[.int .i64 k, .int .i64 v]] w fun e w' => e = .returned (.tuple #[]) ∧ StArr w' g (putAt s (k, v)) ∧ w.grownBy w' (some g) := by
  obtain ⟨kn, hkn⟩ := Int.eq_ofNat_of_zero_le hk.1
  subst hkn
  obtain ⟨x, hc, hf⟩ := h.cell (i := kn) (by omega)
  have hlt := h.2.lt
  replace h := hide h
  have ne1 : ¬ g = w.heap.size := by omega
  have ne2 : ¬ w.heap.size = g := by omega
  have l5 : (kn : Int) < 5 := by omega
  go_enter Alt.func103, Try.ntmps103
  go_wp2_with fail
  go_region
  all_goals go_wp2
  all_goals go_end0
  all_goals
    refine ⟨rfl, ?_, ?_⟩
    · have e : putAt s ((kn : Int), v) = s.set kn v := by simp [putAt]
      rw [e]
      exact (h.out.set_ kn v).ext (ext_drew (ext_alloc (ext_refl _) _))
    · exact only_drewN (only_alloc (only_setCell (World.grownBy.refl w (some g)) (.inl rfl) _) _) 1

theorem sizeI : (Alt.prog.info? 3).map (·.size) = some 1 := by kernel_rfl
theorem list_any {w : World} {g : Nat} {s : List Int} (h : StArr w g s) :
    Calls Alt.prog 104 #[.pointer (some ⟨g, 0, none⟩)] w (GotRowI w s) := by
  obtain ⟨i0, hi, hz0, hz1, hz2⟩ := info_parts infoI'
  have hgl := h.2.lt
  replace h := hide h
  go_enter Alt.func104, Try.ntmps104
  go_wp2_with (at_make; refine wpList_make_full _ rfl _ _ 52 rfl w.heap.size 3 i0 _ 1 Alt.underlying52 hi hz0 hz1 _ _ _ _ 5 rfl rfl rfl rfl (by rw [hz2]; omega) (by unfold maxLen; omega) (Nat.le_refl _) ?_)
  intro w1 hown hgr
  have hE1 : Ext w w1 := ⟨hgr.os, hgr.tape, hgr.output, hgr.size, fun i hi => hgr.block i hi (by simp)⟩
  obtain ⟨cur, hcur, hcs⟩ : ∃ cur : List Value, w1.heap[w.heap.size]? = some (.cells cur.toArray 3 (0, 0)) ∧ cur.length = 5 := by
    rcases hown.2 with ⟨hv, _⟩ | ⟨g', cap, cur, hv, _, hh, _, _, hs, _⟩
    · simp at hv
    · simp only [Value.slice.injEq, Option.some.injEq, Addr.mk.injEq, and_true, true_and] at hv
      obtain ⟨rfl, rfl⟩ := hv
      exact ⟨cur.toList, by simpa using hh, by simpa using hs⟩
  have h1 := hide (h.out.ext hE1)
  have hsz : w.heap.size < w1.heap.size := (Array.getElem?_eq_some_iff.1 hcur).1
  replace hcur := hide hcur
  replace hE1 := hide hE1
  replace hcs := hide hcs
  clear hown hgr
  have hl := hide h.out.1
  have q1 := hide (show (icells s).length = Nat.min 5 5 by rw [icells_len, hl.out]; rfl)
  have q2 : Hid (0 < (icells s).length → (some (⟨w.heap.size, 0, none⟩ : Addr)) = some ⟨w.heap.size, 0, none⟩ ∧ ∃ ad, (some (⟨g, 0, none⟩ : Addr)) = some ad ∧ ∀ j v, (icells s)[j]? = some v → w1.cell? (ad.add j) = some v) := hide (fun _ => ⟨rfl, _, rfl, fun j v hj => by
    rw [Addr.add_lit, Nat.zero_add, h1.out.2.cell j]; simpa using hj⟩)
  have q3 := hide (show 0 + (icells s).length ≤ cur.length by rw [icells_len, hl.out, hcs.out]; omega)
  have q4 := hide (icells_one s)
  go_wp2_with (with_reducible refine wpList_copy_splice rfl (.tmp 5) (.tmp 8) 52 52 rfl 3 Alt.underlying52 sizeI (some ⟨w.heap.size, 0, none⟩) (some ⟨g, 0, none⟩) 5 5 5 5 rfl rfl w.heap.size 0 cur 3 hcur.out (icells s) q1.out q2.out q3.out q4.out w.heap.size w hE1.out (Nat.le_refl _) ?_)
  intro w2 hh hb
  have fin : Hid (GotRowI w s (.returned (.slice (some ⟨w.heap.size, 0, none⟩) 5 5)) w2) := hide (by
    refine gotRowI_of hl.out ⟨by rw [icells_len, hl.out], .inr ⟨w.heap.size, 5, (icells s).toArray, rfl, Nat.le_refl _, ?_, Nat.le_refl _, by simp [maxLen], by simp [icells_len, hl.out], ?_⟩⟩ hb
    · have e : splice cur 0 (icells s) = icells s := by
        simp only [splice, List.take_zero, List.nil_append, Nat.zero_add]
        rw [List.drop_eq_nil_of_le (by rw [hcs.out, icells_len, hl.out]; omega), List.append_nil]
      have := hh.out
      rw [e] at this
      exact this
    · rw [List.take_of_length_le (by simp [icells_len, hl.out])])
  clear hh hb
  go_wp2
  go_ret
  exact fin.out

end Go.Proofs.YtciekjplhbimdaaZ
