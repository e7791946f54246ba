/-
  Contracts: the states behind a log, both.
-/
import Derived.Test.YtciekjplhbimdaaZStates2
import Derived.Test.YtciekjplhbimdaaZBApp
import Derived.Test.YtciekjplhbimdaaZBDraw
set_option linter.all false
set_option maxRecDepth 100000
namespace Go.Proofs.YtciekjplhbimdaaZ
open Go.RowKit

theorem ext_only {w wr w' : World} {g : Nat} (h : Ext w wr) (k : wr.grownBy w' (some g)) (hg : w.heap.size ≤ g) : Ext w w' :=
  ext_of_only (only_trans (only_of_ext h (some g)) k (fun i e => by cases e; exact .inl rfl)) hg
theorem own_mono {w : World} {base base' : Nat} {e : TypeId} {size n : Nat} {v : Value} {xs : List Value} (h : w.ownsRow base e size v n xs) (hb : base' ≤ base) : w.ownsRow base' e size v n xs :=
  ⟨h.1, h.2.imp id fun ⟨g, cap, cur, hv, hg, r⟩ => ⟨g, cap, cur, hv, Nat.le_trans hb hg, r⟩⟩
theorem GotRowI.trans {w wr w' : World} {s : List Int} {e : Ending} (hE : Ext w wr) (h : GotRowI wr s e w') : GotRowI w s e w' := by
  obtain ⟨A, c, rfl, h1, h2, hown, hE'⟩ := h
  refine ⟨A, c, rfl, h1, h2, ⟨hown.1, ?_⟩, ext_trans hE hE'⟩
  rcases hown.2 with h | ⟨g, cap, cur, hv, hb, r⟩
  · exact .inl h
  · exact .inr ⟨g, cap, cur, hv, Nat.le_trans hE.size hb, r⟩
theorem gotNone {w w1 : World} (hE1 : Ext w w1) : GotRowI w [] (.returned (.slice (some ⟨w1.heap.size, 0, none⟩) 0 0)) (w1.alloc (.cells #[] 3)) :=
  GotRowI.trans hE1 (gotRowI_of rfl (World.ownsRow_made (base := w1.heap.size) (e := 3) (size := 1) w1 #[] 0 (Nat.le_refl _) (by simp [maxLen]) rfl) (ext_alloc (ext_refl _) _))
theorem gotNone' {w w1 : World} (hE1 : Ext (w.alloc (.cells #[] 3)) w1) : GotRowI w [] (.returned (.slice (some ⟨w.heap.size, 0, none⟩) 0 0)) w1 :=
  gotRowI_of rfl ((World.ownsRow_made (base := w.heap.size) (e := 3) (size := 1) w #[] 0 (Nat.le_refl _) (by simp [maxLen]) rfl).kept (only_of_ext hE1 none) (by simp [Value.ownBlock])) (ext_trans (ext_alloc (ext_refl _) _) hE1)

theorem putAt_len (s : List Int) (u : Upd) : (putAt s u).length = s.length := by simp [putAt]
theorem stBehind_len (l : List Upd) : (stBehind l).length = 5 := by
  unfold stBehind
  suffices ∀ (l : List Upd) (s : List Int), (l.foldl putAt s).length = s.length from this _ _
  intro l
  induction l with
  | nil => simp
  | cons u l ih => intro s; rw [List.foldl_cons, ih, putAt_len]
theorem stBehind_succ {l : List Upd} {k : Nat} {x y : Int} (hk : k < l.length) (hxy : l[k] = (x, y)) : stBehind (l.take (k + 1)) = putAt (stBehind (l.take k)) (x, y) := by
  rw [List.take_succ_eq_append_getElem hk, hxy]
  simp [stBehind, List.foldl_append]
theorem updOk_key {l : List Upd} (hv : logOk l = true) {k : Nat} {x y : Int} (hk : k < l.length) (hxy : l[k] = (x, y)) : 0 ≤ x ∧ x ≤ 4 := by
  have := logOk_at hv hk
  rw [hxy] at this
  simp [updOk] at this
  omega

theorem implStateAt_any {A : Option Addr} {l : List Upd} (c : Nat) (many : Int) {w : World} (h : LogR w A l) (hm : l.length ≤ 1048576) (hlc : l.length ≤ c) :
    Calls Alt.prog 73 #[.slice A l.length c, .int .i64 many] w (GotRowI w (stateAt l many)) := by
  have h := hide h
  by_cases hv : logOk l = true
  · by_cases hneg : many < 0
    · have hd : decide (many < 0) = true := by simpa using hneg
      have e : stateAt l many = [] := by unfold stateAt; rw [if_neg (by simp; omega)]
      rw [e]
      go_enter Alt.func73, Try.ntmps73
      go_wp2_with fail
      refine (implLogValid_any c h.out hm).mono ?_
      rintro e w1 ⟨rfl, hE1⟩
      have fin := hide (gotNone hE1)
      clear hE1
      go_wp2_with fail
      go_ret
      exact fin.out
    obtain ⟨mn, rfl⟩ := Int.eq_ofNat_of_zero_le (show 0 ≤ many by omega)
    have hd : decide ((mn : Int) < 0) = false := by simp
    by_cases hbig : l.length < mn
    · have hd2 : decide ((l.length : Int) < (mn : Int)) = true := by simp; omega
      have e : stateAt l mn = [] := by unfold stateAt; rw [if_neg (by simp; omega)]
      rw [e]
      go_enter Alt.func73, Try.ntmps73
      go_wp2_with fail
      refine (implLogValid_any c h.out hm).mono ?_
      rintro e w1 ⟨rfl, hE1⟩
      have fin := hide (gotNone hE1)
      clear hE1
      go_wp2_with fail
      go_ret
      exact fin.out
    · have hle : mn ≤ l.length := by omega
      have hd2 : decide ((l.length : Int) < (mn : Int)) = false := by simp; omega
      have e : stateAt l mn = stBehind (l.take mn) := by unfold stateAt; rw [if_pos (by simp [hv, hle])]; simp
      rw [e]
      replace e := hide e
      have hmc : mn ≤ c := by omega
      go_enter Alt.func73, Try.ntmps73
      go_wp2_with fail
      refine (implLogValid_any c h.out hm).mono ?_
      rintro e w1 ⟨rfl, hE1⟩
      replace hE1 := hide hE1
      go_wp2_with fail
      refine (newState_any w1).mono ?_
      rintro e w2 ⟨rfl, hst2, hE2⟩
      have hgw : w.heap.size ≤ w1.heap.size := hE1.out.size
      have hst := hide (show StArr w2 w1.heap.size (stBehind (l.take 0)) by simpa [stBehind] using hst2)
      replace hE2 := hide (ext_trans hE1.out hE2)
      clear hst2 hE1
      go_wp2_with fail
      go_loopw [27] (fun i wr => ∃ k : Nat, k ≤ mn ∧ i = .int .i64 k ∧ Hid (StArr wr w1.heap.size (stBehind (l.take k))) ∧ Hid (Ext w wr)) (fun i _ => mn - (intOf i).toNat)
      case atStart => exact ⟨0, Nat.zero_le _, rfl, hst, hE2⟩
      case round =>
        obtain ⟨k, hk, rfl, hS, hE⟩ := hrel
        by_cases hlt : k < mn
        · have hkl : k < l.length := by omega
          obtain ⟨b, o, x, y, hA, hb, hxy, hc0, hc1⟩ := log_at (h.out.ext hE.out) hkl
          subst hA
          have hkey := updOk_key hv hkl hxy
          replace hxy := hide hxy
          have hS' : Hid (∀ o, StArr (wr.alloc o) w1.heap.size (stBehind (l.take k))) := hide (fun o => hS.out.ext (ext_alloc (ext_refl _) _))
          go_wp2_with (go_at_call 103; refine (put_any _ _ (hS'.out _) hkey).mono ?_; rintro e w' ⟨rfl, hS2, hg2⟩)
          have hE3 := hide (ext_only (ext_alloc hE.out _) hg2 hgw)
          have hS3 := hide (show StArr w' w1.heap.size (stBehind (l.take (k + 1))) by rw [stBehind_succ hkl hxy.out]; exact hS2)
          clear hS2 hg2 hS' hS hE
          go_wp2
          go_roundw
          case rel => exact ⟨k + 1, by omega, by go_num, hS3, hE3⟩
          case measure => simp [intOf]; omega
        · obtain rfl : k = mn := by omega
          go_wp2_with fail
          refine (list_any hS.out).mono ?_
          intro e w4 hG
          have fin := hide (GotRowI.trans hE.out hG)
          obtain ⟨A4, c4, rfl, _⟩ := hG
          go_wp2_with fail
          go_ret
          exact fin.out
  · have hv : logOk l = false := by simpa using hv
    have e : stateAt l many = [] := by unfold stateAt; rw [hv]; rfl
    rw [e]
    go_enter Alt.func73, Try.ntmps73
    go_wp2_with fail
    refine (implLogValid_any c h.out hm).mono ?_
    rintro e w1 ⟨rfl, hE1⟩
    have fin := hide (gotNone hE1)
    clear hE1
    go_wp2_with fail
    go_ret
    exact fin.out

theorem stateOf_at (l : List Upd) : stateAt l l.length = stateOf l := by
  unfold stateAt stateOf
  cases logOk l <;> simp

theorem implStateOf_any {A : Option Addr} {l : List Upd} (c : Nat) {w : World} (h : LogR w A l) (hm : l.length ≤ 1048576) (hlc : l.length ≤ c) :
    Calls Alt.prog 50 #[.slice A l.length c] w (GotRowI w (stateOf l)) := by
  have h := hide h
  go_enter Alt.func50, Try.ntmps50
  go_wp2_with fail
  refine (implStateAt_any c _ h.out hm hlc).mono ?_
  intro e w4 hG
  rw [stateOf_at] at hG
  have fin := hide hG
  obtain ⟨A4, c4, rfl, _⟩ := hG
  go_wp2_with fail
  go_ret
  exact fin.out




end Go.Proofs.YtciekjplhbimdaaZ
