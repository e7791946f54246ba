/-
  Contracts: the states behind a log, both.
-/
import Derived.Test.YtkmfjiepkdidgaaStates2
import Derived.Test.YtkmfjiepkdidgaaApp2
import Derived.Test.YtkmfjiepkdidgaaDraw5
set_option linter.all false
set_option maxRecDepth 100000
namespace Go.Proofs.Ytkmfjiepkdidgaa
open Go.RowKit

theorem ext_only {w wr w' : World} {g : Nat} (h : Ext w wr) (k : wr.grownBy w' (some g)) (hg : w.heap.size ≤ g) : Ext w w' :=
  ext_of_only (only_trans (only_of_ext h (some g)) k (fun i e => by cases e; exact .inl rfl)) hg
theorem own_mono {w : World} {base base' : Nat} {e : TypeId} {size n : Nat} {v : Value} {xs : List Value} (h : w.ownsRow base e size v n xs) (hb : base' ≤ base) : w.ownsRow base' e size v n xs :=
  ⟨h.1, h.2.imp id fun ⟨g, cap, cur, hv, hg, r⟩ => ⟨g, cap, cur, hv, Nat.le_trans hb hg, r⟩⟩
theorem GotRowI.trans {w wr w' : World} {s : List Int} {e : Ending} (hE : Ext w wr) (h : GotRowI wr s e w') : GotRowI w s e w' := by
  obtain ⟨A, c, rfl, h1, h2, hown, hE'⟩ := h
  refine ⟨A, c, rfl, h1, h2, ⟨hown.1, ?_⟩, ext_trans hE hE'⟩
  rcases hown.2 with h | ⟨g, cap, cur, hv, hb, r⟩
  · exact .inl h
  · exact .inr ⟨g, cap, cur, hv, Nat.le_trans hE.size hb, r⟩
theorem gotNone {w w1 : World} (hE1 : Ext w w1) : GotRowI w [] (.returned (.slice (some ⟨w1.heap.size, 0, none⟩) 0 0)) (w1.alloc (.cells #[] 3)) :=
  GotRowI.trans hE1 (gotRowI_of rfl (World.ownsRow_made (base := w1.heap.size) (e := 3) (size := 1) w1 #[] 0 (Nat.le_refl _) (by simp [maxLen]) rfl) (ext_alloc (ext_refl _) _))
theorem gotNone' {w w1 : World} (hE1 : Ext (w.alloc (.cells #[] 3)) w1) : GotRowI w [] (.returned (.slice (some ⟨w.heap.size, 0, none⟩) 0 0)) w1 :=
  gotRowI_of rfl ((World.ownsRow_made (base := w.heap.size) (e := 3) (size := 1) w #[] 0 (Nat.le_refl _) (by simp [maxLen]) rfl).kept (only_of_ext hE1 none) (by simp [Value.ownBlock])) (ext_trans (ext_alloc (ext_refl _) _) hE1)

theorem putAt_len (s : List Int) (u : Upd) : (putAt s u).length = s.length := by simp [putAt]
theorem stBehind_len (l : List Upd) : (stBehind l).length = 5 := by
  unfold stBehind
  suffices ∀ (l : List Upd) (s : List Int), (l.foldl putAt s).length = s.length from this _ _
  intro l
  induction l with
  | nil => simp
  | cons u l ih => intro s; rw [List.foldl_cons, ih, putAt_len]
theorem stBehind_succ {l : List Upd} {k : Nat} {x y : Int} (hk : k < l.length) (hxy : l[k] = (x, y)) : stBehind (l.take (k + 1)) = putAt (stBehind (l.take k)) (x, y) := by
  rw [List.take_succ_eq_append_getElem hk, hxy]
  simp [stBehind, List.foldl_append]
theorem updOk_key {l : List Upd} (hv : logOk l = true) {k : Nat} {x y : Int} (hk : k < l.length) (hxy : l[k] = (x, y)) : 0 ≤ x ∧ x ≤ 4 := by
  have := logOk_at hv hk
  rw [hxy] at this
  simp [updOk] at this
  omega

theorem implStateAt_any {A : Option Addr} {l : List Upd} (c : Nat) (many : Int) {w : World} (h : LogR w A l) (hm : l.length ≤ 1048576) (hlc : l.length ≤ c) :
    Calls Try.prog 65 #[.slice A l.length c, .int .i64 many] w (GotRowI w (stateAt l many)) := by
  have h := hide h
  by_cases hv : logOk l = true
  · by_cases hneg : many < 0
    · have hd : decide (many < 0) = true := by simpa using hneg
      have e : stateAt l many = [] := by unfold stateAt; rw [if_neg (by simp; omega)]
      rw [e]
      go_enter Try.func65, Try.ntmps65
      go_wp2_with fail
      refine (implLogValid_any c h.out hm).mono ?_
      rintro e w1 ⟨rfl, hE1⟩
      have fin := hide (gotNone hE1)
      clear hE1
      go_wp2_with fail
      go_ret
      exact fin.out
    obtain ⟨mn, rfl⟩ := Int.eq_ofNat_of_zero_le (show 0 ≤ many by omega)
    have hd : decide ((mn : Int) < 0) = false := by simp
    by_cases hbig : l.length < mn
    · have hd2 : decide ((l.length : Int) < (mn : Int)) = true := by simp; omega
      have e : stateAt l mn = [] := by unfold stateAt; rw [if_neg (by simp; omega)]
      rw [e]
      go_enter Try.func65, Try.ntmps65
      go_wp2_with fail
      refine (implLogValid_any c h.out hm).mono ?_
      rintro e w1 ⟨rfl, hE1⟩
      have fin := hide (gotNone hE1)
      clear hE1
      go_wp2_with fail
      go_ret
      exact fin.out
    · have hle : mn ≤ l.length := by omega
      have hd2 : decide ((l.length : Int) < (mn : Int)) = false := by simp; omega
      have e : stateAt l mn = stBehind (l.take mn) := by unfold stateAt; rw [if_pos (by simp [hv, hle])]; simp
      rw [e]
      replace e := hide e
      have hmc : mn ≤ c := by omega
      go_enter Try.func65, Try.ntmps65
      go_wp2_with fail
      refine (implLogValid_any c h.out hm).mono ?_
      rintro e w1 ⟨rfl, hE1⟩
      replace hE1 := hide hE1
      go_wp2_with fail
      refine (newState_any w1).mono ?_
      rintro e w2 ⟨rfl, hst2, hE2⟩
      have hgw : w.heap.size ≤ w1.heap.size := hE1.out.size
      have hst := hide (show StArr w2 w1.heap.size (stBehind (l.take 0)) by simpa [stBehind] using hst2)
      replace hE2 := hide (ext_trans hE1.out hE2)
      clear hst2 hE1
      go_wp2_with fail
      go_loopw [27] (fun i wr => ∃ k : Nat, k ≤ mn ∧ i = .int .i64 k ∧ Hid (StArr wr w1.heap.size (stBehind (l.take k))) ∧ Hid (Ext w wr)) (fun i _ => mn - (intOf i).toNat)
      case atStart => exact ⟨0, Nat.zero_le _, rfl, hst, hE2⟩
      case round =>
        obtain ⟨k, hk, rfl, hS, hE⟩ := hrel
        by_cases hlt : k < mn
        · have hkl : k < l.length := by omega
          obtain ⟨b, o, x, y, hA, hb, hxy, hc0, hc1⟩ := log_at (h.out.ext hE.out) hkl
          subst hA
          have hkey := updOk_key hv hkl hxy
          replace hxy := hide hxy
          have hS' : Hid (∀ o, StArr (wr.alloc o) w1.heap.size (stBehind (l.take k))) := hide (fun o => hS.out.ext (ext_alloc (ext_refl _) _))
          go_wp2_with (go_at_call 78; refine (put_any _ _ (hS'.out _) hkey).mono ?_; rintro e w' ⟨rfl, hS2, hg2⟩)
          have hE3 := hide (ext_only (ext_alloc hE.out _) hg2 hgw)
          have hS3 := hide (show StArr w' w1.heap.size (stBehind (l.take (k + 1))) by rw [stBehind_succ hkl hxy.out]; exact hS2)
          clear hS2 hg2 hS' hS hE
          go_wp2
          go_roundw
          case rel => exact ⟨k + 1, by omega, by go_num, hS3, hE3⟩
          case measure => simp [intOf]; omega
        · obtain rfl : k = mn := by omega
          go_wp2_with fail
          refine (list_any hS.out).mono ?_
          intro e w4 hG
          have fin := hide (GotRowI.trans hE.out hG)
          obtain ⟨A4, c4, rfl, _⟩ := hG
          go_wp2_with fail
          go_ret
          exact fin.out
  · have hv : logOk l = false := by simpa using hv
    have e : stateAt l many = [] := by unfold stateAt; rw [hv]; rfl
    rw [e]
    go_enter Try.func65, Try.ntmps65
    go_wp2_with fail
    refine (implLogValid_any c h.out hm).mono ?_
    rintro e w1 ⟨rfl, hE1⟩
    have fin := hide (gotNone hE1)
    clear hE1
    go_wp2_with fail
    go_ret
    exact fin.out

theorem stateOf_at (l : List Upd) : stateAt l l.length = stateOf l := by
  unfold stateAt stateOf
  cases logOk l <;> simp

theorem implStateOf_any {A : Option Addr} {l : List Upd} (c : Nat) {w : World} (h : LogR w A l) (hm : l.length ≤ 1048576) (hlc : l.length ≤ c) :
    Calls Try.prog 43 #[.slice A l.length c] w (GotRowI w (stateOf l)) := by
  have h := hide h
  go_enter Try.func43, Try.ntmps43
  go_wp2_with fail
  refine (implStateAt_any c _ h.out hm hlc).mono ?_
  intro e w4 hG
  rw [stateOf_at] at hG
  have fin := hide hG
  obtain ⟨A4, c4, rfl, _⟩ := hG
  go_wp2_with fail
  go_ret
  exact fin.out

theorem l2Empty_any (w : World) : Calls Try.prog 76 #[] w (GotRowI w [-1, -1, -1, -1, -1]) := by
  obtain ⟨i0, hi, hz0, hz1, hz2⟩ := info_parts infoI'
  have hst := hide (World.ownsRow_made (base := w.heap.size) (e := 3) (size := 1) w #[] 0 (Nat.le_refl _) (by simp [maxLen]) rfl)
  have hE0 := hide (ext_alloc (ext_refl w) (.cells #[] 3))
  go_enter Try.func76, Try.ntmps76
  go_wp2_with fail
  go_loopw [1, 2] (fun v i wr => ∃ k : Nat, k ≤ 5 ∧ i = .int .i64 k ∧ Hid (wr.ownsRow w.heap.size 3 1 v k (icells (List.replicate k (-1)))) ∧ Hid (Ext w wr)) (fun _ i _ => 5 - (intOf i).toNat)
  case atStart => exact ⟨0, Nat.zero_le _, rfl, hst, hE0⟩
  case round =>
    obtain ⟨k, hk, rfl, hown, hE⟩ := hrel
    have hs := hE.out.size
    by_cases hlt : k < 5
    · go_wp2_with (at_builtin; refine wpList_append_own _ rfl _ _ 33 rfl w.heap.size 3 i0 _ 1 8 Try.underlying33 hi hz0 hz1 hz2 rfl (by decide) _ k _ rfl (hown.out.alloc _) ⟨wr.heap.size, 0, none⟩ 1 1 [.int .i64 (-1)] rfl rfl ?c1 ?c2 ?c3 ?c4 ?c5 ?_)
      case c1 =>
        intro j u hj
        match j, hj with
        | 0, hj => simp at hj; subst hj; simp [Addr.add]
      case c2 => intro u hu; simp at hu; rcases hu with rfl; rfl
      case c3 => unfold maxLen; omega
      case c4 => omega
      case c5 => simp; omega
      intro v' w' hown' hgrow _
      have hown2 := hide (show w'.ownsRow w.heap.size 3 1 v' (k + 1) (icells (List.replicate (k + 1) (-1))) by
        rw [List.replicate_succ']; simpa [icells] using hown')
      have hE2 : Hid (Ext w w') := hide (ext_of_only (g := w.heap.size) (only_trans (only_of_ext (ext_alloc hE.out _) _) hgrow fun i hi => .inr (hown.out.lt i hi).1) (Nat.le_refl _))
      clear hown' hgrow hown hE
      go_wp2
      go_roundw
      case rel => exact ⟨k + 1, by omega, by go_num, hown2, hE2⟩
      case measure => simp [intOf]; omega
    · obtain rfl : k = 5 := by omega
      have fin := hide (gotRowI_of (n := 5) rfl hown.out hE.out)
      clear hown hE
      go_wp2
      go_ret
      exact fin.out

theorem specL2At_any {A : Option Addr} {l : List Upd} (c mn : Nat) {w : World} (h : LogR w A l) (hm : l.length ≤ 1048576) (hv : logOk l = true) (hle : mn ≤ l.length) :
    Calls Try.prog 64 #[.slice A l.length c, .int .i64 mn] w (GotRowI w (stBehind (l.take mn))) := by
  have h := hide h
  go_enter Try.func64, Try.ntmps64
  go_wp2_with fail
  refine (l2Empty_any w).mono ?_
  rintro e w1 ⟨A1, c1, rfl, hl1, hm1, hown1, hE1⟩
  obtain ⟨g, c2, hvv, hg0, hg1, hlc, hcm⟩ := own_at hown1 (by decide)
  injection hvv with h1 h2 h3
  subst h1
  subst h3
  have hst := hide (show w1.ownsRow w.heap.size 3 1 (.slice (some ⟨g, 0, none⟩) 5 c1) 5 (icells (stBehind (l.take 0))) from hown1)
  replace hE1 := hide hE1
  clear hown1
  go_wp2_with fail
  go_loopw [6] (fun i wr => ∃ k : Nat, k ≤ mn ∧ i = .int .i64 k ∧ Hid (wr.ownsRow w.heap.size 3 1 (.slice (some ⟨g, 0, none⟩) 5 c1) 5 (icells (stBehind (l.take k)))) ∧ Hid (Ext w wr)) (fun i _ => mn - (intOf i).toNat)
  case atStart => exact ⟨0, Nat.zero_le _, rfl, hst, hE1⟩
  case round =>
    obtain ⟨k, hk, rfl, hown, hE⟩ := hrel
    by_cases hlt : k < mn
    · have hkl : k < l.length := by omega
      obtain ⟨b, o, x, y, hA, hb, hxy, hc0, hc1⟩ := log_at (h.out.ext hE.out) hkl
      subst hA
      have hkey := updOk_key hv hkl hxy
      obtain ⟨xn, rfl⟩ := Int.eq_ofNat_of_zero_le hkey.1
      have hx5 : xn < 5 := by omega
      have c0 : ∃ u, wr.cell? ⟨g, xn, none⟩ = some u := by
        rw [hown.out.cellAt xn (by omega)]
        exact ⟨_, List.getElem?_eq_getElem (by rw [icells_len, stBehind_len]; omega)⟩
      obtain ⟨u0, c0⟩ := c0
      have f0 := hown.out.frozenAt xn
      have hE2 : Hid (Ext w (wr.setCell ⟨g, xn, none⟩ (.int .i64 y))) := hide (hE.out.setCell hg0 _)
      have hown2 : Hid ((wr.setCell ⟨g, xn, none⟩ (.int .i64 y)).ownsRow w.heap.size 3 1 (.slice (some ⟨g, 0, none⟩) 5 c1) 5 (icells (stBehind (l.take (k + 1))))) := hide (by
        have := (hown.out.stored xn (.int .i64 y)).1
        rw [stBehind_succ hkl hxy]
        unfold icells at this ⊢
        simp only [putAt, Int.toNat_natCast]
        rw [List.map_set]
        exact this)
      clear hown hE
      go_wp2_with fail
      go_region
      all_goals go_wp2
      all_goals go_roundw
      case rel => exact ⟨k + 1, by omega, by go_num, hide (World.ownsRow.drew hown2.out), hide (ext_drew hE2.out)⟩
      case measure => simp [intOf]; omega
    · obtain rfl : k = mn := by omega
      have fin := hide (gotRowI_of (stBehind_len _) hown.out hE.out)
      clear hown hE
      go_wp2
      go_ret
      exact fin.out


end Go.Proofs.Ytkmfjiepkdidgaa
