/-
  Contracts: LogKey, both.
-/
import Derived.Test.YtfkongkokegjjaaExact1
set_option linter.all false
namespace Go.Proofs.Ytfkongkokegjjaa
open Go.RowKit

/-- A new row of numbers is handed back. -/
def GotRowI (w : World) (xs : List Int) (e : Ending) (w' : World) : Prop :=
  ∃ (A : Option Addr) (c : Nat), e = .returned (.slice A xs.length c) ∧ xs.length ≤ c ∧ c ≤ maxLen ∧ w'.ownsRow w.heap.size 3 1 (.slice A xs.length c) xs.length (icells xs) ∧ Ext w w'

theorem gotRowI_of {w w' : World} {v : Value} {n : Nat} {xs : List Int} (hn : xs.length = n) (h : w'.ownsRow w.heap.size 3 1 v n (icells xs)) (hE : Ext w w') : GotRowI w xs (.returned v) w' := by
  subst hn
  rcases h.2 with ⟨rfl, h0⟩ | ⟨g, cap, cur, rfl, hb, hh, h1, h2, r⟩
  · exact ⟨none, 0, by rw [h0], by omega, by simp [maxLen], by rw [h0]; rw [h0] at h; exact h, hE⟩
  · exact ⟨_, cap, rfl, h1, h2, h, hE⟩

theorem keysFrom_append (key : Int) : ∀ (n : Nat) (a b : List Upd), keysFrom key n (a ++ b) = keysFrom key n a ++ keysFrom key (n + a.length) b
  | n, [], b => by simp [keysFrom]
  | n, u :: a, b => by
    simp only [List.cons_append, keysFrom, keysFrom_append key (n + 1) a b, List.length_cons]
    rw [show n + 1 + a.length = n + (a.length + 1) by omega]
    split <;> simp
theorem keysFrom_len (key : Int) : ∀ (n : Nat) (a : List Upd), (keysFrom key n a).length ≤ a.length
  | n, [] => by simp [keysFrom]
  | n, u :: a => by
    have := keysFrom_len key (n + 1) a
    simp only [keysFrom]; split <;> simp <;> omega
theorem keysFrom_hit {l : List Upd} {k : Nat} {x y key : Int} (hk : k < l.length) (hxy : l[k] = (x, y)) (h : x = key) : keysFrom key 0 (l.take (k + 1)) = keysFrom key 0 (l.take k) ++ [(k : Int) + 1] := by
  rw [List.take_succ_eq_append_getElem hk, keysFrom_append, hxy]
  simp [keysFrom, h, List.length_take, show min k l.length = k by omega]
theorem keysFrom_miss {l : List Upd} {k : Nat} {x y key : Int} (hk : k < l.length) (hxy : l[k] = (x, y)) (h : ¬ x = key) : keysFrom key 0 (l.take (k + 1)) = keysFrom key 0 (l.take k) := by
  rw [List.take_succ_eq_append_getElem hk, keysFrom_append, hxy]
  simp [keysFrom, h]

/-- What is held at the head of the loop. -/
def KeysTo (w : World) (l : List Upd) (key : Int) (v : Value) (k : Nat) (wr : World) : Prop :=
  ∃ n, (keysFrom key 0 (l.take k)).length = n ∧ wr.ownsRow w.heap.size 3 1 v n (icells (keysFrom key 0 (l.take k))) ∧ Ext w wr

theorem keysTo_hit {w wr w' : World} {o : Obj} {l : List Upd} {key x y : Int} {v v' : Value} {k n : Nat} (hk : k < l.length) (hxy : l[k] = (x, y)) (h : x = key) (hn : (keysFrom key 0 (l.take k)).length = n)
    (hown : wr.ownsRow w.heap.size 3 1 v n (icells (keysFrom key 0 (l.take k)))) (hE : Ext w wr)
    (hown' : w'.ownsRow w.heap.size 3 1 v' (n + 1) (icells (keysFrom key 0 (l.take k)) ++ [.int .i64 ((k : Int) + 1)])) (hg : (wr.alloc o).grownBy w' v.ownBlock) : KeysTo w l key v' (k + 1) w' := by
  refine ⟨n + 1, by rw [keysFrom_hit hk hxy h]; simp [hn], by rw [keysFrom_hit hk hxy h]; simpa [icells] using hown', ?_⟩
  have h1 : w.grownBy (wr.alloc o) (some w.heap.size) := only_of_ext (ext_alloc hE o) _
  exact ext_of_only (only_trans h1 hg fun i hi => .inr (hown.lt i hi).1) (Nat.le_refl _)

theorem implLogKey_any {A : Option Addr} {l : List Upd} (c : Nat) (key : Int) {w : World} (h : LogR w A l) (hm : l.length ≤ 1048576) :
    Calls Try.prog 16 #[.slice A l.length c, .int .i64 key] w (GotRowI w (logKey l key)) := by
  replace h := hide h
  obtain ⟨i0, hi, hz0, hz1, hz2⟩ := info_parts infoI'
  by_cases hv : logOk l = true
  · go_enter Try.func16, Try.ntmps16
    go_wp2_with fail
    refine (implLogValid_any c (h.out.ext (ext_alloc (ext_refl _) _)) hm).mono ?_
    rintro e w1 ⟨rfl, hE1⟩
    have hst := hide (show KeysTo w l key (.slice (some ⟨w.heap.size, 0, none⟩) 0 0) 0 w1 from
      ⟨0, by simp [keysFrom], (World.ownsRow_made (base := w.heap.size) (e := 3) (size := 1) w #[] 0 (Nat.le_refl _) (by simp [maxLen]) rfl).kept (only_of_ext hE1 none) (by simp [Value.ownBlock]), ext_trans (ext_alloc (ext_refl _) _) hE1⟩)
    clear hE1
    go_wp2_with fail
    go_loopw [5, 15] (fun v i wr => ∃ k : Nat, k ≤ l.length ∧ i = .int .i64 k ∧ Hid (KeysTo w l key v k wr)) (fun _ i _ => l.length - (intOf i).toNat)
    case atStart => exact ⟨0, Nat.zero_le _, rfl, hst⟩
    case round =>
      obtain ⟨k, hk, rfl, hK⟩ := hrel
      by_cases hlt : k < l.length
      · obtain ⟨n, hn, hown, hE⟩ := hK.out
        replace hn := hide hn
        replace hown := hide hown
        replace hE := hide hE
        have hnk : n ≤ k := by have := keysFrom_len key 0 (l.take k); rw [hn.out, List.length_take] at this; omega
        obtain ⟨b, o, x, y, hA, hb, hxy, hc0, hc1⟩ := log_at (h.out.ext hE.out) hlt
        subst hA
        replace hxy := hide hxy
        have hs := hE.out.size
        by_cases hv' : x = key
        · subst hv'
          go_wp2_with (at_builtin; refine wpList_append_own _ rfl _ _ 26 rfl w.heap.size 3 i0 _ 1 8 Try.underlying26 hi hz0 hz1 hz2 rfl (by decide) _ n _ rfl ((hown.out.alloc _).alloc _) ⟨wr.heap.size + 1, 0, none⟩ 1 1 [.int .i64 ((k : Int) + 1)] rfl rfl ?c1 ?c2 ?c3 ?c4 ?c5 ?_)
          case c1 =>
            intro j u hj
            match j, hj with
            | 0, hj => simp at hj; subst hj; simp [Addr.add]
          case c2 => intro u hu; simp at hu; rcases hu with rfl; rfl
          case c3 => unfold maxLen; omega
          case c4 => omega
          case c5 => simp; omega
          intro v' w' hown' hgrow _
          have hst' := hide (keysTo_hit hlt hxy.out rfl hn.out (hown.out.alloc _) (ext_alloc hE.out _) hown' hgrow)
          clear hown' hgrow hown hn hK
          go_wp2
          go_roundw
          case rel => exact ⟨k + 1, by omega, by go_num, hst'⟩
          case measure => simp [intOf]; omega
        · have hb' : (x == key) = false := by simpa using hv'
          have hst' : Hid (∀ o, KeysTo w l key u5 (k + 1) (wr.alloc o)) := hide (fun o => ⟨n, by rw [keysFrom_miss hlt hxy.out hv']; exact hn.out, by rw [keysFrom_miss hlt hxy.out hv']; exact hown.out.alloc _, ext_alloc hE.out _⟩)
          clear hown hn hK
          go_wp2
          go_roundw
          case rel => exact ⟨k + 1, by omega, by go_num, hide (hst'.out _)⟩
          case measure => simp [intOf]; omega
      · obtain ⟨n, hn, hown, hE⟩ := hK.out
        have hkl : l.take k = l := List.take_of_length_le (by omega)
        rw [hkl] at hn hown
        have fin := hide (show GotRowI w (logKey l key) (.returned u5) wr from by unfold logKey; rw [if_pos hv]; exact gotRowI_of hn hown hE)
        clear hn hown hE hkl hK
        go_wp2
        go_ret
        exact fin.out
  · have hv : logOk l = false := by simpa using hv
    go_enter Try.func16, Try.ntmps16
    go_wp2_with fail
    refine (implLogValid_any c (h.out.ext (ext_alloc (ext_refl _) _)) hm).mono ?_
    rintro e w1 ⟨rfl, hE1⟩
    have fin := hide (show GotRowI w (logKey l key) (.returned (.slice (some ⟨w.heap.size, 0, none⟩) 0 0)) w1 from by
      have e : logKey l key = [] := by unfold logKey; rw [hv]; rfl
      rw [e]
      exact gotRowI_of rfl ((World.ownsRow_made (base := w.heap.size) (e := 3) (size := 1) w #[] 0 (Nat.le_refl _) (by simp [maxLen]) rfl).kept (only_of_ext hE1 none) (by simp [Value.ownBlock])) (ext_trans (ext_alloc (ext_refl _) _) hE1))
    clear hE1
    go_wp2_with fail
    go_ret
    exact fin.out

theorem specLogKey_any {A : Option Addr} {l : List Upd} (c : Nat) (key : Int) {w : World} (h : LogR w A l) (hm : l.length ≤ 1048576) :
    Calls Try.prog 17 #[.slice A l.length c, .int .i64 key] w (GotRowI w (logKey l key)) := by
  replace h := hide h
  obtain ⟨i0, hi, hz0, hz1, hz2⟩ := info_parts infoI'
  have hst := hide (show KeysTo w l key (.slice (some ⟨w.heap.size, 0, none⟩) 0 0) 0 (w.alloc (.cells #[] 3)) from
      ⟨0, by simp [keysFrom], World.ownsRow_made (base := w.heap.size) (e := 3) (size := 1) w #[] 0 (Nat.le_refl _) (by simp [maxLen]) rfl, ext_alloc (ext_refl _) _⟩)
  by_cases hv : logOk l = true
  · go_enter Try.func17, Try.ntmps17
    go_wp2_with fail
    go_loopw [5, 6] (fun v i wr => ∃ k : Nat, k ≤ l.length ∧ i = .int .i64 k ∧ Hid (KeysTo w l key v k wr)) (fun _ i _ => l.length - (intOf i).toNat)
    case atStart => exact ⟨0, Nat.zero_le _, rfl, hst⟩
    case round =>
      obtain ⟨k, hk, rfl, hK⟩ := hrel
      by_cases hlt : k < l.length
      · have hd : decide (k < l.length) = true := by simpa using hlt
        obtain ⟨n, hn, hown, hE⟩ := hK.out
        replace hn := hide hn
        replace hown := hide hown
        replace hE := hide hE
        have hnk : n ≤ k := by have := keysFrom_len key 0 (l.take k); rw [hn.out, List.length_take] at this; omega
        go_wp2_with fail
        refine (specLogValid_any c (h.out.ext hE.out) hm).mono ?_
        rintro e w1 ⟨rfl, hE1⟩
        have hown1 := hide (hown.out.kept (only_of_ext hE1 none) (by cases hvv : u5.ownBlock <;> simp))
        have hE1' := hide (ext_trans hE.out hE1)
        clear hE1 hown
        obtain ⟨b, o, x, y, hA, hb, hxy, hc0, hc1⟩ := log_at (h.out.ext hE1'.out) hlt
        subst hA
        replace hxy := hide hxy
        have hs := hE1'.out.size
        by_cases hv' : x = key
        · subst hv'
          go_wp2_with (at_builtin; refine wpList_append_own _ rfl _ _ 26 rfl w.heap.size 3 i0 _ 1 8 Try.underlying26 hi hz0 hz1 hz2 rfl (by decide) _ n _ rfl (hown1.out.alloc _) ⟨w1.heap.size, 0, none⟩ 1 1 [.int .i64 ((k : Int) + 1)] rfl rfl ?c1 ?c2 ?c3 ?c4 ?c5 ?_)
          case c1 =>
            intro j u hj
            match j, hj with
            | 0, hj => simp at hj; subst hj; simp [Addr.add]
          case c2 => intro u hu; simp at hu; rcases hu with rfl; rfl
          case c3 => unfold maxLen; omega
          case c4 => omega
          case c5 => simp; omega
          intro v' w' hown' hgrow _
          have hst' := hide (keysTo_hit hlt hxy.out rfl hn.out hown1.out hE1'.out hown' hgrow)
          clear hown' hgrow hown1 hn hK
          go_wp2
          go_roundw
          case rel => exact ⟨k + 1, by omega, by go_num, hst'⟩
          case measure => simp [intOf]; omega
        · have hb' : (x == key) = false := by simpa using hv'
          have hst' : Hid (KeysTo w l key u5 (k + 1) w1) := hide ⟨n, by rw [keysFrom_miss hlt hxy.out hv']; exact hn.out, by rw [keysFrom_miss hlt hxy.out hv']; exact hown1.out, hE1'.out⟩
          clear hown1 hn hK
          go_wp2
          go_roundw
          case rel => exact ⟨k + 1, by omega, by go_num, hst'⟩
          case measure => simp [intOf]; omega
      · have hd : decide (k < l.length) = false := by simpa using hlt
        obtain ⟨n, hn, hown, hE⟩ := hK.out
        have hkl : l.take k = l := List.take_of_length_le (by omega)
        rw [hkl] at hn hown
        have fin := hide (show GotRowI w (logKey l key) (.returned u5) wr from by unfold logKey; rw [if_pos hv]; exact gotRowI_of hn hown hE)
        clear hn hown hE hkl hK
        go_wp2
        go_ret
        exact fin.out
  · have hv : logOk l = false := by simpa using hv
    have hpos : 0 < l.length := by
      rcases Nat.eq_zero_or_pos l.length with h0 | h0
      · have : l = [] := List.eq_nil_of_length_eq_zero h0
        subst this
        simp [logOk] at hv
      · exact h0
    go_enter Try.func17, Try.ntmps17
    go_wp2_with fail
    have hd : decide (0 < l.length) = true := by simpa using hpos
    have fin : Hid (∀ w1, Ext (w.alloc (.cells #[] 3)) w1 → GotRowI w (logKey l key) (.returned (.slice (some ⟨w.heap.size, 0, none⟩) 0 0)) w1) := hide (fun w1 hE1 => by
      have e : logKey l key = [] := by unfold logKey; rw [hv]; rfl
      rw [e]
      exact gotRowI_of rfl ((World.ownsRow_made (base := w.heap.size) (e := 3) (size := 1) w #[] 0 (Nat.le_refl _) (by simp [maxLen]) rfl).kept (only_of_ext hE1 none) (by simp [Value.ownBlock])) (ext_trans (ext_alloc (ext_refl _) _) hE1))
    refine wp_loop_rounds 1 ?_
    rw [rounds_succ]
    go_wp2_with fail
    refine (specLogValid_any c (h.out.ext (ext_alloc (ext_refl _) _)) hm).mono ?_
    rintro e w1 ⟨rfl, hE1⟩
    replace hE1 := hide hE1
    go_wp2_with fail
    go_ret
    exact fin.out _ hE1.out
end Go.Proofs.Ytfkongkokegjjaa
