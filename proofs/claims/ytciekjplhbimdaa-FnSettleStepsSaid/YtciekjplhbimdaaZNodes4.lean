/-
  Contracts: nodes compared, turned into the program's own, measured.
-/
import Derived.Test.YtciekjplhbimdaaZBNodes
import Derived.Test.YtciekjplhbimdaaZSame
set_option linter.all false
set_option maxRecDepth 100000
namespace Go.Proofs.YtciekjplhbimdaaZ
open Go.RowKit
attribute [local go_sem ↓] Go.wp_at_zero Go.wp_at_succ

set_option maxHeartbeats 800000 in
theorem sameNode_any {A B : Option Addr} {l m : List Upd} (c d : Nat) (i j i' j' : Int) {w : World} (h : LogR w A l) (h' : LogR w B m) (hm : l.length ≤ 1048576) (hm' : m.length ≤ 1048576) :
    Calls Alt.prog 19 #[.agg #[.int .i64 i, .slice A l.length c, .int .i64 j], .agg #[.int .i64 i', .slice B m.length d, .int .i64 j']] w
      fun e w' => e = .returned (.bool (decide (i = i' ∧ j = j' ∧ l = m))) ∧ Ext w w' := by
  have hE0 := hide (ext_alloc (ext_alloc (ext_refl w) (.cells #[.int .i64 i, .slice A l.length c, .int .i64 j] 36)) (.cells #[.int .i64 i', .slice B m.length d, .int .i64 j'] 36))
  replace h := hide (h.ext hE0.out)
  replace h' := hide (h'.ext hE0.out)
  by_cases hi : i = i'
  · subst hi
    by_cases hj : j = j'
    · subst hj
      go_enter Alt.func19, Try.ntmps19
      go_wp2_with fail
      refine (sameLog_any c d h.out h'.out hm hm').mono ?_
      rintro e w1 ⟨rfl, hF⟩
      replace hF := hide (ext_trans hE0.out hF)
      go_wp2_with fail
      go_ret
      exact ⟨ret_bool (by simp), hF.out⟩
    · have hb : (j == j') = false := by simpa using hj
      replace hj := hide hj
      go_enter Alt.func19, Try.ntmps19
      go_wp2_with fail
      go_ret
      exact ⟨ret_bool (by simp [hj.out]), hE0.out⟩
  · have hb : (i == i') = false := by simpa using hi
    replace hi := hide hi
    go_enter Alt.func19, Try.ntmps19
    go_wp2_with fail
    go_ret
    exact ⟨ret_bool (by simp [hi.out]), hE0.out⟩

set_option maxHeartbeats 800000 in
theorem eqNode_any {A B : Option Addr} {l m : List Upd} (c d : Nat) (i j i' j' : Int) {w : World} (h : LogR w A l) (h' : LogR w B m) (hm : l.length ≤ 1048576) (hm' : m.length ≤ 1048576) :
    Calls Alt.prog 76 #[.agg #[.int .i64 i, .slice A l.length c, .int .i64 j], .agg #[.int .i64 i', .slice B m.length d, .int .i64 j']] w
      fun e w' => e = .returned (.bool (decide (i = i' ∧ j = j' ∧ l = m))) ∧ Ext w w' := by
  replace h := hide h
  replace h' := hide h'
  have hE := hide (ext_refl w)
  have b := hide (Blk.newAt (w) 36 #[.int .i64 i, .slice A l.length c, .int .i64 j] (g := w.heap.size) (by simp))
  replace h := hide (h.out.ext (ext_alloc (ext_refl (w)) (.cells #[.int .i64 i, .slice A l.length c, .int .i64 j] 36)))
  replace h' := hide (h'.out.ext (ext_alloc (ext_refl (w)) (.cells #[.int .i64 i, .slice A l.length c, .int .i64 j] 36)))
  replace hE := hide (ext_alloc hE.out (.cells #[.int .i64 i, .slice A l.length c, .int .i64 j] 36))
  have r := hide (Blk.newAt (w.alloc (.cells #[.int .i64 i, .slice A l.length c, .int .i64 j] 36)) 36 #[.int .i64 i', .slice B m.length d, .int .i64 j'] (g := w.heap.size + 1) (by simp))
  replace h := hide (h.out.ext (ext_alloc (ext_refl (w.alloc (.cells #[.int .i64 i, .slice A l.length c, .int .i64 j] 36))) (.cells #[.int .i64 i', .slice B m.length d, .int .i64 j'] 36)))
  replace h' := hide (h'.out.ext (ext_alloc (ext_refl (w.alloc (.cells #[.int .i64 i, .slice A l.length c, .int .i64 j] 36))) (.cells #[.int .i64 i', .slice B m.length d, .int .i64 j'] 36)))
  replace b := hide (b.out.ext (ext_alloc (ext_refl (w.alloc (.cells #[.int .i64 i, .slice A l.length c, .int .i64 j] 36))) (.cells #[.int .i64 i', .slice B m.length d, .int .i64 j'] 36)))
  replace hE := hide (ext_alloc hE.out (.cells #[.int .i64 i', .slice B m.length d, .int .i64 j'] 36))
  by_cases hi : i = i'
  · subst hi
    by_cases hl : l = m
    · have hd : decide (l = m) = true := by simpa using hl
      replace hl := hide hl
      go_enter Alt.func76, Try.ntmps76
      go_wp2_with fail
      refine (eqUpdateS_any c d h.out h'.out hm hm').mono ?_
      rintro e w1 ⟨rfl, hF⟩
      replace b := hide (b.out.ext hF)
      replace r := hide (r.out.ext hF)
      try clear b_0 b_1 b_2 b_lt
      obtain ⟨b_0, b_1, b_2, b_lt⟩ := b.out.at3
      try clear r_0 r_1 r_2 r_lt
      obtain ⟨r_0, r_1, r_2, r_lt⟩ := r.out.at3
      replace hE := hide (ext_trans hE.out hF)
      clear hF
      by_cases hj : j = j'
      · subst hj
        go_wp2_with fail
        go_ret
        exact ⟨ret_bool (by simp [hl.out]), hE.out⟩
      · have hb : (j != j') = true := by simpa using hj
        replace hj := hide hj
        go_wp2_with fail
        go_ret
        exact ⟨ret_bool (by simp [hj.out]), hE.out⟩
    · have hd : decide (l = m) = false := by simpa using hl
      replace hl := hide hl
      go_enter Alt.func76, Try.ntmps76
      go_wp2_with fail
      refine (eqUpdateS_any c d h.out h'.out hm hm').mono ?_
      rintro e w1 ⟨rfl, hF⟩
      replace b := hide (b.out.ext hF)
      replace r := hide (r.out.ext hF)
      try clear b_0 b_1 b_2 b_lt
      obtain ⟨b_0, b_1, b_2, b_lt⟩ := b.out.at3
      try clear r_0 r_1 r_2 r_lt
      obtain ⟨r_0, r_1, r_2, r_lt⟩ := r.out.at3
      replace hE := hide (ext_trans hE.out hF)
      clear hF
      go_wp2_with fail
      go_ret
      exact ⟨ret_bool (by simp [hl.out]), hE.out⟩
  · have hb : (i != i') = true := by simpa using hi
    replace hi := hide hi
    go_enter Alt.func76, Try.ntmps76
    go_wp2_with fail
    go_ret
    exact ⟨ret_bool (by simp [hi.out]), hE.out⟩

theorem szNode_yes {A : Option Addr} (i j : Int) (n c : Nat) (left : Int) (w : World) (h0 : 0 ≤ left) (h1 : left ≤ 1048576) (hn : (n : Int) ≤ left) :
    Calls Alt.prog 74 #[.agg #[.int .i64 i, .slice A n c, .int .i64 j], .int .i64 left] w fun e w' => e = .returned (.int .i64 (left - n)) ∧ Ext w w' := by
  go_enter Alt.func74, Try.ntmps74
  go_wp2_with (go_at_call 105; refine (szUpdateS_yes _ _ _ _ (by omega) (by omega) (by omega)).mono ?_; rintro e w' ⟨rfl, rfl⟩)
  go_ret
  exact ⟨rfl, ext_alloc (ext_refl _) _⟩
theorem szNode_no {A : Option Addr} (i j : Int) (n c : Nat) (left : Int) (w : World) (h0 : 0 ≤ left) (h1 : left ≤ 1048576) (hn : left < (n : Int)) (hm : n ≤ 9223372036854775807) :
    Calls Alt.prog 74 #[.agg #[.int .i64 i, .slice A n c, .int .i64 j], .int .i64 left] w fun e w' => e = .returned (.int .i64 (-1)) ∧ Ext w w' := by
  go_enter Alt.func74, Try.ntmps74
  go_wp2_with (go_at_call 105; refine (szUpdateS_no _ _ _ _ (by omega) (by omega) (by omega) (by omega)).mono ?_; rintro e w' ⟨rfl, rfl⟩)
  go_ret
  exact ⟨rfl, ext_alloc (ext_refl _) _⟩

theorem toUpdateS_at {A : Option Addr} {l : List Upd} (c : Nat) {w : World} {H : Nat} (hH : Hid (w.heap.size = H)) (h : LogR w A l) (hm : l.length ≤ 1048576) :
    Calls Alt.prog 106 #[.slice A l.length c] w fun e w' => e = .returned (.slice (some ⟨H, 0, none⟩) l.length l.length) ∧ OwnU w' H (some ⟨H, 0, none⟩) l.length l ∧ Ext w w' := by
  have e := hH.out
  subst e
  exact toUpdateS_any c h hm
set_option maxHeartbeats 800000 in
theorem toNode_any {A : Option Addr} {l : List Upd} (c : Nat) (i j : Int) {w : World} (h : LogR w A l) (hm : l.length ≤ 1048576) :
    Calls Alt.prog 75 #[.agg #[.int .i64 i, .slice A l.length c, .int .i64 j]] w (GotNode w ⟨i, l, j⟩) := by
  replace h := hide h
  have hE := hide (ext_refl w)
  have b := hide (Blk.newAt (w) 104 #[.int .i64 i, .slice A l.length c, .int .i64 j] (g := w.heap.size) (by simp))
  replace h := hide (h.out.ext (ext_alloc (ext_refl (w)) (.cells #[.int .i64 i, .slice A l.length c, .int .i64 j] 104)))
  replace hE := hide (ext_alloc hE.out (.cells #[.int .i64 i, .slice A l.length c, .int .i64 j] 104))
  have r := hide (Blk.newAt (w.alloc (.cells #[.int .i64 i, .slice A l.length c, .int .i64 j] 104)) 36 #[.int .i64 0, .slice none 0 0, .int .i64 0] (g := w.heap.size + 1) (by simp))
  replace h := hide (h.out.ext (ext_alloc (ext_refl (w.alloc (.cells #[.int .i64 i, .slice A l.length c, .int .i64 j] 104))) (.cells #[.int .i64 0, .slice none 0 0, .int .i64 0] 36)))
  replace b := hide (b.out.ext (ext_alloc (ext_refl (w.alloc (.cells #[.int .i64 i, .slice A l.length c, .int .i64 j] 104))) (.cells #[.int .i64 0, .slice none 0 0, .int .i64 0] 36)))
  replace hE := hide (ext_alloc hE.out (.cells #[.int .i64 0, .slice none 0 0, .int .i64 0] 36))
  have o := hide (Blk.newAt ((w.alloc (.cells #[.int .i64 i, .slice A l.length c, .int .i64 j] 104)).alloc (.cells #[.int .i64 0, .slice none 0 0, .int .i64 0] 36)) 36 #[.int .i64 i, .slice none 0 0, .int .i64 0] (g := w.heap.size + 1 + 1) (by simp))
  replace h := hide (h.out.ext (ext_alloc (ext_refl ((w.alloc (.cells #[.int .i64 i, .slice A l.length c, .int .i64 j] 104)).alloc (.cells #[.int .i64 0, .slice none 0 0, .int .i64 0] 36))) (.cells #[.int .i64 i, .slice none 0 0, .int .i64 0] 36)))
  replace b := hide (b.out.ext (ext_alloc (ext_refl ((w.alloc (.cells #[.int .i64 i, .slice A l.length c, .int .i64 j] 104)).alloc (.cells #[.int .i64 0, .slice none 0 0, .int .i64 0] 36))) (.cells #[.int .i64 i, .slice none 0 0, .int .i64 0] 36)))
  replace r := hide (r.out.ext (ext_alloc (ext_refl ((w.alloc (.cells #[.int .i64 i, .slice A l.length c, .int .i64 j] 104)).alloc (.cells #[.int .i64 0, .slice none 0 0, .int .i64 0] 36))) (.cells #[.int .i64 i, .slice none 0 0, .int .i64 0] 36)))
  replace hE := hide (ext_alloc hE.out (.cells #[.int .i64 i, .slice none 0 0, .int .i64 0] 36))
  have hH := hide (show (((w.alloc (.cells #[.int .i64 i, .slice A l.length c, .int .i64 j] 104)).alloc (.cells #[.int .i64 0, .slice none 0 0, .int .i64 0] 36)).alloc (.cells #[.int .i64 i, .slice none 0 0, .int .i64 0] 36)).heap.size = w.heap.size + 1 + 1 + 1 by simp)
  go_enter Alt.func75, Try.ntmps75
  go_wp2_with fail
  refine (toUpdateS_at c hH h.out hm).mono ?_
  rintro e w1 ⟨rfl, hO, hF⟩
  replace hO := hide hO
  clear hH h
  replace b := hide (b.out.ext hF)
  replace r := hide (r.out.ext hF)
  replace o := hide (o.out.ext hF)
  try clear b_0 b_1 b_2 b_lt
  obtain ⟨b_0, b_1, b_2, b_lt⟩ := b.out.at3
  try clear r_0 r_1 r_2 r_lt r_f0 r_f1 r_f2
  obtain ⟨r_0, r_1, r_2, r_lt, r_f0, r_f1, r_f2⟩ := r.out.at3f
  try clear o_0 o_1 o_2 o_lt o_f0 o_f1 o_f2
  obtain ⟨o_0, o_1, o_2, o_lt, o_f0, o_f1, o_f2⟩ := o.out.at3f
  replace hE := hide (ext_trans hE.out hF)
  clear hF
  go_wp2_with fail
  refine bodyPost_ret (v := .agg #[.int .i64 i, .slice (some ⟨w.heap.size + 1 + 1 + 1, 0, none⟩) l.length l.length, .int .i64 j]) (by simp [results, Try.results75, go_sem, r_0, r_1, r_2, o_0, o_1, o_2]) rfl ?_
  have e1 : w.heap.size + 1 < w.heap.size + 1 + 1 + 1 := by omega
  have e2 : w.heap.size + 1 + 1 < w.heap.size + 1 + 1 + 1 := by omega
  have e3 : w.heap.size ≤ w.heap.size + 1 := by omega
  have e4 : w.heap.size ≤ w.heap.size + 1 + 1 := by omega
  exact ⟨_, _, rfl, OwnU.mono (((((hO.out.set_ e2 _).set_ e2 _).set_ e1 _).set_ e1 _).set_ e1 _) (by omega),
    ((((hE.out.setCell e4 _).setCell e4 _).setCell e3 _).setCell e3 _).setCell e3 _⟩
end Go.Proofs.YtciekjplhbimdaaZ
