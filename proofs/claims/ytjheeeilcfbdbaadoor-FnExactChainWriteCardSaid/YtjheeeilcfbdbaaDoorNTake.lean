/-
  Contracts: a node takes an update, both; whether it can.
-/
import Derived.Test.YtjheeeilcfbdbaaDoorNodes4
import Derived.Test.YtjheeeilcfbdbaaDoorCGot
import Derived.Test.YtjheeeilcfbdbaaDoorQE
import Derived.Test.YtjheeeilcfbdbaaDoorIs
set_option linter.all false
set_option maxRecDepth 100000
namespace Go.Proofs.YtjheeeilcfbdbaaDoor
open Go.RowKit
attribute [local go_sem ↓] Go.wp_at_zero Go.wp_at_succ

/-- The sentinel's variable holds a pointer to a. -/
def SentAt (w : World) (a : Addr) : Prop := w.cell? ⟨0, 0, none⟩ = some (.iface 122 (.pointer (some a)))
theorem SentAt.ext {w w' : World} {a : Addr} (h : SentAt w a) (hE : Ext w w') : SentAt w' a := ext_cell hE h
theorem typesNd : 25 ≠ 27 := by decide
theorem gotNodeB_n {w w' : World} {x : Nd} {b b' : Bool} {i j : Int} {l : List Upd} {A : Option Addr} {n c : Nat} (hx : x = ⟨i, l, j⟩) (hb : b' = b) (hn : l.length = n) (h1 : w'.ownsRow w.heap.size 27 2 (.slice A n c) n (ucells l)) (h2 : Ext w w') :
    GotNodeB w x b' (.returned (.tuple #[.agg #[.int .i64 i, .slice A n c, .int .i64 j], .bool b])) w' := by
  subst hn; exact gotNodeB_of hx hb h1 h2
theorem ucells_snoc (l : List Upd) (x y : Int) : ucells (l ++ [(x, y)]) = ucells l ++ [.int .i64 x, .int .i64 y] := by simp [ucells_append, ucells]
set_option maxHeartbeats 1600000 in
theorem takeCheck_ok {A : Option Addr} {l : List Upd} (c : Nat) (i j ux uy : Int) {w : World} {a : Addr} (h : LogR w A l) (hm : l.length ≤ 1048576) (hS : SentAt w a) (ht : takeOk ⟨i, l, j⟩ (ux, uy) = true) :
    Calls Tryd.prog 38 #[.agg #[.int .i64 i, .slice A l.length c, .int .i64 j], .agg #[.int .i64 ux, .int .i64 uy]] w fun e w' => e = .returned .nilIface ∧ Ext w w' := by
  obtain ⟨h1, h2, h3⟩ := takeOk_yes ht
  simp only at h3
  have hd : decide ((l.length : Int) ≥ 12) = false := decide_eq_false (by omega)
  have hd' : decide (l.length ≥ 12) = false := decide_eq_false (by omega)
  replace h := hide h
  have hE := hide (ext_refl w)
  have b := hide (Blk.newAt (w) 25 #[.int .i64 i, .slice A l.length c, .int .i64 j] (g := w.heap.size) (by simp))
  replace h := hide (h.out.ext (ext_alloc (ext_refl (w)) (.cells #[.int .i64 i, .slice A l.length c, .int .i64 j] 25)))
  replace hE := hide (ext_alloc hE.out (.cells #[.int .i64 i, .slice A l.length c, .int .i64 j] 25))
  have u := hide (Blk.newAt (w.alloc (.cells #[.int .i64 i, .slice A l.length c, .int .i64 j] 25)) 27 #[.int .i64 ux, .int .i64 uy] (g := w.heap.size + 1) (by simp))
  replace h := hide (h.out.ext (ext_alloc (ext_refl (w.alloc (.cells #[.int .i64 i, .slice A l.length c, .int .i64 j] 25))) (.cells #[.int .i64 ux, .int .i64 uy] 27)))
  replace b := hide (b.out.ext (ext_alloc (ext_refl (w.alloc (.cells #[.int .i64 i, .slice A l.length c, .int .i64 j] 25))) (.cells #[.int .i64 ux, .int .i64 uy] 27)))
  replace hE := hide (ext_alloc hE.out (.cells #[.int .i64 ux, .int .i64 uy] 27))
  go_enter Tryd.func38, Tryd.ntmps38
  go_wp2_with fail
  refine (implNodeValid_any c i j h.out hm).mono ?_
  rintro e w1 ⟨rfl, hF⟩
  rw [h1]
  have hS1 := hS.ext (ext_trans hE.out hF)
  unfold SentAt at hS1
  replace h := hide (h.out.ext hF)
  replace b := hide (b.out.ext hF)
  replace u := hide (u.out.ext hF)
  try clear b_0 b_1 b_2 b_lt
  obtain ⟨b_0, b_1, b_2, b_lt⟩ := b.out.at3
  try clear u_0 u_1 u_lt
  obtain ⟨u_0, u_1, u_lt⟩ := u.out.at2
  replace hE := hide (ext_trans hE.out hF)
  clear hF
  go_wp2_with fail
  refine (implUpdateValid_any ux uy _).mono ?_
  rintro e w2 ⟨rfl, hF⟩
  rw [h2]
  replace hS1 := ext_cell hF hS1
  replace h := hide (h.out.ext hF)
  replace b := hide (b.out.ext hF)
  replace u := hide (u.out.ext hF)
  try clear b_0 b_1 b_2 b_lt
  obtain ⟨b_0, b_1, b_2, b_lt⟩ := b.out.at3
  try clear u_0 u_1 u_lt
  obtain ⟨u_0, u_1, u_lt⟩ := u.out.at2
  replace hE := hide (ext_trans hE.out hF)
  clear hF
  go_wp2_with fail
  go_ret
  exact ⟨rfl, hE.out⟩
set_option maxHeartbeats 1600000 in
theorem takeCheck_no {A : Option Addr} {l : List Upd} (c : Nat) (i j ux uy : Int) {w : World} {a : Addr} (h : LogR w A l) (hm : l.length ≤ 1048576) (hS : SentAt w a) (ht : takeOk ⟨i, l, j⟩ (ux, uy) = false) :
    Calls Tryd.prog 38 #[.agg #[.int .i64 i, .slice A l.length c, .int .i64 j], .agg #[.int .i64 ux, .int .i64 uy]] w fun e w' => e = .returned (.iface 122 (.pointer (some a))) ∧ Ext w w' := by
  replace h := hide h
  have hE := hide (ext_refl w)
  have b := hide (Blk.newAt (w) 25 #[.int .i64 i, .slice A l.length c, .int .i64 j] (g := w.heap.size) (by simp))
  replace h := hide (h.out.ext (ext_alloc (ext_refl (w)) (.cells #[.int .i64 i, .slice A l.length c, .int .i64 j] 25)))
  replace hE := hide (ext_alloc hE.out (.cells #[.int .i64 i, .slice A l.length c, .int .i64 j] 25))
  have u := hide (Blk.newAt (w.alloc (.cells #[.int .i64 i, .slice A l.length c, .int .i64 j] 25)) 27 #[.int .i64 ux, .int .i64 uy] (g := w.heap.size + 1) (by simp))
  replace h := hide (h.out.ext (ext_alloc (ext_refl (w.alloc (.cells #[.int .i64 i, .slice A l.length c, .int .i64 j] 25))) (.cells #[.int .i64 ux, .int .i64 uy] 27)))
  replace b := hide (b.out.ext (ext_alloc (ext_refl (w.alloc (.cells #[.int .i64 i, .slice A l.length c, .int .i64 j] 25))) (.cells #[.int .i64 ux, .int .i64 uy] 27)))
  replace hE := hide (ext_alloc hE.out (.cells #[.int .i64 ux, .int .i64 uy] 27))
  by_cases h1 : ndOk ⟨i, l, j⟩ = true
  · by_cases h2 : updOk (ux, uy) = true
    · have h3 : ¬ l.length < 12 := fun h3 => by rw [takeOk_mk h1 h2 h3] at ht; cases ht
      have hd : decide ((l.length : Int) ≥ 12) = true := decide_eq_true (by omega)
      have hd' : decide (l.length ≥ 12) = true := decide_eq_true (by omega)
      go_enter Tryd.func38, Tryd.ntmps38
      go_wp2_with fail
      refine (implNodeValid_any c i j h.out hm).mono ?_
      rintro e w1 ⟨rfl, hF⟩
      rw [h1]
      have hS1 := hS.ext (ext_trans hE.out hF)
      unfold SentAt at hS1
      replace h := hide (h.out.ext hF)
      replace b := hide (b.out.ext hF)
      replace u := hide (u.out.ext hF)
      try clear b_0 b_1 b_2 b_lt
      obtain ⟨b_0, b_1, b_2, b_lt⟩ := b.out.at3
      try clear u_0 u_1 u_lt
      obtain ⟨u_0, u_1, u_lt⟩ := u.out.at2
      replace hE := hide (ext_trans hE.out hF)
      clear hF
      go_wp2_with fail
      refine (implUpdateValid_any ux uy _).mono ?_
      rintro e w2 ⟨rfl, hF⟩
      rw [h2]
      replace hS1 := ext_cell hF hS1
      replace h := hide (h.out.ext hF)
      replace b := hide (b.out.ext hF)
      replace u := hide (u.out.ext hF)
      try clear b_0 b_1 b_2 b_lt
      obtain ⟨b_0, b_1, b_2, b_lt⟩ := b.out.at3
      try clear u_0 u_1 u_lt
      obtain ⟨u_0, u_1, u_lt⟩ := u.out.at2
      replace hE := hide (ext_trans hE.out hF)
      clear hF
      go_wp2_with fail
      go_ret
      exact ⟨rfl, hE.out⟩
    · have h2 : updOk (ux, uy) = false := by simpa using h2
      go_enter Tryd.func38, Tryd.ntmps38
      go_wp2_with fail
      refine (implNodeValid_any c i j h.out hm).mono ?_
      rintro e w1 ⟨rfl, hF⟩
      rw [h1]
      have hS1 := hS.ext (ext_trans hE.out hF)
      unfold SentAt at hS1
      replace h := hide (h.out.ext hF)
      replace b := hide (b.out.ext hF)
      replace u := hide (u.out.ext hF)
      try clear b_0 b_1 b_2 b_lt
      obtain ⟨b_0, b_1, b_2, b_lt⟩ := b.out.at3
      try clear u_0 u_1 u_lt
      obtain ⟨u_0, u_1, u_lt⟩ := u.out.at2
      replace hE := hide (ext_trans hE.out hF)
      clear hF
      go_wp2_with fail
      refine (implUpdateValid_any ux uy _).mono ?_
      rintro e w2 ⟨rfl, hF⟩
      rw [h2]
      replace hS1 := ext_cell hF hS1
      replace h := hide (h.out.ext hF)
      replace b := hide (b.out.ext hF)
      replace u := hide (u.out.ext hF)
      try clear b_0 b_1 b_2 b_lt
      obtain ⟨b_0, b_1, b_2, b_lt⟩ := b.out.at3
      try clear u_0 u_1 u_lt
      obtain ⟨u_0, u_1, u_lt⟩ := u.out.at2
      replace hE := hide (ext_trans hE.out hF)
      clear hF
      go_wp2_with fail
      go_ret
      exact ⟨rfl, hE.out⟩
  · have h1 : ndOk ⟨i, l, j⟩ = false := by simpa using h1
    go_enter Tryd.func38, Tryd.ntmps38
    go_wp2_with fail
    refine (implNodeValid_any c i j h.out hm).mono ?_
    rintro e w1 ⟨rfl, hF⟩
    rw [h1]
    have hS1 := hS.ext (ext_trans hE.out hF)
    unfold SentAt at hS1
    replace h := hide (h.out.ext hF)
    replace b := hide (b.out.ext hF)
    replace u := hide (u.out.ext hF)
    try clear b_0 b_1 b_2 b_lt
    obtain ⟨b_0, b_1, b_2, b_lt⟩ := b.out.at3
    try clear u_0 u_1 u_lt
    obtain ⟨u_0, u_1, u_lt⟩ := u.out.at2
    replace hE := hide (ext_trans hE.out hF)
    clear hF
    go_wp2_with fail
    go_ret
    exact ⟨rfl, hE.out⟩
set_option maxHeartbeats 3200000 in
theorem implNodeTake_any {A : Option Addr} {l : List Upd} (c : Nat) (i j ux uy : Int) {w : World} {a : Addr} (h : LogR w A l) (hm : l.length ≤ 1048576) (hS : SentAt w a) :
    Calls Tryd.prog 10 #[.agg #[.int .i64 i, .slice A l.length c, .int .i64 j], .agg #[.int .i64 ux, .int .i64 uy]] w (GotNodeB w (ndTake ⟨i, l, j⟩ (ux, uy)) (takeOk ⟨i, l, j⟩ (ux, uy))) := by
  obtain ⟨iU, hiU, zU0, zU1, zU2⟩ := info_parts infoU'
  replace h := hide h
  have hE := hide (ext_refl w)
  have b := hide (Blk.newAt (w) 25 #[.int .i64 i, .slice A l.length c, .int .i64 j] (g := w.heap.size) (by simp))
  replace h := hide (h.out.ext (ext_alloc (ext_refl (w)) (.cells #[.int .i64 i, .slice A l.length c, .int .i64 j] 25)))
  replace hE := hide (ext_alloc hE.out (.cells #[.int .i64 i, .slice A l.length c, .int .i64 j] 25))
  have u := hide (Blk.newAt (w.alloc (.cells #[.int .i64 i, .slice A l.length c, .int .i64 j] 25)) 27 #[.int .i64 ux, .int .i64 uy] (g := w.heap.size + 1) (by simp))
  replace h := hide (h.out.ext (ext_alloc (ext_refl (w.alloc (.cells #[.int .i64 i, .slice A l.length c, .int .i64 j] 25))) (.cells #[.int .i64 ux, .int .i64 uy] 27)))
  replace b := hide (b.out.ext (ext_alloc (ext_refl (w.alloc (.cells #[.int .i64 i, .slice A l.length c, .int .i64 j] 25))) (.cells #[.int .i64 ux, .int .i64 uy] 27)))
  replace hE := hide (ext_alloc hE.out (.cells #[.int .i64 ux, .int .i64 uy] 27))
  have r := hide (Blk.newAt (((w.alloc (.cells #[.int .i64 i, .slice A l.length c, .int .i64 j] 25)).alloc (.cells #[.int .i64 ux, .int .i64 uy] 27))) 25 #[.int .i64 0, .slice none 0 0, .int .i64 0] (g := w.heap.size + 1 + 1) (by simp))
  replace h := hide (h.out.ext (ext_alloc (ext_refl (((w.alloc (.cells #[.int .i64 i, .slice A l.length c, .int .i64 j] 25)).alloc (.cells #[.int .i64 ux, .int .i64 uy] 27)))) (.cells #[.int .i64 0, .slice none 0 0, .int .i64 0] 25)))
  replace b := hide (b.out.ext (ext_alloc (ext_refl (((w.alloc (.cells #[.int .i64 i, .slice A l.length c, .int .i64 j] 25)).alloc (.cells #[.int .i64 ux, .int .i64 uy] 27)))) (.cells #[.int .i64 0, .slice none 0 0, .int .i64 0] 25)))
  replace u := hide (u.out.ext (ext_alloc (ext_refl (((w.alloc (.cells #[.int .i64 i, .slice A l.length c, .int .i64 j] 25)).alloc (.cells #[.int .i64 ux, .int .i64 uy] 27)))) (.cells #[.int .i64 0, .slice none 0 0, .int .i64 0] 25)))
  replace hE := hide (ext_alloc hE.out (.cells #[.int .i64 0, .slice none 0 0, .int .i64 0] 25))
  by_cases ht : takeOk ⟨i, l, j⟩ (ux, uy) = true
  · have hlt : l.length < 12 := (takeOk_yes ht).2.2
    have q0 : ∀ w', Ext (((w.alloc (.cells #[.int .i64 i, .slice A l.length c, .int .i64 j] 25)).alloc (.cells #[.int .i64 ux, .int .i64 uy] 27)).alloc (.cells #[.int .i64 0, .slice none 0 0, .int .i64 0] 25)) w' → w'.cell? ⟨w.heap.size, 0, none⟩ = some (.int .i64 i) := fun w' hC => (b.out.ext hC).at3.1
    have q1 : ∀ w', Ext (((w.alloc (.cells #[.int .i64 i, .slice A l.length c, .int .i64 j] 25)).alloc (.cells #[.int .i64 ux, .int .i64 uy] 27)).alloc (.cells #[.int .i64 0, .slice none 0 0, .int .i64 0] 25)) w' → w'.cell? ⟨w.heap.size, 1, none⟩ = some (.slice A l.length c) := fun w' hC => (b.out.ext hC).at3.2.1
    have q2 : ∀ w', Ext (((w.alloc (.cells #[.int .i64 i, .slice A l.length c, .int .i64 j] 25)).alloc (.cells #[.int .i64 ux, .int .i64 uy] 27)).alloc (.cells #[.int .i64 0, .slice none 0 0, .int .i64 0] 25)) w' → w'.cell? ⟨w.heap.size, 2, none⟩ = some (.int .i64 j) := fun w' hC => (b.out.ext hC).at3.2.2.1
    have q3 : ∀ w', Ext (((w.alloc (.cells #[.int .i64 i, .slice A l.length c, .int .i64 j] 25)).alloc (.cells #[.int .i64 ux, .int .i64 uy] 27)).alloc (.cells #[.int .i64 0, .slice none 0 0, .int .i64 0] 25)) w' → w'.cell? ⟨w.heap.size + 1, 0, none⟩ = some (.int .i64 ux) := fun w' hC => (u.out.ext hC).at2.1
    have q4 : ∀ w', Ext (((w.alloc (.cells #[.int .i64 i, .slice A l.length c, .int .i64 j] 25)).alloc (.cells #[.int .i64 ux, .int .i64 uy] 27)).alloc (.cells #[.int .i64 0, .slice none 0 0, .int .i64 0] 25)) w' → w'.cell? ⟨w.heap.size + 1, 1, none⟩ = some (.int .i64 uy) := fun w' hC => (u.out.ext hC).at2.2.1
    have q5 : ∀ w', Ext (((w.alloc (.cells #[.int .i64 i, .slice A l.length c, .int .i64 j] 25)).alloc (.cells #[.int .i64 ux, .int .i64 uy] 27)).alloc (.cells #[.int .i64 0, .slice none 0 0, .int .i64 0] 25)) w' → w'.cell? ⟨0, 0, none⟩ = some (.iface 122 (.pointer (some a))) := fun w' hC => (hS.ext hE.out).ext hC
    have hck : ∀ w', Ext (((w.alloc (.cells #[.int .i64 i, .slice A l.length c, .int .i64 j] 25)).alloc (.cells #[.int .i64 ux, .int .i64 uy] 27)).alloc (.cells #[.int .i64 0, .slice none 0 0, .int .i64 0] 25)) w' → Calls Tryd.prog 38 #[.agg #[.int .i64 i, .slice A l.length c, .int .i64 j], .agg #[.int .i64 ux, .int .i64 uy]] w' (fun e w'' => e = .returned .nilIface ∧ Ext (((w.alloc (.cells #[.int .i64 i, .slice A l.length c, .int .i64 j] 25)).alloc (.cells #[.int .i64 ux, .int .i64 uy] 27)).alloc (.cells #[.int .i64 0, .slice none 0 0, .int .i64 0] 25)) w'') := fun w' hC =>
      (takeCheck_ok c i j ux uy (h.out.ext hC) hm ((hS.ext hE.out).ext hC) ht).mono fun e w'' ⟨f1, f2⟩ => ⟨f1, ext_trans hC f2⟩
    have his : ∀ w', Ext (((w.alloc (.cells #[.int .i64 i, .slice A l.length c, .int .i64 j] 25)).alloc (.cells #[.int .i64 ux, .int .i64 uy] 27)).alloc (.cells #[.int .i64 0, .slice none 0 0, .int .i64 0] 25)) w' → Calls Tryd.prog 37 #[.nilIface, (.iface 122 (.pointer (some a)))] w' (fun e w'' => e = .returned (.bool false) ∧ Ext (((w.alloc (.cells #[.int .i64 i, .slice A l.length c, .int .i64 j] 25)).alloc (.cells #[.int .i64 ux, .int .i64 uy] 27)).alloc (.cells #[.int .i64 0, .slice none 0 0, .int .i64 0] 25)) w'') := fun w' hC =>
      (is_nil a w').mono fun e w'' ⟨f1, f2⟩ => ⟨f1, by rw [f2]; exact hC⟩
    go_enter Tryd.func10, Tryd.ntmps10
    go_wp2_with fail
    refine wp_region_quietE (by kernel_rfl) (by kernel_rfl) ?_
    repeat (
      refine QW.step (fun K hK => ?_)
      go_simp
      first
      | (refine hK _ ?_; clear hK K)
      | (apply Exists.intro
         refine ⟨fun w5 hC => ?_, hK _ ?_⟩
         · first
           | rfl
           | exact hck w5 hC
           | exact his w5 hC
           | (simp only [q0 w5 hC, q1 w5 hC, q2 w5 hC, q3 w5 hC, q4 w5 hC, q5 w5 hC, Result.andThen_ok, true_and]; rfl)
         clear hK K))
    refine QW.nil ?_
    intro w1 hF
    have hs1 : w.heap.size + 3 ≤ w1.heap.size := by have := hF.size; simp only [World.size_alloc] at this; exact this
    clear q0 q1 q2 q3 q4 q5 hck his
    replace h := hide (h.out.ext hF)
    replace b := hide (b.out.ext hF)
    replace u := hide (u.out.ext hF)
    replace r := hide (r.out.ext hF)
    try clear b_0 b_1 b_2 b_lt
    obtain ⟨b_0, b_1, b_2, b_lt⟩ := b.out.at3
    try clear u_0 u_1 u_lt
    obtain ⟨u_0, u_1, u_lt⟩ := u.out.at2
    try clear r_0 r_1 r_2 r_lt r_f0 r_f1 r_f2
    obtain ⟨r_0, r_1, r_2, r_lt, r_f0, r_f1, r_f2⟩ := r.out.at3f
    replace hE := hide (ext_trans hE.out hF)
    clear hF
    go_wp2_with fail
    refine (copyNode_any c i j h.out hm).mono ?_
    intro e w2 hG
    obtain ⟨A2, c2, rfl, -, -, hO, hF⟩ := hG.use
    clear hG
    have hs2 : w1.heap.size ≤ w2.heap.size := hF.size
    replace b := hide (b.out.ext hF)
    replace u := hide (u.out.ext hF)
    replace r := hide (r.out.ext hF)
    try clear b_0 b_1 b_2 b_lt
    obtain ⟨b_0, b_1, b_2, b_lt⟩ := b.out.at3
    try clear u_0 u_1 u_lt
    obtain ⟨u_0, u_1, u_lt⟩ := u.out.at2
    try clear r_0 r_1 r_2 r_lt r_f0 r_f1 r_f2
    obtain ⟨r_0, r_1, r_2, r_lt, r_f0, r_f1, r_f2⟩ := r.out.at3f
    replace hE := hide (ext_trans hE.out hF)
    clear hF
    have q := hide (Blk.newAt (w2) 25 #[.int .i64 i, .slice A2 l.length c2, .int .i64 j] (g := (w2).heap.size) (by simp))
    replace b := hide (b.out.ext (ext_alloc (ext_refl (w2)) (.cells #[.int .i64 i, .slice A2 l.length c2, .int .i64 j] 25)))
    replace u := hide (u.out.ext (ext_alloc (ext_refl (w2)) (.cells #[.int .i64 i, .slice A2 l.length c2, .int .i64 j] 25)))
    replace r := hide (r.out.ext (ext_alloc (ext_refl (w2)) (.cells #[.int .i64 i, .slice A2 l.length c2, .int .i64 j] 25)))
    replace hE := hide (ext_alloc hE.out (.cells #[.int .i64 i, .slice A2 l.length c2, .int .i64 j] 25))
    have hown := hide (World.ownsRow.alloc hO.out (.cells #[.int .i64 i, .slice A2 l.length c2, .int .i64 j] 25))
    try clear q_0 q_1 q_2 q_lt q_f0 q_f1 q_f2
    obtain ⟨q_0, q_1, q_2, q_lt, q_f0, q_f1, q_f2⟩ := q.out.at3f
    try clear b_0 b_1 b_2 b_lt
    obtain ⟨b_0, b_1, b_2, b_lt⟩ := b.out.at3
    try clear u_0 u_1 u_lt
    obtain ⟨u_0, u_1, u_lt⟩ := u.out.at2
    try clear r_0 r_1 r_2 r_lt r_f0 r_f1 r_f2
    obtain ⟨r_0, r_1, r_2, r_lt, r_f0, r_f1, r_f2⟩ := r.out.at3f
    have hl12 : l.length < 12 := hlt
    go_wp2_with (at_builtin; refine wpList_append_own _ rfl _ _ 23 rfl w1.heap.size 27 iU _ 2 16 Tryd.underlying23 hiU zU0 zU1 zU2 rfl (by decide) _ l.length _ rfl (hown.out.alloc _) ⟨w2.heap.size + 1, 0, none⟩ 1 1 [.int .i64 ux, .int .i64 uy] rfl rfl ?c1 ?c2 ?c3 ?c4 ?c5 ?_)
    case c1 =>
      intro jj u hj
      match jj, hj with
      | 0, hj => simp at hj; subst hj; simp [Addr.add]
      | 1, hj => simp at hj; subst hj; simp [Addr.add]
    case c2 => intro u hu; simp at hu; rcases hu with rfl | rfl <;> rfl
    case c3 => unfold maxLen; omega
    case c4 => omega
    case c5 => have := hO.out.1; have := hE.out.size; simp; omega
    intro v' w' hown' hgrow _
    obtain ⟨A3, c3, rfl, -, -⟩ := own_form hown'
    have hrow := hown.out.lt
    have hq' := hide (show Blk w' w2.heap.size 25 #[.int .i64 i, .slice A2 l.length c2, .int .i64 j] from (hgrow.block _ (q.out.alloc (.cells #[.int .i64 ux, .int .i64 uy] 27)).lt (blk_types (q.out.alloc (.cells #[.int .i64 ux, .int .i64 uy] 27)) (hown.out.alloc (.cells #[.int .i64 ux, .int .i64 uy] 27)) typesNd)).trans (q.out.alloc (.cells #[.int .i64 ux, .int .i64 uy] 27)))
    have hr' := hide (show Blk w' (w.heap.size + 1 + 1) 25 #[.int .i64 0, .slice none 0 0, .int .i64 0] from (hgrow.block _ (r.out.alloc (.cells #[.int .i64 ux, .int .i64 uy] 27)).lt (blk_types (r.out.alloc (.cells #[.int .i64 ux, .int .i64 uy] 27)) (hown.out.alloc (.cells #[.int .i64 ux, .int .i64 uy] 27)) typesNd)).trans (r.out.alloc (.cells #[.int .i64 ux, .int .i64 uy] 27)))
    have hE' := hide (Turned.ext (ext_alloc hE.out (.cells #[.int .i64 ux, .int .i64 uy] 27)) (Turned.of_row hgrow fun g hg => ⟨(hown.out.lt g hg).1, by have := (hown.out.lt g hg).2; simp; omega⟩) (show w.heap.size ≤ w1.heap.size by omega))
    have hq1 := hide (hq'.out.set31 (.slice A3 (l.length + 1) c3))
    have hr1 := hide (hr'.out.far (p := ⟨w2.heap.size, 1, none⟩) (show w.heap.size + 1 + 1 ≠ w2.heap.size by have := hs2; omega) (.slice A3 (l.length + 1) c3))
    have hw1 := hide (World.ownsRow.kept hown' (only_setCell (World.grownBy.refl w' (some w2.heap.size)) (p := ⟨w2.heap.size, 1, none⟩) (.inl rfl) (.slice A3 (l.length + 1) c3)) (.inr (blk_types hq'.out hown' typesNd).symm))
    obtain ⟨g_0, g_1, g_2, g_lt, g_f0, g_f1, g_f2⟩ := hq'.out.at3f
    obtain ⟨k_0, k_1, k_2, k_lt, k_f0, k_f1, k_f2⟩ := hq1.out.at3f
    obtain ⟨r_0, r_1, r_2, r_lt, r_f0, r_f1, r_f2⟩ := hr1.out.at3f
    clear hown' hgrow
    go_wp2_with fail
    refine bodyPost_ret (v := .tuple #[.agg #[.int .i64 i, .slice A3 (l.length + 1) c3, .int .i64 j], .bool true]) (by simp [results, Tryd.results10, go_sem, r_0, r_1, r_2]) rfl ?_
    have hb9 : w.heap.size + 1 + 1 < w1.heap.size := by omega
    refine gotNodeB_n (ndTake_yes ht) ht (by simp) ?_ (((((hE'.out.setCell (p := ⟨w2.heap.size, 1, none⟩) (by show w.heap.size ≤ w2.heap.size; have := hs2; omega) _).setCell (p := ⟨w.heap.size + 1 + 1, 0, none⟩) (by show w.heap.size ≤ w.heap.size + 1 + 1; omega) _).setCell (p := ⟨w.heap.size + 1 + 1, 1, none⟩) (by show w.heap.size ≤ w.heap.size + 1 + 1; omega) _).setCell (p := ⟨w.heap.size + 1 + 1, 2, none⟩) (by show w.heap.size ≤ w.heap.size + 1 + 1; omega) _))
    rw [ucells_snoc]
    exact own_mono (RowKit.ownsRow_setCell_below (RowKit.ownsRow_setCell_below (RowKit.ownsRow_setCell_below hw1.out hb9 _) hb9 _) hb9 _) (by omega)
  · have ht : takeOk ⟨i, l, j⟩ (ux, uy) = false := by simpa using ht
    have q0 : ∀ w', Ext (((w.alloc (.cells #[.int .i64 i, .slice A l.length c, .int .i64 j] 25)).alloc (.cells #[.int .i64 ux, .int .i64 uy] 27)).alloc (.cells #[.int .i64 0, .slice none 0 0, .int .i64 0] 25)) w' → w'.cell? ⟨w.heap.size, 0, none⟩ = some (.int .i64 i) := fun w' hC => (b.out.ext hC).at3.1
    have q1 : ∀ w', Ext (((w.alloc (.cells #[.int .i64 i, .slice A l.length c, .int .i64 j] 25)).alloc (.cells #[.int .i64 ux, .int .i64 uy] 27)).alloc (.cells #[.int .i64 0, .slice none 0 0, .int .i64 0] 25)) w' → w'.cell? ⟨w.heap.size, 1, none⟩ = some (.slice A l.length c) := fun w' hC => (b.out.ext hC).at3.2.1
    have q2 : ∀ w', Ext (((w.alloc (.cells #[.int .i64 i, .slice A l.length c, .int .i64 j] 25)).alloc (.cells #[.int .i64 ux, .int .i64 uy] 27)).alloc (.cells #[.int .i64 0, .slice none 0 0, .int .i64 0] 25)) w' → w'.cell? ⟨w.heap.size, 2, none⟩ = some (.int .i64 j) := fun w' hC => (b.out.ext hC).at3.2.2.1
    have q3 : ∀ w', Ext (((w.alloc (.cells #[.int .i64 i, .slice A l.length c, .int .i64 j] 25)).alloc (.cells #[.int .i64 ux, .int .i64 uy] 27)).alloc (.cells #[.int .i64 0, .slice none 0 0, .int .i64 0] 25)) w' → w'.cell? ⟨w.heap.size + 1, 0, none⟩ = some (.int .i64 ux) := fun w' hC => (u.out.ext hC).at2.1
    have q4 : ∀ w', Ext (((w.alloc (.cells #[.int .i64 i, .slice A l.length c, .int .i64 j] 25)).alloc (.cells #[.int .i64 ux, .int .i64 uy] 27)).alloc (.cells #[.int .i64 0, .slice none 0 0, .int .i64 0] 25)) w' → w'.cell? ⟨w.heap.size + 1, 1, none⟩ = some (.int .i64 uy) := fun w' hC => (u.out.ext hC).at2.2.1
    have q5 : ∀ w', Ext (((w.alloc (.cells #[.int .i64 i, .slice A l.length c, .int .i64 j] 25)).alloc (.cells #[.int .i64 ux, .int .i64 uy] 27)).alloc (.cells #[.int .i64 0, .slice none 0 0, .int .i64 0] 25)) w' → w'.cell? ⟨0, 0, none⟩ = some (.iface 122 (.pointer (some a))) := fun w' hC => (hS.ext hE.out).ext hC
    have hck : ∀ w', Ext (((w.alloc (.cells #[.int .i64 i, .slice A l.length c, .int .i64 j] 25)).alloc (.cells #[.int .i64 ux, .int .i64 uy] 27)).alloc (.cells #[.int .i64 0, .slice none 0 0, .int .i64 0] 25)) w' → Calls Tryd.prog 38 #[.agg #[.int .i64 i, .slice A l.length c, .int .i64 j], .agg #[.int .i64 ux, .int .i64 uy]] w' (fun e w'' => e = .returned (.iface 122 (.pointer (some a))) ∧ Ext (((w.alloc (.cells #[.int .i64 i, .slice A l.length c, .int .i64 j] 25)).alloc (.cells #[.int .i64 ux, .int .i64 uy] 27)).alloc (.cells #[.int .i64 0, .slice none 0 0, .int .i64 0] 25)) w'') := fun w' hC =>
      (takeCheck_no c i j ux uy (h.out.ext hC) hm ((hS.ext hE.out).ext hC) ht).mono fun e w'' ⟨f1, f2⟩ => ⟨f1, ext_trans hC f2⟩
    have his : ∀ w', Ext (((w.alloc (.cells #[.int .i64 i, .slice A l.length c, .int .i64 j] 25)).alloc (.cells #[.int .i64 ux, .int .i64 uy] 27)).alloc (.cells #[.int .i64 0, .slice none 0 0, .int .i64 0] 25)) w' → Calls Tryd.prog 37 #[(.iface 122 (.pointer (some a))), (.iface 122 (.pointer (some a)))] w' (fun e w'' => e = .returned (.bool true) ∧ Ext (((w.alloc (.cells #[.int .i64 i, .slice A l.length c, .int .i64 j] 25)).alloc (.cells #[.int .i64 ux, .int .i64 uy] 27)).alloc (.cells #[.int .i64 0, .slice none 0 0, .int .i64 0] 25)) w'') := fun w' hC =>
      (is_same a w').mono fun e w'' ⟨f1, f2⟩ => ⟨f1, by rw [f2]; exact hC⟩
    go_enter Tryd.func10, Tryd.ntmps10
    go_wp2_with fail
    refine wp_region_quietE (by kernel_rfl) (by kernel_rfl) ?_
    repeat (
      refine QW.step (fun K hK => ?_)
      go_simp
      first
      | (refine hK _ ?_; clear hK K)
      | (apply Exists.intro
         refine ⟨fun w5 hC => ?_, hK _ ?_⟩
         · first
           | rfl
           | exact hck w5 hC
           | exact his w5 hC
           | (simp only [q0 w5 hC, q1 w5 hC, q2 w5 hC, q3 w5 hC, q4 w5 hC, q5 w5 hC, Result.andThen_ok, true_and]; rfl)
         clear hK K))
    refine QW.nil ?_
    intro w1 hF
    have hs1 : w.heap.size + 3 ≤ w1.heap.size := by have := hF.size; simp only [World.size_alloc] at this; exact this
    clear q0 q1 q2 q3 q4 q5 hck his
    replace h := hide (h.out.ext hF)
    replace b := hide (b.out.ext hF)
    replace u := hide (u.out.ext hF)
    replace r := hide (r.out.ext hF)
    try clear b_0 b_1 b_2 b_lt
    obtain ⟨b_0, b_1, b_2, b_lt⟩ := b.out.at3
    try clear u_0 u_1 u_lt
    obtain ⟨u_0, u_1, u_lt⟩ := u.out.at2
    try clear r_0 r_1 r_2 r_lt r_f0 r_f1 r_f2
    obtain ⟨r_0, r_1, r_2, r_lt, r_f0, r_f1, r_f2⟩ := r.out.at3f
    replace hE := hide (ext_trans hE.out hF)
    clear hF
    obtain ⟨r_0, r_1, r_2, r_lt, r_f0, r_f1, r_f2⟩ := r.out.at3f
    go_wp2_with fail
    refine bodyPost_ret (v := .tuple #[.agg #[.int .i64 0, .slice none 0 0, .int .i64 0], .bool false]) (by simp [results, Tryd.results10, go_sem, r_0, r_1, r_2]) rfl ?_
    exact gotNodeB_zero (ndTake_no ht) ht (((hE.out.setCell (by show w.heap.size ≤ w.heap.size + 1 + 1; omega) _).setCell (by show w.heap.size ≤ w.heap.size + 1 + 1; omega) _).setCell (by show w.heap.size ≤ w.heap.size + 1 + 1; omega) _)
set_option maxHeartbeats 3200000 in
theorem specNodeTake_any {A : Option Addr} {l : List Upd} (c : Nat) (i j ux uy : Int) {w : World} (h : LogR w A l) (hm : l.length ≤ 1048576) :
    Calls Tryd.prog 11 #[.agg #[.int .i64 i, .slice A l.length c, .int .i64 j], .agg #[.int .i64 ux, .int .i64 uy]] w (GotNodeB w (ndTake ⟨i, l, j⟩ (ux, uy)) (takeOk ⟨i, l, j⟩ (ux, uy))) := by
  obtain ⟨iU, hiU, zU0, zU1, zU2⟩ := info_parts infoU'
  replace h := hide h
  have hE := hide (ext_refl w)
  have b := hide (Blk.newAt (w) 25 #[.int .i64 i, .slice A l.length c, .int .i64 j] (g := w.heap.size) (by simp))
  replace h := hide (h.out.ext (ext_alloc (ext_refl (w)) (.cells #[.int .i64 i, .slice A l.length c, .int .i64 j] 25)))
  replace hE := hide (ext_alloc hE.out (.cells #[.int .i64 i, .slice A l.length c, .int .i64 j] 25))
  have u := hide (Blk.newAt (w.alloc (.cells #[.int .i64 i, .slice A l.length c, .int .i64 j] 25)) 27 #[.int .i64 ux, .int .i64 uy] (g := w.heap.size + 1) (by simp))
  replace h := hide (h.out.ext (ext_alloc (ext_refl (w.alloc (.cells #[.int .i64 i, .slice A l.length c, .int .i64 j] 25))) (.cells #[.int .i64 ux, .int .i64 uy] 27)))
  replace b := hide (b.out.ext (ext_alloc (ext_refl (w.alloc (.cells #[.int .i64 i, .slice A l.length c, .int .i64 j] 25))) (.cells #[.int .i64 ux, .int .i64 uy] 27)))
  replace hE := hide (ext_alloc hE.out (.cells #[.int .i64 ux, .int .i64 uy] 27))
  have r := hide (Blk.newAt (((w.alloc (.cells #[.int .i64 i, .slice A l.length c, .int .i64 j] 25)).alloc (.cells #[.int .i64 ux, .int .i64 uy] 27))) 25 #[.int .i64 0, .slice none 0 0, .int .i64 0] (g := w.heap.size + 1 + 1) (by simp))
  replace h := hide (h.out.ext (ext_alloc (ext_refl (((w.alloc (.cells #[.int .i64 i, .slice A l.length c, .int .i64 j] 25)).alloc (.cells #[.int .i64 ux, .int .i64 uy] 27)))) (.cells #[.int .i64 0, .slice none 0 0, .int .i64 0] 25)))
  replace b := hide (b.out.ext (ext_alloc (ext_refl (((w.alloc (.cells #[.int .i64 i, .slice A l.length c, .int .i64 j] 25)).alloc (.cells #[.int .i64 ux, .int .i64 uy] 27)))) (.cells #[.int .i64 0, .slice none 0 0, .int .i64 0] 25)))
  replace u := hide (u.out.ext (ext_alloc (ext_refl (((w.alloc (.cells #[.int .i64 i, .slice A l.length c, .int .i64 j] 25)).alloc (.cells #[.int .i64 ux, .int .i64 uy] 27)))) (.cells #[.int .i64 0, .slice none 0 0, .int .i64 0] 25)))
  replace hE := hide (ext_alloc hE.out (.cells #[.int .i64 0, .slice none 0 0, .int .i64 0] 25))
  by_cases h1 : ndOk ⟨i, l, j⟩ = true
  · have h12 := (ndOk_parts h1).2.2.2.1
    by_cases h2 : updOk (ux, uy) = true
    · by_cases hlt : l.length < 12
      · have ht := takeOk_mk (n := ⟨i, l, j⟩) h1 h2 hlt
        have hd : ((l.length : Int) == 12) = false := beq_false_of_ne (by omega)
        replace h12 := hide h12
        go_enter Tryd.func11, Tryd.ntmps11
        go_wp2_with fail
        refine (specNodeValid_any c i j h.out hm).mono ?_
        rintro e w0 ⟨rfl, hF⟩
        rw [h1]
        have hs0 : w.heap.size + 3 ≤ w0.heap.size := by have := hF.size; simp only [World.size_alloc] at this; exact this
        replace h := hide (h.out.ext hF)
        replace b := hide (b.out.ext hF)
        replace u := hide (u.out.ext hF)
        replace r := hide (r.out.ext hF)
        try clear b_0 b_1 b_2 b_lt
        obtain ⟨b_0, b_1, b_2, b_lt⟩ := b.out.at3
        try clear u_0 u_1 u_lt
        obtain ⟨u_0, u_1, u_lt⟩ := u.out.at2
        try clear r_0 r_1 r_2 r_lt r_f0 r_f1 r_f2
        obtain ⟨r_0, r_1, r_2, r_lt, r_f0, r_f1, r_f2⟩ := r.out.at3f
        replace hE := hide (ext_trans hE.out hF)
        clear hF
        go_wp2_with fail
        refine (specUpdateValid_any ux uy _).mono ?_
        rintro e w1 ⟨rfl, hF⟩
        rw [h2]
        have hs1 : w.heap.size + 3 ≤ w1.heap.size := Nat.le_trans hs0 hF.size
        replace h := hide (h.out.ext hF)
        replace b := hide (b.out.ext hF)
        replace u := hide (u.out.ext hF)
        replace r := hide (r.out.ext hF)
        try clear b_0 b_1 b_2 b_lt
        obtain ⟨b_0, b_1, b_2, b_lt⟩ := b.out.at3
        try clear u_0 u_1 u_lt
        obtain ⟨u_0, u_1, u_lt⟩ := u.out.at2
        try clear r_0 r_1 r_2 r_lt r_f0 r_f1 r_f2
        obtain ⟨r_0, r_1, r_2, r_lt, r_f0, r_f1, r_f2⟩ := r.out.at3f
        replace hE := hide (ext_trans hE.out hF)
        clear hF
        go_wp2_with fail
        refine (l3Copy_any c i j h.out hm).mono ?_
        intro e w2 hG
        obtain ⟨A2, c2, rfl, -, -, hO, hF⟩ := hG.use
        clear hG
        have hs2 : w1.heap.size ≤ w2.heap.size := hF.size
        replace b := hide (b.out.ext hF)
        replace u := hide (u.out.ext hF)
        replace r := hide (r.out.ext hF)
        try clear b_0 b_1 b_2 b_lt
        obtain ⟨b_0, b_1, b_2, b_lt⟩ := b.out.at3
        try clear u_0 u_1 u_lt
        obtain ⟨u_0, u_1, u_lt⟩ := u.out.at2
        try clear r_0 r_1 r_2 r_lt r_f0 r_f1 r_f2
        obtain ⟨r_0, r_1, r_2, r_lt, r_f0, r_f1, r_f2⟩ := r.out.at3f
        replace hE := hide (ext_trans hE.out hF)
        clear hF
        have q := hide (Blk.newAt (w2) 25 #[.int .i64 i, .slice A2 l.length c2, .int .i64 j] (g := (w2).heap.size) (by simp))
        replace b := hide (b.out.ext (ext_alloc (ext_refl (w2)) (.cells #[.int .i64 i, .slice A2 l.length c2, .int .i64 j] 25)))
        replace u := hide (u.out.ext (ext_alloc (ext_refl (w2)) (.cells #[.int .i64 i, .slice A2 l.length c2, .int .i64 j] 25)))
        replace r := hide (r.out.ext (ext_alloc (ext_refl (w2)) (.cells #[.int .i64 i, .slice A2 l.length c2, .int .i64 j] 25)))
        replace hE := hide (ext_alloc hE.out (.cells #[.int .i64 i, .slice A2 l.length c2, .int .i64 j] 25))
        have hown := hide (World.ownsRow.alloc hO.out (.cells #[.int .i64 i, .slice A2 l.length c2, .int .i64 j] 25))
        try clear q_0 q_1 q_2 q_lt q_f0 q_f1 q_f2
        obtain ⟨q_0, q_1, q_2, q_lt, q_f0, q_f1, q_f2⟩ := q.out.at3f
        try clear b_0 b_1 b_2 b_lt
        obtain ⟨b_0, b_1, b_2, b_lt⟩ := b.out.at3
        try clear u_0 u_1 u_lt
        obtain ⟨u_0, u_1, u_lt⟩ := u.out.at2
        try clear r_0 r_1 r_2 r_lt r_f0 r_f1 r_f2
        obtain ⟨r_0, r_1, r_2, r_lt, r_f0, r_f1, r_f2⟩ := r.out.at3f
        have hl12 : l.length < 12 := hlt
        go_wp2_with (at_builtin; refine wpList_append_own _ rfl _ _ 23 rfl w1.heap.size 27 iU _ 2 16 Tryd.underlying23 hiU zU0 zU1 zU2 rfl (by decide) _ l.length _ rfl (hown.out.alloc _) ⟨w2.heap.size + 1, 0, none⟩ 1 1 [.int .i64 ux, .int .i64 uy] rfl rfl ?c1 ?c2 ?c3 ?c4 ?c5 ?_)
        case c1 =>
          intro jj u hj
          match jj, hj with
          | 0, hj => simp at hj; subst hj; simp [Addr.add]
          | 1, hj => simp at hj; subst hj; simp [Addr.add]
        case c2 => intro u hu; simp at hu; rcases hu with rfl | rfl <;> rfl
        case c3 => unfold maxLen; omega
        case c4 => omega
        case c5 => have := hO.out.1; have := hE.out.size; simp; omega
        intro v' w' hown' hgrow _
        obtain ⟨A3, c3, rfl, -, -⟩ := own_form hown'
        have hrow := hown.out.lt
        have hq' := hide (show Blk w' w2.heap.size 25 #[.int .i64 i, .slice A2 l.length c2, .int .i64 j] from (hgrow.block _ (q.out.alloc (.cells #[.int .i64 ux, .int .i64 uy] 27)).lt (blk_types (q.out.alloc (.cells #[.int .i64 ux, .int .i64 uy] 27)) (hown.out.alloc (.cells #[.int .i64 ux, .int .i64 uy] 27)) typesNd)).trans (q.out.alloc (.cells #[.int .i64 ux, .int .i64 uy] 27)))
        have hr' := hide (show Blk w' (w.heap.size + 1 + 1) 25 #[.int .i64 0, .slice none 0 0, .int .i64 0] from (hgrow.block _ (r.out.alloc (.cells #[.int .i64 ux, .int .i64 uy] 27)).lt (blk_types (r.out.alloc (.cells #[.int .i64 ux, .int .i64 uy] 27)) (hown.out.alloc (.cells #[.int .i64 ux, .int .i64 uy] 27)) typesNd)).trans (r.out.alloc (.cells #[.int .i64 ux, .int .i64 uy] 27)))
        have hE' := hide (Turned.ext (ext_alloc hE.out (.cells #[.int .i64 ux, .int .i64 uy] 27)) (Turned.of_row hgrow fun g hg => ⟨(hown.out.lt g hg).1, by have := (hown.out.lt g hg).2; simp; omega⟩) (show w.heap.size ≤ w1.heap.size by omega))
        have hq1 := hide (hq'.out.set31 (.slice A3 (l.length + 1) c3))
        have hr1 := hide (hr'.out.far (p := ⟨w2.heap.size, 1, none⟩) (show w.heap.size + 1 + 1 ≠ w2.heap.size by have := hs2; omega) (.slice A3 (l.length + 1) c3))
        have hw1 := hide (World.ownsRow.kept hown' (only_setCell (World.grownBy.refl w' (some w2.heap.size)) (p := ⟨w2.heap.size, 1, none⟩) (.inl rfl) (.slice A3 (l.length + 1) c3)) (.inr (blk_types hq'.out hown' typesNd).symm))
        obtain ⟨g_0, g_1, g_2, g_lt, g_f0, g_f1, g_f2⟩ := hq'.out.at3f
        obtain ⟨k_0, k_1, k_2, k_lt, k_f0, k_f1, k_f2⟩ := hq1.out.at3f
        obtain ⟨r_0, r_1, r_2, r_lt, r_f0, r_f1, r_f2⟩ := hr1.out.at3f
        clear hown' hgrow
        go_wp2_with fail
        refine bodyPost_ret (v := .tuple #[.agg #[.int .i64 i, .slice A3 (l.length + 1) c3, .int .i64 j], .bool true]) (by simp [results, Tryd.results11, go_sem, r_0, r_1, r_2]) rfl ?_
        have hb9 : w.heap.size + 1 + 1 < w1.heap.size := by omega
        refine gotNodeB_n (ndTake_yes ht) ht (by simp) ?_ (((((hE'.out.setCell (p := ⟨w2.heap.size, 1, none⟩) (by show w.heap.size ≤ w2.heap.size; have := hs2; omega) _).setCell (p := ⟨w.heap.size + 1 + 1, 0, none⟩) (by show w.heap.size ≤ w.heap.size + 1 + 1; omega) _).setCell (p := ⟨w.heap.size + 1 + 1, 1, none⟩) (by show w.heap.size ≤ w.heap.size + 1 + 1; omega) _).setCell (p := ⟨w.heap.size + 1 + 1, 2, none⟩) (by show w.heap.size ≤ w.heap.size + 1 + 1; omega) _))
        rw [ucells_snoc]
        exact own_mono (RowKit.ownsRow_setCell_below (RowKit.ownsRow_setCell_below (RowKit.ownsRow_setCell_below hw1.out hb9 _) hb9 _) hb9 _) (by omega)
      · have ht := takeOk_full (n := ⟨i, l, j⟩) (u := (ux, uy)) hlt
        have hd : ((l.length : Int) == 12) = true := beq_iff_eq.2 (by omega)
        replace h12 := hide h12
        go_enter Tryd.func11, Tryd.ntmps11
        go_wp2_with fail
        refine (specNodeValid_any c i j h.out hm).mono ?_
        rintro e w0 ⟨rfl, hF⟩
        rw [h1]
        have hs0 : w.heap.size + 3 ≤ w0.heap.size := by have := hF.size; simp only [World.size_alloc] at this; exact this
        replace h := hide (h.out.ext hF)
        replace b := hide (b.out.ext hF)
        replace u := hide (u.out.ext hF)
        replace r := hide (r.out.ext hF)
        try clear b_0 b_1 b_2 b_lt
        obtain ⟨b_0, b_1, b_2, b_lt⟩ := b.out.at3
        try clear u_0 u_1 u_lt
        obtain ⟨u_0, u_1, u_lt⟩ := u.out.at2
        try clear r_0 r_1 r_2 r_lt r_f0 r_f1 r_f2
        obtain ⟨r_0, r_1, r_2, r_lt, r_f0, r_f1, r_f2⟩ := r.out.at3f
        replace hE := hide (ext_trans hE.out hF)
        clear hF
        go_wp2_with fail
        refine (specUpdateValid_any ux uy _).mono ?_
        rintro e w1 ⟨rfl, hF⟩
        rw [h2]
        have hs1 : w.heap.size + 3 ≤ w1.heap.size := Nat.le_trans hs0 hF.size
        replace h := hide (h.out.ext hF)
        replace b := hide (b.out.ext hF)
        replace u := hide (u.out.ext hF)
        replace r := hide (r.out.ext hF)
        try clear b_0 b_1 b_2 b_lt
        obtain ⟨b_0, b_1, b_2, b_lt⟩ := b.out.at3
        try clear u_0 u_1 u_lt
        obtain ⟨u_0, u_1, u_lt⟩ := u.out.at2
        try clear r_0 r_1 r_2 r_lt r_f0 r_f1 r_f2
        obtain ⟨r_0, r_1, r_2, r_lt, r_f0, r_f1, r_f2⟩ := r.out.at3f
        replace hE := hide (ext_trans hE.out hF)
        clear hF
        obtain ⟨r_0, r_1, r_2, r_lt, r_f0, r_f1, r_f2⟩ := r.out.at3f
        go_wp2_with fail
        refine bodyPost_ret (v := .tuple #[.agg #[.int .i64 0, .slice none 0 0, .int .i64 0], .bool false]) (by simp [results, Tryd.results11, go_sem, r_0, r_1, r_2]) rfl ?_
        exact gotNodeB_zero (ndTake_no ht) ht (((hE.out.setCell (by show w.heap.size ≤ w.heap.size + 1 + 1; omega) _).setCell (by show w.heap.size ≤ w.heap.size + 1 + 1; omega) _).setCell (by show w.heap.size ≤ w.heap.size + 1 + 1; omega) _)
    · have h2 : updOk (ux, uy) = false := by simpa using h2
      have ht := takeOk_upd (n := ⟨i, l, j⟩) h2
      go_enter Tryd.func11, Tryd.ntmps11
      go_wp2_with fail
      refine (specNodeValid_any c i j h.out hm).mono ?_
      rintro e w0 ⟨rfl, hF⟩
      rw [h1]
      have hs0 : w.heap.size + 3 ≤ w0.heap.size := by have := hF.size; simp only [World.size_alloc] at this; exact this
      replace h := hide (h.out.ext hF)
      replace b := hide (b.out.ext hF)
      replace u := hide (u.out.ext hF)
      replace r := hide (r.out.ext hF)
      try clear b_0 b_1 b_2 b_lt
      obtain ⟨b_0, b_1, b_2, b_lt⟩ := b.out.at3
      try clear u_0 u_1 u_lt
      obtain ⟨u_0, u_1, u_lt⟩ := u.out.at2
      try clear r_0 r_1 r_2 r_lt r_f0 r_f1 r_f2
      obtain ⟨r_0, r_1, r_2, r_lt, r_f0, r_f1, r_f2⟩ := r.out.at3f
      replace hE := hide (ext_trans hE.out hF)
      clear hF
      go_wp2_with fail
      refine (specUpdateValid_any ux uy _).mono ?_
      rintro e w1 ⟨rfl, hF⟩
      rw [h2]
      have hs1 : w.heap.size + 3 ≤ w1.heap.size := Nat.le_trans hs0 hF.size
      replace h := hide (h.out.ext hF)
      replace b := hide (b.out.ext hF)
      replace u := hide (u.out.ext hF)
      replace r := hide (r.out.ext hF)
      try clear b_0 b_1 b_2 b_lt
      obtain ⟨b_0, b_1, b_2, b_lt⟩ := b.out.at3
      try clear u_0 u_1 u_lt
      obtain ⟨u_0, u_1, u_lt⟩ := u.out.at2
      try clear r_0 r_1 r_2 r_lt r_f0 r_f1 r_f2
      obtain ⟨r_0, r_1, r_2, r_lt, r_f0, r_f1, r_f2⟩ := r.out.at3f
      replace hE := hide (ext_trans hE.out hF)
      clear hF
      obtain ⟨r_0, r_1, r_2, r_lt, r_f0, r_f1, r_f2⟩ := r.out.at3f
      go_wp2_with fail
      refine bodyPost_ret (v := .tuple #[.agg #[.int .i64 0, .slice none 0 0, .int .i64 0], .bool false]) (by simp [results, Tryd.results11, go_sem, r_0, r_1, r_2]) rfl ?_
      exact gotNodeB_zero (ndTake_no ht) ht (((hE.out.setCell (by show w.heap.size ≤ w.heap.size + 1 + 1; omega) _).setCell (by show w.heap.size ≤ w.heap.size + 1 + 1; omega) _).setCell (by show w.heap.size ≤ w.heap.size + 1 + 1; omega) _)
  · have h1 : ndOk ⟨i, l, j⟩ = false := by simpa using h1
    have ht := takeOk_nd (n := ⟨i, l, j⟩) (u := (ux, uy)) h1
    go_enter Tryd.func11, Tryd.ntmps11
    go_wp2_with fail
    refine (specNodeValid_any c i j h.out hm).mono ?_
    rintro e w0 ⟨rfl, hF⟩
    rw [h1]
    have hs0 : w.heap.size + 3 ≤ w0.heap.size := by have := hF.size; simp only [World.size_alloc] at this; exact this
    replace h := hide (h.out.ext hF)
    replace b := hide (b.out.ext hF)
    replace u := hide (u.out.ext hF)
    replace r := hide (r.out.ext hF)
    try clear b_0 b_1 b_2 b_lt
    obtain ⟨b_0, b_1, b_2, b_lt⟩ := b.out.at3
    try clear u_0 u_1 u_lt
    obtain ⟨u_0, u_1, u_lt⟩ := u.out.at2
    try clear r_0 r_1 r_2 r_lt r_f0 r_f1 r_f2
    obtain ⟨r_0, r_1, r_2, r_lt, r_f0, r_f1, r_f2⟩ := r.out.at3f
    replace hE := hide (ext_trans hE.out hF)
    clear hF
    obtain ⟨r_0, r_1, r_2, r_lt, r_f0, r_f1, r_f2⟩ := r.out.at3f
    go_wp2_with fail
    refine bodyPost_ret (v := .tuple #[.agg #[.int .i64 0, .slice none 0 0, .int .i64 0], .bool false]) (by simp [results, Tryd.results11, go_sem, r_0, r_1, r_2]) rfl ?_
    exact gotNodeB_zero (ndTake_no ht) ht (((hE.out.setCell (by show w.heap.size ≤ w.heap.size + 1 + 1; omega) _).setCell (by show w.heap.size ≤ w.heap.size + 1 + 1; omega) _).setCell (by show w.heap.size ≤ w.heap.size + 1 + 1; omega) _)
end Go.Proofs.YtjheeeilcfbdbaaDoor
