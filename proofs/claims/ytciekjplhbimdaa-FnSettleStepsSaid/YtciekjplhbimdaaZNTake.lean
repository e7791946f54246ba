/-
  Contracts: a node takes an update, both; whether it can.
-/
import Derived.Test.YtciekjplhbimdaaZNodes4
import Derived.Test.YtciekjplhbimdaaZCGot
import Derived.Test.YtciekjplhbimdaaZQE
set_option linter.all false
set_option maxRecDepth 100000
namespace Go.Proofs.YtciekjplhbimdaaZ
open Go.RowKit
attribute [local go_sem ↓] Go.wp_at_zero Go.wp_at_succ

theorem typesNd : 36 ≠ 39 := by decide
theorem gotNodeB_n {w w' : World} {x : Nd} {b b' : Bool} {i j : Int} {l : List Upd} {A : Option Addr} {n c : Nat} (hx : x = ⟨i, l, j⟩) (hb : b' = b) (hn : l.length = n) (h1 : w'.ownsRow w.heap.size 39 2 (.slice A n c) n (ucells l)) (h2 : Ext w w') :
    GotNodeB w x b' (.returned (.tuple #[.agg #[.int .i64 i, .slice A n c, .int .i64 j], .bool b])) w' := by
  subst hn; exact gotNodeB_of hx hb h1 h2
theorem ucells_snoc (l : List Upd) (x y : Int) : ucells (l ++ [(x, y)]) = ucells l ++ [.int .i64 x, .int .i64 y] := by simp [ucells_append, ucells]
set_option maxHeartbeats 3200000 in
theorem specNodeTake_any {A : Option Addr} {l : List Upd} (c : Nat) (i j ux uy : Int) {w : World} (h : LogR w A l) (hm : l.length ≤ 1048576) :
    Calls Alt.prog 72 #[.agg #[.int .i64 i, .slice A l.length c, .int .i64 j], .agg #[.int .i64 ux, .int .i64 uy]] w (GotNodeB w (ndTake ⟨i, l, j⟩ (ux, uy)) (takeOk ⟨i, l, j⟩ (ux, uy))) := by
  obtain ⟨iU, hiU, zU0, zU1, zU2⟩ := info_parts infoU'
  replace h := hide h
  have hE := hide (ext_refl w)
  have b := hide (Blk.newAt (w) 36 #[.int .i64 i, .slice A l.length c, .int .i64 j] (g := w.heap.size) (by simp))
  replace h := hide (h.out.ext (ext_alloc (ext_refl (w)) (.cells #[.int .i64 i, .slice A l.length c, .int .i64 j] 36)))
  replace hE := hide (ext_alloc hE.out (.cells #[.int .i64 i, .slice A l.length c, .int .i64 j] 36))
  have u := hide (Blk.newAt (w.alloc (.cells #[.int .i64 i, .slice A l.length c, .int .i64 j] 36)) 39 #[.int .i64 ux, .int .i64 uy] (g := w.heap.size + 1) (by simp))
  replace h := hide (h.out.ext (ext_alloc (ext_refl (w.alloc (.cells #[.int .i64 i, .slice A l.length c, .int .i64 j] 36))) (.cells #[.int .i64 ux, .int .i64 uy] 39)))
  replace b := hide (b.out.ext (ext_alloc (ext_refl (w.alloc (.cells #[.int .i64 i, .slice A l.length c, .int .i64 j] 36))) (.cells #[.int .i64 ux, .int .i64 uy] 39)))
  replace hE := hide (ext_alloc hE.out (.cells #[.int .i64 ux, .int .i64 uy] 39))
  have r := hide (Blk.newAt (((w.alloc (.cells #[.int .i64 i, .slice A l.length c, .int .i64 j] 36)).alloc (.cells #[.int .i64 ux, .int .i64 uy] 39))) 36 #[.int .i64 0, .slice none 0 0, .int .i64 0] (g := w.heap.size + 1 + 1) (by simp))
  replace h := hide (h.out.ext (ext_alloc (ext_refl (((w.alloc (.cells #[.int .i64 i, .slice A l.length c, .int .i64 j] 36)).alloc (.cells #[.int .i64 ux, .int .i64 uy] 39)))) (.cells #[.int .i64 0, .slice none 0 0, .int .i64 0] 36)))
  replace b := hide (b.out.ext (ext_alloc (ext_refl (((w.alloc (.cells #[.int .i64 i, .slice A l.length c, .int .i64 j] 36)).alloc (.cells #[.int .i64 ux, .int .i64 uy] 39)))) (.cells #[.int .i64 0, .slice none 0 0, .int .i64 0] 36)))
  replace u := hide (u.out.ext (ext_alloc (ext_refl (((w.alloc (.cells #[.int .i64 i, .slice A l.length c, .int .i64 j] 36)).alloc (.cells #[.int .i64 ux, .int .i64 uy] 39)))) (.cells #[.int .i64 0, .slice none 0 0, .int .i64 0] 36)))
  replace hE := hide (ext_alloc hE.out (.cells #[.int .i64 0, .slice none 0 0, .int .i64 0] 36))
  by_cases h1 : ndOk ⟨i, l, j⟩ = true
  · have h12 := (ndOk_parts h1).2.2.2.1
    by_cases h2 : updOk (ux, uy) = true
    · by_cases hlt : l.length < 12
      · have ht := takeOk_mk (n := ⟨i, l, j⟩) h1 h2 hlt
        have hd : ((l.length : Int) == 12) = false := beq_false_of_ne (by omega)
        replace h12 := hide h12
        go_enter Alt.func72, Try.ntmps72
        go_wp2_with fail
        refine (specNodeValid_any c i j h.out hm).mono ?_
        rintro e w0 ⟨rfl, hF⟩
        rw [h1]
        have hs0 : w.heap.size + 3 ≤ w0.heap.size := by have := hF.size; simp only [World.size_alloc] at this; exact this
        replace h := hide (h.out.ext hF)
        replace b := hide (b.out.ext hF)
        replace u := hide (u.out.ext hF)
        replace r := hide (r.out.ext hF)
        try clear b_0 b_1 b_2 b_lt
        obtain ⟨b_0, b_1, b_2, b_lt⟩ := b.out.at3
        try clear u_0 u_1 u_lt
        obtain ⟨u_0, u_1, u_lt⟩ := u.out.at2
        try clear r_0 r_1 r_2 r_lt r_f0 r_f1 r_f2
        obtain ⟨r_0, r_1, r_2, r_lt, r_f0, r_f1, r_f2⟩ := r.out.at3f
        replace hE := hide (ext_trans hE.out hF)
        clear hF
        go_wp2_with fail
        refine (specUpdateValid_any ux uy _).mono ?_
        rintro e w1 ⟨rfl, hF⟩
        rw [h2]
        have hs1 : w.heap.size + 3 ≤ w1.heap.size := Nat.le_trans hs0 hF.size
        replace h := hide (h.out.ext hF)
        replace b := hide (b.out.ext hF)
        replace u := hide (u.out.ext hF)
        replace r := hide (r.out.ext hF)
        try clear b_0 b_1 b_2 b_lt
        obtain ⟨b_0, b_1, b_2, b_lt⟩ := b.out.at3
        try clear u_0 u_1 u_lt
        obtain ⟨u_0, u_1, u_lt⟩ := u.out.at2
        try clear r_0 r_1 r_2 r_lt r_f0 r_f1 r_f2
        obtain ⟨r_0, r_1, r_2, r_lt, r_f0, r_f1, r_f2⟩ := r.out.at3f
        replace hE := hide (ext_trans hE.out hF)
        clear hF
        go_wp2_with fail
        refine (l3Copy_any c i j h.out hm).mono ?_
        intro e w2 hG
        obtain ⟨A2, c2, rfl, -, -, hO, hF⟩ := hG.use
        clear hG
        have hs2 : w1.heap.size ≤ w2.heap.size := hF.size
        replace b := hide (b.out.ext hF)
        replace u := hide (u.out.ext hF)
        replace r := hide (r.out.ext hF)
        try clear b_0 b_1 b_2 b_lt
        obtain ⟨b_0, b_1, b_2, b_lt⟩ := b.out.at3
        try clear u_0 u_1 u_lt
        obtain ⟨u_0, u_1, u_lt⟩ := u.out.at2
        try clear r_0 r_1 r_2 r_lt r_f0 r_f1 r_f2
        obtain ⟨r_0, r_1, r_2, r_lt, r_f0, r_f1, r_f2⟩ := r.out.at3f
        replace hE := hide (ext_trans hE.out hF)
        clear hF
        have q := hide (Blk.newAt (w2) 36 #[.int .i64 i, .slice A2 l.length c2, .int .i64 j] (g := (w2).heap.size) (by simp))
        replace b := hide (b.out.ext (ext_alloc (ext_refl (w2)) (.cells #[.int .i64 i, .slice A2 l.length c2, .int .i64 j] 36)))
        replace u := hide (u.out.ext (ext_alloc (ext_refl (w2)) (.cells #[.int .i64 i, .slice A2 l.length c2, .int .i64 j] 36)))
        replace r := hide (r.out.ext (ext_alloc (ext_refl (w2)) (.cells #[.int .i64 i, .slice A2 l.length c2, .int .i64 j] 36)))
        replace hE := hide (ext_alloc hE.out (.cells #[.int .i64 i, .slice A2 l.length c2, .int .i64 j] 36))
        have hown := hide (World.ownsRow.alloc hO.out (.cells #[.int .i64 i, .slice A2 l.length c2, .int .i64 j] 36))
        try clear q_0 q_1 q_2 q_lt q_f0 q_f1 q_f2
        obtain ⟨q_0, q_1, q_2, q_lt, q_f0, q_f1, q_f2⟩ := q.out.at3f
        try clear b_0 b_1 b_2 b_lt
        obtain ⟨b_0, b_1, b_2, b_lt⟩ := b.out.at3
        try clear u_0 u_1 u_lt
        obtain ⟨u_0, u_1, u_lt⟩ := u.out.at2
        try clear r_0 r_1 r_2 r_lt r_f0 r_f1 r_f2
        obtain ⟨r_0, r_1, r_2, r_lt, r_f0, r_f1, r_f2⟩ := r.out.at3f
        have hl12 : l.length < 12 := hlt
        go_wp2_with (at_builtin; refine wpList_append_own _ rfl _ _ 34 rfl w1.heap.size 39 iU _ 2 16 Alt.underlying34 hiU zU0 zU1 zU2 rfl (by decide) _ l.length _ rfl (hown.out.alloc _) ⟨w2.heap.size + 1, 0, none⟩ 1 1 [.int .i64 ux, .int .i64 uy] rfl rfl ?c1 ?c2 ?c3 ?c4 ?c5 ?_)
        case c1 =>
          intro jj u hj
          match jj, hj with
          | 0, hj => simp at hj; subst hj; simp [Addr.add]
          | 1, hj => simp at hj; subst hj; simp [Addr.add]
        case c2 => intro u hu; simp at hu; rcases hu with rfl | rfl <;> rfl
        case c3 => unfold maxLen; omega
        case c4 => omega
        case c5 => have := hO.out.1; have := hE.out.size; simp; omega
        intro v' w' hown' hgrow _
        obtain ⟨A3, c3, rfl, -, -⟩ := own_form hown'
        have hrow := hown.out.lt
        have hq' := hide (show Blk w' w2.heap.size 36 #[.int .i64 i, .slice A2 l.length c2, .int .i64 j] from (hgrow.block _ (q.out.alloc (.cells #[.int .i64 ux, .int .i64 uy] 39)).lt (blk_types (q.out.alloc (.cells #[.int .i64 ux, .int .i64 uy] 39)) (hown.out.alloc (.cells #[.int .i64 ux, .int .i64 uy] 39)) typesNd)).trans (q.out.alloc (.cells #[.int .i64 ux, .int .i64 uy] 39)))
        have hr' := hide (show Blk w' (w.heap.size + 1 + 1) 36 #[.int .i64 0, .slice none 0 0, .int .i64 0] from (hgrow.block _ (r.out.alloc (.cells #[.int .i64 ux, .int .i64 uy] 39)).lt (blk_types (r.out.alloc (.cells #[.int .i64 ux, .int .i64 uy] 39)) (hown.out.alloc (.cells #[.int .i64 ux, .int .i64 uy] 39)) typesNd)).trans (r.out.alloc (.cells #[.int .i64 ux, .int .i64 uy] 39)))
        have hE' := hide (Turned.ext (ext_alloc hE.out (.cells #[.int .i64 ux, .int .i64 uy] 39)) (Turned.of_row hgrow fun g hg => ⟨(hown.out.lt g hg).1, by have := (hown.out.lt g hg).2; simp; omega⟩) (show w.heap.size ≤ w1.heap.size by omega))
        have hq1 := hide (hq'.out.set31 (.slice A3 (l.length + 1) c3))
        have hr1 := hide (hr'.out.far (p := ⟨w2.heap.size, 1, none⟩) (show w.heap.size + 1 + 1 ≠ w2.heap.size by have := hs2; omega) (.slice A3 (l.length + 1) c3))
        have hw1 := hide (World.ownsRow.kept hown' (only_setCell (World.grownBy.refl w' (some w2.heap.size)) (p := ⟨w2.heap.size, 1, none⟩) (.inl rfl) (.slice A3 (l.length + 1) c3)) (.inr (blk_types hq'.out hown' typesNd).symm))
        obtain ⟨g_0, g_1, g_2, g_lt, g_f0, g_f1, g_f2⟩ := hq'.out.at3f
        obtain ⟨k_0, k_1, k_2, k_lt, k_f0, k_f1, k_f2⟩ := hq1.out.at3f
        obtain ⟨r_0, r_1, r_2, r_lt, r_f0, r_f1, r_f2⟩ := hr1.out.at3f
        clear hown' hgrow
        go_wp2_with fail
        refine bodyPost_ret (v := .tuple #[.agg #[.int .i64 i, .slice A3 (l.length + 1) c3, .int .i64 j], .bool true]) (by simp [results, Try.results72, go_sem, r_0, r_1, r_2]) rfl ?_
        have hb9 : w.heap.size + 1 + 1 < w1.heap.size := by omega
        refine gotNodeB_n (ndTake_yes ht) ht (by simp) ?_ (((((hE'.out.setCell (p := ⟨w2.heap.size, 1, none⟩) (by show w.heap.size ≤ w2.heap.size; have := hs2; omega) _).setCell (p := ⟨w.heap.size + 1 + 1, 0, none⟩) (by show w.heap.size ≤ w.heap.size + 1 + 1; omega) _).setCell (p := ⟨w.heap.size + 1 + 1, 1, none⟩) (by show w.heap.size ≤ w.heap.size + 1 + 1; omega) _).setCell (p := ⟨w.heap.size + 1 + 1, 2, none⟩) (by show w.heap.size ≤ w.heap.size + 1 + 1; omega) _))
        rw [ucells_snoc]
        exact own_mono (RowKit.ownsRow_setCell_below (RowKit.ownsRow_setCell_below (RowKit.ownsRow_setCell_below hw1.out hb9 _) hb9 _) hb9 _) (by omega)
      · have ht := takeOk_full (n := ⟨i, l, j⟩) (u := (ux, uy)) hlt
        have hd : ((l.length : Int) == 12) = true := beq_iff_eq.2 (by omega)
        replace h12 := hide h12
        go_enter Alt.func72, Try.ntmps72
        go_wp2_with fail
        refine (specNodeValid_any c i j h.out hm).mono ?_
        rintro e w0 ⟨rfl, hF⟩
        rw [h1]
        have hs0 : w.heap.size + 3 ≤ w0.heap.size := by have := hF.size; simp only [World.size_alloc] at this; exact this
        replace h := hide (h.out.ext hF)
        replace b := hide (b.out.ext hF)
        replace u := hide (u.out.ext hF)
        replace r := hide (r.out.ext hF)
        try clear b_0 b_1 b_2 b_lt
        obtain ⟨b_0, b_1, b_2, b_lt⟩ := b.out.at3
        try clear u_0 u_1 u_lt
        obtain ⟨u_0, u_1, u_lt⟩ := u.out.at2
        try clear r_0 r_1 r_2 r_lt r_f0 r_f1 r_f2
        obtain ⟨r_0, r_1, r_2, r_lt, r_f0, r_f1, r_f2⟩ := r.out.at3f
        replace hE := hide (ext_trans hE.out hF)
        clear hF
        go_wp2_with fail
        refine (specUpdateValid_any ux uy _).mono ?_
        rintro e w1 ⟨rfl, hF⟩
        rw [h2]
        have hs1 : w.heap.size + 3 ≤ w1.heap.size := Nat.le_trans hs0 hF.size
        replace h := hide (h.out.ext hF)
        replace b := hide (b.out.ext hF)
        replace u := hide (u.out.ext hF)
        replace r := hide (r.out.ext hF)
        try clear b_0 b_1 b_2 b_lt
        obtain ⟨b_0, b_1, b_2, b_lt⟩ := b.out.at3
        try clear u_0 u_1 u_lt
        obtain ⟨u_0, u_1, u_lt⟩ := u.out.at2
        try clear r_0 r_1 r_2 r_lt r_f0 r_f1 r_f2
        obtain ⟨r_0, r_1, r_2, r_lt, r_f0, r_f1, r_f2⟩ := r.out.at3f
        replace hE := hide (ext_trans hE.out hF)
        clear hF
        obtain ⟨r_0, r_1, r_2, r_lt, r_f0, r_f1, r_f2⟩ := r.out.at3f
        go_wp2_with fail
        refine bodyPost_ret (v := .tuple #[.agg #[.int .i64 0, .slice none 0 0, .int .i64 0], .bool false]) (by simp [results, Try.results72, go_sem, r_0, r_1, r_2]) rfl ?_
        exact gotNodeB_zero (ndTake_no ht) ht (((hE.out.setCell (by show w.heap.size ≤ w.heap.size + 1 + 1; omega) _).setCell (by show w.heap.size ≤ w.heap.size + 1 + 1; omega) _).setCell (by show w.heap.size ≤ w.heap.size + 1 + 1; omega) _)
    · have h2 : updOk (ux, uy) = false := by simpa using h2
      have ht := takeOk_upd (n := ⟨i, l, j⟩) h2
      go_enter Alt.func72, Try.ntmps72
      go_wp2_with fail
      refine (specNodeValid_any c i j h.out hm).mono ?_
      rintro e w0 ⟨rfl, hF⟩
      rw [h1]
      have hs0 : w.heap.size + 3 ≤ w0.heap.size := by have := hF.size; simp only [World.size_alloc] at this; exact this
      replace h := hide (h.out.ext hF)
      replace b := hide (b.out.ext hF)
      replace u := hide (u.out.ext hF)
      replace r := hide (r.out.ext hF)
      try clear b_0 b_1 b_2 b_lt
      obtain ⟨b_0, b_1, b_2, b_lt⟩ := b.out.at3
      try clear u_0 u_1 u_lt
      obtain ⟨u_0, u_1, u_lt⟩ := u.out.at2
      try clear r_0 r_1 r_2 r_lt r_f0 r_f1 r_f2
      obtain ⟨r_0, r_1, r_2, r_lt, r_f0, r_f1, r_f2⟩ := r.out.at3f
      replace hE := hide (ext_trans hE.out hF)
      clear hF
      go_wp2_with fail
      refine (specUpdateValid_any ux uy _).mono ?_
      rintro e w1 ⟨rfl, hF⟩
      rw [h2]
      have hs1 : w.heap.size + 3 ≤ w1.heap.size := Nat.le_trans hs0 hF.size
      replace h := hide (h.out.ext hF)
      replace b := hide (b.out.ext hF)
      replace u := hide (u.out.ext hF)
      replace r := hide (r.out.ext hF)
      try clear b_0 b_1 b_2 b_lt
      obtain ⟨b_0, b_1, b_2, b_lt⟩ := b.out.at3
      try clear u_0 u_1 u_lt
      obtain ⟨u_0, u_1, u_lt⟩ := u.out.at2
      try clear r_0 r_1 r_2 r_lt r_f0 r_f1 r_f2
      obtain ⟨r_0, r_1, r_2, r_lt, r_f0, r_f1, r_f2⟩ := r.out.at3f
      replace hE := hide (ext_trans hE.out hF)
      clear hF
      obtain ⟨r_0, r_1, r_2, r_lt, r_f0, r_f1, r_f2⟩ := r.out.at3f
      go_wp2_with fail
      refine bodyPost_ret (v := .tuple #[.agg #[.int .i64 0, .slice none 0 0, .int .i64 0], .bool false]) (by simp [results, Try.results72, go_sem, r_0, r_1, r_2]) rfl ?_
      exact gotNodeB_zero (ndTake_no ht) ht (((hE.out.setCell (by show w.heap.size ≤ w.heap.size + 1 + 1; omega) _).setCell (by show w.heap.size ≤ w.heap.size + 1 + 1; omega) _).setCell (by show w.heap.size ≤ w.heap.size + 1 + 1; omega) _)
  · have h1 : ndOk ⟨i, l, j⟩ = false := by simpa using h1
    have ht := takeOk_nd (n := ⟨i, l, j⟩) (u := (ux, uy)) h1
    go_enter Alt.func72, Try.ntmps72
    go_wp2_with fail
    refine (specNodeValid_any c i j h.out hm).mono ?_
    rintro e w0 ⟨rfl, hF⟩
    rw [h1]
    have hs0 : w.heap.size + 3 ≤ w0.heap.size := by have := hF.size; simp only [World.size_alloc] at this; exact this
    replace h := hide (h.out.ext hF)
    replace b := hide (b.out.ext hF)
    replace u := hide (u.out.ext hF)
    replace r := hide (r.out.ext hF)
    try clear b_0 b_1 b_2 b_lt
    obtain ⟨b_0, b_1, b_2, b_lt⟩ := b.out.at3
    try clear u_0 u_1 u_lt
    obtain ⟨u_0, u_1, u_lt⟩ := u.out.at2
    try clear r_0 r_1 r_2 r_lt r_f0 r_f1 r_f2
    obtain ⟨r_0, r_1, r_2, r_lt, r_f0, r_f1, r_f2⟩ := r.out.at3f
    replace hE := hide (ext_trans hE.out hF)
    clear hF
    obtain ⟨r_0, r_1, r_2, r_lt, r_f0, r_f1, r_f2⟩ := r.out.at3f
    go_wp2_with fail
    refine bodyPost_ret (v := .tuple #[.agg #[.int .i64 0, .slice none 0 0, .int .i64 0], .bool false]) (by simp [results, Try.results72, go_sem, r_0, r_1, r_2]) rfl ?_
    exact gotNodeB_zero (ndTake_no ht) ht (((hE.out.setCell (by show w.heap.size ≤ w.heap.size + 1 + 1; omega) _).setCell (by show w.heap.size ≤ w.heap.size + 1 + 1; omega) _).setCell (by show w.heap.size ≤ w.heap.size + 1 + 1; omega) _)
end Go.Proofs.YtciekjplhbimdaaZ
