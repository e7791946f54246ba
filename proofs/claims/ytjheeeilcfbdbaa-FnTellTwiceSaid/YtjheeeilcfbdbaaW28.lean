/-
  The walks of the laws FnTell, FnTellTwice: each returns true for every input, and leaves its arguments as they were.
-/
import Derived.Test.YtjheeeilcfbdbaaCDraw6
import Derived.Test.YtjheeeilcfbdbaaChain9
import Derived.Test.YtjheeeilcfbdbaaCExact2
import Derived.Test.YtjheeeilcfbdbaaQE
import Derived.Test.YtjheeeilcfbdbaaSame
import Derived.Test.YtjheeeilcfbdbaaFrame2
set_option linter.all false
set_option maxRecDepth 100000
namespace Go.Proofs.Ytjheeeilcfbdbaa
open Go.RowKit
attribute [local go_sem ↓] Go.wp_at_zero Go.wp_at_succ

theorem len64d {n c : Nat} {w : World} {a : Option Addr} (h : CodeR w a n c) : n ≤ 9223372036854775807 := by have := h.1; have := h.2.1; unfold maxLen at this; omega
theorem tell_yes {v at_ rv : Int} {ns rl : List Nd} (h : TellRes v ns at_ rv rl true) : ∃ (k : Nat) (x y : Nd), TellAt v ns at_ k x y ∧ rv = v ∧ rl = ns.set k ⟨x.id, x.log, y.done⟩ := by
  rcases h with ⟨k, x, y, h1, h2, h3, -⟩ | ⟨-, -, -, h⟩
  · exact ⟨k, x, y, h1, h2, h3⟩
  · cases h
set_option maxHeartbeats 3200000 in
theorem fnTellTwice.walk (a0 : Option Addr) (n0 c0 : Nat) (w : World) (w0 : CodeR w a0 n0 c0) :
    Calls Try.prog 4 #[.slice a0 n0 c0] w fun e w' => e = .returned (.bool true) ∧ Below w.heap.size w w' := by
  have hm := len64d w0
  by_cases hn : 1048576 < n0
  · go_enter Try.func4, Try.ntmps4
    go_wp2
    go_ret
    exact ⟨rfl, ext_refl _⟩
  · go_enter Try.func4, Try.ntmps4
    go_wp2_with fail
    refine (drawChainTell_any w0).mono ?_
    rintro e w1 ⟨A, c, v, ns, at_, rfl, hl1, hl5, hlow, hlc, hcm, hN, hE⟩
    replace hE := hide hE
    have hb := hlow.bulk hl5
    obtain ⟨rv, rl, rb, hs⟩ := tellRes_ex v ns at_
    have hms := Nat.le_trans (tellRes_bulk hs) hb
    replace hs := hide hs
    replace hlow := hide hlow
    have P := hide (Blk.newAt (w1) 25 #[.int .i64 v, .slice A ns.length c] (g := (w1).heap.size) (by simp))
    replace hN := hide (hN.out.ext (ext_alloc (ext_refl (w1)) (.cells #[.int .i64 v, .slice A ns.length c] 25)))
    replace hE := hide (ext_alloc hE.out (.cells #[.int .i64 v, .slice A ns.length c] 25))
    go_wp2_with fail
    refine (implChainTell_any c v at_ hN.out hb hs.out).mono ?_
    intro e w2 hG
    obtain ⟨A2, c2, rfl, -, -, hX, hF⟩ := hG.use
    replace hX := hide hX.out.read
    clear hG
    replace hN := hide (hN.out.ext hF)
    replace P := hide (P.out.ext hF)
    try clear P_0 P_1 P_lt
    obtain ⟨P_0, P_1, P_lt⟩ := P.out.at2
    replace hE := hide (ext_trans hE.out hF)
    clear hF
    have X := hide (Blk.newAt (w2) 25 #[.int .i64 rv, .slice A2 rl.length c2] (g := (w2).heap.size) (by simp))
    replace hN := hide (hN.out.ext (ext_alloc (ext_refl (w2)) (.cells #[.int .i64 rv, .slice A2 rl.length c2] 25)))
    replace hX := hide (hX.out.ext (ext_alloc (ext_refl (w2)) (.cells #[.int .i64 rv, .slice A2 rl.length c2] 25)))
    replace P := hide (P.out.ext (ext_alloc (ext_refl (w2)) (.cells #[.int .i64 rv, .slice A2 rl.length c2] 25)))
    replace hE := hide (ext_alloc hE.out (.cells #[.int .i64 rv, .slice A2 rl.length c2] 25))
    go_wp2_with fail
    refine (specChainTell_any c v at_ hN.out hb hlc hs.out).mono ?_
    intro e w3 hG
    obtain ⟨A3, c3, rfl, -, -, hY, hF⟩ := hG.use
    replace hY := hide hY.out.read
    clear hG
    replace hN := hide (hN.out.ext hF)
    replace hX := hide (hX.out.ext hF)
    replace P := hide (P.out.ext hF)
    replace X := hide (X.out.ext hF)
    try clear P_0 P_1 P_lt
    obtain ⟨P_0, P_1, P_lt⟩ := P.out.at2
    try clear X_0 X_1 X_lt
    obtain ⟨X_0, X_1, X_lt⟩ := X.out.at2
    replace hE := hide (ext_trans hE.out hF)
    clear hF
    have Y := hide (Blk.newAt (w3) 25 #[.int .i64 rv, .slice A3 rl.length c3] (g := (w3).heap.size) (by simp))
    replace hN := hide (hN.out.ext (ext_alloc (ext_refl (w3)) (.cells #[.int .i64 rv, .slice A3 rl.length c3] 25)))
    replace hX := hide (hX.out.ext (ext_alloc (ext_refl (w3)) (.cells #[.int .i64 rv, .slice A3 rl.length c3] 25)))
    replace hY := hide (hY.out.ext (ext_alloc (ext_refl (w3)) (.cells #[.int .i64 rv, .slice A3 rl.length c3] 25)))
    replace P := hide (P.out.ext (ext_alloc (ext_refl (w3)) (.cells #[.int .i64 rv, .slice A3 rl.length c3] 25)))
    replace X := hide (X.out.ext (ext_alloc (ext_refl (w3)) (.cells #[.int .i64 rv, .slice A3 rl.length c3] 25)))
    replace hE := hide (ext_alloc hE.out (.cells #[.int .i64 rv, .slice A3 rl.length c3] 25))
    go_wp2_with fail
    refine (sameChain_same c2 c3 rv hX.out hY.out hms).mono ?_
    rintro e w4 ⟨rfl, hF⟩
    replace hN := hide (hN.out.ext hF)
    replace hX := hide (hX.out.ext hF)
    replace hY := hide (hY.out.ext hF)
    replace P := hide (P.out.ext hF)
    replace X := hide (X.out.ext hF)
    replace Y := hide (Y.out.ext hF)
    try clear P_0 P_1 P_lt
    obtain ⟨P_0, P_1, P_lt⟩ := P.out.at2
    try clear X_0 X_1 X_lt
    obtain ⟨X_0, X_1, X_lt⟩ := X.out.at2
    try clear Y_0 Y_1 Y_lt
    obtain ⟨Y_0, Y_1, Y_lt⟩ := Y.out.at2
    replace hE := hide (ext_trans hE.out hF)
    clear hF
    cases rb with
    | false =>
      go_wp2_with fail
      refine (sameChain_same c2 c3 rv hX.out hY.out hms).mono ?_
      rintro e w5 ⟨rfl, hF⟩
      replace hE := hide (ext_trans hE.out hF)
      clear hF
      go_wp2_with fail
      go_ret
      exact ⟨rfl, hE.out⟩
    | true =>
      obtain ⟨k, x, y, hT, rfl, hrl⟩ := tell_yes hs.out
      have hno := hide (show ¬ ∃ k x y, TellAt rv rl at_ k x y from by rw [hrl]; exact tellAt_twice hT)
      clear hs hT hrl
      go_wp2_with fail
      refine (implChainTell_any c2 rv at_ hX.out hms (.inr ⟨hno.out, rfl, rfl, rfl⟩)).mono ?_
      intro e w5 hG
      obtain ⟨A5, c5, rfl, -, -, -, hF⟩ := hG.use
      clear hG
      replace hE := hide (ext_trans hE.out hF)
      clear hF
      go_wp2_with fail
      go_ret
      exact ⟨rfl, ext_alloc hE.out _⟩
/-- What stays, node by node. -/
theorem tell_at {ns rl : List Nd} {k i : Nat} {x y : Nd} {n m : Nd} (hx : ns[k]? = some x) (hrl : rl = ns.set k ⟨x.id, x.log, y.done⟩) (hn : ns[i]? = some n) (hm : rl[i]? = some m) : m.log = n.log ∧ (i ≠ k → m = n) := by
  subst hrl
  by_cases e : k = i
  · subst e
    rw [set_at hx] at hm
    rw [hx] at hn
    cases hm
    cases hn
    exact ⟨rfl, fun h => absurd rfl h⟩
  · rw [set_off e, hn] at hm
    cases hm
    exact ⟨rfl, fun _ => rfl⟩
set_option maxHeartbeats 6400000 in
theorem fnTell.walk (a0 : Option Addr) (n0 c0 : Nat) (w : World) (w0 : CodeR w a0 n0 c0) :
    Calls Try.prog 3 #[.slice a0 n0 c0] w fun e w' => e = .returned (.bool true) ∧ Below w.heap.size w w' := by
  have hm := len64d w0
  by_cases hn : 1048576 < n0
  · go_enter Try.func3, Try.ntmps3
    go_wp2
    go_ret
    exact ⟨rfl, ext_refl _⟩
  · go_enter Try.func3, Try.ntmps3
    go_wp2_with fail
    refine (drawChainTell_any w0).mono ?_
    rintro e w1 ⟨A, c, v, ns, at_, rfl, hl1, hl5, hlow, hlc, hcm, hN, hE⟩
    replace hE := hide hE
    have hb := hlow.bulk hl5
    obtain ⟨rv, rl, rb, hs⟩ := tellRes_ex v ns at_
    have hms := Nat.le_trans (tellRes_bulk hs) hb
    replace hs := hide hs
    replace hlow := hide hlow
    have P := hide (Blk.newAt (w1) 25 #[.int .i64 v, .slice A ns.length c] (g := (w1).heap.size) (by simp))
    replace hN := hide (hN.out.ext (ext_alloc (ext_refl (w1)) (.cells #[.int .i64 v, .slice A ns.length c] 25)))
    replace hE := hide (ext_alloc hE.out (.cells #[.int .i64 v, .slice A ns.length c] 25))
    go_wp2_with fail
    refine (implChainTell_any c v at_ hN.out hb hs.out).mono ?_
    intro e w2 hG
    obtain ⟨A2, c2, rfl, -, -, hX, hF⟩ := hG.use
    replace hX := hide hX.out.read
    clear hG
    replace hN := hide (hN.out.ext hF)
    replace P := hide (P.out.ext hF)
    try clear P_0 P_1 P_lt
    obtain ⟨P_0, P_1, P_lt⟩ := P.out.at2
    replace hE := hide (ext_trans hE.out hF)
    clear hF
    have X := hide (Blk.newAt (w2) 25 #[.int .i64 rv, .slice A2 rl.length c2] (g := (w2).heap.size) (by simp))
    replace hN := hide (hN.out.ext (ext_alloc (ext_refl (w2)) (.cells #[.int .i64 rv, .slice A2 rl.length c2] 25)))
    replace hX := hide (hX.out.ext (ext_alloc (ext_refl (w2)) (.cells #[.int .i64 rv, .slice A2 rl.length c2] 25)))
    replace P := hide (P.out.ext (ext_alloc (ext_refl (w2)) (.cells #[.int .i64 rv, .slice A2 rl.length c2] 25)))
    replace hE := hide (ext_alloc hE.out (.cells #[.int .i64 rv, .slice A2 rl.length c2] 25))
    go_wp2_with fail
    refine (specChainTell_any c v at_ hN.out hb hlc hs.out).mono ?_
    intro e w3 hG
    obtain ⟨A3, c3, rfl, -, -, hY, hF⟩ := hG.use
    replace hY := hide hY.out.read
    clear hG
    replace hN := hide (hN.out.ext hF)
    replace hX := hide (hX.out.ext hF)
    replace P := hide (P.out.ext hF)
    replace X := hide (X.out.ext hF)
    try clear P_0 P_1 P_lt
    obtain ⟨P_0, P_1, P_lt⟩ := P.out.at2
    try clear X_0 X_1 X_lt
    obtain ⟨X_0, X_1, X_lt⟩ := X.out.at2
    replace hE := hide (ext_trans hE.out hF)
    clear hF
    have Y := hide (Blk.newAt (w3) 25 #[.int .i64 rv, .slice A3 rl.length c3] (g := (w3).heap.size) (by simp))
    replace hN := hide (hN.out.ext (ext_alloc (ext_refl (w3)) (.cells #[.int .i64 rv, .slice A3 rl.length c3] 25)))
    replace hX := hide (hX.out.ext (ext_alloc (ext_refl (w3)) (.cells #[.int .i64 rv, .slice A3 rl.length c3] 25)))
    replace hY := hide (hY.out.ext (ext_alloc (ext_refl (w3)) (.cells #[.int .i64 rv, .slice A3 rl.length c3] 25)))
    replace P := hide (P.out.ext (ext_alloc (ext_refl (w3)) (.cells #[.int .i64 rv, .slice A3 rl.length c3] 25)))
    replace X := hide (X.out.ext (ext_alloc (ext_refl (w3)) (.cells #[.int .i64 rv, .slice A3 rl.length c3] 25)))
    replace hE := hide (ext_alloc hE.out (.cells #[.int .i64 rv, .slice A3 rl.length c3] 25))
    go_wp2_with fail
    refine (sameChain_same c2 c3 rv hX.out hY.out hms).mono ?_
    rintro e w4 ⟨rfl, hF⟩
    replace hN := hide (hN.out.ext hF)
    replace hX := hide (hX.out.ext hF)
    replace hY := hide (hY.out.ext hF)
    replace P := hide (P.out.ext hF)
    replace X := hide (X.out.ext hF)
    replace Y := hide (Y.out.ext hF)
    try clear P_0 P_1 P_lt
    obtain ⟨P_0, P_1, P_lt⟩ := P.out.at2
    try clear X_0 X_1 X_lt
    obtain ⟨X_0, X_1, X_lt⟩ := X.out.at2
    try clear Y_0 Y_1 Y_lt
    obtain ⟨Y_0, Y_1, Y_lt⟩ := Y.out.at2
    replace hE := hide (ext_trans hE.out hF)
    clear hF
    cases rb with
    | false =>
      go_wp2_with fail
      refine (sameChain_same c2 c3 rv hX.out hY.out hms).mono ?_
      rintro e w5 ⟨rfl, hF⟩
      replace hE := hide (ext_trans hE.out hF)
      clear hF
      go_wp2_with fail
      go_ret
      exact ⟨rfl, hE.out⟩
    | true =>
      obtain ⟨k, x, y, hT, rfl, hrl⟩ := tell_yes hs.out
      obtain ⟨hok', hlt⟩ := tellAt_ok hT
      obtain ⟨hok, rfl, hx, hy, hne⟩ := hT
      rw [← hrl] at hok'
      have hlen : Hid (rl.length = ns.length) := hide (by rw [hrl]; simp)
      have hk1 := getElem_some hy
      replace hok' := hide hok'
      replace hrl := hide hrl
      replace hx := hide hx
      replace hy := hide hy
      clear hs hY Y Y_0 Y_1 Y_lt hok hne
      go_wp2_with fail
      go_loopw [9] (fun i wr => ∃ i0 : Nat, i0 ≤ ns.length ∧ i = .int .i64 i0 ∧ Hid (Ext w4 wr)) (fun i _ => ns.length - (intOf i).toNat)
      case atStart => exact ⟨0, Nat.zero_le _, rfl, hide (ext_refl _)⟩
      case round =>
        obtain ⟨i, hi, rfl, hR⟩ := hrel
        have bP := hide (P.out.ext hR.out)
        have bX := hide (X.out.ext hR.out)
        try clear bP_0 bP_1 bP_lt
        obtain ⟨bP_0, bP_1, bP_lt⟩ := bP.out.at2
        try clear bX_0 bX_1 bX_lt
        obtain ⟨bX_0, bX_1, bX_lt⟩ := bX.out.at2
        by_cases hli : i < ns.length
        · have hd : decide ((i : Int) < (ns.length : Int)) = true := by simp; omega
          have hNk := hN.out.ext hR.out
          have hXk := hX.out.ext hR.out
          obtain ⟨b, o, x1, l1, j1, B1, d1, hA1, hbl1, hn1, hld1, hdm1, hB1, c0, c1, c2', c1', c2''⟩ := node_at hNk hli
          obtain ⟨b2, o2, x2, l2, j2, B2, d2, hA2, hbl2, hn2, hld2, hdm2, hB2, e0, e1, e2, e1', e2'⟩ := node_at hXk (i := i) (by have := hlen.out; omega)
          subst hA1 hA2
          obtain ⟨hlog, hsame⟩ := tell_at hx.out hrl.out hn1 hn2
          simp only at hlog
          subst hlog
          have hlm : l2.length ≤ 1048576 := bulk_of hb hn1
          have hi0 : (0 : Int) ≤ (i : Int) := by omega
          have hi1 : (i : Int) < (ns.length : Int) := by omega
          have hi2 : (i : Int) < (rl.length : Int) := by have := hlen.out; omega
          have hi3 : i < rl.length := by have := hlen.out; omega
          have q0 : ∀ w', Ext wr w' → w'.cell? ⟨w1.heap.size, 1, none⟩ = some (.slice (some ⟨b, o, none⟩) ns.length c) := fun w' hC => ext_cell hC bP_1
          have q1 : ∀ w', Ext wr w' → w'.cell? ⟨w2.heap.size, 1, none⟩ = some (.slice (some ⟨b2, o2, none⟩) rl.length c2) := fun w' hC => ext_cell hC bX_1
          have q2 : ∀ w', Ext wr w' → w'.cell? ⟨b, o + i * 3, none⟩ = some (.int .i64 x1) := fun w' hC => ext_cell hC c0
          have q3 : ∀ w', Ext wr w' → w'.cell? ⟨b, o + i * 3 + 1, none⟩ = some (.slice B1 l2.length d1) := fun w' hC => ext_cell hC c1'
          have q4 : ∀ w', Ext wr w' → w'.cell? ⟨b, o + i * 3 + 2, none⟩ = some (.int .i64 j1) := fun w' hC => ext_cell hC c2''
          have q5 : ∀ w', Ext wr w' → w'.cell? ⟨b2, o2 + i * 3, none⟩ = some (.int .i64 x2) := fun w' hC => ext_cell hC e0
          have q6 : ∀ w', Ext wr w' → w'.cell? ⟨b2, o2 + i * 3 + 1, none⟩ = some (.slice B2 l2.length d2) := fun w' hC => ext_cell hC e1'
          have q7 : ∀ w', Ext wr w' → w'.cell? ⟨b2, o2 + i * 3 + 2, none⟩ = some (.int .i64 j2) := fun w' hC => ext_cell hC e2'
          have hcl : ∀ w', Ext wr w' → Calls Try.prog 11 #[.slice B2 l2.length d2, .slice B1 l2.length d1] w' (fun e w'' => e = .returned (.bool true) ∧ Ext wr w'') := fun w' hC =>
            (sameLog_any d2 d1 (hB2.ext hC) (hB1.ext hC) hlm hlm).mono fun e w'' ⟨f1, f2⟩ => ⟨by rw [f1]; simp, ext_trans hC f2⟩
          by_cases hik : i = k
          · subst hik
            have hne : ((i : Int) != (i : Int)) = false := by simp
            replace hn1 := hide hn1
            replace hn2 := hide hn2
            clear hsame hNk hXk hB1 hB2 c0 c1 c2' c1' c2'' e0 e1 e2 e1' e2'
            go_wp2_with fail
            refine wp_region_quietE (by kernel_rfl) (by kernel_rfl) ?_
            repeat (
              refine QW.step (fun K hK => ?_)
              go_simp
              first
              | (refine hK _ ?_; clear hK K)
              | (apply Exists.intro
                 refine ⟨fun w5 hC => ?_, hK _ ?_⟩
                 · first
                   | rfl
                   | exact hcl w5 hC
                   | (simp only [q0 w5 hC, q1 w5 hC, q2 w5 hC, q3 w5 hC, q4 w5 hC, q5 w5 hC, q6 w5 hC, q7 w5 hC, Result.andThen_ok, true_and]; rfl)
                 clear hK K))
            refine QW.nil ?_
            intro w1 hF
            replace hF := hide (ext_trans hR.out hF)
            clear q0 q1 q2 q3 q4 q5 q6 q7 hcl
            go_wp2_with fail
            go_roundw
            case rel => exact ⟨i + 1, by omega, by go_num, hF⟩
            case measure => simp [intOf]; omega
          · have hne : ((i : Int) != (k : Int)) = true := by simp; omega
            have hs1 := hsame hik
            injection hs1 with f1 f2 f3
            subst f1 f3
            have hcn : ∀ w', Ext wr w' → Calls Try.prog 10 #[.agg #[.int .i64 x2, .slice B2 l2.length d2, .int .i64 j2], .agg #[.int .i64 x2, .slice B1 l2.length d1, .int .i64 j2]] w' (fun e w'' => e = .returned (.bool true) ∧ Ext wr w'') := fun w' hC =>
              (sameNode_sm d2 d1 x2 j2 (hB2.ext hC) (hB1.ext hC) hlm).mono fun e w'' ⟨f1, f2⟩ => ⟨f1, ext_trans hC f2⟩
            replace hn1 := hide hn1
            replace hn2 := hide hn2
            clear hsame hNk hXk hB1 hB2 c0 c1 c2' c1' c2'' e0 e1 e2 e1' e2'
            go_wp2_with fail
            refine wp_region_quietE (by kernel_rfl) (by kernel_rfl) ?_
            repeat (
              refine QW.step (fun K hK => ?_)
              go_simp
              first
              | (refine hK _ ?_; clear hK K)
              | (apply Exists.intro
                 refine ⟨fun w5 hC => ?_, hK _ ?_⟩
                 · first
                   | rfl
                   | exact hcl w5 hC
                   | exact hcn w5 hC
                   | (simp only [q0 w5 hC, q1 w5 hC, q2 w5 hC, q3 w5 hC, q4 w5 hC, q5 w5 hC, q6 w5 hC, q7 w5 hC, Result.andThen_ok, true_and]; rfl)
                 clear hK K))
            refine QW.nil ?_
            intro w1 hF
            replace hF := hide (ext_trans hR.out hF)
            clear q0 q1 q2 q3 q4 q5 q6 q7 hcl hcn
            go_wp2_with fail
            go_roundw
            case rel => exact ⟨i + 1, by omega, by go_num, hF⟩
            case measure => simp [intOf]; omega
        · have hd : decide ((i : Int) < (ns.length : Int)) = false := by simp; omega
          have hNk := hN.out.ext hR.out
          have hXk := hX.out.ext hR.out
          obtain ⟨k1, hk9⟩ : ∃ k1, k1 = k + 1 := ⟨_, rfl⟩
          have hy1 := hy.out
          rw [← hk9] at hy1 hk1
          have hxx := set_at (b := (⟨x.id, x.log, y.done⟩ : Nd)) hx.out
          rw [← hrl.out] at hxx
          obtain ⟨b, o, x1, l1, j1, B1, d1, hA1, hbl1, hn1, hld1, hdm1, hB1, c0, c1, c2', c1', c2''⟩ := node_at hNk hk1
          obtain ⟨b3, o3, x3, l3, j3, B3, d3, hA3, hbl3, hn3, hld3, hdm3, hB3, f0, f1, f2, f1', f2'⟩ := node_at hNk (getElem_some hx.out)
          obtain ⟨b2, o2, x2, l2, j2, B2, d2, hA2, hbl2, hn2, hld2, hdm2, hB2, e0, e1, e2, e1', e2'⟩ := node_at hXk (getElem_some hxx)
          subst hA1 hA2
          cases hA3
          rw [hy1] at hn1
          rw [hx.out] at hn3
          rw [hxx] at hn2
          cases hn1
          cases hn2
          cases hn3
          simp only at hlt
          have hw1 : IntKind.i64.wrap ((k : Int) + 1) = (k1 : Int) := by rw [show ((k : Int) + 1) = (k1 : Int) by omega]; exact IntWalk.i64_in _ (by omega)
          have hi0 : (0 : Int) ≤ (k : Int) := by omega
          have hi1 : (k : Int) < (ns.length : Int) := by omega
          have hi2 : (k : Int) < (rl.length : Int) := by have := hlen.out; omega
          have hi3 : (0 : Int) ≤ (k1 : Int) := by omega
          have hi4 : (k1 : Int) < (ns.length : Int) := by omega
          have hi5 : k < rl.length := by have := hlen.out; omega
          have hi6 : k < ns.length := by omega
          have hgt : decide (j1 > j3) = true := by simp; omega
          have q0 : ∀ w', Ext wr w' → w'.cell? ⟨w1.heap.size, 1, none⟩ = some (.slice (some ⟨b, o, none⟩) ns.length c) := fun w' hC => ext_cell hC bP_1
          have q1 : ∀ w', Ext wr w' → w'.cell? ⟨w2.heap.size, 1, none⟩ = some (.slice (some ⟨b2, o2, none⟩) rl.length c2) := fun w' hC => ext_cell hC bX_1
          have q9 : ∀ w', Ext wr w' → w'.cell? ⟨w2.heap.size, 0, none⟩ = some (.int .i64 rv) := fun w' hC => ext_cell hC bX_0
          have q2 : ∀ w', Ext wr w' → w'.cell? ⟨b, o + k1 * 3 + 2, none⟩ = some (.int .i64 j1) := fun w' hC => ext_cell hC c2''
          have q3 : ∀ w', Ext wr w' → w'.cell? ⟨b, o + k * 3 + 2, none⟩ = some (.int .i64 j3) := fun w' hC => ext_cell hC f2'
          have q4 : ∀ w', Ext wr w' → w'.cell? ⟨b2, o2 + k * 3 + 2, none⟩ = some (.int .i64 j1) := fun w' hC => ext_cell hC e2'
          have hcl : ∀ w', Ext wr w' → Calls Try.prog 12 #[.agg #[.int .i64 rv, .slice (some ⟨b2, o2, none⟩) rl.length c2]] w' (fun e w'' => e = .returned (.bool true) ∧ Ext wr w'') := fun w' hC =>
            (implChainValid_yes c2 rv (hXk.ext hC) hms hok'.out).mono fun e w'' ⟨f1, f2⟩ => ⟨f1, ext_trans hC f2⟩
          clear hNk hXk hB1 hB2 hB3 c0 c1 c2' c1' c2'' e0 e1 e2 e1' e2' f0 f1 f2 f1' f2' hy1 hxx
          replace hk9 := hide hk9
          replace hE := hide (ext_trans hE.out hR.out)
          go_wp2_with fail
          refine wp_region_quietE (by kernel_rfl) (by kernel_rfl) ?_
          repeat (
            refine QW.step (fun K hK => ?_)
            go_simp
            first
            | (refine hK _ ?_; clear hK K)
            | (apply Exists.intro
               refine ⟨fun w5 hC => ?_, hK _ ?_⟩
               · first
                 | rfl
                 | exact hcl w5 hC
                 | (simp only [q0 w5 hC, q1 w5 hC, q9 w5 hC, q2 w5 hC, q3 w5 hC, q4 w5 hC, Result.andThen_ok, true_and]; rfl)
               clear hK K))
          refine QW.nil ?_
          intro w1 hF
          replace hE := hide (ext_trans hE.out hF)
          clear q0 q1 q2 q3 q4 q9 hcl
          go_wp2_with fail
          go_ret
          exact ⟨rfl, hE.out⟩
end Go.Proofs.Ytjheeeilcfbdbaa
