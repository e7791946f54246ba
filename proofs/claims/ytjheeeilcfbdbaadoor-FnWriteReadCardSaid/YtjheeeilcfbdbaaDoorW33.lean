/-
  The walk of the law FnWriteRead: it returns true for every input at which the listed variable holds its error, and leaves its arguments as they were.
-/
import Derived.Test.YtjheeeilcfbdbaaDoorChain11
import Derived.Test.YtjheeeilcfbdbaaDoorChain5
import Derived.Test.YtjheeeilcfbdbaaDoorTDraw2
import Derived.Test.YtjheeeilcfbdbaaDoorW29
import Derived.Test.YtjheeeilcfbdbaaDoorCExact2
set_option linter.all false
set_option maxRecDepth 100000
namespace Go.Proofs.YtjheeeilcfbdbaaDoor
open Go.RowKit
attribute [local go_sem ↓] Go.wp_at_zero Go.wp_at_succ

theorem write_yes2 {v rv : Int} {ns rl : List Nd} {u : Upd} (h : WriteRes v ns u rv rl true) : ∃ x : Nd, WriteAt v ns u x ∧ rv = v ∧ rl = ns.set 0 (written ns x u) := by
  rcases h with ⟨x, h1, h2, h3, -⟩ | ⟨-, -, -, h⟩
  · exact ⟨x, h1, h2, h3⟩
  · cases h
/-- The reads of two chains whose last node is the same. -/
theorem read_same {v key r r' : Int} {b b' : Bool} {ns rl : List Nd} (h : RdRes v ns key r b) (h' : RdRes v rl key r' b') (hok : ChOk v ns) (hok' : ChOk v rl) (hl : rl[rl.length - 1]? = ns[ns.length - 1]?) : r = r' ∧ b = b' := by
  rcases h with ⟨-, hk, n, hn, x, hx, hr⟩ | ⟨hno, e1, e2⟩
  · rcases h' with ⟨-, hk', n', hn', x', hx', hr'⟩ | ⟨hno', e1', e2'⟩
    · rw [hl, hn] at hn'
      cases hn'
      rw [hx] at hx'
      cases hx'
      rcases hr with ⟨f1, f2, f3⟩ | ⟨f1, f2, f3⟩ <;> rcases hr' with ⟨g1, g2, g3⟩ | ⟨g1, g2, g3⟩
      · exact ⟨by rw [f2, g2], by rw [f3, g3]⟩
      · omega
      · omega
      · exact ⟨by rw [f2, g2], by rw [f3, g3]⟩
    · exact absurd ⟨hok', hk⟩ hno'
  · rcases h' with ⟨-, hk', -⟩ | ⟨-, e1', e2'⟩
    · exact absurd ⟨hok, hk'⟩ hno
    · exact ⟨by rw [e1, e1'], by rw [e2, e2']⟩
/-- What was written to a chain of one node is read. -/
theorem read_one {v x y r : Int} {b : Bool} {ns : List Nd} {n : Nd} (hT : WriteAt v ns (x, y) n) (h1 : ns.length = 1) (h : RdRes v (ns.set 0 (written ns n (x, y))) x r b) : r = y ∧ b = true := by
  have hok := writeAt_ok hT
  obtain ⟨-, hx, hu, -⟩ := hT
  have hu' := hu
  simp [updOk] at hu'
  obtain ⟨x', rfl⟩ := Int.eq_ofNat_of_zero_le hu'.1
  have hlen := stBehind_len n.log
  rcases h with ⟨-, hk, m, hm, z, hz, hr⟩ | ⟨hno, -⟩
  · rw [List.length_set, h1, set_at hx] at hm
    cases hm
    have e : stBehind (n.log ++ [((x' : Int), y)]) = putAt (stBehind n.log) ((x' : Int), y) := by simp [stBehind, List.foldl_append]
    simp only [written] at hz
    rw [e] at hz
    unfold putAt at hz
    simp only [Int.toNat_natCast] at hz
    rw [List.getElem?_set, if_pos rfl, if_pos (by omega)] at hz
    cases hz
    rcases hr with ⟨f1, f2, f3⟩ | ⟨f1, f2, f3⟩
    · exact ⟨f2, f3⟩
    · omega
  · exact absurd ⟨hok, by omega⟩ hno
theorem last_set {ns : List Nd} {m : Nd} (h : 2 ≤ ns.length) : (ns.set 0 m)[(ns.set 0 m).length - 1]? = ns[ns.length - 1]? := by
  rw [List.length_set, set_off (by omega)]
set_option maxHeartbeats 6400000 in
theorem fnWriteRead.walk (a0 : Option Addr) (n0 c0 : Nat) (a1 : Option Addr) (n1 c1 : Nat) (w : World) (w0 : CodeR w a0 n0 c0) (w1 : CodeR w a1 n1 c1) (a : Addr) (hS : SentAt w a) :
    Calls Tryd.prog 7 #[.slice a0 n0 c0, .slice a1 n1 c1] w fun e w' => e = .returned (.bool true) ∧ Below w.heap.size w w' := by
  have hm := len64t w0
  have hm1 := len64t w1
  by_cases hn : 1048576 < n0
  · go_enter Tryd.func7, Tryd.ntmps7
    go_wp2
    go_ret
    exact ⟨rfl, ext_refl _⟩
  by_cases hn2 : 1048576 < n1
  · go_enter Tryd.func7, Tryd.ntmps7
    go_wp2
    go_ret
    exact ⟨rfl, ext_refl _⟩
  · replace hS := hide hS
    obtain ⟨q, hq⟩ : ∃ q : Nat, q = n1 % 5 := ⟨_, rfl⟩
    have hrm : (n1 : Int).tmod 5 = (q : Int) := by rw [Int.tmod_eq_emod_of_nonneg (by omega)]; omega
    replace hq := hide hq
    go_enter Tryd.func7, Tryd.ntmps7
    go_wp2_with fail
    refine (drawChainWrite_any w0).mono ?_
    rintro e w1 ⟨A, c, v, ns, x, y, rfl, hl1, hl5, hlow, hlc, hcm, hN, hE⟩
    replace hS := hide (hS.out.ext hE)
    replace hE := hide hE
    have hb := hlow.bulk hl5
    obtain ⟨rv, rl, rb, hs⟩ := writeRes_ex v ns (x, y)
    have hms : bulk rl ≤ 1048576 := by
      have h1 := writeRes_bulk hs
      have h2 := hlow.bulk hl5
      have h3 := bulk_le 13 ns fun n hn => by
        obtain ⟨i, hi⟩ := List.getElem?_of_mem hn
        exact hlow i n hi
      omega
    replace hs := hide hs
    replace hlow := hide hlow
    have P := hide (Blk.newAt (w1) 48 #[.int .i64 v, .slice A ns.length c] (g := (w1).heap.size) (by simp))
    replace hN := hide (hN.out.ext (ext_alloc (ext_refl (w1)) (.cells #[.int .i64 v, .slice A ns.length c] 48)))
    replace hS := hide (hS.out.ext (ext_alloc (ext_refl (w1)) (.cells #[.int .i64 v, .slice A ns.length c] 48)))
    replace hE := hide (ext_alloc hE.out (.cells #[.int .i64 v, .slice A ns.length c] 48))
    have U := hide (Blk.newAt (w1.alloc (.cells #[.int .i64 v, .slice A ns.length c] 48)) 27 #[.int .i64 x, .int .i64 y] (g := w1.heap.size + 1) (by simp))
    replace hN := hide (hN.out.ext (ext_alloc (ext_refl (w1.alloc (.cells #[.int .i64 v, .slice A ns.length c] 48))) (.cells #[.int .i64 x, .int .i64 y] 27)))
    replace hS := hide (hS.out.ext (ext_alloc (ext_refl (w1.alloc (.cells #[.int .i64 v, .slice A ns.length c] 48))) (.cells #[.int .i64 x, .int .i64 y] 27)))
    replace P := hide (P.out.ext (ext_alloc (ext_refl (w1.alloc (.cells #[.int .i64 v, .slice A ns.length c] 48))) (.cells #[.int .i64 x, .int .i64 y] 27)))
    replace hE := hide (ext_alloc hE.out (.cells #[.int .i64 x, .int .i64 y] 27))
    go_wp2_with fail
    refine (implChainWrite_any c v x y hN.out hb hS.out hs.out).mono ?_
    intro e w2 hG
    obtain ⟨A2, c2, rfl, hlc2, -, hX, hF⟩ := hG.use
    replace hX := hide hX.out.read
    clear hG hS
    replace hN := hide (hN.out.ext hF)
    replace P := hide (P.out.ext hF)
    replace U := hide (U.out.ext hF)
    try clear P_0 P_1 P_lt
    obtain ⟨P_0, P_1, P_lt⟩ := P.out.at2
    try clear U_0 U_1 U_lt
    obtain ⟨U_0, U_1, U_lt⟩ := U.out.at2
    replace hE := hide (ext_trans hE.out hF)
    clear hF
    have X := hide (Blk.newAt (w2) 48 #[.int .i64 rv, .slice A2 rl.length c2] (g := (w2).heap.size) (by simp))
    replace hN := hide (hN.out.ext (ext_alloc (ext_refl (w2)) (.cells #[.int .i64 rv, .slice A2 rl.length c2] 48)))
    replace hX := hide (hX.out.ext (ext_alloc (ext_refl (w2)) (.cells #[.int .i64 rv, .slice A2 rl.length c2] 48)))
    replace P := hide (P.out.ext (ext_alloc (ext_refl (w2)) (.cells #[.int .i64 rv, .slice A2 rl.length c2] 48)))
    replace U := hide (U.out.ext (ext_alloc (ext_refl (w2)) (.cells #[.int .i64 rv, .slice A2 rl.length c2] 48)))
    replace hE := hide (ext_alloc hE.out (.cells #[.int .i64 rv, .slice A2 rl.length c2] 48))
    go_wp2_with fail
    refine (specChainWrite_any c v x y hN.out hb hlc hs.out).mono ?_
    intro e w3 hG
    obtain ⟨A3, c3, rfl, -, -, hY, hF⟩ := hG.use
    replace hY := hide hY.out.read
    clear hG
    replace hN := hide (hN.out.ext hF)
    replace hX := hide (hX.out.ext hF)
    replace P := hide (P.out.ext hF)
    replace U := hide (U.out.ext hF)
    replace X := hide (X.out.ext hF)
    try clear P_0 P_1 P_lt
    obtain ⟨P_0, P_1, P_lt⟩ := P.out.at2
    try clear U_0 U_1 U_lt
    obtain ⟨U_0, U_1, U_lt⟩ := U.out.at2
    try clear X_0 X_1 X_lt
    obtain ⟨X_0, X_1, X_lt⟩ := X.out.at2
    replace hE := hide (ext_trans hE.out hF)
    clear hF
    have Y := hide (Blk.newAt (w3) 48 #[.int .i64 rv, .slice A3 rl.length c3] (g := (w3).heap.size) (by simp))
    replace hN := hide (hN.out.ext (ext_alloc (ext_refl (w3)) (.cells #[.int .i64 rv, .slice A3 rl.length c3] 48)))
    replace hX := hide (hX.out.ext (ext_alloc (ext_refl (w3)) (.cells #[.int .i64 rv, .slice A3 rl.length c3] 48)))
    replace hY := hide (hY.out.ext (ext_alloc (ext_refl (w3)) (.cells #[.int .i64 rv, .slice A3 rl.length c3] 48)))
    replace P := hide (P.out.ext (ext_alloc (ext_refl (w3)) (.cells #[.int .i64 rv, .slice A3 rl.length c3] 48)))
    replace U := hide (U.out.ext (ext_alloc (ext_refl (w3)) (.cells #[.int .i64 rv, .slice A3 rl.length c3] 48)))
    replace X := hide (X.out.ext (ext_alloc (ext_refl (w3)) (.cells #[.int .i64 rv, .slice A3 rl.length c3] 48)))
    replace hE := hide (ext_alloc hE.out (.cells #[.int .i64 rv, .slice A3 rl.length c3] 48))
    go_wp2_with fail
    refine (sameChain_same c2 c3 rv hX.out hY.out hms).mono ?_
    rintro e w4 ⟨rfl, hF⟩
    replace hN := hide (hN.out.ext hF)
    replace hX := hide (hX.out.ext hF)
    replace hY := hide (hY.out.ext hF)
    replace P := hide (P.out.ext hF)
    replace U := hide (U.out.ext hF)
    replace X := hide (X.out.ext hF)
    replace Y := hide (Y.out.ext hF)
    try clear P_0 P_1 P_lt
    obtain ⟨P_0, P_1, P_lt⟩ := P.out.at2
    try clear U_0 U_1 U_lt
    obtain ⟨U_0, U_1, U_lt⟩ := U.out.at2
    try clear X_0 X_1 X_lt
    obtain ⟨X_0, X_1, X_lt⟩ := X.out.at2
    try clear Y_0 Y_1 Y_lt
    obtain ⟨Y_0, Y_1, Y_lt⟩ := Y.out.at2
    replace hE := hide (ext_trans hE.out hF)
    clear hF
    cases rb with
    | false =>
      go_wp2_with fail
      refine (sameChain_same c2 c3 rv hX.out hY.out hms).mono ?_
      rintro e w5 ⟨rfl, hF⟩
      replace hE := hide (ext_trans hE.out hF)
      clear hF
      go_wp2_with fail
      go_ret
      exact ⟨rfl, hE.out⟩
    | true =>
      obtain ⟨n, hT, rfl, hrl⟩ := write_yes2 hs.out
      have hok' := writeAt_ok hT
      rw [← hrl] at hok'
      have hok := hT.1
      obtain ⟨r1, b1, hr1⟩ := rdRes_ex rv ns (q : Int)
      obtain ⟨r2, b2, hr2⟩ := rdRes_ex rv rl (q : Int)
      replace hr1 := hide hr1
      replace hr2 := hide hr2
      by_cases h1 : ns.length = 1
      · obtain ⟨r3, b3, hr3⟩ := rdRes_ex rv rl x
        have h3 := hr3
        rw [hrl] at h3
        obtain ⟨rfl, rfl⟩ := read_one hT h1 h3
        clear h3
        replace hr3 := hide hr3
        have hd : ((ns.length : Int) == 1) = true := by simp; omega
        have hd2 : (ns.length == 1) = true := by simp; omega
        replace h1 := hide h1
        clear hok hok' hT hrl hs hY Y Y_0 Y_1 Y_lt hl1 hl5
        go_wp2_with fail
        refine (implChainRead_any c rv q r1 b1 hN.out hb hr1.out).mono ?_
        rintro e w5 ⟨rfl, hF⟩
        replace hN := hide (hN.out.ext hF)
        replace hX := hide (hX.out.ext hF)
        replace P := hide (P.out.ext hF)
        replace U := hide (U.out.ext hF)
        replace X := hide (X.out.ext hF)
        try clear P_0 P_1 P_lt
        obtain ⟨P_0, P_1, P_lt⟩ := P.out.at2
        try clear U_0 U_1 U_lt
        obtain ⟨U_0, U_1, U_lt⟩ := U.out.at2
        try clear X_0 X_1 X_lt
        obtain ⟨X_0, X_1, X_lt⟩ := X.out.at2
        replace hE := hide (ext_trans hE.out hF)
        clear hF
        go_wp2_with fail
        refine (implChainRead_any c2 rv q r2 b2 hX.out hms hr2.out).mono ?_
        rintro e w6 ⟨rfl, hF⟩
        replace hN := hide (hN.out.ext hF)
        replace hX := hide (hX.out.ext hF)
        replace P := hide (P.out.ext hF)
        replace U := hide (U.out.ext hF)
        replace X := hide (X.out.ext hF)
        try clear P_0 P_1 P_lt
        obtain ⟨P_0, P_1, P_lt⟩ := P.out.at2
        try clear U_0 U_1 U_lt
        obtain ⟨U_0, U_1, U_lt⟩ := U.out.at2
        try clear X_0 X_1 X_lt
        obtain ⟨X_0, X_1, X_lt⟩ := X.out.at2
        replace hE := hide (ext_trans hE.out hF)
        clear hF
        go_wp2_with fail
        refine (implChainRead_any c2 rv x r3 true hX.out hms hr3.out).mono ?_
        rintro e w7 ⟨rfl, hF⟩
        replace hN := hide (hN.out.ext hF)
        replace hX := hide (hX.out.ext hF)
        replace P := hide (P.out.ext hF)
        replace U := hide (U.out.ext hF)
        replace X := hide (X.out.ext hF)
        try clear P_0 P_1 P_lt
        obtain ⟨P_0, P_1, P_lt⟩ := P.out.at2
        try clear U_0 U_1 U_lt
        obtain ⟨U_0, U_1, U_lt⟩ := U.out.at2
        try clear X_0 X_1 X_lt
        obtain ⟨X_0, X_1, X_lt⟩ := X.out.at2
        replace hE := hide (ext_trans hE.out hF)
        clear hF
        go_wp2_with fail
        all_goals (go_ret; exact ⟨by simp, hE.out⟩)
      · obtain ⟨e1, e2⟩ := read_same hr1.out hr2.out hok hok' (by rw [hrl]; exact last_set (by omega))
        subst e1 e2
        have hd : ((ns.length : Int) == 1) = false := by simp; omega
        have hd2 : (ns.length == 1) = false := by simp; omega
        clear hok hok' hT hrl hs hY Y Y_0 Y_1 Y_lt h1 hl1 hl5
        go_wp2_with fail
        refine (implChainRead_any c rv q r1 b1 hN.out hb hr1.out).mono ?_
        rintro e w5 ⟨rfl, hF⟩
        replace hN := hide (hN.out.ext hF)
        replace hX := hide (hX.out.ext hF)
        replace P := hide (P.out.ext hF)
        replace U := hide (U.out.ext hF)
        replace X := hide (X.out.ext hF)
        try clear P_0 P_1 P_lt
        obtain ⟨P_0, P_1, P_lt⟩ := P.out.at2
        try clear U_0 U_1 U_lt
        obtain ⟨U_0, U_1, U_lt⟩ := U.out.at2
        try clear X_0 X_1 X_lt
        obtain ⟨X_0, X_1, X_lt⟩ := X.out.at2
        replace hE := hide (ext_trans hE.out hF)
        clear hF
        go_wp2_with fail
        refine (implChainRead_any c2 rv q r1 b1 hX.out hms hr2.out).mono ?_
        rintro e w6 ⟨rfl, hF⟩
        replace hN := hide (hN.out.ext hF)
        replace hX := hide (hX.out.ext hF)
        replace P := hide (P.out.ext hF)
        replace U := hide (U.out.ext hF)
        replace X := hide (X.out.ext hF)
        try clear P_0 P_1 P_lt
        obtain ⟨P_0, P_1, P_lt⟩ := P.out.at2
        try clear U_0 U_1 U_lt
        obtain ⟨U_0, U_1, U_lt⟩ := U.out.at2
        try clear X_0 X_1 X_lt
        obtain ⟨X_0, X_1, X_lt⟩ := X.out.at2
        replace hE := hide (ext_trans hE.out hF)
        clear hF
        go_wp2_with fail
        all_goals (go_ret; exact ⟨by simp, hE.out⟩)
end Go.Proofs.YtjheeeilcfbdbaaDoor
