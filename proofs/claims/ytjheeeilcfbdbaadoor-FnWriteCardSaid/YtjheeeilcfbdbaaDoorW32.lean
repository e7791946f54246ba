/-
  The walk of the law FnWrite: it returns true for every input at which the listed variable holds its error, and leaves its arguments as they were.
-/
import Derived.Test.YtjheeeilcfbdbaaDoorChain11
import Derived.Test.YtjheeeilcfbdbaaDoorTDraw2
import Derived.Test.YtjheeeilcfbdbaaDoorW29
import Derived.Test.YtjheeeilcfbdbaaDoorCExact2
import Derived.Test.YtjheeeilcfbdbaaDoorQE
set_option linter.all false
set_option maxRecDepth 100000
namespace Go.Proofs.YtjheeeilcfbdbaaDoor
open Go.RowKit
attribute [local go_sem ↓] Go.wp_at_zero Go.wp_at_succ

theorem write_yes {v rv : Int} {ns rl : List Nd} {u : Upd} (h : WriteRes v ns u rv rl true) : ∃ x : Nd, WriteAt v ns u x ∧ rv = v ∧ rl = ns.set 0 (written ns x u) := by
  rcases h with ⟨x, h1, h2, h3, -⟩ | ⟨-, -, -, h⟩
  · exact ⟨x, h1, h2, h3⟩
  · cases h
theorem sameNodes_m {A B : Option Addr} {ns : List Nd} {n m : Nat} (c d : Nat) {w : World} (hn : ns.length = n) (hm : ns.length = m) (h : NodesR w A ns) (h' : NodesR w B ns) (hb : bulk ns ≤ 1048576) :
    Calls Tryd.prog 27 #[.slice A n c, .slice B m d] w fun e w' => e = .returned (.bool true) ∧ Ext w w' := by
  subst hn
  subst hm
  exact sameNodes_same c d h h' hb
theorem bulk_drop1 : ∀ ns : List Nd, bulk (ns.drop 1) ≤ bulk ns
  | [] => Nat.le_refl _
  | n :: ns => by simp [bulk]
theorem tail_at {w : World} {b o c : Nat} {ns : List Nd} (h : NodesR w (some ⟨b, o, none⟩) ns) (hc : ns.length ≤ c) : NodesR w (if c = 1 then some ⟨b, o, none⟩ else some ⟨b, o + 3, none⟩) (ns.drop 1) := by
  by_cases e : c = 1
  · rw [if_pos e]
    have : ns.drop 1 = [] := List.drop_eq_nil_of_le (by omega)
    rw [this]
    exact NodesR.nil _ _
  · rw [if_neg e]
    have := h.cut 1
    simp only [Option.map_some, Nat.one_mul] at this
    exact this
set_option maxHeartbeats 6400000 in
theorem fnWrite.walk (a0 : Option Addr) (n0 c0 : Nat) (w : World) (w0 : CodeR w a0 n0 c0) (a : Addr) (hS : SentAt w a) :
    Calls Tryd.prog 6 #[.slice a0 n0 c0] w fun e w' => e = .returned (.bool true) ∧ Below w.heap.size w w' := by
  have hm := len64t w0
  by_cases hn : 1048576 < n0
  · go_enter Tryd.func6, Tryd.ntmps6
    go_wp2
    go_ret
    exact ⟨rfl, ext_refl _⟩
  · replace hS := hide hS
    go_enter Tryd.func6, Tryd.ntmps6
    go_wp2_with fail
    refine (drawChainWrite_any w0).mono ?_
    rintro e w1 ⟨A, c, v, ns, x, y, rfl, hl1, hl5, hlow, hlc, hcm, hN, hE⟩
    replace hS := hide (hS.out.ext hE)
    replace hE := hide hE
    have hb := hlow.bulk hl5
    obtain ⟨rv, rl, rb, hs⟩ := writeRes_ex v ns (x, y)
    have hms : bulk rl ≤ 1048576 := by
      have h1 := writeRes_bulk hs
      have h2 := hlow.bulk hl5
      have h3 := bulk_le 13 ns fun n hn => by
        obtain ⟨i, hi⟩ := List.getElem?_of_mem hn
        exact hlow i n hi
      omega
    replace hs := hide hs
    replace hlow := hide hlow
    have P := hide (Blk.newAt (w1) 48 #[.int .i64 v, .slice A ns.length c] (g := (w1).heap.size) (by simp))
    replace hN := hide (hN.out.ext (ext_alloc (ext_refl (w1)) (.cells #[.int .i64 v, .slice A ns.length c] 48)))
    replace hS := hide (hS.out.ext (ext_alloc (ext_refl (w1)) (.cells #[.int .i64 v, .slice A ns.length c] 48)))
    replace hE := hide (ext_alloc hE.out (.cells #[.int .i64 v, .slice A ns.length c] 48))
    have U := hide (Blk.newAt (w1.alloc (.cells #[.int .i64 v, .slice A ns.length c] 48)) 27 #[.int .i64 x, .int .i64 y] (g := w1.heap.size + 1) (by simp))
    replace hN := hide (hN.out.ext (ext_alloc (ext_refl (w1.alloc (.cells #[.int .i64 v, .slice A ns.length c] 48))) (.cells #[.int .i64 x, .int .i64 y] 27)))
    replace hS := hide (hS.out.ext (ext_alloc (ext_refl (w1.alloc (.cells #[.int .i64 v, .slice A ns.length c] 48))) (.cells #[.int .i64 x, .int .i64 y] 27)))
    replace P := hide (P.out.ext (ext_alloc (ext_refl (w1.alloc (.cells #[.int .i64 v, .slice A ns.length c] 48))) (.cells #[.int .i64 x, .int .i64 y] 27)))
    replace hE := hide (ext_alloc hE.out (.cells #[.int .i64 x, .int .i64 y] 27))
    go_wp2_with fail
    refine (implChainWrite_any c v x y hN.out hb hS.out hs.out).mono ?_
    intro e w2 hG
    obtain ⟨A2, c2, rfl, hlc2, -, hX, hF⟩ := hG.use
    replace hX := hide hX.out.read
    clear hG hS
    replace hN := hide (hN.out.ext hF)
    replace P := hide (P.out.ext hF)
    replace U := hide (U.out.ext hF)
    try clear P_0 P_1 P_lt
    obtain ⟨P_0, P_1, P_lt⟩ := P.out.at2
    try clear U_0 U_1 U_lt
    obtain ⟨U_0, U_1, U_lt⟩ := U.out.at2
    replace hE := hide (ext_trans hE.out hF)
    clear hF
    have X := hide (Blk.newAt (w2) 48 #[.int .i64 rv, .slice A2 rl.length c2] (g := (w2).heap.size) (by simp))
    replace hN := hide (hN.out.ext (ext_alloc (ext_refl (w2)) (.cells #[.int .i64 rv, .slice A2 rl.length c2] 48)))
    replace hX := hide (hX.out.ext (ext_alloc (ext_refl (w2)) (.cells #[.int .i64 rv, .slice A2 rl.length c2] 48)))
    replace P := hide (P.out.ext (ext_alloc (ext_refl (w2)) (.cells #[.int .i64 rv, .slice A2 rl.length c2] 48)))
    replace U := hide (U.out.ext (ext_alloc (ext_refl (w2)) (.cells #[.int .i64 rv, .slice A2 rl.length c2] 48)))
    replace hE := hide (ext_alloc hE.out (.cells #[.int .i64 rv, .slice A2 rl.length c2] 48))
    go_wp2_with fail
    refine (specChainWrite_any c v x y hN.out hb hlc hs.out).mono ?_
    intro e w3 hG
    obtain ⟨A3, c3, rfl, -, -, hY, hF⟩ := hG.use
    replace hY := hide hY.out.read
    clear hG
    replace hN := hide (hN.out.ext hF)
    replace hX := hide (hX.out.ext hF)
    replace P := hide (P.out.ext hF)
    replace U := hide (U.out.ext hF)
    replace X := hide (X.out.ext hF)
    try clear P_0 P_1 P_lt
    obtain ⟨P_0, P_1, P_lt⟩ := P.out.at2
    try clear U_0 U_1 U_lt
    obtain ⟨U_0, U_1, U_lt⟩ := U.out.at2
    try clear X_0 X_1 X_lt
    obtain ⟨X_0, X_1, X_lt⟩ := X.out.at2
    replace hE := hide (ext_trans hE.out hF)
    clear hF
    have Y := hide (Blk.newAt (w3) 48 #[.int .i64 rv, .slice A3 rl.length c3] (g := (w3).heap.size) (by simp))
    replace hN := hide (hN.out.ext (ext_alloc (ext_refl (w3)) (.cells #[.int .i64 rv, .slice A3 rl.length c3] 48)))
    replace hX := hide (hX.out.ext (ext_alloc (ext_refl (w3)) (.cells #[.int .i64 rv, .slice A3 rl.length c3] 48)))
    replace hY := hide (hY.out.ext (ext_alloc (ext_refl (w3)) (.cells #[.int .i64 rv, .slice A3 rl.length c3] 48)))
    replace P := hide (P.out.ext (ext_alloc (ext_refl (w3)) (.cells #[.int .i64 rv, .slice A3 rl.length c3] 48)))
    replace U := hide (U.out.ext (ext_alloc (ext_refl (w3)) (.cells #[.int .i64 rv, .slice A3 rl.length c3] 48)))
    replace X := hide (X.out.ext (ext_alloc (ext_refl (w3)) (.cells #[.int .i64 rv, .slice A3 rl.length c3] 48)))
    replace hE := hide (ext_alloc hE.out (.cells #[.int .i64 rv, .slice A3 rl.length c3] 48))
    go_wp2_with fail
    refine (sameChain_same c2 c3 rv hX.out hY.out hms).mono ?_
    rintro e w4 ⟨rfl, hF⟩
    replace hN := hide (hN.out.ext hF)
    replace hX := hide (hX.out.ext hF)
    replace hY := hide (hY.out.ext hF)
    replace P := hide (P.out.ext hF)
    replace U := hide (U.out.ext hF)
    replace X := hide (X.out.ext hF)
    replace Y := hide (Y.out.ext hF)
    try clear P_0 P_1 P_lt
    obtain ⟨P_0, P_1, P_lt⟩ := P.out.at2
    try clear U_0 U_1 U_lt
    obtain ⟨U_0, U_1, U_lt⟩ := U.out.at2
    try clear X_0 X_1 X_lt
    obtain ⟨X_0, X_1, X_lt⟩ := X.out.at2
    try clear Y_0 Y_1 Y_lt
    obtain ⟨Y_0, Y_1, Y_lt⟩ := Y.out.at2
    replace hE := hide (ext_trans hE.out hF)
    clear hF
    cases rb with
    | false =>
      go_wp2_with fail
      refine (sameChain_same c2 c3 rv hX.out hY.out hms).mono ?_
      rintro e w5 ⟨rfl, hF⟩
      replace hE := hide (ext_trans hE.out hF)
      clear hF
      go_wp2_with fail
      go_ret
      exact ⟨rfl, hE.out⟩
    | true =>
      obtain ⟨n, hT, rfl, hrl⟩ := write_yes hs.out
      have hok' := writeAt_ok hT
      obtain ⟨hok, hx, hu, hl⟩ := hT
      rw [← hrl] at hok'
      have hlen : rl.length = ns.length := by rw [hrl]; simp
      obtain ⟨b, o, xi, l, xj, B1, d1, hA1, hbl1, hn1, hld1, hdm1, hB1, c0', c1', c2', c1'', c2''⟩ := node_at hN.out (i := 0) (by omega)
      obtain ⟨b2, o2, yi, m, yj, B2, d2, hA2, hbl2, hn2, hld2, hdm2, hB2, e0', e1', e2', e1'', e2''⟩ := node_at hX.out (i := 0) (by omega)
      subst hA1 hA2
      simp only [Nat.zero_mul, Nat.add_zero] at c0' c1'' c2'' e0' e1'' e2''
      rw [hx] at hn1
      cases hn1
      have hlog : m = l ++ [(x, y)] := by
        rw [hrl, set_at hx] at hn2
        cases hn2
        rfl
      subst hlog
      obtain ⟨q, hq⟩ : ∃ q, q = l.length + 1 := ⟨_, rfl⟩
      have hq' : (l ++ [(x, y)]).length = q := by rw [hq]; simp
      rw [hq'] at e1'' hld2
      obtain ⟨bl, ol, hAb, z0, z1⟩ := last_at hB2
      subst hAb
      have hdrop : rl.drop 1 = ns.drop 1 := by
        rw [hrl]
        cases ns with
        | nil => simp at hl1
        | cons a t => simp
      replace hq' := hide hq'
      replace hok' := hide hok'
      replace hB1 := hide hB1
      replace hB2 := hide hB2
      have hlm : l.length ≤ 1048576 := by simp only at hl; omega
      have hNd := hide (tail_at hN.out hlc)
      have hXd := tail_at hX.out hlc2
      rw [hdrop] at hXd
      replace hXd := hide hXd
      have hb1 : bulk (ns.drop 1) ≤ 1048576 := Nat.le_trans (bulk_drop1 ns) hb
      have hdl : (ns.drop 1).length = ns.length - 1 := by simp
      have hdl2 : (ns.drop 1).length = rl.length - 1 := by rw [hlen]; simp
      replace hdl := hide hdl
      replace hdl2 := hide hdl2
      have hXk := hide hX.out
      have hr7 : (0 : Int) < (rl.length : Int) := by omega
      have hr8 : 0 < rl.length := by omega
      replace hq := hide hq
      replace hlen := hide hlen
      clear hN hX hs hY Y Y_0 Y_1 Y_lt hok hu hx hrl hdrop c0' c1' c2' c2'' e1' e2'
      have H := hide (Blk.newAt (w4) 25 #[.int .i64 yi, .slice (some ⟨bl, ol, none⟩) q d2, .int .i64 yj] (g := (w4).heap.size) (by simp))
      replace hNd := hide (hNd.out.ext (ext_alloc (ext_refl (w4)) (.cells #[.int .i64 yi, .slice (some ⟨bl, ol, none⟩) q d2, .int .i64 yj] 25)))
      replace hXd := hide (hXd.out.ext (ext_alloc (ext_refl (w4)) (.cells #[.int .i64 yi, .slice (some ⟨bl, ol, none⟩) q d2, .int .i64 yj] 25)))
      replace hB1 := hide (hB1.out.ext (ext_alloc (ext_refl (w4)) (.cells #[.int .i64 yi, .slice (some ⟨bl, ol, none⟩) q d2, .int .i64 yj] 25)))
      replace hB2 := hide (hB2.out.ext (ext_alloc (ext_refl (w4)) (.cells #[.int .i64 yi, .slice (some ⟨bl, ol, none⟩) q d2, .int .i64 yj] 25)))
      replace P := hide (P.out.ext (ext_alloc (ext_refl (w4)) (.cells #[.int .i64 yi, .slice (some ⟨bl, ol, none⟩) q d2, .int .i64 yj] 25)))
      replace U := hide (U.out.ext (ext_alloc (ext_refl (w4)) (.cells #[.int .i64 yi, .slice (some ⟨bl, ol, none⟩) q d2, .int .i64 yj] 25)))
      replace X := hide (X.out.ext (ext_alloc (ext_refl (w4)) (.cells #[.int .i64 yi, .slice (some ⟨bl, ol, none⟩) q d2, .int .i64 yj] 25)))
      replace hE := hide (ext_alloc hE.out (.cells #[.int .i64 yi, .slice (some ⟨bl, ol, none⟩) q d2, .int .i64 yj] 25))
      go_wp2_with fail
      have hq9 := hq.out
      have hlen9 := hlen.out
      have hi0 : (0 : Int) ≤ (l.length : Int) := by omega
      have hi1 : (l.length : Int) < (q : Int) := by omega
      have hi2 : (l.length : Int) ≤ (d2 : Int) := by omega
      have hi3 : l.length ≤ d2 := by omega
      have hi4 : l.length < q := by omega
      have hi5 : (1 : Int) ≤ (ns.length : Int) := by omega
      have hi7 : (0 : Int) < (ns.length : Int) := by omega
      have hi8 : 0 < ns.length := by omega
      have hi9 : 1 ≤ ns.length := by omega
      have hi10 : 1 ≤ rl.length := by omega
      have hi6 : (1 : Int) ≤ (rl.length : Int) := by omega
      have hwr : IntKind.i64.wrap ((l.length : Int) + 1) = (q : Int) := by rw [hq9]; simp [IntKind.wrap, IntKind.bits, IntKind.signed]; omega
      have hbe : ((q : Int) == (l.length : Int) + 1) = true := by simp; omega
      have z0' := ext_cell (ext_alloc (ext_refl w4) (.cells #[.int .i64 yi, .slice (some ⟨bl, ol, none⟩) q d2, .int .i64 yj] 25)) z0
      have z1' := ext_cell (ext_alloc (ext_refl w4) (.cells #[.int .i64 yi, .slice (some ⟨bl, ol, none⟩) q d2, .int .i64 yj] 25)) z1
      have y1' := ext_cell (ext_alloc (ext_refl w4) (.cells #[.int .i64 yi, .slice (some ⟨bl, ol, none⟩) q d2, .int .i64 yj] 25)) c1''
      have q0 : ∀ w', Ext (w4.alloc (.cells #[.int .i64 yi, .slice (some ⟨bl, ol, none⟩) q d2, .int .i64 yj] 25)) w' → w'.cell? ⟨w1.heap.size, 0, none⟩ = some (.int .i64 rv) := fun w' hC => (P.out.ext hC).at2.1
      have q1 : ∀ w', Ext (w4.alloc (.cells #[.int .i64 yi, .slice (some ⟨bl, ol, none⟩) q d2, .int .i64 yj] 25)) w' → w'.cell? ⟨w1.heap.size, 1, none⟩ = some (.slice (some ⟨b, o, none⟩) ns.length c) := fun w' hC => (P.out.ext hC).at2.2.1
      have q2 : ∀ w', Ext (w4.alloc (.cells #[.int .i64 yi, .slice (some ⟨bl, ol, none⟩) q d2, .int .i64 yj] 25)) w' → w'.cell? ⟨w1.heap.size + 1, 0, none⟩ = some (.int .i64 x) := fun w' hC => (U.out.ext hC).at2.1
      have q3 : ∀ w', Ext (w4.alloc (.cells #[.int .i64 yi, .slice (some ⟨bl, ol, none⟩) q d2, .int .i64 yj] 25)) w' → w'.cell? ⟨w1.heap.size + 1, 1, none⟩ = some (.int .i64 y) := fun w' hC => (U.out.ext hC).at2.2.1
      have q4 : ∀ w', Ext (w4.alloc (.cells #[.int .i64 yi, .slice (some ⟨bl, ol, none⟩) q d2, .int .i64 yj] 25)) w' → w'.cell? ⟨w2.heap.size, 0, none⟩ = some (.int .i64 rv) := fun w' hC => (X.out.ext hC).at2.1
      have q5 : ∀ w', Ext (w4.alloc (.cells #[.int .i64 yi, .slice (some ⟨bl, ol, none⟩) q d2, .int .i64 yj] 25)) w' → w'.cell? ⟨w2.heap.size, 1, none⟩ = some (.slice (some ⟨b2, o2, none⟩) rl.length c2) := fun w' hC => (X.out.ext hC).at2.2.1
      have q6 : ∀ w', Ext (w4.alloc (.cells #[.int .i64 yi, .slice (some ⟨bl, ol, none⟩) q d2, .int .i64 yj] 25)) w' → w'.cell? ⟨w4.heap.size, 1, none⟩ = some (.slice (some ⟨bl, ol, none⟩) q d2) := fun w' hC => (H.out.ext hC).at3.2.1
      have q7 : ∀ w', Ext (w4.alloc (.cells #[.int .i64 yi, .slice (some ⟨bl, ol, none⟩) q d2, .int .i64 yj] 25)) w' → w'.cell? ⟨bl, ol + l.length * 2, none⟩ = some (.int .i64 x) := fun w' hC => ext_cell hC z0'
      have q8 : ∀ w', Ext (w4.alloc (.cells #[.int .i64 yi, .slice (some ⟨bl, ol, none⟩) q d2, .int .i64 yj] 25)) w' → w'.cell? ⟨bl, ol + l.length * 2 + 1, none⟩ = some (.int .i64 y) := fun w' hC => ext_cell hC z1'
      have q9 : ∀ w', Ext (w4.alloc (.cells #[.int .i64 yi, .slice (some ⟨bl, ol, none⟩) q d2, .int .i64 yj] 25)) w' → w'.cell? ⟨b, o + 1, none⟩ = some (.slice B1 l.length d1) := fun w' hC => ext_cell hC y1'
      have hXw := hide (hXk.out.ext (ext_alloc (ext_refl w4) (.cells #[.int .i64 yi, .slice (some ⟨bl, ol, none⟩) q d2, .int .i64 yj] 25)))
      have hcv : ∀ w', Ext (w4.alloc (.cells #[.int .i64 yi, .slice (some ⟨bl, ol, none⟩) q d2, .int .i64 yj] 25)) w' → Calls Tryd.prog 26 #[.agg #[.int .i64 rv, .slice (some ⟨b2, o2, none⟩) rl.length c2]] w' (fun e w'' => e = .returned (.bool true) ∧ Ext (w4.alloc (.cells #[.int .i64 yi, .slice (some ⟨bl, ol, none⟩) q d2, .int .i64 yj] 25)) w'') := fun w' hC =>
        (implChainValid_yes c2 rv (hXw.out.ext hC) hms hok'.out).mono fun e w'' ⟨f1, f2⟩ => ⟨f1, ext_trans hC f2⟩
      have hcs : ∀ w', Ext (w4.alloc (.cells #[.int .i64 yi, .slice (some ⟨bl, ol, none⟩) q d2, .int .i64 yj] 25)) w' → Calls Tryd.prog 14 #[.slice (some ⟨bl, ol, none⟩) l.length d2, .slice B1 l.length d1] w' (fun e w'' => e = .returned (.bool true) ∧ Ext (w4.alloc (.cells #[.int .i64 yi, .slice (some ⟨bl, ol, none⟩) q d2, .int .i64 yj] 25)) w'') := fun w' hC =>
        (sameLog_pre d2 d1 (hB2.out.ext hC) (hB1.out.ext hC) (by simp) (Nat.le_refl _) (by simp) hlm).mono fun e w'' ⟨f1, f2⟩ => ⟨f1, ext_trans hC f2⟩
      have hcn : ∀ w', Ext (w4.alloc (.cells #[.int .i64 yi, .slice (some ⟨bl, ol, none⟩) q d2, .int .i64 yj] 25)) w' → Calls Tryd.prog 27 #[.slice (if c2 = 1 then some ⟨b2, o2, none⟩ else some ⟨b2, o2 + 3, none⟩) (rl.length - 1) (c2 - 1), .slice (if c = 1 then some ⟨b, o, none⟩ else some ⟨b, o + 3, none⟩) (ns.length - 1) (c - 1)] w' (fun e w'' => e = .returned (.bool true) ∧ Ext (w4.alloc (.cells #[.int .i64 yi, .slice (some ⟨bl, ol, none⟩) q d2, .int .i64 yj] 25)) w'') := fun w' hC =>
        (sameNodes_m (c2 - 1) (c - 1) hdl2.out hdl.out (hXd.out.ext hC) (hNd.out.ext hC) hb1).mono fun e w'' ⟨f1, f2⟩ => ⟨f1, ext_trans hC f2⟩
      clear hq9 hlen9 z0 z1 z0' z1' c1'' y1' e1'' e0'
      refine wp_region_quietE (by kernel_rfl) (by kernel_rfl) ?_
      repeat (
        refine QW.step (fun K hK => ?_)
        go_simp
        first
        | (refine hK _ ?_; clear hK K)
        | (apply Exists.intro
           refine ⟨fun w5 hC => ?_, hK _ ?_⟩
           · first
             | rfl
             | exact hcv w5 hC
             | exact hcs w5 hC
             | exact hcn w5 hC
             | (simp only [q0 w5 hC, q1 w5 hC, q2 w5 hC, q3 w5 hC, q4 w5 hC, q5 w5 hC, q6 w5 hC, q7 w5 hC, q8 w5 hC, q9 w5 hC, Result.andThen_ok, true_and]; rfl)
           clear hK K))
      refine QW.nil ?_
      intro w1 hF
      clear q0 q1 q2 q3 q4 q5 q6 q7 q8 q9 hcv hcs hcn
      replace hE := hide (ext_trans hE.out hF)
      go_wp2_with fail
      all_goals (go_ret; exact ⟨by simp, hE.out⟩)
end Go.Proofs.YtjheeeilcfbdbaaDoor
