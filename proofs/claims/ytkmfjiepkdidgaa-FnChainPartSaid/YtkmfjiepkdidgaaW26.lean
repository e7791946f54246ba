/-
  The walk of the law FnChainPart: it returns true for every input, and leaves its arguments as they were.
-/
import Derived.Test.YtkmfjiepkdidgaaCDraw5
import Derived.Test.YtkmfjiepkdidgaaCLaw
import Derived.Test.YtkmfjiepkdidgaaApp2
import Derived.Test.YtkmfjiepkdidgaaFrame2
set_option linter.all false
set_option maxRecDepth 100000
namespace Go.Proofs.Ytkmfjiepkdidgaa
open Go.RowKit
attribute [local go_sem ↓] Go.wp_at_zero Go.wp_at_succ

theorem nodesR_app {w w' : World} {ss : List Sl} {ns : List Nd} {x j : Int} {l : List Upd} {B A : Option Addr} {d N c base : Nat} (hs : ss.length = ns.length) (hat : ∀ (i : Nat) (a : Sl) (n : Nd), ss[i]? = some a → ns[i]? = some n → NodeAt w a n)
    (h0 : NodeAt w (B, d) ⟨x, l, j⟩) (hE : Ext w w') (hN : N = ns.length + 1) (hown : w'.ownsRow base 31 3 (.slice A N c) N ([.int .i64 x, .slice B l.length d, .int .i64 j] ++ ncells ns ss)) : NodesR w' A (⟨x, l, j⟩ :: ns) := by
  subst hN
  refine ⟨(B, d) :: ss, by simp [hs], ?_, fun i a n ha hn => ?_⟩
  · have := CellsR.of_own hown
    simpa [ncells] using this
  · cases i with
    | zero => simp at ha hn; subst ha hn; exact h0.ext hE
    | succ i => exact (hat i a n (by simpa using ha) (by simpa using hn)).ext hE
theorem at_world {P : Program} {ops : Array Oper} {o : Oper} {a : Act} {K : Act → World → Prop} {Q : Exit → Act → World → Prop} {E : Prop} (W : World) (h : if Region.wanted o (yielded ops a.tmps) = true then Oper.wp P o a W K Q else E) : if Region.wanted o (yielded ops a.tmps) = true then Oper.wp P o a W K Q else E := h
/-- The longer chain lies there. -/
def PartMid (w4 : World) (v : Int) (n : Nd) (ns : List Nd) (m q : Nat) (W : World) : Prop :=
  ∃ A c, Blk W q 25 #[.int .i64 v, .slice A (1 + m) c] ∧ NodesR W A (n :: ns) ∧ Ext w4 W
theorem PartMid.same {w4 W W' : World} {v : Int} {n : Nd} {ns : List Nd} {m q : Nat} (h : PartMid w4 v n ns m q W) (hE : Ext W W') : PartMid w4 v n ns m q W' := by
  obtain ⟨A, c, h1, h2, h3⟩ := h
  exact ⟨A, c, h1.ext hE, h2.ext hE, ext_trans h3 hE⟩
theorem partMid_a {w4 wz : World} {ss : List Sl} {ns : List Nd} {v x j : Int} {l : List Upd} {B A : Option Addr} {d m c : Nat} (hs : ss.length = ns.length) (hat : ∀ (i : Nat) (a : Sl) (n : Nd), ss[i]? = some a → ns[i]? = some n → NodeAt w4 a n)
    (h0 : NodeAt w4 (B, d) ⟨x, l, j⟩) (hE : Ext w4 wz) (hN : 1 + m = ns.length + 1) (hown : wz.ownsRow w4.heap.size 31 3 (.slice A (1 + m) c) (1 + m) ([.int .i64 x, .slice B l.length d, .int .i64 j] ++ ncells ns ss)) :
    PartMid w4 v ⟨x, l, j⟩ ns m wz.heap.size (wz.alloc (.cells #[.int .i64 v, .slice A (1 + m) c] 25)) :=
  have hE2 := ext_alloc hE (.cells #[.int .i64 v, .slice A (1 + m) c] 25)
  ⟨A, c, Blk.new _ _ _, nodesR_app hs hat h0 hE2 hN (hown.alloc _), hE2⟩
theorem partMid_b {w4 wz : World} {ss : List Sl} {ns : List Nd} {v x j : Int} {l : List Upd} {B A : Option Addr} {d m c q : Nat} {u0 u1 : Value} (hs : ss.length = ns.length) (hat : ∀ (i : Nat) (a : Sl) (n : Nd), ss[i]? = some a → ns[i]? = some n → NodeAt w4 a n)
    (h0 : NodeAt w4 (B, d) ⟨x, l, j⟩) (hE : Ext w4 wz) (hq : w4.heap.size ≤ q) (hb : Blk wz q 25 #[u0, u1]) (hN : 1 + m = ns.length + 1) (hown : wz.ownsRow w4.heap.size 31 3 (.slice A (1 + m) c) (1 + m) ([.int .i64 x, .slice B l.length d, .int .i64 j] ++ ncells ns ss)) :
    PartMid w4 v ⟨x, l, j⟩ ns m q ((wz.setCell ⟨q, 0, none⟩ (.int .i64 v)).setCell ⟨q, 1, none⟩ (.slice A (1 + m) c)) := by
  have hE2 := (hE.setCell (p := ⟨q, 0, none⟩) hq (.int .i64 v)).setCell (p := ⟨q, 1, none⟩) hq (.slice A (1 + m) c)
  have hg : wz.grownBy ((wz.setCell ⟨q, 0, none⟩ (.int .i64 v)).setCell ⟨q, 1, none⟩ (.slice A (1 + m) c)) (some q) := only_setCell (only_setCell (World.grownBy.refl wz (some q)) (.inl rfl) _) (.inl rfl) _
  exact ⟨A, c, (hb.set20 _).set21 _, nodesR_app hs hat h0 hE2 hN (hown.kept hg (.inr (blk_types hb hown typesCN).symm)), hE2⟩
theorem implChainValid_n {A : Option Addr} {ns : List Nd} {n : Nat} {r : Bool} (c : Nat) (v : Int) {w : World} (hn : Hid (ns.length = n)) (h : NodesR w A ns) (hb : bulk ns ≤ 1048576) (hr : r = true ↔ ChOk v ns) :
    Calls Try.prog 16 #[.agg #[.int .i64 v, .slice A n c]] w fun e w' => e = .returned (.bool r) ∧ Ext w w' := by
  have e := hn.out
  subst e
  exact implChainValid_any c v h hb hr
set_option maxHeartbeats 3200000 in
theorem fnChainPart.walk (a0 : Option Addr) (n0 c0 : Nat) (w : World) (w0 : CodeR w a0 n0 c0) :
    Calls Try.prog 4 #[.slice a0 n0 c0] w fun e w' => e = .returned (.bool true) ∧ Below w.heap.size w w' := by
  have hm := len64c w0
  by_cases hn : 1048576 < n0
  · go_enter Try.func4, Try.ntmps4
    go_wp2
    go_ret
    exact ⟨rfl, ext_refl _⟩
  · obtain ⟨iN, hiN, zN0, zN1, zN2⟩ := info_parts infoN
    go_enter Try.func4, Try.ntmps4
    go_wp2_with fail
    refine (drawChainValid_any w0).mono ?_
    rintro e w1 ⟨A, c, v, ns, rfl, hl1, hl5, hlow, hlc, hcm, hN, hE⟩
    replace hE := hide hE
    have hb := hlow.bulk hl5
    have hb1 : bulk (ns.drop 1) ≤ 1048576 := by
      have e := bulk_append (ns.take 1) (ns.drop 1)
      rw [List.take_append_drop] at e
      omega
    obtain ⟨q, hq⟩ := chOk_decides v ns
    replace hq := hide hq
    have P := hide (Blk.newAt (w1) 25 #[.int .i64 v, .slice A ns.length c] (g := (w1).heap.size) (by simp))
    replace hN := hide (hN.out.ext (ext_alloc (ext_refl (w1)) (.cells #[.int .i64 v, .slice A ns.length c] 25)))
    replace hE := hide (ext_alloc hE.out (.cells #[.int .i64 v, .slice A ns.length c] 25))
    go_wp2_with fail
    refine (implChainValid_any c v hN.out hb hq.out).mono ?_
    rintro e w2 ⟨rfl, hF⟩
    replace hN := hide (hN.out.ext hF)
    replace P := hide (P.out.ext hF)
    try clear P_0 P_1 P_lt
    obtain ⟨P_0, P_1, P_lt⟩ := P.out.at2
    replace hE := hide (ext_trans hE.out hF)
    clear hF
    go_wp2_with fail
    refine (specChainValid_any c v hN.out hb hlc hq.out).mono ?_
    rintro e w3 ⟨rfl, hF⟩
    replace hN := hide (hN.out.ext hF)
    replace P := hide (P.out.ext hF)
    try clear P_0 P_1 P_lt
    obtain ⟨P_0, P_1, P_lt⟩ := P.out.at2
    replace hE := hide (ext_trans hE.out hF)
    clear hF
    cases q with
    | false =>
      go_wp2_with fail
      go_ret
      exact ⟨rfl, hE.out⟩
    | true =>
      have hok := hide (hq.out.1 rfl)
      clear hq
      by_cases h2 : ns.length < 2
      · have hd : decide ((ns.length : Int) < 2) = true := by simp; omega
        go_wp2_with fail
        go_ret
        exact ⟨rfl, hE.out⟩
      · have hd : decide ((ns.length : Int) < 2) = false := by simp; omega
        obtain ⟨b, o, x, l, j, B, d, hA, hbl, hn1, hld, hdm, hB, d0, d1, d2, d1', d2'⟩ := node_at hN.out (i := 0) (by omega)
        subst hA
        simp only [Nat.zero_add, Nat.zero_mul, Nat.add_zero] at d0 d1 d2
        have hnx := hide (show ¬ ChOk v (⟨x, l, j⟩ :: ns) from chOk_twice hn1)
        have hbx : bulk (⟨x, l, j⟩ :: ns) ≤ 1048576 := by
          have h1 : l.length ≤ 13 := hlow _ _ hn1
          have h3 := bulk_le 13 ns fun n hn => by
            obtain ⟨i, hi⟩ := List.getElem?_of_mem hn
            exact hlow i n hi
          simp only [bulk]
          omega
        have hokb := hide (hok.out.behind (by omega))
        have hcut9 := hide (show NodesR w3 (some ⟨b, o + 3, none⟩) (ns.drop 1) from by simpa [Addr.add_lit] using hN.out.cut 1)
        have hl2 : Hid ((ns.drop 1).length = ns.length - 1) := hide (by simp)
        have hlx : Hid ((⟨x, l, j⟩ :: ns : List Nd).length = 1 + ns.length) := hide (by simp; omega)
        obtain ⟨m2, hm2⟩ : ∃ m2, ns.length = m2 + 2 := ⟨ns.length - 2, by omega⟩
        have hc2 : m2 + 2 ≤ c := by omega
        replace P := hide (show Blk w3 w1.heap.size 25 #[.int .i64 v, .slice (some ⟨b, o, none⟩) (m2 + 2) c] from by rw [← hm2]; exact P.out)
        rw [hm2] at P_1 hl2 hlx
        have hq1 : (1 : Int) ≤ ((m2 + 2 : Nat) : Int) := by omega
        have hq2 : ((m2 + 2 : Nat) : Int) ≤ (c : Int) := by omega
        have hq3 : (1 : Int) ≤ (c : Int) := by omega
        replace hm2 := hide hm2
        replace hok := hide hok
        replace hn1 := hide hn1
        replace hlow := hide hlow
        clear hB d1' d2' hm hcm
        go_wp2_with fail
        go_region
        have hE4 := hide (show Ext w3 (w3.alloc (.cells #[.int .i64 v, .slice (some ⟨b, o + 3, none⟩) (m2 + 1) (c - 1)] 25)).drew from ext_drew (ext_alloc (ext_refl w3) _))
        have X := hide (show Blk (w3.alloc (.cells #[.int .i64 v, .slice (some ⟨b, o + 3, none⟩) (m2 + 1) (c - 1)] 25)).drew w3.heap.size 25 #[.int .i64 v, .slice (some ⟨b, o + 3, none⟩) (m2 + 1) (c - 1)] from Blk.new w3 _ _)
        generalize (w3.alloc (.cells #[.int .i64 v, .slice (some ⟨b, o + 3, none⟩) (m2 + 1) (c - 1)] 25)).drew = w4 at hE4 X ⊢
        have hbl4 : b < w4.heap.size := Nat.lt_of_lt_of_le hbl hE4.out.size
        replace d0 := ext_cell hE4.out d0
        replace d1 := ext_cell hE4.out d1
        replace d2 := ext_cell hE4.out d2
        replace P := hide (P.out.ext hE4.out)
        obtain ⟨ss, hss, hcs0, hat0⟩ := hN.out.ext hE4.out
        obtain ⟨b9, o9, x9, l9, j9, B9, d9, hA9, -, hn9, hld9, hdm9, hB9, -, e1, -⟩ := node_at (hN.out.ext hE4.out) (i := 0) (by have := hm2.out; omega)
        cases hA9
        have hn9' := hn1.out.symm.trans hn9
        injection hn9' with hn9'
        injection hn9' with g1 g2 g3
        subst g1 g2 g3
        simp only [Nat.zero_add, Nat.zero_mul, Nat.add_zero] at e1
        rw [d1] at e1
        cases e1
        have hat := hide hat0
        have hna := hide (show NodeAt w4 (B, d) ⟨x, l, j⟩ from ⟨hld9, hdm9, hB9⟩)
        have hEa := hide (show Ext w4 ((w4.alloc (.cells #[.int .i64 x, .slice B l.length d, .int .i64 j] 31)).drew) from ext_drew (ext_alloc (ext_refl w4) _))
        have hEb := hide (show Ext w4 (((w4.alloc (.cells #[.int .i64 x, .slice B l.length d, .int .i64 j] 31)).alloc (.cells #[.int .i64 0, .slice none 0 0] 25)).drew) from ext_drew (ext_alloc (ext_alloc (ext_refl w4) _) _))
        have hEc := hide (show Ext w4 (((w4.alloc (.cells #[.int .i64 0, .slice none 0 0] 25)).alloc (.cells #[.int .i64 x, .slice B l.length d, .int .i64 j] 31)).drew) from ext_drew (ext_alloc (ext_alloc (ext_refl w4) _) _))
        have hoa := hide (show ((w4.alloc (.cells #[.int .i64 x, .slice B l.length d, .int .i64 j] 31)).drew).ownsRow w4.heap.size 31 3 (.slice (some ⟨w4.heap.size, 0, none⟩) 1 1) 1 [.int .i64 x, .slice B l.length d, .int .i64 j] from World.ownsRow_lit (base := w4.heap.size) (e := 31) (size := 3) w4 #[.int .i64 x, .slice B l.length d, .int .i64 j] 1 (Nat.le_refl _) (by simp [maxLen]) rfl)
        have hob := hide (show (((w4.alloc (.cells #[.int .i64 x, .slice B l.length d, .int .i64 j] 31)).alloc (.cells #[.int .i64 0, .slice none 0 0] 25)).drew).ownsRow w4.heap.size 31 3 (.slice (some ⟨w4.heap.size, 0, none⟩) 1 1) 1 [.int .i64 x, .slice B l.length d, .int .i64 j] from (World.ownsRow.alloc (World.ownsRow_lit (base := w4.heap.size) (e := 31) (size := 3) w4 #[.int .i64 x, .slice B l.length d, .int .i64 j] 1 (Nat.le_refl _) (by simp [maxLen]) rfl) _))
        have hoc0 := World.ownsRow_lit (base := w4.heap.size) (e := 31) (size := 3) (w4.alloc (.cells #[.int .i64 0, .slice none 0 0] 25)) #[.int .i64 x, .slice B l.length d, .int .i64 j] 1 (by simp) (by simp [maxLen]) rfl
        have hs4 : (w4.alloc (.cells #[.int .i64 0, .slice none 0 0] 25)).heap.size = w4.heap.size + 1 := by simp
        rw [hs4] at hoc0
        have hoc := hide (show (((w4.alloc (.cells #[.int .i64 0, .slice none 0 0] 25)).alloc (.cells #[.int .i64 x, .slice B l.length d, .int .i64 j] 31)).drew).ownsRow w4.heap.size 31 3 (.slice (some ⟨w4.heap.size + 1, 0, none⟩) 1 1) 1 [.int .i64 x, .slice B l.length d, .int .i64 j] from hoc0)
        clear hoc0
        have hqb := hide (show Blk (((w4.alloc (.cells #[.int .i64 x, .slice B l.length d, .int .i64 j] 31)).alloc (.cells #[.int .i64 0, .slice none 0 0] 25)).drew) (w4.heap.size + 1) 25 #[.int .i64 0, .slice none 0 0] from Blk.newAt (w4.alloc (.cells #[.int .i64 x, .slice B l.length d, .int .i64 j] 31)) _ _ (by simp))
        have hqc := hide (show Blk (((w4.alloc (.cells #[.int .i64 0, .slice none 0 0] 25)).alloc (.cells #[.int .i64 x, .slice B l.length d, .int .i64 j] 31)).drew) w4.heap.size 25 #[.int .i64 0, .slice none 0 0] from (Blk.new w4 _ _).ext (ext_drew (ext_alloc (ext_refl _) _)))
        have hca := hide (CellsR.ext hcs0 hEa.out)
        have hcb := hide (CellsR.ext hcs0 hEb.out)
        have hcc := hide (CellsR.ext hcs0 hEc.out)
        have hlen : Hid ((ncells ns ss).length = (m2 + 2) * 3) := hide (by rw [ncells_len _ _ hss, hm2.out])
        have hone : Hid (∀ u ∈ ncells ns ss, u.oneCell' = true) := hide (ncells_one _ _)
        have hmx : Hid (1 + (m2 + 2) ≤ maxLen) := hide (by have := hm2.out; unfold maxLen; omega)
        have hby : Hid ((1 + (m2 + 2)) * 40 ≤ 140737488355328) := hide (by have := hm2.out; omega)
        have hN1 : Hid (1 + (m2 + 2) = ns.length + 1) := hide (by have := hm2.out; omega)
        have hss' := hide hss
        have h3 : 0 < 3 := by decide
        have hq4 : (0 : Int) < (m2 : Int) + 2 := by omega
        clear P_0 P_1 P_lt hcs0 hat0 hn9 hld9 hdm9 hB9 hss
        try clear P_0 P_1 P_lt
        obtain ⟨P_0, P_1, P_lt⟩ := P.out.at2
        have hp9 : w1.heap.size < w4.heap.size := P_lt
        have n1 : w1.heap.size ≠ w4.heap.size + 1 := by omega
        have n2 : b ≠ w4.heap.size + 1 := by omega
        have n3 : w1.heap.size ≠ w4.heap.size := by omega
        have n4 : b ≠ w4.heap.size := by omega
        have n1' : w4.heap.size + 1 ≠ w1.heap.size := by omega
        have n2' : w4.heap.size + 1 ≠ b := by omega
        have n3' : w4.heap.size ≠ w1.heap.size := by omega
        have n4' : w4.heap.size ≠ b := by omega
        go_wp2_with fail
        go_cut [7] (fun s7 wx => ∃ q7 : Nat, s7 = .pointer (some ⟨q7, 0, none⟩) ∧ Hid (PartMid w4 v ⟨x, l, j⟩ ns (m2 + 2) q7 wx))
        case first =>
          go_region_held3 (fun w' => w'.cell? ⟨w1.heap.size, 0, none⟩ = some (.int .i64 v) ∧ w'.cell? ⟨w1.heap.size, 1, none⟩ = some (.slice (some ⟨b, o, none⟩) (m2 + 2) c) ∧ w'.cell? ⟨b, o, none⟩ = some (.int .i64 x) ∧ w'.cell? ⟨b, o + 1, none⟩ = some (.slice B l.length d) ∧ w'.cell? ⟨b, o + 2, none⟩ = some (.int .i64 j))
           (first | with_reducible exact ⟨z_0, z_1, x_0, x_1, x_2⟩ | go_keep)
           ((first
           | ((with_reducible refine at_world ((w4.alloc (.cells #[.int .i64 x, .slice B l.length d, .int .i64 j] 31)).drew) ?_)
              refine step_append_cells rfl (.tmp 45) (.tmp 47) 23 rfl w4.heap.size 31 iN _ 3 40 Try.underlying23 hiN zN0 zN1 zN2 rfl h3 (.slice (some ⟨w4.heap.size, 0, none⟩) 1 1) 1 [.int .i64 x, .slice B l.length d, .int .i64 j] rfl hoa.out (some ⟨b, o, none⟩) (m2 + 2) c (ncells ns ss) rfl hlen.out hca.out hone.out hmx.out hby.out (own_le hoa.out) ?_
              intro v8 wz hv8 hg8 hat8
              obtain ⟨A8, c8, rfl, -, -⟩ := own_form hv8
              have hE8 := hide (Turned.ext hEa.out (Turned.of_row hg8 (fun i hi => ⟨(hoa.out.lt i hi).1, (hoa.out.lt i hi).2⟩)) (Nat.le_refl _))
              have PZ := hide (P.out.ext hE8.out)
              obtain ⟨z_0, z_1, z_lt⟩ := PZ.out.at2
              have x_0 := ext_cell hE8.out d0
              have x_lt : b < wz.heap.size := Nat.lt_of_lt_of_le hbl4 hE8.out.size
              have n5 : w1.heap.size ≠ wz.heap.size := by omega
              have n6 : b ≠ wz.heap.size := by omega
              have n5' : wz.heap.size ≠ w1.heap.size := by omega
              have n6' : wz.heap.size ≠ b := by omega
              have x_1 := ext_cell hE8.out d1
              have x_2 := ext_cell hE8.out d2
              have fin := hide (partMid_a (v := v) hss'.out hat.out hna.out hE8.out hN1.out hv8)
              clear hv8 hg8 hat8
              skip)
           | ((with_reducible refine at_world (((w4.alloc (.cells #[.int .i64 x, .slice B l.length d, .int .i64 j] 31)).alloc (.cells #[.int .i64 0, .slice none 0 0] 25)).drew) ?_)
              refine step_append_cells rfl (.tmp 45) (.tmp 47) 23 rfl w4.heap.size 31 iN _ 3 40 Try.underlying23 hiN zN0 zN1 zN2 rfl h3 (.slice (some ⟨w4.heap.size, 0, none⟩) 1 1) 1 [.int .i64 x, .slice B l.length d, .int .i64 j] rfl hob.out (some ⟨b, o, none⟩) (m2 + 2) c (ncells ns ss) rfl hlen.out hcb.out hone.out hmx.out hby.out (own_le hob.out) ?_
              intro v8 wz hv8 hg8 hat8
              obtain ⟨A8, c8, rfl, -, -⟩ := own_form hv8
              have hE8 := hide (Turned.ext hEb.out (Turned.of_row hg8 (fun i hi => ⟨(hob.out.lt i hi).1, (hob.out.lt i hi).2⟩)) (Nat.le_refl _))
              have PZ := hide (P.out.ext hE8.out)
              obtain ⟨z_0, z_1, z_lt⟩ := PZ.out.at2
              have x_0 := ext_cell hE8.out d0
              have x_lt : b < wz.heap.size := Nat.lt_of_lt_of_le hbl4 hE8.out.size
              have n5 : w1.heap.size ≠ wz.heap.size := by omega
              have n6 : b ≠ wz.heap.size := by omega
              have n5' : wz.heap.size ≠ w1.heap.size := by omega
              have n6' : wz.heap.size ≠ b := by omega
              have x_1 := ext_cell hE8.out d1
              have x_2 := ext_cell hE8.out d2
              have hq8 := hide (show Blk wz (w4.heap.size + 1) 25 #[.int .i64 0, .slice none 0 0] from (hg8.block _ hqb.out.lt (blk_types hqb.out hob.out typesCN)).trans hqb.out)
              obtain ⟨y_0, y_1, y_lt, y_f0, y_f1⟩ := hq8.out.at2f
              have fin := hide (partMid_b (v := v) hss'.out hat.out hna.out hE8.out (Nat.le_succ _) hq8.out hN1.out hv8)
              clear hv8 hg8 hat8
              skip)
           | ((with_reducible refine at_world (((w4.alloc (.cells #[.int .i64 0, .slice none 0 0] 25)).alloc (.cells #[.int .i64 x, .slice B l.length d, .int .i64 j] 31)).drew) ?_)
              refine step_append_cells rfl (.tmp 45) (.tmp 47) 23 rfl w4.heap.size 31 iN _ 3 40 Try.underlying23 hiN zN0 zN1 zN2 rfl h3 (.slice (some ⟨w4.heap.size + 1, 0, none⟩) 1 1) 1 [.int .i64 x, .slice B l.length d, .int .i64 j] rfl hoc.out (some ⟨b, o, none⟩) (m2 + 2) c (ncells ns ss) rfl hlen.out hcc.out hone.out hmx.out hby.out (own_le hoc.out) ?_
              intro v8 wz hv8 hg8 hat8
              obtain ⟨A8, c8, rfl, -, -⟩ := own_form hv8
              have hE8 := hide (Turned.ext hEc.out (Turned.of_row hg8 (fun i hi => ⟨(hoc.out.lt i hi).1, (hoc.out.lt i hi).2⟩)) (Nat.le_refl _))
              have PZ := hide (P.out.ext hE8.out)
              obtain ⟨z_0, z_1, z_lt⟩ := PZ.out.at2
              have x_0 := ext_cell hE8.out d0
              have x_lt : b < wz.heap.size := Nat.lt_of_lt_of_le hbl4 hE8.out.size
              have n5 : w1.heap.size ≠ wz.heap.size := by omega
              have n6 : b ≠ wz.heap.size := by omega
              have n5' : wz.heap.size ≠ w1.heap.size := by omega
              have n6' : wz.heap.size ≠ b := by omega
              have x_1 := ext_cell hE8.out d1
              have x_2 := ext_cell hE8.out d2
              have hq8 := hide (show Blk wz w4.heap.size 25 #[.int .i64 0, .slice none 0 0] from (hg8.block _ hqc.out.lt (blk_types hqc.out hoc.out typesCN)).trans hqc.out)
              obtain ⟨y_0, y_1, y_lt, y_f0, y_f1⟩ := hq8.out.at2f
              have fin := hide (partMid_b (v := v) hss'.out hat.out hna.out hE8.out (Nat.le_refl _) hq8.out hN1.out hv8)
              clear hv8 hg8 hat8
              skip)))
          all_goals go_wp2_with fail
          all_goals go_meet
          all_goals exact ⟨_, rfl, hide (fin.out.same ⟨rfl, rfl, rfl, Nat.le_refl _, fun _ _ => rfl⟩)⟩
        case rest =>
          obtain ⟨q7, rfl, hM⟩ := hcut
          obtain ⟨A8, c8, hQ, hY, hE9⟩ := hM.out
          replace hQ := hide hQ
          replace hY := hide hY
          replace hE := hide (ext_trans (ext_trans hE.out hE4.out) hE9)
          have hcutx := hide (hcut9.out.ext (ext_trans hE4.out hE9))
          replace X := hide (X.out.ext hE9)
          clear hM hE9 P
          try clear X_0 X_1 X_lt
          obtain ⟨X_0, X_1, X_lt⟩ := X.out.at2
          try clear hQ_0 hQ_1 hQ_lt
          obtain ⟨hQ_0, hQ_1, hQ_lt⟩ := hQ.out.at2
          go_wp2_with fail
          refine (implChainValid_n (c - 1) v hl2.out hcutx.out hb1 ⟨fun _ => hokb.out, fun _ => rfl⟩).mono ?_
          rintro e w6 ⟨rfl, hF⟩
          replace hY := hide (hY.out.ext hF)
          replace hQ := hide (hQ.out.ext hF)
          try clear hQ_0 hQ_1 hQ_lt
          obtain ⟨hQ_0, hQ_1, hQ_lt⟩ := hQ.out.at2
          replace hE := hide (ext_trans hE.out hF)
          clear hF
          go_wp2_with fail
          refine (implChainValid_n (r := false) c8 v hlx.out hY.out hbx ⟨fun h => (by cases h), fun h => absurd h hnx.out⟩).mono ?_
          rintro e w7 ⟨rfl, hF⟩
          replace hE := hide (ext_trans hE.out hF)
          clear hF
          go_wp2_with fail
          go_ret
          exact ⟨rfl, hE.out⟩
end Go.Proofs.Ytkmfjiepkdidgaa
