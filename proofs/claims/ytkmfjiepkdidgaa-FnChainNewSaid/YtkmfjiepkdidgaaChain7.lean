/-
  Contracts: a new chain, both.
-/
import Derived.Test.YtkmfjiepkdidgaaCGot
import Derived.Test.YtkmfjiepkdidgaaChain4
import Derived.Test.YtkmfjiepkdidgaaApp2
set_option linter.all false
set_option maxRecDepth 100000
namespace Go.Proofs.Ytkmfjiepkdidgaa
open Go.RowKit
attribute [local go_sem ↓] Go.wp_at_zero Go.wp_at_succ

def newNodes (ids : List Int) : List Nd := ids.map fun x => ⟨x, [], 0⟩
theorem newNodes_len (ids : List Int) : (newNodes ids).length = ids.length := by simp [newNodes]
theorem newNodes_bulk : ∀ ids : List Int, bulk (newNodes ids) = ids.length
  | [] => rfl
  | x :: ids => by have := newNodes_bulk ids; simp only [newNodes, List.map_cons, bulk, List.length_nil, List.length_cons] at this ⊢; omega
def NewRes (ids : List Int) (rv : Int) (rl : List Nd) (rb : Bool) : Prop :=
  (ChOk 0 (newNodes ids) ∧ rv = 0 ∧ rl = newNodes ids ∧ rb = true) ∨ (¬ ChOk 0 (newNodes ids) ∧ rv = 0 ∧ rl = [] ∧ rb = false)
theorem newRes_ex (ids : List Int) : ∃ rv rl rb, NewRes ids rv rl rb := by
  by_cases h : ChOk 0 (newNodes ids)
  · exact ⟨_, _, _, .inl ⟨h, rfl, rfl, rfl⟩⟩
  · exact ⟨_, _, _, .inr ⟨h, rfl, rfl, rfl⟩⟩
theorem newRes_bulk {ids : List Int} {rv : Int} {rl : List Nd} {rb : Bool} (h : NewRes ids rv rl rb) : bulk rl ≤ 5 := by
  rcases h with ⟨h, -, rfl, -⟩ | ⟨-, -, rfl, -⟩
  · rw [newNodes_bulk]; have := h.2.1; rw [newNodes_len] at this; exact this.2
  · simp [bulk]

def nils (k : Nat) : List Sl := List.replicate k (none, 0)
/-- What is held at the head of the loop: the nodes made so far lie in a row of the call's own, which the chain's variable names. -/
def NewTo (w : World) (ids : List Int) (k : Nat) (wr : World) : Prop :=
  ∃ u : Value, Blk wr w.heap.size 25 #[.int .i64 0, .slice none 0 0] ∧ Blk wr (w.heap.size + 1) 25 #[.int .i64 0, u] ∧ wr.ownsRow w.heap.size 31 3 u k (ncells (newNodes (ids.take k)) (nils k)) ∧ Ext w wr
theorem ncells_new {ids : List Int} {k : Nat} {x : Int} (hk : k < ids.length) (hx : ids[k] = x) : ncells (newNodes (ids.take (k + 1))) (nils (k + 1)) = ncells (newNodes (ids.take k)) (nils k) ++ [.int .i64 x, .slice none 0 0, .int .i64 0] := by
  unfold newNodes nils
  rw [List.take_succ_eq_append_getElem hk, List.map_append, List.replicate_succ', ncells_append _ _ _ _ (by simp; omega), hx]
  simp [ncells]
theorem newTo_step {w W w' : World} {ids : List Int} {k : Nat} {x : Int} {u v' : Value} {N : Nat} {X : List Value} (hk : k < ids.length) (hx : ids[k] = x) (hX : X = ncells (newNodes (ids.take k)) (nils k) ++ [.int .i64 x, .slice none 0 0, .int .i64 0]) (hN : N = k + 1)
    (hr : Blk W w.heap.size 25 #[.int .i64 0, .slice none 0 0]) (ho : Blk W (w.heap.size + 1) 25 #[.int .i64 0, u]) (hown0 : W.ownsRow w.heap.size 31 3 u k (ncells (newNodes (ids.take k)) (nils k))) (hE : Ext w W)
    (hown' : w'.ownsRow w.heap.size 31 3 v' N X) (hg : W.grownBy w' u.ownBlock) :
    Blk w' (w.heap.size + 1) 25 #[.int .i64 0, u] ∧ NewTo w ids (k + 1) (w'.setCell ⟨w.heap.size + 1, 1, none⟩ v') := by
  subst hX hN
  have h1 : Blk w' w.heap.size 25 #[.int .i64 0, .slice none 0 0] := (hg.block _ hr.lt (blk_types hr hown0 typesCN)).trans hr
  have h2 : Blk w' (w.heap.size + 1) 25 #[.int .i64 0, u] := (hg.block _ ho.lt (blk_types ho hown0 typesCN)).trans ho
  have hE' : Ext w w' := ext_of_only (only_trans (only_of_ext hE (some w.heap.size)) hg fun i hi => .inr (hown0.lt i hi).1) (Nat.le_refl _)
  refine ⟨h2, v', h1.far (by show w.heap.size ≠ w.heap.size + 1; omega) _, h2.set21 v', ?_, hE'.setCell (by show w.heap.size ≤ w.heap.size + 1; omega) _⟩
  rw [ncells_new hk hx]
  exact hown'.kept (only_setCell (World.grownBy.refl w' (some (w.heap.size + 1))) (.inl rfl) _) (.inr (blk_types h2 hown' typesCN).symm)
theorem newTo_own {w wr : World} {ids : List Int} {n : Nat} {u : Value} (hn : ids.length = n) (h : wr.ownsRow w.heap.size 31 3 u n (ncells (newNodes ids) (nils n))) :
    ∃ A c, u = .slice A n c ∧ NodesOwn wr w.heap.size wr.heap.size A c (newNodes ids) := by
  obtain ⟨A, c, rfl, -, -⟩ := own_form h
  refine ⟨A, c, rfl, nils n, by simp [nils, newNodes, hn], ?_, fun i a m ha hm => ?_, fun i j a b _ ha _ g hg => ?_⟩
  · rw [newNodes_len, hn]; exact RowIn.of h
  · have e1 : a = (none, 0) := by
      unfold nils at ha
      rw [List.getElem?_replicate] at ha
      split at ha
      · exact (Option.some.inj ha).symm
      · cases ha
    have e2 : m.log = [] := by
      unfold newNodes at hm
      rw [List.getElem?_map] at hm
      cases he : ids[i]? with
      | none => rw [he] at hm; cases hm
      | some y => rw [he] at hm; cases hm; rfl
    subst e1
    rw [e2]
    exact ⟨OwnU.nil _ _, fun g hg => by simp [Value.ownBlock] at hg⟩
  · unfold nils at ha
    rw [List.getElem?_replicate] at ha
    split at ha
    · cases ha; simp [blk] at hg
    · cases ha

set_option maxHeartbeats 3200000 in
theorem implChainNew_any {A : Option Addr} {ids : List Int} {rv : Int} {rl : List Nd} {rb : Bool} (c : Nat) {w : World} (h : IntsR w A ids) (hm : ids.length ≤ 1048576) (hR : NewRes ids rv rl rb) :
    Calls Try.prog 35 #[.slice A ids.length c] w (GotChB w rv rl rb) := by
  replace h := hide h
  obtain ⟨i0, hi, hz0, hz1, hz2⟩ := info_parts infoN
  have hr0 := hide (Blk.newAt w 25 #[.int .i64 0, .slice none 0 0] (g := w.heap.size) rfl)
  by_cases h5 : 5 < ids.length
  · have hno : ¬ ChOk 0 (newNodes ids) := fun hc => by have := hc.2.1; rw [newNodes_len] at this; omega
    rcases hR with ⟨hc, -⟩ | ⟨-, e1, e2, e3⟩
    · exact absurd hc hno
    have fin := hide (fun w' (hE : Ext w w') => gotChB_zero e1 e2 e3 hE)
    clear e1 e2 e3 hno
    go_enter Try.func35, Try.ntmps35
    go_wp2_with fail
    refine bodyPost_ret (v := .tuple #[.agg #[.int .i64 0, .slice none 0 0], .bool false]) (by simp [results, Try.results35, go_sem]) rfl ?_
    exact fin.out _ (ext_alloc (ext_refl _) _)
  · have hst := hide (show NewTo w ids 0 ((w.alloc (.cells #[.int .i64 0, .slice none 0 0] 25)).alloc (.cells #[.int .i64 0, .slice none 0 0] 25)) from
      ⟨_, hr0.out.ext (ext_alloc (ext_refl _) _), Blk.newAt _ _ _ (by simp), by simpa [newNodes, nils, ncells] using World.ownsRow_nil _ _ _ _, ext_alloc (ext_alloc (ext_refl _) _) _⟩)
    go_enter Try.func35, Try.ntmps35
    go_wp2_with fail
    go_loopw [14] (fun i wr => ∃ k : Nat, k ≤ ids.length ∧ i = .int .i64 k ∧ Hid (NewTo w ids k wr)) (fun i _ => ids.length - (intOf i).toNat)
    case atStart => exact ⟨0, Nat.zero_le _, rfl, hst⟩
    case round =>
      obtain ⟨k, hk, rfl, hT⟩ := hrel
      obtain ⟨u, r, o, hown, hE⟩ := hT.out
      replace r := hide r
      replace o := hide o
      replace hown := hide hown
      replace hE := hide hE
      try clear r_0 r_1 r_lt r_f0 r_f1
      obtain ⟨r_0, r_1, r_lt, r_f0, r_f1⟩ := r.out.at2f
      try clear o_0 o_1 o_lt o_f0 o_f1
      obtain ⟨o_0, o_1, o_lt, o_f0, o_f1⟩ := o.out.at2f
      by_cases hlt : k < ids.length
      · obtain ⟨b, of, x, hA, hbl, hx, hc0⟩ := int_at (h.out.ext hE.out) hlt
        subst hA
        replace hx := hide hx
        have hs := hE.out.size
        go_wp2_with (at_builtin; refine wpList_append_own _ rfl _ _ 23 rfl w.heap.size 31 i0 _ 3 40 Try.underlying23 hi hz0 hz1 hz2 rfl (by decide) _ k _ rfl (hown.out.alloc _) ⟨wr.heap.size, 0, none⟩ 1 1 [.int .i64 x, .slice none 0 0, .int .i64 0] rfl rfl ?c1 ?c2 ?c3 ?c4 ?c5 ?_)
        case c1 =>
          intro j u hj
          match j, hj with
          | 0, hj => simp at hj; subst hj; simp [Addr.add]
          | 1, hj => simp at hj; subst hj; simp [Addr.add]
          | 2, hj => simp at hj; subst hj; simp [Addr.add]
        case c2 => intro u hu; simp at hu; rcases hu with rfl | rfl | rfl <;> rfl
        case c3 => unfold maxLen; omega
        case c4 => omega
        case c5 => simp; omega
        intro v' w' hown' hgrow _
        obtain ⟨A', c', rfl, -, -⟩ := own_form hown'
        obtain ⟨o', hst'⟩ := newTo_step hlt hx.out rfl rfl (r.out.alloc (.cells #[.int .i64 x, .slice none 0 0, .int .i64 0] 31)) (o.out.alloc _) (hown.out.alloc _) (ext_alloc hE.out _) hown' hgrow
        replace hst' := hide hst'
        replace o' := hide o'
        clear hown' hgrow hown hT r_0 r_1 r_lt r_f0 r_f1
        try clear o'_0 o'_1 o'_lt o'_f0 o'_f1
        obtain ⟨o'_0, o'_1, o'_lt, o'_f0, o'_f1⟩ := o'.out.at2f
        go_wp2
        go_roundw
        case rel => exact ⟨k + 1, by omega, by go_num, hst'⟩
        case measure => simp [intOf]; omega
      · have hkn : ids.length = k := by omega
        have hown2 := hown.out
        rw [List.take_of_length_le (show ids.length ≤ k by omega)] at hown2
        obtain ⟨A2, c2, hu, hN⟩ := newTo_own hkn hown2
        subst hu
        replace hN := hide hN
        have hnl : Hid ((newNodes ids).length = k) := hide (by rw [newNodes_len, hkn])
        have hbk : bulk (newNodes ids) ≤ 1048576 := by rw [newNodes_bulk]; exact hm
        have hV : ∀ (b : Bool), (b = true ↔ ChOk 0 (newNodes ids)) → Calls Try.prog 16 #[.agg #[.int .i64 0, .slice A2 k c2]] wr fun e w'' => e = .returned (.bool b) ∧ Ext wr w'' := fun b hb => by
          rw [← hnl.out]; exact implChainValid_any c2 0 hN.out.read hbk hb
        replace hV := hide hV
        replace hkn := hide hkn
        clear hown hown2 hT
        rcases hR with ⟨hc, e1, e2, e3⟩ | ⟨hc, e1, e2, e3⟩
        · replace e1 := hide e1
          replace e2 := hide e2
          replace e3 := hide e3
          replace hc := hide hc
          go_wp2_with fail
          refine (hV.out true ⟨fun _ => hc.out, fun _ => rfl⟩).mono ?_
          rintro e w1 ⟨rfl, hF⟩
          have s1 := hF.size
          replace hN := hide (hN.out.ext hF)
          replace r := hide (r.out.ext hF)
          replace o := hide (o.out.ext hF)
          try clear r_0 r_1 r_lt r_f0 r_f1
          obtain ⟨r_0, r_1, r_lt, r_f0, r_f1⟩ := r.out.at2f
          try clear o_0 o_1 o_lt o_f0 o_f1
          obtain ⟨o_0, o_1, o_lt, o_f0, o_f1⟩ := o.out.at2f
          replace hE := hide (ext_trans hE.out hF)
          clear hF
          go_wp2_with fail
          refine bodyPost_ret (v := .tuple #[.agg #[.int .i64 0, .slice A2 k c2], .bool true]) (by simp [results, Try.results35, go_sem, r_0, r_1]) rfl ?_
          exact gotChB_of e1.out e2.out e3.out hnl.out ((hN.out.handed r.out _ _).wide (Nat.le_refl _) (by simp [World.setCell]; omega)) ((hE.out.setCell (Nat.le_refl _) _).setCell (Nat.le_refl _) _)
        · replace e1 := hide e1
          replace e2 := hide e2
          replace e3 := hide e3
          replace hc := hide hc
          go_wp2_with fail
          refine (hV.out false ⟨fun h => (by cases h), fun h => absurd h hc.out⟩).mono ?_
          rintro e w1 ⟨rfl, hF⟩
          replace r := hide (r.out.ext hF)
          replace o := hide (o.out.ext hF)
          try clear r_0 r_1 r_lt r_f0 r_f1
          obtain ⟨r_0, r_1, r_lt, r_f0, r_f1⟩ := r.out.at2f
          try clear o_0 o_1 o_lt o_f0 o_f1
          obtain ⟨o_0, o_1, o_lt, o_f0, o_f1⟩ := o.out.at2f
          replace hE := hide (ext_trans hE.out hF)
          clear hF
          go_wp2_with fail
          refine bodyPost_ret (v := .tuple #[.agg #[.int .i64 0, .slice none 0 0], .bool false]) (by simp [results, Try.results35, go_sem, r_0, r_1]) rfl ?_
          exact gotChB_zero e1.out e2.out e3.out ((hE.out.setCell (Nat.le_refl _) _).setCell (Nat.le_refl _) _)
set_option maxHeartbeats 6400000 in
theorem specChainNew_any {A : Option Addr} {ids : List Int} {rv : Int} {rl : List Nd} {rb : Bool} (c : Nat) {w : World} (h : IntsR w A ids) (hm : ids.length ≤ 1048576) (hR : NewRes ids rv rl rb) :
    Calls Try.prog 36 #[.slice A ids.length c] w (GotChB w rv rl rb) := by
  replace h := hide h
  obtain ⟨i0, hi, hz0, hz1, hz2⟩ := info_parts infoN
  have hr0 := hide (Blk.newAt w 25 #[.int .i64 0, .slice none 0 0] (g := w.heap.size) rfl)
  have hst := hide (show NewTo w ids 0 ((w.alloc (.cells #[.int .i64 0, .slice none 0 0] 25)).alloc (.cells #[.int .i64 0, .slice none 0 0] 25)) from
      ⟨_, hr0.out.ext (ext_alloc (ext_refl _) _), Blk.newAt _ _ _ (by simp), by simpa [newNodes, nils, ncells] using World.ownsRow_nil _ _ _ _, ext_alloc (ext_alloc (ext_refl _) _) _⟩)
  go_enter Try.func36, Try.ntmps36
  go_wp2_with fail
  go_loopw [5] (fun i wr => ∃ k : Nat, k ≤ ids.length ∧ i = .int .i64 k ∧ Hid (NewTo w ids k wr)) (fun i _ => ids.length - (intOf i).toNat)
  case atStart => exact ⟨0, Nat.zero_le _, rfl, hst⟩
  case round =>
    obtain ⟨k, hk, rfl, hT⟩ := hrel
    obtain ⟨u, r, o, hown, hE⟩ := hT.out
    obtain ⟨A1, c1, rfl, -, -⟩ := own_form hown
    replace r := hide r
    replace o := hide o
    replace hown := hide hown
    replace hE := hide hE
    try clear r_0 r_1 r_lt r_f0 r_f1
    obtain ⟨r_0, r_1, r_lt, r_f0, r_f1⟩ := r.out.at2f
    try clear o_0 o_1 o_lt o_f0 o_f1
    obtain ⟨o_0, o_1, o_lt, o_f0, o_f1⟩ := o.out.at2f
    by_cases hlt : k < ids.length
    · obtain ⟨b, of, x, hA, hbl, hx, hc0⟩ := int_at (h.out.ext hE.out) hlt
      subst hA
      replace hx := hide hx
      have hs := hE.out.size
      have hi0 : (0 : Int) ≤ (k : Int) := by omega
      have hi3 : (k : Int) < (ids.length : Int) := by omega
      have hd : decide ((k : Int) < (ids.length : Int)) = true := by simp; omega
      have hownD : Hid ((wr.alloc (.cells #[.int .i64 x, .slice none 0 0, .int .i64 0] 31)).drew.ownsRow w.heap.size 31 3 (.slice A1 k c1) k (ncells (newNodes (ids.take k)) (nils k))) := hide (hown.out.alloc (.cells #[.int .i64 x, .slice none 0 0, .int .i64 0] 31))
      have hED : Hid (Ext w (wr.alloc (.cells #[.int .i64 x, .slice none 0 0, .int .i64 0] 31)).drew) := hide (ext_drew (ext_alloc hE.out (.cells #[.int .i64 x, .slice none 0 0, .int .i64 0] 31)))
      have hE2 : Hid (Ext wr (wr.alloc (.cells #[.int .i64 x, .slice none 0 0, .int .i64 0] 31)).drew) := hide (ext_drew (ext_alloc (ext_refl wr) (.cells #[.int .i64 x, .slice none 0 0, .int .i64 0] 31)))
      have hcs : Hid (CellsR (wr.alloc (.cells #[.int .i64 x, .slice none 0 0, .int .i64 0] 31)).drew (some ⟨wr.heap.size, 0, none⟩) [.int .i64 x, .slice none 0 0, .int .i64 0]) := hide (fun _ => ⟨_, 0, rfl, fun jj u hu => by
        have hB := Blk.newAt wr 31 #[.int .i64 x, .slice none 0 0, .int .i64 0] (g := wr.heap.size) rfl
        match jj, hu with
        | 0, hu => simp at hu; subst hu; simpa using hB.cell 0
        | 1, hu => simp at hu; subst hu; simpa using hB.cell 1
        | 2, hu => simp at hu; subst hu; simpa using hB.cell 2⟩)
      have s0 : 0 < 3 := by decide
      have s1 : Hid (([.int .i64 x, .slice none 0 0, .int .i64 0] : List Value).length = 1 * 3) := hide rfl
      have s2 : Hid (∀ u ∈ ([.int .i64 x, .slice none 0 0, .int .i64 0] : List Value), u.oneCell' = true) := hide (fun u hu => by simp at hu; rcases hu with rfl | rfl | rfl <;> rfl)
      have s3 : Hid (k + 1 ≤ maxLen) := hide (by unfold maxLen; omega)
      have s4 : Hid ((k + 1) * 40 ≤ 140737488355328) := hide (by omega)
      have s5 : Hid (w.heap.size ≤ (wr.alloc (.cells #[.int .i64 x, .slice none 0 0, .int .i64 0] 31)).drew.heap.size) := hide hED.out.size
      go_wp2_with fail
      go_region_law (
        refine step_append_cells rfl (.tmp 14) (.tmp 20) 23 rfl w.heap.size 31 i0 _ 3 40 Try.underlying23 hi hz0 hz1 hz2 rfl s0 (.slice A1 k c1) k (ncells (newNodes (ids.take k)) (nils k)) rfl hownD.out (some ⟨wr.heap.size, 0, none⟩) 1 1 [.int .i64 x, .slice none 0 0, .int .i64 0] rfl s1.out hcs.out s2.out s3.out s4.out s5.out ?_
        intro v4 w4 hv4 hg4 hat4
        obtain ⟨A4, c4, rfl, -, -⟩ := own_form hv4
        obtain ⟨o', hst'⟩ := newTo_step hlt hx.out rfl rfl (show Blk (wr.alloc (.cells #[.int .i64 x, .slice none 0 0, .int .i64 0] 31)).drew _ _ _ from r.out.ext hE2.out) (o.out.ext hE2.out) hownD.out hED.out hv4 hg4
        replace hst' := hide hst'
        replace o' := hide o'
        clear hv4 hg4 hat4 hownD hED hE2 hcs hown hT r_0 r_1 r_lt r_f0 r_f1
        try clear o'_0 o'_1 o'_lt o'_f0 o'_f1
        obtain ⟨o'_0, o'_1, o'_lt, o'_f0, o'_f1⟩ := o'.out.at2f
        skip)
      all_goals go_wp2
      all_goals go_roundw
      all_goals first
        | exact ⟨k + 1, by omega, by go_num, hst'⟩
        | (simp [intOf]; omega)
    · have hkn : ids.length = k := by omega
      have hd : decide ((k : Int) < (ids.length : Int)) = false := by simp; omega
      have hown2 := hown.out
      rw [List.take_of_length_le (show ids.length ≤ k by omega)] at hown2
      obtain ⟨A2, c2, hu, hN⟩ := newTo_own hkn hown2
      cases hu
      have hcap := hN.cap
      replace hN := hide hN
      have hnl : Hid ((newNodes ids).length = k) := hide (by rw [newNodes_len, hkn])
      have hbk : bulk (newNodes ids) ≤ 1048576 := by rw [newNodes_bulk]; exact hm
      have hV1 : ChOk 0 (newNodes ids) → Calls Try.prog 17 #[.agg #[.int .i64 0, .slice A1 k c1]] wr fun e w'' => e = .returned (.bool true) ∧ Ext wr w'' := fun hb => by
        rw [← hnl.out]; exact specChainValid_yes c1 0 hN.out.read hbk hcap.1 hb
      have hV2 : ¬ ChOk 0 (newNodes ids) → Calls Try.prog 17 #[.agg #[.int .i64 0, .slice A1 k c1]] wr fun e w'' => e = .returned (.bool false) ∧ Ext wr w'' := fun hb => by
        rw [← hnl.out]; exact specChainValid_no c1 0 hN.out.read hbk hcap.1 hb
      replace hV1 := hide hV1
      replace hV2 := hide hV2
      replace hkn := hide hkn
      clear hown hown2 hT hcap
      rcases hR with ⟨hc, e1, e2, e3⟩ | ⟨hc, e1, e2, e3⟩
      · replace e1 := hide e1
        replace e2 := hide e2
        replace e3 := hide e3
        replace hc := hide hc
        go_wp2_with fail
        refine (hV1.out hc.out).mono ?_
        rintro e w1 ⟨rfl, hF⟩
        have s1 := hF.size
        replace hN := hide (hN.out.ext hF)
        replace r := hide (r.out.ext hF)
        replace o := hide (o.out.ext hF)
        try clear r_0 r_1 r_lt r_f0 r_f1
        obtain ⟨r_0, r_1, r_lt, r_f0, r_f1⟩ := r.out.at2f
        try clear o_0 o_1 o_lt o_f0 o_f1
        obtain ⟨o_0, o_1, o_lt, o_f0, o_f1⟩ := o.out.at2f
        replace hE := hide (ext_trans hE.out hF)
        clear hF
        go_wp2_with fail
        refine bodyPost_ret (v := .tuple #[.agg #[.int .i64 0, .slice A1 k c1], .bool true]) (by simp [results, Try.results36, go_sem, r_0, r_1]) rfl ?_
        exact gotChB_of e1.out e2.out e3.out hnl.out ((hN.out.handed r.out _ _).wide (Nat.le_refl _) (by simp [World.setCell]; omega)) ((hE.out.setCell (Nat.le_refl _) _).setCell (Nat.le_refl _) _)
      · replace e1 := hide e1
        replace e2 := hide e2
        replace e3 := hide e3
        replace hc := hide hc
        go_wp2_with fail
        refine (hV2.out hc.out).mono ?_
        rintro e w1 ⟨rfl, hF⟩
        replace r := hide (r.out.ext hF)
        replace o := hide (o.out.ext hF)
        try clear r_0 r_1 r_lt r_f0 r_f1
        obtain ⟨r_0, r_1, r_lt, r_f0, r_f1⟩ := r.out.at2f
        try clear o_0 o_1 o_lt o_f0 o_f1
        obtain ⟨o_0, o_1, o_lt, o_f0, o_f1⟩ := o.out.at2f
        replace hE := hide (ext_trans hE.out hF)
        clear hF
        go_wp2_with fail
        refine bodyPost_ret (v := .tuple #[.agg #[.int .i64 0, .slice none 0 0], .bool false]) (by simp [results, Try.results36, go_sem, r_0, r_1]) rfl ?_
        exact gotChB_zero e1.out e2.out e3.out ((hE.out.setCell (Nat.le_refl _) _).setCell (Nat.le_refl _) _)
end Go.Proofs.Ytkmfjiepkdidgaa
