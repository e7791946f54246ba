/-
  Contracts: the reference takes an update at a node of a chain.
-/
import Derived.Test.YtciekjplhbimdaaZChain8
import Derived.Test.YtciekjplhbimdaaZNTake
import Derived.Test.YtciekjplhbimdaaZBPure
import Derived.Test.YtciekjplhbimdaaZCDraw4
set_option linter.all false
set_option maxRecDepth 100000
namespace Go.Proofs.YtciekjplhbimdaaZ
open Go.RowKit
attribute [local go_sem ↓] Go.wp_at_zero Go.wp_at_succ

/-! ### Another node in a row of nodes -/
section
variable {W W' : World} {lo hi a b lo2 hi2 c d i g n : Nat} {x y z j : Int} {A B : Option Addr} {ns : List Nd} {l l' : List Upd}
/-- Another log, which lies apart from all others. -/
theorem NodesOwn.putLog {gA : Nat} (h : NodesOwn W lo hi (some ⟨gA, 0, none⟩) c ns) (hn : ns[i]? = some ⟨x, l, j⟩) (hL : LogIn W a b B d l') (hs : b ≤ lo ∨ hi ≤ a) (h1 : lo2 ≤ lo) (h2 : lo2 ≤ a) (h3 : hi ≤ hi2) (h4 : b ≤ hi2) :
    NodesOwn (W.setCell ⟨gA, i * 3 + 1, none⟩ (.slice B l'.length d)) lo2 hi2 (some ⟨gA, 0, none⟩) c (ns.set i ⟨x, l', j⟩) := by
  obtain ⟨ss, f1, f2, f3, f4⟩ := h
  have hkeep : ∀ {B' : Option Addr} {d' : Nat} {m' : List Upd} {lo' hi2 : Nat}, LogIn W lo' hi2 B' d' m' → LogIn (W.setCell ⟨gA, i * 3 + 1, none⟩ (.slice B l'.length d)) lo' hi2 B' d' m' := fun h5 =>
    ⟨World.ownsRow.kept h5.1 (f2.1.stored (i * 3 + 1) (.slice B l'.length d)).2 (own_types h5.1 f2.1 typesNU.symm), h5.2⟩
  refine ⟨ss.set i (B, d), by simp [f1], ⟨?_, fun g' hg' => Nat.lt_of_lt_of_le (f2.2 g' hg') h3⟩, fun k a' m ha hm => ?_, ?_⟩
  · have := (f2.1.stored (i * 3 + 1) (.slice B l'.length d)).1
    rw [show Value.slice B l'.length d = .slice (B, d).1 l'.length (B, d).2 from rfl, ncells_log ns ss i _ (B, d) l' hn] at this
    rw [List.length_set]
    exact own_mono this h1
  · rw [List.getElem?_set] at ha hm
    by_cases e : i = k
    · subst e
      have e1 := (List.getElem?_eq_some_iff.1 hn).1
      rw [if_pos rfl, if_pos (by omega)] at ha
      rw [if_pos rfl, if_pos e1] at hm
      cases ha
      cases hm
      exact (hkeep hL).wide h2 h4
    · rw [if_neg e] at ha hm
      exact (hkeep (f3 k a' m ha hm)).wide h1 h3
  · intro k m y' z' hkm hy hz g' hg' hg2
    rw [List.getElem?_set] at hy hz
    by_cases e : i = k
    · subst e
      rw [if_pos rfl] at hy
      split at hy
      · cases hy
        rw [if_neg (by omega)] at hz
        have q1 := (LogsIn.lt f3 f1 hz) g' hg2
        rw [← blk_own (B, d) l'.length] at hg'
        have q2 := (hL.1.lt g' hg').1
        have q3 := hL.2 g' hg'
        omega
      · cases hy
    · rw [if_neg e] at hy
      by_cases e2 : i = m
      · subst e2
        rw [if_pos rfl] at hz
        split at hz
        · cases hz
          have q1 := (LogsIn.lt f3 f1 hy) g' hg'
          rw [← blk_own (B, d) l'.length] at hg2
          have q2 := (hL.1.lt g' hg2).1
          have q3 := hL.2 g' hg2
          omega
        · cases hz
      · rw [if_neg e2] at hz
        exact f4 k m y' z' hkm hy hz g' hg' hg2
theorem NodesOwn.putNode {gA : Nat} (h : NodesOwn W lo hi (some ⟨gA, 0, none⟩) c ns) (hn : ns[i]? = some ⟨x, l, j⟩) (hL : LogIn W a b B d l') (hs : b ≤ lo ∨ hi ≤ a) (h1 : lo2 ≤ lo) (h2 : lo2 ≤ a) (h3 : hi ≤ hi2) (h4 : b ≤ hi2) (h0 : 0 < ns.length) :
    NodesOwn (((W.setCell ⟨gA, i * 3, none⟩ (.int .i64 y)).setCell ⟨gA, i * 3 + 1, none⟩ (.slice B l'.length d)).setCell ⟨gA, i * 3 + 2, none⟩ (.int .i64 z)) lo2 hi2 (some ⟨gA, 0, none⟩) c (ns.set i ⟨y, l', z⟩) := by
  have e1 := (List.getElem?_eq_some_iff.1 hn).1
  obtain ⟨gB, e, g1, g2, g3⟩ := h.addr h0
  cases e
  have q1 := h.setId (y := y) hn
  have hL2 : LogIn (W.setCell ⟨gA, i * 3, none⟩ (.int .i64 y)) a b B d l' := hL.turned (Turned.set (p := ⟨gA, i * 3, none⟩) (lo := gA) (hi := gA + 1) (Nat.le_refl _) (Nat.lt_succ_self _) _) (by omega)
  have q2 := q1.putLog (set_at hn) hL2 hs h1 h2 h3 h4
  rw [List.set_set] at q2
  have q3 := q2.setDone (y := z) (set_at hn)
  rw [List.set_set] at q3
  exact q3
end

/-! ### Plain words -/
/-- Node k, which has taken one update more; the last one knows it to be everywhere. -/
def grown (ns : List Nd) (k : Nat) (y : Nd) (u : Upd) : Nd := ⟨y.id, y.log ++ [u], if k + 1 = ns.length then ((y.log.length + 1 : Nat) : Int) else y.done⟩
def TakeRes (v : Int) (ns : List Nd) (k : Nat) (y : Nd) (u : Upd) (rv : Int) (rl : List Nd) (rb : Bool) : Prop :=
  (takeOk y u = true ∧ rv = v ∧ rl = ns.set k (grown ns k y u) ∧ rb = true) ∨ (takeOk y u = false ∧ rv = 0 ∧ rl = [] ∧ rb = false)
theorem written_grown (ns : List Nd) (x : Nd) (u : Upd) : written ns x u = grown ns 0 x u := by
  unfold written grown
  congr 1
  by_cases h : ns.length = 1
  · rw [if_pos h, if_pos (by omega)]
  · rw [if_neg h, if_neg (by omega)]
theorem passed_grown (ns : List Nd) (k : Nat) (y : Nd) (u : Upd) : passed ns k y u = grown ns (k + 1) y u := rfl
theorem ndTake_len13 (n : Nd) (u : Upd) : (ndTake n u).log.length ≤ 12 := ndTake_len n u

/-- What stands behind `take, then a new node for it`: the node's block g, its log's row. -/
structure Made (win w3 : World) (xi xj : Int) (xl : List Upd) (n : Nat) (g : Nat) (A : Option Addr) (c : Nat) : Prop where
  ext : Ext win w3
  blk : Blk w3 g 36 #[.int .i64 xi, .slice A n c, .int .i64 xj]
  ge : win.heap.size ≤ g
  log : ∃ lo hi, Hid (LogIn w3 lo hi A c xl) ∧ win.heap.size ≤ lo ∧ hi ≤ w3.heap.size ∧ (g < lo ∨ hi ≤ g)
theorem takenIn {w w' : World} {i j : Int} {l : List Upd} {n : Nat} {b : Bool} {e : Ending} (h : GotNodeB w ⟨i, l, j⟩ b e w') (hn : l.length = n) :
    ∃ A c, e = .returned (.tuple #[.agg #[.int .i64 i, .slice A n c, .int .i64 j], .bool b]) ∧ Hid (l.length = n ∧ LogIn w' w.heap.size w'.heap.size A c l) ∧ Ext w w' := by
  subst hn
  obtain ⟨A, c, rfl, h1, h2, h3, h4⟩ := h.useIn
  exact ⟨A, c, rfl, hide ⟨rfl, h3.out⟩, h4⟩
theorem made_last {win wb v : World} {xi xj : Int} {xl : List Upd} {n : Nat} {A : Option Addr} {c : Nat} (h2 : Ext win wb) (h3 : Ext win v) (hW : xl.length = n ∧ LogIn v wb.heap.size v.heap.size A c xl) :
    Made win (v.alloc (.cells #[.int .i64 xi, .slice A n c, .int .i64 xj] 36)) xi xj xl n v.heap.size A c :=
  ⟨ext_alloc h3 _, Blk.new _ _ _, h3.size, _, _, hide (LogIn.ext hW.2 (ext_alloc (ext_refl _) _)), h2.size, by simp, .inr (Nat.le_refl _)⟩
theorem made_in {win v : World} {xi xj : Int} {xl : List Upd} {n : Nat} {A : Option Addr} {c g lo : Nat} {u0 u1 u2 : Value} (h3 : Ext win v) (hg : win.heap.size ≤ g) (hb : Blk v g 36 #[u0, u1, u2]) (hl : g < lo) (hW : xl.length = n ∧ LogIn v lo v.heap.size A c xl) :
    Made win (((v.setCell ⟨g, 0, none⟩ (.int .i64 xi)).setCell ⟨g, 1, none⟩ (.slice A n c)).setCell ⟨g, 2, none⟩ (.int .i64 xj)) xi xj xl n g A c :=
  ⟨((h3.setCell (p := ⟨g, 0, none⟩) hg _).setCell (p := ⟨g, 1, none⟩) hg _).setCell (p := ⟨g, 2, none⟩) hg _, ((hb.set30 _).set31 _).set32 _, hg, lo, v.heap.size,
    hide (LogIn.turned hW.2 (Turned.set3 g (.int .i64 xi) (.slice A n c) (.int .i64 xj)) (.inr hl)), by omega, by simp, .inl hl⟩
set_option maxHeartbeats 6400000 in
theorem l4Take_any {A : Option Addr} {ns : List Nd} {k : Nat} {y : Nd} {rv : Int} {rl : List Nd} {rb : Bool} (c : Nat) (v ux uy : Int) {w : World} (h : NodesR w A ns) (hb : bulk ns ≤ 1048576) (hk : ns[k]? = some y) (hs : TakeRes v ns k y (ux, uy) rv rl rb) :
    Calls Alt.prog 44 #[.agg #[.int .i64 v, .slice A ns.length c], .int .i64 (k : Int), .agg #[.int .i64 ux, .int .i64 uy]] w (GotChB w rv rl rb) := by
  have hl := bulk_len ns
  have hE := hide (ext_refl w)
  replace h := hide h
  have b := hide (Blk.newAt (w) 25 #[.int .i64 v, .slice A ns.length c] (g := w.heap.size) (by simp))
  replace h := hide (h.out.ext (ext_alloc (ext_refl (w)) (.cells #[.int .i64 v, .slice A ns.length c] 25)))
  replace hE := hide (ext_alloc hE.out (.cells #[.int .i64 v, .slice A ns.length c] 25))
  have u := hide (Blk.newAt ((w.alloc (.cells #[.int .i64 v, .slice A ns.length c] 25))) 39 #[.int .i64 ux, .int .i64 uy] (g := w.heap.size + 1) (by simp))
  replace h := hide (h.out.ext (ext_alloc (ext_refl ((w.alloc (.cells #[.int .i64 v, .slice A ns.length c] 25)))) (.cells #[.int .i64 ux, .int .i64 uy] 39)))
  replace b := hide (b.out.ext (ext_alloc (ext_refl ((w.alloc (.cells #[.int .i64 v, .slice A ns.length c] 25)))) (.cells #[.int .i64 ux, .int .i64 uy] 39)))
  replace hE := hide (ext_alloc hE.out (.cells #[.int .i64 ux, .int .i64 uy] 39))
  have r := hide (Blk.newAt (((w.alloc (.cells #[.int .i64 v, .slice A ns.length c] 25)).alloc (.cells #[.int .i64 ux, .int .i64 uy] 39))) 25 #[.int .i64 0, .slice none 0 0] (g := w.heap.size + 1 + 1) (by simp))
  replace h := hide (h.out.ext (ext_alloc (ext_refl (((w.alloc (.cells #[.int .i64 v, .slice A ns.length c] 25)).alloc (.cells #[.int .i64 ux, .int .i64 uy] 39)))) (.cells #[.int .i64 0, .slice none 0 0] 25)))
  replace b := hide (b.out.ext (ext_alloc (ext_refl (((w.alloc (.cells #[.int .i64 v, .slice A ns.length c] 25)).alloc (.cells #[.int .i64 ux, .int .i64 uy] 39)))) (.cells #[.int .i64 0, .slice none 0 0] 25)))
  replace u := hide (u.out.ext (ext_alloc (ext_refl (((w.alloc (.cells #[.int .i64 v, .slice A ns.length c] 25)).alloc (.cells #[.int .i64 ux, .int .i64 uy] 39)))) (.cells #[.int .i64 0, .slice none 0 0] 25)))
  replace hE := hide (ext_alloc hE.out (.cells #[.int .i64 0, .slice none 0 0] 25))
  obtain ⟨yi, yl, yj, ey⟩ := nd_cases y
  subst ey
  have hy := hk
  have hkl := getElem_some hk
  clear hk
  rcases hs with ⟨ht, e1, e2, e3⟩ | ⟨ht, e1, e2, e3⟩
  · replace e1 := hide e1
    replace e2 := hide e2
    replace e3 := hide e3

    obtain ⟨b9, o9, _, _, _, B1, d1, hA, hbl, hy', hld1, hdm1, hB1, y_0, -, -, y_1, y_2⟩ := node_at h.out hkl
    cases hA
    rw [hy] at hy'
    cases hy'
    have hm1 : yl.length ≤ 1048576 := bulk_of hb hy
    replace hB1 := hide hB1
    try clear b_0 b_1 b_lt
    obtain ⟨b_0, b_1, b_lt⟩ := b.out.at2
    try clear u_0 u_1 u_lt
    obtain ⟨u_0, u_1, u_lt⟩ := u.out.at2
    by_cases hlast : k + 1 = ns.length
    · have hi1 : (k : Int) < (ns.length : Int) := by omega
      have hi0 : (0 : Int) ≤ (k : Int) := by omega

      obtain ⟨k1, hk1⟩ : ∃ k1, k1 = k + 1 := ⟨_, rfl⟩
      have hw1 : IntKind.i64.wrap ((k : Int) + 1) = (k1 : Int) := by rw [show ((k : Int) + 1) = (k1 : Int) by omega]; exact IntWalk.i64_in _ (by omega)
      have hd1 : ((k1 : Int) == (ns.length : Int)) = true := by simp; omega
      have hd2 : (k1 == ns.length) = true := by simp; omega
      replace hk1 := hide hk1
      replace hlast := hide hlast
      obtain ⟨xi, hxi⟩ : ∃ x : Int, yi = x := ⟨_, rfl⟩
      obtain ⟨xl, hxl⟩ : ∃ x : List Upd, yl ++ [(ux, uy)] = x := ⟨_, rfl⟩
      obtain ⟨xj, hxj⟩ : ∃ x : Int, yj = x := ⟨_, rfl⟩
      obtain ⟨m, hm⟩ : ∃ m, m = yl.length + 1 := ⟨_, rfl⟩
      obtain ⟨xn, hxn⟩ : ∃ n, m = n := ⟨_, rfl⟩
      have hxs : xl.length = xn := by rw [← hxl, ← hxn, hm]; simp
      have hP : ∀ w', LogR w' B1 yl → Calls Alt.prog 72 #[.agg #[.int .i64 yi, .slice B1 yl.length d1, .int .i64 yj], .agg #[.int .i64 ux, .int .i64 uy]] w' (GotNodeB w' ⟨xi, xl, xj⟩ true) := fun w' h => by
        have e1 : ndTake ⟨yi, yl, yj⟩ (ux, uy) = ⟨xi, xl, xj⟩ := by rw [ndTake_yes ht, ← hxi, ← hxl, ← hxj]
        have e2 := specNodeTake_any d1 yi yj ux uy h hm1
        rw [e1, ht] at e2
        exact e2
      replace hP := hide hP
      replace hxs := hide hxs
      replace hxi := hide hxi
      replace hxl := hide hxl
      replace hxj := hide hxj
      replace hxn := hide hxn
      replace hm := hide hm
      replace hy := hide hy

      go_enter Alt.func44, Try.ntmps44
      have hN0 := hide h.out
      go_upto_region 1 with fail
      go_cut [8, 9] (fun s8 s9 wx => ∃ (g : Nat) (A3 : Option Addr) (c3 : Nat), s8 = .pointer (some ⟨g, 0, none⟩) ∧ s9 = .bool true ∧ Hid (Made (((w.alloc (.cells #[.int .i64 v, .slice (some ⟨b9, o9, none⟩) ns.length c] 25)).alloc (.cells #[.int .i64 ux, .int .i64 uy] 39)).alloc (.cells #[.int .i64 0, .slice none 0 0] 25)) wx xi xj xl xn g A3 c3))
      case first =>
        have hS : ∀ w', Ext (((w.alloc (.cells #[.int .i64 v, .slice (some ⟨b9, o9, none⟩) ns.length c] 25)).alloc (.cells #[.int .i64 ux, .int .i64 uy] 39)).alloc (.cells #[.int .i64 0, .slice none 0 0] 25)) w' → w'.cell? ⟨w.heap.size, 0, none⟩ = some (.int .i64 v) ∧ w'.cell? ⟨w.heap.size, 1, none⟩ = some (.slice (some ⟨b9, o9, none⟩) ns.length c) ∧ w'.cell? ⟨w.heap.size + 1, 0, none⟩ = some (.int .i64 ux) ∧ w'.cell? ⟨w.heap.size + 1, 1, none⟩ = some (.int .i64 uy) ∧ w'.cell? ⟨b9, o9 + k * 3, none⟩ = some (.int .i64 yi) ∧ w'.cell? ⟨b9, o9 + k * 3 + 1, none⟩ = some (.slice B1 yl.length d1) ∧ w'.cell? ⟨b9, o9 + k * 3 + 2, none⟩ = some (.int .i64 yj) := fun w' hC => ⟨ext_cell hC b_0, ext_cell hC b_1, ext_cell hC u_0, ext_cell hC u_1, ext_cell hC y_0, ext_cell hC y_1, ext_cell hC y_2⟩
        replace hS := hide hS
        have hEd := hide (show Ext (((w.alloc (.cells #[.int .i64 v, .slice (some ⟨b9, o9, none⟩) ns.length c] 25)).alloc (.cells #[.int .i64 ux, .int .i64 uy] 39)).alloc (.cells #[.int .i64 0, .slice none 0 0] 25)) (((w.alloc (.cells #[.int .i64 v, .slice (some ⟨b9, o9, none⟩) ns.length c] 25)).alloc (.cells #[.int .i64 ux, .int .i64 uy] 39)).alloc (.cells #[.int .i64 0, .slice none 0 0] 25)).drew from ext_drew (ext_refl _))
        have hEa := hide (show Ext (((w.alloc (.cells #[.int .i64 v, .slice (some ⟨b9, o9, none⟩) ns.length c] 25)).alloc (.cells #[.int .i64 ux, .int .i64 uy] 39)).alloc (.cells #[.int .i64 0, .slice none 0 0] 25)) ((((w.alloc (.cells #[.int .i64 v, .slice (some ⟨b9, o9, none⟩) ns.length c] 25)).alloc (.cells #[.int .i64 ux, .int .i64 uy] 39)).alloc (.cells #[.int .i64 0, .slice none 0 0] 25)).alloc (.cells #[.int .i64 0, .slice none 0 0, .int .i64 0] 36)).drew from ext_drew (ext_alloc (ext_refl _) _))
        have bNa := hide (show Blk ((((w.alloc (.cells #[.int .i64 v, .slice (some ⟨b9, o9, none⟩) ns.length c] 25)).alloc (.cells #[.int .i64 ux, .int .i64 uy] 39)).alloc (.cells #[.int .i64 0, .slice none 0 0] 25)).alloc (.cells #[.int .i64 0, .slice none 0 0, .int .i64 0] 36)).drew (w.heap.size + 1 + 1 + 1) 36 #[.int .i64 0, .slice none 0 0, .int .i64 0] from Blk.newAt (((w.alloc (.cells #[.int .i64 v, .slice (some ⟨b9, o9, none⟩) ns.length c] 25)).alloc (.cells #[.int .i64 ux, .int .i64 uy] 39)).alloc (.cells #[.int .i64 0, .slice none 0 0] 25)) 36 #[.int .i64 0, .slice none 0 0, .int .i64 0] (g := w.heap.size + 1 + 1 + 1) (by first | rfl | simp))
        have hge : ((((w.alloc (.cells #[.int .i64 v, .slice (some ⟨b9, o9, none⟩) ns.length c] 25)).alloc (.cells #[.int .i64 ux, .int .i64 uy] 39)).alloc (.cells #[.int .i64 0, .slice none 0 0] 25))).heap.size ≤ w.heap.size + 1 + 1 + 1 := by first | exact Nat.le_refl _ | simp
        have bN : True := trivial
        go_region_held3 (fun w' => w'.cell? ⟨w.heap.size, 0, none⟩ = some (.int .i64 v) ∧ w'.cell? ⟨w.heap.size, 1, none⟩ = some (.slice (some ⟨b9, o9, none⟩) ns.length c) ∧ w'.cell? ⟨w.heap.size + 1, 0, none⟩ = some (.int .i64 ux) ∧ w'.cell? ⟨w.heap.size + 1, 1, none⟩ = some (.int .i64 uy) ∧ w'.cell? ⟨b9, o9 + k * 3, none⟩ = some (.int .i64 yi) ∧ w'.cell? ⟨b9, o9 + k * 3 + 1, none⟩ = some (.slice B1 yl.length d1) ∧ w'.cell? ⟨b9, o9 + k * 3 + 2, none⟩ = some (.int .i64 yj))
          (first | with_reducible exact hS.out _ (((hF1.setCell (p := ⟨w.heap.size + 1 + 1 + 1, 0, none⟩) hge _).setCell (p := ⟨w.heap.size + 1 + 1 + 1, 1, none⟩) hge _).setCell (p := ⟨w.heap.size + 1 + 1 + 1, 2, none⟩) hge _) | with_reducible exact hS.out _ hF1 | with_reducible exact hS.out _ (ext_alloc hF1 _) | with_reducible exact hS.out _ hEd.out | with_reducible exact hS.out _ hEa.out | with_reducible exact hS.out _ (ext_alloc hEd.out _) | go_keep)
          (first
            | ((go_at_call 72; with_reducible refine (hP.out (((w.alloc (.cells #[.int .i64 v, .slice (some ⟨b9, o9, none⟩) ns.length c] 25)).alloc (.cells #[.int .i64 ux, .int .i64 uy] 39)).alloc (.cells #[.int .i64 0, .slice none 0 0] 25)).drew (LogR.ext hB1.out hEd.out)).mono ?_; intro e u1 hG0; obtain ⟨A5, c5, rfl, hR, hG⟩ := takenIn hG0 hxs.out; clear hG0; have hF1 := ext_trans hEd.out hG; clear hG))
            | ((go_at_call 72; with_reducible refine (hP.out ((((w.alloc (.cells #[.int .i64 v, .slice (some ⟨b9, o9, none⟩) ns.length c] 25)).alloc (.cells #[.int .i64 ux, .int .i64 uy] 39)).alloc (.cells #[.int .i64 0, .slice none 0 0] 25)).alloc (.cells #[.int .i64 0, .slice none 0 0, .int .i64 0] 36)).drew (LogR.ext hB1.out hEa.out)).mono ?_; intro e u1 hG0; obtain ⟨A5, c5, rfl, hR, hG⟩ := takenIn hG0 hxs.out; clear hG0; have lN := Blk.lt bNa.out; have bN := bNa.out.ext hG; have hF1 := ext_trans hEa.out hG; clear hG; have bM := Blk.at3f bN; obtain ⟨n_0, n_1, n_2, n_lt, n_f0, n_f1, n_f2⟩ := bM)) | fail)
        all_goals go_wp2_with fail
        all_goals go_meet
        all_goals exact ⟨_, A5, c5, rfl, rfl, hide (by first | with_reducible exact made_last hEd.out hF1 hR.out | with_reducible exact made_in hF1 hge bN lN hR.out)⟩
      case rest =>
        obtain ⟨g, A3, c3, rfl, rfl, hEn⟩ := hcut
        obtain ⟨hF, G, hgeG, loG, hiG, hL3, hloG, hhiG, hglG⟩ := hEn.out
        clear hEn hxs
        have sz3 := hF.size
        have gG := G.lt
        have hgeG0 := hgeG
        rename World => w3
        replace G := hide G
        have hF0 := hide hF
        replace h := hide (h.out.ext hF)
        replace b := hide (b.out.ext hF)
        replace r := hide (r.out.ext hF)
        try clear b_0 b_1 b_lt
        obtain ⟨b_0, b_1, b_lt⟩ := b.out.at2
        try clear r_0 r_1 r_lt r_f0 r_f1
        obtain ⟨r_0, r_1, r_lt, r_f0, r_f1⟩ := r.out.at2f
        replace hE := hide (ext_trans hE.out hF)
        clear hF
        try clear G_0 G_1 G_2 G_lt G_f0 G_f1 G_f2
        obtain ⟨G_0, G_1, G_2, G_lt, G_f0, G_f1, G_f2⟩ := G.out.at3f
        try simp only [World.size_alloc] at sz3 hgeG hloG
        replace hxi := hxi.out
        replace hxj := hxj.out
        replace hxn := hxn.out
        subst hxi hxj hxn
        try clear G_0 G_1 G_2 G_lt G_f0 G_f1 G_f2
        obtain ⟨G_0, G_1, G_2, G_lt, G_f0, G_f1, G_f2⟩ := G.out.at3f
        have hE3 := hide hE.out

        have G' := hide (G.out.set32 (.int .i64 (m : Int)))
        have hEw := hide (hE.out.setCell (p := ⟨g, 2, none⟩) (show w.heap.size ≤ g by omega) (.int .i64 (m : Int)))
        have ht9 : Turned g (g + 1) w3 (w3.setCell ⟨g, 2, none⟩ (.int .i64 (m : Int))) := Turned.set (p := ⟨g, 2, none⟩) (Nat.le_refl _) (Nat.lt_succ_self _) _
        have hl9 := hide (LogIn.turned hL3.out ht9 (by omega))
        have hb9 := hide (b.out.turned ht9 (by omega))
        have hr9 := hide (r.out.turned ht9 (by omega))
        have hn9 := hide (hN0.out.ext (hF0.out.setCell (p := ⟨g, 2, none⟩) hgeG0 (.int .i64 (m : Int))))
        have hz9 : (w3.setCell ⟨g, 2, none⟩ (.int .i64 (m : Int))).heap.size = w3.heap.size := by simp
        try clear hb9_0 hb9_1 hb9_lt
        obtain ⟨hb9_0, hb9_1, hb9_lt⟩ := hb9.out.at2
        try clear hr9_0 hr9_1 hr9_lt hr9_f0 hr9_f1
        obtain ⟨hr9_0, hr9_1, hr9_lt, hr9_f0, hr9_f1⟩ := hr9.out.at2f
        try clear G'_0 G'_1 G'_2 G'_lt G'_f0 G'_f1 G'_f2
        obtain ⟨G'_0, G'_1, G'_2, G'_lt, G'_f0, G'_f1, G'_f2⟩ := G'.out.at3f
        clear G_0 G_1 G_2 G_f0 G_f1 G_f2
        try clear G_0 G_1 G_2 G_lt G_f0 G_f1 G_f2
        obtain ⟨G_0, G_1, G_2, G_lt, G_f0, G_f1, G_f2⟩ := G.out.at3f
        go_wp2_with fail
        clear G_0 G_1 G_2 G_lt G_f0 G_f1 G_f2 b_0 b_1 b_lt r_0 r_1 r_lt r_f0 r_f1 hb9_0 hb9_1 hb9_lt hr9_0 hr9_1 hr9_lt hr9_f0 hr9_f1 G'_0 G'_1 G'_2 G'_lt G'_f0 G'_f1 G'_f2 ht9
        clear G hE hL3 b r h hF0 hE3

        have G := G'
        have hE := hEw
        have hL3 := hl9
        have b := hb9
        have r := hr9
        have h := hn9
        clear G' hEw hl9 hb9 hr9 hn9
        generalize w3.setCell ⟨g, 2, none⟩ (.int .i64 (m : Int)) = w4 at G hE hL3 b r h hz9 ⊢

        refine (l4Copy_any c v h.out hb).mono ?_
        intro e w5 hG
        obtain ⟨A2, c2, rfl, -, -, hP2, hF⟩ := hG.use
        obtain ⟨gA, rfl, hgl, hgh, hgs⟩ := hP2.out.addr (by omega)
        clear hG
        have hz5 := hF.size
        replace hL3 := hide (hL3.out.ext hF)
        replace b := hide (b.out.ext hF)
        replace r := hide (r.out.ext hF)
        replace G := hide (G.out.ext hF)
        try clear b_0 b_1 b_lt
        obtain ⟨b_0, b_1, b_lt⟩ := b.out.at2
        try clear r_0 r_1 r_lt r_f0 r_f1
        obtain ⟨r_0, r_1, r_lt, r_f0, r_f1⟩ := r.out.at2f
        try clear G_0 G_1 G_2 G_lt G_f0 G_f1 G_f2
        obtain ⟨G_0, G_1, G_2, G_lt, G_f0, G_f1, G_f2⟩ := G.out.at3f
        replace hE := hide (ext_trans hE.out hF)
        clear hF
        have Q := hide (Blk.newAt (w5) 25 #[.int .i64 v, .slice (some ⟨gA, 0, none⟩) ns.length c2] (g := (w5).heap.size) (by simp))
        replace hP2 := hide (hP2.out.ext (ext_alloc (ext_refl (w5)) (.cells #[.int .i64 v, .slice (some ⟨gA, 0, none⟩) ns.length c2] 25)))
        replace hL3 := hide (hL3.out.ext (ext_alloc (ext_refl (w5)) (.cells #[.int .i64 v, .slice (some ⟨gA, 0, none⟩) ns.length c2] 25)))
        replace r := hide (r.out.ext (ext_alloc (ext_refl (w5)) (.cells #[.int .i64 v, .slice (some ⟨gA, 0, none⟩) ns.length c2] 25)))
        replace b := hide (b.out.ext (ext_alloc (ext_refl (w5)) (.cells #[.int .i64 v, .slice (some ⟨gA, 0, none⟩) ns.length c2] 25)))
        replace G := hide (G.out.ext (ext_alloc (ext_refl (w5)) (.cells #[.int .i64 v, .slice (some ⟨gA, 0, none⟩) ns.length c2] 25)))
        replace hE := hide (ext_alloc hE.out (.cells #[.int .i64 v, .slice (some ⟨gA, 0, none⟩) ns.length c2] 25))
        have hz6 : w5.heap.size ≤ (w5.alloc (.cells #[.int .i64 v, .slice (some ⟨gA, 0, none⟩) ns.length c2] 25)).heap.size := by simp
        clear b_0 b_1 b_lt r_0 r_1 r_lt r_f0 r_f1 G_0 G_1 G_2 G_lt G_f0 G_f1 G_f2
        try clear b_0 b_1 b_lt
        obtain ⟨b_0, b_1, b_lt⟩ := b.out.at2
        try clear r_0 r_1 r_lt r_f0 r_f1
        obtain ⟨r_0, r_1, r_lt, r_f0, r_f1⟩ := r.out.at2f
        try clear G_0 G_1 G_2 G_lt G_f0 G_f1 G_f2
        obtain ⟨G_0, G_1, G_2, G_lt, G_f0, G_f1, G_f2⟩ := G.out.at3f

        go_upto_region 7 with fail
        clear b_0 b_1 b_lt r_0 r_1 r_lt r_f0 r_f1 G_0 G_1 G_2 G_lt G_f0 G_f1 G_f2
        generalize w5.alloc (.cells #[.int .i64 v, .slice (some ⟨gA, 0, none⟩) ns.length c2] 25) = w6 at hP2 hL3 r b G Q hE hz6 ⊢
        obtain ⟨⟨u5, hu5⟩, hf5⟩ := hP2.out.cellsAt (j := k * 3) (by omega)
        obtain ⟨⟨u6, hu6⟩, hf6⟩ := hP2.out.cellsAt (j := k * 3 + 1) (by omega)
        obtain ⟨⟨u7, hu7⟩, hf7⟩ := hP2.out.cellsAt (j := k * 3 + 2) (by omega)
        have hq9 : w5.heap.size ≠ gA := by omega
        have hr9 : w.heap.size + 1 + 1 ≠ gA := by omega
        have hP3 := hide (hP2.out.putNode (i := k) (y := yi) (z := (m : Int)) hy.out hL3.out (by omega) (show w.heap.size ≤ _ by omega) (show w.heap.size ≤ _ by omega) (show _ ≤ w6.heap.size by omega) (by omega) (by omega))
        have Q3 := hide (((Q.out.far (p := ⟨gA, k * 3, none⟩) hq9 (.int .i64 yi)).far (p := ⟨gA, k * 3 + 1, none⟩) hq9 (.slice A3 m c3)).far (p := ⟨gA, k * 3 + 2, none⟩) hq9 (.int .i64 (m : Int)))
        have r3 := hide (((r.out.far (p := ⟨gA, k * 3, none⟩) hr9 (.int .i64 yi)).far (p := ⟨gA, k * 3 + 1, none⟩) hr9 (.slice A3 m c3)).far (p := ⟨gA, k * 3 + 2, none⟩) hr9 (.int .i64 (m : Int)))
        have hE4 := hide (((hE.out.setCell (p := ⟨gA, k * 3, none⟩) (show w.heap.size ≤ gA by omega) (.int .i64 yi)).setCell (p := ⟨gA, k * 3 + 1, none⟩) (show w.heap.size ≤ gA by omega) (.slice A3 m c3)).setCell (p := ⟨gA, k * 3 + 2, none⟩) (show w.heap.size ≤ gA by omega) (.int .i64 (m : Int)))
        have hxl2 : xl.length = m := by rw [← hxl.out, hm.out]; simp
        rw [hxl2] at hP3
        replace hxl2 := hide hxl2
        try clear Q_0 Q_1 Q_lt Q_f0 Q_f1
        obtain ⟨Q_0, Q_1, Q_lt, Q_f0, Q_f1⟩ := Q.out.at2f
        try clear r_0 r_1 r_lt r_f0 r_f1
        obtain ⟨r_0, r_1, r_lt, r_f0, r_f1⟩ := r.out.at2f
        try clear G_0 G_1 G_2 G_lt G_f0 G_f1 G_f2
        obtain ⟨G_0, G_1, G_2, G_lt, G_f0, G_f1, G_f2⟩ := G.out.at3f
        try clear Q3_0 Q3_1 Q3_lt Q3_f0 Q3_f1
        obtain ⟨Q3_0, Q3_1, Q3_lt, Q3_f0, Q3_f1⟩ := Q3.out.at2f
        try clear r3_0 r3_1 r3_lt r3_f0 r3_f1
        obtain ⟨r3_0, r3_1, r3_lt, r3_f0, r3_f1⟩ := r3.out.at2f
        go_wp2_with fail
        refine bodyPost_ret (v := .tuple #[.agg #[.int .i64 v, .slice (some ⟨gA, 0, none⟩) ns.length c2], .bool true]) (by simp [results, Try.results44, go_sem, r3_0, r3_1]) rfl ?_
        exact gotChB_of e1.out (by rw [e2.out]; unfold grown; rw [← hxl.out]; rw [if_pos (by have := hlast.out; omega)]; simp [hm.out]) e3.out (by simp) ((hP3.out.handed r3.out _ _).wide (Nat.le_refl _) (by simp [World.setCell])) ((hE4.out.setCell (show w.heap.size ≤ w.heap.size + 1 + 1 by omega) _).setCell (show w.heap.size ≤ w.heap.size + 1 + 1 by omega) _)
    · have hi1 : (k : Int) < (ns.length : Int) := by omega
      have hi0 : (0 : Int) ≤ (k : Int) := by omega

      obtain ⟨k1, hk1⟩ : ∃ k1, k1 = k + 1 := ⟨_, rfl⟩
      have hw1 : IntKind.i64.wrap ((k : Int) + 1) = (k1 : Int) := by rw [show ((k : Int) + 1) = (k1 : Int) by omega]; exact IntWalk.i64_in _ (by omega)
      have hd1 : ((k1 : Int) == (ns.length : Int)) = false := by simp; omega
      have hd2 : (k1 == ns.length) = false := by simp; omega
      replace hk1 := hide hk1
      replace hlast := hide hlast
      obtain ⟨xi, hxi⟩ : ∃ x : Int, yi = x := ⟨_, rfl⟩
      obtain ⟨xl, hxl⟩ : ∃ x : List Upd, yl ++ [(ux, uy)] = x := ⟨_, rfl⟩
      obtain ⟨xj, hxj⟩ : ∃ x : Int, yj = x := ⟨_, rfl⟩
      obtain ⟨m, hm⟩ : ∃ m, m = yl.length + 1 := ⟨_, rfl⟩
      obtain ⟨xn, hxn⟩ : ∃ n, m = n := ⟨_, rfl⟩
      have hxs : xl.length = xn := by rw [← hxl, ← hxn, hm]; simp
      have hP : ∀ w', LogR w' B1 yl → Calls Alt.prog 72 #[.agg #[.int .i64 yi, .slice B1 yl.length d1, .int .i64 yj], .agg #[.int .i64 ux, .int .i64 uy]] w' (GotNodeB w' ⟨xi, xl, xj⟩ true) := fun w' h => by
        have e1 : ndTake ⟨yi, yl, yj⟩ (ux, uy) = ⟨xi, xl, xj⟩ := by rw [ndTake_yes ht, ← hxi, ← hxl, ← hxj]
        have e2 := specNodeTake_any d1 yi yj ux uy h hm1
        rw [e1, ht] at e2
        exact e2
      replace hP := hide hP
      replace hxs := hide hxs
      replace hxi := hide hxi
      replace hxl := hide hxl
      replace hxj := hide hxj
      replace hxn := hide hxn
      replace hm := hide hm
      replace hy := hide hy

      go_enter Alt.func44, Try.ntmps44
      have hN0 := hide h.out
      go_upto_region 1 with fail
      go_cut [8, 9] (fun s8 s9 wx => ∃ (g : Nat) (A3 : Option Addr) (c3 : Nat), s8 = .pointer (some ⟨g, 0, none⟩) ∧ s9 = .bool true ∧ Hid (Made (((w.alloc (.cells #[.int .i64 v, .slice (some ⟨b9, o9, none⟩) ns.length c] 25)).alloc (.cells #[.int .i64 ux, .int .i64 uy] 39)).alloc (.cells #[.int .i64 0, .slice none 0 0] 25)) wx xi xj xl xn g A3 c3))
      case first =>
        have hS : ∀ w', Ext (((w.alloc (.cells #[.int .i64 v, .slice (some ⟨b9, o9, none⟩) ns.length c] 25)).alloc (.cells #[.int .i64 ux, .int .i64 uy] 39)).alloc (.cells #[.int .i64 0, .slice none 0 0] 25)) w' → w'.cell? ⟨w.heap.size, 0, none⟩ = some (.int .i64 v) ∧ w'.cell? ⟨w.heap.size, 1, none⟩ = some (.slice (some ⟨b9, o9, none⟩) ns.length c) ∧ w'.cell? ⟨w.heap.size + 1, 0, none⟩ = some (.int .i64 ux) ∧ w'.cell? ⟨w.heap.size + 1, 1, none⟩ = some (.int .i64 uy) ∧ w'.cell? ⟨b9, o9 + k * 3, none⟩ = some (.int .i64 yi) ∧ w'.cell? ⟨b9, o9 + k * 3 + 1, none⟩ = some (.slice B1 yl.length d1) ∧ w'.cell? ⟨b9, o9 + k * 3 + 2, none⟩ = some (.int .i64 yj) := fun w' hC => ⟨ext_cell hC b_0, ext_cell hC b_1, ext_cell hC u_0, ext_cell hC u_1, ext_cell hC y_0, ext_cell hC y_1, ext_cell hC y_2⟩
        replace hS := hide hS
        have hEd := hide (show Ext (((w.alloc (.cells #[.int .i64 v, .slice (some ⟨b9, o9, none⟩) ns.length c] 25)).alloc (.cells #[.int .i64 ux, .int .i64 uy] 39)).alloc (.cells #[.int .i64 0, .slice none 0 0] 25)) (((w.alloc (.cells #[.int .i64 v, .slice (some ⟨b9, o9, none⟩) ns.length c] 25)).alloc (.cells #[.int .i64 ux, .int .i64 uy] 39)).alloc (.cells #[.int .i64 0, .slice none 0 0] 25)).drew from ext_drew (ext_refl _))
        have hEa := hide (show Ext (((w.alloc (.cells #[.int .i64 v, .slice (some ⟨b9, o9, none⟩) ns.length c] 25)).alloc (.cells #[.int .i64 ux, .int .i64 uy] 39)).alloc (.cells #[.int .i64 0, .slice none 0 0] 25)) ((((w.alloc (.cells #[.int .i64 v, .slice (some ⟨b9, o9, none⟩) ns.length c] 25)).alloc (.cells #[.int .i64 ux, .int .i64 uy] 39)).alloc (.cells #[.int .i64 0, .slice none 0 0] 25)).alloc (.cells #[.int .i64 0, .slice none 0 0, .int .i64 0] 36)).drew from ext_drew (ext_alloc (ext_refl _) _))
        have bNa := hide (show Blk ((((w.alloc (.cells #[.int .i64 v, .slice (some ⟨b9, o9, none⟩) ns.length c] 25)).alloc (.cells #[.int .i64 ux, .int .i64 uy] 39)).alloc (.cells #[.int .i64 0, .slice none 0 0] 25)).alloc (.cells #[.int .i64 0, .slice none 0 0, .int .i64 0] 36)).drew (w.heap.size + 1 + 1 + 1) 36 #[.int .i64 0, .slice none 0 0, .int .i64 0] from Blk.newAt (((w.alloc (.cells #[.int .i64 v, .slice (some ⟨b9, o9, none⟩) ns.length c] 25)).alloc (.cells #[.int .i64 ux, .int .i64 uy] 39)).alloc (.cells #[.int .i64 0, .slice none 0 0] 25)) 36 #[.int .i64 0, .slice none 0 0, .int .i64 0] (g := w.heap.size + 1 + 1 + 1) (by first | rfl | simp))
        have hge : ((((w.alloc (.cells #[.int .i64 v, .slice (some ⟨b9, o9, none⟩) ns.length c] 25)).alloc (.cells #[.int .i64 ux, .int .i64 uy] 39)).alloc (.cells #[.int .i64 0, .slice none 0 0] 25))).heap.size ≤ w.heap.size + 1 + 1 + 1 := by first | exact Nat.le_refl _ | simp
        have bN : True := trivial
        go_region_held3 (fun w' => w'.cell? ⟨w.heap.size, 0, none⟩ = some (.int .i64 v) ∧ w'.cell? ⟨w.heap.size, 1, none⟩ = some (.slice (some ⟨b9, o9, none⟩) ns.length c) ∧ w'.cell? ⟨w.heap.size + 1, 0, none⟩ = some (.int .i64 ux) ∧ w'.cell? ⟨w.heap.size + 1, 1, none⟩ = some (.int .i64 uy) ∧ w'.cell? ⟨b9, o9 + k * 3, none⟩ = some (.int .i64 yi) ∧ w'.cell? ⟨b9, o9 + k * 3 + 1, none⟩ = some (.slice B1 yl.length d1) ∧ w'.cell? ⟨b9, o9 + k * 3 + 2, none⟩ = some (.int .i64 yj))
          (first | with_reducible exact hS.out _ (((hF1.setCell (p := ⟨w.heap.size + 1 + 1 + 1, 0, none⟩) hge _).setCell (p := ⟨w.heap.size + 1 + 1 + 1, 1, none⟩) hge _).setCell (p := ⟨w.heap.size + 1 + 1 + 1, 2, none⟩) hge _) | with_reducible exact hS.out _ hF1 | with_reducible exact hS.out _ (ext_alloc hF1 _) | with_reducible exact hS.out _ hEd.out | with_reducible exact hS.out _ hEa.out | with_reducible exact hS.out _ (ext_alloc hEd.out _) | go_keep)
          (first
            | ((go_at_call 72; with_reducible refine (hP.out (((w.alloc (.cells #[.int .i64 v, .slice (some ⟨b9, o9, none⟩) ns.length c] 25)).alloc (.cells #[.int .i64 ux, .int .i64 uy] 39)).alloc (.cells #[.int .i64 0, .slice none 0 0] 25)).drew (LogR.ext hB1.out hEd.out)).mono ?_; intro e u1 hG0; obtain ⟨A5, c5, rfl, hR, hG⟩ := takenIn hG0 hxs.out; clear hG0; have hF1 := ext_trans hEd.out hG; clear hG))
            | ((go_at_call 72; with_reducible refine (hP.out ((((w.alloc (.cells #[.int .i64 v, .slice (some ⟨b9, o9, none⟩) ns.length c] 25)).alloc (.cells #[.int .i64 ux, .int .i64 uy] 39)).alloc (.cells #[.int .i64 0, .slice none 0 0] 25)).alloc (.cells #[.int .i64 0, .slice none 0 0, .int .i64 0] 36)).drew (LogR.ext hB1.out hEa.out)).mono ?_; intro e u1 hG0; obtain ⟨A5, c5, rfl, hR, hG⟩ := takenIn hG0 hxs.out; clear hG0; have lN := Blk.lt bNa.out; have bN := bNa.out.ext hG; have hF1 := ext_trans hEa.out hG; clear hG; have bM := Blk.at3f bN; obtain ⟨n_0, n_1, n_2, n_lt, n_f0, n_f1, n_f2⟩ := bM)) | fail)
        all_goals go_wp2_with fail
        all_goals go_meet
        all_goals exact ⟨_, A5, c5, rfl, rfl, hide (by first | with_reducible exact made_last hEd.out hF1 hR.out | with_reducible exact made_in hF1 hge bN lN hR.out)⟩
      case rest =>
        obtain ⟨g, A3, c3, rfl, rfl, hEn⟩ := hcut
        obtain ⟨hF, G, hgeG, loG, hiG, hL3, hloG, hhiG, hglG⟩ := hEn.out
        clear hEn hxs
        have sz3 := hF.size
        have gG := G.lt
        have hgeG0 := hgeG
        rename World => w3
        replace G := hide G
        have hF0 := hide hF
        replace h := hide (h.out.ext hF)
        replace b := hide (b.out.ext hF)
        replace r := hide (r.out.ext hF)
        try clear b_0 b_1 b_lt
        obtain ⟨b_0, b_1, b_lt⟩ := b.out.at2
        try clear r_0 r_1 r_lt r_f0 r_f1
        obtain ⟨r_0, r_1, r_lt, r_f0, r_f1⟩ := r.out.at2f
        replace hE := hide (ext_trans hE.out hF)
        clear hF
        try clear G_0 G_1 G_2 G_lt G_f0 G_f1 G_f2
        obtain ⟨G_0, G_1, G_2, G_lt, G_f0, G_f1, G_f2⟩ := G.out.at3f
        try simp only [World.size_alloc] at sz3 hgeG hloG
        replace hxi := hxi.out
        replace hxj := hxj.out
        replace hxn := hxn.out
        subst hxi hxj hxn
        try clear G_0 G_1 G_2 G_lt G_f0 G_f1 G_f2
        obtain ⟨G_0, G_1, G_2, G_lt, G_f0, G_f1, G_f2⟩ := G.out.at3f
        have hE3 := hide hE.out

        go_wp2_with fail
        clear G_0 G_1 G_2 G_lt G_f0 G_f1 G_f2 b_0 b_1 b_lt r_0 r_1 r_lt r_f0 r_f1
        obtain ⟨w4, hw4⟩ : ∃ x, x = w3 := ⟨_, rfl⟩
        have hz9 : w4.heap.size = w3.heap.size := by rw [hw4]
        rw [← hw4] at G hE hL3 b r h
        rw [← hw4]
        clear hw4 hF0 hE3

        refine (l4Copy_any c v h.out hb).mono ?_
        intro e w5 hG
        obtain ⟨A2, c2, rfl, -, -, hP2, hF⟩ := hG.use
        obtain ⟨gA, rfl, hgl, hgh, hgs⟩ := hP2.out.addr (by omega)
        clear hG
        have hz5 := hF.size
        replace hL3 := hide (hL3.out.ext hF)
        replace b := hide (b.out.ext hF)
        replace r := hide (r.out.ext hF)
        replace G := hide (G.out.ext hF)
        try clear b_0 b_1 b_lt
        obtain ⟨b_0, b_1, b_lt⟩ := b.out.at2
        try clear r_0 r_1 r_lt r_f0 r_f1
        obtain ⟨r_0, r_1, r_lt, r_f0, r_f1⟩ := r.out.at2f
        try clear G_0 G_1 G_2 G_lt G_f0 G_f1 G_f2
        obtain ⟨G_0, G_1, G_2, G_lt, G_f0, G_f1, G_f2⟩ := G.out.at3f
        replace hE := hide (ext_trans hE.out hF)
        clear hF
        have Q := hide (Blk.newAt (w5) 25 #[.int .i64 v, .slice (some ⟨gA, 0, none⟩) ns.length c2] (g := (w5).heap.size) (by simp))
        replace hP2 := hide (hP2.out.ext (ext_alloc (ext_refl (w5)) (.cells #[.int .i64 v, .slice (some ⟨gA, 0, none⟩) ns.length c2] 25)))
        replace hL3 := hide (hL3.out.ext (ext_alloc (ext_refl (w5)) (.cells #[.int .i64 v, .slice (some ⟨gA, 0, none⟩) ns.length c2] 25)))
        replace r := hide (r.out.ext (ext_alloc (ext_refl (w5)) (.cells #[.int .i64 v, .slice (some ⟨gA, 0, none⟩) ns.length c2] 25)))
        replace b := hide (b.out.ext (ext_alloc (ext_refl (w5)) (.cells #[.int .i64 v, .slice (some ⟨gA, 0, none⟩) ns.length c2] 25)))
        replace G := hide (G.out.ext (ext_alloc (ext_refl (w5)) (.cells #[.int .i64 v, .slice (some ⟨gA, 0, none⟩) ns.length c2] 25)))
        replace hE := hide (ext_alloc hE.out (.cells #[.int .i64 v, .slice (some ⟨gA, 0, none⟩) ns.length c2] 25))
        have hz6 : w5.heap.size ≤ (w5.alloc (.cells #[.int .i64 v, .slice (some ⟨gA, 0, none⟩) ns.length c2] 25)).heap.size := by simp
        clear b_0 b_1 b_lt r_0 r_1 r_lt r_f0 r_f1 G_0 G_1 G_2 G_lt G_f0 G_f1 G_f2
        try clear b_0 b_1 b_lt
        obtain ⟨b_0, b_1, b_lt⟩ := b.out.at2
        try clear r_0 r_1 r_lt r_f0 r_f1
        obtain ⟨r_0, r_1, r_lt, r_f0, r_f1⟩ := r.out.at2f
        try clear G_0 G_1 G_2 G_lt G_f0 G_f1 G_f2
        obtain ⟨G_0, G_1, G_2, G_lt, G_f0, G_f1, G_f2⟩ := G.out.at3f

        go_upto_region 7 with fail
        clear b_0 b_1 b_lt r_0 r_1 r_lt r_f0 r_f1 G_0 G_1 G_2 G_lt G_f0 G_f1 G_f2
        generalize w5.alloc (.cells #[.int .i64 v, .slice (some ⟨gA, 0, none⟩) ns.length c2] 25) = w6 at hP2 hL3 r b G Q hE hz6 ⊢
        obtain ⟨⟨u5, hu5⟩, hf5⟩ := hP2.out.cellsAt (j := k * 3) (by omega)
        obtain ⟨⟨u6, hu6⟩, hf6⟩ := hP2.out.cellsAt (j := k * 3 + 1) (by omega)
        obtain ⟨⟨u7, hu7⟩, hf7⟩ := hP2.out.cellsAt (j := k * 3 + 2) (by omega)
        have hq9 : w5.heap.size ≠ gA := by omega
        have hr9 : w.heap.size + 1 + 1 ≠ gA := by omega
        have hP3 := hide (hP2.out.putNode (i := k) (y := yi) (z := yj) hy.out hL3.out (by omega) (show w.heap.size ≤ _ by omega) (show w.heap.size ≤ _ by omega) (show _ ≤ w6.heap.size by omega) (by omega) (by omega))
        have Q3 := hide (((Q.out.far (p := ⟨gA, k * 3, none⟩) hq9 (.int .i64 yi)).far (p := ⟨gA, k * 3 + 1, none⟩) hq9 (.slice A3 m c3)).far (p := ⟨gA, k * 3 + 2, none⟩) hq9 (.int .i64 yj))
        have r3 := hide (((r.out.far (p := ⟨gA, k * 3, none⟩) hr9 (.int .i64 yi)).far (p := ⟨gA, k * 3 + 1, none⟩) hr9 (.slice A3 m c3)).far (p := ⟨gA, k * 3 + 2, none⟩) hr9 (.int .i64 yj))
        have hE4 := hide (((hE.out.setCell (p := ⟨gA, k * 3, none⟩) (show w.heap.size ≤ gA by omega) (.int .i64 yi)).setCell (p := ⟨gA, k * 3 + 1, none⟩) (show w.heap.size ≤ gA by omega) (.slice A3 m c3)).setCell (p := ⟨gA, k * 3 + 2, none⟩) (show w.heap.size ≤ gA by omega) (.int .i64 yj))
        have hxl2 : xl.length = m := by rw [← hxl.out, hm.out]; simp
        rw [hxl2] at hP3
        replace hxl2 := hide hxl2
        try clear Q_0 Q_1 Q_lt Q_f0 Q_f1
        obtain ⟨Q_0, Q_1, Q_lt, Q_f0, Q_f1⟩ := Q.out.at2f
        try clear r_0 r_1 r_lt r_f0 r_f1
        obtain ⟨r_0, r_1, r_lt, r_f0, r_f1⟩ := r.out.at2f
        try clear G_0 G_1 G_2 G_lt G_f0 G_f1 G_f2
        obtain ⟨G_0, G_1, G_2, G_lt, G_f0, G_f1, G_f2⟩ := G.out.at3f
        try clear Q3_0 Q3_1 Q3_lt Q3_f0 Q3_f1
        obtain ⟨Q3_0, Q3_1, Q3_lt, Q3_f0, Q3_f1⟩ := Q3.out.at2f
        try clear r3_0 r3_1 r3_lt r3_f0 r3_f1
        obtain ⟨r3_0, r3_1, r3_lt, r3_f0, r3_f1⟩ := r3.out.at2f
        go_wp2_with fail
        refine bodyPost_ret (v := .tuple #[.agg #[.int .i64 v, .slice (some ⟨gA, 0, none⟩) ns.length c2], .bool true]) (by simp [results, Try.results44, go_sem, r3_0, r3_1]) rfl ?_
        exact gotChB_of e1.out (by rw [e2.out]; unfold grown; rw [← hxl.out]; rw [if_neg (by have := hlast.out; omega)]) e3.out (by simp) ((hP3.out.handed r3.out _ _).wide (Nat.le_refl _) (by simp [World.setCell])) ((hE4.out.setCell (show w.heap.size ≤ w.heap.size + 1 + 1 by omega) _).setCell (show w.heap.size ≤ w.heap.size + 1 + 1 by omega) _)
  · replace e1 := hide e1
    replace e2 := hide e2
    replace e3 := hide e3

    obtain ⟨b9, o9, _, _, _, B1, d1, hA, hbl, hy', hld1, hdm1, hB1, y_0, -, -, y_1, y_2⟩ := node_at h.out hkl
    cases hA
    rw [hy] at hy'
    cases hy'
    have hm1 : yl.length ≤ 1048576 := bulk_of hb hy
    replace hB1 := hide hB1
    try clear b_0 b_1 b_lt
    obtain ⟨b_0, b_1, b_lt⟩ := b.out.at2
    try clear u_0 u_1 u_lt
    obtain ⟨u_0, u_1, u_lt⟩ := u.out.at2

    have hi1 : (k : Int) < (ns.length : Int) := by omega
    have hi0 : (0 : Int) ≤ (k : Int) := by omega

    obtain ⟨k1, hk1⟩ : ∃ k1, k1 = k + 1 := ⟨_, rfl⟩
    have hw1 : IntKind.i64.wrap ((k : Int) + 1) = (k1 : Int) := by rw [show ((k : Int) + 1) = (k1 : Int) by omega]; exact IntWalk.i64_in _ (by omega)
    replace hk1 := hide hk1
    obtain ⟨xi, hxi⟩ : ∃ x : Int, 0 = x := ⟨_, rfl⟩
    obtain ⟨xl, hxl⟩ : ∃ x : List Upd, [] = x := ⟨_, rfl⟩
    obtain ⟨xj, hxj⟩ : ∃ x : Int, 0 = x := ⟨_, rfl⟩
    obtain ⟨xn, hxn⟩ : ∃ n, 0 = n := ⟨_, rfl⟩
    have hxs : xl.length = xn := by rw [← hxl, ← hxn]; rfl
    have hP : ∀ w', LogR w' B1 yl → Calls Alt.prog 72 #[.agg #[.int .i64 yi, .slice B1 yl.length d1, .int .i64 yj], .agg #[.int .i64 ux, .int .i64 uy]] w' (GotNodeB w' ⟨xi, xl, xj⟩ false) := fun w' h => by
      have e1 : ndTake ⟨yi, yl, yj⟩ (ux, uy) = ⟨xi, xl, xj⟩ := by rw [ndTake_no ht, ← hxi, ← hxl, ← hxj]; rfl
      have e2 := specNodeTake_any d1 yi yj ux uy h hm1
      rw [e1, ht] at e2
      exact e2
    replace hP := hide hP
    replace hxs := hide hxs
    replace hxi := hide hxi
    replace hxl := hide hxl
    replace hxj := hide hxj
    replace hxn := hide hxn
    replace hy := hide hy

    go_enter Alt.func44, Try.ntmps44
    go_upto_region 1 with fail
    go_cut [8, 9] (fun s8 s9 wx => ∃ (g : Nat) (A3 : Option Addr) (c3 : Nat), s8 = .pointer (some ⟨g, 0, none⟩) ∧ s9 = .bool false ∧ Hid (Made (((w.alloc (.cells #[.int .i64 v, .slice (some ⟨b9, o9, none⟩) ns.length c] 25)).alloc (.cells #[.int .i64 ux, .int .i64 uy] 39)).alloc (.cells #[.int .i64 0, .slice none 0 0] 25)) wx xi xj xl xn g A3 c3))
    case first =>
      have hS : ∀ w', Ext (((w.alloc (.cells #[.int .i64 v, .slice (some ⟨b9, o9, none⟩) ns.length c] 25)).alloc (.cells #[.int .i64 ux, .int .i64 uy] 39)).alloc (.cells #[.int .i64 0, .slice none 0 0] 25)) w' → w'.cell? ⟨w.heap.size, 0, none⟩ = some (.int .i64 v) ∧ w'.cell? ⟨w.heap.size, 1, none⟩ = some (.slice (some ⟨b9, o9, none⟩) ns.length c) ∧ w'.cell? ⟨w.heap.size + 1, 0, none⟩ = some (.int .i64 ux) ∧ w'.cell? ⟨w.heap.size + 1, 1, none⟩ = some (.int .i64 uy) ∧ w'.cell? ⟨b9, o9 + k * 3, none⟩ = some (.int .i64 yi) ∧ w'.cell? ⟨b9, o9 + k * 3 + 1, none⟩ = some (.slice B1 yl.length d1) ∧ w'.cell? ⟨b9, o9 + k * 3 + 2, none⟩ = some (.int .i64 yj) := fun w' hC => ⟨ext_cell hC b_0, ext_cell hC b_1, ext_cell hC u_0, ext_cell hC u_1, ext_cell hC y_0, ext_cell hC y_1, ext_cell hC y_2⟩
      replace hS := hide hS
      have hEd := hide (show Ext (((w.alloc (.cells #[.int .i64 v, .slice (some ⟨b9, o9, none⟩) ns.length c] 25)).alloc (.cells #[.int .i64 ux, .int .i64 uy] 39)).alloc (.cells #[.int .i64 0, .slice none 0 0] 25)) (((w.alloc (.cells #[.int .i64 v, .slice (some ⟨b9, o9, none⟩) ns.length c] 25)).alloc (.cells #[.int .i64 ux, .int .i64 uy] 39)).alloc (.cells #[.int .i64 0, .slice none 0 0] 25)).drew from ext_drew (ext_refl _))
      have hEa := hide (show Ext (((w.alloc (.cells #[.int .i64 v, .slice (some ⟨b9, o9, none⟩) ns.length c] 25)).alloc (.cells #[.int .i64 ux, .int .i64 uy] 39)).alloc (.cells #[.int .i64 0, .slice none 0 0] 25)) ((((w.alloc (.cells #[.int .i64 v, .slice (some ⟨b9, o9, none⟩) ns.length c] 25)).alloc (.cells #[.int .i64 ux, .int .i64 uy] 39)).alloc (.cells #[.int .i64 0, .slice none 0 0] 25)).alloc (.cells #[.int .i64 0, .slice none 0 0, .int .i64 0] 36)).drew from ext_drew (ext_alloc (ext_refl _) _))
      have bNa := hide (show Blk ((((w.alloc (.cells #[.int .i64 v, .slice (some ⟨b9, o9, none⟩) ns.length c] 25)).alloc (.cells #[.int .i64 ux, .int .i64 uy] 39)).alloc (.cells #[.int .i64 0, .slice none 0 0] 25)).alloc (.cells #[.int .i64 0, .slice none 0 0, .int .i64 0] 36)).drew (w.heap.size + 1 + 1 + 1) 36 #[.int .i64 0, .slice none 0 0, .int .i64 0] from Blk.newAt (((w.alloc (.cells #[.int .i64 v, .slice (some ⟨b9, o9, none⟩) ns.length c] 25)).alloc (.cells #[.int .i64 ux, .int .i64 uy] 39)).alloc (.cells #[.int .i64 0, .slice none 0 0] 25)) 36 #[.int .i64 0, .slice none 0 0, .int .i64 0] (g := w.heap.size + 1 + 1 + 1) (by first | rfl | simp))
      have hge : ((((w.alloc (.cells #[.int .i64 v, .slice (some ⟨b9, o9, none⟩) ns.length c] 25)).alloc (.cells #[.int .i64 ux, .int .i64 uy] 39)).alloc (.cells #[.int .i64 0, .slice none 0 0] 25))).heap.size ≤ w.heap.size + 1 + 1 + 1 := by first | exact Nat.le_refl _ | simp
      have bN : True := trivial
      go_region_held3 (fun w' => w'.cell? ⟨w.heap.size, 0, none⟩ = some (.int .i64 v) ∧ w'.cell? ⟨w.heap.size, 1, none⟩ = some (.slice (some ⟨b9, o9, none⟩) ns.length c) ∧ w'.cell? ⟨w.heap.size + 1, 0, none⟩ = some (.int .i64 ux) ∧ w'.cell? ⟨w.heap.size + 1, 1, none⟩ = some (.int .i64 uy) ∧ w'.cell? ⟨b9, o9 + k * 3, none⟩ = some (.int .i64 yi) ∧ w'.cell? ⟨b9, o9 + k * 3 + 1, none⟩ = some (.slice B1 yl.length d1) ∧ w'.cell? ⟨b9, o9 + k * 3 + 2, none⟩ = some (.int .i64 yj))
        (first | with_reducible exact hS.out _ (((hF1.setCell (p := ⟨w.heap.size + 1 + 1 + 1, 0, none⟩) hge _).setCell (p := ⟨w.heap.size + 1 + 1 + 1, 1, none⟩) hge _).setCell (p := ⟨w.heap.size + 1 + 1 + 1, 2, none⟩) hge _) | with_reducible exact hS.out _ hF1 | with_reducible exact hS.out _ (ext_alloc hF1 _) | with_reducible exact hS.out _ hEd.out | with_reducible exact hS.out _ hEa.out | with_reducible exact hS.out _ (ext_alloc hEd.out _) | go_keep)
        (first
          | ((go_at_call 72; with_reducible refine (hP.out (((w.alloc (.cells #[.int .i64 v, .slice (some ⟨b9, o9, none⟩) ns.length c] 25)).alloc (.cells #[.int .i64 ux, .int .i64 uy] 39)).alloc (.cells #[.int .i64 0, .slice none 0 0] 25)).drew (LogR.ext hB1.out hEd.out)).mono ?_; intro e u1 hG0; obtain ⟨A5, c5, rfl, hR, hG⟩ := takenIn hG0 hxs.out; clear hG0; have hF1 := ext_trans hEd.out hG; clear hG))
          | ((go_at_call 72; with_reducible refine (hP.out ((((w.alloc (.cells #[.int .i64 v, .slice (some ⟨b9, o9, none⟩) ns.length c] 25)).alloc (.cells #[.int .i64 ux, .int .i64 uy] 39)).alloc (.cells #[.int .i64 0, .slice none 0 0] 25)).alloc (.cells #[.int .i64 0, .slice none 0 0, .int .i64 0] 36)).drew (LogR.ext hB1.out hEa.out)).mono ?_; intro e u1 hG0; obtain ⟨A5, c5, rfl, hR, hG⟩ := takenIn hG0 hxs.out; clear hG0; have lN := Blk.lt bNa.out; have bN := bNa.out.ext hG; have hF1 := ext_trans hEa.out hG; clear hG; have bM := Blk.at3f bN; obtain ⟨n_0, n_1, n_2, n_lt, n_f0, n_f1, n_f2⟩ := bM)) | fail)
      all_goals go_wp2_with fail
      all_goals go_meet
      all_goals exact ⟨_, A5, c5, rfl, rfl, hide (by first | with_reducible exact made_last hEd.out hF1 hR.out | with_reducible exact made_in hF1 hge bN lN hR.out)⟩
    case rest =>
      obtain ⟨g, A3, c3, rfl, rfl, hEn⟩ := hcut
      obtain ⟨hF, G, hgeG, loG, hiG, hL3, hloG, hhiG, hglG⟩ := hEn.out
      clear hEn hxs
      have sz3 := hF.size
      have gG := G.lt
      have hgeG0 := hgeG
      rename World => w3
      replace G := hide G
      replace h := hide (h.out.ext hF)
      replace b := hide (b.out.ext hF)
      replace r := hide (r.out.ext hF)
      try clear b_0 b_1 b_lt
      obtain ⟨b_0, b_1, b_lt⟩ := b.out.at2
      try clear r_0 r_1 r_lt r_f0 r_f1
      obtain ⟨r_0, r_1, r_lt, r_f0, r_f1⟩ := r.out.at2f
      replace hE := hide (ext_trans hE.out hF)
      clear hF
      try clear G_0 G_1 G_2 G_lt G_f0 G_f1 G_f2
      obtain ⟨G_0, G_1, G_2, G_lt, G_f0, G_f1, G_f2⟩ := G.out.at3f
      try simp only [World.size_alloc] at sz3 hgeG hloG
      go_wp2_with fail
      refine bodyPost_ret (v := .tuple #[.agg #[.int .i64 0, .slice none 0 0], .bool false]) (by simp [results, Try.results44, go_sem, r_0, r_1]) rfl ?_
      exact gotChB_zero e1.out e2.out e3.out ((hE.out.setCell (by show w.heap.size ≤ w.heap.size + 1 + 1; omega) _).setCell (by show w.heap.size ≤ w.heap.size + 1 + 1; omega) _)
end Go.Proofs.YtciekjplhbimdaaZ
