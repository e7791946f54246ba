/-
  Contracts: drawing a chain.
-/
import Derived.Test.YtciekjplhbimdaaZCDraw4
import Derived.Test.YtciekjplhbimdaaZBApp
import Derived.Test.YtciekjplhbimdaaZBNodes
import Derived.Deep.DeepCutAuto
set_option linter.all false
set_option maxRecDepth 100000
namespace Go.Proofs.YtciekjplhbimdaaZ
open Go.RowKit
attribute [local go_sem ↓] Go.wp_at_zero Go.wp_at_succ

/-- A log lies there to be cut from; the block that is handed back stands. -/
def LogDrawn (w : World) (g P : Nat) (AL : Option Addr) (cl : Nat) (log : List Upd) (W : World) : Prop :=
  Blk W w.heap.size 25 #[.int .i64 0, .slice none 0 0] ∧ LogIn W (w.heap.size + 1) W.heap.size AL cl log ∧ w.grownBy W (some g) ∧ RdAt W g P
theorem logDrawn_lit {w W : World} {g P : Nat} {AL : Option Addr} {cl : Nat} {log : List Upd} (hg : g < w.heap.size) (h : LogDrawn w g P AL cl log W) :
    LogDrawn w g P (some ⟨W.heap.size, 0, none⟩) 2 [(1, 5), (2, 6)] (W.alloc (.cells #[.int .i64 1, .int .i64 5, .int .i64 2, .int .i64 6] 39)) := by
  obtain ⟨h1, h2, h3, h4⟩ := h
  have hE : Ext W (W.alloc (.cells #[.int .i64 1, .int .i64 5, .int .i64 2, .int .i64 6] 39)) := ext_alloc (ext_refl W) _
  have h5 := h1.lt
  exact ⟨h1.ext hE, RowIn.wide (RowIn.of (World.ownsRow_lit (base := W.heap.size) (e := 39) (size := 2) W #[.int .i64 1, .int .i64 5, .int .i64 2, .int .i64 6] 2 (Nat.le_refl _) (by simp [maxLen]) rfl)) (show w.heap.size + 1 ≤ W.heap.size by omega) (Nat.le_refl _), only_alloc h3 _, h4.ext hE⟩

theorem logDrawn_ext {w W W' : World} {g P : Nat} {AL : Option Addr} {cl : Nat} {log : List Upd} (h : LogDrawn w g P AL cl log W) (hE : Ext W W') : LogDrawn w g P AL cl log W' :=
  ⟨h.1.ext hE, (h.2.1.ext hE).wide (Nat.le_refl _) hE.size, only_turned h.2.2.1 (Turned.of_ext (lo := W.heap.size) (hi := W.heap.size) hE) h.2.2.1.size, h.2.2.2.ext hE⟩
theorem logDrawn_more {w W : World} {g P P' : Nat} {AL : Option Addr} {cl : Nat} {log : List Upd} (h : LogDrawn w g P AL cl log W) (hP : P ≤ P') : LogDrawn w g P' AL cl log W :=
  ⟨h.1, h.2.1, h.2.2.1, h.2.2.2.more hP⟩
theorem logDrawn_pick {w W W' : World} {g P P' : Nat} {AL : Option Addr} {cl : Nat} {log : List Upd} (hg : g < w.heap.size) (h : LogDrawn w g P AL cl log W) (ho : W.grownBy W' (some g)) (hr : RdAt W' g P') : LogDrawn w g P' AL cl log W' :=
  ⟨h.1.turned (Turned.pick ho) (.inr (by omega)), (h.2.1.turned (Turned.pick ho) (.inr (by omega))).wide (Nat.le_refl _) ho.size, only_pick h.2.2.1 ho, hr⟩

theorem logDrawn_start {w W : World} {g P : Nat} {AL : Option Addr} {cl : Nat} {log : List Upd} (hg : g < w.heap.size) (v : Int) (h : LogDrawn w g P AL cl log W) :
    CD w g P W.heap.size (W.heap.size + 1) v AL cl log none 0 [] [] (W.alloc (.cells #[.int .i64 v, .slice none 0 0] 25)) := by
  have hE : Ext W (W.alloc (.cells #[.int .i64 v, .slice none 0 0] 25)) := ext_alloc (ext_refl W) _
  obtain ⟨h1, h2, h3, h4⟩ := h
  have hl := h1.lt
  exact ⟨h1.ext hE, Blk.new _ _ _, (h2.ext hE).wide (Nat.le_refl _) (by omega), rfl, ⟨World.ownsRow_nil _ _ _ _, fun g hg => by simp [Value.ownBlock] at hg⟩, fun i a n h => by simp at h, Apart.nil, only_alloc h3 _, h4.ext hE, hl, Nat.lt_succ_self _, hg, sane_nil⟩
theorem CD.wide {w W : World} {g P q hi hi' : Nat} {v : Int} {AL A : Option Addr} {cl c : Nat} {log : List Upd} {ns : List Nd} {ss : List Sl} (h : CD w g P q hi v AL cl log A c ns ss W) (hh : hi ≤ hi') : CD w g P q hi' v AL cl log A c ns ss W :=
  ⟨h.back, h.chain, h.log.wide (Nat.le_refl _) hh, h.len, h.row.wide (Nat.le_refl _) hh, h.logs.wide (Nat.le_refl _) hh, h.apart, h.only, h.rd, h.lo, Nat.lt_of_lt_of_le h.qhi hh, h.gw, h.sane⟩
theorem CD.more {w W : World} {g P P' q hi : Nat} {v : Int} {AL A : Option Addr} {cl c : Nat} {log : List Upd} {ns : List Nd} {ss : List Sl} (h : CD w g P q hi v AL cl log A c ns ss W) (hP : P ≤ P') : CD w g P' q hi v AL cl log A c ns ss W :=
  ⟨h.back, h.chain, h.log, h.len, h.row, h.logs, h.apart, h.only, h.rd.more hP, h.lo, h.qhi, h.gw, h.sane⟩
/-- At the head of the loop that makes the nodes. -/
def NodesTo (w : World) (g P q : Nat) (v : Int) (AL : Option Addr) (cl : Nat) (log : List Upd) (k : Nat) (W : World) : Prop :=
  ∃ A c ns ss, ns.length = k ∧ CD w g P q W.heap.size v AL cl log A c ns ss W
theorem nodesTo_push {w W : World} {g P q c : Nat} {v : Int} {AL A : Option Addr} {cl : Nat} {log : List Upd} {ns : List Nd} {n : Nd} {ss : List Sl} {p : Addr} {u : Value} (h : CD w g P q W.heap.size v AL cl log A c (ns ++ [n]) ss (W.setCell p u)) :
    NodesTo w g P q v AL cl log (ns.length + 1) (W.setCell p u) := ⟨A, c, ns ++ [n], ss, by simp, by simpa [World.setCell] using h⟩
theorem CD.cut {w W : World} {g P q hi : Nat} {v : Int} {AL A : Option Addr} {cl c : Nat} {log : List Upd} {ns : List Nd} {ss : List Sl} (h : CD w g P q hi v AL cl log A c ns ss W) (m : Nat) : CellsR W AL (ucells (log.take m)) := by
  have := CellsR.take h.log.log (m * 2)
  rwa [ucells_take] at this
theorem own_le {w : World} {base : Nat} {e : TypeId} {size n c : Nat} {a : Addr} {xs : List Value} (h : w.ownsRow base e size (.slice (some a) n c) n xs) : base ≤ w.heap.size := by
  have := h.lt a.block rfl
  omega
def Picked9 (w : World) (g P : Nat) (e : Ending) (w' : World) : Prop := ∃ x : Int, 0 ≤ x ∧ x < 9 ∧ e = .returned (.int .i64 x) ∧ w.grownBy w' (some g) ∧ RdAt w' g (P + 1)
theorem pick9_any {w : World} {g P : Nat} (h : RdAt w g P) (hP : P ≤ 1073741824) : Calls Alt.prog 34 #[.pointer (some ⟨g, 0, none⟩), .int .i64 9] w (Picked9 w g P) := by
  refine (pick_any 9 h hP).mono ?_
  rintro e w' ⟨x, rfl, hx, -, h1, h2⟩
  obtain ⟨h3, h4⟩ := hx (by omega)
  exact ⟨x, h3, h4, rfl, h1, h2⟩

theorem cut_in {w : World} {base n c : Nat} {A : Option Addr} {l : List Upd} (hl : l.length = n) (h : w.ownsRow base 39 2 (.slice A (0 + n) c) (0 + n) ([] ++ ucells l)) : LogIn w base w.heap.size A c l := by
  subst hl
  rw [Nat.zero_add, List.nil_append] at h
  exact LogIn.of h
theorem size_up {w : World} {n : Nat} {o : Obj} (h : n ≤ w.heap.size) : n ≤ (w.alloc o).heap.size := by simp; omega
theorem log_up {w : World} {lo c : Nat} {A : Option Addr} {l : List Upd} {o : Obj} (h : LogIn w lo w.heap.size A c l) : LogIn (w.alloc o) lo (w.alloc o).heap.size A c l := (h.ext (ext_alloc (ext_refl _) _)).wide (Nat.le_refl _) (by simp)
theorem node_new (w : World) (x y z : Value) : CellsR (w.alloc (.cells #[x, y, z] 36)) (some ⟨w.heap.size, 0, none⟩) [x, y, z] := fun _ => ⟨_, 0, rfl, fun jj u hu => by
  have hB := Blk.newAt w 36 #[x, y, z] (g := w.heap.size) rfl
  match jj, hu with
  | 0, hu => simp at hu; subst hu; simpa using hB.cell 0
  | 1, hu => simp at hu; subst hu; simpa using hB.cell 1
  | 2, hu => simp at hu; subst hu; simpa using hB.cell 2⟩
theorem node_one (x y : Int) (A : Option Addr) (n c : Nat) : ∀ u ∈ ([.int .i64 x, .slice A n c, .int .i64 y] : List Value), u.oneCell' = true := fun u hu => by simp at hu; rcases hu with rfl | rfl | rfl <;> rfl
theorem CD.low {w W W' : World} {g P q hi : Nat} {v : Int} {AL A : Option Addr} {cl c : Nat} {log : List Upd} {ns : List Nd} {ss : List Sl} (h : CD w g P q hi v AL cl log A c ns ss W) (hE : Ext W W') : w.heap.size + 1 ≤ W'.heap.size := by
  have := h.back.lt
  have := hE.size
  omega

def nodesLoad : Op := Op.load 23 (Operand.tmp 37)
theorem nodesLoad_eq : nodesLoad = Op.load 23 (Operand.tmp 37) := rfl
attribute [local go_sem] nodesLoad_eq
theorem CE.more {w W : World} {g P P' q hi c : Nat} {v : Int} {A : Option Addr} {ns : List Nd} (h : CE w g P q hi v A c ns W) (hP : P ≤ P') : CE w g P' q hi v A c ns W :=
  ⟨h.back, h.chain, h.nodes, h.only, h.rd.more hP, h.lo, h.gw, h.hiW⟩
theorem drewC_mk {w W : World} {g P P' q hi c : Nat} {v : Int} {A : Option Addr} {ns : List Nd} {x y : Value} (h : CE w g P' q hi v A c ns W) (hs : Low ns) (h1 : 1 ≤ ns.length) (h5 : ns.length ≤ 5) (hP : P' ≤ P + 90) :
    DrewC w g P (.returned (.agg #[.int .i64 v, .slice A ns.length c])) ((W.setCell ⟨w.heap.size, 0, none⟩ x).setCell ⟨w.heap.size, 1, none⟩ y) := by
  have hg := h.gw
  have ht := Turned.set2 (w := W) w.heap.size x y
  have hsz : ((W.setCell ⟨w.heap.size, 0, none⟩ x).setCell ⟨w.heap.size, 1, none⟩ y).heap.size = W.heap.size := by simp [World.setCell]
  refine ⟨A, c, v, ns, rfl, h1, h5, fun n hn => ?_, (h.nodes.handed h.back x y).wide (Nat.le_refl _) (by rw [hsz]; exact h.hiW), only_turned h.only ht (Nat.le_refl _), (h.rd.turned ht hg).more hP⟩
  obtain ⟨i, hi⟩ := List.getElem?_of_mem hn
  exact hs i n hi
/-- At the head of the loop that lays the dones. -/
def DonesTo (w : World) (g P q : Nat) (v : Int) (gA c n : Nat) (W : World) : Prop :=
  ∃ hi ns, ns.length = n ∧ Sane ns ∧ CE w g P q hi v (some ⟨gA, 0, none⟩) c ns W
set_option maxHeartbeats 6400000 in
theorem l91Chain_any {w : World} {g P : Nat} (h : RdAt w g P) (hP : P ≤ 134217728) : Calls Alt.prog 33 #[.pointer (some ⟨g, 0, none⟩)] w (DrewC w g P) := by
  have hlt := h.lt
  have hB := hide (Blk.new w 25 #[.int .i64 0, .slice none 0 0])
  have hO := hide (only_alloc (World.grownBy.refl w (some g)) (.cells #[.int .i64 0, .slice none 0 0] 25))
  go_enter Alt.func33, Try.ntmps33
  go_wp2_with fail
  refine (l91Log_any (h.ext (ext_alloc (ext_refl _) _)) (by omega)).mono ?_
  rintro e w1 ⟨A1, c1, l1, rfl, hl1, -, hown, hg, hr1⟩
  have hst := hide (show LogDrawn w g (P + 55) A1 c1 l1 w1 from
    ⟨hB.out.grown hg (by simp; omega), LogIn.wide (LogIn.of hown) (by simp) (Nat.le_refl _), only_pick hO.out hg, hr1⟩)
  clear hown hg hr1 hB hO
  go_upto_region 2 with fail
  go_cut [20] (fun s20 wx => ∃ b : Bool, s20 = .bool b ∧ Hid (LogDrawn w g (P + 56) A1 c1 l1 wx))
  case first =>
    go_wp2_with fail
    refine (specLogValid_any c1 hst.out.2.1.log (by omega)).mono ?_
    rintro e w2 ⟨rfl, hF⟩
    have hst2 := hide (logDrawn_ext hst.out hF)
    clear hF
    obtain ⟨bv, hbv⟩ : ∃ b, logOk l1 = b := ⟨_, rfl⟩
    rw [hbv]
    replace hbv := hide hbv
    cases bv with
    | true =>
      go_wp2_with fail
      go_meet
      exact ⟨_, rfl, hide (logDrawn_more hst2.out (Nat.le_succ _))⟩
    | false =>
      go_wp2_with fail
      refine (pick_any 4 hst2.out.2.2.2 (by omega)).mono ?_
      rintro e w3 ⟨x, rfl, hx, -, hg, hr⟩
      have hst3 := hide (logDrawn_pick hlt hst2.out hg hr)
      clear hg hr
      go_wp2_with fail
      go_meet
      exact ⟨_, rfl, hst3⟩
  case rest =>
    obtain ⟨bt, rfl, hst2⟩ := hcut
    go_upto_if 20 with fail
    go_cut [3] (fun s3 wx => ∃ (AL : Option Addr) (cl : Nat) (log : List Upd), s3 = .slice AL log.length cl ∧ log.length ≤ 13 ∧ Hid (LogDrawn w g (P + 56) AL cl log wx))
    case first =>
      cases bt with
      | true =>
        have hst3 := hide (logDrawn_lit hlt hst2.out)
        go_wp2_with fail
        go_meet
        exact ⟨_, _, [(1, 5), (2, 6)], rfl, by decide, hst3⟩
      | false =>
        go_wp2_with fail
        go_meet
        exact ⟨A1, c1, l1, rfl, hl1, hst2⟩
    case rest =>
      obtain ⟨AL, cl, log, rfl, hll, hst3⟩ := hcut
      clear hst hst2
      have hcap := OwnU.cap (w := wc) (l := log) (hst3.out.2.1).1
      unfold maxLen at hcap
      obtain ⟨iU, hiU, zU0, zU1, zU2⟩ := info_parts infoU'
      obtain ⟨iN, hiN, zN0, zN1, zN2⟩ := info_parts infoN
      go_wp2_with fail
      refine (pick_any 9 hst3.out.2.2.2 (by omega)).mono ?_
      rintro e w4 ⟨v, rfl, -, -, hg, hr⟩
      replace hst3 := hide (logDrawn_pick hlt hst3.out hg hr)
      clear hg hr
      have hD := hide (logDrawn_start hlt v hst3.out)
      clear hst3
      go_wp2_with fail
      refine (pick_any 5 hD.out.rd (by omega)).mono ?_
      rintro e w5 ⟨m, rfl, hm, -, hg, hr⟩
      obtain ⟨hm0, hm5⟩ := hm (by omega)
      obtain ⟨mn, rfl⟩ := Int.eq_ofNat_of_zero_le hm0
      have s5 := hg.size
      simp only [World.size_alloc] at s5
      have hst := hide (show NodesTo w g (P + 56 + 1 + 1 + 3 * 0) w4.heap.size v AL cl log 0 w5 from ⟨none, 0, [], [], rfl, (hD.out.pick hg hr).wide s5⟩)
      clear hg hr hm hD
      go_wp2_with fail
      go_loopw [6, 7] (fun hs i wr => ∃ k h : Nat, k ≤ mn + 1 ∧ h ≤ log.length ∧ hs = .int .i64 h ∧ i = .int .i64 k ∧ Hid (NodesTo w g (P + 56 + 1 + 1 + 3 * k) w4.heap.size v AL cl log k wr)) (fun _ i _ => mn + 1 - (intOf i).toNat)
      case atStart => exact ⟨0, log.length, Nat.zero_le _, Nat.le_refl _, rfl, rfl, hst⟩
      case round =>
        obtain ⟨k, h9, hk, hh, rfl, rfl, hT⟩ := hrel
        obtain ⟨A, c, ns, ss, hnk, hCD⟩ := hT.out
        by_cases hlt2 : k < mn + 1
        · replace hCD := hide hCD
          have hcd0 := hide (hCD.out.ext (show Ext wr wr.drew from ext_drew (ext_refl wr)))
          have hcd7 := hide (hCD.out.ext (show Ext wr (wr.alloc (.cells #[] 39)).drew from ext_drew (ext_alloc (ext_refl wr) _)))
          have hown7 := hide (show (wr.alloc (.cells #[] 39)).drew.ownsRow wr.heap.size 39 2 (.slice (some ⟨wr.heap.size, 0, none⟩) 0 0) 0 [] from made_at (w := wr) rfl (Nat.le_refl _))
          obtain ⟨q_0, q_1, q_lt, q_f0, q_f1⟩ := hCD.out.chain.at2f
          have hl9 : (log.take h9).length = h9 := by rw [List.length_take]; omega
          have hl9' : Hid ((ucells (log.take h9)).length = h9 * 2) := hide (by rw [ucells_len, hl9])
          replace hl9 := hide hl9
          have hone : Hid (∀ u ∈ ucells (log.take h9), u.oneCell' = true) := hide (ucells_one _)
          have hcut9 := hide hl9.out
          have hl13 : Hid ((log.take h9).length ≤ 13) := hide (by rw [hl9.out]; omega)
          have hmx : Hid (0 + h9 ≤ maxLen) := hide (by unfold maxLen; omega)
          have hby : Hid ((0 + h9) * 16 ≤ 140737488355328) := hide (by omega)
          have hmx2 : Hid (k + 1 ≤ maxLen) := hide (by unfold maxLen; omega)
          have hby2 : Hid ((k + 1) * 40 ≤ 140737488355328) := hide (by omega)
          have hPP : P + 56 + 1 + 1 + 3 * k ≤ 1073741824 := by omega
          have hw1 : IntKind.i64.wrap (10 * (k : Int)) = 10 * (k : Int) := IntWalk.i64_in _ (by omega)
          have hw2 : IntKind.i64.wrap (10 * (k : Int) + 1) = 10 * (k : Int) + 1 := IntWalk.i64_in _ (by omega)
          have hw3 : ∀ x : Int, 0 ≤ x → x < 9 → IntKind.i64.wrap (10 * (k : Int) + 1 + x) = 10 * (k : Int) + 1 + x := fun x h1 h2 => IntWalk.i64_in _ (by omega)
          have h2 : 0 < 2 := by decide
          have h3 : 0 < 3 := by decide
          have hc1 : (h9 : Int) ≤ (cl : Int) := by omega
          have hc2 : h9 ≤ cl := by omega
          have hc3 : (0 : Int) ≤ (h9 : Int) := by omega
          have hgwr' : g < wr.heap.size := Nat.lt_of_lt_of_le hlt hCD.out.only.size
          have hgwr : g + 1 ≤ wr.heap.size := hgwr'
          subst hnk
          go_wp2_with fail
          go_cut [] (fun wx => Hid (NodesTo w g (P + 56 + 1 + 1 + 3 * ns.length + 1) w4.heap.size v AL cl log (ns.length + 1) wx))
          case first =>
            conv in Code.region 10 _ _ => rw [show Op.load 23 (Operand.tmp 37) = nodesLoad from rfl]
            go_region_held3 (fun w' => w4.heap.size < w'.heap.size)
              (first | with_reducible exact hq9.lt | with_reducible exact hcd7.out.chain.lt | with_reducible exact hcd0.out.chain.lt | with_reducible exact hN9.lt | with_reducible exact (hcd7.out.ext (ext_alloc (ext_refl _) _)).chain.lt | go_keep)
              (first
                | ((go_at_call 34; first
                    | ((with_reducible refine (pick9_any hcd7.out.rd hPP).mono ?_); rintro e wz ⟨x, hx0, hx9, rfl, hg, hr⟩; replace hcd7 := hide (hcd7.out.pick hg hr); obtain ⟨p_0, p_1, p_lt, p_f0, p_f1⟩ := hcd7.out.chain.at2f; have hwx := hw3 x hx0 hx9; (first | (replace hlog8 := hide ((hlog8.out.turned (Turned.pick hg) (.inr hgwr)).wide (Nat.le_refl _) hg.size); replace hsz9 := hide (Nat.le_trans hsz9.out hg.size)) | replace hown7 := hide (own_keep hown7.out hg hgwr')))
                    | ((with_reducible refine (pick9_any hcd0.out.rd hPP).mono ?_); rintro e wz ⟨x, hx0, hx9, rfl, hg, hr⟩; have hwx := hw3 x hx0 hx9; have hq9 := (hcd0.out.pick hg hr).chain; obtain ⟨p_0, p_1, p_lt, p_f0, p_f1⟩ := hq9.at2f; replace hcd7 := hide ((hcd0.out.pick hg hr).ext (ext_alloc (ext_refl wz) (.cells #[] 39))); replace hown7 := hide (made_at (w := wz) (t := 39) (size := 2) (base := wr.heap.size) rfl hg.size))))
                | ((refine step_append_cells rfl (.tmp 45) (.tmp 48) 34 rfl wr.heap.size 39 iU _ 2 16 Alt.underlying34 hiU zU0 zU1 zU2 rfl h2 _ 0 [] rfl hown7.out AL h9 cl (ucells (log.take h9)) rfl hl9'.out (hcd7.out.cut h9) hone.out hmx.out hby.out (own_le hown7.out) ?_; intro v8 wz hv8 hg8 hat8; obtain ⟨A8, c8, rfl, -, -⟩ := own_form hv8; have hlog8 := hide (cut_in hcut9.out hv8); have hsz9 := hide (Nat.le_trans (own_le hown7.out) hg8.size); replace hcd7 := hide (hcd7.out.fresh (Turned.of_row hg8 (fun i hi => ⟨(hown7.out.lt i hi).1, (hown7.out.lt i hi).2⟩)) (Nat.le_refl _)); obtain ⟨t_0, t_1, t_lt, t_f0, t_f1⟩ := hcd7.out.chain.at2f))
                | ((refine step_append_cells rfl (.tmp 38) (.tmp 51) 23 rfl (w.heap.size + 1) 36 iN _ 3 40 Alt.underlying23 hiN zN0 zN1 zN2 rfl h3 _ ns.length (ncells ns ss) rfl (hcd7.out.ext (ext_alloc (ext_refl wz) (.cells #[.int .i64 (10 * (ns.length : Int) + 1 + x), .slice A8 h9 c8, .int .i64 0] 36))).row.1 (some ⟨wz.heap.size, 0, none⟩) 1 1 [.int .i64 (10 * (ns.length : Int) + 1 + x), .slice A8 h9 c8, .int .i64 0] rfl rfl (node_new wz _ _ _) (node_one _ _ _ _ _) hmx2.out hby2.out (hcd7.out.low (ext_alloc (ext_refl wz) _)) ?_; intro v9 w9 hv9 hg9 hat9; obtain ⟨A9, c9, rfl, -, -⟩ := own_form hv9; have hN8 := hide (hcd7.out.ext (ext_alloc (ext_refl wz) (.cells #[.int .i64 (10 * (ns.length : Int) + 1 + x), .slice A8 h9 c8, .int .i64 0] 36))); have hN9 := (hN8.out.kept hg9).2; obtain ⟨y_0, y_1, y_lt, y_f0, y_f1⟩ := hN9.at2f; have hfin := hide (CD.push hN8.out rfl hl13.out (size_up hsz9.out) (log_up hlog8.out) (by rw [hcut9.out]; exact hv9) hg9))))
            all_goals go_wp2_with fail
            all_goals go_meet
            all_goals exact hide (nodesTo_push hfin.out)
          case rest =>
            replace hcut := hcut
            obtain ⟨A, c, ns', ss, hnk, hCD⟩ := hcut.out
            replace hCD := hide hCD
            go_wp2_with fail
            refine (pick2_any hCD.out.rd (by omega)).mono ?_
            rintro e wd ⟨y, hy, rfl, hg, hr⟩
            replace hCD := hide ((hCD.out.pick hg hr).wide hg.size)
            clear hg hr
            by_cases hy0 : y = 0
            · subst hy0
              go_wp2_with fail
              refine (pick_any _ hCD.out.rd (by omega)).mono ?_
              rintro e we ⟨z, rfl, hz, -, hg, hr⟩
              obtain ⟨hz0, hz1⟩ := hz (by omega)
              obtain ⟨zn, rfl⟩ := Int.eq_ofNat_of_zero_le hz0
              replace hCD := hide ((hCD.out.pick hg hr).wide hg.size)
              clear hg hr hz
              have hst' := hide (show NodesTo w g (P + 56 + 1 + 1 + 3 * (ns.length + 1)) w4.heap.size v AL cl log (ns.length + 1) we from ⟨_, _, _, _, hnk, hCD.out.more (by omega)⟩)
              go_wp2_with fail
              go_roundw
              case rel =>
                exact ⟨ns.length + 1, h9 - zn, by omega, by omega, by first | go_num | (simp; omega), by go_num, hst'⟩
              case measure => simp [intOf]; omega
            · have hy1 : (((y : Nat) : Int) == 0) = false := by simp; omega
              have hst' := hide (show NodesTo w g (P + 56 + 1 + 1 + 3 * (ns.length + 1)) w4.heap.size v AL cl log (ns.length + 1) wd from ⟨_, _, _, _, hnk, hCD.out.more (by omega)⟩)
              go_wp2_with fail
              go_roundw
              case rel =>
                exact ⟨ns.length + 1, h9, by omega, by omega, by first | go_num | (simp; omega), by go_num, hst'⟩
              case measure => simp [intOf]; omega
        · obtain rfl : k = mn + 1 := by omega
          have hnn : 0 < ns.length := by omega
          obtain ⟨gA, rfl, -, -, -⟩ := hCD.done (Nat.le_refl _) |>.nodes.addr hnn
          have hst := hide (show DonesTo w g (P + 56 + 1 + 1 + 3 * (mn + 1)) w4.heap.size v gA c (mn + 1) wr from ⟨_, ns, hnk, hCD.sane, hCD.done (Nat.le_refl _)⟩)
          have hCE := hide (hCD.done (Nat.le_refl _))
          have hN := hCE.out.nodes.read
          obtain ⟨b, o, x, l, j, B, d, hA, hbl, hn, hld, hdm, hBr, d0, d1, d2, d1', d2'⟩ := node_at hN (i := mn) (by omega)
          cases hA
          simp only [Nat.zero_add] at d0 d1 d2 d1' d2'
          have hl13 : l.length ≤ 13 := (hCD.sane mn _ hn).1
          obtain ⟨q_0, q_1, q_lt, q_f0, q_f1⟩ := hCE.out.chain.at2f
          replace hnk := hide hnk
          have hn1 : (ns.length : Int) = (mn : Int) + 1 := by have := hnk.out; omega
          have hi4 : (mn : Int) < (ns.length : Int) := by omega
          have hi5 : mn < ns.length := by have := hnk.out; omega
          clear hCD hT hN hBr hn
          have hlm : (ns.length : Int) - 1 = (mn : Int) := by omega
          go_wp2_with fail
          go_loopw [9, 10] (fun ds i wr => ∃ k d : Nat, k ≤ mn + 1 ∧ d ≤ 13 ∧ ds = .int .i64 d ∧ i = .int .i64 ((k : Int) - 1) ∧ Hid (DonesTo w g (P + 56 + 1 + 1 + 3 * (mn + 1) + 2 * (mn + 1 - k)) w4.heap.size v gA c (mn + 1) wr)) (fun _ i _ => (intOf i + 1).toNat)
          case atStart => exact ⟨mn + 1, l.length, Nat.le_refl _, hl13, rfl, by go_num, hide (by simpa using hst.out)⟩
          case round =>
            obtain ⟨k, d9, hk, hd9, rfl, rfl, hT⟩ := hrel
            obtain ⟨hi, ns', hnk', hsane, hCE'⟩ := hT.out
            by_cases hk0 : k = 0
            · subst hk0
              obtain ⟨q_0, q_1, q_lt, q_f0, q_f1⟩ := hCE'.chain.at2f
              replace hCE' := hide hCE'
              have hP9 : P + 56 + 1 + 1 + 3 * (mn + 1) + 2 * (mn + 1 - 0) ≤ P + 88 := by omega
              replace hCE' := hide (hCE'.out.more hP9)
              replace hnk' := hide hnk'
              go_wp2_with fail
              refine (pick_any 40 hCE'.out.rd (by omega)).mono ?_
              rintro e wd ⟨y, rfl, hy, -, hg, hr⟩
              obtain ⟨hy0, hy1⟩ := hy (by omega)
              replace hCE' := hide (hCE'.out.pick hg hr)
              clear hg hr hy q_0 q_1 q_lt q_f0 q_f1
              obtain ⟨q_0, q_1, q_lt, q_f0, q_f1⟩ := hCE'.out.chain.at2f
              obtain ⟨r_0, r_1, r_lt, r_f0, r_f1⟩ := hCE'.out.back.at2f
              obtain ⟨x, l, j, hn⟩ : ∃ x l j, ns'[mn]? = some ⟨x, l, j⟩ := by
                have hh := hnk'.out
                obtain ⟨x, l, j, e⟩ := nd_cases (ns'[mn]'(by omega))
                exact ⟨x, l, j, by rw [List.getElem?_eq_getElem (by omega), e]⟩
              obtain ⟨b, o, x9, l9, j9, B9, e9, hA, hbl, hn9, hld, hdm, hBr, d0, d1, d2, d1', d2'⟩ := node_at hCE'.out.nodes.read (i := mn) (by have := hnk'.out; omega)
              cases hA
              rw [hn] at hn9
              cases hn9
              simp only [Nat.zero_add] at d0 d1 d2 d1' d2'
              have hj9 := hsane mn _ hn
              have hj0 : 0 ≤ j := hj9.2.1
              have hj13 : j ≤ 13 := hj9.2.2
              have hf2 := (hCE'.out.nodes.cellsAt (j := mn * 3 + 2) (by have := hnk'.out; omega)).2
              have hf0 := (hCE'.out.nodes.cellsAt (j := mn * 3) (by have := hnk'.out; omega)).2
              have hz0 : (0 : Int) ≤ (mn : Int) := by omega
              have hz1 : (mn : Int) < (ns'.length : Int) := by have := hnk'.out; omega
              have hz2 : mn < ns'.length := by have := hnk'.out; omega
              replace hn := hide hn
              clear hBr hj9
              by_cases y0 : y = 0
              · subst y0
                have hwr : IntKind.i64.wrap (j - 1) = j - 1 := IntWalk.i64_in _ (by omega)
                go_wp2_with fail
                go_region
                have hCE3 := hide ((hCE'.out.ext (show Ext wd wd.drew from ext_drew (ext_refl wd))).setDone (y := j - 1) hn.out)
                obtain ⟨r_0, r_1, r_lt, r_f0, r_f1⟩ := hCE3.out.back.at2f
                obtain ⟨q_0, q_1, q_lt, q_f0, q_f1⟩ := hCE3.out.chain.at2f
                have hCE4 := hide (show CE w g (P + 88 + 1) w4.heap.size hi v (some ⟨gA, 0, none⟩) c (ns'.set mn ⟨x, l, j - 1⟩) (wd.setCell ⟨gA, mn * 3 + 2, none⟩ (.int .i64 (j - 1))) from ⟨hCE3.out.back, hCE3.out.chain, hCE3.out.nodes, ⟨hCE3.out.only.os, hCE3.out.only.tape, hCE3.out.only.output, hCE3.out.only.size, hCE3.out.only.block⟩, hCE3.out.rd, hCE3.out.lo, hCE3.out.gw, hCE3.out.hiW⟩)
                have hnl : Hid ((ns'.set mn ⟨x, l, j - 1⟩).length = ns'.length) := hide (by simp)
                rw [hnl.out] at q_1
                obtain ⟨r_0', r_1', r_lt', r_f0', r_f1'⟩ := hCE4.out.back.at2f
                obtain ⟨q_0', q_1', q_lt', q_f0', q_f1'⟩ := hCE4.out.chain.at2f
                rw [hnl.out] at q_1'
                go_wp2_with fail
                refine bodyPost_ret (v := .agg #[.int .i64 v, .slice (some ⟨gA, 0, none⟩) ns'.length c]) (by simp [results, Try.results33, go_sem, r_0, r_1, r_lt, r_0', r_1', r_lt']) rfl ?_
                have e9 : ns'.length = (ns'.set mn ⟨x, l, j - 1⟩).length := by simp
                rw [e9]
                exact drewC_mk hCE3.out (Low.set hsane.low (hsane mn _ hn.out).1) (by have := hnk'.out; simp; omega) (by have := hnk'.out; simp; omega) (by omega)
              · have y0' : (y == 0) = false := by simpa using y0
                by_cases y1 : y = 1
                · subst y1
                  obtain ⟨x0, l0, j0, hn0⟩ : ∃ x l j, ns'[0]? = some ⟨x, l, j⟩ := by
                    have hh := hnk'.out
                    obtain ⟨x, l, j, e⟩ := nd_cases (ns'[0]'(by omega))
                    exact ⟨x, l, j, by rw [List.getElem?_eq_getElem (by omega), e]⟩
                  obtain ⟨b0, o0, x8, l8, j8, B8, e8, hA, hbl0, hn8, hld0, hdm0, hBr, f0, f1, f2, f1', f2'⟩ := node_at hCE'.out.nodes.read (i := 0) (by have := hnk'.out; omega)
                  cases hA
                  rw [hn0] at hn8
                  cases hn8
                  simp only [Nat.zero_add, Nat.zero_mul] at f0
                  have hz3 : (0 : Int) < (ns'.length : Int) := by have := hnk'.out; omega
                  have hz4 : 0 < ns'.length := by have := hnk'.out; omega
                  clear hBr f1 f2 f1' f2' hn0
                  go_wp2_with fail
                  go_region
                  have hCE3 := hide ((hCE'.out.ext (show Ext wd wd.drew from ext_drew (ext_refl wd))).setId (y := x0) hn.out)
                  obtain ⟨r_0, r_1, r_lt, r_f0, r_f1⟩ := hCE3.out.back.at2f
                  obtain ⟨q_0, q_1, q_lt, q_f0, q_f1⟩ := hCE3.out.chain.at2f
                  have hCE4 := hide (show CE w g (P + 88 + 1) w4.heap.size hi v (some ⟨gA, 0, none⟩) c (ns'.set mn ⟨x0, l, j⟩) (wd.setCell ⟨gA, mn * 3, none⟩ (.int .i64 x0)) from ⟨hCE3.out.back, hCE3.out.chain, hCE3.out.nodes, ⟨hCE3.out.only.os, hCE3.out.only.tape, hCE3.out.only.output, hCE3.out.only.size, hCE3.out.only.block⟩, hCE3.out.rd, hCE3.out.lo, hCE3.out.gw, hCE3.out.hiW⟩)
                  have hnl : Hid ((ns'.set mn ⟨x0, l, j⟩).length = ns'.length) := hide (by simp)
                  rw [hnl.out] at q_1
                  obtain ⟨r_0', r_1', r_lt', r_f0', r_f1'⟩ := hCE4.out.back.at2f
                  obtain ⟨q_0', q_1', q_lt', q_f0', q_f1'⟩ := hCE4.out.chain.at2f
                  rw [hnl.out] at q_1'
                  go_wp2_with fail
                  refine bodyPost_ret (v := .agg #[.int .i64 v, .slice (some ⟨gA, 0, none⟩) ns'.length c]) (by simp [results, Try.results33, go_sem, r_0, r_1, r_lt, r_0', r_1', r_lt']) rfl ?_
                  have e9 : ns'.length = (ns'.set mn ⟨x0, l, j⟩).length := by simp
                  rw [e9]
                  exact drewC_mk hCE3.out (Low.set hsane.low (hsane mn _ hn.out).1) (by have := hnk'.out; simp; omega) (by have := hnk'.out; simp; omega) (by omega)
                · have y1' : (y == 1) = false := by simpa using y1
                  by_cases y2 : y = 2
                  · subst y2
                    go_wp2_with fail
                    refine (pick_any 3 (hCE'.out.ext (ext_alloc (ext_refl wd) (.cells #[.int .i64 (-1), .int .i64 999, .int .i64 1000] 3))).rd (by omega)).mono ?_
                    rintro e we ⟨z, rfl, hz, -, hg, hr⟩
                    obtain ⟨hz0, hz3⟩ := hz (by omega)
                    have hK := hide ((Blk.new wd 3 #[.int .i64 (-1), .int .i64 999, .int .i64 1000]).grown hg (by simp; have := hCE'.out.gw; have := hCE'.out.back.lt; omega))
                    replace hCE' := hide ((hCE'.out.ext (ext_alloc (ext_refl wd) (.cells #[.int .i64 (-1), .int .i64 999, .int .i64 1000] 3))).pick hg hr)
                    clear hg hr hz q_0 q_1 q_lt q_f0 q_f1 r_0 r_1 r_lt r_f0 r_f1
                    obtain ⟨i9, rfl⟩ := Int.eq_ofNat_of_zero_le hz0
                    obtain ⟨q9, hq9⟩ : ∃ q : Int, we.cell? ⟨wd.heap.size, i9, none⟩ = some (.int .i64 q) := by
                      have := hK.out.cell i9
                      rcases (show i9 = 0 ∨ i9 = 1 ∨ i9 = 2 from by omega) with rfl | rfl | rfl
                      · exact ⟨-1, by simpa using this⟩
                      · exact ⟨999, by simpa using this⟩
                      · exact ⟨1000, by simpa using this⟩
                    obtain ⟨q_0, q_1, q_lt, q_f0, q_f1⟩ := hCE'.out.chain.at2f
                    have hCE3 := hide (hCE'.out.setView (y := q9))
                    obtain ⟨r_0, r_1, r_lt, r_f0, r_f1⟩ := hCE'.out.back.at2f
                    have ne1 : ¬ w.heap.size = w4.heap.size := by have := hCE'.out.lo; omega
                    have ne2 : ¬ w4.heap.size = w.heap.size := by have := hCE'.out.lo; omega
                    go_wp2_with fail
                    refine bodyPost_ret (v := .agg #[.int .i64 q9, .slice (some ⟨gA, 0, none⟩) ns'.length c]) (by simp [results, Try.results33, go_sem, r_0, r_1, r_lt, ne1, ne2]) rfl ?_
                    exact drewC_mk hCE3.out hsane.low (by have := hnk'.out; omega) (by have := hnk'.out; omega) (by omega)
                  · have y2' : (y == 2) = false := by simpa using y2
                    go_wp2_with fail
                    refine bodyPost_ret (v := .agg #[.int .i64 v, .slice (some ⟨gA, 0, none⟩) ns'.length c]) (by simp [results, Try.results33, go_sem, r_0, r_1, r_lt]) rfl ?_
                    exact drewC_mk hCE'.out hsane.low (by have := hnk'.out; omega) (by have := hnk'.out; omega) (by omega)
            · obtain ⟨j9, rfl⟩ : ∃ j, k = j + 1 := ⟨k - 1, by omega⟩
              have hkj : (((j9 + 1 : Nat) : Int) - 1) = (j9 : Int) := by omega
              rw [hkj]
              obtain ⟨x, l, j, hn⟩ : ∃ x l j, ns'[j9]? = some ⟨x, l, j⟩ := by
                obtain ⟨x, l, j, e⟩ := nd_cases (ns'[j9]'(by omega))
                exact ⟨x, l, j, by rw [List.getElem?_eq_getElem (by omega), e]⟩
              obtain ⟨⟨u9, hu9⟩, hf9⟩ := hCE'.nodes.cellsAt (j := j9 * 3 + 2) (by omega)
              obtain ⟨q_0, q_1, q_lt, q_f0, q_f1⟩ := hCE'.chain.at2f
              have hCE2 := hide (hCE'.setDone (y := d9) hn)
              have hs2 := hide (hsane.set (k := j9) (m := ⟨x, l, d9⟩) ⟨(hsane _ _ hn).1, by simp, by simp; omega⟩)
              have hlen2 := hide (show (ns'.set j9 ⟨x, l, d9⟩).length = mn + 1 by simp [hnk'])
              have hg0 : decide ((j9 : Int) ≥ 0) = true := by simp
              have hj4 : (j9 : Int) < (ns'.length : Int) := by omega
              have hj5 : j9 < ns'.length := by omega
              replace hnk' := hide hnk'
              clear hCE' hT hsane hn
              go_wp2_with fail
              refine (pick2_any hCE2.out.rd (by omega)).mono ?_
              rintro e wd ⟨y, hy, rfl, hg, hr⟩
              replace hCE2 := hide (hCE2.out.pick hg hr)
              clear hg hr
              by_cases hy0 : y = 0
              · subst hy0
                go_wp2_with fail
                refine (pick_any _ hCE2.out.rd (by omega)).mono ?_
                rintro e we ⟨z, rfl, hz, -, hg, hr⟩
                obtain ⟨hz0, hz1⟩ := hz (by omega)
                obtain ⟨zn, rfl⟩ := Int.eq_ofNat_of_zero_le hz0
                have hst' := hide (show DonesTo w g (P + 56 + 1 + 1 + 3 * (mn + 1) + 2 * (mn + 1 - j9)) w4.heap.size v gA c (mn + 1) we from ⟨_, _, hlen2.out, hs2.out, (hCE2.out.pick hg hr).more (by omega)⟩)
                clear hg hr hz
                go_wp2_with fail
                go_roundw
                case rel =>
                  (repeat apply Exists.intro)
                  exact ⟨⟨j9, d9 - zn, by omega, by omega, by first | go_num | (simp; omega), by go_num, hst'⟩, rfl⟩
                case measure => first | (simp [intOf]; done) | (simp [intOf]; omega)
              · have hy1 : (((y : Nat) : Int) == 0) = false := by simp; omega
                have hst' := hide (show DonesTo w g (P + 56 + 1 + 1 + 3 * (mn + 1) + 2 * (mn + 1 - j9)) w4.heap.size v gA c (mn + 1) wd from ⟨_, _, hlen2.out, hs2.out, hCE2.out.more (by omega)⟩)
                go_wp2_with fail
                go_roundw
                case rel =>
                  (repeat apply Exists.intro)
                  exact ⟨⟨j9, d9, by omega, by omega, by first | go_num | (simp; omega), by go_num, hst'⟩, rfl⟩
                case measure => first | (simp [intOf]; done) | (simp [intOf]; omega)
end Go.Proofs.YtciekjplhbimdaaZ
