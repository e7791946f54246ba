/-
  Contracts: chains copied, both.
-/
import Derived.Test.YtciekjplhbimdaaZCGot
import Derived.Test.YtciekjplhbimdaaZBApp
import Derived.Test.YtciekjplhbimdaaZBNodes
import Derived.Laws.MakeOwn
import Derived.Deep.DeepCutAuto
set_option linter.all false
set_option maxRecDepth 100000
namespace Go.Proofs.YtciekjplhbimdaaZ
open Go.RowKit
attribute [local go_sem ↓] Go.wp_at_zero Go.wp_at_succ

theorem ext_glue {W wr : World} {t : TypeId} {cs : Array Value} (hE : Ext W wr) (hs : W.heap.size + 1 ≤ wr.heap.size) (hb : Blk wr W.heap.size t cs) : Ext (W.alloc (.cells cs t)) wr :=
  ⟨hE.os, hE.tape, hE.output, by simp; omega, fun i hi => by
    simp at hi
    by_cases e : i < W.heap.size
    · exact (hE.block i e).trans (Below.heap_alloc W _ i e).symm
    · have e2 : i = W.heap.size := by omega
      subst e2
      exact hb.trans (heap_alloc_new W _).symm⟩
/-- A copy of a chain under way: k of its nodes are there; q the chain's block, G the row's. -/
def CopyTo (w : World) (v : Int) (ns : List Nd) (q G k : Nat) (wr : World) : Prop :=
  ∃ wx : World, wx.heap.size = G ∧ Ext w wx ∧ CopiedN wx ns k wr ∧ Blk wr (w.heap.size + 1) 25 #[.int .i64 0, .slice none 0 0] ∧ Blk wr q 25 #[.int .i64 v, .slice (some ⟨G, 0, none⟩) ns.length ns.length] ∧
    w.heap.size + 1 < q ∧ w.heap.size + 1 < G ∧ q ≠ G
section
variable {w W wr w2 : World} {v x j : Int} {ns : List Nd} {l : List Upd} {q G k c : Nat} {B : Option Addr}
theorem CopiedN.e (h : CopiedN w ns k wr) : Ext w wr := by
  obtain ⟨_, _, _, _, _, _, _, h⟩ := h
  exact h
theorem CopyTo.e (h : CopyTo w v ns q G k wr) : Ext w wr := by
  obtain ⟨wx, -, h1, h2, -⟩ := h
  exact ext_trans h1 h2.e
theorem CopyTo.qBlk (h : CopyTo w v ns q G k wr) : Blk wr q 25 #[.int .i64 v, .slice (some ⟨G, 0, none⟩) ns.length ns.length] ∧ w.heap.size + 1 < q ∧ w.heap.size + 1 < G ∧ q ≠ G := by
  obtain ⟨wx, -, -, -, -, h1, h2, h3, h4⟩ := h
  exact ⟨h1, h2, h3, h4⟩
theorem CopyTo.rBlk (h : CopyTo w v ns q G k wr) : Blk wr (w.heap.size + 1) 25 #[.int .i64 0, .slice none 0 0] := by
  obtain ⟨wx, -, -, -, h1, -⟩ := h
  exact h1
theorem CopyTo.glt (h : CopyTo w v ns q G k wr) : G < wr.heap.size := by
  obtain ⟨wx, rfl, -, ⟨_, _, _, _, h, _⟩, -⟩ := h
  exact (h.lt _ rfl).2
theorem copyTo_start {Z : Array Value} (hE : Ext w W) (hs : W.heap.size = w.heap.size + 2) (hF : Ext W wr) (hr : Blk wr (w.heap.size + 1) 25 #[.int .i64 0, .slice none 0 0])
    (hq : Blk wr q 25 #[.int .i64 v, .slice (some ⟨G, 0, none⟩) ns.length ns.length]) (hZ : Z.size = ns.length * 3) (hown : wr.ownsRow G 36 3 (.slice (some ⟨G, 0, none⟩) ns.length ns.length) ns.length Z.toList)
    (h : (q = W.heap.size + 1 ∧ G = W.heap.size) ∨ (q = W.heap.size ∧ G = W.heap.size + 1)) : CopyTo w v ns q G 0 wr := by
  have hlt := (hown.lt G rfl).2
  rcases h with ⟨e1, e2⟩ | ⟨e1, e2⟩
  · subst e1 e2
    exact ⟨W, rfl, hE, ⟨[], Z.toList, rfl, by simp [hZ], by simpa [ncells] using hown, fun i a n ha => by simp at ha, Apart.nil, hF⟩, hr, hq, by omega, by omega, by omega⟩
  · subst e1 e2
    have hg := ext_glue hF (by omega) hq
    have e3 : (W.alloc (.cells #[.int .i64 v, .slice (some ⟨W.heap.size + 1, 0, none⟩) ns.length ns.length] 25)).heap.size = W.heap.size + 1 := by simp
    refine ⟨_, e3, ext_alloc hE _, ⟨[], Z.toList, rfl, by simp [hZ], ?_, fun i a n ha => by simp at ha, Apart.nil, hg⟩, hr, hq, by omega, by omega, by omega⟩
    rw [e3]
    simpa [ncells] using hown
theorem copyTo_step (h : CopyTo w v ns q G k wr) (hE : Ext wr w2) (hn : ns[k]? = some ⟨x, l, j⟩) (hO : OwnU w2 wr.heap.size B c l) :
    (∃ u, w2.cell? ⟨G, k * 3, none⟩ = some u) ∧ (∃ u, w2.cell? ⟨G, k * 3 + 1, none⟩ = some u) ∧ (∃ u, w2.cell? ⟨G, k * 3 + 2, none⟩ = some u) ∧
    w2.frozen? ⟨G, k * 3, none⟩ = false ∧ w2.frozen? ⟨G, k * 3 + 1, none⟩ = false ∧ w2.frozen? ⟨G, k * 3 + 2, none⟩ = false ∧
    CopyTo w v ns q G (k + 1) (((w2.setCell ⟨G, k * 3, none⟩ (.int .i64 x)).setCell ⟨G, k * 3 + 1, none⟩ (.slice B l.length c)).setCell ⟨G, k * 3 + 2, none⟩ (.int .i64 j)) := by
  obtain ⟨wx, hG, h1, h2, h3, h4, h5, h6, h7⟩ := h
  subst hG
  obtain ⟨a0, a1, a2, f0, f1, f2, hC⟩ := copiedN_step h2 hE hn hO
  refine ⟨a0, a1, a2, f0, f1, f2, wx, rfl, h1, hC, ?_, ?_, h5, h6, h7⟩
  · exact (((h3.ext hE).far (p := ⟨wx.heap.size, k * 3, none⟩) (by show w.heap.size + 1 ≠ wx.heap.size; omega) _).far (p := ⟨wx.heap.size, k * 3 + 1, none⟩) (by show w.heap.size + 1 ≠ wx.heap.size; omega) _).far (p := ⟨wx.heap.size, k * 3 + 2, none⟩) (by show w.heap.size + 1 ≠ wx.heap.size; omega) _
  · exact (((h4.ext hE).far (p := ⟨wx.heap.size, k * 3, none⟩) h7 _).far (p := ⟨wx.heap.size, k * 3 + 1, none⟩) h7 _).far (p := ⟨wx.heap.size, k * 3 + 2, none⟩) h7 _
theorem copyTo_done (h : CopyTo w v ns q G k wr) (hk : k = ns.length) : NodesOwn wr w.heap.size wr.heap.size (some ⟨G, 0, none⟩) ns.length ns := by
  obtain ⟨wx, hG, h1, ⟨ss, rest, hs, hr, hown, hlogs, hap, hE'⟩, -⟩ := h
  subst hG
  have hsz := h1.size
  have hr0 : rest = [] := List.eq_nil_of_length_eq_zero (by rw [hr, hk]; omega)
  rw [hr0, List.append_nil, hk, List.take_length] at hown
  rw [hk, List.take_length] at hlogs
  exact NodesOwn.wide (⟨ss, by rw [hs, hk], RowIn.of hown, hlogs.wide (by omega) (Nat.le_refl _), hap⟩ : NodesOwn wr wx.heap.size wr.heap.size (some ⟨wx.heap.size, 0, none⟩) ns.length ns) hsz (Nat.le_refl _)
end
set_option maxHeartbeats 3200000 in
theorem copyChain_any {A : Option Addr} {ns : List Nd} (c : Nat) (v : Int) {w : World} (h : NodesR w A ns) (hb : bulk ns ≤ 1048576) :
    Calls Alt.prog 36 #[.agg #[.int .i64 v, .slice A ns.length c]] w (GotCh w v ns) := by
  have hl := bulk_len ns
  have h0 := hide h
  replace h := hide h
  have hE := hide (ext_refl w)
  obtain ⟨i0, hi, hz0, hz1, hz2⟩ := info_parts infoN
  have b := hide (Blk.newAt (w) 25 #[.int .i64 v, .slice A ns.length c] (g := w.heap.size) (by simp))
  replace h := hide (h.out.ext (ext_alloc (ext_refl (w)) (.cells #[.int .i64 v, .slice A ns.length c] 25)))
  replace hE := hide (ext_alloc hE.out (.cells #[.int .i64 v, .slice A ns.length c] 25))
  have r := hide (Blk.newAt (w.alloc (.cells #[.int .i64 v, .slice A ns.length c] 25)) 25 #[.int .i64 0, .slice none 0 0] (g := w.heap.size + 1) (by simp))
  replace h := hide (h.out.ext (ext_alloc (ext_refl (w.alloc (.cells #[.int .i64 v, .slice A ns.length c] 25))) (.cells #[.int .i64 0, .slice none 0 0] 25)))
  replace b := hide (b.out.ext (ext_alloc (ext_refl (w.alloc (.cells #[.int .i64 v, .slice A ns.length c] 25))) (.cells #[.int .i64 0, .slice none 0 0] 25)))
  replace hE := hide (ext_alloc hE.out (.cells #[.int .i64 0, .slice none 0 0] 25))
  have hW : ((w.alloc (.cells #[.int .i64 v, .slice A ns.length c] 25)).alloc (.cells #[.int .i64 0, .slice none 0 0] 25)).heap.size = w.heap.size + 2 := by simp
  obtain ⟨Z, hZ, hmk⟩ : ∃ Z : Array Value, Z.size = ns.length * 3 ∧ ∀ w' : World, (Instr.makeSlice 23 (.int .i64 (ns.length : Int)) (.int .i64 (ns.length : Int))).run Alt.prog w' = .ok (.slice (some ⟨w'.heap.size, 0, none⟩) ns.length ns.length) (w'.alloc (.cells Z 36)) := by
    refine ⟨madeCells (Value.agg #[.int .i64 0, .slice none 0 0, .int .i64 0]).cells (ns.length * 3), ?_, fun w' => ?_⟩
    · simp [size_madeCells]
    · have := run_make (P := Alt.prog) (w := w') 23 36 i0 _ Alt.underlying23 hi hz0 .i64 .i64 (ns.length : Int) (ns.length : Int) (by omega) (Int.le_refl _) (by rw [hz2]; omega) (by omega)
      simp only [Int.toNat_natCast, hz1] at this
      exact this
  replace hZ := hide hZ
  go_enter Alt.func36, Try.ntmps36
  go_wp2_with fail
  have fa : Hid (CopyTo w v ns (w.heap.size + 2 + 1) (w.heap.size + 2) 0 ((((w.alloc (.cells #[.int .i64 v, .slice A ns.length c] 25)).alloc (.cells #[.int .i64 0, .slice none 0 0] 25)).alloc (.cells Z 36)).alloc (.cells #[.int .i64 v, .slice (some ⟨w.heap.size + 2, 0, none⟩) ns.length ns.length] 25)).drew) := hide (by
    have hF : Ext ((w.alloc (.cells #[.int .i64 v, .slice A ns.length c] 25)).alloc (.cells #[.int .i64 0, .slice none 0 0] 25)) ((((w.alloc (.cells #[.int .i64 v, .slice A ns.length c] 25)).alloc (.cells #[.int .i64 0, .slice none 0 0] 25)).alloc (.cells Z 36)).alloc (.cells #[.int .i64 v, .slice (some ⟨w.heap.size + 2, 0, none⟩) ns.length ns.length] 25)).drew := ext_drew (ext_alloc (ext_alloc (ext_refl _) _) _)
    have ho := World.ownsRow_lit (base := w.heap.size + 2) (e := 36) (size := 3) ((w.alloc (.cells #[.int .i64 v, .slice A ns.length c] 25)).alloc (.cells #[.int .i64 0, .slice none 0 0] 25)) Z ns.length (by rw [hW]; exact Nat.le_refl _) (by unfold maxLen; omega) hZ.out
    rw [hW] at ho
    exact copyTo_start hE.out hW hF (r.out.ext hF) (Blk.newAt (((w.alloc (.cells #[.int .i64 v, .slice A ns.length c] 25)).alloc (.cells #[.int .i64 0, .slice none 0 0] 25)).alloc (.cells Z 36)) _ _ (by simp)) hZ.out (ho.alloc _) (.inl ⟨by rw [hW], by rw [hW]⟩))
  have fb : Hid (CopyTo w v ns (w.heap.size + 2) (w.heap.size + 2 + 1) 0 ((((w.alloc (.cells #[.int .i64 v, .slice A ns.length c] 25)).alloc (.cells #[.int .i64 0, .slice none 0 0] 25)).alloc (.cells #[.int .i64 v, .slice (some ⟨w.heap.size + 2 + 1, 0, none⟩) ns.length ns.length] 25)).alloc (.cells Z 36)).drew) := hide (by
    have hF : Ext ((w.alloc (.cells #[.int .i64 v, .slice A ns.length c] 25)).alloc (.cells #[.int .i64 0, .slice none 0 0] 25)) ((((w.alloc (.cells #[.int .i64 v, .slice A ns.length c] 25)).alloc (.cells #[.int .i64 0, .slice none 0 0] 25)).alloc (.cells #[.int .i64 v, .slice (some ⟨w.heap.size + 2 + 1, 0, none⟩) ns.length ns.length] 25)).alloc (.cells Z 36)).drew := ext_drew (ext_alloc (ext_alloc (ext_refl _) _) _)
    have hW2 : (((w.alloc (.cells #[.int .i64 v, .slice A ns.length c] 25)).alloc (.cells #[.int .i64 0, .slice none 0 0] 25)).alloc (.cells #[.int .i64 v, .slice (some ⟨w.heap.size + 2 + 1, 0, none⟩) ns.length ns.length] 25)).heap.size = w.heap.size + 2 + 1 := by simp
    have ho := World.ownsRow_lit (base := w.heap.size + 2 + 1) (e := 36) (size := 3) (((w.alloc (.cells #[.int .i64 v, .slice A ns.length c] 25)).alloc (.cells #[.int .i64 0, .slice none 0 0] 25)).alloc (.cells #[.int .i64 v, .slice (some ⟨w.heap.size + 2 + 1, 0, none⟩) ns.length ns.length] 25)) Z ns.length (by rw [hW2]; exact Nat.le_refl _) (by unfold maxLen; omega) hZ.out
    rw [hW2] at ho
    exact copyTo_start hE.out hW hF (r.out.ext hF) ((Blk.newAt ((w.alloc (.cells #[.int .i64 v, .slice A ns.length c] 25)).alloc (.cells #[.int .i64 0, .slice none 0 0] 25)) _ _ hW).ext (ext_drew (ext_alloc (ext_refl _) _))) hZ.out ho (.inr ⟨by rw [hW], by rw [hW]⟩))
  have ba := hide (b.out.ext (ext_drew (ext_alloc (ext_alloc (ext_refl _) (.cells Z 36)) (.cells #[.int .i64 v, .slice (some ⟨w.heap.size + 2, 0, none⟩) ns.length ns.length] 25))))
  have bb := hide (b.out.ext (ext_drew (ext_alloc (ext_alloc (ext_refl _) (.cells #[.int .i64 v, .slice (some ⟨w.heap.size + 2 + 1, 0, none⟩) ns.length ns.length] 25)) (.cells Z 36))))
  go_cut [3] (fun s3 wx => ∃ q G : Nat, s3 = .pointer (some ⟨q, 0, none⟩) ∧ Hid (CopyTo w v ns q G 0 wx) ∧ Hid (Blk wx w.heap.size 25 #[.int .i64 v, .slice A ns.length c]))
  case first =>
    go_region
    all_goals go_wp2_with fail
    all_goals go_meet
    all_goals first
      | (refine ⟨_, w.heap.size + 2, rfl, ?_, ?_⟩; (· with_reducible exact fa); (· with_reducible exact ba))
      | (refine ⟨_, w.heap.size + 2 + 1, rfl, ?_, ?_⟩; (· with_reducible exact fb); (· with_reducible exact bb))
  case rest =>
    obtain ⟨q, G, rfl, hst, hbx⟩ := hcut
    clear fa fb ba bb hmk hZ hE h r b hW
    obtain ⟨x_0, x_1, x_lt⟩ := hbx.out.at2
    go_wp2_with fail
    clear x_0 x_1 x_lt hbx
    go_loopw [16] (fun i wr => ∃ k : Nat, k ≤ ns.length ∧ i = .int .i64 k ∧ Hid (CopyTo w v ns q G k wr)) (fun i _ => ns.length - (intOf i).toNat)
    case atStart => exact ⟨0, Nat.zero_le _, rfl, hst⟩
    case round =>
      obtain ⟨k, hk, rfl, hT⟩ := hrel
      have hTE := hide hT.out.e
      obtain ⟨hq, hq1, hq2, hq3⟩ := hT.out.qBlk
      replace hq := hide hq
      by_cases hlt : k < ns.length
      · obtain ⟨b, o, x, l, j, B, d, hA, hbl, hn, hld, hdm, hB, c0, c1, c2, c1', c2'⟩ := node_at (h0.out.ext hTE.out) hlt
        subst hA
        have hlm : l.length ≤ 1048576 := bulk_of hb hn
        replace hn := hide hn
        have hE5 := hide (show Ext wr (wr.alloc (.cells #[.int .i64 x, .slice B l.length d, .int .i64 j] 36)).drew from ext_drew (ext_alloc (ext_refl wr) _))
        have hB5 := hide (hB.ext hE5.out)
        have N5 := hide (show Blk (wr.alloc (.cells #[.int .i64 x, .slice B l.length d, .int .i64 j] 36)).drew wr.heap.size 36 #[.int .i64 x, .slice B l.length d, .int .i64 j] from Blk.new wr _ _)
        have Q5 := hide (hq.out.ext hE5.out)
        obtain ⟨q_0, q_1, q_lt, q_f0, q_f1⟩ := hq.out.at2f
        have hi0 : (0 : Int) ≤ (k : Int) := by omega
        have hi1 : (k : Int) < (ns.length : Int) := by omega
        have hs5 : wr.heap.size ≤ (wr.alloc (.cells #[.int .i64 x, .slice B l.length d, .int .i64 j] 36)).drew.heap.size := hE5.out.size
        have hq3' : G ≠ q := Ne.symm hq3
        have hglt := hT.out.glt
        have hq4 : wr.heap.size ≠ G := by omega
        have hq4' : G ≠ wr.heap.size := by omega
        clear hB
        go_wp2_with fail
        go_region_held3 (fun w' => (w'.cell? ⟨q, 0, none⟩ = some (.int .i64 v) ∧ w'.cell? ⟨q, 1, none⟩ = some (.slice (some ⟨G, 0, none⟩) ns.length ns.length) ∧ q < w'.heap.size) ∧ (w'.cell? ⟨wr.heap.size, 0, none⟩ = some (.int .i64 x) ∧ w'.cell? ⟨wr.heap.size, 1, none⟩ = some (.slice B l.length d) ∧ w'.cell? ⟨wr.heap.size, 2, none⟩ = some (.int .i64 j) ∧ wr.heap.size < w'.heap.size))
          (first | exact ⟨Q6.out.at2, N6.out.at3⟩ | exact ⟨Q5.out.at2, N5.out.at3⟩ | go_keep)
          ((go_at_call 62; refine (copyNode_any d x j hB5.out hlm).mono ?_; intro e w6 hG; obtain ⟨A6, c6, rfl, -, -, hO, hF⟩ := hG.use; clear hG; have Q6 := hide (Q5.out.ext hF); have N6 := hide (N5.out.ext hF); obtain ⟨⟨u0, d0⟩, ⟨u1, d1⟩, ⟨u2, d2⟩, f0, f1, f2, hC'⟩ := copyTo_step hT.out (ext_trans hE5.out hF) hn.out (OwnU.mono hO.out hs5)))
        replace hC' := hide hC'
        clear hT hTE hF hO d0 d1 d2 f0 f1 f2
        go_wp2_with fail
        go_roundw
        case rel => exact ⟨k + 1, by omega, by go_num, hC'⟩
        case measure => simp [intOf]; omega
      · have hkn : k = ns.length := by omega
        have hN := hide (copyTo_done hT.out hkn)
        have hR := hide hT.out.rBlk
        obtain ⟨r_0, r_1, r_lt, r_f0, r_f1⟩ := hR.out.at2f
        obtain ⟨q_0, q_1, q_lt, q_f0, q_f1⟩ := hq.out.at2f
        replace hkn := hide hkn
        clear hT
        go_wp2_with fail
        refine bodyPost_ret (v := .agg #[.int .i64 v, .slice (some ⟨G, 0, none⟩) ns.length ns.length]) (by simp [results, Try.results36, go_sem, r_0, r_1, r_lt]) rfl ?_
        exact ⟨_, _, rfl, (hN.out.handed hR.out _ _).wide (Nat.le_refl _) (by simp [World.setCell]), (hTE.out.setCell (by show w.heap.size ≤ w.heap.size + 1; omega) _).setCell (by show w.heap.size ≤ w.heap.size + 1; omega) _⟩

/-! ### The reference's copy -/
/-- A copy under way, in a row that grows: r the result's block, q the chain's; what was made lies below hi. -/
structure CO (w : World) (r q hi : Nat) (v : Int) (A : Option Addr) (c : Nat) (ns : List Nd) (ss : List Sl) (W : World) : Prop where
  back : Blk W r 25 #[.int .i64 0, .slice none 0 0]
  chain : Blk W q 25 #[.int .i64 v, .slice A ns.length c]
  len : ss.length = ns.length
  row : RowIn W w.heap.size hi 36 3 (.slice A ns.length c) ns.length (ncells ns ss)
  logs : LogsIn W w.heap.size hi ss ns
  apart : Apart ss
  ext : Ext w W
  rlo : w.heap.size ≤ r
  qlo : w.heap.size ≤ q
  rq : r ≠ q
  low : w.heap.size ≤ hi
section
variable {w W W' : World} {r q hi hi' a b c k : Nat} {v : Int} {A A' B : Option Addr} {l : List Upd} {ns : List Nd} {ss : List Sl}
theorem CO.more (h : CO w r q hi v A c ns ss W) (hE : Ext W W') : CO w r q hi v A c ns ss W' :=
  ⟨h.back.ext hE, h.chain.ext hE, h.len, h.row.ext hE, h.logs.ext hE, h.apart, ext_trans h.ext hE, h.rlo, h.qlo, h.rq, h.low⟩
theorem CO.wide (h : CO w r q hi v A c ns ss W) (hh : hi ≤ hi') : CO w r q hi' v A c ns ss W :=
  ⟨h.back, h.chain, h.len, h.row.wide (Nat.le_refl _) hh, h.logs.wide (Nat.le_refl _) hh, h.apart, h.ext, h.rlo, h.qlo, h.rq, Nat.le_trans h.low hh⟩
theorem CO.nodes (h : CO w r q hi v A c ns ss W) : NodesOwn W w.heap.size hi A c ns := ⟨ss, h.len, h.row, h.logs, h.apart⟩
theorem CO.kept (h : CO w r q hi v A c ns ss W) (hg : W.grownBy W' (Value.slice A ns.length c).ownBlock) :
    Blk W' r 25 #[.int .i64 0, .slice none 0 0] ∧ Blk W' q 25 #[.int .i64 v, .slice A ns.length c] :=
  ⟨(hg.block _ h.back.lt (blk_types h.back h.row.1 typesCN)).trans h.back, (hg.block _ h.chain.lt (blk_types h.chain h.row.1 typesCN)).trans h.chain⟩
theorem CO.push {d c' : Nat} {x j : Int} (h : CO w r q hi v A c ns ss W) (hk : ns.length = k) (hhi : hi ≤ W.heap.size) (hn : LogIn W hi W.heap.size B d l)
    (hown : W'.ownsRow w.heap.size 36 3 (.slice A' (k + 1) c') (k + 1) (ncells ns ss ++ [.int .i64 x, .slice B l.length d, .int .i64 j])) (hg : W.grownBy W' (Value.slice A ns.length c).ownBlock) :
    CO w r q W'.heap.size v A' c' (ns ++ [⟨x, l, j⟩]) (ss ++ [(B, d)]) (W'.setCell ⟨q, 1, none⟩ (.slice A' (k + 1) c')) := by
  subst hk
  have h1 := h.rlo
  have h2 := h.qlo
  have h3 := h.rq
  have h4 := h.low
  obtain ⟨hb, hc⟩ := h.kept hg
  have hrow : ∀ i, (Value.slice A ns.length c).ownBlock = some i → w.heap.size ≤ i ∧ i < hi := fun i hi' => ⟨(h.row.1.lt i hi').1, h.row.2 i hi'⟩
  have ht : Turned w.heap.size hi W W' := Turned.of_row hg hrow
  have hgs : W'.grownBy (W'.setCell ⟨q, 1, none⟩ (.slice A' (ns.length + 1) c')) (some q) := only_setCell (World.grownBy.refl W' (some q)) (.inl rfl) _
  have hss := ht.size
  have hs2 : (W'.setCell ⟨q, 1, none⟩ (.slice A' (ns.length + 1) c')).heap.size = W'.heap.size := by simp [World.setCell]
  have keepLog : ∀ {B' : Option Addr} {d' : Nat} {l' : List Upd} {lo' hi' : Nat}, LogIn W lo' hi' B' d' l' → LogIn (W'.setCell ⟨q, 1, none⟩ (.slice A' (ns.length + 1) c')) lo' hi' B' d' l' := fun {B' d' l' lo' hi'} hL => by
    have hL1 : W'.ownsRow lo' 39 2 (.slice B' l'.length d') l'.length (ucells l') := World.ownsRow.kept hL.1 hg (own_types hL.1 h.row.1 typesNU.symm)
    exact ⟨hL1.kept hgs (.inr (blk_types hc hL1 typesCU).symm), hL.2⟩
  refine ⟨hb.far (p := ⟨q, 1, none⟩) h3 _, ?_, by simp [h.len], ?_, fun i a n ha hn' => ?_, ?_, (Turned.ext h.ext ht (Nat.le_refl _)).setCell (p := ⟨q, 1, none⟩) h2 _, h1, h2, h3, by omega⟩
  · rw [List.length_append]; exact hc.set21 _
  · rw [List.length_append, ncells_append _ _ _ _ h.len]
    refine ⟨hown.kept hgs (.inr (blk_types hc hown typesCN).symm), fun g' hg' => (hown.lt g' hg').2⟩
  · by_cases hik : i < ns.length
    · rw [List.getElem?_append_left (by rw [h.len]; exact hik)] at ha
      rw [List.getElem?_append_left hik] at hn'
      exact (keepLog (h.logs i a n ha hn')).wide (Nat.le_refl _) (by omega)
    · have hik' : i = ns.length := by
        have := (List.getElem?_eq_some_iff.1 hn').1
        simp at this
        omega
      subst hik'
      rw [List.getElem?_append_right (by rw [h.len]; exact Nat.le_refl _)] at ha
      rw [List.getElem?_append_right (Nat.le_refl _)] at hn'
      simp [h.len] at ha hn'
      subst ha hn'
      exact (keepLog hn).wide h4 (by omega)
  · refine h.apart.snoc (m := hi) (fun i y hy g' hg' => ((h.logs.lt h.len hy) g' hg').2) (fun g' hg' => ?_)
    rw [← blk_own (B, d) l.length] at hg'
    exact (hn.1.lt g' hg').1
end
theorem co_start {w W : World} {r q : Nat} {v : Int} (hr : Blk W r 25 #[.int .i64 0, .slice none 0 0]) (hq : Blk W q 25 #[.int .i64 v, .slice none 0 0]) (hE : Ext w W) (h1 : w.heap.size ≤ r) (h2 : w.heap.size ≤ q) (h3 : r ≠ q) :
    CO w r q W.heap.size v none 0 [] [] W :=
  ⟨hr, hq, rfl, ⟨World.ownsRow_nil _ _ _ _, fun g hg => by simp [Value.ownBlock] at hg⟩, fun i a n h => by simp at h, Apart.nil, hE, h1, h2, h3, hE.size⟩
/-- At the head of the loop: the first k nodes have been copied. -/
def PushTo (w : World) (r q : Nat) (v : Int) (ns : List Nd) (k : Nat) (W : World) : Prop := ∃ A c ss, CO w r q W.heap.size v A c (ns.take k) ss W
theorem pushTo_step {w W : World} {r q c k : Nat} {v : Int} {A : Option Addr} {ns : List Nd} {n : Nd} {ss : List Sl} {p : Addr} {u : Value} (hn : ns[k]? = some n) (h : CO w r q W.heap.size v A c (ns.take k ++ [n]) ss (W.setCell p u)) : PushTo w r q v ns (k + 1) (W.setCell p u) := by
  obtain ⟨hk, e⟩ := List.getElem?_eq_some_iff.1 hn
  refine ⟨A, c, ss, ?_⟩
  rw [List.take_succ_eq_append_getElem hk, e]
  simpa [World.setCell] using h
theorem node_new8 (w : World) (x y z : Value) : CellsR (w.alloc (.cells #[x, y, z] 36)) (some ⟨w.heap.size, 0, none⟩) [x, y, z] := fun _ => ⟨_, 0, rfl, fun jj u hu => by
  have hB := Blk.newAt w 36 #[x, y, z] (g := w.heap.size) rfl
  match jj, hu with
  | 0, hu => simp at hu; subst hu; simpa using hB.cell 0
  | 1, hu => simp at hu; subst hu; simpa using hB.cell 1
  | 2, hu => simp at hu; subst hu; simpa using hB.cell 2⟩
theorem node_one8 (x y : Int) (A : Option Addr) (n c : Nat) : ∀ u ∈ ([.int .i64 x, .slice A n c, .int .i64 y] : List Value), u.oneCell' = true := fun u hu => by simp at hu; rcases hu with rfl | rfl | rfl <;> rfl
theorem log7 {w w6 : World} {A : Option Addr} {c : Nat} {l : List Upd} (o : Obj) (h : OwnU w6 w.drew.heap.size A c l) : LogIn (w6.alloc o) w.heap.size (w6.alloc o).heap.size A c l :=
  (LogIn.ext (LogIn.of h) (ext_alloc (ext_refl w6) o)).wide (Nat.le_refl _) (by simp)
theorem size_le7 {w : World} {n : Nat} (h : n ≤ w.heap.size) (o : Obj) : n ≤ (w.alloc o).heap.size := by simp; omega
theorem blk9 {w : World} {g : Nat} {t : TypeId} {cs : Array Value} (h : Hid (Blk w g t cs)) : Blk w g t cs := h.out
theorem push_ext {w W W' : World} {row : Option Nat} {a : Nat} (hE : Ext w W) (hg : W.grownBy W' row) (h : ∀ i, row = some i → a ≤ i ∧ i < W.heap.size) (hE2 : True := trivial) : Turned a W.heap.size w W' :=
  (Turned.of_ext hE).trans (Turned.of_row hg h)
theorem cell_turned {w w' : World} {a z b o : Nat} {v : Value} (hc : w.cell? ⟨b, o, none⟩ = some v) (h : Turned a z w w') (hb : b < a) : w'.cell? ⟨b, o, none⟩ = some v :=
  (World.cell?_of_block (h.block b (World.block_lt_of_cell? w _ hc) (.inl hb))).trans hc
def outLoad : Op := Op.load 23 (Operand.tmp 15)
theorem outLoad_eq : outLoad = Op.load 23 (Operand.tmp 15) := rfl
attribute [local go_sem] outLoad_eq
set_option maxHeartbeats 6400000 in
theorem l4Copy_any {A : Option Addr} {ns : List Nd} (c : Nat) (v : Int) {w : World} (h : NodesR w A ns) (hb : bulk ns ≤ 1048576) :
    Calls Alt.prog 58 #[.agg #[.int .i64 v, .slice A ns.length c]] w (GotCh w v ns) := by
  have hl := bulk_len ns
  have h0 := hide h
  replace h := hide h
  have hE := hide (ext_refl w)
  obtain ⟨iN, hiN, zN0, zN1, zN2⟩ := info_parts infoN
  have b := hide (Blk.newAt (w) 25 #[.int .i64 v, .slice A ns.length c] (g := w.heap.size) (by simp))
  replace h := hide (h.out.ext (ext_alloc (ext_refl (w)) (.cells #[.int .i64 v, .slice A ns.length c] 25)))
  replace hE := hide (ext_alloc hE.out (.cells #[.int .i64 v, .slice A ns.length c] 25))
  have r := hide (Blk.newAt (w.alloc (.cells #[.int .i64 v, .slice A ns.length c] 25)) 25 #[.int .i64 0, .slice none 0 0] (g := w.heap.size + 1) (by simp))
  replace h := hide (h.out.ext (ext_alloc (ext_refl (w.alloc (.cells #[.int .i64 v, .slice A ns.length c] 25))) (.cells #[.int .i64 0, .slice none 0 0] 25)))
  replace b := hide (b.out.ext (ext_alloc (ext_refl (w.alloc (.cells #[.int .i64 v, .slice A ns.length c] 25))) (.cells #[.int .i64 0, .slice none 0 0] 25)))
  replace hE := hide (ext_alloc hE.out (.cells #[.int .i64 0, .slice none 0 0] 25))
  have o := hide (Blk.newAt ((w.alloc (.cells #[.int .i64 v, .slice A ns.length c] 25)).alloc (.cells #[.int .i64 0, .slice none 0 0] 25)) 25 #[.int .i64 v, .slice none 0 0] (g := w.heap.size + 1 + 1) (by simp))
  replace h := hide (h.out.ext (ext_alloc (ext_refl ((w.alloc (.cells #[.int .i64 v, .slice A ns.length c] 25)).alloc (.cells #[.int .i64 0, .slice none 0 0] 25))) (.cells #[.int .i64 v, .slice none 0 0] 25)))
  replace b := hide (b.out.ext (ext_alloc (ext_refl ((w.alloc (.cells #[.int .i64 v, .slice A ns.length c] 25)).alloc (.cells #[.int .i64 0, .slice none 0 0] 25))) (.cells #[.int .i64 v, .slice none 0 0] 25)))
  replace r := hide (r.out.ext (ext_alloc (ext_refl ((w.alloc (.cells #[.int .i64 v, .slice A ns.length c] 25)).alloc (.cells #[.int .i64 0, .slice none 0 0] 25))) (.cells #[.int .i64 v, .slice none 0 0] 25)))
  replace hE := hide (ext_alloc hE.out (.cells #[.int .i64 v, .slice none 0 0] 25))
  have hst := hide (co_start r.out o.out hE.out (show w.heap.size ≤ w.heap.size + 1 by omega) (show w.heap.size ≤ w.heap.size + 1 + 1 by omega) (by omega))
  go_enter Alt.func58, Try.ntmps58
  go_wp2_with fail
  go_loopw [4] (fun i wr => ∃ k : Nat, k ≤ ns.length ∧ i = .int .i64 k ∧ Hid (PushTo w (w.heap.size + 1) (w.heap.size + 1 + 1) v ns k wr) ∧ Hid (Blk wr w.heap.size 25 #[.int .i64 v, .slice A ns.length c])) (fun i _ => ns.length - (intOf i).toNat)
  case atStart => exact ⟨0, Nat.zero_le _, rfl, hide ⟨none, 0, [], by simpa using hst.out⟩, hide (b.out)⟩
  case round =>
    obtain ⟨k, hk, rfl, hT, bb⟩ := hrel
    obtain ⟨A1, c1, ss, hCO⟩ := hT.out
    replace hCO := hide hCO
    obtain ⟨b_0, b_1, b_lt⟩ := bb.out.at2
    by_cases hlt : k < ns.length
    · obtain ⟨b9, o9, x, l, j, B, d, hA, hbl, hn, hld, hdm, hB, c0, c1', c2, c1'', c2'⟩ := node_at (h0.out.ext hCO.out.ext) hlt
      subst hA
      have hblw : b9 < w.heap.size := by
        obtain ⟨b8, o8, _, _, _, _, _, hA8, hbl8, _⟩ := node_at h0.out hlt
        cases hA8
        exact hbl8
      have hlm : l.length ≤ 1048576 := bulk_of hb hn
      replace hn := hide hn
      obtain ⟨n1, hn1⟩ : ∃ n1, ns.take k = n1 := ⟨_, rfl⟩
      have hk1 : Hid (n1.length = k) := hide (by rw [← hn1, List.length_take]; omega)
      have hCO1 := hCO.out
      rw [hn1] at hCO1
      replace hCO1 := hide hCO1
      replace hn1 := hide hn1
      obtain ⟨q_0, q_1, q_lt, q_f0, q_f1⟩ := hCO1.out.chain.at2f
      have hd : decide ((k : Int) < (ns.length : Int)) = true := by simp; omega
      have hi0 : (0 : Int) ≤ (k : Int) := by omega
      have hi1 : (k : Int) < (ns.length : Int) := by omega
      have h3 : 0 < 3 := by decide
      have hmx : Hid (n1.length + 1 ≤ maxLen) := hide (by have := hk1.out; unfold maxLen; omega)
      have hby : Hid ((n1.length + 1) * 40 ≤ 140737488355328) := hide (by have := hk1.out; omega)
      have hBd := hide (show LogR wr.drew B l from hB)
      have ne1 : b9 ≠ w.heap.size + 1 + 1 := by omega
      have ne2 : w.heap.size ≠ w.heap.size + 1 + 1 := by omega
      have ne1' : w.heap.size + 1 + 1 ≠ b9 := by omega
      have ne2' : w.heap.size + 1 + 1 ≠ w.heap.size := by omega
      clear hB hT
      go_wp2_with fail
      conv in Code.region 5 _ _ => rw [show Op.load 23 (Operand.tmp 15) = outLoad from rfl]
      go_region_held3 (fun w' => w'.cell? ⟨w.heap.size, 1, none⟩ = some (.slice (some ⟨b9, o9, none⟩) ns.length c) ∧ w'.cell? ⟨b9, o9 + k * 3, none⟩ = some (.int .i64 x) ∧ w'.cell? ⟨b9, o9 + k * 3 + 1, none⟩ = some (.slice B l.length d) ∧ w'.cell? ⟨b9, o9 + k * 3 + 2, none⟩ = some (.int .i64 j))
        (first | with_reducible exact ⟨z_1, y_0, y_1, y_2⟩ | with_reducible exact ⟨t_1, s_0, s_1, s_2⟩ | go_keep)
        (first
          | ((go_at_call 79; refine (l3Copy_any d x j hBd.out hlm).mono ?_; intro e w6 hG; obtain ⟨A6, c6, rfl, -, -, hO, hF⟩ := hG.use; clear hG; have hE6 : Ext wr w6 := ext_trans (ext_drew (ext_refl wr)) hF; have hCO6 := hide (hCO1.out.more hE6); obtain ⟨p_0, p_1, p_lt, p_f0, p_f1⟩ := hCO6.out.chain.at2f; have bb6 := hide (bb.out.ext hE6); obtain ⟨t_0, t_1, t_lt⟩ := bb6.out.at2; have s_0 := ext_cell hE6 c0; have s_1 := ext_cell hE6 c1''; have s_2 := ext_cell hE6 c2'; have hL6 := hide (log7 (.cells #[.int .i64 x, .slice A6 l.length c6, .int .i64 j] 36) hO.out); have hCO7 := hide (hCO6.out.more (ext_alloc (ext_refl w6) (.cells #[.int .i64 x, .slice A6 l.length c6, .int .i64 j] 36))); have hs6 := hE6.size))
          | ((refine step_append_cells rfl (.tmp 16) (.tmp 23) 23 rfl w.heap.size 36 iN _ 3 40 Alt.underlying23 hiN zN0 zN1 zN2 rfl h3 _ n1.length (ncells n1 ss) rfl hCO7.out.row.1 (some ⟨w6.heap.size, 0, none⟩) 1 1 [.int .i64 x, .slice A6 l.length c6, .int .i64 j] rfl rfl (node_new8 w6 _ _ _) (node_one8 _ _ _ _ _) hmx.out hby.out hCO7.out.ext.size ?_; intro v9 w9 hv9 hg9 hat9; obtain ⟨A9, c9, rfl, -, -⟩ := own_form hv9; have hQ9 := (hCO7.out.kept hg9).2; obtain ⟨g_0, g_1, g_lt, g_f0, g_f1⟩ := hQ9.at2f; have bb7 := bb6.out.ext (ext_alloc (ext_refl w6) (.cells #[.int .i64 x, .slice A6 l.length c6, .int .i64 j] 36)); have bb9 := hide ((hg9.block _ bb7.lt (blk_types bb7 hCO7.out.row.1 typesCN)).trans bb7); obtain ⟨z_0, z_1, z_lt⟩ := (blk9 bb9).at2; have hE9 := push_ext (ext_trans hE6 (ext_alloc (ext_refl w6) (.cells #[.int .i64 x, .slice A6 l.length c6, .int .i64 j] 36))) hg9 (fun i hi => hCO7.out.row.1.lt i hi); have y_0 := cell_turned c0 hE9 hblw; have y_1 := cell_turned c1'' hE9 hblw; have y_2 := cell_turned c2' hE9 hblw; have hfin := hide (CO.push hCO7.out rfl (size_le7 hs6 (.cells #[.int .i64 x, .slice A6 l.length c6, .int .i64 j] 36)) hL6.out hv9 hg9)))
          | fail)
      all_goals have hT' := hide (pushTo_step hn.out (by rw [hn1.out]; exact hfin.out))
      all_goals have bb' := hide ((blk9 bb9).far (p := ⟨w.heap.size + 1 + 1, 1, none⟩) ne2 (.slice A9 (n1.length + 1) c9))
      all_goals clear hfin hCO7 hCO6 hCO1 hL6 hg9 hv9 hat9
      all_goals go_wp2_with fail
      all_goals go_roundw
      all_goals first
        | exact ⟨k + 1, by omega, by go_num, hT', bb'⟩
        | (simp [intOf]; omega)
    · have hkn : k = ns.length := by omega
      have hd : decide ((k : Int) < (ns.length : Int)) = false := by simp; omega
      have hCO1 := hCO.out
      rw [List.take_of_length_le (show ns.length ≤ k by omega)] at hCO1
      replace hCO1 := hide hCO1
      obtain ⟨q_0, q_1, q_lt, q_f0, q_f1⟩ := hCO1.out.chain.at2f
      obtain ⟨r_0, r_1, r_lt, r_f0, r_f1⟩ := hCO1.out.back.at2f
      replace hkn := hide hkn
      clear hT hCO
      go_wp2_with fail
      refine bodyPost_ret (v := .agg #[.int .i64 v, .slice A1 ns.length c1]) (by simp [results, Try.results58, go_sem, r_0, r_1, r_lt]) rfl ?_
      exact ⟨_, _, rfl, (hCO1.out.nodes.handed hCO1.out.back _ _).wide (Nat.le_refl _) (by simp [World.setCell]), (hCO1.out.ext.setCell (by show w.heap.size ≤ w.heap.size + 1; omega) _).setCell (by show w.heap.size ≤ w.heap.size + 1; omega) _⟩
end Go.Proofs.YtciekjplhbimdaaZ
