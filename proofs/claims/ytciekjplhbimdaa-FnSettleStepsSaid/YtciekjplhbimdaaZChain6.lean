/-
  Contracts: how far the nodes lag behind, both.
-/
import Derived.Test.YtciekjplhbimdaaZBChain
import Derived.Test.YtciekjplhbimdaaZBApp
import Derived.Test.YtciekjplhbimdaaZKeys
import Derived.Test.YtciekjplhbimdaaZStates3
import Derived.Test.YtciekjplhbimdaaZBNodes
set_option linter.all false
set_option maxRecDepth 100000
namespace Go.Proofs.YtciekjplhbimdaaZ
open Go.RowKit
attribute [local go_sem ↓] Go.wp_at_zero Go.wp_at_succ

def lags (m : Nat) (ns : List Nd) : List Int := ns.map fun n => (m : Int) - n.log.length
/-- What a chain's lag is. -/
def LagRes (v : Int) (ns : List Nd) (s : List Int) : Prop := (ChOk v ns ∧ ∃ n, ns[0]? = some n ∧ s = lags n.log.length ns) ∨ (¬ ChOk v ns ∧ s = [])
theorem lagRes_ex (v : Int) (ns : List Nd) : ∃ s, LagRes v ns s := by
  by_cases h : ChOk v ns
  · exact ⟨_, .inl ⟨h, _, List.getElem?_eq_getElem (by have := h.2.1; omega), rfl⟩⟩
  · exact ⟨[], .inr ⟨h, rfl⟩⟩
theorem lagRes_len {v : Int} {ns : List Nd} {s : List Int} (h : LagRes v ns s) : s.length ≤ 5 := by
  rcases h with ⟨h, n, -, rfl⟩ | ⟨-, rfl⟩
  · simp [lags]; exact h.2.1.2
  · simp
theorem lags_take_succ {m : Nat} {ns : List Nd} {k : Nat} {n : Nd} (h : ns[k]? = some n) : icells (lags m (ns.take (k + 1))) = icells (lags m (ns.take k)) ++ [.int .i64 ((m : Int) - n.log.length)] := by
  obtain ⟨hk, e⟩ := List.getElem?_eq_some_iff.1 h
  rw [List.take_succ_eq_append_getElem hk, e]
  simp [lags, icells]
def LagTo (w : World) (m : Nat) (ns : List Nd) (v : Value) (k : Nat) (wr : World) : Prop := wr.ownsRow w.heap.size 3 1 v k (icells (lags m (ns.take k))) ∧ Ext w wr
theorem lagTo_step {w W w' : World} {m : Nat} {ns : List Nd} {k : Nat} {n : Nd} {v v' : Value} {N : Nat} {X : List Value} (hn : ns[k]? = some n) (hX : X = icells (lags m (ns.take k)) ++ [.int .i64 ((m : Int) - n.log.length)]) (hN : N = k + 1)
    (hlt : ∀ g, v.ownBlock = some g → w.heap.size ≤ g) (hE : Ext w W) (hown' : w'.ownsRow w.heap.size 3 1 v' N X) (hg : W.grownBy w' v.ownBlock) : LagTo w m ns v' (k + 1) w' := by
  subst hN hX
  refine ⟨by rw [lags_take_succ hn]; exact hown', ?_⟩
  exact ext_of_only (only_trans (only_of_ext hE (some w.heap.size)) hg fun i hi => .inr (hlt i hi)) (Nat.le_refl _)
theorem infoI3 : (Alt.prog.info? 3).map (fun i => (i.zero, i.size, i.bytes)) = some (some (.int .i64 0), 1, 8) := by kernel_rfl

set_option maxHeartbeats 3200000 in
theorem implChainLag_any {A : Option Addr} {ns : List Nd} {s : List Int} (c : Nat) (v : Int) {w : World} (h : NodesR w A ns) (hb : bulk ns ≤ 1048576) (hs : LagRes v ns s) :
    Calls Alt.prog 31 #[.agg #[.int .i64 v, .slice A ns.length c]] w (GotRowI w s) := by
  have hl := bulk_len ns
  obtain ⟨i0, hi, hz0, hz1, hz2⟩ := info_parts infoI3
  have hE := hide (ext_alloc (ext_refl w) (.cells #[.int .i64 v, .slice A ns.length c] 25))
  have hN := hide (h.ext hE.out)
  have bC := hide (Blk.newAt w 25 #[.int .i64 v, .slice A ns.length c] (g := w.heap.size) rfl)
  clear h
  rcases hs with ⟨hok, n0, hn0, hs⟩ | ⟨hok, hs⟩
  · have hlen := hok.2.1
    replace hok := hide hok
    go_enter Alt.func31, Try.ntmps31
    go_wp2_with fail
    refine (implChainValid_yes c v hN.out hb hok.out).mono ?_
    rintro e w1 ⟨rfl, hF⟩
    replace hN := hide (hN.out.ext hF)
    replace bC := hide (bC.out.ext hF)
    try clear bC_0 bC_1 bC_lt
    obtain ⟨bC_0, bC_1, bC_lt⟩ := bC.out.at2
    replace hE := hide (ext_trans hE.out hF)
    clear hF
    obtain ⟨b, o, x0, l0, j0, B0, d0, hA, hbl, hn0', hld, hdm, hB0, a0, a1, a2⟩ := node_first hN.out (by omega)
    rw [hn0] at hn0'
    cases hn0'
    subst hA
    have hlm0 : l0.length ≤ 1048576 := bulk_of hb hn0
    replace hs := hide hs
    replace hn0 := hide hn0
    clear hB0
    have hst := hide (show LagTo w1 l0.length ns (.slice (some ⟨w1.heap.size, 0, none⟩) 0 0) 0 (w1.alloc (.cells #[] 3)) from
      ⟨by simp only [List.take_zero]; exact World.ownsRow_made (base := w1.heap.size) (e := 3) (size := 1) w1 #[] 0 (Nat.le_refl _) (by simp [maxLen]) rfl, ext_alloc (ext_refl _) _⟩)
    go_wp2_with fail
    go_loopw [3, 14] (fun u i wr => ∃ k : Nat, k ≤ ns.length ∧ i = .int .i64 k ∧ Hid (LagTo w1 l0.length ns u k wr)) (fun _ i _ => ns.length - (intOf i).toNat)
    case atStart => exact ⟨0, Nat.zero_le _, rfl, hst⟩
    case round =>
      obtain ⟨k, hk, rfl, hT⟩ := hrel
      have hR := hide hT.out.2
      by_cases hlt : k < ns.length
      · have hN2 := hN.out.ext hR.out
        obtain ⟨b2, o2, x, l, j, B, d, hA, hbl2, hn, hld2, hdm2, hB, c0, c1, c2, c1', c2'⟩ := node_at hN2 hlt
        obtain ⟨b3, o3, x3, l3, j3, B3, d3, hA3, hbl3, hn3, hld3, hdm3, hB3, f0, f1, f2⟩ := node_first hN2 (by omega)
        cases hA
        cases hA3
        rw [hn0.out] at hn3
        cases hn3
        have hlm : l.length ≤ 1048576 := bulk_of hb hn
        replace hn := hide hn
        have hbC := hide (bC.out.ext hR.out)
        clear hB hB3 hN2
        try clear hbC_0 hbC_1 hbC_lt
        obtain ⟨hbC_0, hbC_1, hbC_lt⟩ := hbC.out.at2
        have hlt3 : Hid (∀ g, Value.ownBlock u3 = some g → w1.heap.size ≤ g) := hide (fun g hg => (hT.out.1.lt g hg).1)
        have hownD : Hid (((wr.alloc (.cells #[.int .i64 x, .slice B l.length d, .int .i64 j] 36)).alloc (.cells #[.int .i64 ((l0.length : Int) - l.length)] 3)).drew.ownsRow w1.heap.size 3 1 u3 k (icells (lags l0.length (ns.take k)))) := hide ((hT.out.1.alloc (.cells #[.int .i64 x, .slice B l.length d, .int .i64 j] 36)).alloc (.cells #[.int .i64 ((l0.length : Int) - l.length)] 3))
        have hED : Hid (Ext w1 ((wr.alloc (.cells #[.int .i64 x, .slice B l.length d, .int .i64 j] 36)).alloc (.cells #[.int .i64 ((l0.length : Int) - l.length)] 3)).drew) := hide (ext_drew (ext_alloc (ext_alloc hT.out.2 (.cells #[.int .i64 x, .slice B l.length d, .int .i64 j] 36)) (.cells #[.int .i64 ((l0.length : Int) - l.length)] 3)))
        have hcs : Hid (CellsR ((wr.alloc (.cells #[.int .i64 x, .slice B l.length d, .int .i64 j] 36)).alloc (.cells #[.int .i64 ((l0.length : Int) - l.length)] 3)).drew (some ⟨wr.heap.size + 1, 0, none⟩) [.int .i64 ((l0.length : Int) - l.length)]) := hide (fun _ => ⟨_, 0, rfl, fun jj u hu => by
          match jj, hu with
          | 0, hu =>
            simp at hu
            subst hu
            have := (Blk.newAt (wr.alloc (.cells #[.int .i64 x, .slice B l.length d, .int .i64 j] 36)) 3 #[.int .i64 ((l0.length : Int) - l.length)] (g := wr.heap.size + 1) (by simp)).cell 0
            simpa using this⟩)
        have s0 : 0 < 1 := by decide
        have s1 : Hid (([.int .i64 ((l0.length : Int) - l.length)] : List Value).length = 1 * 1) := hide rfl
        have s2 : Hid (∀ u ∈ ([.int .i64 ((l0.length : Int) - l.length)] : List Value), u.oneCell' = true) := hide (fun u hu => by simp at hu; subst hu; rfl)
        have s3 : Hid (k + 1 ≤ maxLen) := hide (by unfold maxLen; omega)
        have s4 : Hid ((k + 1) * 8 ≤ 140737488355328) := hide (by omega)
        have s5 : Hid (w1.heap.size ≤ ((wr.alloc (.cells #[.int .i64 x, .slice B l.length d, .int .i64 j] 36)).alloc (.cells #[.int .i64 ((l0.length : Int) - l.length)] 3)).drew.heap.size) := hide hED.out.size
        have hwr : IntKind.i64.wrap ((l0.length : Int) - (l.length : Int)) = (l0.length : Int) - l.length := IntWalk.i64_in _ (by omega)
        have hi1 : (0 : Int) < (ns.length : Int) := by omega
        have hi2 : 0 < ns.length := by omega
        go_wp2_with fail
        go_region_law (refine step_append_cells rfl (.tmp 18) (.tmp 29) 52 rfl w1.heap.size 3 i0 (.int .i64 0) 1 8 Alt.underlying52 hi hz0 hz1 hz2 rfl s0 u3 k (icells (lags l0.length (ns.take k))) rfl hownD.out (some ⟨wr.heap.size + 1, 0, none⟩) 1 1 [.int .i64 ((l0.length : Int) - l.length)] rfl s1.out hcs.out s2.out s3.out s4.out s5.out ?_; intro v4 w4 hv4 hg4 hat4)
        all_goals have hst' := hide (lagTo_step hn.out rfl rfl hlt3.out hED.out hv4 hg4)
        all_goals clear hv4 hg4 hat4 hownD hED hcs hwr
        all_goals go_wp2
        all_goals go_roundw
        all_goals first
          | exact ⟨k + 1, by omega, by go_num, hst'⟩
          | (simp [intOf]; omega)
      · obtain ⟨hown, hR⟩ := hT.out
        have hkl : ns.take k = ns := List.take_of_length_le (by omega)
        rw [hkl] at hown
        have hlen2 : s.length = k := by rw [hs.out]; simp [lags]; omega
        rw [← hs.out] at hown
        have fin := hide (gotRowI_of hlen2 (own_mono hown hE.out.size) (ext_trans hE.out hR))
        clear hown hR hkl hlen2 hT
        go_wp2
        go_ret
        exact fin.out
  · subst hs
    replace hok := hide hok
    go_enter Alt.func31, Try.ntmps31
    go_wp2_with fail
    refine (implChainValid_no c v hN.out hb hok.out).mono ?_
    rintro e w1 ⟨rfl, hF⟩
    have fin := hide (gotNone (ext_trans hE.out hF))
    clear hF
    go_wp2_with fail
    go_ret
    exact fin.out

end Go.Proofs.YtciekjplhbimdaaZ
