/-
  Contracts: drawing a chain and a place.
-/
import Derived.Test.YtciekjplhbimdaaZCDraw3
import Derived.Test.YtciekjplhbimdaaZCDraw4
set_option linter.all false
set_option maxRecDepth 100000
namespace Go.Proofs.YtciekjplhbimdaaZ
open Go.RowKit
attribute [local go_sem ↓] Go.wp_at_zero Go.wp_at_succ

def GotCP (w : World) (e : Ending) (w' : World) : Prop :=
  ∃ (A : Option Addr) (c : Nat) (v : Int) (ns : List Nd) (d : Int), e = .returned (.tuple #[.agg #[.int .i64 v, .slice A ns.length c], .int .i64 d]) ∧ 1 ≤ ns.length ∧ ns.length ≤ 5 ∧ Low ns ∧ ns.length ≤ c ∧ c ≤ maxLen ∧ Hid (NodesR w' A ns) ∧ Ext w w' ∧ (-1 ≤ d ∧ d ≤ 4)
theorem gotCP_mk {w0 W : World} {b g lo hi c : Nat} {A : Option Addr} {ns : List Nd} {u0 u1 : Value} {v z : Int} (hb : Blk W b 25 #[u0, u1]) (hN : NodesOwn W lo hi A c ns) (hl : Low ns) (ho : w0.grownBy W (some g)) (h1 : w0.heap.size ≤ b) (h2 : w0.heap.size ≤ g) (l1 : 1 ≤ ns.length) (l5 : ns.length ≤ 5) (hz : -1 ≤ z ∧ z ≤ 4) (x y : Value) :
    GotCP w0 (.returned (.tuple #[.agg #[.int .i64 v, .slice A ns.length c], .int .i64 z])) ((W.setCell ⟨b, 0, none⟩ x).setCell ⟨b, 1, none⟩ y) :=
  ⟨A, c, v, ns, z, rfl, l1, l5, hl, hN.cap.1, hN.cap.2, hide (hN.handed hb x y).read, ext_of_only (g := g) (only_turned ho (Turned.set2 (w := W) b x y) h1) h2, hz⟩
theorem place_in {n : Nat} {x y D : Int} (h1 : 1 ≤ n) (h5 : n ≤ 5) (hx : 0 ≤ x ∧ x < (n : Int)) (hy : 0 ≤ y ∧ y < 20) (hD : IntKind.i64.wrap (x - IntKind.i64.wrap (y.tdiv 19)) = D) : -1 ≤ D ∧ D ≤ 4 := by
  have e : y.tdiv 19 = 0 ∨ y.tdiv 19 = 1 := by
    rw [Int.tdiv_eq_ediv_of_nonneg hy.1]
    omega
  have e1 : IntKind.i64.wrap (y.tdiv 19) = y.tdiv 19 := IntWalk.i64_in _ (by omega)
  rw [e1, IntWalk.i64_in _ (by omega)] at hD
  omega
def DrewAtB (w : World) (g : Nat) (e : Ending) (w' : World) : Prop :=
  ∃ (A : Option Addr) (c : Nat) (v : Int) (ns : List Nd) (d : Int), e = .returned (.tuple #[.agg #[.int .i64 v, .slice A ns.length c], .int .i64 d]) ∧ 1 ≤ ns.length ∧ ns.length ≤ 5 ∧ Low ns ∧ NodesOwn w' w.heap.size w'.heap.size A c ns ∧ w.grownBy w' (some g) ∧ (-1 ≤ d ∧ d ≤ 4)
set_option maxHeartbeats 3200000 in
theorem l91At_anyB {w : World} {g P : Nat} (h : RdAt w g P) (hP : P ≤ 134217728) : Calls Alt.prog 42 #[.pointer (some ⟨g, 0, none⟩)] w (DrewAtB w g) := by
  have hlt := h.lt
  have hR := hide (Blk.new w 25 #[.int .i64 0, .slice none 0 0])
  have hr := h.ext (ext_alloc (ext_refl w) (.cells #[.int .i64 0, .slice none 0 0] 25))
  have hsz : (w.alloc (.cells #[.int .i64 0, .slice none 0 0] 25)).heap.size = w.heap.size + 1 := by simp
  go_enter Alt.func42, Try.ntmps42
  go_wp2_with fail
  refine (l91Chain_any hr (by omega)).mono ?_
  rintro e w2 ⟨A2, c2, v, ns, rfl, h1, h5, hlow, hN, hg, hr2⟩
  have hne3 : w.heap.size ≠ w2.heap.size := by have := hg.size; rw [hsz] at this; omega
  have hC := hide (cf_start (v := v) (hR.out.grown hg (by simp; omega)) hN hg hr2 (by rw [hsz]; omega) (by rw [hsz]; omega) (by omega) (low_of hlow))
  clear hg hr hR hN hr2 hlow
  have hCA := hide (hC.out.ext (show Ext _ (w2.alloc (.cells #[.int .i64 v, .slice A2 ns.length c2] 25)).drew from ext_drew (ext_refl _)))
  have hp0 : P + 90 ≤ 1073741824 := by omega
  have hp1 : P + 90 + 1 ≤ 1073741824 := by omega
  go_wp2_with fail
  go_region_held3 (fun w' => w'.cell? ⟨w2.heap.size, 0, none⟩ = some (.int .i64 v) ∧ w'.cell? ⟨w2.heap.size, 1, none⟩ = some (.slice A2 ns.length c2)) (first | exact ⟨m_0, m_1⟩ | exact ⟨n_0, n_1⟩ | go_keep)
    ((go_at_call 34; first
      | ((with_reducible refine (pick_any _ hCA.out.rd hp0).mono ?_); rintro e w3 ⟨x, rfl, hx, -, hg3, hr3⟩; have hCB := hide (hCA.out.pick hg3 hr3); obtain ⟨n_0, n_1, n_lt, n_f0, n_f1⟩ := hCB.out.chain.at2f)
      | ((with_reducible refine (pick_any 20 hCB.out.rd hp1).mono ?_); rintro e w4 ⟨y, rfl, hy, -, hg4, hr4⟩; have hCC := hide (hCB.out.pick hg4 hr4); obtain ⟨m_0, m_1, m_lt, m_f0, m_f1⟩ := hCC.out.chain.at2f; obtain ⟨r_0, r_1, r_lt, r_f0, r_f1⟩ := hCC.out.back.at2f)))
  obtain ⟨D, hD⟩ : ∃ D, IntKind.i64.wrap (x - IntKind.i64.wrap (y.tdiv 19)) = D := ⟨_, rfl⟩
  have hDb : -1 ≤ D ∧ D ≤ 4 := place_in h1 h5 (hx (by omega)) (hy (by omega)) hD
  have fin : Hid (DrewAtB w g (.returned (.tuple #[.agg #[.int .i64 v, .slice A2 ns.length c2], .int .i64 D])) ((w4.setCell ⟨w.heap.size, 0, none⟩ (.int .i64 v)).setCell ⟨w.heap.size, 1, none⟩ (.slice A2 ns.length c2))) := hide
    ⟨A2, c2, v, ns, D, rfl, h1, h5, hCC.out.low, (hCC.out.nodes.handed hCC.out.back _ _).wide (by rw [hsz]; omega) (by have := hCC.out.hiW; simpa [World.setCell] using this),
      only_turned (only_pick (only_alloc (World.grownBy.refl w (some g)) (.cells #[.int .i64 0, .slice none 0 0] 25)) hCC.out.only) (Turned.set2 (w := w4) w.heap.size (.int .i64 v) (.slice A2 ns.length c2)) (Nat.le_refl _), hDb⟩
  clear hx hy hr3 hr4 hg3 hg4 hCA hCB hCC
  go_wp2_with fail
  refine bodyPost_ret (v := .tuple #[.agg #[.int .i64 v, .slice A2 ns.length c2], .int .i64 D]) (by simp [results, Try.results42, go_sem, r_0, r_1, hD]) rfl ?_
  exact fin.out
theorem gotCP_at {w0 w W : World} {b g : Nat} {e : Ending} (hE : Ext w0 w) (hb : Blk w b 25 #[.int .i64 0, .slice none 0 0]) (hbg : b ≠ g) (h1 : w0.heap.size ≤ b) (h2 : w0.heap.size ≤ g) (h : DrewAtB w g e W) :
    ∃ (A : Option Addr) (c : Nat) (v : Int) (ns : List Nd) (d : Int), e = .returned (.tuple #[.agg #[.int .i64 v, .slice A ns.length c], .int .i64 d]) ∧ Hid (Blk W b 25 #[.int .i64 0, .slice none 0 0]) ∧
      Hid (GotCP w0 (.returned (.tuple #[.agg #[.int .i64 v, .slice A ns.length c], .int .i64 d])) ((W.setCell ⟨b, 0, none⟩ (.int .i64 v)).setCell ⟨b, 1, none⟩ (.slice A ns.length c))) := by
  obtain ⟨A, c, v, ns, d, rfl, l1, l5, hlow, hN, hg, hdb⟩ := h
  have hb' := hb.grown hg (by simp; exact hbg)
  exact ⟨A, c, v, ns, d, rfl, hb', gotCP_mk hb' hN hlow (only_pick (only_of_ext hE _) hg) h1 h2 l1 l5 hdb _ _⟩
theorem drawChainPass_anyB {A : Option Addr} {n c : Nat} {w : World} (h : CodeR w A n c) : Calls Alt.prog 16 #[.slice A n c] w (GotCP w) := by
  go_enter Alt.func16, Try.ntmps16
  go_wp2_with fail
  refine (l6Open_any (h.alloc _)).mono ?_
  rintro e w1 ⟨rfl, hE, hr⟩
  simp only [World.size_alloc] at hE hr ⊢
  have hR := hide ((Blk.new w 25 #[.int .i64 0, .slice none 0 0]).ext (by exact hE))
  replace hE := hide (ext_trans (ext_alloc (ext_refl w) _) hE)
  have s1 := hr.lt
  go_wp2_with fail
  refine (l91At_anyB hr (by omega)).mono ?_
  intro e w2 hD
  obtain ⟨A2, c2, v, ns, d, rfl, hB, hG⟩ := gotCP_at hE.out hR.out (by omega) (Nat.le_refl _) (Nat.le_succ _) hD
  clear hD hR hr
  obtain ⟨r_0, r_1, r_lt, r_f0, r_f1⟩ := hB.out.at2f
  go_wp2_with fail
  refine bodyPost_ret (v := .tuple #[.agg #[.int .i64 v, .slice A2 ns.length c2], .int .i64 d]) (by simp [results, Try.results16, go_sem, r_0, r_1]) rfl ?_
  exact hG.out
end Go.Proofs.YtciekjplhbimdaaZ
