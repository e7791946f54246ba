/-
  Contracts: drawing a chain that is to be settled.
-/
import Derived.Test.YtciekjplhbimdaaZCDraw3
import Derived.Test.YtciekjplhbimdaaZCDraw4
set_option linter.all false
set_option maxRecDepth 100000
namespace Go.Proofs.YtciekjplhbimdaaZ
open Go.RowKit
attribute [local go_sem ↓] Go.wp_at_zero Go.wp_at_succ

theorem drawChainSettle_any {A : Option Addr} {n c : Nat} {w : World} (h : CodeR w A n c) : Calls Alt.prog 27 #[.slice A n c] w (GotC w) := by
  go_enter Alt.func27, Try.ntmps27
  go_wp2_with fail
  refine (l6Open_any (h.alloc _)).mono ?_
  rintro e w1 ⟨rfl, hE, hr⟩
  simp only [World.size_alloc] at hE hr ⊢
  have hR := hide ((Blk.new w 25 #[.int .i64 0, .slice none 0 0]).ext (by exact hE))
  replace hE := hide (ext_trans (ext_alloc (ext_refl w) _) hE)
  have s1 := hr.lt
  go_wp2_with fail
  refine (l91Chain_any hr (by omega)).mono ?_
  rintro e w2 ⟨A2, c2, v, ns, rfl, h1, h5, hlow, hN, hg, -⟩
  replace hR := hide (hR.out.grown hg (by simp))
  have ho := hide (only_pick (only_of_ext hE.out _) hg)
  replace hN := hide hN
  replace hlow := hide (low_of hlow)
  clear hg hr hE
  obtain ⟨hR_0, hR_1, hR_lt, hR_f0, hR_f1⟩ := hR.out.at2f
  go_wp2_with fail
  refine bodyPost_ret (v := .agg #[.int .i64 v, .slice A2 ns.length c2]) (by simp [results, Try.results27, go_sem, hR_0, hR_1, hR_lt]) rfl ?_
  exact gotC_mk hR.out hN.out hlow.out ho.out (Nat.le_refl _) (by omega) h1 h5 _ _
end Go.Proofs.YtciekjplhbimdaaZ
