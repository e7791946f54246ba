/-
  Contracts: marks laid into rows of numbers, whatever their address.
-/
import Derived.Test.YtkmfjiepkdidgaaMark
set_option linter.all false
set_option maxRecDepth 100000
namespace Go.Proofs.Ytkmfjiepkdidgaa
open Go.RowKit

theorem markIntS_any {w : World} {base : Nat} {A : Option Addr} {n c : Nat} {xs : List Value} (k : Int) (h : w.ownsRow base 3 1 (.slice A n c) n xs) (hn : n ≤ 1048576) (hk : 0 ≤ k) (hk' : k ≤ 1048576) :
    Calls Try.prog 32 #[.slice A n c, .int .i64 k] w fun e w' => e = .returned (.int .i64 (k + n)) ∧
      w'.ownsRow base 3 1 (.slice A n c) n (icells (marksI k n)) ∧ w.grownBy w' (Value.slice A n c).ownBlock := by
  rcases h.2 with ⟨hv, hn0⟩ | ⟨g, cap, cur, hv, r⟩
  · injection hv with hA _ hc
    subst hA hc hn0
    have fin := hide (World.ownsRow_nil w base 3 1)
    clear h
    go_enter Try.func32, Try.ntmps32
    go_wp2_with fail
    go_loop [1, 5] (fun q i => i = .int .i64 0 ∧ q = .int .i64 k) (fun _ _ => 0)
    case atStart => exact ⟨rfl, rfl⟩
    case round =>
      obtain ⟨rfl, rfl⟩ := hrel
      go_wp2
      go_ret
      exact ⟨by simp, fin.out, World.grownBy.refl _ _⟩
  · injection hv with hA _ hc
    subst hA hc
    exact markIntS_own k h hn hk hk'
end Go.Proofs.Ytkmfjiepkdidgaa
