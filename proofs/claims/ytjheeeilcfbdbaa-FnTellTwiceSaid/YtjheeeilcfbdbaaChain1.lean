/-
  Contracts: chains: the place of a node, the tail, validity, both.
-/
import Derived.Test.YtjheeeilcfbdbaaCMem
set_option linter.all false
set_option maxRecDepth 100000
namespace Go.Proofs.Ytjheeeilcfbdbaa
open Go.RowKit
attribute [local go_sem ↓] Go.wp_at_zero Go.wp_at_succ

def Placed (w : World) (ns : List Nd) (id : Int) (e : Ending) (w' : World) : Prop :=
  ∃ r : Int, e = .returned (.int .i64 r) ∧ Ext w w' ∧ ((∃ k : Nat, r = k ∧ (∃ n, ns[k]? = some n ∧ n.id = id) ∧ ∀ j, j < k → ∀ n, ns[j]? = some n → n.id ≠ id) ∨ (r = -1 ∧ ∀ (j : Nat) n, ns[j]? = some n → n.id ≠ id))

set_option maxHeartbeats 800000 in
theorem chainPlace_any {A : Option Addr} {ns : List Nd} (c : Nat) (v id : Int) {w : World} (h : NodesR w A ns) (hb : bulk ns ≤ 1048576) :
    Calls Try.prog 27 #[.agg #[.int .i64 v, .slice A ns.length c], .int .i64 id] w (Placed w ns id) := by
  replace h := hide h
  have hl := bulk_len ns
  go_enter Try.func27, Try.ntmps27
  go_wp2_with fail
  go_loopw [10] (fun i wr => ∃ k : Nat, k ≤ ns.length ∧ i = .int .i64 k ∧ Hid (Ext w wr) ∧ Hid (∀ j, j < k → ∀ n, ns[j]? = some n → n.id ≠ id)) (fun i _ => ns.length - (intOf i).toNat)
  case atStart => exact ⟨0, Nat.zero_le _, rfl, hide (ext_alloc (ext_refl _) _), hide (fun j hj => absurd hj (Nat.not_lt_zero _))⟩
  case round =>
    obtain ⟨k, hk, rfl, hE, hT⟩ := hrel
    by_cases hlt : k < ns.length
    · obtain ⟨b, o, x, l, j, B, d, hA, hbl, hn, hld, hdm, hB, c0, c1, c2, c1', c2'⟩ := node_at (h.out.ext hE.out) hlt
      subst hA
      replace hn := hide hn
      clear hB
      by_cases hx : x = id
      · have ht : (x == id) = true := by simpa using hx
        replace hx := hide hx
        go_wp2_with fail
        go_ret
        exact ⟨k, rfl, ext_alloc hE.out _, .inl ⟨k, rfl, ⟨_, hn.out, hx.out⟩, hT.out⟩⟩
      · have ht : (x == id) = false := by simpa using hx
        replace hx := hide hx
        go_wp2_with fail
        go_roundw
        case rel =>
          refine ⟨k + 1, by omega, by go_num, hide (ext_alloc hE.out _), hide (fun j' hj' n hn' => ?_)⟩
          by_cases e : j' = k
          · subst e
            rw [hn.out] at hn'
            cases hn'
            exact hx.out
          · exact hT.out j' (by omega) n hn'
        case measure => simp [intOf]; omega
    · go_wp2
      go_ret
      refine ⟨-1, rfl, hE.out, .inr ⟨rfl, fun j n hn => hT.out j ?_ n hn⟩⟩
      have := (List.getElem?_eq_some_iff.1 hn).1
      omega

/-- The node at a place is handed back. -/
def GotAt (w : World) (ns : List Nd) (i : Nat) (e : Ending) (w' : World) : Prop :=
  ∃ (x : Int) (l : List Upd) (j : Int) (B : Option Addr) (d : Nat), ns[i]? = some ⟨x, l, j⟩ ∧ e = .returned (.agg #[.int .i64 x, .slice B l.length d, .int .i64 j]) ∧ l.length ≤ d ∧ d ≤ maxLen ∧ LogR w' B l ∧ Ext w w'
set_option maxHeartbeats 800000 in
theorem implTailOf_any {A : Option Addr} {ns : List Nd} (c : Nat) (v : Int) {w : World} (h : NodesR w A ns) (hb : bulk ns ≤ 1048576) (hp : 1 ≤ ns.length) :
    Calls Try.prog 29 #[.agg #[.int .i64 v, .slice A ns.length c]] w (GotAt w ns (ns.length - 1)) := by
  have hl := bulk_len ns
  obtain ⟨q, hq⟩ : ∃ q, ns.length = q + 1 := ⟨ns.length - 1, by omega⟩
  obtain ⟨b, o, x, l, j, B, d, hA, hbl, hn, hld, hdm, hB, c0, c1, c2, c1', c2'⟩ := node_at h (i := q) (by omega)
  subst hA
  rw [hq] at hl ⊢
  replace hB := hide hB
  replace hn := hide hn
  clear h
  replace hq := hide hq
  go_enter Try.func29, Try.ntmps29
  go_wp2_with fail
  refine bodyPost_ret (v := .agg #[.int .i64 x, .slice B l.length d, .int .i64 j]) (by simp [results, Try.results29, go_sem]) rfl ?_
  exact ⟨x, l, j, B, d, hn.out, rfl, hld, hdm, hB.out.ext (ext_alloc (ext_alloc (ext_refl _) _) _), ext_alloc (ext_alloc (ext_refl _) _) _⟩


end Go.Proofs.Ytjheeeilcfbdbaa
