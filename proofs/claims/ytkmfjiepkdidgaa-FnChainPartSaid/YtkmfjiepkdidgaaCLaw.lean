/-
  The plain laws of chains: what the laws say of what was reckoned. Nothing of the program is in sight here but contracts told shorter.
-/
import Derived.Test.YtkmfjiepkdidgaaChain6
import Derived.Test.YtkmfjiepkdidgaaChain5
import Derived.Test.YtkmfjiepkdidgaaSame
set_option linter.all false
set_option maxRecDepth 100000
namespace Go.Proofs.Ytkmfjiepkdidgaa
open Go.RowKit

theorem lagRes_use {v : Int} {ns : List Nd} {s : List Int} (h : LagRes v ns s) (h0 : s.length ≠ 0) :
    s.length = ns.length ∧ (∃ x, s[0]? = some x ∧ x = 0) ∧ ∀ (i : Nat) (x y : Int), s[i]? = some x → s[i + 1]? = some y → x ≤ y := by
  rcases h with ⟨hok, n, hn, rfl⟩ | ⟨-, rfl⟩
  · refine ⟨by simp [lags], ⟨0, by simp [lags, hn], rfl⟩, fun i x y hx hy => ?_⟩
    simp only [lags, List.getElem?_map] at hx hy
    obtain ⟨hl, -⟩ : i + 1 < ns.length ∧ True := ⟨by
      by_cases hl : i + 1 < ns.length
      · exact hl
      · rw [List.getElem?_eq_none (by omega)] at hy; simp at hy, trivial⟩
    rw [List.getElem?_eq_getElem hl] at hy
    rw [List.getElem?_eq_getElem (by omega)] at hx
    simp at hx hy
    have := begins_len (hok.next hl).1
    omega
  · simp at h0
theorem lagRes_quiet {v : Int} {ns : List Nd} {s : List Int} (h : LagRes v ns s) (hq : ChQuiet v ns) : s.length = ns.length ∧ ∀ (i : Nat) (x : Int), s[i]? = some x → x = 0 := by
  rcases h with ⟨hok, n, hn, rfl⟩ | ⟨h, -⟩
  · refine ⟨by simp [lags], fun i x hx => ?_⟩
    simp only [lags, List.getElem?_map] at hx
    by_cases hl : i < ns.length
    · rw [List.getElem?_eq_getElem hl] at hx
      simp at hx
      have := (hq.2 i hl _ (List.getElem?_eq_getElem hl) n hn).1
      omega
    · rw [List.getElem?_eq_none (by omega)] at hx; simp at hx
  · exact absurd hq.1 h
theorem rdRes_use {v key r : Int} {ns : List Nd} (h : RdRes v ns key r true) :
    ∃ n s, ns[ns.length - 1]? = some n ∧ stateOf n.log = s ∧ s.length = 5 ∧ n.log.length ≤ 12 ∧ 1 ≤ ns.length ∧ ∃ k : Nat, key = k ∧ k < 5 ∧ s[k]? = some r := by
  rcases h with ⟨hok, hk, n, hn, x, hx, hr⟩ | ⟨-, -, hb⟩
  · obtain ⟨h0, rfl, -⟩ | ⟨-, -, hb⟩ := hr
    · have h1 := hok.2.1
      obtain ⟨hl, e⟩ := List.getElem?_eq_some_iff.1 hn
      have h2 := hok.node hl
      have h3 := hok.log12 hl
      rw [e] at h2 h3
      obtain ⟨a, l, c, e2⟩ := nd_cases n
      rw [e2] at h2
      have h4 := (ndOk_parts h2).2.2.1
      refine ⟨n, stBehind n.log, hn, ?_, stBehind_len _, h3, h1.1, key.toNat, by omega, by omega, hx⟩
      rw [e2]
      unfold stateOf
      rw [if_pos h4]
    · cases hb
  · cases hb
section
variable {v : Int} {ns : List Nd}
/-- What a node knows to be everywhere, each node has. -/
theorem ChOk.everywhere (h : ChOk v ns) {i k : Nat} (hi : i < ns.length) (hk : k < ns.length) :
    0 ≤ (ns[i]).done ∧ (ns[i]).done ≤ (ns[i]).log.length ∧ (ns[i]).done ≤ (ns[k]).log.length ∧ (ns[k]).log.take (ns[i]).done.toNat = (ns[i]).log.take (ns[i]).done.toNat := by
  have hd : 0 ≤ (ns[i]).done ∧ (ns[i]).done ≤ (ns[i]).log.length := by
    have := h.node hi
    obtain ⟨a, l, c, e⟩ := nd_cases (ns[i])
    rw [e] at this ⊢
    exact ⟨(ndOk_parts this).2.2.2.2.1, (ndOk_parts this).2.2.2.2.2⟩
  have ht := h.tail
  have hdt := h.dones' (i := ns.length - 1) (k := i) (by omega) (by omega)
  have hbt := begins_len (h.begins' (i := ns.length - 1) (k := k) (by omega) (by omega))
  have hle : (ns[i]).done ≤ (ns[k]).log.length := by omega
  refine ⟨hd.1, hd.2, hle, ?_⟩
  by_cases hik : k ≤ i
  · have e := begins_pre (h.begins' hi hik)
    rw [← e, List.take_take, Nat.min_eq_left (by omega)]
  · have e := begins_pre (h.begins' hk (show i ≤ k by omega))
    rw [← e, List.take_take, Nat.min_eq_left (by omega)]
/-- The chain without its head is one. -/
theorem ChOk.behind (h : ChOk v ns) (h2 : 2 ≤ ns.length) : ChOk v (ns.drop 1) := by
  refine ⟨h.1, by have := h.2.1; simp; omega, fun i hi n hn => ?_, fun n hn => ?_⟩
  · rw [List.getElem?_drop] at hn
    simp at hi
    obtain ⟨f1, f2, f3⟩ := h.2.2.1 (1 + i) (by omega) n hn
    refine ⟨f1, fun k hk m hm => ?_, fun h0 m hm => ?_⟩
    · rw [List.getElem?_drop] at hm
      exact f2 (1 + k) (by omega) m hm
    · rw [List.getElem?_drop] at hm
      have e : 1 + (i - 1) = 1 + i - 1 := by omega
      rw [e] at hm
      exact f3 (by omega) m hm
  · rw [List.getElem?_drop] at hn
    have e : 1 + ((ns.drop 1).length - 1) = ns.length - 1 := by simp; omega
    rw [e] at hn
    exact h.2.2.2 n hn
/-- Two nodes with one id are none. -/
theorem chOk_twice {n : Nd} (hn : ns[0]? = some n) : ¬ ChOk v (n :: ns) := fun h => by
  have h1 := (h.2.2.1 1 (by
    have := (List.getElem?_eq_some_iff.1 hn).1
    simp; omega) n (by simpa using hn)).2.1 0 (by omega) n (by simp)
  exact h1 rfl
end
theorem begins_yes {v : Int} {ns : List Nd} (h : ChOk v ns) {i k : Nat} {x x' j j' : Int} {l l' : List Upd} (hn : ns[i]? = some ⟨x, l, j⟩) (hm : ns[k]? = some ⟨x', l', j'⟩) (hk : k ≤ i) : begins l l' = true := by
  obtain ⟨hi, e⟩ := List.getElem?_eq_some_iff.1 hn
  obtain ⟨hk2, e'⟩ := List.getElem?_eq_some_iff.1 hm
  have := h.begins' hi hk
  rw [e, e'] at this
  exact this
theorem everywhere_at {v : Int} {ns : List Nd} (h : ChOk v ns) {i k : Nat} {x x' j j' : Int} {l l' : List Upd} (hn : ns[i]? = some ⟨x, l, j⟩) (hm : ns[k]? = some ⟨x', l', j'⟩) :
    ∃ d : Nat, j = d ∧ d ≤ l.length ∧ d ≤ l'.length ∧ l'.take d = l.take d := by
  obtain ⟨hi, e⟩ := List.getElem?_eq_some_iff.1 hn
  obtain ⟨hk2, e'⟩ := List.getElem?_eq_some_iff.1 hm
  obtain ⟨f1, f2, f3, f4⟩ := h.everywhere hi hk2
  rw [e] at f1 f2 f3 f4
  rw [e'] at f3 f4
  simp only at f1 f2 f3 f4
  exact ⟨j.toNat, by omega, by omega, by omega, f4⟩

/-! ### Contracts told shorter -/
theorem GotRowI.useR {w w' : World} {xs : List Int} {e : Ending} (h : GotRowI w xs e w') : ∃ A c, e = .returned (.slice A xs.length c) ∧ Hid (IntsR w' A xs) ∧ Ext w w' := by
  obtain ⟨A, c, rfl, h1, h2, h3, h4⟩ := h
  exact ⟨A, c, rfl, CellsR.of_own h3, h4⟩
theorem sameInts_sm {A B : Option Addr} {l : List Int} (c d : Nat) {w : World} (h : IntsR w A l) (h' : IntsR w B l) (hm : l.length ≤ 1048576) :
    Calls Try.prog 23 #[.slice A l.length c, .slice B l.length d] w fun e w' => e = .returned (.bool true) ∧ Ext w w' :=
  (sameInts_any c d h h' hm hm).mono fun e w' ⟨h1, h2⟩ => ⟨by rw [h1]; simp, h2⟩
theorem sameLog_sm {A B : Option Addr} {l : List Upd} (c d : Nat) {w : World} (h : LogR w A l) (h' : LogR w B l) (hm : l.length ≤ 1048576) :
    Calls Try.prog 19 #[.slice A l.length c, .slice B l.length d] w fun e w' => e = .returned (.bool true) ∧ Ext w w' :=
  (sameLog_any c d h h' hm hm).mono fun e w' ⟨h1, h2⟩ => ⟨by rw [h1]; simp, h2⟩
theorem sameLog_cut {A B : Option Addr} {l m : List Upd} {n : Nat} (c d : Nat) {w : World} (h : LogR w A l) (h' : LogR w B m) (h1 : n ≤ l.length) (h2 : n ≤ m.length) (he : l.take n = m.take n) (hm : n ≤ 1048576) :
    Calls Try.prog 19 #[.slice A n c, .slice B n d] w fun e w' => e = .returned (.bool true) ∧ Ext w w' := by
  have e1 : (l.take n).length = n := by rw [List.length_take]; omega
  have f1 := h.take n
  have f2 := h'.take n
  rw [← he] at f2
  have := sameLog_sm c d f1 f2 (by omega)
  rw [e1] at this
  exact this
theorem implLogBegins_yes {A B : Option Addr} {l m : List Upd} (c d : Nat) {w : World} (h : LogR w A l) (h' : LogR w B m) (hm : l.length ≤ 1048576) (hm' : m.length ≤ 1048576) (hb : begins l m = true) :
    Calls Try.prog 18 #[.slice A l.length c, .slice B m.length d] w fun e w' => e = .returned (.bool true) ∧ Ext w w' := by
  rw [← hb]; exact implLogBegins_any c d h h' hm hm'
end Go.Proofs.Ytkmfjiepkdidgaa
