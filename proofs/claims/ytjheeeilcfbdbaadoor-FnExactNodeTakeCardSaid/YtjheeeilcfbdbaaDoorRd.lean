/-
  Contracts: the reader of a code: l6Open, pick.
-/
import Derived.Test.YtjheeeilcfbdbaaDoorBase
import Derived.Deep.RegionWith
import Derived.Deep.DeepCutAuto
import Derived.Laws.BitsAllLaws
import Derived.Laws.BitsLemmas
set_option linter.all false
set_option maxRecDepth 100000
namespace Go.Proofs.YtjheeeilcfbdbaaDoor
open Go.RowKit

/-- A row of bytes below block g. -/
def BytesR (w : World) (g : Nat) (A : Option Addr) (n : Nat) : Prop :=
  0 < n → ∃ b o, A = some ⟨b, o, none⟩ ∧ b < g ∧ ∀ i, i < n → ∃ x : Int, 0 ≤ x ∧ x ≤ 255 ∧ w.cell? ⟨b, o + i, none⟩ = some (.int .u8 x)

def Picked (w : World) (g : Nat) (p n : Int) (e : Ending) (w' : World) : Prop :=
  ∃ (x : Int) (k : Nat), e = .returned (.int .i64 x) ∧ (1 ≤ n → 0 ≤ x ∧ x < n) ∧ (n < 1 → x = 0) ∧ w' = (w.setCell ⟨g, 1, none⟩ (.int .i64 (p + 1))).drewN k

theorem rem_ok (x n : Int) (h : 0 ≤ x) : (1 ≤ n → 0 ≤ x % n ∧ x % n < n) ∧ (n < 1 → ¬ (1 ≤ n)) :=
  ⟨fun hn => ⟨Int.emod_nonneg _ (by omega), Int.emod_lt_of_pos _ (by omega)⟩, fun h => by omega⟩

theorem ofInt_i64 (a : Nat) (ha : a < 9223372036854775808) : (BitVec.ofInt 64 (a : Int)).toNat = a := by
  rw [BitVec.ofInt_natCast, BitVec.toNat_ofNat]; exact Nat.mod_eq_of_lt (by omega)
theorem xor_nat (a b : Nat) (ha : a < 9223372036854775808) (hb : b < 9223372036854775808) : bits .xor .i64 (a : Int) (b : Int) = ((a ^^^ b : Nat) : Int) := by
  have hx : a ^^^ b < 2 ^ 63 := Nat.xor_lt_two_pow (by omega) (by omega)
  show IntKind.i64.wrap ((BitVec.ofInt 64 (a : Int) ^^^ BitVec.ofInt 64 (b : Int)).toNat : Int) = _
  rw [BitVec.toNat_xor, ofInt_i64 a ha, ofInt_i64 b hb, IntKind.wrap_i64]
  omega

section
variable (g : Nat) (A : Option Addr) (m c : Nat) (p n : Int) (w : World) (c0 : w.cell? ⟨g, 0, none⟩ = some (.slice A m c)) (c1 : w.cell? ⟨g, 1, none⟩ = some (.int .i64 p)) (f0 : w.frozen? ⟨g, 1, none⟩ = false)
  (hp : 0 ≤ p) (hp' : p ≤ 1073741824)
include c0 c1 f0 hp hp'
theorem pick_lo (hn : n < 1) : Calls Tryd.prog 65 #[.pointer (some ⟨g, 0, none⟩), .int .i64 n] w (Picked w g p n) := by
  go_enter Tryd.func65, Tryd.ntmps65
  go_wp2
  go_ret
  exact ⟨0, 0, rfl, fun h => by omega, fun _ => rfl, rfl⟩

theorem pick_none (hn : ¬ n < 1) (hm : m = 0) : Calls Tryd.prog 65 #[.pointer (some ⟨g, 0, none⟩), .int .i64 n] w (Picked w g p n) := by
  subst hm
  go_enter Tryd.func65, Tryd.ntmps65
  go_wp2
  go_ret
  exact ⟨0, 0, rfl, fun h => by omega, fun _ => rfl, rfl⟩

theorem pick_in (hn : ¬ n < 1) (hm : 0 < m) (hm' : m ≤ 2000) (b o : Nat) (x : Int) (hx : 0 ≤ x) (hx' : x ≤ 255) (q : Nat) (hq : p = q) (hqm : q < m) (hA : A = some ⟨b, o, none⟩) (hb : b < g) (hc : w.cell? ⟨b, o + q, none⟩ = some (.int .u8 x)) :
    Calls Tryd.prog 65 #[.pointer (some ⟨g, 0, none⟩), .int .i64 n] w (Picked w g p n) := by
  subst hq
  subst hA
  have e0 : ((m : Int) == 0) = false := by simp; omega
  go_enter Tryd.func65, Tryd.ntmps65
  go_wp2
  go_ret
  exact ⟨x % n, 0, rfl, (rem_ok x n hx).1, fun h => by omega, rfl⟩

theorem pick_out (hn : ¬ n < 1) (hm : 0 < m) (hm' : m ≤ 2000) (b o : Nat) (q : Nat) (hq : p = q) (hqm : ¬ q < m) (hA : A = some ⟨b, o, none⟩) (hb : b < g)
    (j1 j2 d s z : Nat) (x y : Int) (hx : 0 ≤ x) (hx' : x ≤ 255) (hy : 0 ≤ y) (hy' : y ≤ 255) (h1 : j1 < m) (h2 : j2 < m) (hcx : w.cell? ⟨b, o + j1, none⟩ = some (.int .u8 x)) (hcy : w.cell? ⟨b, o + j2, none⟩ = some (.int .u8 y))
    (t1 : (q : Int).tmod m = j1) (t2 : ((q : Int) * 7 + 3).tmod m = j2) (e1 : IntKind.i64.wrap ((q : Int) * 7) = q * 7) (e2 : IntKind.i64.wrap ((q : Int) * 7 + 3) = q * 7 + 3)
    (e3 : IntKind.i64.wrap (x * 131) = x * 131) (e4 : IntKind.i64.wrap (y * 1117) = y * 1117) (e5 : IntKind.i64.wrap (x * 131 + y * 1117) = x * 131 + y * 1117) (e6 : IntKind.i64.wrap ((q : Int) * 29) = q * 29)
    (e7 : IntKind.i64.wrap (x * 131 + y * 1117 + q * 29) = x * 131 + y * 1117 + q * 29) (e8 : IntKind.i64.wrap ((q : Int) / m) = d) (e9 : IntKind.i64.wrap ((d : Int) * 53) = d * 53)
    (e10 : IntKind.i64.wrap (x * 131 + y * 1117 + q * 29 + d * 53) = s) (hs : s ≤ 4611686018427387904) (e11 : bits .xor .i64 (s : Int) ((s : Int) / 64) = z) :
    Calls Tryd.prog 65 #[.pointer (some ⟨g, 0, none⟩), .int .i64 n] w (Picked w g p n) := by
  subst hq
  subst hA
  have e0 : ((m : Int) == 0) = false := by simp; omega
  have e0' : ((m : Int) == 0) = false := by simp; omega
  have n1 : ¬ (q : Int) < (m : Int) := by omega
  have l1 : (j1 : Int) < (m : Int) := by omega
  have l2 : (j2 : Int) < (m : Int) := by omega
  go_enter Tryd.func65, Tryd.ntmps65
  go_wp2
  go_quiet (fail)
  go_wp2
  go_ret
  exact ⟨z % n, _, rfl, (rem_ok z n (by omega)).1, fun h => by omega, rfl⟩
end

/-- The reader in block g: it has read at most P bytes. -/
def RdAt (w : World) (g P : Nat) : Prop :=
  ∃ A m c p, w.heap[g]? = some (.cells #[.slice A m c, .int .i64 p] 92 (0, 0)) ∧ 0 ≤ p ∧ p ≤ (P : Int) ∧ m ≤ 2000 ∧ BytesR w g A m
theorem RdAt.lt {w : World} {g P : Nat} (h : RdAt w g P) : g < w.heap.size := by
  obtain ⟨A, m, c, p, hg, _⟩ := h
  exact (Array.getElem?_eq_some_iff.1 hg).1
theorem RdAt.more {w : World} {g P P' : Nat} (h : RdAt w g P) (hP : P ≤ P') : RdAt w g P' := by
  obtain ⟨A, m, c, p, hg, h0, h1, h2, h3⟩ := h
  exact ⟨A, m, c, p, hg, h0, by omega, h2, h3⟩
theorem BytesR.keep {w w' : World} {g n : Nat} {A : Option Addr} (h : BytesR w g A n) (hb : ∀ k, k < g → w'.heap[k]? = w.heap[k]?) : BytesR w' g A n := fun hn => by
  obtain ⟨b, o, hA, hlt, hc⟩ := h hn
  refine ⟨b, o, hA, hlt, fun i hi => ?_⟩
  obtain ⟨x, h1, h2, h3⟩ := hc i hi
  exact ⟨x, h1, h2, (World.cell?_of_block (w := w) (hb b hlt)).trans h3⟩
theorem RdAt.keep {w w' : World} {g P : Nat} (h : RdAt w g P) (hb : ∀ k, k < w.heap.size → w'.heap[k]? = w.heap[k]?) : RdAt w' g P := by
  have hl := h.lt
  obtain ⟨A, m, c, p, hg, h0, h1, h2, h3⟩ := h
  exact ⟨A, m, c, p, (hb g hl).trans hg, h0, h1, h2, h3.keep fun k hk => hb k (by omega)⟩
theorem RdAt.ext {w w' : World} {g P : Nat} (h : RdAt w g P) (hb : Ext w w') : RdAt w' g P := h.keep hb.block

/-- What a pick leaves. -/
def PickedR (w : World) (g P : Nat) (n : Int) (e : Ending) (w' : World) : Prop :=
  ∃ x : Int, e = .returned (.int .i64 x) ∧ (1 ≤ n → 0 ≤ x ∧ x < n) ∧ (n < 1 → x = 0) ∧ w.grownBy w' (some g) ∧ RdAt w' g (P + 1)

theorem pick_any {w : World} {g P : Nat} (n : Int) (h : RdAt w g P) (hP : P ≤ 1073741824) : Calls Tryd.prog 65 #[.pointer (some ⟨g, 0, none⟩), .int .i64 n] w (PickedR w g P n) := by
  obtain ⟨A, m, c, p, hg, h0, h1, h2, h3⟩ := h
  have c0 : w.cell? ⟨g, 0, none⟩ = some (.slice A m c) := by simp [World.cell?, hg]
  have c1 : w.cell? ⟨g, 1, none⟩ = some (.int .i64 p) := by simp [World.cell?, hg]
  have f0 : w.frozen? ⟨g, 1, none⟩ = false := by simp [World.frozen?, hg]
  have fin : ∀ e w', Picked w g p n e w' → PickedR w g P n e w' := by
    rintro e w' ⟨x, k, he, hx, hx0, rfl⟩
    refine ⟨x, he, hx, hx0, ⟨rfl, rfl, rfl, by simp [World.setCell], fun i _ hi => Below.heap_setCell w _ _ i (fun e => hi (by rw [e]))⟩, ⟨A, m, c, p + 1, ?_, by omega, by omega, h2, h3.keep fun i hi => Below.heap_setCell w _ _ i (by show i ≠ g; omega)⟩⟩
    show (w.setCell ⟨g, 1, none⟩ (.int .i64 (p + 1))).heap[g]? = _
    simp [World.setCell, Array.getElem?_modify, hg]
  obtain ⟨q, hq⟩ := Int.eq_ofNat_of_zero_le h0
  by_cases hn : n < 1
  · exact (pick_lo g A m c p n w c0 c1 f0 h0 (by omega) hn).mono fin
  by_cases hm : m = 0
  · exact (pick_none g A m c p n w c0 c1 f0 h0 (by omega) hn hm).mono fin
  obtain ⟨b, o, hA, hb, hc⟩ := h3 (by omega)
  by_cases hqm : q < m
  · obtain ⟨x, hx, hx', hcx⟩ := hc q hqm
    exact (pick_in g A m c p n w c0 c1 f0 h0 (by omega) hn (by omega) h2 b o x hx hx' q hq hqm hA hb hcx).mono fin
  · obtain ⟨x, hx, hx', hcx⟩ := hc (q % m) (Nat.mod_lt _ (by omega))
    obtain ⟨y, hy, hy', hcy⟩ := hc ((q * 7 + 3) % m) (Nat.mod_lt _ (by omega))
    have hd : q / m ≤ q := Nat.div_le_self _ _
    obtain ⟨u, hu⟩ := Int.eq_ofNat_of_zero_le hx
    obtain ⟨v, hv⟩ := Int.eq_ofNat_of_zero_le hy
    have hz : (u * 131 + v * 1117 + q * 29 + q / m * 53) / 64 ≤ u * 131 + v * 1117 + q * 29 + q / m * 53 := Nat.div_le_self _ _
    exact (pick_out g A m c p n w c0 c1 f0 h0 (by omega) hn (by omega) h2 b o q hq hqm hA hb (q % m) ((q * 7 + 3) % m) (q / m) (u * 131 + v * 1117 + q * 29 + q / m * 53)
      ((u * 131 + v * 1117 + q * 29 + q / m * 53) ^^^ ((u * 131 + v * 1117 + q * 29 + q / m * 53) / 64)) x y hx hx' hy hy' (Nat.mod_lt _ (by omega)) (Nat.mod_lt _ (by omega)) hcx hcy
      (by rw [Int.tmod_eq_emod_of_nonneg (by omega)]; rfl) (by rw [Int.tmod_eq_emod_of_nonneg (by omega)]; rfl)
      (IntWalk.i64_in _ (by omega)) (IntWalk.i64_in _ (by omega)) (IntWalk.i64_in _ (by omega)) (IntWalk.i64_in _ (by omega)) (IntWalk.i64_in _ (by omega)) (IntWalk.i64_in _ (by omega)) (IntWalk.i64_in _ (by omega))
      ((IntWalk.i64_in _ (by have e : (q : Int) / (m : Int) = ((q / m : Nat) : Int) := rfl; rw [e]; omega)).trans rfl) (IntWalk.i64_in _ (by omega))
      ((IntWalk.i64_in _ (by omega)).trans (by omega)) (by omega)
      (by have e := xor_nat (u * 131 + v * 1117 + q * 29 + q / m * 53) ((u * 131 + v * 1117 + q * 29 + q / m * 53) / 64) (by omega) (by omega); exact e)).mono fin

end Go.Proofs.YtjheeeilcfbdbaaDoor
