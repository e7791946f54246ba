/-
  Words and contracts, joined: Base, Rd, Open, Draw1, Draw2.
-/
import Derived.Test.YtciekjplhbimdaaAltF
import Derived.Test.YtciekjplhbimdaaZMem
import Derived.Deep.QuietTactic
import Derived.BigQuiet
import Derived.WalkLawsBesides
import Derived.WalkSpells
import Derived.Deep.RegionWith
import Derived.Deep.DeepCutAuto
import Derived.Laws.BitsAllLaws
import Derived.Laws.BitsLemmas
/-
  Contracts: the small functions on numbers and single updates.
-/
set_option linter.all false
set_option maxRecDepth 100000
namespace Go.Proofs.YtciekjplhbimdaaZ
open Go.RowKit

theorem ret_bool {a b : Bool} (h : a = b) : Ending.returned (.bool a) = .returned (.bool b) := by rw [h]
theorem ret_int {k : IntKind} {a b : Int} (h : a = b) : Ending.returned (.int k a) = .returned (.int k b) := by rw [h]

theorem l6In_any (n a b : Int) (w : World) : Calls Alt.prog 43 #[.int .i64 n, .int .i64 a, .int .i64 b] w fun e w' => e = .returned (.bool (decide (a ≤ n ∧ n ≤ b))) ∧ w = w' := by
  go_enter Alt.func43, Try.ntmps43
  go_wp2
  all_goals (go_ret; refine ⟨ret_bool ?_, rfl⟩; rw [Bool.eq_iff_iff]; simp; try omega)

theorem keyValid_any (n : Int) (w : World) : Calls Alt.prog 49 #[.int .i64 n] w fun e w' => e = .returned (.bool (decide (0 ≤ n ∧ n < 5))) ∧ w = w' := by
  go_enter Alt.func49, Try.ntmps49
  go_wp2
  all_goals (go_ret; refine ⟨ret_bool ?_, rfl⟩; rw [Bool.eq_iff_iff]; simp; try omega)

theorem valid_any (k v : Int) (w : World) : Calls Alt.prog 101 #[.agg #[.int .i64 k, .int .i64 v]] w fun e w' => e = .returned (.bool (updOk (k, v))) ∧ Ext w w' := by
  by_cases hk : 0 ≤ k ∧ k < 5
  · have hd : decide (0 ≤ k ∧ k < 5) = true := by simpa using hk
    go_enter Alt.func101, Try.ntmps101
    go_wp2_with (go_at_call 49; refine (keyValid_any _ _).mono ?_; rintro e w' ⟨rfl, rfl⟩)
    all_goals (go_ret; refine ⟨ret_bool ?_, ext_alloc (ext_refl _) _⟩; rw [Bool.eq_iff_iff]; simp [updOk]; try omega)
  · have hd : decide (0 ≤ k ∧ k < 5) = false := by simpa using hk
    go_enter Alt.func101, Try.ntmps101
    go_wp2_with (go_at_call 49; refine (keyValid_any _ _).mono ?_; rintro e w' ⟨rfl, rfl⟩)
    all_goals (go_ret; refine ⟨ret_bool ?_, ext_alloc (ext_refl _) _⟩; rw [Bool.eq_iff_iff]; simp [updOk]; try omega)


theorem specUpdateValid_any (k v : Int) (w : World) : Calls Alt.prog 82 #[.agg #[.int .i64 k, .int .i64 v]] w fun e w' => e = .returned (.bool (updOk (k, v))) ∧ Ext w w' := by
  by_cases hk : 0 ≤ k ∧ k ≤ 4
  · have hd : decide (0 ≤ k ∧ k ≤ 4) = true := by simpa using hk
    go_enter Alt.func82, Try.ntmps82
    go_wp2_with (go_at_call 43; refine (l6In_any _ _ _ _).mono ?_; rintro e w' ⟨rfl, rfl⟩)
    all_goals (go_ret; refine ⟨ret_bool ?_, ext_alloc (ext_refl _) _⟩; rw [Bool.eq_iff_iff]; simp [updOk]; try omega)
  · have hd : decide (0 ≤ k ∧ k ≤ 4) = false := by simpa using hk
    go_enter Alt.func82, Try.ntmps82
    go_wp2_with (go_at_call 43; refine (l6In_any _ _ _ _).mono ?_; rintro e w' ⟨rfl, rfl⟩)
    all_goals (go_ret; refine ⟨ret_bool ?_, ext_alloc (ext_refl _) _⟩; rw [Bool.eq_iff_iff]; simp [updOk]; try omega)

theorem toUpdate_any (k v : Int) (w : World) : Calls Alt.prog 113 #[.agg #[.int .i64 k, .int .i64 v]] w fun e w' => e = .returned (.agg #[.int .i64 k, .int .i64 v]) ∧ Ext w w' := by
  go_enter Alt.func113, Try.ntmps113
  go_wp2
  exact bodyPost_ret (v := .agg #[.int .i64 k, .int .i64 v]) (by simp [results, Try.results113, go_sem]) rfl ⟨rfl, ext_alloc (ext_alloc (ext_alloc (ext_refl _) _) _) _⟩
theorem eqUpdate_any (k v k' v' : Int) (w : World) : Calls Alt.prog 114 #[.agg #[.int .i64 k, .int .i64 v], .agg #[.int .i64 k', .int .i64 v']] w fun e w' => e = .returned (.bool (decide (k = k' ∧ v = v'))) ∧ Ext w w' := by
  go_enter Alt.func114, Try.ntmps114
  go_wp2
  all_goals (go_ret; refine ⟨ret_bool ?_, ext_alloc (ext_alloc (ext_refl _) _) _⟩; rw [Bool.eq_iff_iff]; simp_all)
end Go.Proofs.YtciekjplhbimdaaZ

/-
  Contracts: the reader of a code: l6Open, pick.
-/
set_option linter.all false
namespace Go.Proofs.YtciekjplhbimdaaZ
open Go.RowKit

/-- A row of bytes below block g. -/
def BytesR (w : World) (g : Nat) (A : Option Addr) (n : Nat) : Prop :=
  0 < n → ∃ b o, A = some ⟨b, o, none⟩ ∧ b < g ∧ ∀ i, i < n → ∃ x : Int, 0 ≤ x ∧ x ≤ 255 ∧ w.cell? ⟨b, o + i, none⟩ = some (.int .u8 x)

def Picked (w : World) (g : Nat) (p n : Int) (e : Ending) (w' : World) : Prop :=
  ∃ (x : Int) (k : Nat), e = .returned (.int .i64 x) ∧ (1 ≤ n → 0 ≤ x ∧ x < n) ∧ (n < 1 → x = 0) ∧ w' = (w.setCell ⟨g, 1, none⟩ (.int .i64 (p + 1))).drewN k

theorem rem_ok (x n : Int) (h : 0 ≤ x) : (1 ≤ n → 0 ≤ x % n ∧ x % n < n) ∧ (n < 1 → ¬ (1 ≤ n)) :=
  ⟨fun hn => ⟨Int.emod_nonneg _ (by omega), Int.emod_lt_of_pos _ (by omega)⟩, fun h => by omega⟩

theorem ofInt_i64 (a : Nat) (ha : a < 9223372036854775808) : (BitVec.ofInt 64 (a : Int)).toNat = a := by
  rw [BitVec.ofInt_natCast, BitVec.toNat_ofNat]; exact Nat.mod_eq_of_lt (by omega)
theorem xor_nat (a b : Nat) (ha : a < 9223372036854775808) (hb : b < 9223372036854775808) : bits .xor .i64 (a : Int) (b : Int) = ((a ^^^ b : Nat) : Int) := by
  have hx : a ^^^ b < 2 ^ 63 := Nat.xor_lt_two_pow (by omega) (by omega)
  show IntKind.i64.wrap ((BitVec.ofInt 64 (a : Int) ^^^ BitVec.ofInt 64 (b : Int)).toNat : Int) = _
  rw [BitVec.toNat_xor, ofInt_i64 a ha, ofInt_i64 b hb, IntKind.wrap_i64]
  omega

section
variable (g : Nat) (A : Option Addr) (m c : Nat) (p n : Int) (w : World) (c0 : w.cell? ⟨g, 0, none⟩ = some (.slice A m c)) (c1 : w.cell? ⟨g, 1, none⟩ = some (.int .i64 p)) (f0 : w.frozen? ⟨g, 1, none⟩ = false)
  (hp : 0 ≤ p) (hp' : p ≤ 1073741824)
include c0 c1 f0 hp hp'
theorem pick_lo (hn : n < 1) : Calls Alt.prog 34 #[.pointer (some ⟨g, 0, none⟩), .int .i64 n] w (Picked w g p n) := by
  go_enter Alt.func34, Try.ntmps34
  go_wp2
  go_ret
  exact ⟨0, 0, rfl, fun h => by omega, fun _ => rfl, rfl⟩

theorem pick_none (hn : ¬ n < 1) (hm : m = 0) : Calls Alt.prog 34 #[.pointer (some ⟨g, 0, none⟩), .int .i64 n] w (Picked w g p n) := by
  subst hm
  go_enter Alt.func34, Try.ntmps34
  go_wp2
  go_ret
  exact ⟨0, 0, rfl, fun h => by omega, fun _ => rfl, rfl⟩

theorem pick_in (hn : ¬ n < 1) (hm : 0 < m) (hm' : m ≤ 2000) (b o : Nat) (x : Int) (hx : 0 ≤ x) (hx' : x ≤ 255) (q : Nat) (hq : p = q) (hqm : q < m) (hA : A = some ⟨b, o, none⟩) (hb : b < g) (hc : w.cell? ⟨b, o + q, none⟩ = some (.int .u8 x)) :
    Calls Alt.prog 34 #[.pointer (some ⟨g, 0, none⟩), .int .i64 n] w (Picked w g p n) := by
  subst hq
  subst hA
  have e0 : ((m : Int) == 0) = false := by simp; omega
  go_enter Alt.func34, Try.ntmps34
  go_wp2
  go_ret
  exact ⟨x % n, 0, rfl, (rem_ok x n hx).1, fun h => by omega, rfl⟩

theorem pick_out (hn : ¬ n < 1) (hm : 0 < m) (hm' : m ≤ 2000) (b o : Nat) (q : Nat) (hq : p = q) (hqm : ¬ q < m) (hA : A = some ⟨b, o, none⟩) (hb : b < g)
    (j1 j2 d s z : Nat) (x y : Int) (hx : 0 ≤ x) (hx' : x ≤ 255) (hy : 0 ≤ y) (hy' : y ≤ 255) (h1 : j1 < m) (h2 : j2 < m) (hcx : w.cell? ⟨b, o + j1, none⟩ = some (.int .u8 x)) (hcy : w.cell? ⟨b, o + j2, none⟩ = some (.int .u8 y))
    (t1 : (q : Int).tmod m = j1) (t2 : ((q : Int) * 7 + 3).tmod m = j2) (e1 : IntKind.i64.wrap ((q : Int) * 7) = q * 7) (e2 : IntKind.i64.wrap ((q : Int) * 7 + 3) = q * 7 + 3)
    (e3 : IntKind.i64.wrap (x * 131) = x * 131) (e4 : IntKind.i64.wrap (y * 1117) = y * 1117) (e5 : IntKind.i64.wrap (x * 131 + y * 1117) = x * 131 + y * 1117) (e6 : IntKind.i64.wrap ((q : Int) * 29) = q * 29)
    (e7 : IntKind.i64.wrap (x * 131 + y * 1117 + q * 29) = x * 131 + y * 1117 + q * 29) (e8 : IntKind.i64.wrap ((q : Int) / m) = d) (e9 : IntKind.i64.wrap ((d : Int) * 53) = d * 53)
    (e10 : IntKind.i64.wrap (x * 131 + y * 1117 + q * 29 + d * 53) = s) (hs : s ≤ 4611686018427387904) (e11 : bits .xor .i64 (s : Int) ((s : Int) / 64) = z) :
    Calls Alt.prog 34 #[.pointer (some ⟨g, 0, none⟩), .int .i64 n] w (Picked w g p n) := by
  subst hq
  subst hA
  have e0 : ((m : Int) == 0) = false := by simp; omega
  have e0' : ((m : Int) == 0) = false := by simp; omega
  have n1 : ¬ (q : Int) < (m : Int) := by omega
  have l1 : (j1 : Int) < (m : Int) := by omega
  have l2 : (j2 : Int) < (m : Int) := by omega
  go_enter Alt.func34, Try.ntmps34
  go_wp2
  go_quiet (fail)
  go_wp2
  go_ret
  exact ⟨z % n, _, rfl, (rem_ok z n (by omega)).1, fun h => by omega, rfl⟩
end

/-- The reader in block g: it has read at most P bytes. -/
def RdAt (w : World) (g P : Nat) : Prop :=
  ∃ A m c p, w.heap[g]? = some (.cells #[.slice A m c, .int .i64 p] 81 (0, 0)) ∧ 0 ≤ p ∧ p ≤ (P : Int) ∧ m ≤ 2000 ∧ BytesR w g A m
theorem RdAt.lt {w : World} {g P : Nat} (h : RdAt w g P) : g < w.heap.size := by
  obtain ⟨A, m, c, p, hg, _⟩ := h
  exact (Array.getElem?_eq_some_iff.1 hg).1
theorem RdAt.more {w : World} {g P P' : Nat} (h : RdAt w g P) (hP : P ≤ P') : RdAt w g P' := by
  obtain ⟨A, m, c, p, hg, h0, h1, h2, h3⟩ := h
  exact ⟨A, m, c, p, hg, h0, by omega, h2, h3⟩
theorem BytesR.keep {w w' : World} {g n : Nat} {A : Option Addr} (h : BytesR w g A n) (hb : ∀ k, k < g → w'.heap[k]? = w.heap[k]?) : BytesR w' g A n := fun hn => by
  obtain ⟨b, o, hA, hlt, hc⟩ := h hn
  refine ⟨b, o, hA, hlt, fun i hi => ?_⟩
  obtain ⟨x, h1, h2, h3⟩ := hc i hi
  exact ⟨x, h1, h2, (World.cell?_of_block (w := w) (hb b hlt)).trans h3⟩
theorem RdAt.keep {w w' : World} {g P : Nat} (h : RdAt w g P) (hb : ∀ k, k < w.heap.size → w'.heap[k]? = w.heap[k]?) : RdAt w' g P := by
  have hl := h.lt
  obtain ⟨A, m, c, p, hg, h0, h1, h2, h3⟩ := h
  exact ⟨A, m, c, p, (hb g hl).trans hg, h0, h1, h2, h3.keep fun k hk => hb k (by omega)⟩
theorem RdAt.ext {w w' : World} {g P : Nat} (h : RdAt w g P) (hb : Ext w w') : RdAt w' g P := h.keep hb.block

/-- What a pick leaves. -/
def PickedR (w : World) (g P : Nat) (n : Int) (e : Ending) (w' : World) : Prop :=
  ∃ x : Int, e = .returned (.int .i64 x) ∧ (1 ≤ n → 0 ≤ x ∧ x < n) ∧ (n < 1 → x = 0) ∧ w.grownBy w' (some g) ∧ RdAt w' g (P + 1)

theorem pick_any {w : World} {g P : Nat} (n : Int) (h : RdAt w g P) (hP : P ≤ 1073741824) : Calls Alt.prog 34 #[.pointer (some ⟨g, 0, none⟩), .int .i64 n] w (PickedR w g P n) := by
  obtain ⟨A, m, c, p, hg, h0, h1, h2, h3⟩ := h
  have c0 : w.cell? ⟨g, 0, none⟩ = some (.slice A m c) := by simp [World.cell?, hg]
  have c1 : w.cell? ⟨g, 1, none⟩ = some (.int .i64 p) := by simp [World.cell?, hg]
  have f0 : w.frozen? ⟨g, 1, none⟩ = false := by simp [World.frozen?, hg]
  have fin : ∀ e w', Picked w g p n e w' → PickedR w g P n e w' := by
    rintro e w' ⟨x, k, he, hx, hx0, rfl⟩
    refine ⟨x, he, hx, hx0, ⟨rfl, rfl, rfl, by simp [World.setCell], fun i _ hi => Below.heap_setCell w _ _ i (fun e => hi (by rw [e]))⟩, ⟨A, m, c, p + 1, ?_, by omega, by omega, h2, h3.keep fun i hi => Below.heap_setCell w _ _ i (by show i ≠ g; omega)⟩⟩
    show (w.setCell ⟨g, 1, none⟩ (.int .i64 (p + 1))).heap[g]? = _
    simp [World.setCell, Array.getElem?_modify, hg]
  obtain ⟨q, hq⟩ := Int.eq_ofNat_of_zero_le h0
  by_cases hn : n < 1
  · exact (pick_lo g A m c p n w c0 c1 f0 h0 (by omega) hn).mono fin
  by_cases hm : m = 0
  · exact (pick_none g A m c p n w c0 c1 f0 h0 (by omega) hn hm).mono fin
  obtain ⟨b, o, hA, hb, hc⟩ := h3 (by omega)
  by_cases hqm : q < m
  · obtain ⟨x, hx, hx', hcx⟩ := hc q hqm
    exact (pick_in g A m c p n w c0 c1 f0 h0 (by omega) hn (by omega) h2 b o x hx hx' q hq hqm hA hb hcx).mono fin
  · obtain ⟨x, hx, hx', hcx⟩ := hc (q % m) (Nat.mod_lt _ (by omega))
    obtain ⟨y, hy, hy', hcy⟩ := hc ((q * 7 + 3) % m) (Nat.mod_lt _ (by omega))
    have hd : q / m ≤ q := Nat.div_le_self _ _
    obtain ⟨u, hu⟩ := Int.eq_ofNat_of_zero_le hx
    obtain ⟨v, hv⟩ := Int.eq_ofNat_of_zero_le hy
    have hz : (u * 131 + v * 1117 + q * 29 + q / m * 53) / 64 ≤ u * 131 + v * 1117 + q * 29 + q / m * 53 := Nat.div_le_self _ _
    exact (pick_out g A m c p n w c0 c1 f0 h0 (by omega) hn (by omega) h2 b o q hq hqm hA hb (q % m) ((q * 7 + 3) % m) (q / m) (u * 131 + v * 1117 + q * 29 + q / m * 53)
      ((u * 131 + v * 1117 + q * 29 + q / m * 53) ^^^ ((u * 131 + v * 1117 + q * 29 + q / m * 53) / 64)) x y hx hx' hy hy' (Nat.mod_lt _ (by omega)) (Nat.mod_lt _ (by omega)) hcx hcy
      (by rw [Int.tmod_eq_emod_of_nonneg (by omega)]; rfl) (by rw [Int.tmod_eq_emod_of_nonneg (by omega)]; rfl)
      (IntWalk.i64_in _ (by omega)) (IntWalk.i64_in _ (by omega)) (IntWalk.i64_in _ (by omega)) (IntWalk.i64_in _ (by omega)) (IntWalk.i64_in _ (by omega)) (IntWalk.i64_in _ (by omega)) (IntWalk.i64_in _ (by omega))
      ((IntWalk.i64_in _ (by have e : (q : Int) / (m : Int) = ((q / m : Nat) : Int) := rfl; rw [e]; omega)).trans rfl) (IntWalk.i64_in _ (by omega))
      ((IntWalk.i64_in _ (by omega)).trans (by omega)) (by omega)
      (by have e := xor_nat (u * 131 + v * 1117 + q * 29 + q / m * 53) ((u * 131 + v * 1117 + q * 29 + q / m * 53) / 64) (by omega) (by omega); exact e)).mono fin

end Go.Proofs.YtciekjplhbimdaaZ

/-
  Contract: l6Open.
-/
set_option linter.all false
namespace Go.Proofs.YtciekjplhbimdaaZ
open Go.RowKit

theorem open_lo (A : Option Addr) (n c : Nat) (w : World) (hn : n ≤ 2000) :
    Calls Alt.prog 32 #[.slice A n c] w fun e w' => e = .returned (.pointer (some ⟨w.heap.size, 0, none⟩)) ∧ Ext w w' ∧
      w'.heap[w.heap.size]? = some (.cells #[.slice A n c, .int .i64 0] 81 (0, 0)) := by
  go_enter Alt.func32, Try.ntmps32
  go_wp2
  go_ret
  exact ⟨rfl, ext_alloc (ext_refl _) _, heap_alloc_new _ _⟩
theorem open_hi (A : Option Addr) (n c : Nat) (w : World) (hn : n ≤ maxLen) (hnc : n ≤ c) (hc : c ≤ maxLen) (h : 2000 < n) :
    Calls Alt.prog 32 #[.slice A n c] w fun e w' => e = .returned (.pointer (some ⟨w.heap.size, 0, none⟩)) ∧ Ext w w' ∧
      w'.heap[w.heap.size]? = some (.cells #[.slice A 2000 c, .int .i64 0] 81 (0, 0)) := by
  unfold maxLen at hn hc
  go_enter Alt.func32, Try.ntmps32
  go_wp2
  go_ret
  exact ⟨rfl, ext_alloc (ext_refl _) _, heap_alloc_new _ _⟩
end Go.Proofs.YtciekjplhbimdaaZ

/-
  Contracts: drawing updates and logs.
-/
set_option linter.all false
namespace Go.Proofs.YtciekjplhbimdaaZ
open Go.RowKit

theorem RdAt.setCell {w : World} {g P : Nat} (h : RdAt w g P) {p : Addr} (hp : g < p.block) (u : Value) : RdAt (w.setCell p u) g P := by
  obtain ⟨A, m, c, q, hg, h0, h1, h2, h3⟩ := h
  exact ⟨A, m, c, q, (Below.heap_setCell w p u g (by omega)).trans hg, h0, h1, h2, h3.keep fun k hk => Below.heap_setCell w p u k (by omega)⟩

/-- What a drawn update leaves. -/
def DrewU (w : World) (g P : Nat) (e : Ending) (w' : World) : Prop :=
  ∃ k v : Int, e = .returned (.agg #[.int .i64 k, .int .i64 v]) ∧ -1 ≤ k ∧ k ≤ 5 ∧ -1 ≤ v ∧ v ≤ 100 ∧ w.grownBy w' (some g) ∧ RdAt w' g (P + 4)

theorem l91Update_any {w : World} {g P : Nat} (h : RdAt w g P) (hP : P ≤ 536870912) : Calls Alt.prog 81 #[.pointer (some ⟨g, 0, none⟩)] w (DrewU w g P) := by
  have hlt := h.lt
  go_enter Alt.func81, Try.ntmps81
  go_wp2_with fail
  refine (pick_any 3 (h.ext (ext_alloc (ext_refl _) _)) (by omega)).mono ?_
  rintro e w1 ⟨x, rfl, hx, -, hg1, hr1⟩
  have hx' := hx (by omega)
  clear hx
  have hb1 := hide ((Blk.new w 39 #[.int .i64 0, .int .i64 0]).grown hg1 (by simp; omega))
  have ho1 := hide (only_pick (only_alloc (World.grownBy.refl w (some g)) _) hg1)
  clear hg1
  go_wp2_with fail
  refine (pick_any 100 hr1 (by omega)).mono ?_
  rintro e w2 ⟨y, rfl, hy, -, hg2, hr2⟩
  have hy' := hy (by omega)
  clear hy hr1
  have hb2 := hide (hb1.out.grown hg2 (by simp; omega))
  have ho2 := hide (only_pick ho1.out hg2)
  clear hg2 hb1 ho1
  have hu2 := hide (Blk.new w2 39 #[.int .i64 x, .int .i64 y])
  have hb2' := hide (hb2.out.alloc (.cells #[.int .i64 x, .int .i64 y] 39))
  have hlt2 := hb2.out.lt
  have ne1 : ¬ w.heap.size = w2.heap.size := by omega
  have ne2 : ¬ w2.heap.size = w.heap.size := by omega
  go_wp2_with fail
  refine (pick_any 50 (hr2.ext (ext_alloc (ext_refl _) _)) (by omega)).mono ?_
  rintro e w3 ⟨z, rfl, hz, -, hg3, hr3⟩
  have hz' := hz (by omega)
  have hgl := hr2.lt
  clear hz hr2
  have hu3 := hide (hu2.out.grown hg3 (by simp; omega))
  have hb3 := hide (hb2'.out.grown hg3 (by simp; omega))
  have ho3 := hide (only_pick (only_alloc ho2.out _) hg3)
  have hs3 := hg3.size
  simp at hs3
  clear hg3 hb2 hb2' ho2 hu2
  by_cases z0 : z = 0
  · subst z0
    go_wp2_with fail
    refine (pick_any 3 (hr3.ext (ext_alloc (ext_refl _) _)) (by omega)).mono ?_
    rintro e w4 ⟨j, rfl, hj, -, hg4, hr4⟩
    obtain ⟨hj0, hj3⟩ := hj (by omega)
    have hl4 := hide ((Blk.new w3 3 #[.int .i64 (-1), .int .i64 4, .int .i64 5]).grown hg4 (by simp; omega))
    have hu4 := hide ((hu3.out.alloc (.cells #[.int .i64 (-1), .int .i64 4, .int .i64 5] 3)).grown hg4 (by simp; omega))
    have hb4 := hide ((hb3.out.alloc (.cells #[.int .i64 (-1), .int .i64 4, .int .i64 5] 3)).grown hg4 (by simp; omega))
    have ho4 := hide (only_pick (only_alloc ho3.out _) hg4)
    clear hj hg4 hb3 hu3 ho3 hr3
    have cu0 : w4.cell? ⟨w2.heap.size, 0, none⟩ = some (.int .i64 x) := by simpa using hu4.out.cell 0
    have cu1 : w4.cell? ⟨w2.heap.size, 1, none⟩ = some (.int .i64 y) := by simpa using hu4.out.cell 1
    have fu0 := hu4.out.frozen 0
    have cb0 : w4.cell? ⟨w.heap.size, 0, none⟩ = some (.int .i64 0) := by simpa using hb4.out.cell 0
    have cb1 : w4.cell? ⟨w.heap.size, 1, none⟩ = some (.int .i64 0) := by simpa using hb4.out.cell 1
    have fb0 := hb4.out.frozen 0
    have fb1 := hb4.out.frozen 1
    obtain ⟨i, hi⟩ := Int.eq_ofNat_of_zero_le hj0
    subst hi
    obtain ⟨q, hq1, hq2, hq3⟩ : ∃ q : Int, -1 ≤ q ∧ q ≤ 5 ∧ w4.cell? ⟨w3.heap.size, i, none⟩ = some (.int .i64 q) := by
      have := hl4.out.cell i
      rcases (show i = 0 ∨ i = 1 ∨ i = 2 from by omega) with rfl | rfl | rfl
      · exact ⟨-1, by omega, by omega, by simpa using this⟩
      · exact ⟨4, by omega, by omega, by simpa using this⟩
      · exact ⟨5, by omega, by omega, by simpa using this⟩
    go_wp2_with fail
    refine bodyPost_ret (v := .agg #[.int .i64 q, .int .i64 y]) (by simp [results, Try.results81, go_sem, cb0, cb1, ne1, ne2]) rfl ?_
    exact ⟨q, y, rfl, hq1, hq2, by omega, by omega, only_setCell (only_setCell (only_setCell ho4.out (.inr (by show _ ≤ w2.heap.size; omega)) _) (.inr (Nat.le_refl _)) _) (.inr (Nat.le_refl _)) _,
      ((hr4.setCell (by show g < w2.heap.size; omega) _).setCell hlt _).setCell hlt _⟩
  by_cases z1 : z = 1
  · subst z1
    go_wp2_with fail
    refine (pick_any 3 (hr3.ext (ext_alloc (ext_refl _) _)) (by omega)).mono ?_
    rintro e w4 ⟨j, rfl, hj, -, hg4, hr4⟩
    obtain ⟨hj0, hj3⟩ := hj (by omega)
    have hl4 := hide ((Blk.new w3 3 #[.int .i64 (-1), .int .i64 99, .int .i64 100]).grown hg4 (by simp; omega))
    have hu4 := hide ((hu3.out.alloc (.cells #[.int .i64 (-1), .int .i64 99, .int .i64 100] 3)).grown hg4 (by simp; omega))
    have hb4 := hide ((hb3.out.alloc (.cells #[.int .i64 (-1), .int .i64 99, .int .i64 100] 3)).grown hg4 (by simp; omega))
    have ho4 := hide (only_pick (only_alloc ho3.out _) hg4)
    clear hj hg4 hb3 hu3 ho3 hr3
    have cu0 : w4.cell? ⟨w2.heap.size, 0, none⟩ = some (.int .i64 x) := by simpa using hu4.out.cell 0
    have cu1 : w4.cell? ⟨w2.heap.size, 1, none⟩ = some (.int .i64 y) := by simpa using hu4.out.cell 1
    have fu0 := hu4.out.frozen 1
    have cb0 : w4.cell? ⟨w.heap.size, 0, none⟩ = some (.int .i64 0) := by simpa using hb4.out.cell 0
    have cb1 : w4.cell? ⟨w.heap.size, 1, none⟩ = some (.int .i64 0) := by simpa using hb4.out.cell 1
    have fb0 := hb4.out.frozen 0
    have fb1 := hb4.out.frozen 1
    obtain ⟨i, hi⟩ := Int.eq_ofNat_of_zero_le hj0
    subst hi
    obtain ⟨q, hq1, hq2, hq3⟩ : ∃ q : Int, -1 ≤ q ∧ q ≤ 100 ∧ w4.cell? ⟨w3.heap.size, i, none⟩ = some (.int .i64 q) := by
      have := hl4.out.cell i
      rcases (show i = 0 ∨ i = 1 ∨ i = 2 from by omega) with rfl | rfl | rfl
      · exact ⟨-1, by omega, by omega, by simpa using this⟩
      · exact ⟨99, by omega, by omega, by simpa using this⟩
      · exact ⟨100, by omega, by omega, by simpa using this⟩
    go_wp2_with fail
    refine bodyPost_ret (v := .agg #[.int .i64 x, .int .i64 q]) (by simp [results, Try.results81, go_sem, cb0, cb1, ne1, ne2]) rfl ?_
    exact ⟨x, q, rfl, by omega, by omega, hq1, hq2, only_setCell (only_setCell (only_setCell ho4.out (.inr (by show _ ≤ w2.heap.size; omega)) _) (.inr (Nat.le_refl _)) _) (.inr (Nat.le_refl _)) _,
      ((hr4.setCell (by show g < w2.heap.size; omega) _).setCell hlt _).setCell hlt _⟩
  · have z0' : (z == 0) = false := by simpa using z0
    have z1' : (z == 1) = false := by simpa using z1
    have cu0 : w3.cell? ⟨w2.heap.size, 0, none⟩ = some (.int .i64 x) := by simpa using hu3.out.cell 0
    have cu1 : w3.cell? ⟨w2.heap.size, 1, none⟩ = some (.int .i64 y) := by simpa using hu3.out.cell 1
    have cb0 : w3.cell? ⟨w.heap.size, 0, none⟩ = some (.int .i64 0) := by simpa using hb3.out.cell 0
    have cb1 : w3.cell? ⟨w.heap.size, 1, none⟩ = some (.int .i64 0) := by simpa using hb3.out.cell 1
    have fb0 := hb3.out.frozen 0
    have fb1 := hb3.out.frozen 1
    go_wp2_with fail
    refine bodyPost_ret (v := .agg #[.int .i64 x, .int .i64 y]) (by simp [results, Try.results81, go_sem, cb0, cb1, ne1, ne2]) rfl ?_
    exact ⟨x, y, rfl, by omega, by omega, by omega, by omega, only_setCell (only_setCell ho3.out (.inr (Nat.le_refl _)) _) (.inr (Nat.le_refl _)) _,
      ((hr3.setCell hlt _).setCell hlt _).more (by omega)⟩
end Go.Proofs.YtciekjplhbimdaaZ

/-
  Contracts: drawing logs.
-/
set_option linter.all false
namespace Go.Proofs.YtciekjplhbimdaaZ
open Go.RowKit

theorem infoU : (Alt.prog.info? 39).map (fun i => (i.zero, i.size, i.bytes)) = some (some (.agg #[.int .i64 0, .int .i64 0]), 2, 16) := by kernel_rfl
theorem infoI : (Alt.prog.info? 3).map (fun i => (i.zero, i.size, i.bytes)) = some (some (.int .i64 0), 1, 8) := by kernel_rfl

theorem RdAt.grown {w w' : World} {g P : Nat} {row : Option Nat} (h : RdAt w g P) (hg : w.grownBy w' row) (hr : ∀ i, row = some i → g < i) : RdAt w' g P := by
  have hl := h.lt
  obtain ⟨A, m, c, p, h0, h1, h2, h3, h4⟩ := h
  exact ⟨A, m, c, p, (hg.block g hl (fun e => by have := hr g e.symm; omega)).trans h0, h1, h2, h3, h4.keep fun k hk => hg.block k (by omega) (fun e => by have := hr k e.symm; omega)⟩

/-- The range of a drawn update. -/
def Near (u : Upd) : Prop := -1 ≤ u.1 ∧ u.1 ≤ 5 ∧ -1 ≤ u.2 ∧ u.2 ≤ 100

/-- What is held at the head of the loop that draws a log. -/
def LogTo (w : World) (g P : Nat) (v : Value) (k : Nat) (wr : World) : Prop :=
  ∃ l : List Upd, l.length = k ∧ (∀ u ∈ l, Near u) ∧ wr.ownsRow w.heap.size 39 2 v k (ucells l) ∧ w.grownBy wr (some g) ∧ RdAt wr g (P + 4 * k)

theorem logTo_step {w w1 w2 : World} {g P k : Nat} {v v' : Value} {l : List Upd} {a b : Int} {o : Obj} {wr : World} (hl : l.length = k) (hn : ∀ u ∈ l, Near u) (hu : Near (a, b)) (hown : wr.ownsRow w.heap.size 39 2 v k (ucells l)) (ho : w.grownBy wr (some g))
    (hg : g < w.heap.size) (hg1 : wr.grownBy w1 (some g)) (hr1 : RdAt w1 g (P + 4 * k + 4))
    (hown' : w2.ownsRow w.heap.size 39 2 v' (k + 1) (ucells l ++ [.int .i64 a, .int .i64 b])) (hgrow : (w1.alloc o).grownBy w2 v.ownBlock) : LogTo w g P v' (k + 1) w2 := by
  have hrow : ∀ i, v.ownBlock = some i → w.heap.size ≤ i := fun i hi => (hown.lt i hi).1
  refine ⟨l ++ [(a, b)], by simp [hl], ?_, by rw [ucells_append]; exact hown', only_trans (only_alloc (only_pick ho hg1) o) hgrow fun i hi => .inr (hrow i hi), ?_⟩
  · intro u hm
    simp only [List.mem_append, List.mem_singleton] at hm
    rcases hm with hm | rfl
    · exact hn u hm
    · exact hu
  · exact ((hr1.ext (ext_alloc (ext_refl _) o)).grown hgrow fun i hi => by have := hrow i hi; omega).more (by omega)

/-- What a drawn log leaves. -/
def DrewL (w : World) (g P : Nat) (e : Ending) (w' : World) : Prop :=
  ∃ (A : Option Addr) (c : Nat) (l : List Upd), e = .returned (.slice A l.length c) ∧ l.length ≤ 13 ∧ (∀ u ∈ l, Near u) ∧ w'.ownsRow w.heap.size 39 2 (.slice A l.length c) l.length (ucells l) ∧ w.grownBy w' (some g) ∧ RdAt w' g (P + 55)

theorem own_form {w : World} {base : Nat} {e : TypeId} {size n : Nat} {v : Value} {xs : List Value} (h : w.ownsRow base e size v n xs) : ∃ A c, v = .slice A n c ∧ n ≤ c ∧ c ≤ maxLen := by
  rcases h.2 with ⟨rfl, rfl⟩ | ⟨g, cap, cur, rfl, _, _, h1, h2, _⟩
  · exact ⟨none, 0, rfl, Nat.le_refl _, by simp [maxLen]⟩
  · exact ⟨_, _, rfl, h1, h2⟩

set_option maxRecDepth 100000 in
/-- The loop, whatever number it goes to. -/
theorem l91Log_any {w : World} {g P : Nat} (h : RdAt w g P) (hP : P ≤ 268435456) : Calls Alt.prog 60 #[.pointer (some ⟨g, 0, none⟩)] w (DrewL w g P) := by
  have hlt := h.lt
  obtain ⟨i0, hi, hz0, hz1, hz2⟩ := info_parts infoU
  go_enter Alt.func60, Try.ntmps60
  go_wp2_with fail
  refine (pick_any 7 (h.ext (ext_alloc (ext_refl _) _)) (by omega)).mono ?_
  rintro e w1 ⟨x, rfl, hx, -, hg1, hr1⟩
  have hx' := hx (by omega)
  clear hx
  have how1 := hide ((World.ownsRow_made (base := w.heap.size) (e := 39) (size := 2) w #[] 0 (Nat.le_refl _) (by simp [maxLen]) rfl).kept hg1 (.inr (by simp [Value.ownBlock]; omega)))
  have ho1 := hide (only_pick (only_alloc (World.grownBy.refl w (some g)) _) hg1)
  have hs1 := hg1.size
  simp at hs1
  clear hg1
  go_wp2_with fail
  refine (pick_any 16 hr1 (by omega)).mono ?_
  rintro e w2 ⟨y, rfl, hy, -, hg2, hr2⟩
  have hy' := hy (by omega)
  clear hy hr1
  have how2 := hide (how1.out.kept hg2 (.inr (by simp [Value.ownBlock]; omega)))
  have ho2 := hide (only_pick ho1.out hg2)
  have hs2 := hg2.size
  clear hg2 how1 ho1
  by_cases y0 : y = 0
  · subst y0
    go_wp2_with fail
    refine (pick_any 3 hr2 (by omega)).mono ?_
    rintro e w3 ⟨z, rfl, hz, -, hg3, hr3⟩
    have hz' := hz (by omega)
    clear hz hr2
    have how3 := hide (how2.out.kept hg3 (.inr (by simp [Value.ownBlock]; omega)))
    have ho3 := hide (only_pick ho2.out hg3)
    have hs3 := hg3.size
    clear hg3 how2 ho2
    obtain ⟨zn, hzn⟩ := Int.eq_ofNat_of_zero_le hz'.1
    subst hzn
    have hst := hide (show LogTo w g (P + 3) (.slice (some ⟨w.heap.size, 0, none⟩) 0 0) 0 w3 from ⟨[], rfl, by simp, how3.out, ho3.out, hr3⟩)
    clear how3 ho3 hr3
    go_wp2_with fail
    go_loopw [3, 5] (fun v i wr => ∃ k : Nat, k ≤ (11 + zn) ∧ i = .int .i64 k ∧ Hid (LogTo w g (P + 3) v k wr)) (fun _ i _ => (11 + zn) - (intOf i).toNat)
    case atStart => exact ⟨0, Nat.zero_le _, rfl, hst⟩
    case round =>
      obtain ⟨k, hk, rfl, hR⟩ := hrel
      obtain ⟨l, hl, hn, hown, ho, hr⟩ := hR.out
      have hown := hide hown
      have ho := hide ho
      have hn := hide hn
      have hl := hide hl
      have hrr := hide hr
      clear hR hr
      by_cases hlt' : k < (11 + zn)
      · skip
        go_wp2_with fail
        refine (l91Update_any hrr.out (by omega)).mono ?_
        rintro e wa ⟨a, b, rfl, ha1, ha2, hb1, hb2, hga, hra⟩
        have hu : Hid (Near (a, b)) := hide ⟨ha1, ha2, hb1, hb2⟩
        have hga := hide hga
        have hra := hide hra
        have hsa := hga.out.size
        have hsw := ho.out.size
        have hownA := hide (hown.out.kept hga.out (.inr (by intro e; have := (hown.out.lt g e).1; omega)))
        clear hrr
        go_wp2_with (at_builtin; refine wpList_append_own _ rfl _ _ 34 rfl w.heap.size 39 i0 _ 2 16 Alt.underlying34 hi hz0 hz1 hz2 rfl (by decide) _ k _ rfl (hownA.out.alloc _) ⟨wa.heap.size, 0, none⟩ 1 1 [.int .i64 a, .int .i64 b] rfl rfl ?c1 ?c2 ?c3 ?c4 ?c5 ?_)
        case c1 =>
          intro j u hj
          match j, hj with
          | 0, hj => simp at hj; subst hj; simp [Addr.add]
          | 1, hj => simp at hj; subst hj; simp [Addr.add]
        case c2 => intro u hu; simp at hu; rcases hu with rfl | rfl <;> rfl
        case c3 => unfold maxLen; omega
        case c4 => omega
        case c5 => simp; omega
        intro v' w' hown' hgrow _
        have hst' := hide (logTo_step hl.out hn.out hu.out hown.out ho.out hlt hga.out hra.out hown' hgrow)
        clear hown' hgrow hownA hga hra hown ho hn hl hu
        go_wp2
        go_roundw
        case rel => exact ⟨k + 1, by omega, by go_num, hst'⟩
        case measure => simp [intOf]; omega
      · obtain ⟨A, c, hv, hlc, hcm⟩ := own_form hown.out
        subst hv
        go_wp2
        go_ret
        obtain rfl := hl.out
        exact ⟨A, c, l, rfl, by omega, hn.out, hown.out, ho.out, hrr.out.more (by omega)⟩
  · have y0' : (y == 0) = false := by simpa using y0
    obtain ⟨xn, hxn⟩ := Int.eq_ofNat_of_zero_le hx'.1
    subst hxn
    have hst := hide (show LogTo w g (P + 2) (.slice (some ⟨w.heap.size, 0, none⟩) 0 0) 0 w2 from ⟨[], rfl, by simp, how2.out, ho2.out, hr2⟩)
    clear how2 ho2 hr2
    go_wp2_with fail
    go_loopw [3, 5] (fun v i wr => ∃ k : Nat, k ≤ xn ∧ i = .int .i64 k ∧ Hid (LogTo w g (P + 2) v k wr)) (fun _ i _ => xn - (intOf i).toNat)
    case atStart => exact ⟨0, Nat.zero_le _, rfl, hst⟩
    case round =>
      obtain ⟨k, hk, rfl, hR⟩ := hrel
      obtain ⟨l, hl, hn, hown, ho, hr⟩ := hR.out
      have hown := hide hown
      have ho := hide ho
      have hn := hide hn
      have hl := hide hl
      have hrr := hide hr
      clear hR hr
      by_cases hlt' : k < xn
      · skip
        go_wp2_with fail
        refine (l91Update_any hrr.out (by omega)).mono ?_
        rintro e wa ⟨a, b, rfl, ha1, ha2, hb1, hb2, hga, hra⟩
        have hu : Hid (Near (a, b)) := hide ⟨ha1, ha2, hb1, hb2⟩
        have hga := hide hga
        have hra := hide hra
        have hsa := hga.out.size
        have hsw := ho.out.size
        have hownA := hide (hown.out.kept hga.out (.inr (by intro e; have := (hown.out.lt g e).1; omega)))
        clear hrr
        go_wp2_with (at_builtin; refine wpList_append_own _ rfl _ _ 34 rfl w.heap.size 39 i0 _ 2 16 Alt.underlying34 hi hz0 hz1 hz2 rfl (by decide) _ k _ rfl (hownA.out.alloc _) ⟨wa.heap.size, 0, none⟩ 1 1 [.int .i64 a, .int .i64 b] rfl rfl ?c1 ?c2 ?c3 ?c4 ?c5 ?_)
        case c1 =>
          intro j u hj
          match j, hj with
          | 0, hj => simp at hj; subst hj; simp [Addr.add]
          | 1, hj => simp at hj; subst hj; simp [Addr.add]
        case c2 => intro u hu; simp at hu; rcases hu with rfl | rfl <;> rfl
        case c3 => unfold maxLen; omega
        case c4 => omega
        case c5 => simp; omega
        intro v' w' hown' hgrow _
        have hst' := hide (logTo_step hl.out hn.out hu.out hown.out ho.out hlt hga.out hra.out hown' hgrow)
        clear hown' hgrow hownA hga hra hown ho hn hl hu
        go_wp2
        go_roundw
        case rel => exact ⟨k + 1, by omega, by go_num, hst'⟩
        case measure => simp [intOf]; omega
      · obtain ⟨A, c, hv, hlc, hcm⟩ := own_form hown.out
        subst hv
        go_wp2
        go_ret
        obtain rfl := hl.out
        exact ⟨A, c, l, rfl, by omega, hn.out, hown.out, ho.out, hrr.out.more (by omega)⟩
end Go.Proofs.YtciekjplhbimdaaZ
