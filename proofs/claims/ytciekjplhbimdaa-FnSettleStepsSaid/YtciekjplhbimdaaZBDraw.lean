/-
  Words and contracts, joined: Draw3, Draw4, Draw5, Draw6.
-/
import Derived.Test.YtciekjplhbimdaaZBRd
import Derived.Test.YtciekjplhbimdaaZBApp
/-
  Contracts: drawing two logs.
-/
set_option linter.all false
set_option maxRecDepth 100000
namespace Go.Proofs.YtciekjplhbimdaaZ
open Go.RowKit

/-- What two drawn logs leave. -/
def DrewTwo (w : World) (g P : Nat) (e : Ending) (w' : World) : Prop :=
  ∃ (A : Option Addr) (c : Nat) (l : List Upd) (B : Option Addr) (d : Nat) (m : List Upd), e = .returned (.tuple #[.slice A l.length c, .slice B m.length d]) ∧ l.length ≤ 13 ∧ m.length ≤ 13 ∧
    l.length ≤ c ∧ c ≤ maxLen ∧ m.length ≤ d ∧ d ≤ maxLen ∧ LogR w' A l ∧ LogR w' B m ∧ w.grownBy w' (some g) ∧ RdAt w' g (P + 70)

theorem own_keep {w w' : World} {base : Nat} {e : TypeId} {size n : Nat} {v : Value} {xs : List Value} {g : Nat} (h : w.ownsRow base e size v n xs) (hg : w.grownBy w' (some g)) (hb : g < base) : w'.ownsRow base e size v n xs :=
  h.kept hg (.inr (by intro e; have := (h.lt g e).1; omega))

end Go.Proofs.YtciekjplhbimdaaZ

/-
  Contracts: the draws of the laws on updates and logs.
-/
set_option linter.all false
namespace Go.Proofs.YtciekjplhbimdaaZ
open Go.RowKit

/-- A code that came in: a row of bytes. -/
def CodeR (w : World) (A : Option Addr) (n c : Nat) : Prop := n ≤ c ∧ c ≤ maxLen ∧ BytesR w w.heap.size A n

theorem CodeR.alloc {w : World} {A : Option Addr} {n c : Nat} (h : CodeR w A n c) (o : Obj) : CodeR (w.alloc o) A n c := by
  obtain ⟨h1, h2, h3⟩ := h
  refine ⟨h1, h2, fun hn => ?_⟩
  obtain ⟨b, o', hA, hb, hc⟩ := h3 hn
  refine ⟨b, o', hA, by simp; omega, fun i hi => ?_⟩
  obtain ⟨x, hx, hx', hcx⟩ := hc i hi
  exact ⟨x, hx, hx', ext_cell (ext_alloc (ext_refl w) o) hcx⟩

theorem l6Open_any {A : Option Addr} {n c : Nat} {w : World} (h : CodeR w A n c) :
    Calls Alt.prog 32 #[.slice A n c] w fun e w' => e = .returned (.pointer (some ⟨w.heap.size, 0, none⟩)) ∧ Ext w w' ∧ RdAt w' w.heap.size 0 := by
  obtain ⟨hnc, hc, hB⟩ := h
  by_cases hn : n ≤ 2000
  · refine (open_lo A n c w hn).mono ?_
    rintro e w' ⟨he, hE, hb⟩
    exact ⟨he, hE, A, n, c, 0, hb, by omega, by omega, hn, hB.keep hE.block⟩
  · refine (open_hi A n c w (by omega) hnc hc (by omega)).mono ?_
    rintro e w' ⟨he, hE, hb⟩
    refine ⟨he, hE, A, 2000, c, 0, hb, by omega, by omega, by omega, BytesR.keep (fun _ => ?_) hE.block⟩
    obtain ⟨b, o, h1, h2, h3⟩ := hB (by omega)
    exact ⟨b, o, h1, h2, fun i hi => h3 i (by omega)⟩

theorem ext_open {w w1 w' : World} (hE : Ext w w1) (hg : w1.grownBy w' (some w.heap.size)) : Ext w w' :=
  ext_of_only (only_pick (only_of_ext hE _) hg) (Nat.le_refl _)

/-- A log has been drawn. -/
def GotLog (w : World) (e : Ending) (w' : World) : Prop :=
  ∃ (A : Option Addr) (c : Nat) (l : List Upd), e = .returned (.slice A l.length c) ∧ l.length ≤ 13 ∧ l.length ≤ c ∧ c ≤ maxLen ∧ LogR w' A l ∧ Ext w w'
def GotTwo (w : World) (e : Ending) (w' : World) : Prop :=
  ∃ (A : Option Addr) (c : Nat) (l : List Upd) (B : Option Addr) (d : Nat) (m : List Upd), e = .returned (.tuple #[.slice A l.length c, .slice B m.length d]) ∧ l.length ≤ 13 ∧ m.length ≤ 13 ∧
    l.length ≤ c ∧ c ≤ maxLen ∧ m.length ≤ d ∧ d ≤ maxLen ∧ LogR w' A l ∧ LogR w' B m ∧ Ext w w'
def GotUpd (w : World) (e : Ending) (w' : World) : Prop :=
  ∃ k v : Int, e = .returned (.agg #[.int .i64 k, .int .i64 v]) ∧ -1 ≤ k ∧ k ≤ 8 ∧ -1 ≤ v ∧ v ≤ 100 ∧ Ext w w'

theorem gotLog_of {w w1 w' : World} {P : Nat} {e : Ending} (hE : Ext w w1) (h : DrewL w1 w.heap.size P e w') : GotLog w e w' := by
  obtain ⟨A, c, l, he, hl, hn, hown, ho, hr⟩ := h
  obtain ⟨A', c', hv, h1, h2⟩ := own_form hown
  injection hv with _ _ hc
  subst hc
  exact ⟨A, c, l, he, hl, h1, h2, CellsR.of_own hown, ext_open hE ho⟩

end Go.Proofs.YtciekjplhbimdaaZ

/-
  Contracts: drawing states.
-/
set_option linter.all false
namespace Go.Proofs.YtciekjplhbimdaaZ
open Go.RowKit

/-- What is held at the head of the loop that draws a state. -/
def IntsTo (w : World) (g P : Nat) (v : Value) (k : Nat) (wr : World) : Prop :=
  ∃ l : List Int, l.length = k ∧ wr.ownsRow w.heap.size 3 1 v k (icells l) ∧ w.grownBy wr (some g) ∧ RdAt wr g (P + 2 * k)

theorem intsTo_step {w w1 w2 : World} {g P k : Nat} {v v' : Value} {l : List Int} {a : Int} {o : Obj} {wr : World} (hl : l.length = k) (hown : wr.ownsRow w.heap.size 3 1 v k (icells l)) (ho : w.grownBy wr (some g))
    (hg : g < w.heap.size) (hg1 : wr.grownBy w1 (some g)) (hr1 : RdAt w1 g (P + 2 * k + 2))
    (hown' : w2.ownsRow w.heap.size 3 1 v' (k + 1) (icells l ++ [.int .i64 a])) (hgrow : (w1.alloc o).grownBy w2 v.ownBlock) : IntsTo w g P v' (k + 1) w2 := by
  have hrow : ∀ i, v.ownBlock = some i → w.heap.size ≤ i := fun i hi => (hown.lt i hi).1
  refine ⟨l ++ [a], by simp [hl], by simpa [icells] using hown', only_trans (only_alloc (only_pick ho hg1) o) hgrow fun i hi => .inr (hrow i hi), ?_⟩
  exact ((hr1.ext (ext_alloc (ext_refl _) o)).grown hgrow fun i hi => by have := hrow i hi; omega).more (by omega)

theorem own_at {w : World} {base : Nat} {e : TypeId} {size n : Nat} {v : Value} {xs : List Value} (h : w.ownsRow base e size v n xs) (hn : 0 < n) : ∃ g c, v = .slice (some ⟨g, 0, none⟩) n c ∧ base ≤ g ∧ g < w.heap.size ∧ n ≤ c ∧ c ≤ maxLen := by
  rcases h.2 with ⟨rfl, rfl⟩ | ⟨g, cap, cur, rfl, hb, hh, h1, h2, _⟩
  · omega
  · exact ⟨g, cap, rfl, hb, (Array.getElem?_eq_some_iff.1 hh).1, h1, h2⟩

/-- What a drawn state leaves. -/
def DrewS (w : World) (g P : Nat) (e : Ending) (w' : World) : Prop :=
  ∃ (A : Option Addr) (c : Nat) (l : List Int), e = .returned (.slice A l.length c) ∧ l.length ≤ 5 ∧ l.length ≤ c ∧ c ≤ maxLen ∧ IntsR w' A l ∧ w.grownBy w' (some g) ∧ RdAt w' g (P + 15) ∧ ∀ b o, A = some ⟨b, o, none⟩ → w.heap.size ≤ b

end Go.Proofs.YtciekjplhbimdaaZ

/-
  Contracts: drawing logs and states with a number or an update.
-/
set_option linter.all false
namespace Go.Proofs.YtciekjplhbimdaaZ
open Go.RowKit

theorem own_caps {w : World} {base : Nat} {e : TypeId} {size n : Nat} {A : Option Addr} {c : Nat} {xs : List Value} (h : w.ownsRow base e size (.slice A n c) n xs) : n ≤ c ∧ c ≤ maxLen := by
  obtain ⟨A', c', hv, h1, h2⟩ := own_form h
  injection hv with _ _ hc
  subst hc
  exact ⟨h1, h2⟩


/-- A log and a number have been drawn. -/
def GotLogInt (w : World) (e : Ending) (w' : World) : Prop :=
  ∃ (A : Option Addr) (c : Nat) (l : List Upd) (k : Int), e = .returned (.tuple #[.slice A l.length c, .int .i64 k]) ∧ l.length ≤ 13 ∧ l.length ≤ c ∧ c ≤ maxLen ∧ -1 ≤ k ∧ k ≤ 100 ∧ LogR w' A l ∧ Ext w w'



end Go.Proofs.YtciekjplhbimdaaZ
