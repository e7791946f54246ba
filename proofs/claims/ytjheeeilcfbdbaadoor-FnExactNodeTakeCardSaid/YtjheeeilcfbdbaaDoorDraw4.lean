/-
  Contracts: the draws of the laws on updates and logs.
-/
import Derived.Test.YtjheeeilcfbdbaaDoorDraw3
set_option linter.all false
set_option maxRecDepth 100000
namespace Go.Proofs.YtjheeeilcfbdbaaDoor
open Go.RowKit

/-- A code that came in: a row of bytes. -/
def CodeR (w : World) (A : Option Addr) (n c : Nat) : Prop := n ≤ c ∧ c ≤ maxLen ∧ BytesR w w.heap.size A n

theorem CodeR.alloc {w : World} {A : Option Addr} {n c : Nat} (h : CodeR w A n c) (o : Obj) : CodeR (w.alloc o) A n c := by
  obtain ⟨h1, h2, h3⟩ := h
  refine ⟨h1, h2, fun hn => ?_⟩
  obtain ⟨b, o', hA, hb, hc⟩ := h3 hn
  refine ⟨b, o', hA, by simp; omega, fun i hi => ?_⟩
  obtain ⟨x, hx, hx', hcx⟩ := hc i hi
  exact ⟨x, hx, hx', ext_cell (ext_alloc (ext_refl w) o) hcx⟩

theorem l6Open_any {A : Option Addr} {n c : Nat} {w : World} (h : CodeR w A n c) :
    Calls Tryd.prog 34 #[.slice A n c] w fun e w' => e = .returned (.pointer (some ⟨w.heap.size, 0, none⟩)) ∧ Ext w w' ∧ RdAt w' w.heap.size 0 := by
  obtain ⟨hnc, hc, hB⟩ := h
  by_cases hn : n ≤ 2000
  · refine (open_lo A n c w hn).mono ?_
    rintro e w' ⟨he, hE, hb⟩
    exact ⟨he, hE, A, n, c, 0, hb, by omega, by omega, hn, hB.keep hE.block⟩
  · refine (open_hi A n c w (by omega) hnc hc (by omega)).mono ?_
    rintro e w' ⟨he, hE, hb⟩
    refine ⟨he, hE, A, 2000, c, 0, hb, by omega, by omega, by omega, BytesR.keep (fun _ => ?_) hE.block⟩
    obtain ⟨b, o, h1, h2, h3⟩ := hB (by omega)
    exact ⟨b, o, h1, h2, fun i hi => h3 i (by omega)⟩

theorem ext_open {w w1 w' : World} (hE : Ext w w1) (hg : w1.grownBy w' (some w.heap.size)) : Ext w w' :=
  ext_of_only (only_pick (only_of_ext hE _) hg) (Nat.le_refl _)

/-- A log has been drawn. -/
def GotLog (w : World) (e : Ending) (w' : World) : Prop :=
  ∃ (A : Option Addr) (c : Nat) (l : List Upd), e = .returned (.slice A l.length c) ∧ l.length ≤ 13 ∧ l.length ≤ c ∧ c ≤ maxLen ∧ LogR w' A l ∧ Ext w w'
def GotTwo (w : World) (e : Ending) (w' : World) : Prop :=
  ∃ (A : Option Addr) (c : Nat) (l : List Upd) (B : Option Addr) (d : Nat) (m : List Upd), e = .returned (.tuple #[.slice A l.length c, .slice B m.length d]) ∧ l.length ≤ 13 ∧ m.length ≤ 13 ∧
    l.length ≤ c ∧ c ≤ maxLen ∧ m.length ≤ d ∧ d ≤ maxLen ∧ LogR w' A l ∧ LogR w' B m ∧ Ext w w'
def GotUpd (w : World) (e : Ending) (w' : World) : Prop :=
  ∃ k v : Int, e = .returned (.agg #[.int .i64 k, .int .i64 v]) ∧ -1 ≤ k ∧ k ≤ 8 ∧ -1 ≤ v ∧ v ≤ 100 ∧ Ext w w'

theorem gotLog_of {w w1 w' : World} {P : Nat} {e : Ending} (hE : Ext w w1) (h : DrewL w1 w.heap.size P e w') : GotLog w e w' := by
  obtain ⟨A, c, l, he, hl, hn, hown, ho, hr⟩ := h
  obtain ⟨A', c', hv, h1, h2⟩ := own_form hown
  injection hv with _ _ hc
  subst hc
  exact ⟨A, c, l, he, hl, h1, h2, CellsR.of_own hown, ext_open hE ho⟩

end Go.Proofs.YtjheeeilcfbdbaaDoor
