/-
  Contracts: what the tail has at a key, both.
-/
import Derived.Test.YtciekjplhbimdaaZBChain
import Derived.Test.YtciekjplhbimdaaZW5
set_option linter.all false
set_option maxRecDepth 100000
namespace Go.Proofs.YtciekjplhbimdaaZ
open Go.RowKit
attribute [local go_sem ↓] Go.wp_at_zero Go.wp_at_succ

/-- What a read answers: a value, and whether there is one. -/
def RdRes (v : Int) (ns : List Nd) (key r : Int) (b : Bool) : Prop :=
  (ChOk v ns ∧ (0 ≤ key ∧ key ≤ 4) ∧ ∃ n, ns[ns.length - 1]? = some n ∧ ∃ x, (stBehind n.log)[key.toNat]? = some x ∧ ((0 ≤ x ∧ r = x ∧ b = true) ∨ (x < 0 ∧ r = 0 ∧ b = false))) ∨
  (¬ (ChOk v ns ∧ (0 ≤ key ∧ key ≤ 4)) ∧ r = 0 ∧ b = false)
theorem rdRes_ex (v : Int) (ns : List Nd) (key : Int) : ∃ r b, RdRes v ns key r b := by
  by_cases h : ChOk v ns ∧ (0 ≤ key ∧ key ≤ 4)
  · have hn : ns[ns.length - 1]? = some (ns[ns.length - 1]'(by have := h.1.2.1; omega)) := List.getElem?_eq_getElem _
    have hx : (stBehind (ns[ns.length - 1]'(by have := h.1.2.1; omega)).log)[key.toNat]? = some ((stBehind (ns[ns.length - 1]'(by have := h.1.2.1; omega)).log)[key.toNat]'(by rw [stBehind_len]; omega)) := List.getElem?_eq_getElem _
    by_cases h0 : 0 ≤ (stBehind (ns[ns.length - 1]'(by have := h.1.2.1; omega)).log)[key.toNat]'(by rw [stBehind_len]; omega)
    · exact ⟨_, true, .inl ⟨h.1, h.2, _, hn, _, hx, .inl ⟨h0, rfl, rfl⟩⟩⟩
    · exact ⟨0, false, .inl ⟨h.1, h.2, _, hn, _, hx, .inr ⟨by omega, rfl, rfl⟩⟩⟩
  · exact ⟨0, false, .inr ⟨h, rfl, rfl⟩⟩

def GotRd (w : World) (r : Int) (b : Bool) (e : Ending) (w' : World) : Prop := e = .returned (.tuple #[.int .i64 r, .bool b]) ∧ Ext w w'
theorem gotRd_of {w w' : World} {r r' : Int} {b b' : Bool} (hr : r = r') (hb : b = b') (hE : Ext w w') : GotRd w r b (.returned (.tuple #[.int .i64 r', .bool b'])) w' := by subst hr hb; exact ⟨rfl, hE⟩

theorem run_field_log (x j : Int) (B : Option Addr) (n c : Nat) (w : World) : (Instr.field 36 (.agg #[.int .i64 x, .slice B n c, .int .i64 j]) 1).run Alt.prog w = .ok (.slice B n c) w := by kernel_rfl
set_option maxHeartbeats 3200000 in
theorem implChainRead_any {A : Option Addr} {ns : List Nd} (c : Nat) (v key r : Int) (b : Bool) {w : World} (h : NodesR w A ns) (hb : bulk ns ≤ 1048576) (hR : RdRes v ns key r b) :
    Calls Alt.prog 21 #[.agg #[.int .i64 v, .slice A ns.length c], .int .i64 key] w (GotRd w r b) := by
  have hl := bulk_len ns
  have hE := hide (ext_alloc (ext_refl w) (.cells #[.int .i64 v, .slice A ns.length c] 25))
  have hN := hide (h.ext hE.out)
  have bC := hide (Blk.newAt w 25 #[.int .i64 v, .slice A ns.length c] (g := w.heap.size) rfl)
  clear h
  rcases hR with ⟨hok, hkey, n, hn, x, hx, hcase⟩ | ⟨hno, hr, hbb⟩
  · have hlen := hok.2.1
    have hd : decide (0 ≤ key ∧ key < 5) = true := by simp; omega
    obtain ⟨kn, rfl⟩ := Int.eq_ofNat_of_zero_le hkey.1
    have hk5 : kn < 5 := by omega
    have hk5' : (kn : Int) < 5 := by omega
    have hk0 : (0 : Int) ≤ (kn : Int) := by omega
    have hlog : logOk n.log = true := by
      have := hok.node (i := ns.length - 1) (by omega)
      have e : ns[ns.length - 1]'(by omega) = n := by
        have := (List.getElem?_eq_some_iff.1 hn).2; exact this
      rw [e] at this
      obtain ⟨a, l, j, rfl⟩ := nd_cases n
      exact (ndOk_parts this).2.2.1
    replace hok := hide hok
    go_enter Alt.func21, Try.ntmps21
    go_wp2_with fail
    refine (implChainValid_yes c v hN.out hb hok.out).mono ?_
    rintro e w1 ⟨rfl, hF⟩
    replace hN := hide (hN.out.ext hF)
    replace bC := hide (bC.out.ext hF)
    try clear bC_0 bC_1 bC_lt
    obtain ⟨bC_0, bC_1, bC_lt⟩ := bC.out.at2
    replace hE := hide (ext_trans hE.out hF)
    clear hF
    go_wp2_with (go_at_call 49; refine (keyValid_any _ _).mono ?_; rintro e w' ⟨rfl, rfl⟩)
    refine (implTailOf_any c v hN.out hb (by omega)).mono ?_
    rintro e w2 ⟨x2, l, j, B, d, hn2, rfl, hld, hdm, hB, hF⟩
    rw [hn] at hn2
    cases hn2
    have hlm : l.length ≤ 1048576 := bulk_of hb hn
    replace hB := hide hB
    replace hE := hide (ext_trans hE.out hF)
    clear hF
    obtain ⟨s, hs⟩ : ∃ s, stBehind l = s := ⟨_, rfl⟩
    have hs5 : s.length = 5 := by rw [← hs]; exact stBehind_len l
    have hso : stateOf l = s := by unfold stateOf; rw [if_pos hlog]; exact hs
    rw [hs] at hx
    replace hs := hide hs
    replace hs5 := hide hs5
    replace hso := hide hso
    replace hx := hide hx
    clear hlog
    replace hn := hide hn
    have hfd := fun w' => run_field_log x2 j B l.length d w'
    go_wp2_with fail
    clear hfd
    refine (implStateOf_s d hB.out rfl hlm hld hso.out).mono ?_
    intro e w3 hG
    obtain ⟨A3, c3, rfl, -, -, hI, hF⟩ := hG.use
    clear hG
    obtain ⟨b3, o3, y, hA3, hb3, hy, hc3⟩ := int_at hI.out (i := kn) (by have := hs5.out; omega)
    subst hA3
    have hyx : y = x := by
      have := hx.out
      simp only [Int.toNat_natCast] at this
      rw [List.getElem?_eq_getElem (by have := hs5.out; omega), hy] at this
      injection this
    subst hyx
    replace hE := hide (ext_trans hE.out hF.out)
    have hkl : (kn : Int) < (s.length : Int) := by have := hs5.out; omega
    have hkl' : kn < s.length := by have := hs5.out; omega
    rcases hcase with ⟨h0, hr, hbb⟩ | ⟨h0, hr, hbb⟩
    · replace hr := hide hr
      replace hbb := hide hbb
      clear hI hF
      go_wp2_with fail
      go_ret2
      exact gotRd_of hr.out hbb.out hE.out
    · replace hr := hide hr
      replace hbb := hide hbb
      clear hI hF
      go_wp2_with fail
      go_ret2
      exact gotRd_of hr.out hbb.out hE.out
  · replace hr := hide hr
    replace hbb := hide hbb
    by_cases hok : ChOk v ns
    · have hd : decide (0 ≤ key ∧ key < 5) = false := by simp; intro h1; have : ¬ (0 ≤ key ∧ key ≤ 4) := fun h2 => hno ⟨hok, h2⟩; omega
      replace hok := hide hok
      replace hno := hide hno
      go_enter Alt.func21, Try.ntmps21
      go_wp2_with fail
      refine (implChainValid_yes c v hN.out hb hok.out).mono ?_
      rintro e w1 ⟨rfl, hF⟩
      replace hE := hide (ext_trans hE.out hF)
      clear hF
      go_wp2_with (go_at_call 49; refine (keyValid_any _ _).mono ?_; rintro e w' ⟨rfl, rfl⟩)
      go_ret2
      exact gotRd_of hr.out hbb.out hE.out
    · replace hok := hide hok
      replace hno := hide hno
      go_enter Alt.func21, Try.ntmps21
      go_wp2_with fail
      refine (implChainValid_no c v hN.out hb hok.out).mono ?_
      rintro e w1 ⟨rfl, hF⟩
      replace hE := hide (ext_trans hE.out hF)
      clear hF
      go_wp2_with fail
      go_ret2
      exact gotRd_of hr.out hbb.out hE.out

end Go.Proofs.YtciekjplhbimdaaZ
