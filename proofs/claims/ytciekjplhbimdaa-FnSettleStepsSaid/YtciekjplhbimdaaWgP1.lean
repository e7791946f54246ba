/-
  sync.WaitGroup's Add(2), walked by goroutine 0 beside goroutines that only leave.
-/
import Derived.Test.YtciekjplhbimdaaBPh1
import Derived.Conc.FxGenLone
set_option linter.all false
set_option maxRecDepth 100000
namespace Go.Proofs.Ph
open Go Go.Conc Go.RowKit Go.Conc.Lib Go.ConcX.Gen
open Go.ConcR (KK wgBlock WgAt stA smA rd wr mk)

section
variable {P : Program} {main : Bool} {R : World → World → Prop} {D D' : World → World → Array Event → Prop} {Stop Stop' : Goroutine → World → Prop}
theorem goes_more {n m : Nat} {g : Goroutine} {w : World} (h : Goes P main R D Stop n g w) : Goes P main R D Stop (n + m) g w := by
  induction m with
  | zero => exact h
  | succ m ih => exact ih.more
theorem goes_then (hr : ∀ w, R w w) {k : Nat} (hk : ∀ g w, Stop g w → Goes P main R D Stop' k g w) : ∀ {n : Nat} {g : Goroutine} {w : World}, Goes P main R D Stop n g w → Goes P main R D Stop' (n + k) g w
  | 0, g, w, h => by simpa using hk g w (h w (hr w))
  | n + 1, g, w, h => by
    rcases h with h | ⟨hs, h⟩
    · have := hk g w (h w (hr w))
      rw [Nat.add_comm]
      exact goes_more this
    · rw [show n + 1 + k = (n + k) + 1 by omega]
      refine .inr ⟨hs, fun w₁ h₁ => ?_⟩
      have := h w₁ h₁
      revert this
      cases stepG P main g w₁ <;> simp only [GStep.goes, imp_self]
      exact fun ⟨d, x⟩ => ⟨d, goes_then hr hk x⟩
theorem goes_doing (hd : ∀ w w' es, D w w' es → D' w w' es) : ∀ {n : Nat} {g : Goroutine} {w : World}, Goes P main R D Stop n g w → Goes P main R D' Stop n g w
  | 0, g, w, h => h
  | n + 1, g, w, h => by
    rcases h with h | ⟨hs, h⟩
    · exact .inl h
    · refine .inr ⟨hs, fun w₁ h₁ => ?_⟩
      have := h w₁ h₁
      revert this
      cases stepG P main g w₁ <;> simp only [GStep.goes, imp_self]
      exact fun ⟨d, x⟩ => ⟨hd _ _ _ d, goes_doing hd x⟩
end

/-- Goroutine 0 at the word that it reads the group's second cell. -/
def AtRd (P : Program) (Wg : Nat) (NX : Goroutine → World → Prop) (g : Goroutine) (w : World) : Prop :=
  g.status = .running ∧ ∃ g', ∀ d, stepG P true g (w.at d) = .go g' (w.at d) #[mk (.read (smA Wg))] ∧ Goes P true AtRel Go.ConcR.DC0 (AtAdd3 P NX) 300 g' (w.at d)
theorem rd_goes {P : Program} {Wg : Nat} {NX : Goroutine → World → Prop} (g : Goroutine) (w : World) (h : AtRd P Wg NX g w) : Goes P true AtRel (DR Wg) (AtAdd3 P NX) 301 g w := by
  obtain ⟨h1, g', h2⟩ := h
  refine .inr ⟨h1, ?_⟩
  rintro w₁ ⟨d, rfl⟩
  obtain ⟨h3, h4⟩ := h2 d
  rw [h3]
  exact ⟨⟨rfl, fun e he => ⟨smA Wg, rfl, one_mem he⟩⟩, goes_doing (fun w w' es h => ⟨h.1, by rw [h.2]; simp⟩) h4⟩
section
variable {L : WgLink} {Wg : Nat} {b₀ : Frame} {a₀ : Act} {ops₀ : Array Oper} {i₀ : Nat} {rest₀ : List Nat} {k₀ : List Item} {cs : List Frame} {NX : Goroutine → World → Prop} {mT : Nat}
set_option maxRecDepth 100000 in
set_option maxHeartbeats 8000000 in
theorem addTwo {P : Program} (H : WgLib P L) (w : World) (hw : WgAt L.tWg Wg w 0 0)
    (hT : Goes P true AtRel Go.ConcR.DC0 NX mT (G (b₀.at (a₀.put ((ops₀[i₀]?).bind (·.dst)) (.tuple #[])) (.inRegion ops₀ rest₀ :: k₀)) cs) (w.setCell (stA Wg) (.int .u64 (2 * KK)))) :
    Goes P true AtRel Go.ConcR.DC0 (AtAdd1 P Wg NX) 60 (G ((base L.add).at ⟨#[.pointer (some ⟨Wg, 0, none⟩), .int .i64 2, undef, undef, undef, undef, undef, undef, undef, undef, undef, undef, undef, undef, undef, undef, undef, undef, undef, undef, undef, undef, undef, undef, undef, undef, undef, undef, undef, undef, undef, undef, undef, undef, undef, undef, undef, undef, undef, undef, undef, undef, undef, undef, undef, undef, undef, undef, undef, undef, undef, undef, undef, undef, undef, undef, undef, undef, undef, undef, undef, undef, undef, undef, undef, undef, undef, undef, undef, undef, undef, undef, undef, undef, undef, undef, undef, undef, undef, undef, undef, undef, undef, undef, undef, undef, undef, undef, undef, undef, undef, undef, undef, undef, undef, undef, undef, undef, undef, undef, undef, undef, undef, undef, undef, undef, undef, undef, undef, undef, undef, undef, undef, undef, undef, undef, undef], []⟩ [.code (body_add L)]) (b₀.at a₀ (.inRegion ops₀ (i₀ :: rest₀) :: k₀) :: cs)) w := by
  lib_facts
  simp only [body_add, addFn, Option.getD_some]
  repeat (first | l_c stepG_seq | l_c stepG_region_end | l_c stepG_skip | l_c stepG_ret' | l_reg | l_cond true | l_cond false | ((with_reducible show Goes _ _ _ _ _ _ (G (Frame.at _ _ (Item.inRegion _ (_ :: _) :: _)) _) _); first | l_defer | l_bub | l_op | l_skip))
  refine Goes.stop (fun w₁ h₁ => ?_)
  obtain ⟨dd, hdd⟩ := h₁
  subst hdd
  refine ⟨rfl, _, stepG_mark0 .disable (by simp) rfl rfl (by k_ne) rfl H.f_disable (x_disable_n L) (x_disable_b L) (x_disable_x L) (x_disable_f L), 200, ?_⟩
  walk_nrm
  repeat (first | l_c stepG_seq | l_c stepG_region_end | l_c stepG_skip | l_c stepG_ret' | l_reg | l_cond true | l_cond false | ((with_reducible show Goes _ _ _ _ _ _ (G (Frame.at _ _ (Item.inRegion _ (_ :: _) :: _)) _) _); first | l_defer | l_bub | l_op | l_skip))
  l_call H.f_uAdd (nm_uAdd L) uAddFn
  repeat (first | l_c stepG_seq | l_c stepG_region_end | l_c stepG_skip | l_c stepG_ret' | l_reg | l_cond true | l_cond false | ((with_reducible show Goes _ _ _ _ _ _ (G (Frame.at _ _ (Item.inRegion _ (_ :: _) :: _)) _) _); first | l_defer | l_bub | l_op | l_skip))
  -- the atomic add
  refine Goes.stop (fun w₁ h₁ => ?_)
  obtain ⟨d, hd⟩ := h₁
  subst hd
  simp only [at_at]
  have hwd : WgAt L.tWg Wg (w.at d) 0 0 := hw
  have e0 : IntKind.u64.wrap (0 + 8589934592) = 2 * KK := by decide
  refine ⟨rfl, _, (stepG_add_atomic rfl rfl (by k_ne) rfl H.f_addU64 (x_addU64_n L) (x_addU64_b L) (x_addU64_x L) .u64 (x_addU64_f L) rfl rfl hwd.cellSt (hwd.thaw 0)).trans (by rw [e0]; rfl), 299 + 301, ?_⟩
  clear hwd
  replace hw := hw.setSt (2 * KK)
  refine goes_then (Stop := AtRd P Wg NX) (k := 301) atRel_refl rd_goes (n := 299) (goes_doing (D := Go.ConcR.DC0) (fun w w' es h => ⟨h.1, by rw [h.2]; simp⟩) ?_)
  have e1 : 2 * KK = 8589934592 := by decide
  rw [e1] at hw hT
  simp only [e1]
  have bb4 : bits .and .u64 8589934592 2147483648 = 0 := by decide
  have bc4 : bits .and .u64 8589934592 2147483647 = 0 := by decide
  walk_nrm
  repeat (first | l_c stepG_seq | l_c stepG_region_end | l_c stepG_skip | l_c stepG_ret' | l_reg | l_cond true | l_cond false | l_leave1 H.f_uAdd | ((with_reducible show Goes _ _ _ _ _ _ (G (Frame.at _ _ (Item.inRegion _ (_ :: _) :: _)) _) _); first | l_defer | l_bub | l_op | l_skip))
  have hsm : ∀ dq, ((w.setCell (stA Wg) (.int .u64 8589934592)).at dq).cell? ⟨Wg, 1, none⟩ = some (.int .u32 0) := fun _ => hw.cellSm
  l_conv H.underlying_tPU32 H.room_tU32 hsm
  clear hsm
  -- race.Read
  refine Goes.stop (fun w₁ h₁ => ?_)
  obtain ⟨d, hd⟩ := h₁
  subst hd
  refine ⟨rfl, _, fun d2 => ⟨stepG_markAt .read (by simp) rfl rfl (by k_ne) rfl H.f_raceRead (x_raceRead_n L) (x_raceRead_b L) (x_raceRead_x L) (x_raceRead_f L) (ad := ⟨Wg, 1, none⟩) (by simp [Act.eval]), ?_⟩⟩
  walk_nrm
  repeat (first | l_c stepG_seq | l_c stepG_region_end | l_c stepG_skip | l_c stepG_ret' | l_reg | l_cond true | l_cond false | ((with_reducible show Goes _ _ _ _ _ _ (G (Frame.at _ _ (Item.inRegion _ (_ :: _) :: _)) _) _); first | l_defer | l_bub | l_op | l_skip))
  refine Goes.stop (fun w₁ h₁ => ?_)
  obtain ⟨d3, hd⟩ := h₁
  subst hd
  simp only [at_at]
  refine ⟨rfl, _, stepG_unwind_entry (v := .tuple #[]) (evs := #[Go.ConcR.mk .enable]) rfl H.f_enable (x_enable_n L) (x_enable_b L) (x_enable_x L) (x_enable_f L) (by simp [Extern.Race.none_]) (by simp [Go.ConcR.mk]) (by simp [Go.ConcR.mk]), mT + 1, ?_⟩
  l_leave0 H.f_add
  exact Goes.rely atRel_trans hT ⟨_, rfl⟩
end
end Go.Proofs.Ph
