/-
  sync.WaitGroup's Add(-1), walked by a worker that is done: where it stands at each word that the phase looks at (PhB), and that behind the last of them it only leaves.
-/
import Derived.Test.YtciekjplhbimdaaBPh1
import Derived.Conc.FxGenDone
set_option linter.all false
set_option maxRecDepth 100000
namespace Go.Proofs.Ph
open Go Go.Conc Go.RowKit Go.Conc.Lib Go.ConcX.Gen
open Go.ConcR (KK wgBlock WgAt stA smA rd wr)

theorem r0_rely {ty : TypeId} {Wg : Nat} {w w₁ : World} (h : WgLive ty Wg w) (r : R0 ty Wg w w₁) : WgLive ty Wg w₁ := r h
theorem live_cell0 {ty : TypeId} {Wg : Nat} {w : World} (h : WgLive ty Wg w) : ∃ v, w.cell? ⟨Wg, 0, none⟩ = some v := let ⟨_, _, x⟩ := h; ⟨_, x.cellSt⟩
theorem live_cell1 {ty : TypeId} {Wg : Nat} {w : World} (h : WgLive ty Wg w) : ∃ v, w.cell? ⟨Wg, 1, none⟩ = some v := let ⟨_, _, x⟩ := h; ⟨_, x.cellSm⟩
theorem qe_of {P : Program} {d d' : Nat} {g g' : Goroutine} (h : ∀ q, QuitsD P q d' g' → QuitsD P (q + 1) d g) (hq : ∃ q, QuitsD P q d' g') : ∃ q, QuitsD P q d g := let ⟨q, x⟩ := hq; ⟨q + 1, h q x⟩
theorem qe_ctl {P : Program} {d : Nat} {g : Goroutine} (g' : Goroutine) (hs : g.status = .running) (h : ∀ w, stepG P false g w = .go g' w) (hq : ∃ q, QuitsD P q d g') : ∃ q, QuitsD P q d g := let ⟨q, x⟩ := hq; ⟨q + 1, .ctl hs h x⟩
theorem qe_value {P : Program} {d : Nat} {b : Frame} {a : Act} {k : List Item} {cs : List Frame} {ops : Array Oper} {i : Nat} {rest : List Nat} {o : Oper} (v : Value) (ho : ops[i]? = some o) (hw : Region.wanted o (yielded ops a.tmps) = true) (hk : b.kind ≠ .early)
    (hr : ∀ w, (execOp a.eval o).run P w = .ok (.value v) w) (he : ∀ w, (execOp a.eval o).events P w #[] = #[])
    (hq : ∃ q, QuitsD P q d (G (b.at (a.put o.dst v) (.inRegion ops rest :: k)) cs)) : ∃ q, QuitsD P q d (G (b.at a (.inRegion ops (i :: rest) :: k)) cs) := let ⟨q, x⟩ := hq; ⟨q + 1, QuitsD.value v ho hw hk hr he x⟩

section
variable {L : WgLink} {Wg : Nat} {b₀ : Frame} {a₀ : Act} {ops₀ : Array Oper} {i₀ : Nat} {rest₀ : List Nat} {k₀ : List Item} {cs : List Frame} {qt : Nat}
set_option maxRecDepth 100000 in
set_option maxHeartbeats 8000000 in
theorem addNegPh {P : Program} (H : WgLib P L)
    (hT : ∃ q, QuitsD P q 0 (G (b₀.at (a₀.put ((ops₀[i₀]?).bind (·.dst)) (.tuple #[])) (.inRegion ops₀ rest₀ :: k₀)) cs)) (w : World) (hK : WgLive L.tWg Wg w) :
    Goes P false (R0 L.tWg Wg) Go.ConcR.DC0 (AtR0 P L.tWg Wg) 60 (G ((base L.add).at ⟨#[.pointer (some ⟨Wg, 0, none⟩), .int .i64 (-1), undef, undef, undef, undef, undef, undef, undef, undef, undef, undef, undef, undef, undef, undef, undef, undef, undef, undef, undef, undef, undef, undef, undef, undef, undef, undef, undef, undef, undef, undef, undef, undef, undef, undef, undef, undef, undef, undef, undef, undef, undef, undef, undef, undef, undef, undef, undef, undef, undef, undef, undef, undef, undef, undef, undef, undef, undef, undef, undef, undef, undef, undef, undef, undef, undef, undef, undef, undef, undef, undef, undef, undef, undef, undef, undef, undef, undef, undef, undef, undef, undef, undef, undef, undef, undef, undef, undef, undef, undef, undef, undef, undef, undef, undef, undef, undef, undef, undef, undef, undef, undef, undef, undef, undef, undef, undef, undef, undef, undef, undef, undef, undef, undef, undef, undef], []⟩ [.code (body_add L)]) (b₀.at a₀ (.inRegion ops₀ (i₀ :: rest₀) :: k₀) :: cs)) w := by
  lib_facts
  simp only [body_add, addFn, Option.getD_some]
  repeat (first | u_c stepG_seq r0_rely hK | u_c stepG_region_end r0_rely hK | u_c stepG_skip r0_rely hK | u_c stepG_ret' r0_rely hK | u_reg r0_rely hK | u_cond true r0_rely hK | u_cond false r0_rely hK | u_c stepG_block r0_rely hK | u_c stepG_loop r0_rely hK | u_c stepG_inBlock r0_rely hK | u_c stepG_inLoop r0_rely hK | u_c stepG_end r0_rely hK | u_conv H.underlying_tWgP H.room_tWg (live_cell0 hK).choose_spec r0_rely hK | ((with_reducible show Goes _ _ _ _ _ _ (G (Frame.at _ _ (Item.inRegion _ (_ :: _) :: _)) _) _); first | u_defer r0_rely hK | u_bub r0_rely hK | u_op r0_rely hK | u_skip r0_rely hK))
  refine Goes.stop (fun w₁ h₁ => ?_)
  replace hK := h₁ hK
  clear h₁
  refine ⟨rfl, _, stepG_markAt .releaseMerge (by simp) rfl rfl (by k_ne) rfl H.f_relMerge (x_relMerge_n L) (x_relMerge_b L) (x_relMerge_x L) (x_relMerge_f L) (by simp [Act.eval, stA]), 40, ?_⟩
  walk_nrm
  repeat (first | u_c stepG_seq r0_rely hK | u_c stepG_region_end r0_rely hK | u_c stepG_skip r0_rely hK | u_c stepG_ret' r0_rely hK | u_reg r0_rely hK | u_cond true r0_rely hK | u_cond false r0_rely hK | u_c stepG_block r0_rely hK | u_c stepG_loop r0_rely hK | u_c stepG_inBlock r0_rely hK | u_c stepG_inLoop r0_rely hK | u_c stepG_end r0_rely hK | ((with_reducible show Goes _ _ _ _ _ _ (G (Frame.at _ _ (Item.inRegion _ (_ :: _) :: _)) _) _); first | u_defer r0_rely hK | u_bub r0_rely hK | u_op r0_rely hK | u_skip r0_rely hK))
  refine Goes.stop (fun w₁ h₁ => ?_)
  replace hK := h₁ hK
  clear h₁
  refine ⟨rfl, _, stepG_mark0 .disable (by simp) rfl rfl (by k_ne) rfl H.f_disable (x_disable_n L) (x_disable_b L) (x_disable_x L) (x_disable_f L), 80, ?_⟩
  walk_nrm
  repeat (first | u_c stepG_seq r0_rely hK | u_c stepG_region_end r0_rely hK | u_c stepG_skip r0_rely hK | u_c stepG_ret' r0_rely hK | u_reg r0_rely hK | u_cond true r0_rely hK | u_cond false r0_rely hK | u_c stepG_block r0_rely hK | u_c stepG_loop r0_rely hK | u_c stepG_inBlock r0_rely hK | u_c stepG_inLoop r0_rely hK | u_c stepG_end r0_rely hK | ((with_reducible show Goes _ _ _ _ _ _ (G (Frame.at _ _ (Item.inRegion _ (_ :: _) :: _)) _) _); first | u_defer r0_rely hK | u_bub r0_rely hK | u_op r0_rely hK | u_skip r0_rely hK))
  u_call H.f_uAdd (nm_uAdd L) uAddFn r0_rely hK
  repeat (first | u_c stepG_seq r0_rely hK | u_c stepG_region_end r0_rely hK | u_c stepG_skip r0_rely hK | u_c stepG_ret' r0_rely hK | u_reg r0_rely hK | u_cond true r0_rely hK | u_cond false r0_rely hK | u_c stepG_block r0_rely hK | u_c stepG_loop r0_rely hK | u_c stepG_inBlock r0_rely hK | u_c stepG_inLoop r0_rely hK | u_c stepG_end r0_rely hK | ((with_reducible show Goes _ _ _ _ _ _ (G (Frame.at _ _ (Item.inRegion _ (_ :: _) :: _)) _) _); first | u_defer r0_rely hK | u_bub r0_rely hK | u_op r0_rely hK | u_skip r0_rely hK))
  refine Goes.stop (fun w₁ h₁ => ?_)
  clear h₁ hK
  refine ⟨rfl, fun v wt hwt hv hw => ?_⟩
  rcases (show v = 0 ∨ v = 1 by omega) with rfl | rfl <;> (rcases (show wt = 0 ∨ wt = 1 by omega) with rfl | rfl)
  · replace hw : WgAt L.tWg Wg w₁ 4294967296 0 := hw
    have e0 : IntKind.u64.wrap (4294967296 + 18446744069414584320) = 0 := by decide
    have z : ((0 : Nat) : Int) * KK + ((0 : Nat) : Int) = 0 := by decide
    rw [z]
    refine ⟨_, (stepG_add_atomic rfl rfl (by k_ne) rfl H.f_addU64 (x_addU64_n L) (x_addU64_b L) (x_addU64_x L) .u64 (x_addU64_f L) rfl rfl hw.cellSt (hw.thaw 0)).trans (by rw [e0]; rfl), fun hl => absurd hl.2 (by decide), fun _ => ?_⟩
    clear hw
    walk_nrm
    repeat (first | (refine qe_ctl ?_ rfl (fun _ => ?_) ?_; rotate_left; (focus (rw [stepG_seq]))) | (refine qe_ctl ?_ rfl (fun _ => ?_) ?_; rotate_left; (focus (rw [stepG_region_end]))) | (refine qe_ctl ?_ rfl (fun _ => ?_) ?_; rotate_left; (focus (rw [stepG_skip]))) | (refine qe_ctl ?_ rfl (fun _ => ?_) ?_; rotate_left; (focus (rw [stepG_ret']))) | (refine qe_ctl ?_ rfl (fun _ => ?_) ?_; rotate_left; (focus (rw [stepG_inBlock]))) | (refine qe_ctl ?_ rfl (fun _ => ?_) ?_; rotate_left; (focus (rw [stepG_inLoop]))) | (refine qe_ctl ?_ rfl (fun _ => ?_) ?_; rotate_left; (focus (rw [stepG_end]))) | ((refine qe_ctl ?_ rfl (fun _ => ?_) ?_; rotate_left; (focus (rw [stepG_region]))); simp only [List.size_toArray, List.length_cons, List.length_nil, Nat.reduceAdd, Nat.zero_add, List.range, List.range.loop]) | ((refine qe_ctl ?_ rfl (fun _ => ?_) ?_; rotate_left; (focus (rw [stepG_cond (t := true) rfl]))); simp only [if_true, ↓reduceIte]) | ((refine qe_ctl ?_ rfl (fun _ => ?_) ?_; rotate_left; (focus (rw [stepG_cond (t := false) rfl]))); simp only [if_false, Bool.false_eq_true, ↓reduceIte]) | ((with_reducible show ∃ q, QuitsD _ q _ (G (Frame.at _ _ (Item.inRegion _ (_ :: _) :: _)) _)); first | (refine qe_value ?_ rfl rfl (by k_ne) (fun _ => ?_) (fun _ => by simp [go_sem, *]) ?_; rotate_left; (focus (go_simp; first | rfl | (w_num; rfl))); (try w_num); walk_nrm) | (refine qe_of (fun _ hq => QuitsD.unwanted rfl rfl hq) ?_; walk_nrm)))
    refine qe_of (fun _ hq => QuitsD.leave1 rfl rfl H.f_uAdd rfl hq) ?_
    walk_nrm
    repeat (first | (refine qe_ctl ?_ rfl (fun _ => ?_) ?_; rotate_left; (focus (rw [stepG_seq]))) | (refine qe_ctl ?_ rfl (fun _ => ?_) ?_; rotate_left; (focus (rw [stepG_region_end]))) | (refine qe_ctl ?_ rfl (fun _ => ?_) ?_; rotate_left; (focus (rw [stepG_skip]))) | (refine qe_ctl ?_ rfl (fun _ => ?_) ?_; rotate_left; (focus (rw [stepG_ret']))) | (refine qe_ctl ?_ rfl (fun _ => ?_) ?_; rotate_left; (focus (rw [stepG_inBlock]))) | (refine qe_ctl ?_ rfl (fun _ => ?_) ?_; rotate_left; (focus (rw [stepG_inLoop]))) | (refine qe_ctl ?_ rfl (fun _ => ?_) ?_; rotate_left; (focus (rw [stepG_end]))) | ((refine qe_ctl ?_ rfl (fun _ => ?_) ?_; rotate_left; (focus (rw [stepG_region]))); simp only [List.size_toArray, List.length_cons, List.length_nil, Nat.reduceAdd, Nat.zero_add, List.range, List.range.loop]) | ((refine qe_ctl ?_ rfl (fun _ => ?_) ?_; rotate_left; (focus (rw [stepG_cond (t := true) rfl]))); simp only [if_true, ↓reduceIte]) | ((refine qe_ctl ?_ rfl (fun _ => ?_) ?_; rotate_left; (focus (rw [stepG_cond (t := false) rfl]))); simp only [if_false, Bool.false_eq_true, ↓reduceIte]) | ((with_reducible show ∃ q, QuitsD _ q _ (G (Frame.at _ _ (Item.inRegion _ (_ :: _) :: _)) _)); first | (refine qe_value ?_ rfl rfl (by k_ne) (fun _ => ?_) (fun _ => by simp [go_sem, *]) ?_; rotate_left; (focus (go_simp; first | rfl | (w_num; rfl))); (try w_num); walk_nrm) | (refine qe_of (fun _ hq => QuitsD.unwanted rfl rfl hq) ?_; walk_nrm)))
    refine qe_of (fun _ hq => QuitsD.unwind_mark .enable rfl (by simp) rfl H.f_enable (x_enable_n L) (x_enable_b L) (x_enable_x L) (x_enable_f L) hq) ?_
    simp only [deafBehind_enable1]
    refine qe_of (fun _ hq => QuitsD.leave0 rfl rfl H.f_add rfl hq) ?_
    walk_nrm
    exact hT
  · replace hw : WgAt L.tWg Wg w₁ 4294967297 0 := hw
    have e0 : IntKind.u64.wrap (4294967297 + 18446744069414584320) = 1 := by decide
    have z : ((0 : Nat) : Int) * KK + ((1 : Nat) : Int) = 1 := by decide
    rw [z]
    refine ⟨_, (stepG_add_atomic rfl rfl (by k_ne) rfl H.f_addU64 (x_addU64_n L) (x_addU64_b L) (x_addU64_x L) .u64 (x_addU64_f L) rfl rfl hw.cellSt (hw.thaw 0)).trans (by rw [e0]; rfl), fun _ => ⟨300, ?_⟩, fun hl => absurd ⟨rfl, rfl⟩ hl⟩
    have hF : WgLive L.tWg Wg (w₁.setCell (stA Wg) (.int .u64 1)) := ⟨_, _, hw.setSt 1⟩
    clear hw
    walk_nrm
    repeat (first | u_c stepG_seq r0_rely hF | u_c stepG_region_end r0_rely hF | u_c stepG_skip r0_rely hF | u_c stepG_ret' r0_rely hF | u_reg r0_rely hF | u_cond true r0_rely hF | u_cond false r0_rely hF | u_c stepG_block r0_rely hF | u_c stepG_loop r0_rely hF | u_c stepG_inBlock r0_rely hF | u_c stepG_inLoop r0_rely hF | u_c stepG_end r0_rely hF | ((with_reducible show Goes _ _ _ _ _ _ (G (Frame.at _ _ (Item.inRegion _ (_ :: _) :: _)) _) _); first | u_defer r0_rely hF | u_bub r0_rely hF | u_op r0_rely hF | u_skip r0_rely hF))
    u_leave1 H.f_uAdd r0_rely hF
    repeat (first | u_c stepG_seq r0_rely hF | u_c stepG_region_end r0_rely hF | u_c stepG_skip r0_rely hF | u_c stepG_ret' r0_rely hF | u_reg r0_rely hF | u_cond true r0_rely hF | u_cond false r0_rely hF | u_c stepG_block r0_rely hF | u_c stepG_loop r0_rely hF | u_c stepG_inBlock r0_rely hF | u_c stepG_inLoop r0_rely hF | u_c stepG_end r0_rely hF | ((with_reducible show Goes _ _ _ _ _ _ (G (Frame.at _ _ (Item.inRegion _ (_ :: _) :: _)) _) _); first | u_defer r0_rely hF | u_bub r0_rely hF | u_op r0_rely hF | u_skip r0_rely hF))
    u_call H.f_uLoad (nm_uLoad L) uLoadFn r0_rely hF
    repeat (first | u_c stepG_seq r0_rely hF | u_c stepG_region_end r0_rely hF | u_c stepG_skip r0_rely hF | u_c stepG_ret' r0_rely hF | u_reg r0_rely hF | u_cond true r0_rely hF | u_cond false r0_rely hF | u_c stepG_block r0_rely hF | u_c stepG_loop r0_rely hF | u_c stepG_inBlock r0_rely hF | u_c stepG_inLoop r0_rely hF | u_c stepG_end r0_rely hF | ((with_reducible show Goes _ _ _ _ _ _ (G (Frame.at _ _ (Item.inRegion _ (_ :: _) :: _)) _) _); first | u_defer r0_rely hF | u_bub r0_rely hF | u_op r0_rely hF | u_skip r0_rely hF))
    refine Goes.stop (fun w₂ h₂ => ?_)
    clear h₂ hF
    refine ⟨rfl, fun hw => ⟨_, stepG_load_atomic rfl rfl (by k_ne) rfl H.f_loadU64 (x_loadU64_n L) (x_loadU64_b L) (x_loadU64_x L) .u64 (x_loadU64_f L) rfl hw.cellSt, 200, ?_⟩⟩
    have hF : WgLive L.tWg Wg w₂ := ⟨_, _, hw⟩
    clear hw
    walk_nrm
    repeat (first | u_c stepG_seq r0_rely hF | u_c stepG_region_end r0_rely hF | u_c stepG_skip r0_rely hF | u_c stepG_ret' r0_rely hF | u_reg r0_rely hF | u_cond true r0_rely hF | u_cond false r0_rely hF | u_c stepG_block r0_rely hF | u_c stepG_loop r0_rely hF | u_c stepG_inBlock r0_rely hF | u_c stepG_inLoop r0_rely hF | u_c stepG_end r0_rely hF | ((with_reducible show Goes _ _ _ _ _ _ (G (Frame.at _ _ (Item.inRegion _ (_ :: _) :: _)) _) _); first | u_defer r0_rely hF | u_bub r0_rely hF | u_op r0_rely hF | u_skip r0_rely hF))
    u_leave1 H.f_uLoad r0_rely hF
    repeat (first | u_c stepG_seq r0_rely hF | u_c stepG_region_end r0_rely hF | u_c stepG_skip r0_rely hF | u_c stepG_ret' r0_rely hF | u_reg r0_rely hF | u_cond true r0_rely hF | u_cond false r0_rely hF | u_c stepG_block r0_rely hF | u_c stepG_loop r0_rely hF | u_c stepG_inBlock r0_rely hF | u_c stepG_inLoop r0_rely hF | u_c stepG_end r0_rely hF | ((with_reducible show Goes _ _ _ _ _ _ (G (Frame.at _ _ (Item.inRegion _ (_ :: _) :: _)) _) _); first | u_defer r0_rely hF | u_bub r0_rely hF | u_op r0_rely hF | u_skip r0_rely hF))
    u_call H.f_uStore (nm_uStore L) uStoreFn r0_rely hF
    repeat (first | u_c stepG_seq r0_rely hF | u_c stepG_region_end r0_rely hF | u_c stepG_skip r0_rely hF | u_c stepG_ret' r0_rely hF | u_reg r0_rely hF | u_cond true r0_rely hF | u_cond false r0_rely hF | u_c stepG_block r0_rely hF | u_c stepG_loop r0_rely hF | u_c stepG_inBlock r0_rely hF | u_c stepG_inLoop r0_rely hF | u_c stepG_end r0_rely hF | ((with_reducible show Goes _ _ _ _ _ _ (G (Frame.at _ _ (Item.inRegion _ (_ :: _) :: _)) _) _); first | u_defer r0_rely hF | u_bub r0_rely hF | u_op r0_rely hF | u_skip r0_rely hF))
    refine Goes.stop (fun w₃ h₃ => ?_)
    clear h₃ hF
    refine ⟨rfl, fun hw => ⟨_, stepG_store_atomic rfl rfl (by k_ne) rfl H.f_storeU64 (x_storeU64_n L) (x_storeU64_b L) (x_storeU64_x L) (x_storeU64_f L) rfl rfl hw.cellSt (hw.thaw 0), 200, ?_⟩⟩
    have hF : WgLive L.tWg Wg (w₃.setCell (stA Wg) (.int .u64 0)) := ⟨_, _, hw.setSt 0⟩
    clear hw
    walk_nrm
    repeat (first | u_c stepG_seq r0_rely hF | u_c stepG_region_end r0_rely hF | u_c stepG_skip r0_rely hF | u_c stepG_ret' r0_rely hF | u_reg r0_rely hF | u_cond true r0_rely hF | u_cond false r0_rely hF | u_c stepG_block r0_rely hF | u_c stepG_loop r0_rely hF | u_c stepG_inBlock r0_rely hF | u_c stepG_inLoop r0_rely hF | u_c stepG_end r0_rely hF | ((with_reducible show Goes _ _ _ _ _ _ (G (Frame.at _ _ (Item.inRegion _ (_ :: _) :: _)) _) _); first | u_defer r0_rely hF | u_bub r0_rely hF | u_op r0_rely hF | u_skip r0_rely hF))
    u_leave0 H.f_uStore r0_rely hF
    repeat (first | u_c stepG_seq r0_rely hF | u_c stepG_region_end r0_rely hF | u_c stepG_skip r0_rely hF | u_c stepG_ret' r0_rely hF | u_reg r0_rely hF | u_cond true r0_rely hF | u_cond false r0_rely hF | u_c stepG_block r0_rely hF | u_c stepG_loop r0_rely hF | u_c stepG_inBlock r0_rely hF | u_c stepG_inLoop r0_rely hF | u_c stepG_end r0_rely hF | ((with_reducible show Goes _ _ _ _ _ _ (G (Frame.at _ _ (Item.inRegion _ (_ :: _) :: _)) _) _); first | u_defer r0_rely hF | u_bub r0_rely hF | u_op r0_rely hF | u_skip r0_rely hF))
    refine Goes.stop (fun w₄ h₄ => ?_)
    clear h₄ hF
    refine ⟨rfl, mayWake_entry rfl rfl H.f_semrelease (x_semrelease_b L), fun hw => ⟨_, (stepG_semrelease rfl rfl (by k_ne) rfl H.f_semrelease (x_semrelease_n L) (x_semrelease_b L) (x_semrelease_x L) (x_semrelease_f L) (by simp [Act.eval, smA]) hw.cellSm (hw.thaw 1)).trans (by rfl), ?_⟩⟩
    clear hw
    walk_nrm
    repeat (first | (refine qe_ctl ?_ rfl (fun _ => ?_) ?_; rotate_left; (focus (rw [stepG_seq]))) | (refine qe_ctl ?_ rfl (fun _ => ?_) ?_; rotate_left; (focus (rw [stepG_region_end]))) | (refine qe_ctl ?_ rfl (fun _ => ?_) ?_; rotate_left; (focus (rw [stepG_skip]))) | (refine qe_ctl ?_ rfl (fun _ => ?_) ?_; rotate_left; (focus (rw [stepG_ret']))) | (refine qe_ctl ?_ rfl (fun _ => ?_) ?_; rotate_left; (focus (rw [stepG_inBlock]))) | (refine qe_ctl ?_ rfl (fun _ => ?_) ?_; rotate_left; (focus (rw [stepG_inLoop]))) | (refine qe_ctl ?_ rfl (fun _ => ?_) ?_; rotate_left; (focus (rw [stepG_end]))) | ((refine qe_ctl ?_ rfl (fun _ => ?_) ?_; rotate_left; (focus (rw [stepG_region]))); simp only [List.size_toArray, List.length_cons, List.length_nil, Nat.reduceAdd, Nat.zero_add, List.range, List.range.loop]) | ((refine qe_ctl ?_ rfl (fun _ => ?_) ?_; rotate_left; (focus (rw [stepG_cond (t := true) rfl]))); simp only [if_true, ↓reduceIte]) | ((refine qe_ctl ?_ rfl (fun _ => ?_) ?_; rotate_left; (focus (rw [stepG_cond (t := false) rfl]))); simp only [if_false, Bool.false_eq_true, ↓reduceIte]) | ((with_reducible show ∃ q, QuitsD _ q _ (G (Frame.at _ _ (Item.inRegion _ (_ :: _) :: _)) _)); first | (refine qe_value ?_ rfl rfl (by k_ne) (fun _ => ?_) (fun _ => by simp [go_sem, *]) ?_; rotate_left; (focus (go_simp; first | rfl | (w_num; rfl))); (try w_num); walk_nrm) | (refine qe_of (fun _ hq => QuitsD.unwanted rfl rfl hq) ?_; walk_nrm)))
    refine qe_of (fun _ hq => QuitsD.ctl rfl (fun _ => stepG_exit rfl) hq) ?_
    repeat (first | (refine qe_ctl ?_ rfl (fun _ => ?_) ?_; rotate_left; (focus (rw [stepG_seq]))) | (refine qe_ctl ?_ rfl (fun _ => ?_) ?_; rotate_left; (focus (rw [stepG_region_end]))) | (refine qe_ctl ?_ rfl (fun _ => ?_) ?_; rotate_left; (focus (rw [stepG_skip]))) | (refine qe_ctl ?_ rfl (fun _ => ?_) ?_; rotate_left; (focus (rw [stepG_ret']))) | (refine qe_ctl ?_ rfl (fun _ => ?_) ?_; rotate_left; (focus (rw [stepG_inBlock]))) | (refine qe_ctl ?_ rfl (fun _ => ?_) ?_; rotate_left; (focus (rw [stepG_inLoop]))) | (refine qe_ctl ?_ rfl (fun _ => ?_) ?_; rotate_left; (focus (rw [stepG_end]))) | ((refine qe_ctl ?_ rfl (fun _ => ?_) ?_; rotate_left; (focus (rw [stepG_region]))); simp only [List.size_toArray, List.length_cons, List.length_nil, Nat.reduceAdd, Nat.zero_add, List.range, List.range.loop]) | ((refine qe_ctl ?_ rfl (fun _ => ?_) ?_; rotate_left; (focus (rw [stepG_cond (t := true) rfl]))); simp only [if_true, ↓reduceIte]) | ((refine qe_ctl ?_ rfl (fun _ => ?_) ?_; rotate_left; (focus (rw [stepG_cond (t := false) rfl]))); simp only [if_false, Bool.false_eq_true, ↓reduceIte]) | ((with_reducible show ∃ q, QuitsD _ q _ (G (Frame.at _ _ (Item.inRegion _ (_ :: _) :: _)) _)); first | (refine qe_value ?_ rfl rfl (by k_ne) (fun _ => ?_) (fun _ => by simp [go_sem, *]) ?_; rotate_left; (focus (go_simp; first | rfl | (w_num; rfl))); (try w_num); walk_nrm) | (refine qe_of (fun _ hq => QuitsD.unwanted rfl rfl hq) ?_; walk_nrm)))
    refine qe_of (fun _ hq => QuitsD.unwind_mark .enable rfl (by simp) rfl H.f_enable (x_enable_n L) (x_enable_b L) (x_enable_x L) (x_enable_f L) hq) ?_
    simp only [deafBehind_enable1]
    refine qe_of (fun _ hq => QuitsD.leave0 rfl rfl H.f_add rfl hq) ?_
    walk_nrm
    exact hT
  · replace hw : WgAt L.tWg Wg w₁ 8589934592 0 := hw
    have e0 : IntKind.u64.wrap (8589934592 + 18446744069414584320) = 4294967296 := by decide
    have z : ((1 : Nat) : Int) * KK + ((0 : Nat) : Int) = 4294967296 := by decide
    rw [z]
    refine ⟨_, (stepG_add_atomic rfl rfl (by k_ne) rfl H.f_addU64 (x_addU64_n L) (x_addU64_b L) (x_addU64_x L) .u64 (x_addU64_f L) rfl rfl hw.cellSt (hw.thaw 0)).trans (by rw [e0]; rfl), fun hl => absurd hl.2 (by decide), fun _ => ?_⟩
    clear hw
    walk_nrm
    repeat (first | (refine qe_ctl ?_ rfl (fun _ => ?_) ?_; rotate_left; (focus (rw [stepG_seq]))) | (refine qe_ctl ?_ rfl (fun _ => ?_) ?_; rotate_left; (focus (rw [stepG_region_end]))) | (refine qe_ctl ?_ rfl (fun _ => ?_) ?_; rotate_left; (focus (rw [stepG_skip]))) | (refine qe_ctl ?_ rfl (fun _ => ?_) ?_; rotate_left; (focus (rw [stepG_ret']))) | (refine qe_ctl ?_ rfl (fun _ => ?_) ?_; rotate_left; (focus (rw [stepG_inBlock]))) | (refine qe_ctl ?_ rfl (fun _ => ?_) ?_; rotate_left; (focus (rw [stepG_inLoop]))) | (refine qe_ctl ?_ rfl (fun _ => ?_) ?_; rotate_left; (focus (rw [stepG_end]))) | ((refine qe_ctl ?_ rfl (fun _ => ?_) ?_; rotate_left; (focus (rw [stepG_region]))); simp only [List.size_toArray, List.length_cons, List.length_nil, Nat.reduceAdd, Nat.zero_add, List.range, List.range.loop]) | ((refine qe_ctl ?_ rfl (fun _ => ?_) ?_; rotate_left; (focus (rw [stepG_cond (t := true) rfl]))); simp only [if_true, ↓reduceIte]) | ((refine qe_ctl ?_ rfl (fun _ => ?_) ?_; rotate_left; (focus (rw [stepG_cond (t := false) rfl]))); simp only [if_false, Bool.false_eq_true, ↓reduceIte]) | ((with_reducible show ∃ q, QuitsD _ q _ (G (Frame.at _ _ (Item.inRegion _ (_ :: _) :: _)) _)); first | (refine qe_value ?_ rfl rfl (by k_ne) (fun _ => ?_) (fun _ => by simp [go_sem, *]) ?_; rotate_left; (focus (go_simp; first | rfl | (w_num; rfl))); (try w_num); walk_nrm) | (refine qe_of (fun _ hq => QuitsD.unwanted rfl rfl hq) ?_; walk_nrm)))
    refine qe_of (fun _ hq => QuitsD.leave1 rfl rfl H.f_uAdd rfl hq) ?_
    walk_nrm
    repeat (first | (refine qe_ctl ?_ rfl (fun _ => ?_) ?_; rotate_left; (focus (rw [stepG_seq]))) | (refine qe_ctl ?_ rfl (fun _ => ?_) ?_; rotate_left; (focus (rw [stepG_region_end]))) | (refine qe_ctl ?_ rfl (fun _ => ?_) ?_; rotate_left; (focus (rw [stepG_skip]))) | (refine qe_ctl ?_ rfl (fun _ => ?_) ?_; rotate_left; (focus (rw [stepG_ret']))) | (refine qe_ctl ?_ rfl (fun _ => ?_) ?_; rotate_left; (focus (rw [stepG_inBlock]))) | (refine qe_ctl ?_ rfl (fun _ => ?_) ?_; rotate_left; (focus (rw [stepG_inLoop]))) | (refine qe_ctl ?_ rfl (fun _ => ?_) ?_; rotate_left; (focus (rw [stepG_end]))) | ((refine qe_ctl ?_ rfl (fun _ => ?_) ?_; rotate_left; (focus (rw [stepG_region]))); simp only [List.size_toArray, List.length_cons, List.length_nil, Nat.reduceAdd, Nat.zero_add, List.range, List.range.loop]) | ((refine qe_ctl ?_ rfl (fun _ => ?_) ?_; rotate_left; (focus (rw [stepG_cond (t := true) rfl]))); simp only [if_true, ↓reduceIte]) | ((refine qe_ctl ?_ rfl (fun _ => ?_) ?_; rotate_left; (focus (rw [stepG_cond (t := false) rfl]))); simp only [if_false, Bool.false_eq_true, ↓reduceIte]) | ((with_reducible show ∃ q, QuitsD _ q _ (G (Frame.at _ _ (Item.inRegion _ (_ :: _) :: _)) _)); first | (refine qe_value ?_ rfl rfl (by k_ne) (fun _ => ?_) (fun _ => by simp [go_sem, *]) ?_; rotate_left; (focus (go_simp; first | rfl | (w_num; rfl))); (try w_num); walk_nrm) | (refine qe_of (fun _ hq => QuitsD.unwanted rfl rfl hq) ?_; walk_nrm)))
    refine qe_of (fun _ hq => QuitsD.unwind_mark .enable rfl (by simp) rfl H.f_enable (x_enable_n L) (x_enable_b L) (x_enable_x L) (x_enable_f L) hq) ?_
    simp only [deafBehind_enable1]
    refine qe_of (fun _ hq => QuitsD.leave0 rfl rfl H.f_add rfl hq) ?_
    walk_nrm
    exact hT
  · replace hw : WgAt L.tWg Wg w₁ 8589934593 0 := hw
    have e0 : IntKind.u64.wrap (8589934593 + 18446744069414584320) = 4294967297 := by decide
    have z : ((1 : Nat) : Int) * KK + ((1 : Nat) : Int) = 4294967297 := by decide
    rw [z]
    refine ⟨_, (stepG_add_atomic rfl rfl (by k_ne) rfl H.f_addU64 (x_addU64_n L) (x_addU64_b L) (x_addU64_x L) .u64 (x_addU64_f L) rfl rfl hw.cellSt (hw.thaw 0)).trans (by rw [e0]; rfl), fun hl => absurd hl.1 (by decide), fun _ => ?_⟩
    clear hw
    walk_nrm
    repeat (first | (refine qe_ctl ?_ rfl (fun _ => ?_) ?_; rotate_left; (focus (rw [stepG_seq]))) | (refine qe_ctl ?_ rfl (fun _ => ?_) ?_; rotate_left; (focus (rw [stepG_region_end]))) | (refine qe_ctl ?_ rfl (fun _ => ?_) ?_; rotate_left; (focus (rw [stepG_skip]))) | (refine qe_ctl ?_ rfl (fun _ => ?_) ?_; rotate_left; (focus (rw [stepG_ret']))) | (refine qe_ctl ?_ rfl (fun _ => ?_) ?_; rotate_left; (focus (rw [stepG_inBlock]))) | (refine qe_ctl ?_ rfl (fun _ => ?_) ?_; rotate_left; (focus (rw [stepG_inLoop]))) | (refine qe_ctl ?_ rfl (fun _ => ?_) ?_; rotate_left; (focus (rw [stepG_end]))) | ((refine qe_ctl ?_ rfl (fun _ => ?_) ?_; rotate_left; (focus (rw [stepG_region]))); simp only [List.size_toArray, List.length_cons, List.length_nil, Nat.reduceAdd, Nat.zero_add, List.range, List.range.loop]) | ((refine qe_ctl ?_ rfl (fun _ => ?_) ?_; rotate_left; (focus (rw [stepG_cond (t := true) rfl]))); simp only [if_true, ↓reduceIte]) | ((refine qe_ctl ?_ rfl (fun _ => ?_) ?_; rotate_left; (focus (rw [stepG_cond (t := false) rfl]))); simp only [if_false, Bool.false_eq_true, ↓reduceIte]) | ((with_reducible show ∃ q, QuitsD _ q _ (G (Frame.at _ _ (Item.inRegion _ (_ :: _) :: _)) _)); first | (refine qe_value ?_ rfl rfl (by k_ne) (fun _ => ?_) (fun _ => by simp [go_sem, *]) ?_; rotate_left; (focus (go_simp; first | rfl | (w_num; rfl))); (try w_num); walk_nrm) | (refine qe_of (fun _ hq => QuitsD.unwanted rfl rfl hq) ?_; walk_nrm)))
    refine qe_of (fun _ hq => QuitsD.leave1 rfl rfl H.f_uAdd rfl hq) ?_
    walk_nrm
    repeat (first | (refine qe_ctl ?_ rfl (fun _ => ?_) ?_; rotate_left; (focus (rw [stepG_seq]))) | (refine qe_ctl ?_ rfl (fun _ => ?_) ?_; rotate_left; (focus (rw [stepG_region_end]))) | (refine qe_ctl ?_ rfl (fun _ => ?_) ?_; rotate_left; (focus (rw [stepG_skip]))) | (refine qe_ctl ?_ rfl (fun _ => ?_) ?_; rotate_left; (focus (rw [stepG_ret']))) | (refine qe_ctl ?_ rfl (fun _ => ?_) ?_; rotate_left; (focus (rw [stepG_inBlock]))) | (refine qe_ctl ?_ rfl (fun _ => ?_) ?_; rotate_left; (focus (rw [stepG_inLoop]))) | (refine qe_ctl ?_ rfl (fun _ => ?_) ?_; rotate_left; (focus (rw [stepG_end]))) | ((refine qe_ctl ?_ rfl (fun _ => ?_) ?_; rotate_left; (focus (rw [stepG_region]))); simp only [List.size_toArray, List.length_cons, List.length_nil, Nat.reduceAdd, Nat.zero_add, List.range, List.range.loop]) | ((refine qe_ctl ?_ rfl (fun _ => ?_) ?_; rotate_left; (focus (rw [stepG_cond (t := true) rfl]))); simp only [if_true, ↓reduceIte]) | ((refine qe_ctl ?_ rfl (fun _ => ?_) ?_; rotate_left; (focus (rw [stepG_cond (t := false) rfl]))); simp only [if_false, Bool.false_eq_true, ↓reduceIte]) | ((with_reducible show ∃ q, QuitsD _ q _ (G (Frame.at _ _ (Item.inRegion _ (_ :: _) :: _)) _)); first | (refine qe_value ?_ rfl rfl (by k_ne) (fun _ => ?_) (fun _ => by simp [go_sem, *]) ?_; rotate_left; (focus (go_simp; first | rfl | (w_num; rfl))); (try w_num); walk_nrm) | (refine qe_of (fun _ hq => QuitsD.unwanted rfl rfl hq) ?_; walk_nrm)))
    refine qe_of (fun _ hq => QuitsD.unwind_mark .enable rfl (by simp) rfl H.f_enable (x_enable_n L) (x_enable_b L) (x_enable_x L) (x_enable_f L) hq) ?_
    simp only [deafBehind_enable1]
    refine qe_of (fun _ hq => QuitsD.leave0 rfl rfl H.f_add rfl hq) ?_
    walk_nrm
    exact hT

set_option maxRecDepth 100000 in
theorem donePh {P : Program} (H : WgLib P L) {c : Frame} {cs : List Frame} (hcm : c.mode = .returning) (hT : ∃ q, QuitsD P q 0 (G c cs)) (w : World) (hK : WgLive L.tWg Wg w) :
    Goes P false (R0 L.tWg Wg) Go.ConcR.DC0 (AtR0 P L.tWg Wg) 63 (G ((baseD L.done).at ⟨#[.pointer (some ⟨Wg, 0, none⟩), undef, undef, undef], []⟩ [.code (body_done L)]) (c :: cs)) w := by
  lib_facts
  have hA := @addNegPh L Wg
  simp only [body_done, body_add, doneFn, addFn, Option.getD_some] at hA ⊢
  u_reg r0_rely hK
  u_op r0_rely hK
  u_in r0_rely hK
  refine goes_call rfl rfl (by k_ne) rfl H.f_add (nm_add L) rfl ⟨by u_nil, ?_⟩
  walk_nrmf addFn
  refine hA H ?_ _ hK
  repeat (first | (refine qe_ctl ?_ rfl (fun _ => ?_) ?_; rotate_left; (focus (rw [stepG_seq]))) | (refine qe_ctl ?_ rfl (fun _ => ?_) ?_; rotate_left; (focus (rw [stepG_region_end]))) | (refine qe_ctl ?_ rfl (fun _ => ?_) ?_; rotate_left; (focus (rw [stepG_skip]))) | (refine qe_ctl ?_ rfl (fun _ => ?_) ?_; rotate_left; (focus (rw [stepG_ret']))) | (refine qe_ctl ?_ rfl (fun _ => ?_) ?_; rotate_left; (focus (rw [stepG_inBlock]))) | (refine qe_ctl ?_ rfl (fun _ => ?_) ?_; rotate_left; (focus (rw [stepG_inLoop]))) | (refine qe_ctl ?_ rfl (fun _ => ?_) ?_; rotate_left; (focus (rw [stepG_end]))) | ((refine qe_ctl ?_ rfl (fun _ => ?_) ?_; rotate_left; (focus (rw [stepG_region]))); simp only [List.size_toArray, List.length_cons, List.length_nil, Nat.reduceAdd, Nat.zero_add, List.range, List.range.loop]) | ((refine qe_ctl ?_ rfl (fun _ => ?_) ?_; rotate_left; (focus (rw [stepG_cond (t := true) rfl]))); simp only [if_true, ↓reduceIte]) | ((refine qe_ctl ?_ rfl (fun _ => ?_) ?_; rotate_left; (focus (rw [stepG_cond (t := false) rfl]))); simp only [if_false, Bool.false_eq_true, ↓reduceIte]) | ((with_reducible show ∃ q, QuitsD _ q _ (G (Frame.at _ _ (Item.inRegion _ (_ :: _) :: _)) _)); first | (refine qe_value ?_ rfl rfl (by k_ne) (fun _ => ?_) (fun _ => by simp [go_sem, *]) ?_; rotate_left; (focus (go_simp; first | rfl | (w_num; rfl))); (try w_num); walk_nrm) | (refine qe_of (fun _ hq => QuitsD.unwanted rfl rfl hq) ?_; walk_nrm)))
  exact qe_of (fun _ hq => QuitsD.leaveD rfl rfl H.f_done rfl hcm hq) hT
end
end Go.Proofs.Ph
