/-
  sync.WaitGroup's Wait, walked by goroutine 0 beside its workers: where it stands at each word that the phase looks at (PhB).
-/
import Derived.Test.YtciekjplhbimdaaWgP1
set_option linter.all false
set_option maxRecDepth 100000
namespace Go.Proofs.Ph
open Go Go.Conc Go.RowKit Go.Conc.Lib Go.ConcX.Gen
open Go.ConcR (KK wgBlock WgAt stA smA rd wr)

theorem w_rely {ty : TypeId} {Wg : Nat} {w w₁ : World} (h : WgLive ty Wg w) (r : R0 ty Wg w w₁) : WgLive ty Wg w₁ := r h
theorem w_cell0 {ty : TypeId} {Wg : Nat} {w : World} (h : WgLive ty Wg w) : ∃ v, w.cell? ⟨Wg, 0, none⟩ = some v := let ⟨_, _, x⟩ := h; ⟨_, x.cellSt⟩
theorem w_cell1 {ty : TypeId} {Wg : Nat} {w : World} (h : WgLive ty Wg w) : ∃ v, w.cell? ⟨Wg, 1, none⟩ = some v := let ⟨_, _, x⟩ := h; ⟨_, x.cellSm⟩
theorem dc0_d0 {Wg : Nat} (w w' : World) (es : Array Event) (h : Go.ConcR.DC0 w w' es) : D0 Wg w w' es := ⟨h.1, by rw [h.2]; simp⟩
/-- At the head of Wait's loop. -/
def AnchW (L : WgLink) (Wg : Nat) (c : Frame) (cs : List Frame) (g : Goroutine) (w : World) : Prop :=
  ∃ T : Array Value, g = G ((base L.wait).at ⟨T, []⟩ [.code (L7 L), .inLoop (L7 L), .inBlock 0]) (c :: cs) ∧ T.size = 84 ∧ T[0]? = some (.pointer (some ⟨Wg, 0, none⟩)) ∧ WgLive L.tWg Wg w
/-- Behind the acquire: it only leaves Wait. -/
def Anch (P : Program) (ty : TypeId) (Wg : Nat) (back : Goroutine) (g : Goroutine) : Prop := ∀ w, WgLive ty Wg w → ∃ n, Goes P true (R0 ty Wg) Go.ConcR.DC0 (fun g' _ => g' = back) n g w
/-- At the word that it writes the group's second cell. -/
def AtWr (P : Program) (ty : TypeId) (Wg : Nat) (AW : Goroutine → World → Prop) (An : Goroutine → Prop) (g : Goroutine) (w : World) : Prop :=
  g.status = .running ∧ ∃ g', ∀ w₁, R0 ty Wg w w₁ → stepG P true g w₁ = .go g' w₁ #[Go.ConcR.mk (.write (smA Wg))] ∧ Goes P true (R0 ty Wg) Go.ConcR.DC0 (AtW3 P ty Wg An) 100 g' w₁
theorem wr_goes {P : Program} {ty : TypeId} {Wg : Nat} {AW : Goroutine → World → Prop} {An : Goroutine → Prop} (g : Goroutine) (w : World) (h : AtWr P ty Wg AW An g w) : Goes P true (R0 ty Wg) (D0 Wg) (AtW3 P ty Wg An) 101 g w := by
  obtain ⟨h1, g', h2⟩ := h
  refine .inr ⟨h1, fun w₁ hr => ?_⟩
  obtain ⟨h3, h4⟩ := h2 w₁ hr
  rw [h3]
  exact ⟨⟨rfl, fun e he => ⟨smA Wg, rfl, by simpa [Go.ConcR.mk] using he⟩⟩, goes_doing dc0_d0 h4⟩

section
variable {L : WgLink} {Wg : Nat} {b₀ : Frame} {a₀ : Act} {ops₀ : Array Oper} {i₀ : Nat} {rest₀ : List Nat} {k₀ : List Item} {cs : List Frame}
set_option maxRecDepth 100000 in
theorem waitStart {P : Program} (H : WgLib P L) (w : World) (hF : WgLive L.tWg Wg w) :
    Goes P true (R0 L.tWg Wg) (D0 Wg) (AtKd P L.tWg Wg (AnchW L Wg (b₀.at a₀ (.inRegion ops₀ (i₀ :: rest₀) :: k₀)) cs)) 10
      (G ((base L.wait).at ⟨#[.pointer (some ⟨Wg, 0, none⟩), undef, undef, undef, undef, undef, undef, undef, undef, undef, undef, undef, undef, undef, undef, undef, undef, undef, undef, undef, undef, undef, undef, undef, undef, undef, undef, undef, undef, undef, undef, undef, undef, undef, undef, undef, undef, undef, undef, undef, undef, undef, undef, undef, undef, undef, undef, undef, undef, undef, undef, undef, undef, undef, undef, undef, undef, undef, undef, undef, undef, undef, undef, undef, undef, undef, undef, undef, undef, undef, undef, undef, undef, undef, undef, undef, undef, undef, undef, undef, undef, undef, undef, undef], []⟩ [.code (body_wait L)]) (b₀.at a₀ (.inRegion ops₀ (i₀ :: rest₀) :: k₀) :: cs)) w := by
  lib_facts
  simp only [body_wait, waitFn, Option.getD_some]
  refine goes_doing dc0_d0 ?_
  u_c stepG_seq w_rely hF
  u_cond true w_rely hF
  u_reg w_rely hF
  refine Goes.stop (fun w₁ h₁ => ?_)
  replace hF := w_rely hF h₁
  clear h₁
  refine ⟨rfl, _, stepG_mark0 .disable (by simp) rfl rfl (by k_ne) rfl H.f_disable (x_disable_n L) (x_disable_b L) (x_disable_x L) (x_disable_f L), 10, goes_doing dc0_d0 ?_⟩
  walk_nrm
  u_c stepG_region_end w_rely hF
  u_c stepG_block w_rely hF
  u_c stepG_loop w_rely hF
  exact Goes.stop (fun w₂ h₂ => ⟨_, rfl, by simp, by simp, w_rely hF h₂⟩)

set_option maxRecDepth 100000 in
set_option maxHeartbeats 8000000 in
theorem waitRound {P : Program} (H : WgLib P L)
    (g : Goroutine) (w : World) (h : AnchW L Wg (b₀.at a₀ (.inRegion ops₀ (i₀ :: rest₀) :: k₀)) cs g w) :
    ∃ m, Goes P true (R0 L.tWg Wg) (D0 Wg) (AtW1 P L.tWg Wg (AnchW L Wg (b₀.at a₀ (.inRegion ops₀ (i₀ :: rest₀) :: k₀)) cs) (Anch P L.tWg Wg (G (b₀.at (a₀.put ((ops₀[i₀]?).bind (·.dst)) (.tuple #[])) (.inRegion ops₀ rest₀ :: k₀)) cs))) m g w := by
  lib_facts
  obtain ⟨T, rfl, hT84, t0, hF⟩ := h
  obtain ⟨v0, v1, v2, v3, v4, v5, v6, v7, v8, v9, v10, v11, v12, v13, v14, v15, v16, v17, v18, v19, v20, v21, v22, v23, v24, v25, v26, v27, v28, v29, v30, v31, v32, v33, v34, v35, v36, v37, v38, v39, v40, v41, v42, v43, v44, v45, v46, v47, v48, v49, v50, v51, v52, v53, v54, v55, v56, v57, v58, v59, v60, v61, v62, v63, v64, v65, v66, v67, v68, v69, v70, v71, v72, v73, v74, v75, v76, v77, v78, v79, v80, v81, v82, v83, rfl⟩ := array84 T hT84
  simp only [List.getElem?_toArray, List.getElem?_cons_zero, Option.some.injEq] at t0
  subst t0
  refine ⟨60, goes_doing dc0_d0 ?_⟩
  simp only [L7, body_wait, waitFn, Option.getD_some]
  repeat (first | u_c stepG_seq w_rely hF | u_c stepG_region_end w_rely hF | u_c stepG_skip w_rely hF | u_c stepG_ret' w_rely hF | u_reg w_rely hF | u_cond true w_rely hF | u_cond false w_rely hF | u_c stepG_block w_rely hF | u_c stepG_loop w_rely hF | u_c stepG_inBlock w_rely hF | u_c stepG_inLoop w_rely hF | u_c stepG_end w_rely hF | ((with_reducible show Goes _ _ _ _ _ _ (G (Frame.at _ _ (Item.inRegion _ (_ :: _) :: _)) _) _); first | u_defer w_rely hF | u_bub w_rely hF | u_op w_rely hF | u_skip w_rely hF))
  u_call H.f_uLoad (nm_uLoad L) uLoadFn w_rely hF
  repeat (first | u_c stepG_seq w_rely hF | u_c stepG_region_end w_rely hF | u_c stepG_skip w_rely hF | u_c stepG_ret' w_rely hF | u_reg w_rely hF | u_cond true w_rely hF | u_cond false w_rely hF | u_c stepG_block w_rely hF | u_c stepG_loop w_rely hF | u_c stepG_inBlock w_rely hF | u_c stepG_inLoop w_rely hF | u_c stepG_end w_rely hF | ((with_reducible show Goes _ _ _ _ _ _ (G (Frame.at _ _ (Item.inRegion _ (_ :: _) :: _)) _) _); first | u_defer w_rely hF | u_bub w_rely hF | u_op w_rely hF | u_skip w_rely hF))
  refine Goes.stop (fun w₁ h₁ => ?_)
  replace hF := w_rely hF h₁
  clear h₁
  refine ⟨rfl, fun v hv hw => ?_⟩
  rcases (show v = 0 ∨ v = 1 ∨ v = 2 by omega) with rfl | rfl | rfl
  · replace hw : WgAt L.tWg Wg w₁ 0 0 := hw
    refine ⟨_, stepG_load_atomic (v := 0) rfl rfl (by k_ne) rfl H.f_loadU64 (x_loadU64_n L) (x_loadU64_b L) (x_loadU64_x L) .u64 (x_loadU64_f L) rfl hw.cellSt, fun _ => ⟨100, goes_doing dc0_d0 ?_⟩, fun h => absurd rfl h⟩
    clear hw
    walk_nrm
    repeat (first | u_c stepG_seq w_rely hF | u_c stepG_region_end w_rely hF | u_c stepG_skip w_rely hF | u_c stepG_ret' w_rely hF | u_reg w_rely hF | u_cond true w_rely hF | u_cond false w_rely hF | u_c stepG_block w_rely hF | u_c stepG_loop w_rely hF | u_c stepG_inBlock w_rely hF | u_c stepG_inLoop w_rely hF | u_c stepG_end w_rely hF | ((with_reducible show Goes _ _ _ _ _ _ (G (Frame.at _ _ (Item.inRegion _ (_ :: _) :: _)) _) _); first | u_defer w_rely hF | u_bub w_rely hF | u_op w_rely hF | u_skip w_rely hF))
    u_leave1 H.f_uLoad w_rely hF
    repeat (first | u_c stepG_seq w_rely hF | u_c stepG_region_end w_rely hF | u_c stepG_skip w_rely hF | u_c stepG_ret' w_rely hF | u_reg w_rely hF | u_cond true w_rely hF | u_cond false w_rely hF | u_c stepG_block w_rely hF | u_c stepG_loop w_rely hF | u_c stepG_inBlock w_rely hF | u_c stepG_inLoop w_rely hF | u_c stepG_end w_rely hF | ((with_reducible show Goes _ _ _ _ _ _ (G (Frame.at _ _ (Item.inRegion _ (_ :: _) :: _)) _) _); first | u_defer w_rely hF | u_bub w_rely hF | u_op w_rely hF | u_skip w_rely hF))
    refine Goes.stop (fun w₅ h₅ => ?_)
    replace hF := w_rely hF h₅
    clear h₅
    refine ⟨rfl, _, stepG_mark0 .enable (by simp) rfl rfl (by k_ne) rfl H.f_enable (x_enable_n L) (x_enable_b L) (x_enable_x L) (x_enable_f L), 40, goes_doing dc0_d0 ?_⟩
    walk_nrm
    repeat (first | u_c stepG_seq w_rely hF | u_c stepG_region_end w_rely hF | u_c stepG_skip w_rely hF | u_c stepG_ret' w_rely hF | u_reg w_rely hF | u_cond true w_rely hF | u_cond false w_rely hF | u_c stepG_block w_rely hF | u_c stepG_loop w_rely hF | u_c stepG_inBlock w_rely hF | u_c stepG_inLoop w_rely hF | u_c stepG_end w_rely hF | u_conv H.underlying_tWgP H.room_tWg (w_cell0 hF).choose_spec w_rely hF | ((with_reducible show Goes _ _ _ _ _ _ (G (Frame.at _ _ (Item.inRegion _ (_ :: _) :: _)) _) _); first | u_defer w_rely hF | u_bub w_rely hF | u_op w_rely hF | u_skip w_rely hF))
    refine Goes.stop (fun w₆ h₆ => ?_)
    replace hF := w_rely hF h₆
    clear h₆
    refine ⟨rfl, _, stepG_markAt .acquire (by simp) rfl rfl (by k_ne) rfl H.f_acquire (x_acquire_n L) (x_acquire_b L) (x_acquire_x L) (x_acquire_f L) (by simp [Act.eval, stA]), rfl, ?_⟩
    clear hF
    intro wz hF
    refine ⟨60, ?_⟩
    walk_nrm
    repeat (first | u_c stepG_seq w_rely hF | u_c stepG_region_end w_rely hF | u_c stepG_skip w_rely hF | u_c stepG_ret' w_rely hF | u_reg w_rely hF | u_cond true w_rely hF | u_cond false w_rely hF | u_c stepG_block w_rely hF | u_c stepG_loop w_rely hF | u_c stepG_inBlock w_rely hF | u_c stepG_inLoop w_rely hF | u_c stepG_end w_rely hF | ((with_reducible show Goes _ _ _ _ _ _ (G (Frame.at _ _ (Item.inRegion _ (_ :: _) :: _)) _) _); first | u_defer w_rely hF | u_bub w_rely hF | u_op w_rely hF | u_skip w_rely hF))
    u_leave0 H.f_wait w_rely hF
    exact Goes.stop (fun _ _ => rfl)
  · replace hw : WgAt L.tWg Wg w₁ 4294967296 0 := hw
    refine ⟨_, stepG_load_atomic (v := 4294967296) rfl rfl (by k_ne) rfl H.f_loadU64 (x_loadU64_n L) (x_loadU64_b L) (x_loadU64_x L) .u64 (x_loadU64_f L) rfl hw.cellSt, fun h0 => absurd h0 (by omega), fun _ => ⟨150, goes_doing dc0_d0 ?_⟩⟩
    clear hw
    walk_nrm
    repeat (first | u_c stepG_seq w_rely hF | u_c stepG_region_end w_rely hF | u_c stepG_skip w_rely hF | u_c stepG_ret' w_rely hF | u_reg w_rely hF | u_cond true w_rely hF | u_cond false w_rely hF | u_c stepG_block w_rely hF | u_c stepG_loop w_rely hF | u_c stepG_inBlock w_rely hF | u_c stepG_inLoop w_rely hF | u_c stepG_end w_rely hF | ((with_reducible show Goes _ _ _ _ _ _ (G (Frame.at _ _ (Item.inRegion _ (_ :: _) :: _)) _) _); first | u_defer w_rely hF | u_bub w_rely hF | u_op w_rely hF | u_skip w_rely hF))
    u_leave1 H.f_uLoad w_rely hF
    repeat (first | u_c stepG_seq w_rely hF | u_c stepG_region_end w_rely hF | u_c stepG_skip w_rely hF | u_c stepG_ret' w_rely hF | u_reg w_rely hF | u_cond true w_rely hF | u_cond false w_rely hF | u_c stepG_block w_rely hF | u_c stepG_loop w_rely hF | u_c stepG_inBlock w_rely hF | u_c stepG_inLoop w_rely hF | u_c stepG_end w_rely hF | ((with_reducible show Goes _ _ _ _ _ _ (G (Frame.at _ _ (Item.inRegion _ (_ :: _) :: _)) _) _); first | u_defer w_rely hF | u_bub w_rely hF | u_op w_rely hF | u_skip w_rely hF))
    u_call H.f_uCas (nm_uCas L) uCasFn w_rely hF
    repeat (first | u_c stepG_seq w_rely hF | u_c stepG_region_end w_rely hF | u_c stepG_skip w_rely hF | u_c stepG_ret' w_rely hF | u_reg w_rely hF | u_cond true w_rely hF | u_cond false w_rely hF | u_c stepG_block w_rely hF | u_c stepG_loop w_rely hF | u_c stepG_inBlock w_rely hF | u_c stepG_inLoop w_rely hF | u_c stepG_end w_rely hF | ((with_reducible show Goes _ _ _ _ _ _ (G (Frame.at _ _ (Item.inRegion _ (_ :: _) :: _)) _) _); first | u_defer w_rely hF | u_bub w_rely hF | u_op w_rely hF | u_skip w_rely hF))
    refine Goes.stop (fun w₂ h₂ => ?_)
    replace hF := w_rely hF h₂
    clear h₂
    refine ⟨rfl, fun v' hv' hw => ⟨fun e => ?_, fun e => ?_⟩⟩
    · subst e
      replace hw : WgAt L.tWg Wg w₂ 4294967296 0 := hw
      have z : ((1 : Nat) : Int) * KK + 1 = 4294967297 := by decide
      rw [z]
      refine ⟨_, (stepG_cas_hit (v := 4294967296) (n := 4294967297) rfl rfl (by k_ne) rfl H.f_casU64 (x_casU64_n L) (x_casU64_b L) (x_casU64_x L) .u64 (x_casU64_f L) rfl rfl rfl hw.cellSt (hw.thaw 0)).trans (by rfl), 150 + 101, ?_⟩
      replace hF : WgLive L.tWg Wg (w₂.setCell (stA Wg) (.int .u64 4294967297)) := ⟨_, _, hw.setSt _⟩
      clear hw
      refine goes_then (Stop := AtWr P L.tWg Wg (AnchW L Wg (b₀.at a₀ (.inRegion ops₀ (i₀ :: rest₀) :: k₀)) cs) (Anch P L.tWg Wg (G (b₀.at (a₀.put ((ops₀[i₀]?).bind (·.dst)) (.tuple #[])) (.inRegion ops₀ rest₀ :: k₀)) cs))) (k := 101) R0.refl wr_goes (n := 150) (goes_doing dc0_d0 ?_)
      walk_nrm
      repeat (first | u_c stepG_seq w_rely hF | u_c stepG_region_end w_rely hF | u_c stepG_skip w_rely hF | u_c stepG_ret' w_rely hF | u_reg w_rely hF | u_cond true w_rely hF | u_cond false w_rely hF | u_c stepG_block w_rely hF | u_c stepG_loop w_rely hF | u_c stepG_inBlock w_rely hF | u_c stepG_inLoop w_rely hF | u_c stepG_end w_rely hF | ((with_reducible show Goes _ _ _ _ _ _ (G (Frame.at _ _ (Item.inRegion _ (_ :: _) :: _)) _) _); first | u_defer w_rely hF | u_bub w_rely hF | u_op w_rely hF | u_skip w_rely hF))
      u_leave1 H.f_uCas w_rely hF
      repeat (first | u_c stepG_seq w_rely hF | u_c stepG_region_end w_rely hF | u_c stepG_skip w_rely hF | u_c stepG_ret' w_rely hF | u_reg w_rely hF | u_cond true w_rely hF | u_cond false w_rely hF | u_c stepG_block w_rely hF | u_c stepG_loop w_rely hF | u_c stepG_inBlock w_rely hF | u_c stepG_inLoop w_rely hF | u_c stepG_end w_rely hF | u_conv H.underlying_tPU32 H.room_tU32 (w_cell1 hF).choose_spec w_rely hF | ((with_reducible show Goes _ _ _ _ _ _ (G (Frame.at _ _ (Item.inRegion _ (_ :: _) :: _)) _) _); first | u_defer w_rely hF | u_bub w_rely hF | u_op w_rely hF | u_skip w_rely hF))
      refine Goes.stop (fun w₃ h₃ => ?_)
      replace hF := w_rely hF h₃
      clear h₃
      refine ⟨rfl, _, fun w₄ h₄ => ⟨stepG_markAt .write (by simp) rfl rfl (by k_ne) rfl H.f_raceWrite (x_raceWrite_n L) (x_raceWrite_b L) (x_raceWrite_x L) (x_raceWrite_f L) (ad := ⟨Wg, 1, none⟩) (by simp [Act.eval]), ?_⟩⟩
      replace hF := w_rely hF h₄
      clear h₄
      walk_nrm
      repeat (first | u_c stepG_seq w_rely hF | u_c stepG_region_end w_rely hF | u_c stepG_skip w_rely hF | u_c stepG_ret' w_rely hF | u_reg w_rely hF | u_cond true w_rely hF | u_cond false w_rely hF | u_c stepG_block w_rely hF | u_c stepG_loop w_rely hF | u_c stepG_inBlock w_rely hF | u_c stepG_inLoop w_rely hF | u_c stepG_end w_rely hF | ((with_reducible show Goes _ _ _ _ _ _ (G (Frame.at _ _ (Item.inRegion _ (_ :: _) :: _)) _) _); first | u_defer w_rely hF | u_bub w_rely hF | u_op w_rely hF | u_skip w_rely hF))
      refine Goes.stop (fun w₅ h₅ => ?_)
      replace hF := w_rely hF h₅
      clear h₅
      refine ⟨rfl, rfl, fun ⟨st, hw⟩ => stepG_semacquire_wait rfl rfl rfl H.f_semacquire (x_semacquire_n L) (x_semacquire_b L) (x_semacquire_x L) (x_semacquire_f L) (by simp [Act.eval, smA]) hw.cellSm, fun hf => ?_⟩
      refine ⟨_, (stepG_semacquire (n := 1) rfl rfl (by k_ne) rfl H.f_semacquire (x_semacquire_n L) (x_semacquire_b L) (x_semacquire_x L) (x_semacquire_f L) (by simp [Act.eval, smA]) hf.cellSm (by k_ne) (hf.thaw 1)).trans (by rfl), 80, goes_doing dc0_d0 ?_⟩
      replace hF : WgLive L.tWg Wg (w₅.setCell (smA Wg) (.int .u32 0)) := ⟨_, _, hf.setSm 0⟩
      clear hf
      walk_nrm
      repeat (first | u_c stepG_seq w_rely hF | u_c stepG_region_end w_rely hF | u_c stepG_skip w_rely hF | u_c stepG_ret' w_rely hF | u_reg w_rely hF | u_cond true w_rely hF | u_cond false w_rely hF | u_c stepG_block w_rely hF | u_c stepG_loop w_rely hF | u_c stepG_inBlock w_rely hF | u_c stepG_inLoop w_rely hF | u_c stepG_end w_rely hF | ((with_reducible show Goes _ _ _ _ _ _ (G (Frame.at _ _ (Item.inRegion _ (_ :: _) :: _)) _) _); first | u_defer w_rely hF | u_bub w_rely hF | u_op w_rely hF | u_skip w_rely hF))
      u_call H.f_uLoad (nm_uLoad L) uLoadFn w_rely hF
      repeat (first | u_c stepG_seq w_rely hF | u_c stepG_region_end w_rely hF | u_c stepG_skip w_rely hF | u_c stepG_ret' w_rely hF | u_reg w_rely hF | u_cond true w_rely hF | u_cond false w_rely hF | u_c stepG_block w_rely hF | u_c stepG_loop w_rely hF | u_c stepG_inBlock w_rely hF | u_c stepG_inLoop w_rely hF | u_c stepG_end w_rely hF | ((with_reducible show Goes _ _ _ _ _ _ (G (Frame.at _ _ (Item.inRegion _ (_ :: _) :: _)) _) _); first | u_defer w_rely hF | u_bub w_rely hF | u_op w_rely hF | u_skip w_rely hF))
      refine Goes.stop (fun w₆ h₆ => ?_)
      replace hF := w_rely hF h₆
      clear h₆
      refine ⟨rfl, fun hw => ⟨_, stepG_load_atomic (v := 0) rfl rfl (by k_ne) rfl H.f_loadU64 (x_loadU64_n L) (x_loadU64_b L) (x_loadU64_x L) .u64 (x_loadU64_f L) rfl hw.cellSt, 80, goes_doing dc0_d0 ?_⟩⟩
      clear hw
      walk_nrm
      repeat (first | u_c stepG_seq w_rely hF | u_c stepG_region_end w_rely hF | u_c stepG_skip w_rely hF | u_c stepG_ret' w_rely hF | u_reg w_rely hF | u_cond true w_rely hF | u_cond false w_rely hF | u_c stepG_block w_rely hF | u_c stepG_loop w_rely hF | u_c stepG_inBlock w_rely hF | u_c stepG_inLoop w_rely hF | u_c stepG_end w_rely hF | ((with_reducible show Goes _ _ _ _ _ _ (G (Frame.at _ _ (Item.inRegion _ (_ :: _) :: _)) _) _); first | u_defer w_rely hF | u_bub w_rely hF | u_op w_rely hF | u_skip w_rely hF))
      u_leave1 H.f_uLoad w_rely hF
      repeat (first | u_c stepG_seq w_rely hF | u_c stepG_region_end w_rely hF | u_c stepG_skip w_rely hF | u_c stepG_ret' w_rely hF | u_reg w_rely hF | u_cond true w_rely hF | u_cond false w_rely hF | u_c stepG_block w_rely hF | u_c stepG_loop w_rely hF | u_c stepG_inBlock w_rely hF | u_c stepG_inLoop w_rely hF | u_c stepG_end w_rely hF | ((with_reducible show Goes _ _ _ _ _ _ (G (Frame.at _ _ (Item.inRegion _ (_ :: _) :: _)) _) _); first | u_defer w_rely hF | u_bub w_rely hF | u_op w_rely hF | u_skip w_rely hF))
      refine Goes.stop (fun w₅ h₅ => ?_)
      replace hF := w_rely hF h₅
      clear h₅
      refine ⟨rfl, _, stepG_mark0 .enable (by simp) rfl rfl (by k_ne) rfl H.f_enable (x_enable_n L) (x_enable_b L) (x_enable_x L) (x_enable_f L), 40, goes_doing dc0_d0 ?_⟩
      walk_nrm
      repeat (first | u_c stepG_seq w_rely hF | u_c stepG_region_end w_rely hF | u_c stepG_skip w_rely hF | u_c stepG_ret' w_rely hF | u_reg w_rely hF | u_cond true w_rely hF | u_cond false w_rely hF | u_c stepG_block w_rely hF | u_c stepG_loop w_rely hF | u_c stepG_inBlock w_rely hF | u_c stepG_inLoop w_rely hF | u_c stepG_end w_rely hF | u_conv H.underlying_tWgP H.room_tWg (w_cell0 hF).choose_spec w_rely hF | ((with_reducible show Goes _ _ _ _ _ _ (G (Frame.at _ _ (Item.inRegion _ (_ :: _) :: _)) _) _); first | u_defer w_rely hF | u_bub w_rely hF | u_op w_rely hF | u_skip w_rely hF))
      refine Goes.stop (fun w₆ h₆ => ?_)
      replace hF := w_rely hF h₆
      clear h₆
      refine ⟨rfl, _, stepG_markAt .acquire (by simp) rfl rfl (by k_ne) rfl H.f_acquire (x_acquire_n L) (x_acquire_b L) (x_acquire_x L) (x_acquire_f L) (by simp [Act.eval, stA]), rfl, ?_⟩
      clear hF
      intro wz hF
      refine ⟨60, ?_⟩
      walk_nrm
      repeat (first | u_c stepG_seq w_rely hF | u_c stepG_region_end w_rely hF | u_c stepG_skip w_rely hF | u_c stepG_ret' w_rely hF | u_reg w_rely hF | u_cond true w_rely hF | u_cond false w_rely hF | u_c stepG_block w_rely hF | u_c stepG_loop w_rely hF | u_c stepG_inBlock w_rely hF | u_c stepG_inLoop w_rely hF | u_c stepG_end w_rely hF | ((with_reducible show Goes _ _ _ _ _ _ (G (Frame.at _ _ (Item.inRegion _ (_ :: _) :: _)) _) _); first | u_defer w_rely hF | u_bub w_rely hF | u_op w_rely hF | u_skip w_rely hF))
      u_leave0 H.f_wait w_rely hF
      exact Goes.stop (fun _ _ => rfl)
    · refine ⟨_, stepG_cas_miss (v := (v' : Int) * KK) (old := 4294967296) (n := 4294967297) rfl rfl (by k_ne) rfl H.f_casU64 (x_casU64_n L) (x_casU64_b L) (x_casU64_x L) .u64 (x_casU64_f L) rfl rfl rfl hw.cellSt (hw.thaw 0) (by simp only [KK]; omega), 20, goes_doing dc0_d0 ?_⟩
      clear hw
      walk_nrm
      repeat (first | u_c stepG_seq w_rely hF | u_c stepG_region_end w_rely hF | u_c stepG_skip w_rely hF | u_c stepG_ret' w_rely hF | u_reg w_rely hF | u_cond true w_rely hF | u_cond false w_rely hF | u_c stepG_block w_rely hF | u_c stepG_loop w_rely hF | u_c stepG_inBlock w_rely hF | u_c stepG_inLoop w_rely hF | u_c stepG_end w_rely hF | ((with_reducible show Goes _ _ _ _ _ _ (G (Frame.at _ _ (Item.inRegion _ (_ :: _) :: _)) _) _); first | u_defer w_rely hF | u_bub w_rely hF | u_op w_rely hF | u_skip w_rely hF))
      u_leave1 H.f_uCas w_rely hF
      u_c stepG_region_end w_rely hF
      u_cond false w_rely hF
      u_c stepG_skip w_rely hF
      u_c stepG_inBlock w_rely hF
      u_c stepG_inLoop w_rely hF
      refine Goes.stop (fun w₃ h₃ => ?_)
      exact ⟨_, rfl, by simp, by simp, w_rely hF h₃⟩
  · replace hw : WgAt L.tWg Wg w₁ 8589934592 0 := hw
    have bb4 : bits .and .u64 8589934592 2147483648 = 0 := by decide
    have bc4 : bits .and .u64 8589934592 2147483647 = 0 := by decide
    refine ⟨_, stepG_load_atomic (v := 8589934592) rfl rfl (by k_ne) rfl H.f_loadU64 (x_loadU64_n L) (x_loadU64_b L) (x_loadU64_x L) .u64 (x_loadU64_f L) rfl hw.cellSt, fun h0 => absurd h0 (by omega), fun _ => ⟨150, goes_doing dc0_d0 ?_⟩⟩
    clear hw
    walk_nrm
    repeat (first | u_c stepG_seq w_rely hF | u_c stepG_region_end w_rely hF | u_c stepG_skip w_rely hF | u_c stepG_ret' w_rely hF | u_reg w_rely hF | u_cond true w_rely hF | u_cond false w_rely hF | u_c stepG_block w_rely hF | u_c stepG_loop w_rely hF | u_c stepG_inBlock w_rely hF | u_c stepG_inLoop w_rely hF | u_c stepG_end w_rely hF | ((with_reducible show Goes _ _ _ _ _ _ (G (Frame.at _ _ (Item.inRegion _ (_ :: _) :: _)) _) _); first | u_defer w_rely hF | u_bub w_rely hF | u_op w_rely hF | u_skip w_rely hF))
    u_leave1 H.f_uLoad w_rely hF
    repeat (first | u_c stepG_seq w_rely hF | u_c stepG_region_end w_rely hF | u_c stepG_skip w_rely hF | u_c stepG_ret' w_rely hF | u_reg w_rely hF | u_cond true w_rely hF | u_cond false w_rely hF | u_c stepG_block w_rely hF | u_c stepG_loop w_rely hF | u_c stepG_inBlock w_rely hF | u_c stepG_inLoop w_rely hF | u_c stepG_end w_rely hF | ((with_reducible show Goes _ _ _ _ _ _ (G (Frame.at _ _ (Item.inRegion _ (_ :: _) :: _)) _) _); first | u_defer w_rely hF | u_bub w_rely hF | u_op w_rely hF | u_skip w_rely hF))
    u_call H.f_uCas (nm_uCas L) uCasFn w_rely hF
    repeat (first | u_c stepG_seq w_rely hF | u_c stepG_region_end w_rely hF | u_c stepG_skip w_rely hF | u_c stepG_ret' w_rely hF | u_reg w_rely hF | u_cond true w_rely hF | u_cond false w_rely hF | u_c stepG_block w_rely hF | u_c stepG_loop w_rely hF | u_c stepG_inBlock w_rely hF | u_c stepG_inLoop w_rely hF | u_c stepG_end w_rely hF | ((with_reducible show Goes _ _ _ _ _ _ (G (Frame.at _ _ (Item.inRegion _ (_ :: _) :: _)) _) _); first | u_defer w_rely hF | u_bub w_rely hF | u_op w_rely hF | u_skip w_rely hF))
    refine Goes.stop (fun w₂ h₂ => ?_)
    replace hF := w_rely hF h₂
    clear h₂
    refine ⟨rfl, fun v' hv' hw => ⟨fun e => ?_, fun e => ?_⟩⟩
    · subst e
      replace hw : WgAt L.tWg Wg w₂ 8589934592 0 := hw
      have z : ((2 : Nat) : Int) * KK + 1 = 8589934593 := by decide
      rw [z]
      refine ⟨_, (stepG_cas_hit (v := 8589934592) (n := 8589934593) rfl rfl (by k_ne) rfl H.f_casU64 (x_casU64_n L) (x_casU64_b L) (x_casU64_x L) .u64 (x_casU64_f L) rfl rfl rfl hw.cellSt (hw.thaw 0)).trans (by rfl), 150 + 101, ?_⟩
      replace hF : WgLive L.tWg Wg (w₂.setCell (stA Wg) (.int .u64 8589934593)) := ⟨_, _, hw.setSt _⟩
      clear hw
      refine goes_then (Stop := AtWr P L.tWg Wg (AnchW L Wg (b₀.at a₀ (.inRegion ops₀ (i₀ :: rest₀) :: k₀)) cs) (Anch P L.tWg Wg (G (b₀.at (a₀.put ((ops₀[i₀]?).bind (·.dst)) (.tuple #[])) (.inRegion ops₀ rest₀ :: k₀)) cs))) (k := 101) R0.refl wr_goes (n := 150) (goes_doing dc0_d0 ?_)
      walk_nrm
      repeat (first | u_c stepG_seq w_rely hF | u_c stepG_region_end w_rely hF | u_c stepG_skip w_rely hF | u_c stepG_ret' w_rely hF | u_reg w_rely hF | u_cond true w_rely hF | u_cond false w_rely hF | u_c stepG_block w_rely hF | u_c stepG_loop w_rely hF | u_c stepG_inBlock w_rely hF | u_c stepG_inLoop w_rely hF | u_c stepG_end w_rely hF | ((with_reducible show Goes _ _ _ _ _ _ (G (Frame.at _ _ (Item.inRegion _ (_ :: _) :: _)) _) _); first | u_defer w_rely hF | u_bub w_rely hF | u_op w_rely hF | u_skip w_rely hF))
      u_leave1 H.f_uCas w_rely hF
      repeat (first | u_c stepG_seq w_rely hF | u_c stepG_region_end w_rely hF | u_c stepG_skip w_rely hF | u_c stepG_ret' w_rely hF | u_reg w_rely hF | u_cond true w_rely hF | u_cond false w_rely hF | u_c stepG_block w_rely hF | u_c stepG_loop w_rely hF | u_c stepG_inBlock w_rely hF | u_c stepG_inLoop w_rely hF | u_c stepG_end w_rely hF | u_conv H.underlying_tPU32 H.room_tU32 (w_cell1 hF).choose_spec w_rely hF | ((with_reducible show Goes _ _ _ _ _ _ (G (Frame.at _ _ (Item.inRegion _ (_ :: _) :: _)) _) _); first | u_defer w_rely hF | u_bub w_rely hF | u_op w_rely hF | u_skip w_rely hF))
      refine Goes.stop (fun w₃ h₃ => ?_)
      replace hF := w_rely hF h₃
      clear h₃
      refine ⟨rfl, _, fun w₄ h₄ => ⟨stepG_markAt .write (by simp) rfl rfl (by k_ne) rfl H.f_raceWrite (x_raceWrite_n L) (x_raceWrite_b L) (x_raceWrite_x L) (x_raceWrite_f L) (ad := ⟨Wg, 1, none⟩) (by simp [Act.eval]), ?_⟩⟩
      replace hF := w_rely hF h₄
      clear h₄
      walk_nrm
      repeat (first | u_c stepG_seq w_rely hF | u_c stepG_region_end w_rely hF | u_c stepG_skip w_rely hF | u_c stepG_ret' w_rely hF | u_reg w_rely hF | u_cond true w_rely hF | u_cond false w_rely hF | u_c stepG_block w_rely hF | u_c stepG_loop w_rely hF | u_c stepG_inBlock w_rely hF | u_c stepG_inLoop w_rely hF | u_c stepG_end w_rely hF | ((with_reducible show Goes _ _ _ _ _ _ (G (Frame.at _ _ (Item.inRegion _ (_ :: _) :: _)) _) _); first | u_defer w_rely hF | u_bub w_rely hF | u_op w_rely hF | u_skip w_rely hF))
      refine Goes.stop (fun w₅ h₅ => ?_)
      replace hF := w_rely hF h₅
      clear h₅
      refine ⟨rfl, rfl, fun ⟨st, hw⟩ => stepG_semacquire_wait rfl rfl rfl H.f_semacquire (x_semacquire_n L) (x_semacquire_b L) (x_semacquire_x L) (x_semacquire_f L) (by simp [Act.eval, smA]) hw.cellSm, fun hf => ?_⟩
      refine ⟨_, (stepG_semacquire (n := 1) rfl rfl (by k_ne) rfl H.f_semacquire (x_semacquire_n L) (x_semacquire_b L) (x_semacquire_x L) (x_semacquire_f L) (by simp [Act.eval, smA]) hf.cellSm (by k_ne) (hf.thaw 1)).trans (by rfl), 80, goes_doing dc0_d0 ?_⟩
      replace hF : WgLive L.tWg Wg (w₅.setCell (smA Wg) (.int .u32 0)) := ⟨_, _, hf.setSm 0⟩
      clear hf
      walk_nrm
      repeat (first | u_c stepG_seq w_rely hF | u_c stepG_region_end w_rely hF | u_c stepG_skip w_rely hF | u_c stepG_ret' w_rely hF | u_reg w_rely hF | u_cond true w_rely hF | u_cond false w_rely hF | u_c stepG_block w_rely hF | u_c stepG_loop w_rely hF | u_c stepG_inBlock w_rely hF | u_c stepG_inLoop w_rely hF | u_c stepG_end w_rely hF | ((with_reducible show Goes _ _ _ _ _ _ (G (Frame.at _ _ (Item.inRegion _ (_ :: _) :: _)) _) _); first | u_defer w_rely hF | u_bub w_rely hF | u_op w_rely hF | u_skip w_rely hF))
      u_call H.f_uLoad (nm_uLoad L) uLoadFn w_rely hF
      repeat (first | u_c stepG_seq w_rely hF | u_c stepG_region_end w_rely hF | u_c stepG_skip w_rely hF | u_c stepG_ret' w_rely hF | u_reg w_rely hF | u_cond true w_rely hF | u_cond false w_rely hF | u_c stepG_block w_rely hF | u_c stepG_loop w_rely hF | u_c stepG_inBlock w_rely hF | u_c stepG_inLoop w_rely hF | u_c stepG_end w_rely hF | ((with_reducible show Goes _ _ _ _ _ _ (G (Frame.at _ _ (Item.inRegion _ (_ :: _) :: _)) _) _); first | u_defer w_rely hF | u_bub w_rely hF | u_op w_rely hF | u_skip w_rely hF))
      refine Goes.stop (fun w₆ h₆ => ?_)
      replace hF := w_rely hF h₆
      clear h₆
      refine ⟨rfl, fun hw => ⟨_, stepG_load_atomic (v := 0) rfl rfl (by k_ne) rfl H.f_loadU64 (x_loadU64_n L) (x_loadU64_b L) (x_loadU64_x L) .u64 (x_loadU64_f L) rfl hw.cellSt, 80, goes_doing dc0_d0 ?_⟩⟩
      clear hw
      walk_nrm
      repeat (first | u_c stepG_seq w_rely hF | u_c stepG_region_end w_rely hF | u_c stepG_skip w_rely hF | u_c stepG_ret' w_rely hF | u_reg w_rely hF | u_cond true w_rely hF | u_cond false w_rely hF | u_c stepG_block w_rely hF | u_c stepG_loop w_rely hF | u_c stepG_inBlock w_rely hF | u_c stepG_inLoop w_rely hF | u_c stepG_end w_rely hF | ((with_reducible show Goes _ _ _ _ _ _ (G (Frame.at _ _ (Item.inRegion _ (_ :: _) :: _)) _) _); first | u_defer w_rely hF | u_bub w_rely hF | u_op w_rely hF | u_skip w_rely hF))
      u_leave1 H.f_uLoad w_rely hF
      repeat (first | u_c stepG_seq w_rely hF | u_c stepG_region_end w_rely hF | u_c stepG_skip w_rely hF | u_c stepG_ret' w_rely hF | u_reg w_rely hF | u_cond true w_rely hF | u_cond false w_rely hF | u_c stepG_block w_rely hF | u_c stepG_loop w_rely hF | u_c stepG_inBlock w_rely hF | u_c stepG_inLoop w_rely hF | u_c stepG_end w_rely hF | ((with_reducible show Goes _ _ _ _ _ _ (G (Frame.at _ _ (Item.inRegion _ (_ :: _) :: _)) _) _); first | u_defer w_rely hF | u_bub w_rely hF | u_op w_rely hF | u_skip w_rely hF))
      refine Goes.stop (fun w₅ h₅ => ?_)
      replace hF := w_rely hF h₅
      clear h₅
      refine ⟨rfl, _, stepG_mark0 .enable (by simp) rfl rfl (by k_ne) rfl H.f_enable (x_enable_n L) (x_enable_b L) (x_enable_x L) (x_enable_f L), 40, goes_doing dc0_d0 ?_⟩
      walk_nrm
      repeat (first | u_c stepG_seq w_rely hF | u_c stepG_region_end w_rely hF | u_c stepG_skip w_rely hF | u_c stepG_ret' w_rely hF | u_reg w_rely hF | u_cond true w_rely hF | u_cond false w_rely hF | u_c stepG_block w_rely hF | u_c stepG_loop w_rely hF | u_c stepG_inBlock w_rely hF | u_c stepG_inLoop w_rely hF | u_c stepG_end w_rely hF | u_conv H.underlying_tWgP H.room_tWg (w_cell0 hF).choose_spec w_rely hF | ((with_reducible show Goes _ _ _ _ _ _ (G (Frame.at _ _ (Item.inRegion _ (_ :: _) :: _)) _) _); first | u_defer w_rely hF | u_bub w_rely hF | u_op w_rely hF | u_skip w_rely hF))
      refine Goes.stop (fun w₆ h₆ => ?_)
      replace hF := w_rely hF h₆
      clear h₆
      refine ⟨rfl, _, stepG_markAt .acquire (by simp) rfl rfl (by k_ne) rfl H.f_acquire (x_acquire_n L) (x_acquire_b L) (x_acquire_x L) (x_acquire_f L) (by simp [Act.eval, stA]), rfl, ?_⟩
      clear hF
      intro wz hF
      refine ⟨60, ?_⟩
      walk_nrm
      repeat (first | u_c stepG_seq w_rely hF | u_c stepG_region_end w_rely hF | u_c stepG_skip w_rely hF | u_c stepG_ret' w_rely hF | u_reg w_rely hF | u_cond true w_rely hF | u_cond false w_rely hF | u_c stepG_block w_rely hF | u_c stepG_loop w_rely hF | u_c stepG_inBlock w_rely hF | u_c stepG_inLoop w_rely hF | u_c stepG_end w_rely hF | ((with_reducible show Goes _ _ _ _ _ _ (G (Frame.at _ _ (Item.inRegion _ (_ :: _) :: _)) _) _); first | u_defer w_rely hF | u_bub w_rely hF | u_op w_rely hF | u_skip w_rely hF))
      u_leave0 H.f_wait w_rely hF
      exact Goes.stop (fun _ _ => rfl)
    · refine ⟨_, stepG_cas_miss (v := (v' : Int) * KK) (old := 8589934592) (n := 8589934593) rfl rfl (by k_ne) rfl H.f_casU64 (x_casU64_n L) (x_casU64_b L) (x_casU64_x L) .u64 (x_casU64_f L) rfl rfl rfl hw.cellSt (hw.thaw 0) (by simp only [KK]; omega), 20, goes_doing dc0_d0 ?_⟩
      clear hw
      walk_nrm
      repeat (first | u_c stepG_seq w_rely hF | u_c stepG_region_end w_rely hF | u_c stepG_skip w_rely hF | u_c stepG_ret' w_rely hF | u_reg w_rely hF | u_cond true w_rely hF | u_cond false w_rely hF | u_c stepG_block w_rely hF | u_c stepG_loop w_rely hF | u_c stepG_inBlock w_rely hF | u_c stepG_inLoop w_rely hF | u_c stepG_end w_rely hF | ((with_reducible show Goes _ _ _ _ _ _ (G (Frame.at _ _ (Item.inRegion _ (_ :: _) :: _)) _) _); first | u_defer w_rely hF | u_bub w_rely hF | u_op w_rely hF | u_skip w_rely hF))
      u_leave1 H.f_uCas w_rely hF
      u_c stepG_region_end w_rely hF
      u_cond false w_rely hF
      u_c stepG_skip w_rely hF
      u_c stepG_inBlock w_rely hF
      u_c stepG_inLoop w_rely hF
      refine Goes.stop (fun w₃ h₃ => ?_)
      exact ⟨_, rfl, by simp, by simp, w_rely hF h₃⟩
end
end Go.Proofs.Ph
