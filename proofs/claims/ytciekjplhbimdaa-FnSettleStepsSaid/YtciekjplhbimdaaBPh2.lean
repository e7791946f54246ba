/-
  Words and contracts, joined: PhL, PhM, PhN, PhO, PhP, PhQ, PhR, PhS, PhT.
-/
import Derived.Test.YtciekjplhbimdaaChecked
import Derived.Conc.FxGenDone
import Derived.Conc.TokenWalk
import Derived.Test.YtciekjplhbimdaaWgP1
import Derived.Test.YtciekjplhbimdaaWgP2
import Derived.Conc.WgWords
import Derived.Test.YtciekjplhbimdaaAltA
import Derived.Test.YtciekjplhbimdaaBTr2
import Derived.Test.YtciekjplhbimdaaWgP3
/-
  The link: which number each of package sync's functions and types bears in this program.
-/
set_option linter.all false
set_option maxRecDepth 100000
namespace Go.Proofs.Ph
open Go Go.Conc Go.Conc.Lib
abbrev link : WgLink := { add := 64, done := 66, wait := 68, relMerge := 83, disable := 84, enable := 85, inBubble := 86, associate := 87, fatal := 88, uOr := 89, uAdd := 90, raceRead := 91, uLoad := 92, uStore := 93, disassociate := 94, semrelease := 95, acquire := 96, isAssociated := 97, uCas := 98, raceWrite := 99, semacquire := 100, orU64 := 108, addU64 := 109, loadU64 := 110, storeU64 := 111, casU64 := 112, tWgP := 109, tUP := 111, tAssoc := 113, tWg := 96, tAU := 93, tU64 := 91, tUint := 117, tU32 := 94, tPU32 := 118, tPAU := 132, tPU64 := 134, tNoCopy := 88, tANoCopy := 89, tAlign64 := 90 }
theorem wgLib : WgLib Try.prog link :=
  ⟨Try.func64, Try.func66, Try.func68, Try.func83, Try.func84, Try.func85, Try.func86, Try.func87, Try.func88, Try.func89, Try.func90, Try.func91, Try.func92, Try.func93, Try.func94, Try.func95, Try.func96, Try.func97, Try.func98, Try.func99, Try.func100, Try.func108, Try.func109, Try.func110, Try.func111, Try.func112, Try.underlying109, Try.runUnderlying109, Try.sizeOf109, Try.isAgg109, Try.zeroValue109, Try.underlying111, Try.runUnderlying111, Try.sizeOf111, Try.isAgg111, Try.zeroValue111, Try.underlying113, Try.runUnderlying113, Try.sizeOf113, Try.isAgg113, Try.zeroValue113, Try.underlying96, Try.runUnderlying96, Try.sizeOf96, Try.isAgg96, Try.zeroValue96, Try.underlying93, Try.runUnderlying93, Try.sizeOf93, Try.isAgg93, Try.zeroValue93, Try.underlying91, Try.runUnderlying91, Try.sizeOf91, Try.isAgg91, Try.zeroValue91, Try.underlying117, Try.runUnderlying117, Try.sizeOf117, Try.isAgg117, Try.zeroValue117, Try.underlying94, Try.runUnderlying94, Try.sizeOf94, Try.isAgg94, Try.zeroValue94, Try.underlying118, Try.runUnderlying118, Try.sizeOf118, Try.isAgg118, Try.zeroValue118, Try.underlying132, Try.runUnderlying132, Try.sizeOf132, Try.isAgg132, Try.zeroValue132, Try.underlying134, Try.runUnderlying134, Try.sizeOf134, Try.isAgg134, Try.zeroValue134, Try.underlying0, Try.runUnderlying0, Try.sizeOf0, Try.isAgg0, Try.zeroValue0, Try.underlying3, Try.runUnderlying3, Try.sizeOf3, Try.isAgg3, Try.zeroValue3, Try.underlying4, Try.runUnderlying4, Try.sizeOf4, Try.isAgg4, Try.zeroValue4, Try.underlying9, Try.runUnderlying9, Try.sizeOf9, Try.isAgg9, Try.zeroValue9, Try.underlying20, Try.runUnderlying20, Try.sizeOf20, Try.isAgg20, Try.zeroValue20, Try.underlying21, Try.runUnderlying21, Try.sizeOf21, Try.isAgg21, Try.zeroValue21, (by kernel_rfl), (by kernel_rfl)⟩
end Go.Proofs.Ph

/-
  The first worker of passNext, from its birth to its end.
-/
set_option linter.all false
namespace Go.Proofs.Ph
open Go Go.Conc Go.RowKit Go.Conc.Lib Go.ConcX.Gen
open Go.ConcR (KK wgBlock WgAt stA smA)

noncomputable def botT : Frame := { (default : Frame) with fn := Try.prog.funcs.size, defers := [], mode := .panicking [goexitEntry] }
noncomputable def bodyA : Code := Try.f65.body.getD .skip
def callA (Wg lc nx : Nat) : Deferred := { target := .fn (.func 65) #[.pointer (some ⟨Wg, 0, none⟩), .pointer (some ⟨lc, 0, none⟩), .pointer (some ⟨nx, 0, none⟩)], args := #[] }
theorem born_A (Wg lc nx : Nat) (w : World) : stepG Try.prog false (born Try.prog (callA Wg lc nx)) w =
    .go (G ((baseD 65).at ⟨#[.pointer (some ⟨Wg, 0, none⟩), .pointer (some ⟨lc, 0, none⟩), .pointer (some ⟨nx, 0, none⟩), undef, undef, undef], []⟩ [.code bodyA]) [botT]) w #[] := by
  simp [born, callA, stepG, unwind, callDeferred, invoke, callFunc, Try.func65, Try.f65, seen, GStep.after, G, Frame.enter, Frame.at, baseD, botT, bodyA]
/-- What the first worker knows. -/
structure KF (ty Wg c lc nx : Nat) (x y : Value) (w : World) : Prop where
  lcv : w.cell? ⟨lc, 0, none⟩ = some (.chan (some c))
  nx0 : w.cell? ⟨nx, 0, none⟩ = some x
  nx1 : w.cell? ⟨nx, 1, none⟩ = some y
  live : WgLive ty Wg w
abbrev Two (lc nx : Nat) (b : Nat) : Prop := b = lc ∨ b = nx
abbrev RoT (lc nx : Nat) (l : Loc) : Prop := ∃ a : Addr, l = .cell a ∧ Two lc nx a.block
theorem KF.rely {ty Wg c lc nx : Nat} {x y : Value} {w w₁ : World} (h : KF ty Wg c lc nx x y w) (r : RA ty Wg (Two lc nx) w w₁) : KF ty Wg c lc nx x y w₁ :=
  ⟨(World.cell?_of_block (r.keep lc (.inl rfl))).trans h.lcv, (World.cell?_of_block (r.keep nx (.inr rfl))).trans h.nx0, (World.cell?_of_block (r.keep nx (.inr rfl))).trans h.nx1, r.live h.live⟩
theorem da_nil {Ro : Loc → Prop} {B : Nat} {w : World} : DA Ro B w w #[] := ⟨rfl, by simp⟩
theorem evA_mk {lc nx B : Nat} {a : Addr} (h : Two lc nx a.block) (hlt : lc < B ∧ nx < B) : EvA (RoT lc nx) B ⟨.cell a, false, false⟩ := ⟨a, rfl, ⟨a, rfl, h⟩, by rcases h with h | h <;> omega⟩
theorem live_chan {ty Wg c : Nat} {w : World} (hc : Wg ≠ c) (h : WgLive ty Wg w) (cap : Nat) (buf : Array Value) (cl : Bool) (s r : Nat) (tm : Bool) : WgLive ty Wg (w.setChan c cap buf cl s r tm) := by
  obtain ⟨st, sm, x⟩ := h
  exact ⟨st, sm, x.of_block (by simp [World.setChan, Array.getElem?_setIfInBounds]; intro e; exact absurd e.symm hc)⟩
/-- The literal's frame and the bottom end. -/
theorem quitsA (T : Array Value) : ∃ q, QuitsD Try.prog q 0 (G ({ (baseD 65).at ⟨T, []⟩ [] with mode := .returning }) [botT]) := by
  refine qe_ctl (G botT []) rfl (fun w => ?_) ?_
  · simp [G, stepG, unwind, doReturn, results, Frame.at, baseD, botT, Try.func65, Try.f65, seen, GStep.after, goexitEntry]
  refine qe_ctl { G botT [] with status := .finished } rfl (fun w => ?_) ⟨0, rfl, rfl⟩
  simp [G, stepG, unwind, botT, goexitEntry, Frame.catches]
  rfl
theorem goes_le {P : Program} {main : Bool} {R : World → World → Prop} {D : World → World → Array Event → Prop} {Stop : Goroutine → World → Prop} {n n' : Nat} {g : Goroutine} {w : World} (h : n ≤ n') (hg : Goes P main R D Stop n g w) : Goes P main R D Stop n' g w := by
  obtain ⟨k, rfl⟩ := Nat.exists_eq_add_of_le h
  exact goes_more hg
theorem nm66 : (Try.f66.name == "runtime.NumGoroutine") = false := by kernel_rfl

set_option maxRecDepth 100000 in
set_option maxHeartbeats 2000000 in
theorem walkA {Wg c lc nx B : Nat} {x y : Value} (hwc : Wg ≠ c) (hlt : lc < B ∧ nx < B) (w : World) (hF : KF link.tWg Wg c lc nx x y w) :
    ∃ m, Goes Try.prog false (RA link.tWg Wg (Two lc nx)) (DA (RoT lc nx) B) (AtSend Try.prog link.tWg Wg c (Two lc nx) (RoT lc nx) B (.agg #[x, y])) m (born Try.prog (callA Wg lc nx)) w := by
  refine ⟨60, Goes.step rfl fun w₁ r₁ => ?_⟩
  rw [born_A]
  refine ⟨da_nil, ?_⟩
  replace hF := KF.rely hF r₁
  clear r₁
  simp only [bodyA, Try.f65, Option.getD_some]
  repeat (first | (refine Goes.step rfl (fun _ h₁ => ?_); replace hF := KF.rely hF h₁; clear h₁; rw [stepG_seq]; simp only [goes_go]; refine ⟨da_nil, ?_⟩) | (refine Goes.step rfl (fun _ h₁ => ?_); replace hF := KF.rely hF h₁; clear h₁; rw [stepG_region_end]; simp only [goes_go]; refine ⟨da_nil, ?_⟩) | (refine Goes.step rfl (fun _ h₁ => ?_); replace hF := KF.rely hF h₁; clear h₁; rw [stepG_skip]; simp only [goes_go]; refine ⟨da_nil, ?_⟩) | (refine Goes.step rfl (fun _ h₁ => ?_); replace hF := KF.rely hF h₁; clear h₁; rw [stepG_ret']; simp only [goes_go]; refine ⟨da_nil, ?_⟩) | (refine Goes.step rfl (fun _ h₁ => ?_); replace hF := KF.rely hF h₁; clear h₁; rw [stepG_block]; simp only [goes_go]; refine ⟨da_nil, ?_⟩) | (refine Goes.step rfl (fun _ h₁ => ?_); replace hF := KF.rely hF h₁; clear h₁; rw [stepG_loop]; simp only [goes_go]; refine ⟨da_nil, ?_⟩) | (refine Goes.step rfl (fun _ h₁ => ?_); replace hF := KF.rely hF h₁; clear h₁; rw [stepG_inLoop]; simp only [goes_go]; refine ⟨da_nil, ?_⟩) | (refine Goes.step rfl (fun _ h₁ => ?_); replace hF := KF.rely hF h₁; clear h₁; rw [stepG_inBlock]; simp only [goes_go]; refine ⟨da_nil, ?_⟩) | (refine Goes.step rfl (fun _ h₁ => ?_); replace hF := KF.rely hF h₁; clear h₁; rw [stepG_end]; simp only [goes_go]; refine ⟨da_nil, ?_⟩) | (refine Goes.step rfl (fun _ h₁ => ?_); replace hF := KF.rely hF h₁; clear h₁; rw [stepG_region]; simp only [goes_go, List.size_toArray, List.length_cons, List.length_nil, Nat.reduceAdd, Nat.zero_add, List.range, List.range.loop]; refine ⟨da_nil, ?_⟩) | (refine Goes.step rfl (fun _ h₁ => ?_); replace hF := KF.rely hF h₁; clear h₁; rw [stepG_cond (t := true) rfl]; simp only [goes_go, if_true, if_false, Bool.false_eq_true, ↓reduceIte]; refine ⟨da_nil, ?_⟩) | (refine Goes.step rfl (fun _ h₁ => ?_); replace hF := KF.rely hF h₁; clear h₁; rw [stepG_cond (t := false) rfl]; simp only [goes_go, if_true, if_false, Bool.false_eq_true, ↓reduceIte]; refine ⟨da_nil, ?_⟩) | ((with_reducible show Goes _ _ _ _ _ _ (G (Frame.at _ _ (Item.inRegion _ (_ :: _) :: _)) _) _); first | (refine Goes.step rfl (fun _ h₁ => ?_); replace hF := KF.rely hF h₁; clear h₁; rw [stepG_defer rfl rfl (by k_ne) rfl]; simp only [goes_go]; refine ⟨da_nil, ?_⟩; walk_nrm) | (refine Goes.step rfl (fun _ h₁ => ?_); replace hF := KF.rely hF h₁; clear h₁; refine goes_oper_k rfl rfl (by k_ne) (fun K hK => ?_); have fx0 := hF.lcv; have fx1 := hF.nx0; have fx2 := hF.nx1; go_simp; refine hK _ _ ⟨⟨rfl, fun e he => by have hm := mem_listed he; simp [go_sem, *] at hm; try (first | (subst hm; exact evA_mk (by simp [Two]) hlt) | (rcases hm with rfl | rfl <;> exact evA_mk (by simp [Two]) hlt))⟩, ?_⟩; clear hK K fx0 fx1 fx2; try w_num)))
  refine Goes.stop (fun w₁ h₁ => ?_)
  replace hF := KF.rely hF h₁
  clear h₁
  refine ⟨rfl, rfl, .tuple #[], ?_, 60, ?_⟩
  · rw [stepG_comm (cases := #[scase c (.agg #[x, y]) (.tuple #[])]) (blocking := true) (shape := .send) (w' := w₁) rfl rfl (by decide) (by simp [execOp, scase, Act.eval])]
    refine congrArg _ ?_
    simp [listed, execOp, seen]
  rw [served_G]
  walk_nrm
  repeat (first | (refine Goes.step rfl (fun _ h₁ => ?_); replace hF := KF.rely hF h₁; clear h₁; rw [stepG_seq]; simp only [goes_go]; refine ⟨da_nil, ?_⟩) | (refine Goes.step rfl (fun _ h₁ => ?_); replace hF := KF.rely hF h₁; clear h₁; rw [stepG_region_end]; simp only [goes_go]; refine ⟨da_nil, ?_⟩) | (refine Goes.step rfl (fun _ h₁ => ?_); replace hF := KF.rely hF h₁; clear h₁; rw [stepG_skip]; simp only [goes_go]; refine ⟨da_nil, ?_⟩) | (refine Goes.step rfl (fun _ h₁ => ?_); replace hF := KF.rely hF h₁; clear h₁; rw [stepG_ret']; simp only [goes_go]; refine ⟨da_nil, ?_⟩) | (refine Goes.step rfl (fun _ h₁ => ?_); replace hF := KF.rely hF h₁; clear h₁; rw [stepG_block]; simp only [goes_go]; refine ⟨da_nil, ?_⟩) | (refine Goes.step rfl (fun _ h₁ => ?_); replace hF := KF.rely hF h₁; clear h₁; rw [stepG_loop]; simp only [goes_go]; refine ⟨da_nil, ?_⟩) | (refine Goes.step rfl (fun _ h₁ => ?_); replace hF := KF.rely hF h₁; clear h₁; rw [stepG_inLoop]; simp only [goes_go]; refine ⟨da_nil, ?_⟩) | (refine Goes.step rfl (fun _ h₁ => ?_); replace hF := KF.rely hF h₁; clear h₁; rw [stepG_inBlock]; simp only [goes_go]; refine ⟨da_nil, ?_⟩) | (refine Goes.step rfl (fun _ h₁ => ?_); replace hF := KF.rely hF h₁; clear h₁; rw [stepG_end]; simp only [goes_go]; refine ⟨da_nil, ?_⟩) | (refine Goes.step rfl (fun _ h₁ => ?_); replace hF := KF.rely hF h₁; clear h₁; rw [stepG_region]; simp only [goes_go, List.size_toArray, List.length_cons, List.length_nil, Nat.reduceAdd, Nat.zero_add, List.range, List.range.loop]; refine ⟨da_nil, ?_⟩) | (refine Goes.step rfl (fun _ h₁ => ?_); replace hF := KF.rely hF h₁; clear h₁; rw [stepG_cond (t := true) rfl]; simp only [goes_go, if_true, if_false, Bool.false_eq_true, ↓reduceIte]; refine ⟨da_nil, ?_⟩) | (refine Goes.step rfl (fun _ h₁ => ?_); replace hF := KF.rely hF h₁; clear h₁; rw [stepG_cond (t := false) rfl]; simp only [goes_go, if_true, if_false, Bool.false_eq_true, ↓reduceIte]; refine ⟨da_nil, ?_⟩) | ((with_reducible show Goes _ _ _ _ _ _ (G (Frame.at _ _ (Item.inRegion _ (_ :: _) :: _)) _) _); first | (refine Goes.step rfl (fun _ h₁ => ?_); replace hF := KF.rely hF h₁; clear h₁; rw [stepG_defer rfl rfl (by k_ne) rfl]; simp only [goes_go]; refine ⟨da_nil, ?_⟩; walk_nrm) | (refine Goes.step rfl (fun _ h₁ => ?_); replace hF := KF.rely hF h₁; clear h₁; refine goes_oper_k rfl rfl (by k_ne) (fun K hK => ?_); have fx0 := hF.lcv; have fx1 := hF.nx0; have fx2 := hF.nx1; go_simp; refine hK _ _ ⟨⟨rfl, fun e he => by have hm := mem_listed he; simp [go_sem, *] at hm; try (first | (subst hm; exact evA_mk (by simp [Two]) hlt) | (rcases hm with rfl | rfl <;> exact evA_mk (by simp [Two]) hlt))⟩, ?_⟩; clear hK K fx0 fx1 fx2; try w_num)))
  refine Goes.stop (fun w₂ h₂ => ?_)
  replace hF := KF.rely hF h₂
  clear h₂
  refine ⟨rfl, by simp [mayWake, G, Frame.at, Frame.eval], fun cap buf s r tm hc => ⟨_, stepG_close rfl rfl (by decide) rfl (by simp [Act.eval]) hc (by simp [baseD, Try.func65, Try.f65]), 100, ?_⟩⟩
  have hL := live_chan hwc hF.live cap buf true s r tm
  clear hc hF
  walk_nrm
  repeat (first | u_c stepG_seq r0_rely hL | u_c stepG_region_end r0_rely hL | u_c stepG_skip r0_rely hL | u_c stepG_ret' r0_rely hL | u_reg r0_rely hL | u_cond true r0_rely hL | u_cond false r0_rely hL | u_c stepG_block r0_rely hL | u_c stepG_loop r0_rely hL | u_c stepG_inBlock r0_rely hL | u_c stepG_inLoop r0_rely hL | u_c stepG_end r0_rely hL | ((with_reducible show Goes _ _ _ _ _ _ (G (Frame.at _ _ (Item.inRegion _ (_ :: _) :: _)) _) _); first | u_defer r0_rely hL | u_bub r0_rely hL | u_op r0_rely hL | u_skip r0_rely hL))
  u_in r0_rely hL
  rw [stepG_unwind_enter rfl Try.func66 nm66 rfl]
  simp only [goes_go]
  refine ⟨by u_nil, ?_⟩
  walk_nrmf Try.f66
  refine goes_le (n := 63) (by decide) ?_
  exact donePh wgLib rfl (quitsA _) _ hL
end Go.Proofs.Ph

/-
  The second worker of passNext, from its birth to its end, in step with the lone run.
-/
set_option linter.all false
namespace Go.Proofs.Ph
open Go Go.Conc Go.RowKit Go.Conc.Lib Go.ConcX.Gen Go.Proofs.Tr
open Go.ConcR (KK wgBlock WgAt stA smA)

/-- passNext's frame in the lone run. -/
def TA (p q t5 t6 t7 t9 t10 t11 t12 t13 t14 t15 t16 : Value) : Array Value := #[p, q, undef, undef, undef, t5, t6, t7, undef, t9, t10, t11, t12, t13, t14, t15, t16, undef, undef, undef, undef, undef, undef, undef, undef]
def frA (T : Array Value) (k : List Nat) : Frame := (base 37).at ⟨T, []⟩ [.inRegion Alt.ops k]
/-- The blocks of one pass. -/
structure Blocks (Sh : Nat → Prop) (Shun : Loc → Prop) (N Wg c lc lg nx z B : Nat) : Prop where
  zB : z ≤ B
  wg : Sh Wg
  lcS : Sh lc
  lgS : Sh lg
  nxS : Sh nx
  shun : ∀ l, Shun l → ∃ a, l = .cell a ∧ Sh a.block ∧ a.block < N
  cN : N ≤ c
  lcN : N ≤ lc
  lgN : N ≤ lg
  nxN : N ≤ nx
  wgN : N ≤ Wg
  wc : Wg ≠ c
  wlc : Wg ≠ lc
  wlg : Wg ≠ lg
  wnx : Wg ≠ nx
  clc : c ≠ lc
  clg : c ≠ lg
  cnx : c ≠ nx
  lclg : lc ≠ lg
  nxlg : nx ≠ lg
  cB : c < z
  lcB : lc < z
  lgB : lg < z
  nxB : nx < z
  wgB : Wg < z
  cD : ∃ j, j ≤ c ∧ Sh j
section
variable {Sh : Nat → Prop} {Shun : Loc → Prop} {N Wg c lc lg nx z B : Nat}
theorem Blocks.evCell (K : Blocks Sh Shun N Wg c lc lg nx z B) {a : Addr} {x : Bool} (h1 : N ≤ a.block) (h2 : a.block ≠ Wg) (h3 : a.block < B) (h4 : Two lc nx a.block → x = false) : EvB Shun (RoT lc nx) B Wg ⟨.cell a, x, false⟩ := by
  refine ⟨fun b hb hm => ?_, by simp, by simp, by simp, ?_⟩
  · have hb' : b.loc = .cell a ∧ b.write = x := by simp [MemAct.ofEvent, MemAct.touch?] at hb; subst hb; exact ⟨rfl, rfl⟩
    rw [hb'.1, hb'.2]
    refine ⟨fun hs => ?_, fun ⟨y, hy, hyb⟩ => ?_, fun hr => ?_⟩
    · obtain ⟨y, hy, _, hl⟩ := K.shun _ hs
      cases hy; omega
    · cases hy; exact h2 hyb
    · rcases hr with ⟨y, hy, hyb⟩ | ⟨r, hr⟩
      · cases hy; exact h4 hyb
      · cases hr
  · simp [MemAct.ofEvent, MemAct.low]; exact h3
theorem Blocks.kept (K : Blocks Sh Shun N Wg c lc lg nx z B) {b : Nat} (h : Two lc nx b ∨ b = Wg ∨ b = c) : b < z := by
  rcases h with (rfl | rfl) | rfl | rfl
  · exact K.lcB
  · exact K.nxB
  · exact K.wgB
  · exact K.cB
theorem Blocks.dead (K : Blocks Sh Shun N Wg c lc lg nx z B) (u : Nat) : Blocks (fun k => Sh k ∨ k = u) Shun N Wg c lc lg nx z B :=
  { K with wg := .inl K.wg, lcS := .inl K.lcS, lgS := .inl K.lgS, nxS := .inl K.nxS, shun := fun l h => let ⟨a, h1, h2, h3⟩ := K.shun l h; ⟨a, h1, .inl h2, h3⟩, cD := let ⟨j, a, b⟩ := K.cD; ⟨j, a, .inl b⟩ }
theorem Blocks.ev1 (K : Blocks Sh Shun N Wg c lc lg nx z B) {b o : Nat} (h : b = lc ∨ b = lg) : EvB Shun (RoT lc nx) B Wg ⟨.cell ⟨b, o, none⟩, false, false⟩ := by
  rcases h with rfl | rfl
  · exact K.evCell K.lcN K.wlc.symm (Nat.lt_of_lt_of_le K.lcB K.zB) fun _ => rfl
  · exact K.evCell K.lgN K.wlg.symm (Nat.lt_of_lt_of_le K.lgB K.zB) fun _ => rfl
theorem Blocks.evOk (K : Blocks Sh Shun N Wg c lc lg nx z B) {e : Event} {n : Nat} (h : EvOk Sh n e) (hn : n ≤ B) : EvB Shun (RoT lc nx) B Wg e := by
  rcases h with ⟨a, x, s, rfl, h2, h3⟩ | ⟨r, x, s, rfl, h2, rfl⟩ | rfl
  · refine ⟨fun b hb hm => ?_, by simp, by simp, by simp, ?_⟩
    · have hb' : b.loc = .cell a ∧ b.write = x := by cases s <;> simp [MemAct.ofEvent, MemAct.touch?] at hb <;> subst hb <;> exact ⟨rfl, rfl⟩
      rw [hb'.1, hb'.2]
      refine ⟨fun hs => ?_, fun ⟨y, hy, hyb⟩ => ?_, fun hr => ?_⟩
      · obtain ⟨y, hy, hd, _⟩ := K.shun _ hs
        cases hy; exact absurd hd h2
      · cases hy; exact absurd (hyb ▸ K.wg) h2
      · rcases hr with ⟨y, hy, hyb⟩ | ⟨r, hr⟩
        · cases hy
          rcases hyb with e | e
          · exact absurd (e ▸ K.lcS) h2
          · exact absurd (e ▸ K.nxS) h2
        · cases hr
    · cases s <;> (simp [MemAct.ofEvent, MemAct.low]; exact Nat.lt_of_lt_of_le h3 hn)
  · refine ⟨fun b hb hm => ?_, by simp, by simp, by simp, ?_⟩
    · have hb' : b.loc = .obj r ∧ b.write = false := by cases s <;> simp [MemAct.ofEvent, MemAct.touch?] at hb <;> subst hb <;> exact ⟨rfl, rfl⟩
      rw [hb'.1, hb'.2]
      refine ⟨fun hs => ?_, fun ⟨y, hy, hyb⟩ => ?_, fun _ => rfl⟩
      · obtain ⟨y, hy, _⟩ := K.shun _ hs
        cases hy
      · cases hy
    · cases s <;> (simp [MemAct.ofEvent, MemAct.low]; exact Nat.lt_of_lt_of_le h2 hn)
  · refine ⟨fun b hb hm => ?_, by simp, by simp, by simp, ?_⟩
    · simp [MemAct.ofEvent, MemAct.touch?] at hb
    · simp [MemAct.ofEvent, MemAct.low]
/-- An operation whose tree yields a value. -/
theorem step_share {P : Program} {main : Bool} {s : Sem Value} {w w' : World} {r : Value} {es : Array Event} (e1 : s.runT P w #[] = (.ok r w', es)) {b : Frame} {a : Act} {ops : Array Oper} {i : Nat} {rest : List Nat} {k : List Item} {cs : List Frame} {o : Oper}
    (ho : ops[i]? = some o) (hw : Region.wanted o (yielded ops a.tmps) = true) (hk : b.kind ≠ .early) (hx : execOp a.eval o = (do pure (Next.value (← s)) : Sem Next)) :
    ∃ fs, stepG P main (G (b.at a (.inRegion ops (i :: rest) :: k)) cs) w = .go (G (b.at (a.put o.dst r) (.inRegion ops rest :: k)) cs) w' fs ∧ ∀ e ∈ fs, e ∈ es := by
  have h1 := run_value (α := Value) e1
  rw [← hx, Sem.runT_eq] at h1
  refine ⟨_, stepG_value ho hw hk (Prod.mk.inj h1).1, fun e he => ?_⟩
  have hm := mem_listed he
  have h2 : (execOp a.eval o).events P w #[] = es := by unfold Sem.events; rw [hx, run_value (α := Value) e1]
  rw [h2] at hm
  exact hm
theorem goes_share {P : Program} {main : Bool} {s : Sem Value} {w w' : World} {r : Value} {es : Array Event} (e1 : s.runT P w #[] = (.ok r w', es)) {b : Frame} {a : Act} {ops : Array Oper} {i : Nat} {rest : List Nat} {k : List Item} {cs : List Frame} {o : Oper} {K : Goroutine → World → Array Event → Prop}
    (ho : ops[i]? = some o) (hw : Region.wanted o (yielded ops a.tmps) = true) (hk : b.kind ≠ .early) (hx : execOp a.eval o = (do pure (Next.value (← s)) : Sem Next))
    (h : ∀ fs, (∀ e ∈ fs, e ∈ es) → K (G (b.at (a.put o.dst r) (.inRegion ops rest :: k)) cs) w' fs) : (stepG P main (G (b.at a (.inRegion ops (i :: rest) :: k)) cs) w).goes K := by
  obtain ⟨fs, h1, h2⟩ := step_share (main := main) (k := k) (cs := cs) (rest := rest) e1 ho hw hk hx
  rw [h1]
  exact h fs h2
theorem db_nil {KA : Nat → Prop} {Ro : Loc → Prop} {w : World} : DB Shun Ro B Wg c KA w w #[] := ⟨rfl, fun _ _ => rfl, by simp⟩
end
/-- The lone run stands there, beside this world. -/
def Beside (S : FuncId → Bool) (Q : Frame → World → Prop) (x0 : Goroutine × World) (l : List Frame) (fr : Frame) (Sh : Nat → Prop) (w : World) : Prop := ∃ v, Co Try.progTables Alt.funcs Try.funcs S Q x0 l fr v Sh w
section
variable {S : FuncId → Bool} {Q : Frame → World → Prop} {x0 : Goroutine × World} {l : List Frame} {fr : Frame} {Sh : Nat → Prop} {Shun : Loc → Prop} {N Wg c lc lg nx z B : Nat} {w w₁ : World}
/-- The group and the channel turn. -/
theorem Beside.rely (K : Blocks Sh Shun N Wg c lc lg nx z B) (h : Beside S Q x0 l fr Sh w) (r : RB link.tWg Wg c w w₁) (hl : WgLive link.tWg Wg w) (hc : ChLive c w) : Beside S Q x0 l fr Sh w₁ := by
  obtain ⟨v, h⟩ := h
  refine ⟨v, h.turn ?_⟩
  have := (h.sim).turn (w' := w₁) r.size (fun k o ho => ?_) r.os r.output r.tape w₁.drawn
  · exact this
  by_cases e1 : k = Wg
  · subst e1
    obtain ⟨st, sm, x⟩ := hl
    obtain ⟨st', sm', x'⟩ := r.live ⟨st, sm, x⟩
    have e2 : w.heap[k]? = some (wgBlock link.tWg st sm) := x
    have e3 : w₁.heap[k]? = some (wgBlock link.tWg st' sm') := x'
    rw [ho] at e2
    cases e2
    exact .inr (.inr ⟨K.wg, _, _, _, rfl, e3⟩)
  by_cases e2 : k = c
  · subst e2
    obtain ⟨a1, a2, a3, a4, a5, a6, x⟩ := hc
    obtain ⟨b1, b2, b3, b4, b5, b6, x'⟩ := r.chan ⟨a1, a2, a3, a4, a5, a6, x⟩
    rw [ho] at x
    cases x
    exact .inr (.inl ⟨rfl, K.cD, _, x', rfl⟩)
  · exact .inl (by rw [r.block k e1 e2, ho])
end
structure BF (S : FuncId → Bool) (Q : Frame → World → Prop) (x0 : Goroutine × World) (l : List Frame) (fr : Frame) (Sh : Nat → Prop) (Wg c lc lg : Nat) (t10 : Value) (z : Nat) (w : World) : Prop where
  co : Beside S Q x0 l fr Sh w
  lcv : w.cell? ⟨lc, 0, none⟩ = some (.chan (some c))
  lgv : w.cell? ⟨lg, 0, none⟩ = some t10
  live : WgLive link.tWg Wg w
  chan : ChLive c w
  size : w.heap.size = z
  lgf : w.frozen? ⟨lg, 0, none⟩ = false
theorem BF.rely {S : FuncId → Bool} {Q : Frame → World → Prop} {x0 : Goroutine × World} {l : List Frame} {fr : Frame} {Sh : Nat → Prop} {Shun : Loc → Prop} {N Wg c lc lg nx z' z B : Nat} {t10 : Value} (K : Blocks Sh Shun N Wg c lc lg nx z' B) {w w₁ : World} (h : BF S Q x0 l fr Sh Wg c lc lg t10 z w) (r : RB link.tWg Wg c w w₁) : BF S Q x0 l fr Sh Wg c lc lg t10 z w₁ :=
  ⟨h.co.rely K r h.live h.chan, (World.cell?_of_block (r.block lc K.wlc.symm K.clc.symm)).trans h.lcv, (World.cell?_of_block (r.block lg K.wlg.symm K.clg.symm)).trans h.lgv, r.live h.live, r.chan h.chan, r.size.trans h.size, by unfold World.frozen?; rw [r.block lg K.wlg.symm K.clg.symm]; exact h.lgf⟩

noncomputable def bodyB : Code := Try.f67.body.getD .skip
def callB (Wg lc lg : Nat) : Deferred := { target := .fn (.func 67) #[.pointer (some ⟨Wg, 0, none⟩), .pointer (some ⟨lc, 0, none⟩), .pointer (some ⟨lg, 0, none⟩)], args := #[] }
theorem born_B (Wg lc lg : Nat) (w : World) : stepG Try.prog false (born Try.prog (callB Wg lc lg)) w =
    .go (G ((baseD 67).at ⟨#[.pointer (some ⟨Wg, 0, none⟩), .pointer (some ⟨lc, 0, none⟩), .pointer (some ⟨lg, 0, none⟩), undef, undef, undef, undef, undef, undef, undef, undef, undef], []⟩ [.code bodyB]) [botT]) w #[] := by
  simp [born, callB, stepG, unwind, callDeferred, invoke, callFunc, Try.func67, Try.f67, seen, GStep.after, G, Frame.enter, Frame.at, baseD, botT, bodyB]

/-- The second worker's work is done. -/
def FinT (S : FuncId → Bool) (Q : Frame → World → Prop) (x0 : Goroutine × World) (l : List Frame) (Sh : Nat → Prop) (Wg c lc lg B : Nat) (p q t5 t6 t7 t10 t11 t12 t15 t16 : Value) (w : World) : Prop :=
  ∃ t9 t13 rx rm rk, BF S Q x0 l (frA (TA p q t5 t6 t7 t9 t10 t11 t12 t13 (.slice rx rm rk) t15 t16) [21]) Sh Wg c lc lg (.slice rx rm rk) B w
theorem quitsB (T : Array Value) : ∃ q, QuitsD Try.prog q 0 (G ({ (baseD 67).at ⟨T, []⟩ [] with mode := .returning }) [botT]) := by
  refine qe_ctl (G botT []) rfl (fun w => ?_) ?_
  · simp [G, stepG, unwind, doReturn, results, Frame.at, baseD, botT, Try.func67, Try.f67, seen, GStep.after, goexitEntry]
  refine qe_ctl { G botT [] with status := .finished } rfl (fun w => ?_) ⟨0, rfl, rfl⟩
  simp [G, stepG, unwind, botT, goexitEntry, Frame.catches]
  rfl
/-- Behind the variable's making. -/
structure BG (S : FuncId → Bool) (Q : Frame → World → Prop) (x0 : Goroutine × World) (l : List Frame) (fr : Frame) (Sh : Nat → Prop) (Wg c lc lg u : Nat) (t10 x y : Value) (z : Nat) (w : World) : Prop where
  bf : BF S Q x0 l fr Sh Wg c lc lg t10 z w
  u0 : w.cell? ⟨u, 0, none⟩ = some x
  u1 : w.cell? ⟨u, 1, none⟩ = some y
  fr0 : w.frozen? ⟨u, 0, none⟩ = false
  fr1 : w.frozen? ⟨u, 1, none⟩ = false
theorem BG.rely {S : FuncId → Bool} {Q : Frame → World → Prop} {x0 : Goroutine × World} {l : List Frame} {fr : Frame} {Sh : Nat → Prop} {Shun : Loc → Prop} {N Wg c lc lg nx z z' B u : Nat} {t10 x y : Value} (K : Blocks Sh Shun N Wg c lc lg nx z' B) (hu : u ≠ Wg ∧ u ≠ c) {w w₁ : World} (h : BG S Q x0 l fr Sh Wg c lc lg u t10 x y z w) (r : RB link.tWg Wg c w w₁) : BG S Q x0 l fr Sh Wg c lc lg u t10 x y z w₁ :=
  have e := r.block u hu.1 hu.2
  ⟨h.bf.rely K r, (World.cell?_of_block e).trans h.u0, (World.cell?_of_block e).trans h.u1, by unfold World.frozen?; rw [e]; exact h.fr0, by unfold World.frozen?; rw [e]; exact h.fr1⟩
theorem cell_there {w : World} {a : Addr} {x : Value} (h : w.cell? a = some x) : ∃ o, w.heap[a.block]? = some o := by
  cases e : w.heap[a.block]? with
  | none => unfold World.cell? at h; rw [e] at h; cases h
  | some o => exact ⟨o, rfl⟩
theorem keep_same {Sh : Nat → Prop} {w w' : World} {b : Nat} (h : Keep Sh w w') (hb : b < w.heap.size) (hs : Sh b) : w'.heap[b]? = w.heap[b]? := by
  have : w.heap[b]? = some w.heap[b] := Array.getElem?_eq_getElem hb
  rw [this]
  exact h _ _ this (.inl hs)
theorem Blocks.same {Sh : Nat → Prop} {Shun : Loc → Prop} {N Wg c lc lg nx z B : Nat} (K : Blocks Sh Shun N Wg c lc lg nx z B) {w w' : World} (h : Keep Sh w w') (hz : z ≤ w.heap.size) (hc : ChLive c w) {b : Nat} (hb : Two lc nx b ∨ b = Wg ∨ b = c) : w'.heap[b]? = w.heap[b]? := by
  have hlt := Nat.lt_of_lt_of_le (K.kept hb) hz
  rcases hb with (rfl | rfl) | rfl | rfl
  · exact keep_same h hlt K.lcS
  · exact keep_same h hlt K.nxS
  · exact keep_same h hlt K.wg
  · obtain ⟨a1, a2, a3, a4, a5, a6, hx⟩ := hc
    rw [hx]
    exact h _ _ hx (.inr rfl)
theorem BG.share {S : FuncId → Bool} {Q : Frame → World → Prop} {x0 : Goroutine × World} {l : List Frame} {fr fr' : Frame} {Sh : Nat → Prop} {Shun : Loc → Prop} {N Wg c lc lg nx z z' B u k : Nat} {t10 x y : Value} (K : Blocks Sh Shun N Wg c lc lg nx z' B) (hu : Sh u) {w w' : World} (h : BG S Q x0 l fr Sh Wg c lc lg u t10 x y z w)
    (hk : Keep Sh w w') (hz : z' ≤ w.heap.size) (hco : Beside S Q x0 l fr' Sh w') (hs : w'.heap.size = w.heap.size + k) : BG S Q x0 l fr' Sh Wg c lc lg u t10 x y (z + k) w' := by
  have e1 := K.same hk hz h.bf.chan (b := lc) (.inl (.inl rfl))
  have e2 := K.same hk hz h.bf.chan (b := Wg) (.inr (.inl rfl))
  have e3 := K.same hk hz h.bf.chan (b := c) (.inr (.inr rfl))
  have e4 : w'.heap[lg]? = w.heap[lg]? := by
    obtain ⟨o, ho⟩ := cell_there h.bf.lgv
    rw [show w.heap[lg]? = some o from ho]
    exact hk _ _ ho (.inl K.lgS)
  have e5 : w'.heap[u]? = w.heap[u]? := by
    obtain ⟨o, ho⟩ := cell_there h.u0
    rw [show w.heap[u]? = some o from ho]
    exact hk _ _ ho (.inl hu)
  refine ⟨⟨hco, (World.cell?_of_block e1).trans h.bf.lcv, (World.cell?_of_block e4).trans h.bf.lgv, ?_, ?_, by rw [hs, h.bf.size], by unfold World.frozen?; rw [e4]; exact h.bf.lgf⟩, (World.cell?_of_block e5).trans h.u0, (World.cell?_of_block e5).trans h.u1, by unfold World.frozen?; rw [e5]; exact h.fr0, by unfold World.frozen?; rw [e5]; exact h.fr1⟩
  · obtain ⟨st, sm, hx⟩ := h.bf.live
    exact ⟨st, sm, hx.of_block e2⟩
  · obtain ⟨a1, a2, a3, a4, a5, a6, hx⟩ := h.bf.chan
    exact ⟨a1, a2, a3, a4, a5, a6, e3.trans hx⟩
theorem block_setCell {w : World} {a : Addr} {x : Value} {b : Nat} (h : a.block ≠ b) : (w.setCell a x).heap[b]? = w.heap[b]? := by
  rw [setCell_put]
  show (w.heap.modify a.block (putAt a x))[b]? = _
  rw [Array.getElem?_modify, if_neg h]
theorem cell_new {w : World} {c : Array Value} {e : TypeId} {z i : Nat} {x : Value} (hz : w.heap.size = z) (h : c[i]? = some x) : (w.alloc (.cells c e)).cell? ⟨z, i, none⟩ = some x := by
  subst hz
  show ({ w with heap := w.heap.push (.cells c e) } : World).cell? _ = _
  simp [World.cell?, h]
theorem frozen_new {w : World} {c : Array Value} {e : TypeId} {z i : Nat} (hz : w.heap.size = z) : (w.alloc (.cells c e)).frozen? ⟨z, i, none⟩ = false := by
  subst hz
  show ({ w with heap := w.heap.push (.cells c e) } : World).frozen? _ = _
  simp [World.frozen?]
theorem size_alloc (w : World) (o : Obj) : (w.alloc o).heap.size = w.heap.size + 1 := by unfold World.alloc; simp only [Array.size_push]
theorem block_alloc {w : World} {o : Obj} {b : Nat} (h : b < w.heap.size) : (w.alloc o).heap[b]? = w.heap[b]? := by
  simp only [World.alloc, Array.getElem?_push]
  rw [if_neg (by omega)]
set_option maxRecDepth 100000 in
set_option maxHeartbeats 2000000 in
theorem walkB {S : FuncId → Bool} {Q : Frame → World → Prop} {x0 : Goroutine × World} {l : List Frame} {Sh : Nat → Prop} {Shun : Loc → Prop} {N Wg c lc lg nx z B n : Nat} {b10 : Option Addr} {x y p q t5 t6 t7 t9 t11 t15 t16 : Value} (hx : ∃ k i, x = .int k i) (hy : ∃ k i, y = .int k i) (Bk : Blocks Sh Shun N Wg c lc lg nx z B) (hB : z + 3 = B) (L' : Late ⟨Try.progTables, Alt.funcs⟩) (Bd : Bodies Try.progTables Alt.funcs Try.funcs S) (w : World)
    (hF : BF S Q x0 l (frA (TA p q t5 t6 t7 t9 (.slice b10 n n) t11 (.agg #[x, y]) undef undef t15 t16) [18, 19, 20, 21]) Sh Wg c lc lg (.slice b10 n n) z w) :
    ∃ m, Goes Try.prog false (RB link.tWg Wg c) (DB Shun (RoT lc nx) B Wg c (Two lc nx)) (AtRecv1 Try.prog link.tWg Wg c (Two lc nx) Shun (RoT lc nx) B (.agg #[x, y]) (FinT S Q x0 l (fun k => Sh k ∨ k = z) Wg c lc lg B p q t5 t6 t7 (.slice b10 n n) t11 (.agg #[x, y]) t15 t16)) m (born Try.prog (callB Wg lc lg)) w := by
  obtain ⟨kx, ix, rfl⟩ := hx
  obtain ⟨ky, iy, rfl⟩ := hy
  refine ⟨60, Goes.step rfl fun w₁ r₁ => ?_⟩
  rw [born_B]
  refine ⟨db_nil, ?_⟩
  replace hF := BF.rely Bk hF r₁
  clear r₁
  simp only [bodyB, Try.f67, Option.getD_some]
  repeat (first | (refine Goes.step rfl (fun _ h₁ => ?_); replace hF := (BF.rely Bk) hF h₁; clear h₁; rw [stepG_seq]; simp only [goes_go]; refine ⟨db_nil, ?_⟩) | (refine Goes.step rfl (fun _ h₁ => ?_); replace hF := (BF.rely Bk) hF h₁; clear h₁; rw [stepG_region_end]; simp only [goes_go]; refine ⟨db_nil, ?_⟩) | (refine Goes.step rfl (fun _ h₁ => ?_); replace hF := (BF.rely Bk) hF h₁; clear h₁; rw [stepG_skip]; simp only [goes_go]; refine ⟨db_nil, ?_⟩) | (refine Goes.step rfl (fun _ h₁ => ?_); replace hF := (BF.rely Bk) hF h₁; clear h₁; rw [stepG_ret']; simp only [goes_go]; refine ⟨db_nil, ?_⟩) | (refine Goes.step rfl (fun _ h₁ => ?_); replace hF := (BF.rely Bk) hF h₁; clear h₁; rw [stepG_block]; simp only [goes_go]; refine ⟨db_nil, ?_⟩) | (refine Goes.step rfl (fun _ h₁ => ?_); replace hF := (BF.rely Bk) hF h₁; clear h₁; rw [stepG_loop]; simp only [goes_go]; refine ⟨db_nil, ?_⟩) | (refine Goes.step rfl (fun _ h₁ => ?_); replace hF := (BF.rely Bk) hF h₁; clear h₁; rw [stepG_inLoop]; simp only [goes_go]; refine ⟨db_nil, ?_⟩) | (refine Goes.step rfl (fun _ h₁ => ?_); replace hF := (BF.rely Bk) hF h₁; clear h₁; rw [stepG_inBlock]; simp only [goes_go]; refine ⟨db_nil, ?_⟩) | (refine Goes.step rfl (fun _ h₁ => ?_); replace hF := (BF.rely Bk) hF h₁; clear h₁; rw [stepG_end]; simp only [goes_go]; refine ⟨db_nil, ?_⟩) | (refine Goes.step rfl (fun _ h₁ => ?_); replace hF := (BF.rely Bk) hF h₁; clear h₁; rw [stepG_region]; simp only [goes_go, List.size_toArray, List.length_cons, List.length_nil, Nat.reduceAdd, Nat.zero_add, List.range, List.range.loop]; refine ⟨db_nil, ?_⟩) | (refine Goes.step rfl (fun _ h₁ => ?_); replace hF := (BF.rely Bk) hF h₁; clear h₁; rw [stepG_cond (t := true) rfl]; simp only [goes_go, if_true, if_false, Bool.false_eq_true, ↓reduceIte]; refine ⟨db_nil, ?_⟩) | (refine Goes.step rfl (fun _ h₁ => ?_); replace hF := (BF.rely Bk) hF h₁; clear h₁; rw [stepG_cond (t := false) rfl]; simp only [goes_go, if_true, if_false, Bool.false_eq_true, ↓reduceIte]; refine ⟨db_nil, ?_⟩) | ((with_reducible show Goes _ _ _ _ _ _ (G (Frame.at _ _ (Item.inRegion _ (_ :: _) :: _)) _) _); first | (refine Goes.step rfl (fun _ h₁ => ?_); replace hF := (BF.rely Bk) hF h₁; clear h₁; rw [stepG_defer rfl rfl (by k_ne) rfl]; simp only [goes_go]; refine ⟨db_nil, ?_⟩; walk_nrm) | (refine Goes.step rfl (fun _ h₁ => ?_); replace hF := (BF.rely Bk) hF h₁; clear h₁; refine goes_oper_k rfl rfl (by k_ne) (fun K hK => ?_); have fx0 := hF.lcv; have fx1 := hF.lgv; go_simp; refine hK _ _ ⟨⟨rfl, fun _ _ => rfl, fun e he => by have hm := mem_listed he; simp [go_sem, *] at hm; try (first | (subst hm; exact Bk.ev1 (by simp)) | (rcases hm with rfl | rfl <;> exact Bk.ev1 (by simp)))⟩, ?_⟩; clear hK K fx0 fx1; try w_num)))
  refine Goes.stop (fun w₂ h₂ => ?_)
  replace hF := BF.rely Bk hF h₂
  clear h₂
  refine ⟨rfl, rfl, .agg #[.int .i64 0, .int .i64 0], ?_, 200, ?_⟩
  · rw [stepG_comm (cases := #[rcase c (.agg #[.int .i64 0, .int .i64 0])]) (blocking := true) (shape := .recv true) (w' := w₂) rfl rfl (by decide) (by go_simp; simp [rcase])]
    refine congrArg _ ?_
    unfold listed
    simp [go_sem, seen]
  rw [served_G]
  simp only [recvd, if_true, ↓reduceIte]
  walk_nrm
  repeat (first | (refine Goes.step rfl (fun _ h₁ => ?_); replace hF := (BF.rely Bk) hF h₁; clear h₁; rw [stepG_seq]; simp only [goes_go]; refine ⟨db_nil, ?_⟩) | (refine Goes.step rfl (fun _ h₁ => ?_); replace hF := (BF.rely Bk) hF h₁; clear h₁; rw [stepG_region_end]; simp only [goes_go]; refine ⟨db_nil, ?_⟩) | (refine Goes.step rfl (fun _ h₁ => ?_); replace hF := (BF.rely Bk) hF h₁; clear h₁; rw [stepG_skip]; simp only [goes_go]; refine ⟨db_nil, ?_⟩) | (refine Goes.step rfl (fun _ h₁ => ?_); replace hF := (BF.rely Bk) hF h₁; clear h₁; rw [stepG_ret']; simp only [goes_go]; refine ⟨db_nil, ?_⟩) | (refine Goes.step rfl (fun _ h₁ => ?_); replace hF := (BF.rely Bk) hF h₁; clear h₁; rw [stepG_block]; simp only [goes_go]; refine ⟨db_nil, ?_⟩) | (refine Goes.step rfl (fun _ h₁ => ?_); replace hF := (BF.rely Bk) hF h₁; clear h₁; rw [stepG_loop]; simp only [goes_go]; refine ⟨db_nil, ?_⟩) | (refine Goes.step rfl (fun _ h₁ => ?_); replace hF := (BF.rely Bk) hF h₁; clear h₁; rw [stepG_inLoop]; simp only [goes_go]; refine ⟨db_nil, ?_⟩) | (refine Goes.step rfl (fun _ h₁ => ?_); replace hF := (BF.rely Bk) hF h₁; clear h₁; rw [stepG_inBlock]; simp only [goes_go]; refine ⟨db_nil, ?_⟩) | (refine Goes.step rfl (fun _ h₁ => ?_); replace hF := (BF.rely Bk) hF h₁; clear h₁; rw [stepG_end]; simp only [goes_go]; refine ⟨db_nil, ?_⟩) | (refine Goes.step rfl (fun _ h₁ => ?_); replace hF := (BF.rely Bk) hF h₁; clear h₁; rw [stepG_region]; simp only [goes_go, List.size_toArray, List.length_cons, List.length_nil, Nat.reduceAdd, Nat.zero_add, List.range, List.range.loop]; refine ⟨db_nil, ?_⟩) | (refine Goes.step rfl (fun _ h₁ => ?_); replace hF := (BF.rely Bk) hF h₁; clear h₁; rw [stepG_cond (t := true) rfl]; simp only [goes_go, if_true, if_false, Bool.false_eq_true, ↓reduceIte]; refine ⟨db_nil, ?_⟩) | (refine Goes.step rfl (fun _ h₁ => ?_); replace hF := (BF.rely Bk) hF h₁; clear h₁; rw [stepG_cond (t := false) rfl]; simp only [goes_go, if_true, if_false, Bool.false_eq_true, ↓reduceIte]; refine ⟨db_nil, ?_⟩) | ((with_reducible show Goes _ _ _ _ _ _ (G (Frame.at _ _ (Item.inRegion _ (_ :: _) :: _)) _) _); first | (refine Goes.step rfl (fun _ h₁ => ?_); replace hF := (BF.rely Bk) hF h₁; clear h₁; rw [stepG_defer rfl rfl (by k_ne) rfl]; simp only [goes_go]; refine ⟨db_nil, ?_⟩; walk_nrm) | (refine Goes.step rfl (fun _ h₁ => ?_); replace hF := (BF.rely Bk) hF h₁; clear h₁; refine goes_oper_k rfl rfl (by k_ne) (fun K hK => ?_); have fx0 := hF.lcv; have fx1 := hF.lgv; go_simp; refine hK _ _ ⟨⟨rfl, fun _ _ => rfl, fun e he => by have hm := mem_listed he; simp [go_sem, *] at hm; try (first | (subst hm; exact Bk.ev1 (by simp)) | (rcases hm with rfl | rfl <;> exact Bk.ev1 (by simp)))⟩, ?_⟩; clear hK K fx0 fx1; try w_num)))
  refine Goes.step rfl (fun w₃ h₃ => ?_)
  replace hF := BF.rely Bk hF h₃
  clear h₃
  refine goes_oper_k rfl rfl (by k_ne) (fun K hK => ?_)
  go_simp
  have hz := hF.size
  refine hK _ _ ⟨⟨rfl, fun b hb => block_alloc (by rw [hz]; exact Bk.kept hb), fun e he => by have hm := mem_listed he; simp [go_sem, *] at hm⟩, ?_⟩
  clear hK K
  -- the lone run makes an empty row
  obtain ⟨v, hco⟩ := hF.co
  obtain ⟨v', hco', hv'⟩ := hco.box (o := Alt.op 9 (.box 39 (.const (.agg #[]))) 0) (c := #[.int .i64 0, .int .i64 0]) (t := 39) rfl rfl (by decide) rfl rfl
  rw [hz] at hco'
  have hF' : BF S Q x0 l (frA (TA p q t5 t6 t7 (.pointer (some ⟨z, 0, none⟩)) (.slice b10 n n) t11 (.agg #[.int kx ix, .int ky iy]) undef undef t15 t16) [19, 20, 21]) (fun k => Sh k ∨ k = z) Wg c lc lg (.slice b10 n n) (z + 1) (w₃.alloc (Obj.cells #[Value.int IntKind.i64 0, Value.int IntKind.i64 0] 39)) := by
    refine ⟨⟨v', hco'⟩, ?_, ?_, ?_, ?_, by rw [size_alloc, hz], by unfold World.frozen?; rw [block_alloc (by rw [hz]; exact Bk.lgB)]; exact hF.lgf⟩
    · exact (World.cell?_of_block (block_alloc (by rw [hz]; exact Bk.lcB))).trans hF.lcv
    · exact (World.cell?_of_block (block_alloc (by rw [hz]; exact Bk.lgB))).trans hF.lgv
    · obtain ⟨st, sm, hx⟩ := hF.live
      exact ⟨st, sm, hx.of_block (block_alloc (by rw [hz]; exact Bk.wgB))⟩
    · obtain ⟨a1, a2, a3, a4, a5, a6, hx⟩ := hF.chan
      exact ⟨a1, a2, a3, a4, a5, a6, (block_alloc (by rw [hz]; exact Bk.cB)).trans hx⟩
  have hG : BG S Q x0 l (frA (TA p q t5 t6 t7 (.pointer (some ⟨z, 0, none⟩)) (.slice b10 n n) t11 (.agg #[.int kx ix, .int ky iy]) undef undef t15 t16) [19, 20, 21]) (fun k => Sh k ∨ k = z) Wg c lc lg z (.slice b10 n n) (.int .i64 0) (.int .i64 0) (z + 1) (w₃.alloc (Obj.cells #[Value.int IntKind.i64 0, Value.int IntKind.i64 0] 39)) := by
    exact ⟨hF', cell_new hz rfl, cell_new hz rfl, frozen_new hz, frozen_new hz⟩
  simp only [hz]
  clear hF hF' hco hco' hv' hz
  have Bz := Bk.dead z
  have hzu : z ≠ Wg ∧ z ≠ c := ⟨fun e => Nat.lt_irrefl _ (e ▸ Bk.wgB), fun e => Nat.lt_irrefl _ (e ▸ Bk.cB)⟩
  refine Goes.step rfl (fun w₄ h₄ => ?_)
  replace hG := BG.rely Bz hzu hG h₄
  clear h₄
  refine goes_oper_k rfl rfl (by k_ne) (fun K hK => ?_)
  have f0 := hG.u0
  have f1 := hG.u1
  have f2 := hG.fr0
  have f3 := hG.fr1
  go_simp
  refine hK _ _ ⟨⟨rfl, fun b hb => ?_, fun e he => ?_⟩, ?_⟩
  · have := Bk.kept hb
    rw [block_setCell (by show z ≠ b; omega), block_setCell (by show z ≠ b; omega)]
  · have hm := mem_listed he
    simp [go_sem, *] at hm
    rcases hm with rfl | rfl <;> exact Bz.evCell (by show N ≤ z; have := Bk.cN; have := Bk.cB; omega) hzu.1 (by show z < B; omega) (fun h => by exfalso; have := Bk.kept (.inl h); exact Nat.lt_irrefl z this)
  clear hK K f0 f1 f2 f3
  have hG2 : BG S Q x0 l (frA (TA p q t5 t6 t7 (.pointer (some ⟨z, 0, none⟩)) (.slice b10 n n) t11 (.agg #[.int kx ix, .int ky iy]) undef undef t15 t16) [19, 20, 21]) (fun k => Sh k ∨ k = z) Wg c lc lg z (.slice b10 n n) (.int kx ix) (.int ky iy) (z + 1) ((w₄.setCell ⟨z, 0, none⟩ (.int kx ix)).setCell ⟨z, 1, none⟩ (.int ky iy)) := by
    have g1 : ∀ b, b ≠ z → ((w₄.setCell ⟨z, 0, none⟩ (.int kx ix)).setCell ⟨z, 1, none⟩ (.int ky iy)).heap[b]? = w₄.heap[b]? := fun b hb => by
      rw [block_setCell (by show z ≠ b; exact fun e => hb e.symm), block_setCell (by show z ≠ b; exact fun e => hb e.symm)]
    have f0 := hG.u0
    have f1 := hG.u1
    have f2 := hG.fr0
    have f3 := hG.fr1
    refine ⟨⟨?_, ?_, ?_, ?_, ?_, ?_, by unfold World.frozen?; rw [g1 lg (fun e => Nat.lt_irrefl z (e ▸ Bk.lgB))]; exact hG.bf.lgf⟩, ?_, ?_, ?_, ?_⟩
    · obtain ⟨v, hv⟩ := hG.bf.co
      exact ⟨v, hv.turn ((hv.sim.deadCell (.inr rfl) _).deadCell (.inr rfl) _)⟩
    · exact (World.cell?_of_block (g1 lc (fun e => Nat.lt_irrefl z (e ▸ Bk.lcB)))).trans hG.bf.lcv
    · exact (World.cell?_of_block (g1 lg (fun e => Nat.lt_irrefl z (e ▸ Bk.lgB)))).trans hG.bf.lgv
    · obtain ⟨st, sm, hx⟩ := hG.bf.live
      exact ⟨st, sm, hx.of_block (g1 Wg hzu.1.symm)⟩
    · obtain ⟨a1, a2, a3, a4, a5, a6, hx⟩ := hG.bf.chan
      exact ⟨a1, a2, a3, a4, a5, a6, (g1 c hzu.2.symm).trans hx⟩
    · have := hG.bf.size
      simpa using this
    · simp [go_sem, *]
    · simp [go_sem, *]
    · simp [go_sem, *]
    · simp [go_sem, *]
  clear hG
  have hevu : ∀ o, EvB Shun (RoT lc nx) B Wg ⟨.cell ⟨z, o, none⟩, false, false⟩ := fun o => Bz.evCell (by show N ≤ z; have := Bk.cN; have := Bk.cB; omega) hzu.1 (by show z < B; omega) (fun _ => rfl)
  repeat (first | (refine Goes.step rfl (fun _ h₁ => ?_); replace hG2 := (BG.rely Bz hzu) hG2 h₁; clear h₁; rw [stepG_seq]; simp only [goes_go]; refine ⟨db_nil, ?_⟩) | (refine Goes.step rfl (fun _ h₁ => ?_); replace hG2 := (BG.rely Bz hzu) hG2 h₁; clear h₁; rw [stepG_region_end]; simp only [goes_go]; refine ⟨db_nil, ?_⟩) | (refine Goes.step rfl (fun _ h₁ => ?_); replace hG2 := (BG.rely Bz hzu) hG2 h₁; clear h₁; rw [stepG_skip]; simp only [goes_go]; refine ⟨db_nil, ?_⟩) | (refine Goes.step rfl (fun _ h₁ => ?_); replace hG2 := (BG.rely Bz hzu) hG2 h₁; clear h₁; rw [stepG_ret']; simp only [goes_go]; refine ⟨db_nil, ?_⟩) | (refine Goes.step rfl (fun _ h₁ => ?_); replace hG2 := (BG.rely Bz hzu) hG2 h₁; clear h₁; rw [stepG_block]; simp only [goes_go]; refine ⟨db_nil, ?_⟩) | (refine Goes.step rfl (fun _ h₁ => ?_); replace hG2 := (BG.rely Bz hzu) hG2 h₁; clear h₁; rw [stepG_loop]; simp only [goes_go]; refine ⟨db_nil, ?_⟩) | (refine Goes.step rfl (fun _ h₁ => ?_); replace hG2 := (BG.rely Bz hzu) hG2 h₁; clear h₁; rw [stepG_inLoop]; simp only [goes_go]; refine ⟨db_nil, ?_⟩) | (refine Goes.step rfl (fun _ h₁ => ?_); replace hG2 := (BG.rely Bz hzu) hG2 h₁; clear h₁; rw [stepG_inBlock]; simp only [goes_go]; refine ⟨db_nil, ?_⟩) | (refine Goes.step rfl (fun _ h₁ => ?_); replace hG2 := (BG.rely Bz hzu) hG2 h₁; clear h₁; rw [stepG_end]; simp only [goes_go]; refine ⟨db_nil, ?_⟩) | (refine Goes.step rfl (fun _ h₁ => ?_); replace hG2 := (BG.rely Bz hzu) hG2 h₁; clear h₁; rw [stepG_region]; simp only [goes_go, List.size_toArray, List.length_cons, List.length_nil, Nat.reduceAdd, Nat.zero_add, List.range, List.range.loop]; refine ⟨db_nil, ?_⟩) | (refine Goes.step rfl (fun _ h₁ => ?_); replace hG2 := (BG.rely Bz hzu) hG2 h₁; clear h₁; rw [stepG_cond (t := true) rfl]; simp only [goes_go, if_true, if_false, Bool.false_eq_true, ↓reduceIte]; refine ⟨db_nil, ?_⟩) | (refine Goes.step rfl (fun _ h₁ => ?_); replace hG2 := (BG.rely Bz hzu) hG2 h₁; clear h₁; rw [stepG_cond (t := false) rfl]; simp only [goes_go, if_true, if_false, Bool.false_eq_true, ↓reduceIte]; refine ⟨db_nil, ?_⟩) | ((with_reducible show Goes _ _ _ _ _ _ (G (Frame.at _ _ (Item.inRegion _ (_ :: _) :: _)) _) _); first | (refine Goes.step rfl (fun _ h₁ => ?_); replace hG2 := (BG.rely Bz hzu) hG2 h₁; clear h₁; rw [stepG_defer rfl rfl (by k_ne) rfl]; simp only [goes_go]; refine ⟨db_nil, ?_⟩; walk_nrm) | (refine Goes.step rfl (fun _ h₁ => ?_); replace hG2 := (BG.rely Bz hzu) hG2 h₁; clear h₁; refine goes_oper_k rfl rfl (by k_ne) (fun K hK => ?_); have fx0 := hG2.bf.lgv; have fx1 := hG2.u0; have fx2 := hG2.u1; go_simp; refine hK _ _ ⟨⟨rfl, fun _ _ => rfl, fun e he => by have hm := mem_listed he; simp [go_sem, *] at hm; try (first | (subst hm; exact Bz.ev1 (by simp)) | (rcases hm with rfl | rfl <;> exact hevu _))⟩, ?_⟩; clear hK K fx0 fx1 fx2; try w_num)))
  refine Goes.step rfl (fun w₅ h₅ => ?_)
  replace hG2 := BG.rely Bz hzu hG2 h₅
  clear h₅
  obtain ⟨v5, hv5⟩ := hG2.bf.co
  obtain ⟨r5, w5, v5', es5, q1, q2, q3, q4, qt5, q5, q6⟩ := hv5.share L' Bd (o := Alt.op 13 (.buildSlice 34 1 #[(0, .tmp 12)]) 34) (s := Instr.buildSlice 34 1 #[(0, .agg #[.int kx ix, .int ky iy])]) rfl rfl (by simp [execOp, Alt.op, TA, Act.eval]) (tm_buildSlice _ _ _)
  refine goes_share q1 rfl rfl (by k_ne) (by simp [execOp, Act.eval]) (fun fs hfs => ⟨⟨qt5, fun b hb => Bz.same q3 (by rw [hG2.bf.size]; omega) hG2.bf.chan hb, fun e he => Bz.evOk (q2 e (hfs e he)) (by rw [mk_buildSlice _ _ _ _ _ _ _ _ _ q1, hG2.bf.size]; omega)⟩, ?_⟩)
  have hG3 := hG2.share Bz (.inr rfl) q3 (by rw [hG2.bf.size]; omega) ⟨_, q6⟩ (mk_buildSlice _ _ _ _ _ _ _ _ _ q1)
  clear hG2 hv5 q2 q3 q4 qt5 q5 hfs
  obtain ⟨rw5, rfl⟩ := outs_buildSlice _ _ _ _ _ _ _ _ _ q1
  clear q1
  walk_nrm
  refine Goes.step rfl (fun w₆ h₆ => ?_)
  replace hG3 := BG.rely Bz hzu hG3 h₆
  clear h₆
  obtain ⟨v6, hv6⟩ := hG3.bf.co
  obtain ⟨r6, w6, v6', es6, q1, q2, q3, q4, qt6, q5, q6⟩ := hv6.share L' Bd (o := Alt.op 14 (.call { callee := .builtin .append, args := #[.tmp 10, .tmp 13], argTypes := #[34, 34] }) 34) (s := Builtin.append_ #[34, 34] 34 #[.slice b10 n n, .slice rw5 1 1]) rfl rfl (by simp [execOp, Alt.op, TA, Act.eval, Act.put, resolve, invoke]; rfl) (tm_append _ _ _)
  refine goes_share q1 rfl rfl (by k_ne) (by simp [execOp, Act.eval, resolve, invoke]; rfl) (fun fs hfs => ⟨⟨qt6, fun b hb => Bz.same q3 (by rw [hG3.bf.size]; omega) hG3.bf.chan hb, fun e he => Bz.evOk (q2 e (hfs e he)) (by rw [mk_append _ _ _ _ _ _ _ _ _ _ _ _ q1, hG3.bf.size]; omega)⟩, ?_⟩)
  have hG4 := hG3.share Bz (.inr rfl) q3 (by rw [hG3.bf.size]; omega) ⟨_, q6⟩ (mk_append _ _ _ _ _ _ _ _ _ _ _ _ q1)
  obtain ⟨rx, rm, rk, rfl⟩ := outs_append _ _ _ _ _ _ _ _ _ _ _ _ q1
  clear hG3 hv6 q1 q2 q3 q4 qt6 q5 hfs
  walk_nrm
  refine Goes.step rfl (fun w₇ h₇ => ?_)
  replace hG4 := BG.rely Bz hzu hG4 h₇
  clear h₇
  refine goes_oper_k rfl rfl (by k_ne) (fun K hK => ?_)
  have f0 := hG4.bf.lgv
  have f1 := hG4.bf.lgf
  go_simp
  refine hK _ _ ⟨⟨rfl, fun b hb => ?_, fun e he => ?_⟩, ?_⟩
  · refine block_setCell ?_
    show lg ≠ b
    rcases hb with (rfl | rfl) | rfl | rfl
    · exact Bk.lclg.symm
    · exact Bk.nxlg.symm
    · exact Bk.wlg.symm
    · exact Bk.clg.symm
  · have hm := mem_listed he
    simp [go_sem, *] at hm
    first
      | subst hm; exact Bz.evCell Bk.lgN Bk.wlg.symm (Nat.lt_of_lt_of_le Bk.lgB Bk.zB) (fun h => (h.elim (fun e => Bk.lclg e.symm) (fun e => Bk.nxlg e.symm)).elim)
      | (rcases hm with rfl | rfl <;> exact Bz.evCell Bk.lgN Bk.wlg.symm (Nat.lt_of_lt_of_le Bk.lgB Bk.zB) (fun h => (h.elim (fun e => Bk.lclg e.symm) (fun e => Bk.nxlg e.symm)).elim))
  clear hK K f0 f1
  have hG5 : BG S Q x0 l (frA (TA p q t5 t6 t7 (.pointer (some ⟨z, 0, none⟩)) (.slice b10 n n) t11 (.agg #[.int kx ix, .int ky iy]) (.slice rw5 1 1) (.slice rx rm rk) t15 t16) [21]) (fun k => Sh k ∨ k = z) Wg c lc lg z (.slice rx rm rk) (.int kx ix) (.int ky iy) (z + 1 + 1 + 1) (w₇.setCell ⟨lg, 0, none⟩ (.slice rx rm rk)) := by
    have g1 : ∀ b, b ≠ lg → (w₇.setCell ⟨lg, 0, none⟩ (.slice rx rm rk)).heap[b]? = w₇.heap[b]? := fun b hb => block_setCell (by show lg ≠ b; exact fun e => hb e.symm)
    have f0 := hG4.bf.lgv
    have f1 := hG4.bf.lgf
    have hzl : z ≠ lg := fun e => Nat.lt_irrefl z (e ▸ Bk.lgB)
    refine ⟨⟨?_, ?_, ?_, ?_, ?_, ?_, ?_⟩, ?_, ?_, ?_, ?_⟩
    · obtain ⟨v, hv⟩ := hG4.bf.co
      exact ⟨v, hv.turn (hv.sim.deadCell (.inl Bk.lgS) _)⟩
    · exact (World.cell?_of_block (g1 lc Bk.lclg)).trans hG4.bf.lcv
    · simp [go_sem, *]
    · obtain ⟨st, sm, hx⟩ := hG4.bf.live
      exact ⟨st, sm, hx.of_block (g1 Wg Bk.wlg)⟩
    · obtain ⟨a1, a2, a3, a4, a5, a6, hx⟩ := hG4.bf.chan
      exact ⟨a1, a2, a3, a4, a5, a6, (g1 c Bk.clg).trans hx⟩
    · have := hG4.bf.size
      simpa using this
    · simp [go_sem, *]
    · exact (World.cell?_of_block (g1 z hzl)).trans hG4.u0
    · exact (World.cell?_of_block (g1 z hzl)).trans hG4.u1
    · unfold World.frozen?; rw [g1 z hzl]; exact hG4.fr0
    · unfold World.frozen?; rw [g1 z hzl]; exact hG4.fr1
  clear hG4
  repeat (first | (refine Goes.step rfl (fun _ h₁ => ?_); replace hG5 := (BG.rely Bz hzu) hG5 h₁; clear h₁; rw [stepG_seq]; simp only [goes_go]; refine ⟨db_nil, ?_⟩) | (refine Goes.step rfl (fun _ h₁ => ?_); replace hG5 := (BG.rely Bz hzu) hG5 h₁; clear h₁; rw [stepG_region_end]; simp only [goes_go]; refine ⟨db_nil, ?_⟩) | (refine Goes.step rfl (fun _ h₁ => ?_); replace hG5 := (BG.rely Bz hzu) hG5 h₁; clear h₁; rw [stepG_skip]; simp only [goes_go]; refine ⟨db_nil, ?_⟩) | (refine Goes.step rfl (fun _ h₁ => ?_); replace hG5 := (BG.rely Bz hzu) hG5 h₁; clear h₁; rw [stepG_ret']; simp only [goes_go]; refine ⟨db_nil, ?_⟩) | (refine Goes.step rfl (fun _ h₁ => ?_); replace hG5 := (BG.rely Bz hzu) hG5 h₁; clear h₁; rw [stepG_block]; simp only [goes_go]; refine ⟨db_nil, ?_⟩) | (refine Goes.step rfl (fun _ h₁ => ?_); replace hG5 := (BG.rely Bz hzu) hG5 h₁; clear h₁; rw [stepG_loop]; simp only [goes_go]; refine ⟨db_nil, ?_⟩) | (refine Goes.step rfl (fun _ h₁ => ?_); replace hG5 := (BG.rely Bz hzu) hG5 h₁; clear h₁; rw [stepG_inLoop]; simp only [goes_go]; refine ⟨db_nil, ?_⟩) | (refine Goes.step rfl (fun _ h₁ => ?_); replace hG5 := (BG.rely Bz hzu) hG5 h₁; clear h₁; rw [stepG_inBlock]; simp only [goes_go]; refine ⟨db_nil, ?_⟩) | (refine Goes.step rfl (fun _ h₁ => ?_); replace hG5 := (BG.rely Bz hzu) hG5 h₁; clear h₁; rw [stepG_end]; simp only [goes_go]; refine ⟨db_nil, ?_⟩) | (refine Goes.step rfl (fun _ h₁ => ?_); replace hG5 := (BG.rely Bz hzu) hG5 h₁; clear h₁; rw [stepG_region]; simp only [goes_go, List.size_toArray, List.length_cons, List.length_nil, Nat.reduceAdd, Nat.zero_add, List.range, List.range.loop]; refine ⟨db_nil, ?_⟩) | (refine Goes.step rfl (fun _ h₁ => ?_); replace hG5 := (BG.rely Bz hzu) hG5 h₁; clear h₁; rw [stepG_cond (t := true) rfl]; simp only [goes_go, if_true, if_false, Bool.false_eq_true, ↓reduceIte]; refine ⟨db_nil, ?_⟩) | (refine Goes.step rfl (fun _ h₁ => ?_); replace hG5 := (BG.rely Bz hzu) hG5 h₁; clear h₁; rw [stepG_cond (t := false) rfl]; simp only [goes_go, if_true, if_false, Bool.false_eq_true, ↓reduceIte]; refine ⟨db_nil, ?_⟩) | ((with_reducible show Goes _ _ _ _ _ _ (G (Frame.at _ _ (Item.inRegion _ (_ :: _) :: _)) _) _); first | (refine Goes.step rfl (fun _ h₁ => ?_); replace hG5 := (BG.rely Bz hzu) hG5 h₁; clear h₁; rw [stepG_defer rfl rfl (by k_ne) rfl]; simp only [goes_go]; refine ⟨db_nil, ?_⟩; walk_nrm) | (refine Goes.step rfl (fun _ h₁ => ?_); replace hG5 := (BG.rely Bz hzu) hG5 h₁; clear h₁; refine goes_oper_k rfl rfl (by k_ne) (fun K hK => ?_); have fx0 := hG5.bf.lgv; go_simp; refine hK _ _ ⟨⟨rfl, fun _ _ => rfl, fun e he => by have hm := mem_listed he; simp [go_sem, *] at hm⟩, ?_⟩; clear hK K fx0; try w_num)))
  refine Goes.stop (fun w₈ h₈ => ?_)
  replace hG5 := BG.rely Bz hzu hG5 h₈
  clear h₈
  have hL := hG5.bf.live
  refine ⟨rfl, rfl, ⟨_, _, _, _, _, (show z + 1 + 1 + 1 = B by omega) ▸ hG5.bf⟩, .agg #[.int .i64 0, .int .i64 0], ?_, 140, ?_⟩
  · rw [stepG_comm (cases := #[rcase c (.agg #[.int .i64 0, .int .i64 0])]) (blocking := true) (shape := .recv true) (w' := w₈) rfl rfl (by decide) (by go_simp; simp [rcase])]
    refine congrArg _ ?_
    unfold listed
    simp [go_sem, seen]
  clear hG5
  rw [served_G]
  simp only [recvd, if_true, ↓reduceIte]
  walk_nrm
  repeat (first | u_c stepG_seq r0_rely hL | u_c stepG_region_end r0_rely hL | u_c stepG_skip r0_rely hL | u_c stepG_ret' r0_rely hL | u_reg r0_rely hL | u_cond true r0_rely hL | u_cond false r0_rely hL | u_c stepG_block r0_rely hL | u_c stepG_loop r0_rely hL | u_c stepG_inBlock r0_rely hL | u_c stepG_inLoop r0_rely hL | u_c stepG_end r0_rely hL | ((with_reducible show Goes _ _ _ _ _ _ (G (Frame.at _ _ (Item.inRegion _ (_ :: _) :: _)) _) _); first | u_defer r0_rely hL | u_bub r0_rely hL | u_op r0_rely hL | u_skip r0_rely hL))
  u_exit r0_rely hL
  repeat (first | u_c stepG_seq r0_rely hL | u_c stepG_region_end r0_rely hL | u_c stepG_skip r0_rely hL | u_c stepG_ret' r0_rely hL | u_reg r0_rely hL | u_cond true r0_rely hL | u_cond false r0_rely hL | u_c stepG_block r0_rely hL | u_c stepG_loop r0_rely hL | u_c stepG_inBlock r0_rely hL | u_c stepG_inLoop r0_rely hL | u_c stepG_end r0_rely hL | ((with_reducible show Goes _ _ _ _ _ _ (G (Frame.at _ _ (Item.inRegion _ (_ :: _) :: _)) _) _); first | u_defer r0_rely hL | u_bub r0_rely hL | u_op r0_rely hL | u_skip r0_rely hL))
  u_in r0_rely hL
  rw [stepG_unwind_enter rfl Try.func66 nm66 rfl]
  simp only [goes_go]
  refine ⟨by u_nil, ?_⟩
  walk_nrmf Try.f66
  refine goes_le (n := 63) (by decide) ?_
  exact donePh wgLib rfl (quitsB _) _ hL
end Go.Proofs.Ph

/-
  passNext from the making of its group: Add, the two go statements, Wait: what the phase asks.
-/
set_option linter.all false
namespace Go.Proofs.Ph
open Go Go.Conc Go.RowKit Go.Conc.Lib Go.ConcX.Gen Go.Proofs.Tr
open Go.ConcR (KK wgBlock WgAt stA smA)

/-- What is known ahead of the group's making. -/
structure MF (S : FuncId → Bool) (Q : Frame → World → Prop) (x0 : Goroutine × World) (l : List Frame) (fr : Frame) (Sh : Nat → Prop) (c lc lg nx : Nat) (t10 x y : Value) (z : Nat) (τ : Nat → Question → Nat) (w : World) : Prop where
  co : Beside S Q x0 l fr Sh w
  lcv : w.cell? ⟨lc, 0, none⟩ = some (.chan (some c))
  lgv : w.cell? ⟨lg, 0, none⟩ = some t10
  lgf : w.frozen? ⟨lg, 0, none⟩ = false
  nx0 : w.cell? ⟨nx, 0, none⟩ = some x
  nx1 : w.cell? ⟨nx, 1, none⟩ = some y
  ch : w.heap[c]? = some (.chan 0 #[] false 0 0 false)
  size : w.heap.size = z
  tape : w.tape = τ
theorem MF.at {S : FuncId → Bool} {Q : Frame → World → Prop} {x0 : Goroutine × World} {l : List Frame} {fr : Frame} {Sh : Nat → Prop} {c lc lg nx : Nat} {t10 x y : Value} {z : Nat} {τ : Nat → Question → Nat} {w : World} (h : MF S Q x0 l fr Sh c lc lg nx t10 x y z τ w) (d : Nat) : MF S Q x0 l fr Sh c lc lg nx t10 x y z τ (w.at d) :=
  ⟨let ⟨v, hv⟩ := h.co; ⟨v, hv.turn (hv.sim.at_drawn d)⟩, h.lcv, h.lgv, h.lgf, h.nx0, h.nx1, h.ch, h.size, h.tape⟩
theorem MF.rely {S : FuncId → Bool} {Q : Frame → World → Prop} {x0 : Goroutine × World} {l : List Frame} {fr : Frame} {Sh : Nat → Prop} {c lc lg nx : Nat} {t10 x y : Value} {z : Nat} {τ : Nat → Question → Nat} {w w₁ : World} (h : MF S Q x0 l fr Sh c lc lg nx t10 x y z τ w) (r : AtRel w w₁) : MF S Q x0 l fr Sh c lc lg nx t10 x y z τ w₁ := by
  obtain ⟨d, rfl⟩ := r
  exact h.at d
def dropC : Nat → Code → Code
  | 0, c => c
  | n + 1, .seq _ c => dropC n c
  | _ + 1, c => c
noncomputable def body37 : Code := Try.f37.body.getD .skip
noncomputable def T37 (p q a b lc lg nx t9 t10 t11 t12 t13 t14 t15 t16 t17 t18 t19 : Value) : Array Value := #[p, q, a, b, .slice none 0 0, lc, lg, nx, undef, t9, t10, t11, t12, t13, t14, t15, t16, t17, t18, t19, undef, undef, undef, undef, undef]
theorem mw_rely {S : FuncId → Bool} {Q : Frame → World → Prop} {x0 : Goroutine × World} {l : List Frame} {fr : Frame} {Sh : Nat → Prop} {c lc lg nx Wg : Nat} {t10 x y : Value} {z : Nat} {st sm : Int} {τ : Nat → Question → Nat} {w w₁ : World} (h : MF S Q x0 l fr Sh c lc lg nx t10 x y z τ w ∧ WgAt link.tWg Wg w st sm) (r : AtRel w w₁) : MF S Q x0 l fr Sh c lc lg nx t10 x y z τ w₁ ∧ WgAt link.tWg Wg w₁ st sm := by
  obtain ⟨d, rfl⟩ := r
  exact ⟨h.1.at d, h.2⟩
theorem MF.set {S : FuncId → Bool} {Q : Frame → World → Prop} {x0 : Goroutine × World} {l : List Frame} {fr : Frame} {Sh : Nat → Prop} {Shun : Loc → Prop} {N c lc lg nx Wg z' B : Nat} {t10 x y : Value} {z : Nat} {τ : Nat → Question → Nat} {w : World} (K : Blocks Sh Shun N Wg c lc lg nx z' B) (h : MF S Q x0 l fr Sh c lc lg nx t10 x y z τ w) (a : Value) : MF S Q x0 l fr Sh c lc lg nx t10 x y z τ (w.setCell (stA Wg) a) := by
  have g1 : ∀ b, b ≠ Wg → (w.setCell (stA Wg) a).heap[b]? = w.heap[b]? := fun b hb => block_setCell (by show Wg ≠ b; exact fun e => hb e.symm)
  refine ⟨?_, (World.cell?_of_block (g1 lc K.wlc.symm)).trans h.lcv, (World.cell?_of_block (g1 lg K.wlg.symm)).trans h.lgv, by unfold World.frozen?; rw [g1 lg K.wlg.symm]; exact h.lgf, (World.cell?_of_block (g1 nx K.wnx.symm)).trans h.nx0, (World.cell?_of_block (g1 nx K.wnx.symm)).trans h.nx1, (g1 c K.wc.symm).trans h.ch, ?_, h.tape⟩
  · obtain ⟨v, hv⟩ := h.co
    exact ⟨v, hv.turn (hv.sim.deadCell K.wg _)⟩
  · have := h.size
    simpa using this
theorem spawn0 {P : Program} {main : Bool} {b : Frame} {a : Act} {k : List Item} {cs : List Frame} {w w' : World} {ops : Array Oper} {i : Nat} {rest : List Nat} {o : Oper} {d : Deferred} {f : Fn} {c : Array Value} (ho : ops[i]? = some o) (hw : Region.wanted o (yielded ops a.tmps) = true)
    (hk : b.kind ≠ .early) (hr : (execOp a.eval o).run P w = .ok (.spawn d) w') (hd : d.target = .fn f c) (he : (execOp a.eval o).events P w #[] = #[]) :
    stepG P main (G (b.at a (.inRegion ops (i :: rest) :: k)) cs) w = .spawn (G (b.at (a.put o.dst undef) (.inRegion ops rest :: k)) cs) (born P d) w' #[] := by
  rw [stepG_spawn ho hw hk hr hd, listed_none he]
def ops8 : Array Oper := #[{ dst := some 23, op := Op.call { callee := Callee.value (Operand.func 68), args := #[Operand.tmp 8], argTypes := #[96] }, type := 0, pos := "l4_chains.go:117", after := #[], guard := none }]
def aW (p q f2 f3 s9 s10 s11 s12 s13 s14 s15 s16 s17 s18 s19 : Value) (Wg lc lg nx : Nat) : Act :=
  ⟨#[p, q, f2, f3, .slice none 0 0, .pointer (some ⟨lc, 0, none⟩), .pointer (some ⟨lg, 0, none⟩), .pointer (some ⟨nx, 0, none⟩), .pointer (some ⟨Wg, 0, none⟩), s9, s10, s11, s12, s13, s14, s15, s16, s17, s18, s19, .tuple #[],
    .func (.func 65) #[] #[.pointer (some ⟨Wg, 0, none⟩), .pointer (some ⟨lc, 0, none⟩), .pointer (some ⟨nx, 0, none⟩)], .func (.func 67) #[] #[.pointer (some ⟨Wg, 0, none⟩), .pointer (some ⟨lc, 0, none⟩), .pointer (some ⟨lg, 0, none⟩)], undef, undef], []⟩
noncomputable def fW (a : Act) : Frame := (base 37).at a [.inRegion ops8 [0], .code (dropC 9 body37)]
def NoEv (_ _ : World) (es : Array Event) : Prop := es = #[]
theorem dc0_noEv (w w' : World) (es : Array Event) (h : Go.ConcR.DC0 w w' es) : NoEv w w' es := h.2
set_option maxRecDepth 100000 in
set_option maxHeartbeats 2000000 in
theorem walkMid {S : FuncId → Bool} {Q : Frame → World → Prop} {x0 : Goroutine × World} {l : List Frame} {Sh : Nat → Prop} {Shun : Loc → Prop} {N Wg c lc lg nx B n : Nat} {b10 : Option Addr} {x y p q t5 t6 t7 t9 t11 t15 t16 f2 f3 s9 s10 s11 s12 s13 s14 s15 s16 s17 s18 s19 : Value} (hx : ∃ k i, x = .int k i) (hy : ∃ k i, y = .int k i)
    (Bk : Blocks (fun k => Sh k ∨ k = Wg) Shun N Wg c lc lg nx (Wg + 1) B) (hB : Wg + 4 = B) (L' : Late ⟨Try.progTables, Alt.funcs⟩) (Bd : Bodies Try.progTables Alt.funcs Try.funcs S) {τ : Nat → Question → Nat} (cs : List Frame) (w : World)
    (hM : MF S Q x0 l (frA (TA p q t5 t6 t7 t9 (.slice b10 n n) t11 (.agg #[x, y]) undef undef t15 t16) [17, 18, 19, 20, 21]) Sh c lc lg nx (.slice b10 n n) x y Wg τ w) :
    Goes Try.prog true AtRel NoEv (AtAdd1 Try.prog Wg (AtGoA Try.prog link.tWg Wg c (Two lc nx) Shun (RoT lc nx) B (.agg #[x, y]) (FinT S Q x0 l (fun k => (Sh k ∨ k = Wg) ∨ k = Wg + 1) Wg c lc lg B p q t5 t6 t7 (.slice b10 n n) t11 (.agg #[x, y]) t15 t16) (AnchW link Wg (fW (aW p q f2 f3 s9 s10 s11 s12 s13 s14 s15 s16 s17 s18 s19 Wg lc lg nx)) cs) τ)) 200
      (G ((base 37).at ⟨T37 p q f2 f3 (.pointer (some ⟨lc, 0, none⟩)) (.pointer (some ⟨lg, 0, none⟩)) (.pointer (some ⟨nx, 0, none⟩)) s9 s10 s11 s12 s13 s14 s15 s16 s17 s18 s19, []⟩ [.code (dropC 4 body37)]) cs) w := by
  unfold fW
  simp only [body37, Try.f37, Option.getD_some, dropC, T37]
  · refine Goes.step rfl (fun w₁ h₁ => ?_)
    replace hM := hM.rely h₁
    clear h₁
    rw [stepG_seq]
    simp only [goes_go]
    refine ⟨rfl, ?_⟩
    refine Goes.step rfl (fun w₁ h₁ => ?_)
    replace hM := hM.rely h₁
    clear h₁
    rw [stepG_region]
    simp only [goes_go, List.size_toArray, List.length_cons, List.length_nil, Nat.reduceAdd, Nat.zero_add, List.range, List.range.loop]
    refine ⟨rfl, ?_⟩
    refine Goes.step rfl (fun w₂ h₂ => ?_)
    replace hM := hM.rely h₂
    clear h₂
    refine goes_oper_k rfl rfl (by k_ne) (fun K hK => ?_)
    go_simp
    have hz := hM.size
    refine hK _ _ ⟨Array.eq_empty_iff_forall_not_mem.2 fun e he => by have hm := mem_listed he; simp [go_sem, *] at hm, ?_⟩
    clear hK K
    obtain ⟨v, hco⟩ := hM.co
    obtain ⟨v', hco', hv'⟩ := hco.box (o := Alt.op 9 (.box 96 (.const (.agg #[]))) 0) (c := #[.int .u64 0, .int .u32 0]) (t := 96) rfl rfl (by decide) rfl rfl
    rw [hz] at hco'
    simp only [hz]
    have hN : MF S Q x0 l (frA (TA p q t5 t6 t7 (.pointer (some ⟨Wg, 0, none⟩)) (.slice b10 n n) t11 (.agg #[x, y]) undef undef t15 t16) [18, 19, 20, 21]) (fun k => Sh k ∨ k = Wg) c lc lg nx (.slice b10 n n) x y (Wg + 1) τ (w₂.alloc (Obj.cells #[Value.int IntKind.u64 0, Value.int IntKind.u32 0] 96)) := by
      have hlt : ∀ b, b < Wg + 1 → b ≠ Wg → (w₂.alloc (Obj.cells #[Value.int IntKind.u64 0, Value.int IntKind.u32 0] 96)).heap[b]? = w₂.heap[b]? := fun b h1 h2 => block_alloc (by rw [hz]; omega)
      refine ⟨⟨v', hco'⟩, ?_, ?_, ?_, ?_, ?_, ?_, by rw [size_alloc, hz], hM.tape⟩
      · exact (World.cell?_of_block (hlt lc Bk.lcB Bk.wlc.symm)).trans hM.lcv
      · exact (World.cell?_of_block (hlt lg Bk.lgB Bk.wlg.symm)).trans hM.lgv
      · unfold World.frozen?; rw [hlt lg Bk.lgB Bk.wlg.symm]; exact hM.lgf
      · exact (World.cell?_of_block (hlt nx Bk.nxB Bk.wnx.symm)).trans hM.nx0
      · exact (World.cell?_of_block (hlt nx Bk.nxB Bk.wnx.symm)).trans hM.nx1
      · exact (hlt c Bk.cB Bk.wc.symm).trans hM.ch
    have hW : WgAt link.tWg Wg (w₂.alloc (Obj.cells #[Value.int IntKind.u64 0, Value.int IntKind.u32 0] 96)) 0 0 := by
      show (w₂.heap.push _)[Wg]? = some (wgBlock link.tWg 0 0)
      rw [← hz]
      simp [wgBlock]
    clear hM hco hco' hv' hz
    generalize w₂.alloc (Obj.cells #[Value.int IntKind.u64 0, Value.int IntKind.u32 0] 96) = w₃ at hN hW ⊢
    have hP := And.intro hN hW
    clear hN hW
    repeat (first | (refine Goes.step rfl (fun _ h₁ => ?_); replace hP := mw_rely hP h₁; clear h₁; rw [stepG_seq]; simp only [goes_go]; refine ⟨(show NoEv _ _ _ from rfl), ?_⟩) | (refine Goes.step rfl (fun _ h₁ => ?_); replace hP := mw_rely hP h₁; clear h₁; rw [stepG_region_end]; simp only [goes_go]; refine ⟨(show NoEv _ _ _ from rfl), ?_⟩) | (refine Goes.step rfl (fun _ h₁ => ?_); replace hP := mw_rely hP h₁; clear h₁; rw [stepG_skip]; simp only [goes_go]; refine ⟨(show NoEv _ _ _ from rfl), ?_⟩) | (refine Goes.step rfl (fun _ h₁ => ?_); replace hP := mw_rely hP h₁; clear h₁; rw [stepG_ret']; simp only [goes_go]; refine ⟨(show NoEv _ _ _ from rfl), ?_⟩) | (refine Goes.step rfl (fun _ h₁ => ?_); replace hP := mw_rely hP h₁; clear h₁; rw [stepG_block]; simp only [goes_go]; refine ⟨(show NoEv _ _ _ from rfl), ?_⟩) | (refine Goes.step rfl (fun _ h₁ => ?_); replace hP := mw_rely hP h₁; clear h₁; rw [stepG_loop]; simp only [goes_go]; refine ⟨(show NoEv _ _ _ from rfl), ?_⟩) | (refine Goes.step rfl (fun _ h₁ => ?_); replace hP := mw_rely hP h₁; clear h₁; rw [stepG_inLoop]; simp only [goes_go]; refine ⟨(show NoEv _ _ _ from rfl), ?_⟩) | (refine Goes.step rfl (fun _ h₁ => ?_); replace hP := mw_rely hP h₁; clear h₁; rw [stepG_inBlock]; simp only [goes_go]; refine ⟨(show NoEv _ _ _ from rfl), ?_⟩) | (refine Goes.step rfl (fun _ h₁ => ?_); replace hP := mw_rely hP h₁; clear h₁; rw [stepG_end]; simp only [goes_go]; refine ⟨(show NoEv _ _ _ from rfl), ?_⟩) | (refine Goes.step rfl (fun _ h₁ => ?_); replace hP := mw_rely hP h₁; clear h₁; rw [stepG_region]; simp only [goes_go, List.size_toArray, List.length_cons, List.length_nil, Nat.reduceAdd, Nat.zero_add, List.range, List.range.loop]; refine ⟨(show NoEv _ _ _ from rfl), ?_⟩) | (refine Goes.step rfl (fun _ h₁ => ?_); replace hP := mw_rely hP h₁; clear h₁; rw [stepG_cond (t := true) rfl]; simp only [goes_go, if_true, if_false, Bool.false_eq_true, ↓reduceIte]; refine ⟨(show NoEv _ _ _ from rfl), ?_⟩) | (refine Goes.step rfl (fun _ h₁ => ?_); replace hP := mw_rely hP h₁; clear h₁; rw [stepG_cond (t := false) rfl]; simp only [goes_go, if_true, if_false, Bool.false_eq_true, ↓reduceIte]; refine ⟨(show NoEv _ _ _ from rfl), ?_⟩) | ((with_reducible show Goes _ _ _ _ _ _ (G (Frame.at _ _ (Item.inRegion _ (_ :: _) :: _)) _) _); first | (refine Goes.step rfl (fun _ h₁ => ?_); replace hP := mw_rely hP h₁; clear h₁; rw [stepG_defer rfl rfl (by k_ne) rfl]; simp only [goes_go]; refine ⟨(show NoEv _ _ _ from rfl), ?_⟩; walk_nrm) | (refine Goes.step rfl (fun _ h₁ => ?_); replace hP := mw_rely hP h₁; clear h₁; refine goes_oper_k rfl rfl (by k_ne) (fun K hK => ?_); have fx0 := hP.1.lcv; go_simp; refine hK _ _ ⟨rfl, ?_⟩; clear hK K fx0; try w_num)))
    have hA := @addTwo link Wg
    simp only [body_add, addFn, Option.getD_some] at hA
    refine Goes.step rfl (fun _ h₁ => ?_)
    replace hP := mw_rely hP h₁
    clear h₁
    refine goes_call rfl rfl (by k_ne) rfl wgLib.f_add (nm_add link) rfl ⟨rfl, ?_⟩
    walk_nrmf addFn
    refine goes_le (n := 60) (by decide) (goes_doing dc0_noEv (hA wgLib _ hP.2 (mT := 100) ?_))
    have hP2 := And.intro (hP.1.set Bk (.int .u64 (2 * KK))) (hP.2.setSt (2 * KK))
    clear hP hA
    walk_nrm
    repeat (first | (refine Goes.step rfl (fun _ h₁ => ?_); replace hP2 := mw_rely hP2 h₁; clear h₁; rw [stepG_seq]; simp only [goes_go]; refine ⟨(show Go.ConcR.DC0 _ _ _ from ⟨rfl, rfl⟩), ?_⟩) | (refine Goes.step rfl (fun _ h₁ => ?_); replace hP2 := mw_rely hP2 h₁; clear h₁; rw [stepG_region_end]; simp only [goes_go]; refine ⟨(show Go.ConcR.DC0 _ _ _ from ⟨rfl, rfl⟩), ?_⟩) | (refine Goes.step rfl (fun _ h₁ => ?_); replace hP2 := mw_rely hP2 h₁; clear h₁; rw [stepG_skip]; simp only [goes_go]; refine ⟨(show Go.ConcR.DC0 _ _ _ from ⟨rfl, rfl⟩), ?_⟩) | (refine Goes.step rfl (fun _ h₁ => ?_); replace hP2 := mw_rely hP2 h₁; clear h₁; rw [stepG_ret']; simp only [goes_go]; refine ⟨(show Go.ConcR.DC0 _ _ _ from ⟨rfl, rfl⟩), ?_⟩) | (refine Goes.step rfl (fun _ h₁ => ?_); replace hP2 := mw_rely hP2 h₁; clear h₁; rw [stepG_block]; simp only [goes_go]; refine ⟨(show Go.ConcR.DC0 _ _ _ from ⟨rfl, rfl⟩), ?_⟩) | (refine Goes.step rfl (fun _ h₁ => ?_); replace hP2 := mw_rely hP2 h₁; clear h₁; rw [stepG_loop]; simp only [goes_go]; refine ⟨(show Go.ConcR.DC0 _ _ _ from ⟨rfl, rfl⟩), ?_⟩) | (refine Goes.step rfl (fun _ h₁ => ?_); replace hP2 := mw_rely hP2 h₁; clear h₁; rw [stepG_inLoop]; simp only [goes_go]; refine ⟨(show Go.ConcR.DC0 _ _ _ from ⟨rfl, rfl⟩), ?_⟩) | (refine Goes.step rfl (fun _ h₁ => ?_); replace hP2 := mw_rely hP2 h₁; clear h₁; rw [stepG_inBlock]; simp only [goes_go]; refine ⟨(show Go.ConcR.DC0 _ _ _ from ⟨rfl, rfl⟩), ?_⟩) | (refine Goes.step rfl (fun _ h₁ => ?_); replace hP2 := mw_rely hP2 h₁; clear h₁; rw [stepG_end]; simp only [goes_go]; refine ⟨(show Go.ConcR.DC0 _ _ _ from ⟨rfl, rfl⟩), ?_⟩) | (refine Goes.step rfl (fun _ h₁ => ?_); replace hP2 := mw_rely hP2 h₁; clear h₁; rw [stepG_region]; simp only [goes_go, List.size_toArray, List.length_cons, List.length_nil, Nat.reduceAdd, Nat.zero_add, List.range, List.range.loop]; refine ⟨(show Go.ConcR.DC0 _ _ _ from ⟨rfl, rfl⟩), ?_⟩) | (refine Goes.step rfl (fun _ h₁ => ?_); replace hP2 := mw_rely hP2 h₁; clear h₁; rw [stepG_cond (t := true) rfl]; simp only [goes_go, if_true, if_false, Bool.false_eq_true, ↓reduceIte]; refine ⟨(show Go.ConcR.DC0 _ _ _ from ⟨rfl, rfl⟩), ?_⟩) | (refine Goes.step rfl (fun _ h₁ => ?_); replace hP2 := mw_rely hP2 h₁; clear h₁; rw [stepG_cond (t := false) rfl]; simp only [goes_go, if_true, if_false, Bool.false_eq_true, ↓reduceIte]; refine ⟨(show Go.ConcR.DC0 _ _ _ from ⟨rfl, rfl⟩), ?_⟩) | ((with_reducible show Goes _ _ _ _ _ _ (G (Frame.at _ _ (Item.inRegion _ (_ :: _) :: _)) _) _); first | (refine Goes.step rfl (fun _ h₁ => ?_); replace hP2 := mw_rely hP2 h₁; clear h₁; rw [stepG_defer rfl rfl (by k_ne) rfl]; simp only [goes_go]; refine ⟨(show Go.ConcR.DC0 _ _ _ from ⟨rfl, rfl⟩), ?_⟩; walk_nrm) | (refine Goes.step rfl (fun _ h₁ => ?_); replace hP2 := mw_rely hP2 h₁; clear h₁; refine goes_oper_k rfl rfl (by k_ne) (fun K hK => ?_); have fx0 := hP2.1.lcv; go_simp; refine hK _ _ ⟨⟨rfl, Array.eq_empty_iff_forall_not_mem.2 fun e he => by have hm := mem_listed he; simp [go_sem, *] at hm⟩, ?_⟩; clear hK K fx0; try w_num)))
    refine Goes.stop (fun w₄ h₄ => ?_)
    replace hP2 := mw_rely hP2 h₄
    clear h₄
    refine ⟨rfl, hP2.2, hP2.1.ch, hP2.1.tape, _, born Try.prog (callA Wg lc nx), spawn0 (d := callA Wg lc nx) rfl rfl (by k_ne) (by go_simp; simp [callA]) rfl (by simp [go_sem]), walkA Bk.wc ⟨Nat.lt_of_lt_of_le Bk.lcB Bk.zB, Nat.lt_of_lt_of_le Bk.nxB Bk.zB⟩ _ ⟨hP2.1.lcv, hP2.1.nx0, hP2.1.nx1, ⟨_, _, hP2.2⟩⟩, 100, ?_⟩
    walk_nrm
    repeat (first | (refine Goes.step rfl (fun _ h₁ => ?_); replace hP2 := mw_rely hP2 h₁; clear h₁; rw [stepG_seq]; simp only [goes_go]; refine ⟨(show Go.ConcR.DC0 _ _ _ from ⟨rfl, rfl⟩), ?_⟩) | (refine Goes.step rfl (fun _ h₁ => ?_); replace hP2 := mw_rely hP2 h₁; clear h₁; rw [stepG_region_end]; simp only [goes_go]; refine ⟨(show Go.ConcR.DC0 _ _ _ from ⟨rfl, rfl⟩), ?_⟩) | (refine Goes.step rfl (fun _ h₁ => ?_); replace hP2 := mw_rely hP2 h₁; clear h₁; rw [stepG_skip]; simp only [goes_go]; refine ⟨(show Go.ConcR.DC0 _ _ _ from ⟨rfl, rfl⟩), ?_⟩) | (refine Goes.step rfl (fun _ h₁ => ?_); replace hP2 := mw_rely hP2 h₁; clear h₁; rw [stepG_ret']; simp only [goes_go]; refine ⟨(show Go.ConcR.DC0 _ _ _ from ⟨rfl, rfl⟩), ?_⟩) | (refine Goes.step rfl (fun _ h₁ => ?_); replace hP2 := mw_rely hP2 h₁; clear h₁; rw [stepG_block]; simp only [goes_go]; refine ⟨(show Go.ConcR.DC0 _ _ _ from ⟨rfl, rfl⟩), ?_⟩) | (refine Goes.step rfl (fun _ h₁ => ?_); replace hP2 := mw_rely hP2 h₁; clear h₁; rw [stepG_loop]; simp only [goes_go]; refine ⟨(show Go.ConcR.DC0 _ _ _ from ⟨rfl, rfl⟩), ?_⟩) | (refine Goes.step rfl (fun _ h₁ => ?_); replace hP2 := mw_rely hP2 h₁; clear h₁; rw [stepG_inLoop]; simp only [goes_go]; refine ⟨(show Go.ConcR.DC0 _ _ _ from ⟨rfl, rfl⟩), ?_⟩) | (refine Goes.step rfl (fun _ h₁ => ?_); replace hP2 := mw_rely hP2 h₁; clear h₁; rw [stepG_inBlock]; simp only [goes_go]; refine ⟨(show Go.ConcR.DC0 _ _ _ from ⟨rfl, rfl⟩), ?_⟩) | (refine Goes.step rfl (fun _ h₁ => ?_); replace hP2 := mw_rely hP2 h₁; clear h₁; rw [stepG_end]; simp only [goes_go]; refine ⟨(show Go.ConcR.DC0 _ _ _ from ⟨rfl, rfl⟩), ?_⟩) | (refine Goes.step rfl (fun _ h₁ => ?_); replace hP2 := mw_rely hP2 h₁; clear h₁; rw [stepG_region]; simp only [goes_go, List.size_toArray, List.length_cons, List.length_nil, Nat.reduceAdd, Nat.zero_add, List.range, List.range.loop]; refine ⟨(show Go.ConcR.DC0 _ _ _ from ⟨rfl, rfl⟩), ?_⟩) | (refine Goes.step rfl (fun _ h₁ => ?_); replace hP2 := mw_rely hP2 h₁; clear h₁; rw [stepG_cond (t := true) rfl]; simp only [goes_go, if_true, if_false, Bool.false_eq_true, ↓reduceIte]; refine ⟨(show Go.ConcR.DC0 _ _ _ from ⟨rfl, rfl⟩), ?_⟩) | (refine Goes.step rfl (fun _ h₁ => ?_); replace hP2 := mw_rely hP2 h₁; clear h₁; rw [stepG_cond (t := false) rfl]; simp only [goes_go, if_true, if_false, Bool.false_eq_true, ↓reduceIte]; refine ⟨(show Go.ConcR.DC0 _ _ _ from ⟨rfl, rfl⟩), ?_⟩) | ((with_reducible show Goes _ _ _ _ _ _ (G (Frame.at _ _ (Item.inRegion _ (_ :: _) :: _)) _) _); first | (refine Goes.step rfl (fun _ h₁ => ?_); replace hP2 := mw_rely hP2 h₁; clear h₁; rw [stepG_defer rfl rfl (by k_ne) rfl]; simp only [goes_go]; refine ⟨(show Go.ConcR.DC0 _ _ _ from ⟨rfl, rfl⟩), ?_⟩; walk_nrm) | (refine Goes.step rfl (fun _ h₁ => ?_); replace hP2 := mw_rely hP2 h₁; clear h₁; refine goes_oper_k rfl rfl (by k_ne) (fun K hK => ?_); have fx0 := hP2.1.lcv; go_simp; refine hK _ _ ⟨⟨rfl, Array.eq_empty_iff_forall_not_mem.2 fun e he => by have hm := mem_listed he; simp [go_sem, *] at hm⟩, ?_⟩; clear hK K fx0; try w_num)))
    refine Goes.stop (fun w₅ h₅ => ?_)
    replace hP2 := mw_rely hP2 h₅
    clear h₅
    refine ⟨rfl, _, born Try.prog (callB Wg lc lg), spawn0 (d := callB Wg lc lg) rfl rfl (by k_ne) (by go_simp; simp [callB]) rfl (by simp [go_sem]), walkB hx hy Bk (by omega) L' Bd _ ⟨hP2.1.co, hP2.1.lcv, hP2.1.lgv, ⟨_, _, hP2.2⟩, ⟨_, _, _, _, _, _, hP2.1.ch⟩, hP2.1.size, hP2.1.lgf⟩, 100, ?_⟩
    have hL : WgLive link.tWg Wg w₅ := ⟨_, _, hP2.2⟩
    clear hP2
    walk_nrm
    repeat (first | (refine Goes.step rfl (fun _ h₁ => ?_); replace hL := w_rely hL h₁; clear h₁; rw [stepG_seq]; simp only [goes_go]; refine ⟨(show D0 Wg _ _ _ from ⟨rfl, by simp⟩), ?_⟩) | (refine Goes.step rfl (fun _ h₁ => ?_); replace hL := w_rely hL h₁; clear h₁; rw [stepG_region_end]; simp only [goes_go]; refine ⟨(show D0 Wg _ _ _ from ⟨rfl, by simp⟩), ?_⟩) | (refine Goes.step rfl (fun _ h₁ => ?_); replace hL := w_rely hL h₁; clear h₁; rw [stepG_skip]; simp only [goes_go]; refine ⟨(show D0 Wg _ _ _ from ⟨rfl, by simp⟩), ?_⟩) | (refine Goes.step rfl (fun _ h₁ => ?_); replace hL := w_rely hL h₁; clear h₁; rw [stepG_ret']; simp only [goes_go]; refine ⟨(show D0 Wg _ _ _ from ⟨rfl, by simp⟩), ?_⟩) | (refine Goes.step rfl (fun _ h₁ => ?_); replace hL := w_rely hL h₁; clear h₁; rw [stepG_block]; simp only [goes_go]; refine ⟨(show D0 Wg _ _ _ from ⟨rfl, by simp⟩), ?_⟩) | (refine Goes.step rfl (fun _ h₁ => ?_); replace hL := w_rely hL h₁; clear h₁; rw [stepG_loop]; simp only [goes_go]; refine ⟨(show D0 Wg _ _ _ from ⟨rfl, by simp⟩), ?_⟩) | (refine Goes.step rfl (fun _ h₁ => ?_); replace hL := w_rely hL h₁; clear h₁; rw [stepG_inLoop]; simp only [goes_go]; refine ⟨(show D0 Wg _ _ _ from ⟨rfl, by simp⟩), ?_⟩) | (refine Goes.step rfl (fun _ h₁ => ?_); replace hL := w_rely hL h₁; clear h₁; rw [stepG_inBlock]; simp only [goes_go]; refine ⟨(show D0 Wg _ _ _ from ⟨rfl, by simp⟩), ?_⟩) | (refine Goes.step rfl (fun _ h₁ => ?_); replace hL := w_rely hL h₁; clear h₁; rw [stepG_end]; simp only [goes_go]; refine ⟨(show D0 Wg _ _ _ from ⟨rfl, by simp⟩), ?_⟩) | (refine Goes.step rfl (fun _ h₁ => ?_); replace hL := w_rely hL h₁; clear h₁; rw [stepG_region]; simp only [goes_go, List.size_toArray, List.length_cons, List.length_nil, Nat.reduceAdd, Nat.zero_add, List.range, List.range.loop]; refine ⟨(show D0 Wg _ _ _ from ⟨rfl, by simp⟩), ?_⟩) | (refine Goes.step rfl (fun _ h₁ => ?_); replace hL := w_rely hL h₁; clear h₁; rw [stepG_cond (t := true) rfl]; simp only [goes_go, if_true, if_false, Bool.false_eq_true, ↓reduceIte]; refine ⟨(show D0 Wg _ _ _ from ⟨rfl, by simp⟩), ?_⟩) | (refine Goes.step rfl (fun _ h₁ => ?_); replace hL := w_rely hL h₁; clear h₁; rw [stepG_cond (t := false) rfl]; simp only [goes_go, if_true, if_false, Bool.false_eq_true, ↓reduceIte]; refine ⟨(show D0 Wg _ _ _ from ⟨rfl, by simp⟩), ?_⟩) | ((with_reducible show Goes _ _ _ _ _ _ (G (Frame.at _ _ (Item.inRegion _ (_ :: _) :: _)) _) _); first | (refine Goes.step rfl (fun _ h₁ => ?_); replace hL := w_rely hL h₁; clear h₁; rw [stepG_defer rfl rfl (by k_ne) rfl]; simp only [goes_go]; refine ⟨(show D0 Wg _ _ _ from ⟨rfl, by simp⟩), ?_⟩; walk_nrm) | (refine Goes.step rfl (fun _ h₁ => ?_); replace hL := w_rely hL h₁; clear h₁; refine goes_oper_k rfl rfl (by k_ne) (fun K hK => ?_); have fx0 := hL; go_simp; refine hK _ _ ⟨rfl, ?_⟩; clear hK K fx0; try w_num)))
    refine Goes.step rfl (fun _ h₁ => ?_)
    replace hL := w_rely hL h₁
    clear h₁
    refine goes_call rfl rfl (by k_ne) rfl wgLib.f_wait (nm_wait link) rfl ⟨⟨rfl, by simp⟩, ?_⟩
    walk_nrmf waitFn
    refine goes_le (n := 10) (by decide) ?_
    exact waitStart wgLib _ hL
end Go.Proofs.Ph

/-
  What a run of the lone program's own checks tells of the values that it looks at.
-/
set_option linter.all false
namespace Go.Proofs.Ph
open Go Go.Conc Go.RowKit Go.Conc.Lib Go.ConcX.Gen Go.Proofs.Tr
open Go.ConcR (KK wgBlock WgAt stA smA)

theorem inv_field36 {x r : Value} {w w' : World} {es : Array Event} (h : (Instr.field 36 x 1).runT Try.prog w #[] = (.ok r w', es)) : w' = w ∧ ∃ cs, x = .agg cs ∧ cs[1]? = some r := by
  rw [Sem.runT_eq] at h
  have h1 := (Prod.mk.inj h).1
  clear h
  cases x <;> simp [Instr.field, asAgg, part, go_sem] at h1
  rename_i cs
  cases hc : cs[1]? with
  | none => simp [hc, go_sem] at h1
  | some v => simp [hc, go_sem] at h1; exact ⟨h1.2.symm, cs, rfl, by rw [hc, h1.1]⟩
theorem inv_field39a {x r : Value} {w w' : World} {es : Array Event} (h : (Instr.field 39 x 0).runT Try.prog w #[] = (.ok r w', es)) : w' = w ∧ ∃ cs, x = .agg cs ∧ cs[0]? = some r := by
  rw [Sem.runT_eq] at h
  have h1 := (Prod.mk.inj h).1
  clear h
  cases x <;> simp [Instr.field, asAgg, part, go_sem] at h1
  rename_i cs
  cases hc : cs[0]? with
  | none => simp [hc, go_sem] at h1
  | some v => simp [hc, go_sem] at h1; exact ⟨h1.2.symm, cs, rfl, by rw [hc, h1.1]⟩
theorem inv_field39b {x r : Value} {w w' : World} {es : Array Event} (h : (Instr.field 39 x 1).runT Try.prog w #[] = (.ok r w', es)) : w' = w ∧ ∃ cs, x = .agg cs ∧ cs[1]? = some r := by
  rw [Sem.runT_eq] at h
  have h1 := (Prod.mk.inj h).1
  clear h
  cases x <;> simp [Instr.field, asAgg, part, go_sem] at h1
  rename_i cs
  cases hc : cs[1]? with
  | none => simp [hc, go_sem] at h1
  | some v => simp [hc, go_sem] at h1; exact ⟨h1.2.symm, cs, rfl, by rw [hc, h1.1]⟩
theorem inv_len {x r : Value} {w w' : World} {es : Array Event} (h : (Builtin.len_ #[34] 3 #[x]).runT Try.prog w #[] = (.ok r w', es)) : w' = w ∧ ∃ a n c, x = .slice a n c ∧ r = .int .i64 n := by
  rw [Sem.runT_eq] at h
  have h1 := (Prod.mk.inj h).1
  clear h
  cases x <;> simp [Builtin.len_, Builtin.lenOf, go_sem] at h1
  exact ⟨h1.2.symm, _, _, _, rfl, h1.1.symm⟩
theorem inv_and {x r : Value} {w w' : World} {es : Array Event} (h : (binOp .and 3 x x).runT Try.prog w #[] = (.ok r w', es)) : w' = w ∧ ∃ k i, x = .int k i := by
  rw [Sem.runT_eq] at h
  have h1 := (Prod.mk.inj h).1
  clear h
  cases x <;> simp [binOp, Op.floatArith, Op.complexOp, Op.stringOp, Op.floatCmp, go_sem] at h1
  exact ⟨h1.2.symm, _, _, rfl⟩
end Go.Proofs.Ph

/-
  What goroutine 0 knows of its world ahead of the phase: some cells of dead rows, the channel, the heap's size; and how it goes over to the next world.
-/
set_option linter.all false
namespace Go.Proofs.Ph
open Go Go.Conc Go.RowKit Go.Conc.Lib Go.ConcX.Gen Go.Proofs.Tr
open Go.ConcR (KK wgBlock WgAt stA smA)

structure LF (S : FuncId → Bool) (Q : Frame → World → Prop) (x0 : Goroutine × World) (l : List Frame) (fr : Frame) (Sh : Nat → Prop) (K : List (Addr × Value)) (c : Option Nat) (z : Nat) (τ : Nat → Question → Nat) (w : World) : Prop where
  co : Beside S Q x0 l fr Sh w
  known : ∀ p ∈ K, w.cell? p.1 = some p.2 ∧ w.frozen? p.1 = false ∧ Sh p.1.block
  ch : ∀ d, c = some d → w.heap[d]? = some (.chan 0 #[] false 0 0 false)
  size : w.heap.size = z
  tape : w.tape = τ
section
variable {S : FuncId → Bool} {Q : Frame → World → Prop} {x0 : Goroutine × World} {l : List Frame} {fr fr' : Frame} {Sh Sh' : Nat → Prop} {K K' : List (Addr × Value)} {c : Option Nat} {z : Nat} {τ : Nat → Question → Nat} {w w₁ w' : World}
theorem LF.rely (h : LF S Q x0 l fr Sh K c z τ w) (r : AtRel w w₁) : LF S Q x0 l fr Sh K c z τ w₁ := by
  obtain ⟨d, rfl⟩ := r
  exact ⟨let ⟨v, hv⟩ := h.co; ⟨v, hv.turn (hv.sim.at_drawn d)⟩, h.known, h.ch, h.size, h.tape⟩
theorem LF.cell (h : LF S Q x0 l fr Sh K c z τ w) {a : Addr} {v : Value} (hm : (a, v) ∈ K) : w.cell? a = some v := (h.known _ hm).1
theorem LF.cold (h : LF S Q x0 l fr Sh K c z τ w) {a : Addr} {v : Value} (hm : (a, v) ∈ K) : w.frozen? a = false := (h.known _ hm).2.1
theorem LF.dead (h : LF S Q x0 l fr Sh K c z τ w) {a : Addr} {v : Value} (hm : (a, v) ∈ K) : Sh a.block := (h.known _ hm).2.2
theorem LF.lt (h : LF S Q x0 l fr Sh K c z τ w) {a : Addr} {v : Value} (hm : (a, v) ∈ K) : a.block < z := by
  obtain ⟨o, ho⟩ := cell_there (h.cell hm)
  rw [← h.size]
  exact (Array.getElem?_eq_some_iff.1 ho).1
theorem LF.clt (h : LF S Q x0 l fr Sh K c z τ w) {d : Nat} (hd : c = some d) : d < z := by
  rw [← h.size]
  exact (Array.getElem?_eq_some_iff.1 (h.ch d hd)).1
theorem frozen_of_block {a : Addr} (e : w'.heap[a.block]? = w.heap[a.block]?) : w'.frozen? a = w.frozen? a := by unfold World.frozen?; rw [e]
/-- The old blocks stand. -/
theorem LF.over (h : LF S Q x0 l fr Sh K c z τ w) (hb : ∀ b, b < z → Sh b ∨ c = some b → w'.heap[b]? = w.heap[b]?) (hs : ∀ k, Sh k → Sh' k) : (∀ p ∈ K, w'.cell? p.1 = some p.2 ∧ w'.frozen? p.1 = false ∧ Sh' p.1.block) ∧ ∀ d, c = some d → w'.heap[d]? = some (.chan 0 #[] false 0 0 false) := by
  refine ⟨fun p hp => ?_, fun d hd => (hb d (h.clt hd) (.inr hd)).trans (h.ch d hd)⟩
  have e := hb p.1.block (h.lt (a := p.1) (v := p.2) hp) (.inl (h.dead (a := p.1) (v := p.2) hp))
  exact ⟨(World.cell?_of_block e).trans (h.cell hp), (frozen_of_block e).trans (h.cold hp), hs _ (h.dead (a := p.1) (v := p.2) hp)⟩
/-- A new row, empty in the lone world. -/
theorem LF.push (h : LF S Q x0 l fr Sh K c z τ w) {cs : Array Value} {t : TypeId} (hco : Beside S Q x0 l fr' (fun k => Sh k ∨ k = z) (w.alloc (.cells cs t))) (new : List (Addr × Value)) (hn : ∀ p ∈ new, ∃ i, p.1 = ⟨z, i, none⟩ ∧ cs[i]? = some p.2) :
    LF S Q x0 l fr' (fun k => Sh k ∨ k = z) (new ++ K) c (z + 1) τ (w.alloc (.cells cs t)) := by
  obtain ⟨h1, h2⟩ := h.over (w' := w.alloc (.cells cs t)) (Sh' := fun k => Sh k ∨ k = z) (fun b hb _ => block_alloc (by rw [h.size]; exact hb)) (fun _ => .inl)
  refine ⟨hco, fun p hp => ?_, h2, by rw [size_alloc, h.size], h.tape⟩
  rcases List.mem_append.1 hp with hp | hp
  · obtain ⟨i, e1, e2⟩ := hn p hp
    rw [e1]
    exact ⟨cell_new h.size e2, frozen_new h.size, .inr rfl⟩
  · exact h1 p hp
/-- An operation that both have. -/
theorem LF.share (h : LF S Q x0 l fr Sh K c z τ w) {k : Nat} (hk : Keep Sh w w') (hco : Beside S Q x0 l fr' Sh w') (hs : w'.heap.size = w.heap.size + k) (ht : w'.tape = w.tape) : LF S Q x0 l fr' Sh K c (z + k) τ w' := by
  obtain ⟨h1, h2⟩ := h.over (w' := w') (Sh' := Sh) (fun b hb hd => by
    have hlt : b < w.heap.size := by rw [h.size]; exact hb
    rcases hd with hd | hd
    · exact keep_same hk hlt hd
    · rw [h.ch b hd]; exact hk _ _ (h.ch b hd) (.inr rfl)) (fun _ => id)
  exact ⟨hco, h1, h2, by rw [hs, h.size], ht.trans h.tape⟩
/-- A store into a known cell. -/
theorem LF.put (h : LF S Q x0 l fr Sh K c z τ w) {a : Addr} {v u : Value} (hm : (a, v) ∈ K) (ha : a.spot = none) (hc : ∀ d, c = some d → d ≠ a.block) (hK : ∀ p ∈ K', p = (a, u) ∨ (p ∈ K ∧ p.1 ≠ a)) : LF S Q x0 l fr Sh K' c z τ (w.setCell a u) := by
  refine ⟨?_, fun p hp => ?_, fun d hd => ?_, by have := h.size; simpa using this, h.tape⟩
  · obtain ⟨v, hv⟩ := h.co
    exact ⟨v, hv.turn (hv.sim.deadCell (h.dead hm) _)⟩
  · have f0 := h.cell hm
    have f1 := h.cold hm
    rcases hK p hp with rfl | ⟨h1, h2⟩
    · refine ⟨?_, ?_, h.dead hm⟩
      · simp [go_sem, *]
      · simp [go_sem, *]
    · have g0 := h.cell (a := p.1) (v := p.2) h1
      have g1 := h.cold (a := p.1) (v := p.2) h1
      refine ⟨?_, ?_, h.dead (a := p.1) (v := p.2) h1⟩
      · rw [World.cell?_setCell_other (h := fun e => h2 e.symm)]; exact g0
      · simp [go_sem, *]
  · rw [block_setCell (by have := hc d hd; exact fun e => this e.symm)]
    exact h.ch d hd
end
end Go.Proofs.Ph

/-
  passNext up to the making of its group, in step with the lone run. (Printed by wip/gen_lead.py.)
-/
set_option linter.all false
namespace Go.Proofs.Ph
open Go Go.Conc Go.RowKit Go.Conc.Lib Go.ConcX.Gen Go.Proofs.Tr
open Go.ConcR (KK wgBlock WgAt stA smA)

/-- What goroutine 0 lists ahead of the phase. -/
def EvP (Shun : Loc → Prop) (B Wg : Nat) (e : Event) : Prop := EvL Shun B e ∧ e.loc ≠ .mark (.release (stA Wg))
def EP (Shun : Loc → Prop) (B Wg : Nat) (_ _ : World) (es : Array Event) : Prop := ∀ e ∈ es, EvP Shun B Wg e
section
variable {Shun : Loc → Prop} {B Wg : Nat} {Sh : Nat → Prop}
theorem ep_nil {w w' : World} : EP Shun B Wg w w' #[] := fun e he => by simp at he
theorem evp_ok (h : ShOk Sh Shun) {n : Nat} (hn : n ≤ B) {e : Event} (he : EvOk Sh n e) : EvP Shun B Wg e := by
  refine ⟨evL_of h hn he, ?_⟩
  rcases he with ⟨a, x, s, rfl, -, -⟩ | ⟨r, x, s, rfl, -, -⟩ | rfl <;> simp
theorem evp_cell {z : Nat} (h : ∀ l, Shun l → ∃ a, l = .cell a ∧ a.block < z) {a : Addr} {x s : Bool} (h1 : z ≤ a.block) (h2 : a.block < B) : EvP Shun B Wg ⟨.cell a, x, s⟩ := by
  refine ⟨⟨fun y hy hs => ?_, by simp, by simp, ?_⟩, by simp⟩
  · have hy' : y.loc = .cell a := by cases s <;> simp [MemAct.ofEvent, MemAct.touch?] at hy <;> subst hy <;> rfl
    obtain ⟨b, hb, hlt⟩ := h _ hs
    rw [hy'] at hb
    cases hb
    omega
  · cases s <;> (simp [MemAct.ofEvent, MemAct.low]; exact h2)
theorem shOk_mono {Sh' : Nat → Prop} (h : ShOk Sh Shun) (hs : ∀ k, Sh k → Sh' k) : ShOk Sh' Shun := fun l hl => let ⟨a, h1, h2⟩ := h l hl; ⟨a, h1, hs _ h2⟩
theorem noEv_ep (w w' : World) (es : Array Event) (h : NoEv w w' es) : EP Shun B Wg w w' es := by
  have h' : es = #[] := h
  subst h'
  exact ep_nil
end
theorem inv_makeChan {r : Value} {w w' : World} {es : Array Event} (h : (Instr.makeChan 85 (.int .i64 0)).runT Try.prog w #[] = (.ok r w', es)) : r = .chan (some w.heap.size) ∧ w' = w.alloc (.chan 0 #[] false 0 0 false) := by
  rw [Sem.runT_eq] at h
  have h1 := (Prod.mk.inj h).1
  clear h
  simp [Instr.makeChan, go_sem] at h1
  exact ⟨h1.1.symm, h1.2.symm⟩
theorem outs_two {α : Type} {P : Program} {Q : α → Prop} {x : Value} {f : Int → Int → Sem α} (h : ∀ n, Outs P Q (f n n)) : Outs P Q (do let a ← asInt x; let b ← asInt x; f a b) := by
  cases x with
  | int k i => exact h i
  | pointer b => cases b <;> (intro v es a v' e hr; cases hr)
  | _ => intro v es a v' e hr; cases hr
theorem outs_makeSlice (P : Program) (t : TypeId) (x : Value) : Outs P (fun r => ∃ a n, r = .slice a n n) (Instr.makeSlice t x x) := by
  unfold Instr.makeSlice
  refine ob fun d => ?_
  split
  · refine outs_two fun l => ob fun i => ?_
    extract_lets bytes tl l' j1
    have h1 : ∀ u, Outs P (fun r => ∃ a n, r = Value.slice a n n) (j1 u) := by
      intro u
      unfold j1
      clear j1
      refine ob fun _ => ob fun z => ?_
      extract_lets n j2
      have h2 : ∀ u, Outs P (fun r => ∃ a n, r = Value.slice a n n) (j2 u) := by
        intro u
        unfold j2
        exact ob fun _ => outs_pure ⟨_, _, rfl⟩
      clear_value j2
      exact oi (ob fun _ => h2 _) (ob fun _ => ob fun _ => h2 _)
    clear_value j1
    exact oi (oi (ob fun _ => h1 _) (oi (ob fun _ => h1 _) (ob fun _ => ob fun _ => h1 _))) (h1 _)
  · exact outs_halt _
theorem inv_load39 {x r : Value} {w w' : World} {es : Array Event} (h : (Instr.loadAt 39 x).runT Try.prog w #[] = (.ok r w', es)) : ∃ u v, r = .agg #[u, v] := by
  rw [Sem.runT_eq] at h
  have h1 := (Prod.mk.inj h).1
  clear h
  cases x <;> simp [Instr.loadAt, Instr.sureAddr, loadVar, go_sem] at h1
  rename_i a
  cases a <;> simp [Instr.loadAt, Instr.sureAddr, loadVar, go_sem] at h1
  rename_i a
  have key : ∀ {α β : Type} {R : Result α} {f : α → World → Result β} {r : β} {w' : World}, R.andThen f = .ok r w' → ∃ u w1, R = .ok u w1 ∧ f u w1 = .ok r w' := by
    intro α β R f r w' h
    cases R with
    | ok u w1 => exact ⟨u, w1, rfl, h⟩
    | halt g w1 => cases h
  obtain ⟨u, w1, e1, e2⟩ := key h1
  obtain ⟨u2, w2, e3, e4⟩ := key e1
  obtain ⟨u3, w3, e5, e6⟩ := key e4
  cases e6
  cases e2
  exact ⟨_, _, rfl⟩
theorem nm63 : (Try.f63.name == "runtime.NumGoroutine") = false := by kernel_rfl
/-- The numbers of the blocks. -/
structure Zs (z0 z1 z2 z3 z4 z5 z6 z7 B : Nat) : Prop where
  e1 : z0 + 1 = z1
  e2 : z1 + 1 = z2
  e3 : z2 + 1 = z3
  e4 : z3 + 1 = z4
  e5 : z4 + 1 = z5
  e6 : z5 + 1 = z6
  e7 : z6 + 1 = z7
  eB : z7 = B
section
variable {z0 z1 z2 z3 z4 z5 z6 z7 B : Nat} (Z : Zs z0 z1 z2 z3 z4 z5 z6 z7 B)
include Z
theorem Zs.all : z1 = z0 + 1 ∧ z2 = z0 + 2 ∧ z3 = z0 + 3 ∧ z4 = z0 + 4 ∧ z5 = z0 + 5 ∧ z6 = z0 + 6 ∧ z7 = z0 + 7 ∧ B = z0 + 7 := by
  have := Z.e1; have := Z.e2; have := Z.e3; have := Z.e4; have := Z.e5; have := Z.e6; have := Z.e7; have := Z.eB
  omega
theorem Zs.le0 : z0 ≤ z0 := Nat.le_refl _
theorem Zs.le1 : z0 ≤ z1 := by have := Z.all; omega
theorem Zs.le3 : z0 ≤ z3 := by have := Z.all; omega
theorem Zs.le5 : z0 ≤ z5 := by have := Z.all; omega
theorem Zs.le6 : z0 ≤ z6 := by have := Z.all; omega
theorem Zs.lt0 : z0 < B := by have := Z.all; omega
theorem Zs.lt1 : z1 < B := by have := Z.all; omega
theorem Zs.lt3 : z3 < B := by have := Z.all; omega
theorem Zs.lt5 : z5 < B := by have := Z.all; omega
theorem Zs.lt6 : z6 < B := by have := Z.all; omega
theorem Zs.le3B : z3 ≤ B := by have := Z.all; omega
theorem Zs.le5B : z5 ≤ B := by have := Z.all; omega
theorem Zs.le5B' : z4 + 1 ≤ B := by have := Z.all; omega
theorem Zs.le6B : z6 ≤ B := by have := Z.all; omega
theorem Zs.ch3 : z2 ≠ z3 := by have := Z.all; omega
theorem Zs.ch5 : z2 ≠ z5 := by have := Z.all; omega
theorem Zs.ch6 : z2 ≠ z6 := by have := Z.all; omega
theorem Zs.ne {a b : Addr} (h : a.block ≠ b.block) : a ≠ b := fun e => h (congrArg Addr.block e)
end
/-- A store into the first known cell. -/
theorem LF.put' {S : FuncId → Bool} {Q : Frame → World → Prop} {x0 : Goroutine × World} {l : List Frame} {fr : Frame} {Sh : Nat → Prop} {K0 K : List (Addr × Value)} {c : Option Nat} {z : Nat} {τ : Nat → Question → Nat} {w : World} {a : Addr} {v u : Value}
    (h : LF S Q x0 l fr Sh K0 c z τ w) (hm : (a, v) ∈ K0) (ha : a.spot = none) (hc : ∀ d, c = some d → d ≠ a.block) (hne : ∀ p ∈ K, p ∈ K0 ∧ p.1 ≠ a) : LF S Q x0 l fr Sh ((a, u) :: K) c z τ (w.setCell a u) :=
  h.put hm ha hc fun p hp => by
    rcases List.mem_cons.1 hp with rfl | hp
    · exact .inl rfl
    · exact .inr (hne p hp)

set_option maxRecDepth 100000 in
set_option maxHeartbeats 4000000 in
theorem walkLead {S : FuncId → Bool} {Q : Frame → World → Prop} {x0 : Goroutine × World} {l : List Frame} {Sh : Nat → Prop} {Shun : Loc → Prop} {z0 z1 z2 z3 z4 z5 z6 z7 B : Nat} {p q : Value} (Z : Zs z0 z1 z2 z3 z4 z5 z6 z7 B) (hSh : ShOk Sh Shun) (hlow : ∀ l, Shun l → ∃ a, l = .cell a ∧ a.block < z0)
    (L' : Late ⟨Try.progTables, Alt.funcs⟩) (Bd : Bodies Try.progTables Alt.funcs Try.funcs S) {τ : Nat → Question → Nat} (cs : List Frame) (w : World)
    (hF : LF S Q x0 l (frA (TA p q undef undef undef undef undef undef undef undef undef undef undef) [0, 1, 2, 3, 4, 5, 6, 7, 8, 9, 10, 11, 12, 13, 14, 15, 16, 17, 18, 19, 20, 21]) Sh [] none z0 τ w) :
    Goes Try.prog true AtRel (EP Shun B z7) (fun g w => ∃ (b10 : Option Addr) (n : Nat) (x y p q t5 t6 t7 t9 t11 t15 t16 f2 f3 s9 s10 s11 s12 s13 s14 s15 s16 s17 s18 s19 : Value), (∃ k i, x = .int k i) ∧ (∃ k i, y = .int k i) ∧
        g = G ((base 37).at ⟨T37 p q f2 f3 (.pointer (some ⟨z3, 0, none⟩)) (.pointer (some ⟨z5, 0, none⟩)) (.pointer (some ⟨z6, 0, none⟩)) s9 s10 s11 s12 s13 s14 s15 s16 s17 s18 s19, []⟩ [.code (dropC 4 body37)]) cs ∧
        MF S Q x0 l (frA (TA p q t5 t6 t7 t9 (.slice b10 n n) t11 (.agg #[x, y]) undef undef t15 t16) [17, 18, 19, 20, 21]) (fun k => (fun k => (fun k => (fun k => (fun k => Sh k ∨ k = z0) k ∨ k = z1) k ∨ k = z3) k ∨ k = z5) k ∨ k = z6) z2 z3 z5 z6 (.slice b10 n n) x y z7 τ w) 300
      (G ((base 37).at ⟨#[p, q, undef, undef, undef, undef, undef, undef, undef, undef, undef, undef, undef, undef, undef, undef, undef, undef, undef, undef, undef, undef, undef, undef, undef], []⟩ [.code body37]) cs) w := by
  simp only [body37, Try.f37, Option.getD_some]
  obtain ⟨v, hco⟩ := hF.co
  obtain ⟨r5, w₃, v', es, q1, -, -, -, -, -, q6⟩ := hco.share L' Bd (o := Alt.op 5 (.field 36 (.tmp 1) 1) 34) (s := Instr.field 36 q 1) rfl rfl (by simp [execOp, Alt.op, TA, Act.eval]) (tm_field _ _ _)
  obtain ⟨e0, csq, rfl, hq⟩ := inv_field36 q1
  subst e0
  clear q1 hco
  obtain ⟨r6, w₃, v', es, q1, -, -, -, -, -, q7⟩ := q6.share L' Bd (o := Alt.op 6 (.field 36 (.tmp 0) 1) 34) (s := Instr.field 36 p 1) rfl rfl (by simp [execOp, Alt.op, TA, Act.eval, Act.put]) (tm_field _ _ _)
  obtain ⟨e0, csp, rfl, hp⟩ := inv_field36 q1
  subst e0
  clear q1 q6
  replace hF : LF S Q x0 l (frA (TA ((.agg csp)) ((.agg csq)) r5 r6 undef undef undef undef undef undef undef undef undef) [2, 3, 4, 5, 6, 7, 8, 9, 10, 11, 12, 13, 14, 15, 16, 17, 18, 19, 20, 21]) Sh [] none z0 τ _ := ⟨⟨_, q7⟩, hF.known, hF.ch, hF.size, hF.tape⟩
  clear q7
  repeat (first | (refine Goes.step rfl (fun _ h₁ => ?_); replace hF := LF.rely hF h₁; clear h₁; rw [stepG_seq]; simp only [goes_go]; refine ⟨ep_nil, ?_⟩) | (refine Goes.step rfl (fun _ h₁ => ?_); replace hF := LF.rely hF h₁; clear h₁; rw [stepG_region_end]; simp only [goes_go]; refine ⟨ep_nil, ?_⟩) | (refine Goes.step rfl (fun _ h₁ => ?_); replace hF := LF.rely hF h₁; clear h₁; rw [stepG_skip]; simp only [goes_go]; refine ⟨ep_nil, ?_⟩) | (refine Goes.step rfl (fun _ h₁ => ?_); replace hF := LF.rely hF h₁; clear h₁; rw [stepG_ret']; simp only [goes_go]; refine ⟨ep_nil, ?_⟩) | (refine Goes.step rfl (fun _ h₁ => ?_); replace hF := LF.rely hF h₁; clear h₁; rw [stepG_block]; simp only [goes_go]; refine ⟨ep_nil, ?_⟩) | (refine Goes.step rfl (fun _ h₁ => ?_); replace hF := LF.rely hF h₁; clear h₁; rw [stepG_loop]; simp only [goes_go]; refine ⟨ep_nil, ?_⟩) | (refine Goes.step rfl (fun _ h₁ => ?_); replace hF := LF.rely hF h₁; clear h₁; rw [stepG_inLoop]; simp only [goes_go]; refine ⟨ep_nil, ?_⟩) | (refine Goes.step rfl (fun _ h₁ => ?_); replace hF := LF.rely hF h₁; clear h₁; rw [stepG_inBlock]; simp only [goes_go]; refine ⟨ep_nil, ?_⟩) | (refine Goes.step rfl (fun _ h₁ => ?_); replace hF := LF.rely hF h₁; clear h₁; rw [stepG_end]; simp only [goes_go]; refine ⟨ep_nil, ?_⟩) | (refine Goes.step rfl (fun _ h₁ => ?_); replace hF := LF.rely hF h₁; clear h₁; rw [stepG_region]; simp only [goes_go, List.size_toArray, List.length_cons, List.length_nil, Nat.reduceAdd, Nat.zero_add, List.range, List.range.loop]; refine ⟨ep_nil, ?_⟩))
  refine Goes.step rfl (fun w₁ h₁ => ?_)
  replace hF := hF.rely h₁
  clear h₁
  refine goes_oper_k rfl rfl (by k_ne) (fun K hK => ?_)
  go_simp
  have hz := hF.size
  refine hK _ _ ⟨fun e he => by have hm := mem_listed he; simp [go_sem, *] at hm, ?_⟩
  clear hK K
  obtain ⟨v, hco⟩ := hF.co
  obtain ⟨v', hco', -⟩ := hco.box (o := Alt.op 9 (.box 36 (.const (.agg #[]))) 0) (c := csp) (t := 36) (w' := w₁.alloc (.cells csp 36)) rfl rfl (by decide) rfl rfl
  rw [hz] at hco'
  simp only [hz]
  have hG : LF S Q x0 l (frA (TA ((.agg csp)) ((.agg csq)) r5 r6 undef ((.pointer (some ⟨z0, 0, none⟩))) undef undef undef undef undef undef undef) [3, 4, 5, 6, 7, 8, 9, 10, 11, 12, 13, 14, 15, 16, 17, 18, 19, 20, 21]) (fun k => Sh k ∨ k = z0) [(⟨z0, 1, none⟩, r6)] none z1 τ (w₁.alloc (.cells csp 36)) := by
    have hH := hF.push (fr' := (frA (TA ((.agg csp)) ((.agg csq)) r5 r6 undef ((.pointer (some ⟨z0, 0, none⟩))) undef undef undef undef undef undef undef) [3, 4, 5, 6, 7, 8, 9, 10, 11, 12, 13, 14, 15, 16, 17, 18, 19, 20, 21])) (cs := csp) (t := 36) ⟨v', hco'⟩ [(⟨z0, 1, none⟩, r6)] (fun x hx => by
      simp only [List.mem_cons, List.not_mem_nil, or_false] at hx
      subst hx
      exact ⟨1, rfl, hp⟩)
    rw [show z0 + 1 = z1 from Z.e1] at hH
    exact hH
  clear hF hco hco' hz
  generalize w₁.alloc (.cells csp 36) = w₂ at hG ⊢
  replace hF := hG
  clear hG
  refine Goes.step rfl (fun w₁ h₁ => ?_)
  replace hF := hF.rely h₁
  clear h₁
  refine goes_oper_k rfl rfl (by k_ne) (fun K hK => ?_)
  go_simp
  have hz := hF.size
  refine hK _ _ ⟨fun e he => by have hm := mem_listed he; simp [go_sem, *] at hm, ?_⟩
  clear hK K
  obtain ⟨v, hco⟩ := hF.co
  obtain ⟨v', hco', -⟩ := hco.box (o := Alt.op 9 (.box 36 (.const (.agg #[]))) 0) (c := csq) (t := 36) (w' := w₁.alloc (.cells csq 36)) rfl rfl (by decide) rfl rfl
  rw [hz] at hco'
  simp only [hz]
  have hG : LF S Q x0 l (frA (TA ((.agg csp)) ((.agg csq)) r5 r6 undef ((.pointer (some ⟨z1, 0, none⟩))) undef undef undef undef undef undef undef) [4, 5, 6, 7, 8, 9, 10, 11, 12, 13, 14, 15, 16, 17, 18, 19, 20, 21]) (fun k => (fun k => Sh k ∨ k = z0) k ∨ k = z1) [(⟨z1, 1, none⟩, r5), (⟨z0, 1, none⟩, r6)] none z2 τ (w₁.alloc (.cells csq 36)) := by
    have hH := hF.push (fr' := (frA (TA ((.agg csp)) ((.agg csq)) r5 r6 undef ((.pointer (some ⟨z1, 0, none⟩))) undef undef undef undef undef undef undef) [4, 5, 6, 7, 8, 9, 10, 11, 12, 13, 14, 15, 16, 17, 18, 19, 20, 21])) (cs := csq) (t := 36) ⟨v', hco'⟩ [(⟨z1, 1, none⟩, r5)] (fun x hx => by
      simp only [List.mem_cons, List.not_mem_nil, or_false] at hx
      subst hx
      exact ⟨1, rfl, hq⟩)
    rw [show z1 + 1 = z2 from Z.e2] at hH
    exact hH
  clear hF hco hco' hz
  generalize w₁.alloc (.cells csq 36) = w₂ at hG ⊢
  replace hF := hG
  clear hG
  refine Goes.step rfl (fun w₁ h₁ => ?_)
  replace hF := hF.rely h₁
  clear h₁
  refine goes_oper_k rfl rfl (by k_ne) (fun K hK => ?_)
  go_simp
  refine hK _ _ ⟨fun e he => ?_, ?_⟩
  · have hm := mem_listed he
    simp [go_sem, *] at hm
  clear hK K 
  try w_num
  repeat (first | (refine Goes.step rfl (fun _ h₁ => ?_); replace hF := LF.rely hF h₁; clear h₁; rw [stepG_seq]; simp only [goes_go]; refine ⟨ep_nil, ?_⟩) | (refine Goes.step rfl (fun _ h₁ => ?_); replace hF := LF.rely hF h₁; clear h₁; rw [stepG_region_end]; simp only [goes_go]; refine ⟨ep_nil, ?_⟩) | (refine Goes.step rfl (fun _ h₁ => ?_); replace hF := LF.rely hF h₁; clear h₁; rw [stepG_skip]; simp only [goes_go]; refine ⟨ep_nil, ?_⟩) | (refine Goes.step rfl (fun _ h₁ => ?_); replace hF := LF.rely hF h₁; clear h₁; rw [stepG_ret']; simp only [goes_go]; refine ⟨ep_nil, ?_⟩) | (refine Goes.step rfl (fun _ h₁ => ?_); replace hF := LF.rely hF h₁; clear h₁; rw [stepG_block]; simp only [goes_go]; refine ⟨ep_nil, ?_⟩) | (refine Goes.step rfl (fun _ h₁ => ?_); replace hF := LF.rely hF h₁; clear h₁; rw [stepG_loop]; simp only [goes_go]; refine ⟨ep_nil, ?_⟩) | (refine Goes.step rfl (fun _ h₁ => ?_); replace hF := LF.rely hF h₁; clear h₁; rw [stepG_inLoop]; simp only [goes_go]; refine ⟨ep_nil, ?_⟩) | (refine Goes.step rfl (fun _ h₁ => ?_); replace hF := LF.rely hF h₁; clear h₁; rw [stepG_inBlock]; simp only [goes_go]; refine ⟨ep_nil, ?_⟩) | (refine Goes.step rfl (fun _ h₁ => ?_); replace hF := LF.rely hF h₁; clear h₁; rw [stepG_end]; simp only [goes_go]; refine ⟨ep_nil, ?_⟩) | (refine Goes.step rfl (fun _ h₁ => ?_); replace hF := LF.rely hF h₁; clear h₁; rw [stepG_region]; simp only [goes_go, List.size_toArray, List.length_cons, List.length_nil, Nat.reduceAdd, Nat.zero_add, List.range, List.range.loop]; refine ⟨ep_nil, ?_⟩))
  refine Goes.step rfl (fun w₁ h₁ => ?_)
  replace hF := hF.rely h₁
  clear h₁
  obtain ⟨v, hco⟩ := hF.co
  have hz := hF.size
  obtain ⟨r9, w₃, v', es, q1, q2, q3, -, qt, -, q6⟩ := hco.share L' Bd (o := Alt.op 9 (.makeChan 85 (.const (.int .i64 0))) 85) (s := Instr.makeChan 85 (.int .i64 0)) rfl rfl (by simp [execOp, Alt.op, TA, Act.eval, Act.put]) (tm_makeChan _ _)
  refine goes_share q1 rfl rfl (by k_ne) (by simp [execOp, Act.eval, Act.put]) (fun fs hfs => ⟨fun e he => evp_ok (shOk_mono hSh (fun k hk => by simp [hk])) (by rw [(inv_makeChan q1).2, size_alloc, hz, Z.e3]; exact Z.le3B) (q2 e (hfs e he)), ?_⟩)
  obtain ⟨e1, e2⟩ := inv_makeChan q1
  subst e1 e2
  rw [hz] at q6
  simp only [hz]
  have hG := hF.share (fr' := (frA (TA ((.agg csp)) ((.agg csq)) r5 r6 undef ((.chan (some z2))) undef undef undef undef undef undef undef) [5, 6, 7, 8, 9, 10, 11, 12, 13, 14, 15, 16, 17, 18, 19, 20, 21])) (k := 1) q3 ⟨_, q6⟩ (by rw [size_alloc]) qt
  have hc2 : (w₁.alloc (.chan 0 #[] false 0 0 false)).heap[z2]? = some (.chan 0 #[] false 0 0 false) := by
    show (w₁.heap.push _)[z2]? = _
    rw [← hz]
    simp
  replace hF : LF S Q x0 l (frA (TA ((.agg csp)) ((.agg csq)) r5 r6 undef ((.chan (some z2))) undef undef undef undef undef undef undef) [5, 6, 7, 8, 9, 10, 11, 12, 13, 14, 15, 16, 17, 18, 19, 20, 21]) (fun k => (fun k => Sh k ∨ k = z0) k ∨ k = z1) [(⟨z1, 1, none⟩, r5), (⟨z0, 1, none⟩, r6)] (some z2) z3 τ (w₁.alloc (.chan 0 #[] false 0 0 false)) := ⟨hG.co, hG.known, (fun d hd => by cases hd; exact hc2), hG.size.trans Z.e3, hG.tape⟩
  clear hco hz q1 q2 q3 qt q6 hfs hG hc2
  generalize w₁.alloc (.chan 0 #[] false 0 0 false) = w₂ at hF ⊢
  walk_nrm
  refine Goes.step rfl (fun w₁ h₁ => ?_)
  replace hF := hF.rely h₁
  clear h₁
  refine goes_oper_k rfl rfl (by k_ne) (fun K hK => ?_)
  go_simp
  have hz := hF.size
  refine hK _ _ ⟨fun e he => by have hm := mem_listed he; simp [go_sem, *] at hm, ?_⟩
  clear hK K
  obtain ⟨v, hco⟩ := hF.co
  obtain ⟨v', hco', -⟩ := hco.box (o := Alt.op 9 (.box 85 (.const (.agg #[]))) 0) (c := #[.chan none]) (t := 85) (w' := w₁.alloc (.cells #[.chan none] 85)) rfl rfl (by decide) rfl rfl
  rw [hz] at hco'
  simp only [hz]
  have hG : LF S Q x0 l (frA (TA ((.agg csp)) ((.agg csq)) r5 r6 undef ((.pointer (some ⟨z3, 0, none⟩))) undef undef undef undef undef undef undef) [6, 7, 8, 9, 10, 11, 12, 13, 14, 15, 16, 17, 18, 19, 20, 21]) (fun k => (fun k => (fun k => Sh k ∨ k = z0) k ∨ k = z1) k ∨ k = z3) [(⟨z3, 0, none⟩, (.chan none)), (⟨z1, 1, none⟩, r5), (⟨z0, 1, none⟩, r6)] (some z2) z4 τ (w₁.alloc (.cells #[.chan none] 85)) := by
    have hH := hF.push (fr' := (frA (TA ((.agg csp)) ((.agg csq)) r5 r6 undef ((.pointer (some ⟨z3, 0, none⟩))) undef undef undef undef undef undef undef) [6, 7, 8, 9, 10, 11, 12, 13, 14, 15, 16, 17, 18, 19, 20, 21])) (cs := #[.chan none]) (t := 85) ⟨v', hco'⟩ [(⟨z3, 0, none⟩, (.chan none))] (fun x hx => by
      simp only [List.mem_cons, List.not_mem_nil, or_false] at hx
      subst hx
      exact ⟨0, rfl, rfl⟩)
    rw [show z3 + 1 = z4 from Z.e4] at hH
    exact hH
  clear hF hco hco' hz
  generalize w₁.alloc (.cells #[.chan none] 85) = w₂ at hG ⊢
  replace hF := hG
  clear hG
  refine Goes.step rfl (fun w₁ h₁ => ?_)
  replace hF := hF.rely h₁
  clear h₁
  refine goes_oper_k rfl rfl (by k_ne) (fun K hK => ?_)
  have f0 := hF.cell (a := ⟨z3, 0, none⟩) (v := (.chan none)) (by simp)
  have f1 := hF.cold (a := ⟨z3, 0, none⟩) (v := (.chan none)) (by simp)
  go_simp
  refine hK _ _ ⟨fun e he => ?_, ?_⟩
  · have hm := mem_listed he
    simp [go_sem, *] at hm
    first | (subst hm; exact evp_cell hlow (Z.le3) (Z.lt3)) | (rcases hm with rfl | rfl <;> exact evp_cell hlow (Z.le3) (Z.lt3))
  clear hK K f0 f1
  replace hF := LF.put' (a := ⟨z3, 0, none⟩) (v := (.chan none)) (u := (.chan (some z2))) (K := [(⟨z1, 1, none⟩, r5), (⟨z0, 1, none⟩, r6)]) hF (by simp) rfl (fun d hd => by cases hd; exact Z.ch3) (fun x hx => by
    simp only [List.mem_cons, List.not_mem_nil, or_false] at hx
    rcases hx with rfl | rfl
    · exact ⟨by simp, Z.ne (by show z1 ≠ z3; have := Z.all; omega)⟩
    · exact ⟨by simp, Z.ne (by show z0 ≠ z3; have := Z.all; omega)⟩)
  generalize w₁.setCell ⟨z3, 0, none⟩ ((.chan (some z2))) = w₂ at hF ⊢
  obtain ⟨v, hco⟩ := hF.co
  obtain ⟨r7, w₃, v', es, q1, -, -, -, -, -, q6⟩ := hco.share L' Bd (o := Alt.op 7 (.call { callee := .builtin .len, args := #[.tmp 5], argTypes := #[34] }) 3) (s := Builtin.len_ #[34] 3 #[r5]) rfl rfl (by simp [execOp, Alt.op, TA, Act.eval, Act.put, resolve, invoke]; rfl) (tm_len _ _ _ (by kernel_rfl))
  obtain ⟨e0, aq, nq, cq, rfl, rfl⟩ := inv_len q1
  subst e0
  clear q1 hco
  replace hF : LF S Q x0 l (frA (TA ((.agg csp)) ((.agg csq)) ((.slice aq nq cq)) r6 ((.int .i64 nq)) ((.pointer (some ⟨z3, 0, none⟩))) undef undef undef undef undef undef undef) [7, 8, 9, 10, 11, 12, 13, 14, 15, 16, 17, 18, 19, 20, 21]) (fun k => (fun k => (fun k => Sh k ∨ k = z0) k ∨ k = z1) k ∨ k = z3) [(⟨z3, 0, none⟩, (.chan (some z2))), (⟨z1, 1, none⟩, (.slice aq nq cq)), (⟨z0, 1, none⟩, r6)] (some z2) z4 τ _ := ⟨⟨_, q6⟩, hF.known, hF.ch, hF.size, hF.tape⟩
  clear q6
  repeat (first | (refine Goes.step rfl (fun _ h₁ => ?_); replace hF := LF.rely hF h₁; clear h₁; rw [stepG_seq]; simp only [goes_go]; refine ⟨ep_nil, ?_⟩) | (refine Goes.step rfl (fun _ h₁ => ?_); replace hF := LF.rely hF h₁; clear h₁; rw [stepG_region_end]; simp only [goes_go]; refine ⟨ep_nil, ?_⟩) | (refine Goes.step rfl (fun _ h₁ => ?_); replace hF := LF.rely hF h₁; clear h₁; rw [stepG_skip]; simp only [goes_go]; refine ⟨ep_nil, ?_⟩) | (refine Goes.step rfl (fun _ h₁ => ?_); replace hF := LF.rely hF h₁; clear h₁; rw [stepG_ret']; simp only [goes_go]; refine ⟨ep_nil, ?_⟩) | (refine Goes.step rfl (fun _ h₁ => ?_); replace hF := LF.rely hF h₁; clear h₁; rw [stepG_block]; simp only [goes_go]; refine ⟨ep_nil, ?_⟩) | (refine Goes.step rfl (fun _ h₁ => ?_); replace hF := LF.rely hF h₁; clear h₁; rw [stepG_loop]; simp only [goes_go]; refine ⟨ep_nil, ?_⟩) | (refine Goes.step rfl (fun _ h₁ => ?_); replace hF := LF.rely hF h₁; clear h₁; rw [stepG_inLoop]; simp only [goes_go]; refine ⟨ep_nil, ?_⟩) | (refine Goes.step rfl (fun _ h₁ => ?_); replace hF := LF.rely hF h₁; clear h₁; rw [stepG_inBlock]; simp only [goes_go]; refine ⟨ep_nil, ?_⟩) | (refine Goes.step rfl (fun _ h₁ => ?_); replace hF := LF.rely hF h₁; clear h₁; rw [stepG_end]; simp only [goes_go]; refine ⟨ep_nil, ?_⟩) | (refine Goes.step rfl (fun _ h₁ => ?_); replace hF := LF.rely hF h₁; clear h₁; rw [stepG_region]; simp only [goes_go, List.size_toArray, List.length_cons, List.length_nil, Nat.reduceAdd, Nat.zero_add, List.range, List.range.loop]; refine ⟨ep_nil, ?_⟩))
  refine Goes.step rfl (fun w₁ h₁ => ?_)
  replace hF := hF.rely h₁
  clear h₁
  refine goes_oper_k rfl rfl (by k_ne) (fun K hK => ?_)
  go_simp
  refine hK _ _ ⟨fun e he => ?_, ?_⟩
  · have hm := mem_listed he
    simp [go_sem, *] at hm
  clear hK K 
  try w_num
  refine Goes.step rfl (fun w₁ h₁ => ?_)
  replace hF := hF.rely h₁
  clear h₁
  refine goes_oper_k rfl rfl (by k_ne) (fun K hK => ?_)
  have fx0 := hF.cell (a := ⟨z1, 1, none⟩) (v := (.slice aq nq cq)) (by simp)
  go_simp
  refine hK _ _ ⟨fun e he => ?_, ?_⟩
  · have hm := mem_listed he
    simp [go_sem, *] at hm
    subst hm; exact evp_cell hlow Z.le1 Z.lt1
  clear hK K fx0
  try w_num
  refine Goes.step rfl (fun w₁ h₁ => ?_)
  replace hF := hF.rely h₁
  clear h₁
  refine goes_call rfl rfl (by k_ne) rfl Try.func63 nm63 rfl ⟨ep_nil, ?_⟩
  walk_nrmf Try.f63
  repeat (first | (refine Goes.step rfl (fun _ h₁ => ?_); replace hF := LF.rely hF h₁; clear h₁; rw [stepG_seq]; simp only [goes_go]; refine ⟨ep_nil, ?_⟩) | (refine Goes.step rfl (fun _ h₁ => ?_); replace hF := LF.rely hF h₁; clear h₁; rw [stepG_region_end]; simp only [goes_go]; refine ⟨ep_nil, ?_⟩) | (refine Goes.step rfl (fun _ h₁ => ?_); replace hF := LF.rely hF h₁; clear h₁; rw [stepG_skip]; simp only [goes_go]; refine ⟨ep_nil, ?_⟩) | (refine Goes.step rfl (fun _ h₁ => ?_); replace hF := LF.rely hF h₁; clear h₁; rw [stepG_ret']; simp only [goes_go]; refine ⟨ep_nil, ?_⟩) | (refine Goes.step rfl (fun _ h₁ => ?_); replace hF := LF.rely hF h₁; clear h₁; rw [stepG_block]; simp only [goes_go]; refine ⟨ep_nil, ?_⟩) | (refine Goes.step rfl (fun _ h₁ => ?_); replace hF := LF.rely hF h₁; clear h₁; rw [stepG_loop]; simp only [goes_go]; refine ⟨ep_nil, ?_⟩) | (refine Goes.step rfl (fun _ h₁ => ?_); replace hF := LF.rely hF h₁; clear h₁; rw [stepG_inLoop]; simp only [goes_go]; refine ⟨ep_nil, ?_⟩) | (refine Goes.step rfl (fun _ h₁ => ?_); replace hF := LF.rely hF h₁; clear h₁; rw [stepG_inBlock]; simp only [goes_go]; refine ⟨ep_nil, ?_⟩) | (refine Goes.step rfl (fun _ h₁ => ?_); replace hF := LF.rely hF h₁; clear h₁; rw [stepG_end]; simp only [goes_go]; refine ⟨ep_nil, ?_⟩) | (refine Goes.step rfl (fun _ h₁ => ?_); replace hF := LF.rely hF h₁; clear h₁; rw [stepG_region]; simp only [goes_go, List.size_toArray, List.length_cons, List.length_nil, Nat.reduceAdd, Nat.zero_add, List.range, List.range.loop]; refine ⟨ep_nil, ?_⟩))
  refine Goes.step rfl (fun w₁ h₁ => ?_)
  replace hF := hF.rely h₁
  clear h₁
  refine goes_oper_k rfl rfl (by k_ne) (fun K hK => ?_)
  go_simp
  refine hK _ _ ⟨fun e he => ?_, ?_⟩
  · have hm := mem_listed he
    simp [go_sem, *] at hm
  clear hK K 
  try w_num
  repeat (first | (refine Goes.step rfl (fun _ h₁ => ?_); replace hF := LF.rely hF h₁; clear h₁; rw [stepG_seq]; simp only [goes_go]; refine ⟨ep_nil, ?_⟩) | (refine Goes.step rfl (fun _ h₁ => ?_); replace hF := LF.rely hF h₁; clear h₁; rw [stepG_region_end]; simp only [goes_go]; refine ⟨ep_nil, ?_⟩) | (refine Goes.step rfl (fun _ h₁ => ?_); replace hF := LF.rely hF h₁; clear h₁; rw [stepG_skip]; simp only [goes_go]; refine ⟨ep_nil, ?_⟩) | (refine Goes.step rfl (fun _ h₁ => ?_); replace hF := LF.rely hF h₁; clear h₁; rw [stepG_ret']; simp only [goes_go]; refine ⟨ep_nil, ?_⟩) | (refine Goes.step rfl (fun _ h₁ => ?_); replace hF := LF.rely hF h₁; clear h₁; rw [stepG_block]; simp only [goes_go]; refine ⟨ep_nil, ?_⟩) | (refine Goes.step rfl (fun _ h₁ => ?_); replace hF := LF.rely hF h₁; clear h₁; rw [stepG_loop]; simp only [goes_go]; refine ⟨ep_nil, ?_⟩) | (refine Goes.step rfl (fun _ h₁ => ?_); replace hF := LF.rely hF h₁; clear h₁; rw [stepG_inLoop]; simp only [goes_go]; refine ⟨ep_nil, ?_⟩) | (refine Goes.step rfl (fun _ h₁ => ?_); replace hF := LF.rely hF h₁; clear h₁; rw [stepG_inBlock]; simp only [goes_go]; refine ⟨ep_nil, ?_⟩) | (refine Goes.step rfl (fun _ h₁ => ?_); replace hF := LF.rely hF h₁; clear h₁; rw [stepG_end]; simp only [goes_go]; refine ⟨ep_nil, ?_⟩) | (refine Goes.step rfl (fun _ h₁ => ?_); replace hF := LF.rely hF h₁; clear h₁; rw [stepG_region]; simp only [goes_go, List.size_toArray, List.length_cons, List.length_nil, Nat.reduceAdd, Nat.zero_add, List.range, List.range.loop]; refine ⟨ep_nil, ?_⟩))
  refine Goes.step rfl (fun w₁ h₁ => ?_)
  replace hF := hF.rely h₁
  clear h₁
  refine goes_oper_k rfl rfl (by k_ne) (fun K hK => ?_)
  go_simp
  refine hK _ _ ⟨fun e he => ?_, ?_⟩
  · have hm := mem_listed he
    simp [go_sem, *] at hm
  clear hK K 
  try w_num
  refine Goes.step rfl (fun w₁ h₁ => ?_)
  replace hF := hF.rely h₁
  clear h₁
  refine goes_oper_k rfl rfl (by k_ne) (fun K hK => ?_)
  go_simp
  refine hK _ _ ⟨fun e he => ?_, ?_⟩
  · have hm := mem_listed he
    simp [go_sem, *] at hm
  clear hK K 
  try w_num
  refine Goes.step rfl (fun w₁ h₁ => ?_)
  replace hF := hF.rely h₁
  clear h₁
  obtain ⟨v, hco⟩ := hF.co
  have hz := hF.size
  obtain ⟨r10, w₃, v', es, q1, q2, q3, -, qt, -, q6⟩ := hco.share L' Bd (o := Alt.op 10 (.makeSlice 34 (.tmp 7) (.tmp 7)) 34) (s := Instr.makeSlice 34 (.int .i64 nq) (.int .i64 nq)) rfl rfl (by simp [execOp, Alt.op, TA, Act.eval, Act.put]) (tm_makeSlice _ _ _)
  have hs := mk_makeSlice _ _ _ _ _ _ _ _ _ q1
  refine goes_share q1 rfl rfl (by k_ne) (by simp [execOp, Act.eval, Act.put]) (fun fs hfs => ⟨fun e he => evp_ok (shOk_mono hSh (fun k hk => by simp [hk])) (by rw [hs, hz]; have := Z.all; omega) (q2 e (hfs e he)), ?_⟩)
  replace hF := hF.share (fr' := (frA (TA ((.agg csp)) ((.agg csq)) ((.slice aq nq cq)) r6 ((.int .i64 nq)) ((.pointer (some ⟨z3, 0, none⟩))) r10 undef undef undef undef undef undef) [8, 9, 10, 11, 12, 13, 14, 15, 16, 17, 18, 19, 20, 21])) (k := 1) q3 ⟨_, q6⟩ hs qt
  rw [show z4 + 1 = z5 from Z.e5] at hF
  obtain ⟨b10, n, rfl⟩ := outs_makeSlice _ _ _ _ _ _ _ _ q1
  clear hco hz q1 q2 q3 qt q6 hs hfs
  walk_nrm
  refine Goes.step rfl (fun w₁ h₁ => ?_)
  replace hF := hF.rely h₁
  clear h₁
  refine goes_oper_k rfl rfl (by k_ne) (fun K hK => ?_)
  go_simp
  refine hK _ _ ⟨fun e he => ?_, ?_⟩
  · have hm := mem_listed he
    simp [go_sem, *] at hm
  clear hK K 
  try w_num
  repeat (first | (refine Goes.step rfl (fun _ h₁ => ?_); replace hF := LF.rely hF h₁; clear h₁; rw [stepG_seq]; simp only [goes_go]; refine ⟨ep_nil, ?_⟩) | (refine Goes.step rfl (fun _ h₁ => ?_); replace hF := LF.rely hF h₁; clear h₁; rw [stepG_region_end]; simp only [goes_go]; refine ⟨ep_nil, ?_⟩) | (refine Goes.step rfl (fun _ h₁ => ?_); replace hF := LF.rely hF h₁; clear h₁; rw [stepG_skip]; simp only [goes_go]; refine ⟨ep_nil, ?_⟩) | (refine Goes.step rfl (fun _ h₁ => ?_); replace hF := LF.rely hF h₁; clear h₁; rw [stepG_ret']; simp only [goes_go]; refine ⟨ep_nil, ?_⟩) | (refine Goes.step rfl (fun _ h₁ => ?_); replace hF := LF.rely hF h₁; clear h₁; rw [stepG_block]; simp only [goes_go]; refine ⟨ep_nil, ?_⟩) | (refine Goes.step rfl (fun _ h₁ => ?_); replace hF := LF.rely hF h₁; clear h₁; rw [stepG_loop]; simp only [goes_go]; refine ⟨ep_nil, ?_⟩) | (refine Goes.step rfl (fun _ h₁ => ?_); replace hF := LF.rely hF h₁; clear h₁; rw [stepG_inLoop]; simp only [goes_go]; refine ⟨ep_nil, ?_⟩) | (refine Goes.step rfl (fun _ h₁ => ?_); replace hF := LF.rely hF h₁; clear h₁; rw [stepG_inBlock]; simp only [goes_go]; refine ⟨ep_nil, ?_⟩) | (refine Goes.step rfl (fun _ h₁ => ?_); replace hF := LF.rely hF h₁; clear h₁; rw [stepG_end]; simp only [goes_go]; refine ⟨ep_nil, ?_⟩) | (refine Goes.step rfl (fun _ h₁ => ?_); replace hF := LF.rely hF h₁; clear h₁; rw [stepG_region]; simp only [goes_go, List.size_toArray, List.length_cons, List.length_nil, Nat.reduceAdd, Nat.zero_add, List.range, List.range.loop]; refine ⟨ep_nil, ?_⟩))
  refine Goes.step rfl (fun w₁ h₁ => ?_)
  replace hF := hF.rely h₁
  clear h₁
  refine goes_oper_k rfl rfl (by k_ne) (fun K hK => ?_)
  go_simp
  refine hK _ _ ⟨fun e he => ?_, ?_⟩
  · have hm := mem_listed he
    simp [go_sem, *] at hm
  clear hK K 
  try w_num
  refine Goes.step rfl (fun w₁ h₁ => ?_)
  replace hF := hF.rely h₁
  clear h₁
  refine goes_oper_k rfl rfl (by k_ne) (fun K hK => ?_)
  go_simp
  refine hK _ _ ⟨fun e he => ?_, ?_⟩
  · have hm := mem_listed he
    simp [go_sem, *] at hm
  clear hK K 
  try w_num
  refine Goes.step rfl (fun w₁ h₁ => ?_)
  replace hF := hF.rely h₁
  clear h₁
  obtain ⟨v, hco⟩ := hF.co
  have hz := hF.size
  obtain ⟨r9, w₃, v', es, q1, q2, q3, -, qt, -, q6⟩ := hco.share L' Bd (o := Alt.op 9 (.call { callee := .builtin .copy, args := #[.tmp 10, .tmp 5], argTypes := #[34, 34] }) 3) (s := Builtin.copy_ #[34, 34] 3 #[.slice b10 n n, .slice aq nq cq]) rfl rfl (by simp [execOp, Alt.op, TA, Act.eval, Act.put, resolve, invoke]; rfl) (tm_copy _ _ _)
  have hs := mk_copy _ _ _ _ _ _ _ _ _ q1
  refine goes_share q1 rfl rfl (by k_ne) (by simp [execOp, Act.eval, Act.put, resolve, invoke]; rfl) (fun fs hfs => ⟨fun e he => evp_ok (shOk_mono hSh (fun k hk => by simp [hk])) (by rw [hs, hz]; have := Z.all; omega) (q2 e (hfs e he)), ?_⟩)
  replace hF := hF.share (fr' := (frA (TA ((.agg csp)) ((.agg csq)) ((.slice aq nq cq)) r6 ((.int .i64 nq)) r9 ((.slice b10 n n)) undef undef undef undef undef undef) [9, 10, 11, 12, 13, 14, 15, 16, 17, 18, 19, 20, 21])) (k := 0) q3 ⟨_, q6⟩ hs qt
  clear hco hz q1 q2 q3 qt q6 hs hfs
  walk_nrm
  repeat (first | (refine Goes.step rfl (fun _ h₁ => ?_); replace hF := LF.rely hF h₁; clear h₁; rw [stepG_seq]; simp only [goes_go]; refine ⟨ep_nil, ?_⟩) | (refine Goes.step rfl (fun _ h₁ => ?_); replace hF := LF.rely hF h₁; clear h₁; rw [stepG_region_end]; simp only [goes_go]; refine ⟨ep_nil, ?_⟩) | (refine Goes.step rfl (fun _ h₁ => ?_); replace hF := LF.rely hF h₁; clear h₁; rw [stepG_skip]; simp only [goes_go]; refine ⟨ep_nil, ?_⟩) | (refine Goes.step rfl (fun _ h₁ => ?_); replace hF := LF.rely hF h₁; clear h₁; rw [stepG_ret']; simp only [goes_go]; refine ⟨ep_nil, ?_⟩) | (refine Goes.step rfl (fun _ h₁ => ?_); replace hF := LF.rely hF h₁; clear h₁; rw [stepG_block]; simp only [goes_go]; refine ⟨ep_nil, ?_⟩) | (refine Goes.step rfl (fun _ h₁ => ?_); replace hF := LF.rely hF h₁; clear h₁; rw [stepG_loop]; simp only [goes_go]; refine ⟨ep_nil, ?_⟩) | (refine Goes.step rfl (fun _ h₁ => ?_); replace hF := LF.rely hF h₁; clear h₁; rw [stepG_inLoop]; simp only [goes_go]; refine ⟨ep_nil, ?_⟩) | (refine Goes.step rfl (fun _ h₁ => ?_); replace hF := LF.rely hF h₁; clear h₁; rw [stepG_inBlock]; simp only [goes_go]; refine ⟨ep_nil, ?_⟩) | (refine Goes.step rfl (fun _ h₁ => ?_); replace hF := LF.rely hF h₁; clear h₁; rw [stepG_end]; simp only [goes_go]; refine ⟨ep_nil, ?_⟩) | (refine Goes.step rfl (fun _ h₁ => ?_); replace hF := LF.rely hF h₁; clear h₁; rw [stepG_region]; simp only [goes_go, List.size_toArray, List.length_cons, List.length_nil, Nat.reduceAdd, Nat.zero_add, List.range, List.range.loop]; refine ⟨ep_nil, ?_⟩))
  refine Goes.step rfl (fun w₁ h₁ => ?_)
  replace hF := hF.rely h₁
  clear h₁
  refine goes_oper_k rfl rfl (by k_ne) (fun K hK => ?_)
  go_simp
  refine hK _ _ ⟨fun e he => ?_, ?_⟩
  · have hm := mem_listed he
    simp [go_sem, *] at hm
  clear hK K 
  try w_num
  refine Goes.step rfl (fun w₁ h₁ => ?_)
  replace hF := hF.rely h₁
  clear h₁
  refine goes_oper_k rfl rfl (by k_ne) (fun K hK => ?_)
  go_simp
  refine hK _ _ ⟨fun e he => ?_, ?_⟩
  · have hm := mem_listed he
    simp [go_sem, *] at hm
  clear hK K 
  try w_num
  repeat (first | (refine Goes.step rfl (fun _ h₁ => ?_); replace hF := LF.rely hF h₁; clear h₁; rw [stepG_seq]; simp only [goes_go]; refine ⟨ep_nil, ?_⟩) | (refine Goes.step rfl (fun _ h₁ => ?_); replace hF := LF.rely hF h₁; clear h₁; rw [stepG_region_end]; simp only [goes_go]; refine ⟨ep_nil, ?_⟩) | (refine Goes.step rfl (fun _ h₁ => ?_); replace hF := LF.rely hF h₁; clear h₁; rw [stepG_skip]; simp only [goes_go]; refine ⟨ep_nil, ?_⟩) | (refine Goes.step rfl (fun _ h₁ => ?_); replace hF := LF.rely hF h₁; clear h₁; rw [stepG_ret']; simp only [goes_go]; refine ⟨ep_nil, ?_⟩) | (refine Goes.step rfl (fun _ h₁ => ?_); replace hF := LF.rely hF h₁; clear h₁; rw [stepG_block]; simp only [goes_go]; refine ⟨ep_nil, ?_⟩) | (refine Goes.step rfl (fun _ h₁ => ?_); replace hF := LF.rely hF h₁; clear h₁; rw [stepG_loop]; simp only [goes_go]; refine ⟨ep_nil, ?_⟩) | (refine Goes.step rfl (fun _ h₁ => ?_); replace hF := LF.rely hF h₁; clear h₁; rw [stepG_inLoop]; simp only [goes_go]; refine ⟨ep_nil, ?_⟩) | (refine Goes.step rfl (fun _ h₁ => ?_); replace hF := LF.rely hF h₁; clear h₁; rw [stepG_inBlock]; simp only [goes_go]; refine ⟨ep_nil, ?_⟩) | (refine Goes.step rfl (fun _ h₁ => ?_); replace hF := LF.rely hF h₁; clear h₁; rw [stepG_end]; simp only [goes_go]; refine ⟨ep_nil, ?_⟩) | (refine Goes.step rfl (fun _ h₁ => ?_); replace hF := LF.rely hF h₁; clear h₁; rw [stepG_region]; simp only [goes_go, List.size_toArray, List.length_cons, List.length_nil, Nat.reduceAdd, Nat.zero_add, List.range, List.range.loop]; refine ⟨ep_nil, ?_⟩))
  refine Goes.step rfl (fun w₁ h₁ => ?_)
  replace hF := hF.rely h₁
  clear h₁
  refine goes_leave1 rfl rfl Try.func63 rfl ⟨ep_nil, ?_⟩
  walk_nrm
  refine Goes.step rfl (fun w₁ h₁ => ?_)
  replace hF := hF.rely h₁
  clear h₁
  refine goes_oper_k rfl rfl (by k_ne) (fun K hK => ?_)
  go_simp
  have hz := hF.size
  refine hK _ _ ⟨fun e he => by have hm := mem_listed he; simp [go_sem, *] at hm, ?_⟩
  clear hK K
  obtain ⟨v, hco⟩ := hF.co
  obtain ⟨v', hco', -⟩ := hco.box (o := Alt.op 9 (.box 34 (.const (.agg #[]))) 0) (c := #[.slice none 0 0]) (t := 34) (w' := w₁.alloc (.cells #[.slice none 0 0] 34)) rfl rfl (by decide) rfl rfl
  rw [hz] at hco'
  simp only [hz]
  have hG : LF S Q x0 l (frA (TA ((.agg csp)) ((.agg csq)) ((.slice aq nq cq)) r6 ((.int .i64 nq)) ((.pointer (some ⟨z5, 0, none⟩))) ((.slice b10 n n)) undef undef undef undef undef undef) [10, 11, 12, 13, 14, 15, 16, 17, 18, 19, 20, 21]) (fun k => (fun k => (fun k => (fun k => Sh k ∨ k = z0) k ∨ k = z1) k ∨ k = z3) k ∨ k = z5) [(⟨z5, 0, none⟩, (.slice none 0 0)), (⟨z3, 0, none⟩, (.chan (some z2))), (⟨z1, 1, none⟩, (.slice aq nq cq)), (⟨z0, 1, none⟩, r6)] (some z2) z6 τ (w₁.alloc (.cells #[.slice none 0 0] 34)) := by
    have hH := hF.push (fr' := (frA (TA ((.agg csp)) ((.agg csq)) ((.slice aq nq cq)) r6 ((.int .i64 nq)) ((.pointer (some ⟨z5, 0, none⟩))) ((.slice b10 n n)) undef undef undef undef undef undef) [10, 11, 12, 13, 14, 15, 16, 17, 18, 19, 20, 21])) (cs := #[.slice none 0 0]) (t := 34) ⟨v', hco'⟩ [(⟨z5, 0, none⟩, (.slice none 0 0))] (fun x hx => by
      simp only [List.mem_cons, List.not_mem_nil, or_false] at hx
      subst hx
      exact ⟨0, rfl, rfl⟩)
    rw [show z5 + 1 = z6 from Z.e6] at hH
    exact hH
  clear hF hco hco' hz
  generalize w₁.alloc (.cells #[.slice none 0 0] 34) = w₂ at hG ⊢
  replace hF := hG
  clear hG
  refine Goes.step rfl (fun w₁ h₁ => ?_)
  replace hF := hF.rely h₁
  clear h₁
  refine goes_oper_k rfl rfl (by k_ne) (fun K hK => ?_)
  have f0 := hF.cell (a := ⟨z5, 0, none⟩) (v := (.slice none 0 0)) (by simp)
  have f1 := hF.cold (a := ⟨z5, 0, none⟩) (v := (.slice none 0 0)) (by simp)
  go_simp
  refine hK _ _ ⟨fun e he => ?_, ?_⟩
  · have hm := mem_listed he
    simp [go_sem, *] at hm
    first | (subst hm; exact evp_cell hlow (Z.le5) (Z.lt5)) | (rcases hm with rfl | rfl <;> exact evp_cell hlow (Z.le5) (Z.lt5))
  clear hK K f0 f1
  replace hF := LF.put' (a := ⟨z5, 0, none⟩) (v := (.slice none 0 0)) (u := (.slice b10 n n)) (K := [(⟨z3, 0, none⟩, (.chan (some z2))), (⟨z1, 1, none⟩, (.slice aq nq cq)), (⟨z0, 1, none⟩, r6)]) hF (by simp) rfl (fun d hd => by cases hd; exact Z.ch5) (fun x hx => by
    simp only [List.mem_cons, List.not_mem_nil, or_false] at hx
    rcases hx with rfl | rfl | rfl
    · exact ⟨by simp, Z.ne (by show z3 ≠ z5; have := Z.all; omega)⟩
    · exact ⟨by simp, Z.ne (by show z1 ≠ z5; have := Z.all; omega)⟩
    · exact ⟨by simp, Z.ne (by show z0 ≠ z5; have := Z.all; omega)⟩)
  generalize w₁.setCell ⟨z5, 0, none⟩ ((.slice b10 n n)) = w₂ at hF ⊢
  repeat (first | (refine Goes.step rfl (fun _ h₁ => ?_); replace hF := LF.rely hF h₁; clear h₁; rw [stepG_seq]; simp only [goes_go]; refine ⟨ep_nil, ?_⟩) | (refine Goes.step rfl (fun _ h₁ => ?_); replace hF := LF.rely hF h₁; clear h₁; rw [stepG_region_end]; simp only [goes_go]; refine ⟨ep_nil, ?_⟩) | (refine Goes.step rfl (fun _ h₁ => ?_); replace hF := LF.rely hF h₁; clear h₁; rw [stepG_skip]; simp only [goes_go]; refine ⟨ep_nil, ?_⟩) | (refine Goes.step rfl (fun _ h₁ => ?_); replace hF := LF.rely hF h₁; clear h₁; rw [stepG_ret']; simp only [goes_go]; refine ⟨ep_nil, ?_⟩) | (refine Goes.step rfl (fun _ h₁ => ?_); replace hF := LF.rely hF h₁; clear h₁; rw [stepG_block]; simp only [goes_go]; refine ⟨ep_nil, ?_⟩) | (refine Goes.step rfl (fun _ h₁ => ?_); replace hF := LF.rely hF h₁; clear h₁; rw [stepG_loop]; simp only [goes_go]; refine ⟨ep_nil, ?_⟩) | (refine Goes.step rfl (fun _ h₁ => ?_); replace hF := LF.rely hF h₁; clear h₁; rw [stepG_inLoop]; simp only [goes_go]; refine ⟨ep_nil, ?_⟩) | (refine Goes.step rfl (fun _ h₁ => ?_); replace hF := LF.rely hF h₁; clear h₁; rw [stepG_inBlock]; simp only [goes_go]; refine ⟨ep_nil, ?_⟩) | (refine Goes.step rfl (fun _ h₁ => ?_); replace hF := LF.rely hF h₁; clear h₁; rw [stepG_end]; simp only [goes_go]; refine ⟨ep_nil, ?_⟩) | (refine Goes.step rfl (fun _ h₁ => ?_); replace hF := LF.rely hF h₁; clear h₁; rw [stepG_region]; simp only [goes_go, List.size_toArray, List.length_cons, List.length_nil, Nat.reduceAdd, Nat.zero_add, List.range, List.range.loop]; refine ⟨ep_nil, ?_⟩))
  refine Goes.step rfl (fun w₁ h₁ => ?_)
  replace hF := hF.rely h₁
  clear h₁
  refine goes_oper_k rfl rfl (by k_ne) (fun K hK => ?_)
  go_simp
  refine hK _ _ ⟨fun e he => ?_, ?_⟩
  · have hm := mem_listed he
    simp [go_sem, *] at hm
  clear hK K 
  try w_num
  refine Goes.step rfl (fun w₁ h₁ => ?_)
  replace hF := hF.rely h₁
  clear h₁
  refine goes_oper_k rfl rfl (by k_ne) (fun K hK => ?_)
  have fx0 := hF.cell (a := ⟨z0, 1, none⟩) (v := r6) (by simp)
  go_simp
  refine hK _ _ ⟨fun e he => ?_, ?_⟩
  · have hm := mem_listed he
    simp [go_sem, *] at hm
    subst hm; exact evp_cell hlow Z.le0 Z.lt0
  clear hK K fx0
  try w_num
  refine Goes.step rfl (fun w₁ h₁ => ?_)
  replace hF := hF.rely h₁
  clear h₁
  refine goes_oper_k rfl rfl (by k_ne) (fun K hK => ?_)
  go_simp
  refine hK _ _ ⟨fun e he => ?_, ?_⟩
  · have hm := mem_listed he
    simp [go_sem, *] at hm
  clear hK K 
  try w_num
  refine Goes.step rfl (fun w₁ h₁ => ?_)
  replace hF := hF.rely h₁
  clear h₁
  refine goes_oper_k rfl rfl (by k_ne) (fun K hK => ?_)
  have fx0 := hF.cell (a := ⟨z1, 1, none⟩) (v := (.slice aq nq cq)) (by simp)
  go_simp
  refine hK _ _ ⟨fun e he => ?_, ?_⟩
  · have hm := mem_listed he
    simp [go_sem, *] at hm
    subst hm; exact evp_cell hlow Z.le1 Z.lt1
  clear hK K fx0
  try w_num
  refine Goes.step rfl (fun w₁ h₁ => ?_)
  replace hF := hF.rely h₁
  clear h₁
  refine goes_oper_k rfl rfl (by k_ne) (fun K hK => ?_)
  go_simp
  refine hK _ _ ⟨fun e he => ?_, ?_⟩
  · have hm := mem_listed he
    simp [go_sem, *] at hm
  clear hK K 
  try w_num
  refine Goes.step rfl (fun w₁ h₁ => ?_)
  replace hF := hF.rely h₁
  clear h₁
  obtain ⟨v, hco⟩ := hF.co
  have hz := hF.size
  obtain ⟨r11, w₃, v', es, q1, q2, q3, -, qt, -, q6⟩ := hco.share L' Bd (o := Alt.op 11 (.indexAddr 34 (.tmp 6) (.tmp 7)) 0) (s := Instr.indexAt 34 r6 (.int .i64 nq)) rfl rfl (by simp [execOp, Alt.op, TA, Act.eval, Act.put]) (tm_indexAt _ _ _)
  have hs := mk_indexAt _ _ _ _ _ _ _ _ _ q1
  refine goes_share q1 rfl rfl (by k_ne) (by simp [execOp, Act.eval, Act.put]) (fun fs hfs => ⟨fun e he => evp_ok (shOk_mono hSh (fun k hk => by simp [hk])) (by rw [hs, hz]; have := Z.all; omega) (q2 e (hfs e he)), ?_⟩)
  replace hF := hF.share (fr' := (frA (TA ((.agg csp)) ((.agg csq)) ((.slice aq nq cq)) r6 ((.int .i64 nq)) ((.pointer (some ⟨z5, 0, none⟩))) ((.slice b10 n n)) r11 undef undef undef undef undef) [11, 12, 13, 14, 15, 16, 17, 18, 19, 20, 21])) (k := 0) q3 ⟨_, q6⟩ hs qt
  clear hco hz q1 q2 q3 qt q6 hs hfs
  walk_nrm
  refine Goes.step rfl (fun w₁ h₁ => ?_)
  replace hF := hF.rely h₁
  clear h₁
  obtain ⟨v, hco⟩ := hF.co
  have hz := hF.size
  obtain ⟨r12, w₃, v', es, q1, q2, q3, -, qt, -, q6⟩ := hco.share L' Bd (o := Alt.op 12 (.load 39 (.tmp 11)) 39) (s := Instr.loadAt 39 r11) rfl rfl (by simp [execOp, Alt.op, TA, Act.eval, Act.put]) (tm_loadAt _ _)
  have hs := mk_loadAt _ _ _ _ _ _ _ _ q1
  refine goes_share q1 rfl rfl (by k_ne) (by simp [execOp, Act.eval, Act.put]) (fun fs hfs => ⟨fun e he => evp_ok (shOk_mono hSh (fun k hk => by simp [hk])) (by rw [hs, hz]; have := Z.all; omega) (q2 e (hfs e he)), ?_⟩)
  replace hF := hF.share (fr' := (frA (TA ((.agg csp)) ((.agg csq)) ((.slice aq nq cq)) r6 ((.int .i64 nq)) ((.pointer (some ⟨z5, 0, none⟩))) ((.slice b10 n n)) r11 r12 undef undef undef undef) [12, 13, 14, 15, 16, 17, 18, 19, 20, 21])) (k := 0) q3 ⟨_, q6⟩ hs qt
  obtain ⟨x, y, rfl⟩ := inv_load39 q1
  clear hco hz q1 q2 q3 qt q6 hs hfs
  walk_nrm
  obtain ⟨v, hco⟩ := hF.co
  obtain ⟨r15, w₃, v', es, q1, -, -, -, -, -, q6⟩ := hco.share L' Bd (o := Alt.op 15 (.field 39 (.tmp 12) 0) 3) (s := Instr.field 39 (.agg #[x, y]) 0) rfl rfl (by simp [execOp, Alt.op, TA, Act.eval, Act.put]) (tm_field _ _ _)
  obtain ⟨e0, cs9, e1, e2⟩ := inv_field39a q1
  cases e1
  cases e2
  subst e0
  clear q1 hco
  obtain ⟨r16, w₃, v', es, q1, -, -, -, -, -, q7⟩ := q6.share L' Bd (o := Alt.op 9 (.binOp .and 3 (.tmp 15) (.tmp 15) 3) 3) (s := binOp .and 3 x x) rfl rfl (by simp [execOp, Alt.op, TA, Act.eval, Act.put]; rfl) (tm_binOp _ _ _ _ (by kernel_rfl))
  obtain ⟨e0, ix⟩ := inv_and q1
  subst e0
  clear q1 q6
  replace hF : LF S Q x0 l (frA (TA ((.agg csp)) ((.agg csq)) ((.slice aq nq cq)) r6 ((.int .i64 nq)) r16 ((.slice b10 n n)) r11 ((.agg #[x, y])) undef undef x undef) [14, 15, 16, 17, 18, 19, 20, 21]) (fun k => (fun k => (fun k => (fun k => Sh k ∨ k = z0) k ∨ k = z1) k ∨ k = z3) k ∨ k = z5) [(⟨z5, 0, none⟩, (.slice b10 n n)), (⟨z3, 0, none⟩, (.chan (some z2))), (⟨z1, 1, none⟩, (.slice aq nq cq)), (⟨z0, 1, none⟩, r6)] (some z2) z6 τ _ := ⟨⟨_, q7⟩, hF.known, hF.ch, hF.size, hF.tape⟩
  clear q7
  obtain ⟨v, hco⟩ := hF.co
  obtain ⟨r15, w₃, v', es, q1, -, -, -, -, -, q6⟩ := hco.share L' Bd (o := Alt.op 16 (.field 39 (.tmp 12) 1) 3) (s := Instr.field 39 (.agg #[x, y]) 1) rfl rfl (by simp [execOp, Alt.op, TA, Act.eval, Act.put]) (tm_field _ _ _)
  obtain ⟨e0, cs9, e1, e2⟩ := inv_field39b q1
  cases e1
  cases e2
  subst e0
  clear q1 hco
  obtain ⟨r16, w₃, v', es, q1, -, -, -, -, -, q7⟩ := q6.share L' Bd (o := Alt.op 9 (.binOp .and 3 (.tmp 16) (.tmp 16) 3) 3) (s := binOp .and 3 y y) rfl rfl (by simp [execOp, Alt.op, TA, Act.eval, Act.put]; rfl) (tm_binOp _ _ _ _ (by kernel_rfl))
  obtain ⟨e0, iy⟩ := inv_and q1
  subst e0
  clear q1 q6
  replace hF : LF S Q x0 l (frA (TA ((.agg csp)) ((.agg csq)) ((.slice aq nq cq)) r6 ((.int .i64 nq)) r16 ((.slice b10 n n)) r11 ((.agg #[x, y])) undef undef x y) [16, 17, 18, 19, 20, 21]) (fun k => (fun k => (fun k => (fun k => Sh k ∨ k = z0) k ∨ k = z1) k ∨ k = z3) k ∨ k = z5) [(⟨z5, 0, none⟩, (.slice b10 n n)), (⟨z3, 0, none⟩, (.chan (some z2))), (⟨z1, 1, none⟩, (.slice aq nq cq)), (⟨z0, 1, none⟩, r6)] (some z2) z6 τ _ := ⟨⟨_, q7⟩, hF.known, hF.ch, hF.size, hF.tape⟩
  clear q7
  obtain ⟨kx, vx, rfl⟩ := ix
  obtain ⟨ky, vy, rfl⟩ := iy
  refine Goes.step rfl (fun w₁ h₁ => ?_)
  replace hF := hF.rely h₁
  clear h₁
  refine goes_oper_k rfl rfl (by k_ne) (fun K hK => ?_)
  go_simp
  have hz := hF.size
  refine hK _ _ ⟨fun e he => by have hm := mem_listed he; simp [go_sem, *] at hm, ?_⟩
  clear hK K
  obtain ⟨v, hco⟩ := hF.co
  obtain ⟨v', hco', -⟩ := hco.box (o := Alt.op 9 (.box 39 (.const (.agg #[]))) 0) (c := #[.int .i64 0, .int .i64 0]) (t := 39) (w' := w₁.alloc (.cells #[.int .i64 0, .int .i64 0] 39)) rfl rfl (by decide) rfl rfl
  rw [hz] at hco'
  simp only [hz]
  have hG : LF S Q x0 l (frA (TA ((.agg csp)) ((.agg csq)) ((.slice aq nq cq)) r6 ((.int .i64 nq)) ((.pointer (some ⟨z6, 0, none⟩))) ((.slice b10 n n)) r11 ((.agg #[.int kx vx, .int ky vy])) undef undef ((.int kx vx)) ((.int ky vy))) [17, 18, 19, 20, 21]) (fun k => (fun k => (fun k => (fun k => (fun k => Sh k ∨ k = z0) k ∨ k = z1) k ∨ k = z3) k ∨ k = z5) k ∨ k = z6) [(⟨z6, 0, none⟩, (.int .i64 0)), (⟨z6, 1, none⟩, (.int .i64 0)), (⟨z5, 0, none⟩, (.slice b10 n n)), (⟨z3, 0, none⟩, (.chan (some z2))), (⟨z1, 1, none⟩, (.slice aq nq cq)), (⟨z0, 1, none⟩, r6)] (some z2) z7 τ (w₁.alloc (.cells #[.int .i64 0, .int .i64 0] 39)) := by
    have hH := hF.push (fr' := (frA (TA ((.agg csp)) ((.agg csq)) ((.slice aq nq cq)) r6 ((.int .i64 nq)) ((.pointer (some ⟨z6, 0, none⟩))) ((.slice b10 n n)) r11 ((.agg #[.int kx vx, .int ky vy])) undef undef ((.int kx vx)) ((.int ky vy))) [17, 18, 19, 20, 21])) (cs := #[.int .i64 0, .int .i64 0]) (t := 39) ⟨v', hco'⟩ [(⟨z6, 0, none⟩, (.int .i64 0)), (⟨z6, 1, none⟩, (.int .i64 0))] (fun x hx => by
      simp only [List.mem_cons, List.not_mem_nil, or_false] at hx
      rcases hx with rfl | rfl
      · exact ⟨0, rfl, rfl⟩
      · exact ⟨1, rfl, rfl⟩)
    rw [show z6 + 1 = z7 from Z.e7] at hH
    exact hH
  clear hF hco hco' hz
  generalize w₁.alloc (.cells #[.int .i64 0, .int .i64 0] 39) = w₂ at hG ⊢
  replace hF := hG
  clear hG
  refine Goes.step rfl (fun w₁ h₁ => ?_)
  replace hF := hF.rely h₁
  clear h₁
  refine goes_oper_k rfl rfl (by k_ne) (fun K hK => ?_)
  have f0 := hF.cell (a := ⟨z6, 0, none⟩) (v := (.int .i64 0)) (by simp)
  have f1 := hF.cold (a := ⟨z6, 0, none⟩) (v := (.int .i64 0)) (by simp)
  have f2 := hF.cell (a := ⟨z6, 1, none⟩) (v := (.int .i64 0)) (by simp)
  have f3 := hF.cold (a := ⟨z6, 1, none⟩) (v := (.int .i64 0)) (by simp)
  go_simp
  refine hK _ _ ⟨fun e he => ?_, ?_⟩
  · have hm := mem_listed he
    simp [go_sem, *] at hm
    first | (subst hm; exact evp_cell hlow (Z.le6) (Z.lt6)) | (rcases hm with rfl | rfl <;> exact evp_cell hlow (Z.le6) (Z.lt6))
  clear hK K f0 f1 f2 f3
  replace hF := LF.put' (a := ⟨z6, 0, none⟩) (v := (.int .i64 0)) (u := (.int kx vx)) (K := [(⟨z6, 1, none⟩, (.int .i64 0)), (⟨z5, 0, none⟩, (.slice b10 n n)), (⟨z3, 0, none⟩, (.chan (some z2))), (⟨z1, 1, none⟩, (.slice aq nq cq)), (⟨z0, 1, none⟩, r6)]) hF (by simp) rfl (fun d hd => by cases hd; exact Z.ch6) (fun x hx => by
    simp only [List.mem_cons, List.not_mem_nil, or_false] at hx
    rcases hx with rfl | rfl | rfl | rfl | rfl
    · exact ⟨by simp, fun e => by injection e with e1 e2; cases e2⟩
    · exact ⟨by simp, Z.ne (by show z5 ≠ z6; have := Z.all; omega)⟩
    · exact ⟨by simp, Z.ne (by show z3 ≠ z6; have := Z.all; omega)⟩
    · exact ⟨by simp, Z.ne (by show z1 ≠ z6; have := Z.all; omega)⟩
    · exact ⟨by simp, Z.ne (by show z0 ≠ z6; have := Z.all; omega)⟩)
  replace hF := LF.put' (a := ⟨z6, 1, none⟩) (v := (.int .i64 0)) (u := (.int ky vy)) (K := [(⟨z6, 0, none⟩, (.int kx vx)), (⟨z5, 0, none⟩, (.slice b10 n n)), (⟨z3, 0, none⟩, (.chan (some z2))), (⟨z1, 1, none⟩, (.slice aq nq cq)), (⟨z0, 1, none⟩, r6)]) hF (by simp) rfl (fun d hd => by cases hd; exact Z.ch6) (fun x hx => by
    simp only [List.mem_cons, List.not_mem_nil, or_false] at hx
    rcases hx with rfl | rfl | rfl | rfl | rfl
    · exact ⟨by simp, fun e => by injection e with e1 e2; cases e2⟩
    · exact ⟨by simp, Z.ne (by show z5 ≠ z6; have := Z.all; omega)⟩
    · exact ⟨by simp, Z.ne (by show z3 ≠ z6; have := Z.all; omega)⟩
    · exact ⟨by simp, Z.ne (by show z1 ≠ z6; have := Z.all; omega)⟩
    · exact ⟨by simp, Z.ne (by show z0 ≠ z6; have := Z.all; omega)⟩)
  generalize (w₁.setCell ⟨z6, 0, none⟩ ((.int kx vx))).setCell ⟨z6, 1, none⟩ ((.int ky vy)) = w₂ at hF ⊢
  refine Goes.step rfl (fun w₁ h₁ => ?_)
  replace hF := hF.rely h₁
  clear h₁
  rw [stepG_region_end]
  simp only [goes_go]
  refine ⟨ep_nil, ?_⟩
  refine Goes.stop (fun w₅ h₅ => ?_)
  replace hF := hF.rely h₅
  clear h₅
  exact ⟨b10, n, _, _, _, _, _, _, _, _, _, _, _, _, _, _, _, _, _, _, _, _, _, _, _, _, ⟨_, _, rfl⟩, ⟨_, _, rfl⟩, rfl, ⟨hF.co, hF.cell (a := ⟨z3, 0, none⟩) (v := (.chan (some z2))) (by simp), hF.cell (a := ⟨z5, 0, none⟩) (v := (.slice b10 n n)) (by simp), hF.cold (a := ⟨z5, 0, none⟩) (v := (.slice b10 n n)) (by simp), hF.cell (a := ⟨z6, 0, none⟩) (v := (.int kx vx)) (by simp), hF.cell (a := ⟨z6, 1, none⟩) (v := (.int ky vy)) (by simp), hF.ch _ rfl, hF.size, hF.tape⟩⟩
end Go.Proofs.Ph

/-
  The phase, whole: from the entry of passNext to behind its return, in step with the lone run of its sequential twin.
-/
set_option linter.all false
namespace Go.Proofs.Ph
open Go Go.Conc Go.RowKit Go.Conc.Lib Go.ConcX.Gen Go.Proofs.Tr
open Go.ConcR (KK wgBlock WgAt stA smA)

section
variable {T : Tables} {F F' : Array Func} {S : FuncId → Bool} {Q : Frame → World → Prop}
/-- A step of the lone run's own that looks at no memory. -/
theorem _root_.Go.Proofs.Tr.Co.ctl {x0 : Goroutine × World} {l : List Frame} {fr fr' : Frame} {v : World} {Sh : Nat → Prop} {w : World} (h : Co T F' F S Q x0 l fr v Sh w) {es : Array Event}
    (hst : stepG ⟨T, F'⟩ true (G fr (l ++ [cz F'.size])) v = .go (G fr' (l ++ [cz F'.size])) v es) (hd : FrOk (okS T F' F S) fr') (hfn : fr'.fn = fr.fn) : Co T F' F S Q x0 l fr' v Sh w :=
  h.idle (d := v.drawn) (v' := v) hst ⟨hd, by rw [hfn]; exact h.dom.fn, h.dom.callers⟩ h.sim (Nat.le_refl _)
end
section
variable {S : FuncId → Bool} {Q : Frame → World → Prop} {x0 : Goroutine × World} {l : List Frame} {fr : Frame} {Sh : Nat → Prop} {w v : World} {p q t5 t6 t7 t9 t10 t11 t12 t13 t14 t15 t16 : Value}
/-- The lone run's way from its last operation to behind its return. -/
theorem alt_end (h : Co Try.progTables Alt.funcs Try.funcs S Q x0 (fr :: l) (frA (TA p q t5 t6 t7 t9 t10 t11 t12 t13 t14 t15 t16) [21]) v Sh w) :
    Down ⟨Try.progTables, Alt.funcs⟩ (cz Alt.funcs.size) x0 (G (fr.finish t14) (l ++ [cz Alt.funcs.size]), v) ∧ Sim Sh (v.at w.drawn) w ∧ x0.2.heap.size ≤ v.heap.size := by
  let a1 : Act := ⟨#[p, q, undef, undef, t14, t5, t6, t7, undef, t9, t10, t11, t12, t13, t14, t15, t16, undef, undef, undef, undef, undef, undef, undef, undef], []⟩
  have h1 : Co Try.progTables Alt.funcs Try.funcs S Q x0 (fr :: l) ((base 37).at a1 [.inRegion Alt.ops []]) v Sh w := by
    refine h.ctl (stepG_value (P := ⟨Try.progTables, Alt.funcs⟩) (main := true) (cs := (fr :: l) ++ [cz Alt.funcs.size]) (k := []) (rest := []) (i := 21) (o := Alt.op 4 (.assign (.tmp 14)) 34) (v := t14) (w := v) rfl rfl (by decide) rfl) ?_ rfl
    have := h.dom.ok.finish t14
    exact this
  have h2 : Co Try.progTables Alt.funcs Try.funcs S Q x0 (fr :: l) ((base 37).at a1 []) v Sh w :=
    h1.ctl (stepG_region_end (P := ⟨Try.progTables, Alt.funcs⟩)) (h1.dom.ok.to (by simp)) rfl
  have h3 : Co Try.progTables Alt.funcs Try.funcs S Q x0 (fr :: l) { (base 37).at a1 [] with mode := .returning } v Sh w :=
    h2.ctl (stepG_end (P := ⟨Try.progTables, Alt.funcs⟩)) (h2.dom.ok.mode _) rfl
  have hst : stepG ⟨Try.progTables, Alt.funcs⟩ true (G { (base 37).at a1 [] with mode := .returning } ((fr :: l) ++ [cz Alt.funcs.size])) v = .go (G (fr.finish t14) (l ++ [cz Alt.funcs.size])) v #[] := by
    refine stepG_leave (P := ⟨Try.progTables, Alt.funcs⟩) (fn := Alt.f37) (b := base 37) (a := a1) rfl rfl Alt.func37 ?_ ?_
    · exact results_tmp Alt.results37 _ _ _
    · exact events_results_tmp Alt.results37 _ _
  have hd : Down ⟨Try.progTables, Alt.funcs⟩ (cz Alt.funcs.size) (G { (base 37).at a1 [] with mode := .returning } ((fr :: l) ++ [cz Alt.funcs.size]), v) (G (fr.finish t14) (l ++ [cz Alt.funcs.size]), v) :=
    .one (d := v.drawn) (fun y _ => notz (by simp)) hst
  refine ⟨?_, h3.sim, h3.size⟩
  rcases h3.down with e | e
  · rw [e]; exact hd
  · exact .more e hd
end
/-- What holds of the world wherever the draws stand is carried along. -/
theorem goes_inv {P : Program} {main : Bool} {D : World → World → Array Event → Prop} {Stop : Goroutine → World → Prop} {I : World → Prop} (hD : ∀ w w' es, D w w' es → w' = w) (hI : ∀ w w₁, AtRel w w₁ → I w → I w₁) : ∀ {n : Nat} {g : Goroutine} {w : World}, Goes P main AtRel D Stop n g w → I w → Goes P main AtRel D (fun g w => Stop g w ∧ I w) n g w
  | 0, g, w, h, hi => fun w₁ h₁ => ⟨h w₁ h₁, hI _ _ h₁ hi⟩
  | n + 1, g, w, h, hi => by
    rcases h with h | ⟨hs, h⟩
    · exact .inl fun w₁ h₁ => ⟨h w₁ h₁, hI _ _ h₁ hi⟩
    · refine .inr ⟨hs, fun w₁ h₁ => ?_⟩
      have h2 := h w₁ h₁
      generalize stepG P main g w₁ = st at h2 ⊢
      cases st with
      | go g' w' es =>
        simp only [goes_go] at h2 ⊢
        refine ⟨h2.1, goes_inv hD hI h2.2 ?_⟩
        rw [hD _ _ _ h2.1]
        exact hI _ _ h₁ hi
      | _ => exact h2
/-- The world stands; what is listed may be. -/
def DZ (Shun : Loc → Prop) (B : Nat) (w w' : World) (es : Array Event) : Prop := w' = w ∧ ∀ e ∈ es, EvL Shun B e
theorem dz_nil {Shun : Loc → Prop} {B : Nat} {w : World} : DZ Shun B w w #[] := ⟨rfl, fun e he => by simp at he⟩
theorem goes_sub {P : Program} {main : Bool} {R R' : World → World → Prop} {D : World → World → Array Event → Prop} {Stop : Goroutine → World → Prop} (hR : ∀ w w₁, R' w w₁ → R w w₁) : ∀ {n : Nat} {g : Goroutine} {w : World}, Goes P main R D Stop n g w → Goes P main R' D Stop n g w
  | 0, g, w, h => fun w₁ h₁ => h w₁ (hR _ _ h₁)
  | n + 1, g, w, h => by
    rcases h with h | ⟨hs, h⟩
    · exact .inl fun w₁ h₁ => h w₁ (hR _ _ h₁)
    · refine .inr ⟨hs, fun w₁ h₁ => ?_⟩
      have h2 := h w₁ (hR _ _ h₁)
      generalize stepG P main g w₁ = st at h2 ⊢
      cases st with
      | go g' w' es =>
        simp only [goes_go] at h2 ⊢
        exact ⟨h2.1, goes_sub hR h2.2⟩
      | _ => exact h2
section
variable {S : FuncId → Bool} {Q : Frame → World → Prop} {x0 : Goroutine × World} {l l' : List Frame} {fr' fr : Frame} {Sh : Nat → Prop} {Shun Shun' : Loc → Prop} {N Wg c lc lg nx z' z B : Nat} {t : Value}
theorem bf_at (K : Blocks Sh Shun N Wg c lc lg nx z' B) (w w₁ : World) (r : AtRel w w₁) (h : BF S Q x0 l fr Sh Wg c lc lg t z w) : BF S Q x0 l fr Sh Wg c lc lg t z w₁ := by
  obtain ⟨d, rfl⟩ := r
  exact h.rely K (RB.at _ d)
set_option maxRecDepth 100000 in
set_option maxHeartbeats 2000000 in
/-- From behind Wait to behind the return. -/
theorem walkEnd (K : Blocks Sh Shun N Wg c lc lg nx z' B) (hlow : ∀ l, Shun' l → ∃ a, l = .cell a ∧ (a.block < N ∨ a.block = Wg)) {p q f2 f3 s9 s10 s11 s12 s13 s14 s15 s16 s17 s18 s19 : Value} {rx : Option Addr} {rm rk : Nat} (w : World)
    (hF : BF S Q x0 l' fr' Sh Wg c lc lg (.slice rx rm rk) z w) :
    Goes Try.prog true AtRel (DZ Shun' B) (fun g w => g = G (fr.finish (.slice rx rm rk)) l ∧ BF S Q x0 l' fr' Sh Wg c lc lg (.slice rx rm rk) z w) 60
      (G ((base 37).at ((aW p q f2 f3 s9 s10 s11 s12 s13 s14 s15 s16 s17 s18 s19 Wg lc lg nx).put (some 23) (.tuple #[])) [.inRegion ops8 [], .code (dropC 9 body37)]) (fr :: l)) w := by
  simp only [body37, Try.f37, Option.getD_some, dropC, aW]
  walk_nrm
  repeat (first | (refine Goes.step rfl (fun _ h₁ => ?_); replace hF := bf_at K _ _ h₁ hF; clear h₁; rw [stepG_seq]; simp only [goes_go]; refine ⟨dz_nil, ?_⟩) | (refine Goes.step rfl (fun _ h₁ => ?_); replace hF := bf_at K _ _ h₁ hF; clear h₁; rw [stepG_region_end]; simp only [goes_go]; refine ⟨dz_nil, ?_⟩) | (refine Goes.step rfl (fun _ h₁ => ?_); replace hF := bf_at K _ _ h₁ hF; clear h₁; rw [stepG_skip]; simp only [goes_go]; refine ⟨dz_nil, ?_⟩) | (refine Goes.step rfl (fun _ h₁ => ?_); replace hF := bf_at K _ _ h₁ hF; clear h₁; rw [stepG_ret']; simp only [goes_go]; refine ⟨dz_nil, ?_⟩) | (refine Goes.step rfl (fun _ h₁ => ?_); replace hF := bf_at K _ _ h₁ hF; clear h₁; rw [stepG_block]; simp only [goes_go]; refine ⟨dz_nil, ?_⟩) | (refine Goes.step rfl (fun _ h₁ => ?_); replace hF := bf_at K _ _ h₁ hF; clear h₁; rw [stepG_loop]; simp only [goes_go]; refine ⟨dz_nil, ?_⟩) | (refine Goes.step rfl (fun _ h₁ => ?_); replace hF := bf_at K _ _ h₁ hF; clear h₁; rw [stepG_inLoop]; simp only [goes_go]; refine ⟨dz_nil, ?_⟩) | (refine Goes.step rfl (fun _ h₁ => ?_); replace hF := bf_at K _ _ h₁ hF; clear h₁; rw [stepG_inBlock]; simp only [goes_go]; refine ⟨dz_nil, ?_⟩) | (refine Goes.step rfl (fun _ h₁ => ?_); replace hF := bf_at K _ _ h₁ hF; clear h₁; rw [stepG_end]; simp only [goes_go]; refine ⟨dz_nil, ?_⟩) | (refine Goes.step rfl (fun _ h₁ => ?_); replace hF := bf_at K _ _ h₁ hF; clear h₁; rw [stepG_region]; simp only [goes_go, List.size_toArray, List.length_cons, List.length_nil, Nat.reduceAdd, Nat.zero_add, List.range, List.range.loop]; refine ⟨dz_nil, ?_⟩))
  have lgEv : EvL Shun' B ⟨.cell ⟨lg, 0, none⟩, false, false⟩ := by
    refine ⟨fun y hy hs => ?_, by simp, by simp, ?_⟩
    · have hy' : y.loc = .cell ⟨lg, 0, none⟩ := by simp [MemAct.ofEvent, MemAct.touch?] at hy; subst hy; rfl
      obtain ⟨b, hb, hlt⟩ := hlow _ hs
      rw [hy'] at hb
      cases hb
      rcases hlt with h | h
      · exact absurd K.lgN (Nat.not_le.2 h)
      · exact absurd h.symm K.wlg
    · simp [MemAct.ofEvent, MemAct.low]
      exact Nat.lt_of_lt_of_le K.lgB K.zB
  refine Goes.step rfl (fun w₁ h₁ => ?_)
  replace hF := bf_at K _ _ h₁ hF
  clear h₁
  refine goes_oper_k rfl rfl (by k_ne) (fun K' hK => ?_)
  have f0 := hF.lgv
  go_simp
  refine hK _ _ ⟨⟨rfl, fun e he => ?_⟩, ?_⟩
  · have hm := mem_listed he
    simp [go_sem, *] at hm
    subst hm
    exact lgEv
  clear hK K' f0
  refine Goes.step rfl (fun w₁ h₁ => ?_)
  replace hF := bf_at K _ _ h₁ hF
  clear h₁
  refine goes_oper_k rfl rfl (by k_ne) (fun K' hK => ?_)
  go_simp
  refine hK _ _ ⟨⟨rfl, fun e he => ?_⟩, ?_⟩
  · have hm := mem_listed he
    simp [go_sem, *] at hm
  clear hK K'
  repeat (first | (refine Goes.step rfl (fun _ h₁ => ?_); replace hF := bf_at K _ _ h₁ hF; clear h₁; rw [stepG_seq]; simp only [goes_go]; refine ⟨dz_nil, ?_⟩) | (refine Goes.step rfl (fun _ h₁ => ?_); replace hF := bf_at K _ _ h₁ hF; clear h₁; rw [stepG_region_end]; simp only [goes_go]; refine ⟨dz_nil, ?_⟩) | (refine Goes.step rfl (fun _ h₁ => ?_); replace hF := bf_at K _ _ h₁ hF; clear h₁; rw [stepG_skip]; simp only [goes_go]; refine ⟨dz_nil, ?_⟩) | (refine Goes.step rfl (fun _ h₁ => ?_); replace hF := bf_at K _ _ h₁ hF; clear h₁; rw [stepG_ret']; simp only [goes_go]; refine ⟨dz_nil, ?_⟩) | (refine Goes.step rfl (fun _ h₁ => ?_); replace hF := bf_at K _ _ h₁ hF; clear h₁; rw [stepG_block]; simp only [goes_go]; refine ⟨dz_nil, ?_⟩) | (refine Goes.step rfl (fun _ h₁ => ?_); replace hF := bf_at K _ _ h₁ hF; clear h₁; rw [stepG_loop]; simp only [goes_go]; refine ⟨dz_nil, ?_⟩) | (refine Goes.step rfl (fun _ h₁ => ?_); replace hF := bf_at K _ _ h₁ hF; clear h₁; rw [stepG_inLoop]; simp only [goes_go]; refine ⟨dz_nil, ?_⟩) | (refine Goes.step rfl (fun _ h₁ => ?_); replace hF := bf_at K _ _ h₁ hF; clear h₁; rw [stepG_inBlock]; simp only [goes_go]; refine ⟨dz_nil, ?_⟩) | (refine Goes.step rfl (fun _ h₁ => ?_); replace hF := bf_at K _ _ h₁ hF; clear h₁; rw [stepG_end]; simp only [goes_go]; refine ⟨dz_nil, ?_⟩) | (refine Goes.step rfl (fun _ h₁ => ?_); replace hF := bf_at K _ _ h₁ hF; clear h₁; rw [stepG_region]; simp only [goes_go, List.size_toArray, List.length_cons, List.length_nil, Nat.reduceAdd, Nat.zero_add, List.range, List.range.loop]; refine ⟨dz_nil, ?_⟩))
  refine Goes.step rfl (fun w₁ h₁ => ?_)
  replace hF := bf_at K _ _ h₁ hF
  clear h₁
  rw [stepG_leave rfl rfl Try.func37 (results_tmp Try.results37 _ _ _) (events_results_tmp Try.results37 _ _)]
  simp only [goes_go]
  refine ⟨dz_nil, Goes.stop fun w₂ h₂ => ⟨rfl, bf_at K _ _ h₂ hF⟩⟩
end
end Go.Proofs.Ph

/-
  The phase's law for this program: what the driver asks at the entry of passNext.
-/
set_option linter.all false
namespace Go.Proofs.Ph
open Go Go.Conc Go.RowKit Go.Conc.Lib Go.ConcX.Gen Go.Proofs.Tr
open Go.ConcR (KK wgBlock WgAt stA smA)

theorem enterAlt (p q : Value) : Frame.enter ⟨Try.progTables, Alt.funcs⟩ 37 #[p, q] .normal = (base 37).at ⟨TA p q undef undef undef undef undef undef undef undef undef undef undef, []⟩ [.code (.region 0 Alt.ops false)] := by
  rw [enter_at (P := ⟨Try.progTables, Alt.funcs⟩) (fn := Alt.f37) (c := .region 0 Alt.ops false) _ Alt.func37 rfl, Alt.ntmps37]
  simp only [List.size_toArray, List.length_cons, List.length_nil, Nat.reduceAdd, Nat.reduceSub, Array.replicate_succ, Array.replicate_zero, List.push_toArray, List.append_toArray, List.nil_append, List.cons_append, TA]
theorem enterTry (p q : Value) : Frame.enter ⟨Try.progTables, Try.funcs⟩ 37 #[p, q] .normal = (base 37).at ⟨#[p, q, undef, undef, undef, undef, undef, undef, undef, undef, undef, undef, undef, undef, undef, undef, undef, undef, undef, undef, undef, undef, undef, undef, undef], []⟩ [.code body37] := by
  rw [enter_at (P := ⟨Try.progTables, Try.funcs⟩) (fn := Try.f37) (c := body37) _ Try.func37 rfl, Try.ntmps37]
  simp only [List.size_toArray, List.length_cons, List.length_nil, Nat.reduceAdd, Nat.reduceSub, Array.replicate_succ, Array.replicate_zero, List.push_toArray, List.append_toArray, List.nil_append, List.cons_append, TA]
theorem two_args {xs : Array Value} (h : xs.size = 2) : ∃ p q, xs = #[p, q] := by
  obtain ⟨l⟩ := xs
  match l, h with
  | [p, q], _ => exact ⟨p, q, rfl⟩
theorem running_of {fr : Frame} {l : List Frame} : (G fr l).status = .running := rfl

set_option maxRecDepth 100000 in
set_option maxHeartbeats 2000000 in
theorem phaseOk {S : FuncId → Bool} (hS : S 37 = true) (L' : Late ⟨Try.progTables, Alt.funcs⟩) (Bd : Bodies Try.progTables Alt.funcs Try.funcs S) : PhaseOk Try.progTables Alt.funcs Try.funcs S 37 := by
  intro Q τ bs xs fr l v w gs sl t q Sh Shun B D hrun hxs hf hl hbase A hT
  obtain ⟨-, zero, leave, past, sim, shun, low, hb, tape⟩ := A
  obtain ⟨fn, hfn, hxs⟩ := hxs
  obtain rfl : Try.f37 = fn := Option.some.inj ((show Try.funcs[37]? = some Try.f37 from Try.func37).symm.trans hfn)
  obtain ⟨p, q', rfl⟩ := two_args (hxs.trans (by rw [Try.params37]; rfl))
  have hz : v.heap.size = w.heap.size := sim.size
  have D37 : Dom Try.progTables Alt.funcs Try.funcs S (Frame.enter ⟨Try.progTables, Alt.funcs⟩ 37 #[p, q'] .normal) (fr :: l) := ⟨enter_ok Bd hS _, hS, fun c hc => by
    rcases List.mem_cons.1 hc with rfl | hc
    · exact ⟨D.ok, D.fn, hrun⟩
    · exact D.callers c hc⟩
  obtain ⟨x0, hx0⟩ : ∃ x0, x0 = (G (Frame.enter ⟨Try.progTables, Alt.funcs⟩ 37 #[p, q'] .normal) (fr :: (l ++ [cz Alt.funcs.size])), v) := ⟨_, rfl⟩
  have C0 : Co Try.progTables Alt.funcs Try.funcs S Q x0 (fr :: l) (Frame.enter ⟨Try.progTables, Alt.funcs⟩ 37 #[p, q'] .normal) v Sh w := ⟨hT, .inl hx0, sim, by rw [hx0]; exact Nat.le_refl _, D37, by simp⟩
  rw [enterAlt] at C0
  have C1 : Co Try.progTables Alt.funcs Try.funcs S Q x0 (fr :: l) (frA (TA p q' undef undef undef undef undef undef undef undef undef undef undef) [0, 1, 2, 3, 4, 5, 6, 7, 8, 9, 10, 11, 12, 13, 14, 15, 16, 17, 18, 19, 20, 21]) v Sh w := by
    refine C0.ctl (stepG_region (P := ⟨Try.progTables, Alt.funcs⟩)) ⟨rfl, rfl, rfl, fun x hx => ?_⟩ rfl
    have h2 := C0.dom.ok.todo (.code (.region 0 Alt.ops false)) (by simp [Frame.at])
    have e : x = .inRegion Alt.ops [0, 1, 2, 3, 4, 5, 6, 7, 8, 9, 10, 11, 12, 13, 14, 15, 16, 17, 18, 19, 20, 21] := List.mem_singleton.1 hx
    subst e
    exact h2
  obtain ⟨z0, hz0⟩ : ∃ z0, w.heap.size = z0 := ⟨_, rfl⟩
  obtain ⟨z1, e1⟩ : ∃ z1, z0 + 1 = z1 := ⟨_, rfl⟩
  obtain ⟨z2, e2⟩ : ∃ z2, z1 + 1 = z2 := ⟨_, rfl⟩
  obtain ⟨z3, e3⟩ : ∃ z3, z2 + 1 = z3 := ⟨_, rfl⟩
  obtain ⟨z4, e4⟩ : ∃ z4, z3 + 1 = z4 := ⟨_, rfl⟩
  obtain ⟨z5, e5⟩ : ∃ z5, z4 + 1 = z5 := ⟨_, rfl⟩
  obtain ⟨z6, e6⟩ : ∃ z6, z5 + 1 = z6 := ⟨_, rfl⟩
  obtain ⟨z7, e7⟩ : ∃ z7, z6 + 1 = z7 := ⟨_, rfl⟩
  have Z : Zs z0 z1 z2 z3 z4 z5 z6 z7 z7 := ⟨e1, e2, e3, e4, e5, e6, e7, rfl⟩
  have hF : LF S Q x0 (fr :: l) (frA (TA p q' undef undef undef undef undef undef undef undef undef undef undef) [0, 1, 2, 3, 4, 5, 6, 7, 8, 9, 10, 11, 12, 13, 14, 15, 16, 17, 18, 19, 20, 21]) Sh [] none z0 τ w := ⟨⟨v, C1⟩, by simp, by simp, hz0, tape⟩
  have hlow : ∀ l, Shun l → ∃ a, l = .cell a ∧ a.block < z0 := fun l h => by
    obtain ⟨a, h1, h2⟩ := shun l h
    have h3 : a.block < v.heap.size := sim.low _ h2
    exact ⟨a, h1, by omega⟩
  rw [enterTry] at zero
  obtain ⟨N1, gs1, a1, w1, sl1, t1, q1, r1, k1, g1, L1, P1, S1⟩ := zero_walk (P := Try.prog) (X := Past Shun z7) (sl := sl) (fun t i fn pos es hi hx hm => hx.mute hi hm) (fun g w h => by obtain ⟨_, _, _, _, _, _, _, _, _, _, _, _, _, _, _, _, _, _, _, _, _, _, _, _, _, _, _, _, h, _⟩ := h; rw [h]; rfl)
    (fun w w' es h t fn pos hx => hx.own (fun e he => (h e he).1)) 300 gs _ w t q zero leave (past.mono (by have := Z.all; omega)) (walkLead Z shun hlow L' Bd (fr :: l) w hF)
  obtain ⟨b10, n, x, y, p2, q2, t5, t6, t7, t9, t11, t15, t16, f2, f3, s9, s10, s11, s12, s13, s14, s15, s16, s17, s18, s19, hx, hy, ha, hM⟩ := S1 w1.drawn
  replace hM : MF S Q x0 (fr :: l) (frA (TA p2 q2 t5 t6 t7 t9 (.slice b10 n n) t11 (.agg #[x, y]) undef undef t15 t16) [17, 18, 19, 20, 21]) (fun k => (fun k => (fun k => (fun k => (fun k => Sh k ∨ k = z0) k ∨ k = z1) k ∨ k = z3) k ∨ k = z5) k ∨ k = z6) z2 z3 z5 z6 (.slice b10 n n) x y z7 τ w1 := hM
  obtain ⟨Sh1, hSh1⟩ : ∃ Sh1 : Nat → Prop, Sh1 = (fun k => (fun k => (fun k => (fun k => (fun k => Sh k ∨ k = z0) k ∨ k = z1) k ∨ k = z3) k ∨ k = z5) k ∨ k = z6) := ⟨_, rfl⟩
  rw [← hSh1] at hM
  have hin : ∀ k, Sh1 k ↔ Sh k ∨ k = z0 ∨ k = z1 ∨ k = z3 ∨ k = z5 ∨ k = z6 := fun k => by rw [hSh1]; simp only [or_assoc]
  clear hSh1
  subst ha
  have Za := Z.all
  have Bk : Blocks (fun k => Sh1 k ∨ k = z7) Shun z0 z7 z2 z3 z5 z6 (z7 + 1) (z7 + 4) := by
    refine ⟨by omega, .inr rfl, .inl ((hin _).2 (by simp)), .inl ((hin _).2 (by simp)), .inl ((hin _).2 (by simp)), fun l h => ?_, by omega, by omega, by omega, by omega, by omega, by omega, by omega, by omega, by omega, by omega, by omega, by omega, by omega, by omega, by omega, by omega, by omega, by omega, by omega, ⟨z0, by omega, .inl ((hin _).2 (by simp))⟩⟩
    obtain ⟨a, h1, h2⟩ := shun l h
    obtain ⟨a', h3, h4⟩ := hlow l h
    rw [h1] at h3
    cases h3
    exact ⟨a, h1, .inl ((hin _).2 (.inl h2)), h4⟩
  have W2 := walkMid (p := p2) (q := q2) (t5 := t5) (t6 := t6) (t7 := t7) (t9 := t9) (t11 := t11) (t15 := t15) (t16 := t16) (f2 := f2) (f3 := f3) (s9 := s9) (s10 := s10) (s11 := s11) (s12 := s12) (s13 := s13) (s14 := s14) (s15 := s15) (s16 := s16) (s17 := s17) (s18 := s18) (s19 := s19) hx hy Bk rfl L' Bd (fr :: l) w1 hM
  have Bk2 := Bk.dead (z7 + 1)
  obtain ⟨fw, hfw⟩ : ∃ fw, fw = fW (aW p2 q2 f2 f3 s9 s10 s11 s12 s13 s14 s15 s16 s17 s18 s19 z7 z3 z5 z6) := ⟨_, rfl⟩
  have hks : 0 < gs1.size := (Array.getElem?_eq_some_iff.1 g1).1
  have Ge : Geo link.tWg z7 z2 (Two z3 z6) Shun (RoT z3 z6) (z7 + 4) (FinT S Q x0 (fr :: l) (fun k => (Sh1 k ∨ k = z7) ∨ k = z7 + 1) z7 z2 z3 z5 (z7 + 4) p2 q2 t5 t6 t7 (.slice b10 n n) t11 (.agg #[x, y]) t15 t16) gs1.size := by
    refine ⟨hks, ⟨fun l h hs => ?_, fun l h => ⟨fun hs => ?_, fun h2 => ?_⟩, fun l h => ?_⟩, by omega, by omega, by omega, fun b h => ?_, fun w w' hr h => ?_⟩
    · obtain ⟨a, h1, h2⟩ := hlow l hs
      obtain ⟨b, h3, h4⟩ := h
      rw [h1] at h3
      cases h3
      omega
    · obtain ⟨a, h1, h2⟩ := hlow l hs
      obtain ⟨b, h3, h4⟩ := h
      rw [h1] at h3
      cases h3
      rcases h4 with h4 | h4 <;> omega
    · obtain ⟨a, h1, h2⟩ := h2
      obtain ⟨b, h3, h4⟩ := h
      rw [h1] at h3
      cases h3
      rcases h4 with h4 | h4 <;> omega
    · obtain ⟨a, h1, h2⟩ := hlow l h
      exact ⟨a, h1⟩
    · rcases h with h | h <;> omega
    · obtain ⟨u9, u13, rx, rm, rk, h⟩ := h
      exact ⟨u9, u13, rx, rm, rk, h.rely Bk2 hr⟩
  obtain ⟨N2, m2, t2, r2, Dn⟩ := phase (P := Try.prog) (sl := sl1) (E := NoEv) (AnchW := AnchW link z7 (fW (aW p2 q2 f2 f3 s9 s10 s11 s12 s13 s14 s15 s16 s17 s18 s19 z7 z3 z5 z6)) (fr :: l)) (Anch := Anch Try.prog link.tWg z7 (G ((base 37).at ((aW p2 q2 f2 f3 s9 s10 s11 s12 s13 s14 s15 s16 s17 s18 s19 z7 z3 z5 z6).put (some 23) (.tuple #[])) [.inRegion ops8 [], .code (dropC 9 body37)]) (fr :: l))) Ge
    (fun g w h => by obtain ⟨T, h, _⟩ := h; rw [h]; rfl) (fun g w h => waitRound wgLib g w h) g1 L1 P1 (Nat.le_refl z7) (fun w w' es h e he => by rw [show es = #[] from h] at he; simp at he) W2
  obtain ⟨gs2, w2, sl2, q2', a2, rfl, g2, run2, An, k2, L2, P2, Fin2, tape2, live2⟩ := Dn
  obtain ⟨u9, u13, rx, rm, rk, hBF⟩ := Fin2
  obtain ⟨n3, W3⟩ := An w2 live2
  have hlow2 : ∀ l, (Shun l ∨ OfW z7 l) → ∃ a, l = .cell a ∧ (a.block < z0 ∨ a.block = z7) := fun l h => by
    rcases h with h | h
    · obtain ⟨a, h1, h2⟩ := hlow l h
      exact ⟨a, h1, .inl h2⟩
    · obtain ⟨a, h1, h2⟩ := h
      exact ⟨a, h1, .inr h2⟩
  have W4 := goes_inv (fun _ _ _ h => h.1) (bf_at Bk2) (goes_sub (fun w w₁ h => by obtain ⟨d, rfl⟩ := h; exact R0.at w d) W3) hBF
  have W5 := goes_then (P := Try.prog) (main := true) (R := AtRel) (D := DZ (fun l => Shun l ∨ OfW z7 l) (z7 + 4)) atRel_refl (k := 60) (fun g w h => by
    obtain ⟨rfl, hB⟩ := h
    exact walkEnd (fr := fr) (l := l) Bk2 hlow2 w hB) (goes_doing (fun w w' es h => ⟨h.1, by rw [h.2]; simp⟩) W4)
  have W6 := goes_inv (I := fun w => w.tape = τ) (fun _ _ _ h => h.1) (fun w w₁ h ht => by obtain ⟨d, rfl⟩ := h; exact ht) W5 tape2
  obtain ⟨N3, gs3, a3, w3, sl3, t3, q3, r3, k3, g3, L3, P3, S3⟩ := zero_walk (P := Try.prog) (X := Past (fun l => Shun l ∨ OfW z7 l) (z7 + 4)) (sl := sl2) (fun t i fn pos es hi hx hm => hx.mute hi hm) (fun g w h => by rw [h.1.1]; rfl)
    (fun w w' es h t fn pos hx => hx.own h.2) _ gs2 _ w2 t2 q2' g2 L2 P2 W6
  obtain ⟨⟨ha3, hB3⟩, tape3⟩ := S3 w3.drawn
  obtain ⟨v3, hC3⟩ := hB3.co
  obtain ⟨d1, d2, d3⟩ := alt_end hC3
  have d3' : v.heap.size ≤ v3.heap.size := by rw [hx0] at d3; exact d3
  refine ⟨N1 + N2 + N3, gs3, w3, sl3, t3, q3, v3, _, fun l => Shun l ∨ OfW z7 l, z7 + 4, .slice rx rm rk, ?_, ⟨.same ⟨D.ok.finish _, by rw [(frame_finish_mode fr _).2]; exact D.fn, D.callers⟩ (by rw [(frame_finish_mode fr _).2]; exact hf) hl, by rw [← ha3]; exact g3, L3, P3, d2, fun l h => ?_, ?_, fun k h => ?_, tape3⟩, d3', by rw [← hx0]; exact d1⟩
  · have r1' : runNT ⟨Try.progTables, Try.funcs⟩ N1 (crowd gs w sl) t = _ := r1
    have r2' : runNT ⟨Try.progTables, Try.funcs⟩ N2 (crowd gs1 w1 sl1) t1 = _ := r2
    have r3' : runNT ⟨Try.progTables, Try.funcs⟩ N3 (crowd gs2 w2 sl2) t2 = _ := r3
    simp only [runNT_add, r1', r2', r3']
  · obtain ⟨a, h1, h2⟩ := hlow2 l h
    rcases h with h | h
    · obtain ⟨a, h1, h2⟩ := shun l h
      exact ⟨a, h1, .inl (.inl ((hin _).2 (.inl h2)))⟩
    · obtain ⟨a, h1, h2⟩ := h
      exact ⟨a, h1, .inl (.inr h2)⟩
  · have := hB3.size
    have e : w3.heap.size = z7 + 4 := this
    omega
  · have hv : bs ≤ z0 := by omega
    rcases h with (h | h) | h
    · rcases (hin _).1 h with h | h | h | h | h | h
      · exact hb _ h
      all_goals omega
    all_goals omega
end Go.Proofs.Ph
