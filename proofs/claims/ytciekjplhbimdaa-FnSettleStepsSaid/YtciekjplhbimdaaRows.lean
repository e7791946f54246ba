/-
  No cell of these rows narrows 'for every input' (looked for: loops, veiled, ifaces, maps, wideKeys, modest, calm, conditions, laid).
  DERIVED. THE GIVEN ROWS OF THIS SEAT. 7 by the template 'for every input the law returns true; each argument reads behind the call as it read before'; 0 by the template 'total and deterministic' (their statements: YtciekjplhbimdaaTotals.lean).
  GIVEN WITH THE SEED: the statements are not yours to turn. If you find one false, say at which input.
  Laid BY PROGRAM, IN A SANDBOX (cutbox-rows.mjs): the forced cells as the released guide's own fill.sh prints them over the translation d5bc6c392a505d14… (all of the seat's roots in one cut). By AI agents, Wed Nov 11 2026. No macro, syntax, notation, axiom, sorry.
-/
import Derived.Test.YtciekjplhbimdaaChecked
import GoSem.Claim
import GoSem.ClaimJoined
import GoSem.ClaimMapViews
import Derived.JoinedTies
import Derived.KernelRfl
namespace Go.Proofs.Ytciekjplhbimdaa
/- THE CELL 'sum', in the pinned program and in every row, IS THE sha256 OF THE DUMP (.gsa) THAT YtciekjplhbimdaaProg.lean LOADS. Nothing in Lean hashes anything: it is a label: what it is worth is what the hold of that sum in a sandbox is worth. -/
noncomputable def Try.pinned : Pinned := { name := "ytciekjplhbimdaa", sum := "d5bc6c392a505d14048c1199c32339861dbd187673facc00c44b17c2eddc9320", checked := Try.checked }
namespace Rows
def none {H : Type} : Left H := { results := [], args := [] }

/-- 'laws.FnQuiet': WHATEVER THE INPUT: true; the input reads as it did. -/
def fnQuietSpec : ChangeSpec := { name := "fnQuiet", fn := fun _ => fun
  | [d1, d2] => { results := [.lit (.bool true)], args := [d1, d2] }
  | _ => none }
def fnQuietRow : OpenClaim := { program := "ytciekjplhbimdaa", sum := "d5bc6c392a505d14048c1199c32339861dbd187673facc00c44b17c2eddc9320", func := "loop.example/chainfiles/laws.FnQuiet", spec := "fnQuiet", inPlace := ["(*sync.WaitGroup).Add", "internal/race.ReleaseMerge", "internal/race.Disable", "internal/race.Enable", "internal/synctest.IsInBubble", "internal/synctest.Associate[sync.WaitGroup]", "sync.fatal", "sync/atomic.OrUint64", "sync/atomic.AddUint64", "internal/race.Read", "sync/atomic.LoadUint64", "sync/atomic.StoreUint64", "internal/synctest.Disassociate[sync.WaitGroup]", "sync.runtime_Semrelease", "(*sync.WaitGroup).Done", "(*sync.WaitGroup).Wait", "internal/race.Acquire", "internal/synctest.IsAssociated[sync.WaitGroup]", "sync/atomic.CompareAndSwapUint64", "internal/race.Write", "sync.runtime_SemacquireWaitGroup"], unfollowed := true, recurses := true, leaving := true, apart := false }
def FnQuietSaid : Prop := fnQuietRow.holds Try.pinned (OpenSpec.ofChange fnQuietSpec)

/-- ITS FALSE NEIGHBOUR: 'it returns false'. Refute it at one input. -/
def fnQuietWrong : ChangeSpec := { name := "fnQuiet", fn := fun _ => fun
  | [d1, d2] => { results := [.lit (.bool false)], args := [d1, d2] }
  | _ => none }
def FnQuietWrongFalsely : Prop := fnQuietRow.holds Try.pinned (OpenSpec.ofChange fnQuietWrong)

/-- 'laws.FnPass': WHATEVER THE INPUT: true; the input reads as it did. -/
def fnPassSpec : ChangeSpec := { name := "fnPass", fn := fun _ => fun
  | [d] => { results := [.lit (.bool true)], args := [d] }
  | _ => none }
def fnPassRow : OpenClaim := { program := "ytciekjplhbimdaa", sum := "d5bc6c392a505d14048c1199c32339861dbd187673facc00c44b17c2eddc9320", func := "loop.example/chainfiles/laws.FnPass", spec := "fnPass", inPlace := ["(*sync.WaitGroup).Add", "internal/race.ReleaseMerge", "internal/race.Disable", "internal/race.Enable", "internal/synctest.IsInBubble", "internal/synctest.Associate[sync.WaitGroup]", "sync.fatal", "sync/atomic.OrUint64", "sync/atomic.AddUint64", "internal/race.Read", "sync/atomic.LoadUint64", "sync/atomic.StoreUint64", "internal/synctest.Disassociate[sync.WaitGroup]", "sync.runtime_Semrelease", "(*sync.WaitGroup).Done", "(*sync.WaitGroup).Wait", "internal/race.Acquire", "internal/synctest.IsAssociated[sync.WaitGroup]", "sync/atomic.CompareAndSwapUint64", "internal/race.Write", "sync.runtime_SemacquireWaitGroup"], unfollowed := true, recurses := true, leaving := true, apart := false }
def FnPassSaid : Prop := fnPassRow.holds Try.pinned (OpenSpec.ofChange fnPassSpec)

/-- ITS FALSE NEIGHBOUR: 'it returns false'. Refute it at one input. -/
def fnPassWrong : ChangeSpec := { name := "fnPass", fn := fun _ => fun
  | [d] => { results := [.lit (.bool false)], args := [d] }
  | _ => none }
def FnPassWrongFalsely : Prop := fnPassRow.holds Try.pinned (OpenSpec.ofChange fnPassWrong)

/-- 'laws.FnPassWhen': WHATEVER THE INPUT: true; the input reads as it did. -/
def fnPassWhenSpec : ChangeSpec := { name := "fnPassWhen", fn := fun _ => fun
  | [d] => { results := [.lit (.bool true)], args := [d] }
  | _ => none }
def fnPassWhenRow : OpenClaim := { program := "ytciekjplhbimdaa", sum := "d5bc6c392a505d14048c1199c32339861dbd187673facc00c44b17c2eddc9320", func := "loop.example/chainfiles/laws.FnPassWhen", spec := "fnPassWhen", inPlace := ["(*sync.WaitGroup).Add", "internal/race.ReleaseMerge", "internal/race.Disable", "internal/race.Enable", "internal/synctest.IsInBubble", "internal/synctest.Associate[sync.WaitGroup]", "sync.fatal", "sync/atomic.OrUint64", "sync/atomic.AddUint64", "internal/race.Read", "sync/atomic.LoadUint64", "sync/atomic.StoreUint64", "internal/synctest.Disassociate[sync.WaitGroup]", "sync.runtime_Semrelease", "(*sync.WaitGroup).Done", "(*sync.WaitGroup).Wait", "internal/race.Acquire", "internal/synctest.IsAssociated[sync.WaitGroup]", "sync/atomic.CompareAndSwapUint64", "internal/race.Write", "sync.runtime_SemacquireWaitGroup"], unfollowed := true, recurses := true, leaving := true, apart := false }
def FnPassWhenSaid : Prop := fnPassWhenRow.holds Try.pinned (OpenSpec.ofChange fnPassWhenSpec)

/-- ITS FALSE NEIGHBOUR: 'it returns false'. Refute it at one input. -/
def fnPassWhenWrong : ChangeSpec := { name := "fnPassWhen", fn := fun _ => fun
  | [d] => { results := [.lit (.bool false)], args := [d] }
  | _ => none }
def FnPassWhenWrongFalsely : Prop := fnPassWhenRow.holds Try.pinned (OpenSpec.ofChange fnPassWhenWrong)

/-- 'laws.FnReadPass': WHATEVER THE INPUT: true; the input reads as it did. -/
def fnReadPassSpec : ChangeSpec := { name := "fnReadPass", fn := fun _ => fun
  | [d1, d2] => { results := [.lit (.bool true)], args := [d1, d2] }
  | _ => none }
def fnReadPassRow : OpenClaim := { program := "ytciekjplhbimdaa", sum := "d5bc6c392a505d14048c1199c32339861dbd187673facc00c44b17c2eddc9320", func := "loop.example/chainfiles/laws.FnReadPass", spec := "fnReadPass", inPlace := ["(*sync.WaitGroup).Add", "internal/race.ReleaseMerge", "internal/race.Disable", "internal/race.Enable", "internal/synctest.IsInBubble", "internal/synctest.Associate[sync.WaitGroup]", "sync.fatal", "sync/atomic.OrUint64", "sync/atomic.AddUint64", "internal/race.Read", "sync/atomic.LoadUint64", "sync/atomic.StoreUint64", "internal/synctest.Disassociate[sync.WaitGroup]", "sync.runtime_Semrelease", "(*sync.WaitGroup).Done", "(*sync.WaitGroup).Wait", "internal/race.Acquire", "internal/synctest.IsAssociated[sync.WaitGroup]", "sync/atomic.CompareAndSwapUint64", "internal/race.Write", "sync.runtime_SemacquireWaitGroup"], unfollowed := true, recurses := true, leaving := true, apart := false }
def FnReadPassSaid : Prop := fnReadPassRow.holds Try.pinned (OpenSpec.ofChange fnReadPassSpec)

/-- ITS FALSE NEIGHBOUR: 'it returns false'. Refute it at one input. -/
def fnReadPassWrong : ChangeSpec := { name := "fnReadPass", fn := fun _ => fun
  | [d1, d2] => { results := [.lit (.bool false)], args := [d1, d2] }
  | _ => none }
def FnReadPassWrongFalsely : Prop := fnReadPassRow.holds Try.pinned (OpenSpec.ofChange fnReadPassWrong)

/-- 'laws.FnExactChainPass': WHATEVER THE INPUT: true; the input reads as it did. -/
def fnExactChainPassSpec : ChangeSpec := { name := "fnExactChainPass", fn := fun _ => fun
  | [d1, d2] => { results := [.lit (.bool true)], args := [d1, d2] }
  | _ => none }
def fnExactChainPassRow : OpenClaim := { program := "ytciekjplhbimdaa", sum := "d5bc6c392a505d14048c1199c32339861dbd187673facc00c44b17c2eddc9320", func := "loop.example/chainfiles/laws.FnExactChainPass", spec := "fnExactChainPass", inPlace := ["(*sync.WaitGroup).Add", "internal/race.ReleaseMerge", "internal/race.Disable", "internal/race.Enable", "internal/synctest.IsInBubble", "internal/synctest.Associate[sync.WaitGroup]", "sync.fatal", "sync/atomic.OrUint64", "sync/atomic.AddUint64", "internal/race.Read", "sync/atomic.LoadUint64", "sync/atomic.StoreUint64", "internal/synctest.Disassociate[sync.WaitGroup]", "sync.runtime_Semrelease", "(*sync.WaitGroup).Done", "(*sync.WaitGroup).Wait", "internal/race.Acquire", "internal/synctest.IsAssociated[sync.WaitGroup]", "sync/atomic.CompareAndSwapUint64", "internal/race.Write", "sync.runtime_SemacquireWaitGroup"], unfollowed := true, recurses := true, leaving := true, apart := false }
def FnExactChainPassSaid : Prop := fnExactChainPassRow.holds Try.pinned (OpenSpec.ofChange fnExactChainPassSpec)

/-- ITS FALSE NEIGHBOUR: 'it returns false'. Refute it at one input. -/
def fnExactChainPassWrong : ChangeSpec := { name := "fnExactChainPass", fn := fun _ => fun
  | [d1, d2] => { results := [.lit (.bool false)], args := [d1, d2] }
  | _ => none }
def FnExactChainPassWrongFalsely : Prop := fnExactChainPassRow.holds Try.pinned (OpenSpec.ofChange fnExactChainPassWrong)

/-- 'laws.FnSettleAll': WHATEVER THE INPUT: true; the input reads as it did. -/
def fnSettleAllSpec : ChangeSpec := { name := "fnSettleAll", fn := fun _ => fun
  | [d] => { results := [.lit (.bool true)], args := [d] }
  | _ => none }
def fnSettleAllRow : OpenClaim := { program := "ytciekjplhbimdaa", sum := "d5bc6c392a505d14048c1199c32339861dbd187673facc00c44b17c2eddc9320", func := "loop.example/chainfiles/laws.FnSettleAll", spec := "fnSettleAll", inPlace := ["(*sync.WaitGroup).Add", "internal/race.ReleaseMerge", "internal/race.Disable", "internal/race.Enable", "internal/synctest.IsInBubble", "internal/synctest.Associate[sync.WaitGroup]", "sync.fatal", "sync/atomic.OrUint64", "sync/atomic.AddUint64", "internal/race.Read", "sync/atomic.LoadUint64", "sync/atomic.StoreUint64", "internal/synctest.Disassociate[sync.WaitGroup]", "sync.runtime_Semrelease", "(*sync.WaitGroup).Done", "(*sync.WaitGroup).Wait", "internal/race.Acquire", "internal/synctest.IsAssociated[sync.WaitGroup]", "sync/atomic.CompareAndSwapUint64", "internal/race.Write", "sync.runtime_SemacquireWaitGroup"], unfollowed := true, recurses := true, leaving := true, apart := false }
def FnSettleAllSaid : Prop := fnSettleAllRow.holds Try.pinned (OpenSpec.ofChange fnSettleAllSpec)

/-- ITS FALSE NEIGHBOUR: 'it returns false'. Refute it at one input. -/
def fnSettleAllWrong : ChangeSpec := { name := "fnSettleAll", fn := fun _ => fun
  | [d] => { results := [.lit (.bool false)], args := [d] }
  | _ => none }
def FnSettleAllWrongFalsely : Prop := fnSettleAllRow.holds Try.pinned (OpenSpec.ofChange fnSettleAllWrong)

/-- 'laws.FnSettleSteps': WHATEVER THE INPUT: true; the input reads as it did. -/
def fnSettleStepsSpec : ChangeSpec := { name := "fnSettleSteps", fn := fun _ => fun
  | [d] => { results := [.lit (.bool true)], args := [d] }
  | _ => none }
def fnSettleStepsRow : OpenClaim := { program := "ytciekjplhbimdaa", sum := "d5bc6c392a505d14048c1199c32339861dbd187673facc00c44b17c2eddc9320", func := "loop.example/chainfiles/laws.FnSettleSteps", spec := "fnSettleSteps", inPlace := ["(*sync.WaitGroup).Add", "internal/race.ReleaseMerge", "internal/race.Disable", "internal/race.Enable", "internal/synctest.IsInBubble", "internal/synctest.Associate[sync.WaitGroup]", "sync.fatal", "sync/atomic.OrUint64", "sync/atomic.AddUint64", "internal/race.Read", "sync/atomic.LoadUint64", "sync/atomic.StoreUint64", "internal/synctest.Disassociate[sync.WaitGroup]", "sync.runtime_Semrelease", "(*sync.WaitGroup).Done", "(*sync.WaitGroup).Wait", "internal/race.Acquire", "internal/synctest.IsAssociated[sync.WaitGroup]", "sync/atomic.CompareAndSwapUint64", "internal/race.Write", "sync.runtime_SemacquireWaitGroup"], unfollowed := true, recurses := true, leaving := true, apart := false }
def FnSettleStepsSaid : Prop := fnSettleStepsRow.holds Try.pinned (OpenSpec.ofChange fnSettleStepsSpec)

/-- ITS FALSE NEIGHBOUR: 'it returns false'. Refute it at one input. -/
def fnSettleStepsWrong : ChangeSpec := { name := "fnSettleSteps", fn := fun _ => fun
  | [d] => { results := [.lit (.bool false)], args := [d] }
  | _ => none }
def FnSettleStepsWrongFalsely : Prop := fnSettleStepsRow.holds Try.pinned (OpenSpec.ofChange fnSettleStepsWrong)

/- THE SECOND FORM. 'bulk': how many values and letters a reading holds, each counted each time it is reached (what is shared counts as often as it is met; a slice's spare places count too). A statement '..UptoSaid' is the law's where the arguments, and the package variables that the reading takes, are together of bulk at most 1048576: NARROWER than '..Said'. Prove '..Said' where nothing that the law and all that it calls make is longer than what came in: it says more and counts as full. Else prove '..UptoSaid'. A law counts once. -/
mutual
def uptoBulk {H : Type} : DataW H → Nat
  | .lit (.string bytes) => bytes.length + 1
  | .lit _ => 1
  | .nil => 1
  | .ptr d => uptoBulk d + 1
  | .slice elems spare => uptoBulkAll elems + uptoBulkAll spare + 1
  | .agg parts => uptoBulkAll parts + 1
  | .iface _ d => uptoBulk d + 1
  | .map entries => uptoBulkEntries entries + 1
  | .held _ => 1
def uptoBulkAll {H : Type} : List (DataW H) → Nat
  | [] => 0
  | d :: r => uptoBulk d + uptoBulkAll r
def uptoBulkEntries {H : Type} : List (Lit × DataW H) → Nat
  | [] => 0
  | x :: r => uptoBulkEntry x + uptoBulkEntries r
def uptoBulkEntry {H : Type} : Lit × DataW H → Nat
  | (.string bytes, d) => bytes.length + uptoBulk d + 1
  | (_, d) => uptoBulk d + 1
 end
def uptoSmall : (H : Type) → List (DataW H) → Bool := fun _ ds => decide (uptoBulkAll ds ≤ 1048576)
def OpenSpec.upto (s : _root_.Go.ChangeSpec) : _root_.Go.OpenSpec := { _root_.Go.OpenSpec.ofChange s with cond := some uptoSmall }

/-- 'laws.FnQuiet', WHERE WHAT IT READS IS OF BULK AT MOST 1048576: true; the input reads as it did. -/
def fnQuietUptoRow : OpenClaim := { program := "ytciekjplhbimdaa", sum := "d5bc6c392a505d14048c1199c32339861dbd187673facc00c44b17c2eddc9320", func := "loop.example/chainfiles/laws.FnQuiet", spec := "fnQuiet", inPlace := ["(*sync.WaitGroup).Add", "internal/race.ReleaseMerge", "internal/race.Disable", "internal/race.Enable", "internal/synctest.IsInBubble", "internal/synctest.Associate[sync.WaitGroup]", "sync.fatal", "sync/atomic.OrUint64", "sync/atomic.AddUint64", "internal/race.Read", "sync/atomic.LoadUint64", "sync/atomic.StoreUint64", "internal/synctest.Disassociate[sync.WaitGroup]", "sync.runtime_Semrelease", "(*sync.WaitGroup).Done", "(*sync.WaitGroup).Wait", "internal/race.Acquire", "internal/synctest.IsAssociated[sync.WaitGroup]", "sync/atomic.CompareAndSwapUint64", "internal/race.Write", "sync.runtime_SemacquireWaitGroup"], unfollowed := true, recurses := true, leaving := true, apart := false, narrowed := true }
def FnQuietUptoSaid : Prop := fnQuietUptoRow.holds Try.pinned (OpenSpec.upto fnQuietSpec)

/-- 'laws.FnPass', WHERE WHAT IT READS IS OF BULK AT MOST 1048576: true; the input reads as it did. -/
def fnPassUptoRow : OpenClaim := { program := "ytciekjplhbimdaa", sum := "d5bc6c392a505d14048c1199c32339861dbd187673facc00c44b17c2eddc9320", func := "loop.example/chainfiles/laws.FnPass", spec := "fnPass", inPlace := ["(*sync.WaitGroup).Add", "internal/race.ReleaseMerge", "internal/race.Disable", "internal/race.Enable", "internal/synctest.IsInBubble", "internal/synctest.Associate[sync.WaitGroup]", "sync.fatal", "sync/atomic.OrUint64", "sync/atomic.AddUint64", "internal/race.Read", "sync/atomic.LoadUint64", "sync/atomic.StoreUint64", "internal/synctest.Disassociate[sync.WaitGroup]", "sync.runtime_Semrelease", "(*sync.WaitGroup).Done", "(*sync.WaitGroup).Wait", "internal/race.Acquire", "internal/synctest.IsAssociated[sync.WaitGroup]", "sync/atomic.CompareAndSwapUint64", "internal/race.Write", "sync.runtime_SemacquireWaitGroup"], unfollowed := true, recurses := true, leaving := true, apart := false, narrowed := true }
def FnPassUptoSaid : Prop := fnPassUptoRow.holds Try.pinned (OpenSpec.upto fnPassSpec)

/-- 'laws.FnPassWhen', WHERE WHAT IT READS IS OF BULK AT MOST 1048576: true; the input reads as it did. -/
def fnPassWhenUptoRow : OpenClaim := { program := "ytciekjplhbimdaa", sum := "d5bc6c392a505d14048c1199c32339861dbd187673facc00c44b17c2eddc9320", func := "loop.example/chainfiles/laws.FnPassWhen", spec := "fnPassWhen", inPlace := ["(*sync.WaitGroup).Add", "internal/race.ReleaseMerge", "internal/race.Disable", "internal/race.Enable", "internal/synctest.IsInBubble", "internal/synctest.Associate[sync.WaitGroup]", "sync.fatal", "sync/atomic.OrUint64", "sync/atomic.AddUint64", "internal/race.Read", "sync/atomic.LoadUint64", "sync/atomic.StoreUint64", "internal/synctest.Disassociate[sync.WaitGroup]", "sync.runtime_Semrelease", "(*sync.WaitGroup).Done", "(*sync.WaitGroup).Wait", "internal/race.Acquire", "internal/synctest.IsAssociated[sync.WaitGroup]", "sync/atomic.CompareAndSwapUint64", "internal/race.Write", "sync.runtime_SemacquireWaitGroup"], unfollowed := true, recurses := true, leaving := true, apart := false, narrowed := true }
def FnPassWhenUptoSaid : Prop := fnPassWhenUptoRow.holds Try.pinned (OpenSpec.upto fnPassWhenSpec)

/-- 'laws.FnReadPass', WHERE WHAT IT READS IS OF BULK AT MOST 1048576: true; the input reads as it did. -/
def fnReadPassUptoRow : OpenClaim := { program := "ytciekjplhbimdaa", sum := "d5bc6c392a505d14048c1199c32339861dbd187673facc00c44b17c2eddc9320", func := "loop.example/chainfiles/laws.FnReadPass", spec := "fnReadPass", inPlace := ["(*sync.WaitGroup).Add", "internal/race.ReleaseMerge", "internal/race.Disable", "internal/race.Enable", "internal/synctest.IsInBubble", "internal/synctest.Associate[sync.WaitGroup]", "sync.fatal", "sync/atomic.OrUint64", "sync/atomic.AddUint64", "internal/race.Read", "sync/atomic.LoadUint64", "sync/atomic.StoreUint64", "internal/synctest.Disassociate[sync.WaitGroup]", "sync.runtime_Semrelease", "(*sync.WaitGroup).Done", "(*sync.WaitGroup).Wait", "internal/race.Acquire", "internal/synctest.IsAssociated[sync.WaitGroup]", "sync/atomic.CompareAndSwapUint64", "internal/race.Write", "sync.runtime_SemacquireWaitGroup"], unfollowed := true, recurses := true, leaving := true, apart := false, narrowed := true }
def FnReadPassUptoSaid : Prop := fnReadPassUptoRow.holds Try.pinned (OpenSpec.upto fnReadPassSpec)

/-- 'laws.FnExactChainPass', WHERE WHAT IT READS IS OF BULK AT MOST 1048576: true; the input reads as it did. -/
def fnExactChainPassUptoRow : OpenClaim := { program := "ytciekjplhbimdaa", sum := "d5bc6c392a505d14048c1199c32339861dbd187673facc00c44b17c2eddc9320", func := "loop.example/chainfiles/laws.FnExactChainPass", spec := "fnExactChainPass", inPlace := ["(*sync.WaitGroup).Add", "internal/race.ReleaseMerge", "internal/race.Disable", "internal/race.Enable", "internal/synctest.IsInBubble", "internal/synctest.Associate[sync.WaitGroup]", "sync.fatal", "sync/atomic.OrUint64", "sync/atomic.AddUint64", "internal/race.Read", "sync/atomic.LoadUint64", "sync/atomic.StoreUint64", "internal/synctest.Disassociate[sync.WaitGroup]", "sync.runtime_Semrelease", "(*sync.WaitGroup).Done", "(*sync.WaitGroup).Wait", "internal/race.Acquire", "internal/synctest.IsAssociated[sync.WaitGroup]", "sync/atomic.CompareAndSwapUint64", "internal/race.Write", "sync.runtime_SemacquireWaitGroup"], unfollowed := true, recurses := true, leaving := true, apart := false, narrowed := true }
def FnExactChainPassUptoSaid : Prop := fnExactChainPassUptoRow.holds Try.pinned (OpenSpec.upto fnExactChainPassSpec)

/-- 'laws.FnSettleAll', WHERE WHAT IT READS IS OF BULK AT MOST 1048576: true; the input reads as it did. -/
def fnSettleAllUptoRow : OpenClaim := { program := "ytciekjplhbimdaa", sum := "d5bc6c392a505d14048c1199c32339861dbd187673facc00c44b17c2eddc9320", func := "loop.example/chainfiles/laws.FnSettleAll", spec := "fnSettleAll", inPlace := ["(*sync.WaitGroup).Add", "internal/race.ReleaseMerge", "internal/race.Disable", "internal/race.Enable", "internal/synctest.IsInBubble", "internal/synctest.Associate[sync.WaitGroup]", "sync.fatal", "sync/atomic.OrUint64", "sync/atomic.AddUint64", "internal/race.Read", "sync/atomic.LoadUint64", "sync/atomic.StoreUint64", "internal/synctest.Disassociate[sync.WaitGroup]", "sync.runtime_Semrelease", "(*sync.WaitGroup).Done", "(*sync.WaitGroup).Wait", "internal/race.Acquire", "internal/synctest.IsAssociated[sync.WaitGroup]", "sync/atomic.CompareAndSwapUint64", "internal/race.Write", "sync.runtime_SemacquireWaitGroup"], unfollowed := true, recurses := true, leaving := true, apart := false, narrowed := true }
def FnSettleAllUptoSaid : Prop := fnSettleAllUptoRow.holds Try.pinned (OpenSpec.upto fnSettleAllSpec)

/-- 'laws.FnSettleSteps', WHERE WHAT IT READS IS OF BULK AT MOST 1048576: true; the input reads as it did. -/
def fnSettleStepsUptoRow : OpenClaim := { program := "ytciekjplhbimdaa", sum := "d5bc6c392a505d14048c1199c32339861dbd187673facc00c44b17c2eddc9320", func := "loop.example/chainfiles/laws.FnSettleSteps", spec := "fnSettleSteps", inPlace := ["(*sync.WaitGroup).Add", "internal/race.ReleaseMerge", "internal/race.Disable", "internal/race.Enable", "internal/synctest.IsInBubble", "internal/synctest.Associate[sync.WaitGroup]", "sync.fatal", "sync/atomic.OrUint64", "sync/atomic.AddUint64", "internal/race.Read", "sync/atomic.LoadUint64", "sync/atomic.StoreUint64", "internal/synctest.Disassociate[sync.WaitGroup]", "sync.runtime_Semrelease", "(*sync.WaitGroup).Done", "(*sync.WaitGroup).Wait", "internal/race.Acquire", "internal/synctest.IsAssociated[sync.WaitGroup]", "sync/atomic.CompareAndSwapUint64", "internal/race.Write", "sync.runtime_SemacquireWaitGroup"], unfollowed := true, recurses := true, leaving := true, apart := false, narrowed := true }
def FnSettleStepsUptoSaid : Prop := fnSettleStepsUptoRow.holds Try.pinned (OpenSpec.upto fnSettleStepsSpec)

end Rows
end Go.Proofs.Ytciekjplhbimdaa
