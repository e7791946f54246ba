/-
  No cell of these rows narrows 'for every input' (looked for: loops, veiled, ifaces, maps, wideKeys, modest, calm, conditions, laid).
  DERIVED. THE GIVEN ROWS OF THIS SEAT. 11 by the template 'for every input the law returns true; each argument reads behind the call as it read before'; 0 by the template 'total and deterministic' (their statements: YthhlimpmjmnmfaaTotals.lean).
  GIVEN WITH THE SEED: the statements are not yours to turn. If you find one false, say at which input.
  Laid BY PROGRAM, IN A SANDBOX (cutbox-rows.mjs): the forced cells as the released guide's own fill.sh prints them over the translation 70948d148f96b335… (all of the seat's roots in one cut). By AI agents, Wed Nov 11 2026. No macro, syntax, notation, axiom, sorry.
-/
import Derived.Test.YthhlimpmjmnmfaaChecked
import GoSem.Claim
import GoSem.ClaimJoined
import GoSem.ClaimMapViews
import Derived.JoinedTies
import Derived.KernelRfl
namespace Go.Proofs.Ythhlimpmjmnmfaa
/- THE CELL 'sum', in the pinned program and in every row, IS THE sha256 OF THE DUMP (.gsa) THAT YthhlimpmjmnmfaaProg.lean LOADS. Nothing in Lean hashes anything: it is a label: what it is worth is what the hold of that sum in a sandbox is worth. -/
noncomputable def Try.pinned : Pinned := { name := "ythhlimpmjmnmfaa", sum := "70948d148f96b335dd65661e921d35a690daa80e50e19ea53b6b7f0351cf8a91", checked := Try.checked }
namespace Rows
def none {H : Type} : Left H := { results := [], args := [] }

/-- 'laws.FnNodePart': WHATEVER THE INPUT: true; the input reads as it did. -/
def fnNodePartSpec : ChangeSpec := { name := "fnNodePart", fn := fun _ => fun
  | [d] => { results := [.lit (.bool true)], args := [d] }
  | _ => none }
def fnNodePartRow : OpenClaim := { program := "ythhlimpmjmnmfaa", sum := "70948d148f96b335dd65661e921d35a690daa80e50e19ea53b6b7f0351cf8a91", func := "loop.example/chainfiles/laws.FnNodePart", spec := "fnNodePart", apart := false }
def FnNodePartSaid : Prop := fnNodePartRow.holds Try.pinned (OpenSpec.ofChange fnNodePartSpec)

/-- ITS FALSE NEIGHBOUR: 'it returns false'. Refute it at one input. -/
def fnNodePartWrong : ChangeSpec := { name := "fnNodePart", fn := fun _ => fun
  | [d] => { results := [.lit (.bool false)], args := [d] }
  | _ => none }
def FnNodePartWrongFalsely : Prop := fnNodePartRow.holds Try.pinned (OpenSpec.ofChange fnNodePartWrong)

/-- 'laws.FnExactNodeValid': WHATEVER THE INPUT: true; the input reads as it did. -/
def fnExactNodeValidSpec : ChangeSpec := { name := "fnExactNodeValid", fn := fun _ => fun
  | [d] => { results := [.lit (.bool true)], args := [d] }
  | _ => none }
def fnExactNodeValidRow : OpenClaim := { program := "ythhlimpmjmnmfaa", sum := "70948d148f96b335dd65661e921d35a690daa80e50e19ea53b6b7f0351cf8a91", func := "loop.example/chainfiles/laws.FnExactNodeValid", spec := "fnExactNodeValid", apart := false }
def FnExactNodeValidSaid : Prop := fnExactNodeValidRow.holds Try.pinned (OpenSpec.ofChange fnExactNodeValidSpec)

/-- ITS FALSE NEIGHBOUR: 'it returns false'. Refute it at one input. -/
def fnExactNodeValidWrong : ChangeSpec := { name := "fnExactNodeValid", fn := fun _ => fun
  | [d] => { results := [.lit (.bool false)], args := [d] }
  | _ => none }
def FnExactNodeValidWrongFalsely : Prop := fnExactNodeValidRow.holds Try.pinned (OpenSpec.ofChange fnExactNodeValidWrong)

/-- 'laws.FnPending': WHATEVER THE INPUT: true; the input reads as it did. -/
def fnPendingSpec : ChangeSpec := { name := "fnPending", fn := fun _ => fun
  | [d] => { results := [.lit (.bool true)], args := [d] }
  | _ => none }
def fnPendingRow : OpenClaim := { program := "ythhlimpmjmnmfaa", sum := "70948d148f96b335dd65661e921d35a690daa80e50e19ea53b6b7f0351cf8a91", func := "loop.example/chainfiles/laws.FnPending", spec := "fnPending", apart := false }
def FnPendingSaid : Prop := fnPendingRow.holds Try.pinned (OpenSpec.ofChange fnPendingSpec)

/-- ITS FALSE NEIGHBOUR: 'it returns false'. Refute it at one input. -/
def fnPendingWrong : ChangeSpec := { name := "fnPending", fn := fun _ => fun
  | [d] => { results := [.lit (.bool false)], args := [d] }
  | _ => none }
def FnPendingWrongFalsely : Prop := fnPendingRow.holds Try.pinned (OpenSpec.ofChange fnPendingWrong)

/-- 'laws.FnAckLess': WHATEVER THE INPUT: true; the input reads as it did. -/
def fnAckLessSpec : ChangeSpec := { name := "fnAckLess", fn := fun _ => fun
  | [d] => { results := [.lit (.bool true)], args := [d] }
  | _ => none }
def fnAckLessRow : OpenClaim := { program := "ythhlimpmjmnmfaa", sum := "70948d148f96b335dd65661e921d35a690daa80e50e19ea53b6b7f0351cf8a91", func := "loop.example/chainfiles/laws.FnAckLess", spec := "fnAckLess", apart := false }
def FnAckLessSaid : Prop := fnAckLessRow.holds Try.pinned (OpenSpec.ofChange fnAckLessSpec)

/-- ITS FALSE NEIGHBOUR: 'it returns false'. Refute it at one input. -/
def fnAckLessWrong : ChangeSpec := { name := "fnAckLess", fn := fun _ => fun
  | [d] => { results := [.lit (.bool false)], args := [d] }
  | _ => none }
def FnAckLessWrongFalsely : Prop := fnAckLessRow.holds Try.pinned (OpenSpec.ofChange fnAckLessWrong)

/-- 'laws.FnAck': WHATEVER THE INPUT: true; the input reads as it did. -/
def fnAckSpec : ChangeSpec := { name := "fnAck", fn := fun _ => fun
  | [d] => { results := [.lit (.bool true)], args := [d] }
  | _ => none }
def fnAckRow : OpenClaim := { program := "ythhlimpmjmnmfaa", sum := "70948d148f96b335dd65661e921d35a690daa80e50e19ea53b6b7f0351cf8a91", func := "loop.example/chainfiles/laws.FnAck", spec := "fnAck", apart := false }
def FnAckSaid : Prop := fnAckRow.holds Try.pinned (OpenSpec.ofChange fnAckSpec)

/-- ITS FALSE NEIGHBOUR: 'it returns false'. Refute it at one input. -/
def fnAckWrong : ChangeSpec := { name := "fnAck", fn := fun _ => fun
  | [d] => { results := [.lit (.bool false)], args := [d] }
  | _ => none }
def FnAckWrongFalsely : Prop := fnAckRow.holds Try.pinned (OpenSpec.ofChange fnAckWrong)

/-- 'laws.FnAckAll': WHATEVER THE INPUT: true; the input reads as it did. -/
def fnAckAllSpec : ChangeSpec := { name := "fnAckAll", fn := fun _ => fun
  | [d] => { results := [.lit (.bool true)], args := [d] }
  | _ => none }
def fnAckAllRow : OpenClaim := { program := "ythhlimpmjmnmfaa", sum := "70948d148f96b335dd65661e921d35a690daa80e50e19ea53b6b7f0351cf8a91", func := "loop.example/chainfiles/laws.FnAckAll", spec := "fnAckAll", apart := false }
def FnAckAllSaid : Prop := fnAckAllRow.holds Try.pinned (OpenSpec.ofChange fnAckAllSpec)

/-- ITS FALSE NEIGHBOUR: 'it returns false'. Refute it at one input. -/
def fnAckAllWrong : ChangeSpec := { name := "fnAckAll", fn := fun _ => fun
  | [d] => { results := [.lit (.bool false)], args := [d] }
  | _ => none }
def FnAckAllWrongFalsely : Prop := fnAckAllRow.holds Try.pinned (OpenSpec.ofChange fnAckAllWrong)

/-- 'laws.FnExactNodePending': WHATEVER THE INPUT: true; the input reads as it did. -/
def fnExactNodePendingSpec : ChangeSpec := { name := "fnExactNodePending", fn := fun _ => fun
  | [d] => { results := [.lit (.bool true)], args := [d] }
  | _ => none }
def fnExactNodePendingRow : OpenClaim := { program := "ythhlimpmjmnmfaa", sum := "70948d148f96b335dd65661e921d35a690daa80e50e19ea53b6b7f0351cf8a91", func := "loop.example/chainfiles/laws.FnExactNodePending", spec := "fnExactNodePending", apart := false }
def FnExactNodePendingSaid : Prop := fnExactNodePendingRow.holds Try.pinned (OpenSpec.ofChange fnExactNodePendingSpec)

/-- ITS FALSE NEIGHBOUR: 'it returns false'. Refute it at one input. -/
def fnExactNodePendingWrong : ChangeSpec := { name := "fnExactNodePending", fn := fun _ => fun
  | [d] => { results := [.lit (.bool false)], args := [d] }
  | _ => none }
def FnExactNodePendingWrongFalsely : Prop := fnExactNodePendingRow.holds Try.pinned (OpenSpec.ofChange fnExactNodePendingWrong)

/-- 'laws.FnExactStateAt': WHATEVER THE INPUT: true; the input reads as it did. -/
def fnExactStateAtSpec : ChangeSpec := { name := "fnExactStateAt", fn := fun _ => fun
  | [d1, d2] => { results := [.lit (.bool true)], args := [d1, d2] }
  | _ => none }
def fnExactStateAtRow : OpenClaim := { program := "ythhlimpmjmnmfaa", sum := "70948d148f96b335dd65661e921d35a690daa80e50e19ea53b6b7f0351cf8a91", func := "loop.example/chainfiles/laws.FnExactStateAt", spec := "fnExactStateAt", apart := false }
def FnExactStateAtSaid : Prop := fnExactStateAtRow.holds Try.pinned (OpenSpec.ofChange fnExactStateAtSpec)

/-- ITS FALSE NEIGHBOUR: 'it returns false'. Refute it at one input. -/
def fnExactStateAtWrong : ChangeSpec := { name := "fnExactStateAt", fn := fun _ => fun
  | [d1, d2] => { results := [.lit (.bool false)], args := [d1, d2] }
  | _ => none }
def FnExactStateAtWrongFalsely : Prop := fnExactStateAtRow.holds Try.pinned (OpenSpec.ofChange fnExactStateAtWrong)

/-- 'laws.FnExactStateOf': WHATEVER THE INPUT: true; the input reads as it did. -/
def fnExactStateOfSpec : ChangeSpec := { name := "fnExactStateOf", fn := fun _ => fun
  | [d] => { results := [.lit (.bool true)], args := [d] }
  | _ => none }
def fnExactStateOfRow : OpenClaim := { program := "ythhlimpmjmnmfaa", sum := "70948d148f96b335dd65661e921d35a690daa80e50e19ea53b6b7f0351cf8a91", func := "loop.example/chainfiles/laws.FnExactStateOf", spec := "fnExactStateOf", apart := false }
def FnExactStateOfSaid : Prop := fnExactStateOfRow.holds Try.pinned (OpenSpec.ofChange fnExactStateOfSpec)

/-- ITS FALSE NEIGHBOUR: 'it returns false'. Refute it at one input. -/
def fnExactStateOfWrong : ChangeSpec := { name := "fnExactStateOf", fn := fun _ => fun
  | [d] => { results := [.lit (.bool false)], args := [d] }
  | _ => none }
def FnExactStateOfWrongFalsely : Prop := fnExactStateOfRow.holds Try.pinned (OpenSpec.ofChange fnExactStateOfWrong)

/-- 'laws.FnStateStep': WHATEVER THE INPUT: true; the input reads as it did. -/
def fnStateStepSpec : ChangeSpec := { name := "fnStateStep", fn := fun _ => fun
  | [d] => { results := [.lit (.bool true)], args := [d] }
  | _ => none }
def fnStateStepRow : OpenClaim := { program := "ythhlimpmjmnmfaa", sum := "70948d148f96b335dd65661e921d35a690daa80e50e19ea53b6b7f0351cf8a91", func := "loop.example/chainfiles/laws.FnStateStep", spec := "fnStateStep", apart := false }
def FnStateStepSaid : Prop := fnStateStepRow.holds Try.pinned (OpenSpec.ofChange fnStateStepSpec)

/-- ITS FALSE NEIGHBOUR: 'it returns false'. Refute it at one input. -/
def fnStateStepWrong : ChangeSpec := { name := "fnStateStep", fn := fun _ => fun
  | [d] => { results := [.lit (.bool false)], args := [d] }
  | _ => none }
def FnStateStepWrongFalsely : Prop := fnStateStepRow.holds Try.pinned (OpenSpec.ofChange fnStateStepWrong)

/-- 'laws.FnExactNodeAck': WHATEVER THE INPUT: true; the input reads as it did. -/
def fnExactNodeAckSpec : ChangeSpec := { name := "fnExactNodeAck", fn := fun _ => fun
  | [d1, d2] => { results := [.lit (.bool true)], args := [d1, d2] }
  | _ => none }
def fnExactNodeAckRow : OpenClaim := { program := "ythhlimpmjmnmfaa", sum := "70948d148f96b335dd65661e921d35a690daa80e50e19ea53b6b7f0351cf8a91", func := "loop.example/chainfiles/laws.FnExactNodeAck", spec := "fnExactNodeAck", apart := false }
def FnExactNodeAckSaid : Prop := fnExactNodeAckRow.holds Try.pinned (OpenSpec.ofChange fnExactNodeAckSpec)

/-- ITS FALSE NEIGHBOUR: 'it returns false'. Refute it at one input. -/
def fnExactNodeAckWrong : ChangeSpec := { name := "fnExactNodeAck", fn := fun _ => fun
  | [d1, d2] => { results := [.lit (.bool false)], args := [d1, d2] }
  | _ => none }
def FnExactNodeAckWrongFalsely : Prop := fnExactNodeAckRow.holds Try.pinned (OpenSpec.ofChange fnExactNodeAckWrong)

/- THE SECOND FORM. 'bulk': how many values and letters a reading holds, each counted each time it is reached (what is shared counts as often as it is met; a slice's spare places count too). A statement '..UptoSaid' is the law's where the arguments, and the package variables that the reading takes, are together of bulk at most 1048576: NARROWER than '..Said'. Prove '..Said' where nothing that the law and all that it calls make is longer than what came in: it says more and counts as full. Else prove '..UptoSaid'. A law counts once. -/
mutual
def uptoBulk {H : Type} : DataW H → Nat
  | .lit (.string bytes) => bytes.length + 1
  | .lit _ => 1
  | .nil => 1
  | .ptr d => uptoBulk d + 1
  | .slice elems spare => uptoBulkAll elems + uptoBulkAll spare + 1
  | .agg parts => uptoBulkAll parts + 1
  | .iface _ d => uptoBulk d + 1
  | .map entries => uptoBulkEntries entries + 1
  | .held _ => 1
def uptoBulkAll {H : Type} : List (DataW H) → Nat
  | [] => 0
  | d :: r => uptoBulk d + uptoBulkAll r
def uptoBulkEntries {H : Type} : List (Lit × DataW H) → Nat
  | [] => 0
  | x :: r => uptoBulkEntry x + uptoBulkEntries r
def uptoBulkEntry {H : Type} : Lit × DataW H → Nat
  | (.string bytes, d) => bytes.length + uptoBulk d + 1
  | (_, d) => uptoBulk d + 1
 end
def uptoSmall : (H : Type) → List (DataW H) → Bool := fun _ ds => decide (uptoBulkAll ds ≤ 1048576)
def OpenSpec.upto (s : _root_.Go.ChangeSpec) : _root_.Go.OpenSpec := { _root_.Go.OpenSpec.ofChange s with cond := some uptoSmall }

/-- 'laws.FnNodePart', WHERE WHAT IT READS IS OF BULK AT MOST 1048576: true; the input reads as it did. -/
def fnNodePartUptoRow : OpenClaim := { program := "ythhlimpmjmnmfaa", sum := "70948d148f96b335dd65661e921d35a690daa80e50e19ea53b6b7f0351cf8a91", func := "loop.example/chainfiles/laws.FnNodePart", spec := "fnNodePart", apart := false, narrowed := true }
def FnNodePartUptoSaid : Prop := fnNodePartUptoRow.holds Try.pinned (OpenSpec.upto fnNodePartSpec)

/-- 'laws.FnExactNodeValid', WHERE WHAT IT READS IS OF BULK AT MOST 1048576: true; the input reads as it did. -/
def fnExactNodeValidUptoRow : OpenClaim := { program := "ythhlimpmjmnmfaa", sum := "70948d148f96b335dd65661e921d35a690daa80e50e19ea53b6b7f0351cf8a91", func := "loop.example/chainfiles/laws.FnExactNodeValid", spec := "fnExactNodeValid", apart := false, narrowed := true }
def FnExactNodeValidUptoSaid : Prop := fnExactNodeValidUptoRow.holds Try.pinned (OpenSpec.upto fnExactNodeValidSpec)

/-- 'laws.FnPending', WHERE WHAT IT READS IS OF BULK AT MOST 1048576: true; the input reads as it did. -/
def fnPendingUptoRow : OpenClaim := { program := "ythhlimpmjmnmfaa", sum := "70948d148f96b335dd65661e921d35a690daa80e50e19ea53b6b7f0351cf8a91", func := "loop.example/chainfiles/laws.FnPending", spec := "fnPending", apart := false, narrowed := true }
def FnPendingUptoSaid : Prop := fnPendingUptoRow.holds Try.pinned (OpenSpec.upto fnPendingSpec)

/-- 'laws.FnAckLess', WHERE WHAT IT READS IS OF BULK AT MOST 1048576: true; the input reads as it did. -/
def fnAckLessUptoRow : OpenClaim := { program := "ythhlimpmjmnmfaa", sum := "70948d148f96b335dd65661e921d35a690daa80e50e19ea53b6b7f0351cf8a91", func := "loop.example/chainfiles/laws.FnAckLess", spec := "fnAckLess", apart := false, narrowed := true }
def FnAckLessUptoSaid : Prop := fnAckLessUptoRow.holds Try.pinned (OpenSpec.upto fnAckLessSpec)

/-- 'laws.FnAck', WHERE WHAT IT READS IS OF BULK AT MOST 1048576: true; the input reads as it did. -/
def fnAckUptoRow : OpenClaim := { program := "ythhlimpmjmnmfaa", sum := "70948d148f96b335dd65661e921d35a690daa80e50e19ea53b6b7f0351cf8a91", func := "loop.example/chainfiles/laws.FnAck", spec := "fnAck", apart := false, narrowed := true }
def FnAckUptoSaid : Prop := fnAckUptoRow.holds Try.pinned (OpenSpec.upto fnAckSpec)

/-- 'laws.FnAckAll', WHERE WHAT IT READS IS OF BULK AT MOST 1048576: true; the input reads as it did. -/
def fnAckAllUptoRow : OpenClaim := { program := "ythhlimpmjmnmfaa", sum := "70948d148f96b335dd65661e921d35a690daa80e50e19ea53b6b7f0351cf8a91", func := "loop.example/chainfiles/laws.FnAckAll", spec := "fnAckAll", apart := false, narrowed := true }
def FnAckAllUptoSaid : Prop := fnAckAllUptoRow.holds Try.pinned (OpenSpec.upto fnAckAllSpec)

/-- 'laws.FnExactNodePending', WHERE WHAT IT READS IS OF BULK AT MOST 1048576: true; the input reads as it did. -/
def fnExactNodePendingUptoRow : OpenClaim := { program := "ythhlimpmjmnmfaa", sum := "70948d148f96b335dd65661e921d35a690daa80e50e19ea53b6b7f0351cf8a91", func := "loop.example/chainfiles/laws.FnExactNodePending", spec := "fnExactNodePending", apart := false, narrowed := true }
def FnExactNodePendingUptoSaid : Prop := fnExactNodePendingUptoRow.holds Try.pinned (OpenSpec.upto fnExactNodePendingSpec)

/-- 'laws.FnExactStateAt', WHERE WHAT IT READS IS OF BULK AT MOST 1048576: true; the input reads as it did. -/
def fnExactStateAtUptoRow : OpenClaim := { program := "ythhlimpmjmnmfaa", sum := "70948d148f96b335dd65661e921d35a690daa80e50e19ea53b6b7f0351cf8a91", func := "loop.example/chainfiles/laws.FnExactStateAt", spec := "fnExactStateAt", apart := false, narrowed := true }
def FnExactStateAtUptoSaid : Prop := fnExactStateAtUptoRow.holds Try.pinned (OpenSpec.upto fnExactStateAtSpec)

/-- 'laws.FnExactStateOf', WHERE WHAT IT READS IS OF BULK AT MOST 1048576: true; the input reads as it did. -/
def fnExactStateOfUptoRow : OpenClaim := { program := "ythhlimpmjmnmfaa", sum := "70948d148f96b335dd65661e921d35a690daa80e50e19ea53b6b7f0351cf8a91", func := "loop.example/chainfiles/laws.FnExactStateOf", spec := "fnExactStateOf", apart := false, narrowed := true }
def FnExactStateOfUptoSaid : Prop := fnExactStateOfUptoRow.holds Try.pinned (OpenSpec.upto fnExactStateOfSpec)

/-- 'laws.FnStateStep', WHERE WHAT IT READS IS OF BULK AT MOST 1048576: true; the input reads as it did. -/
def fnStateStepUptoRow : OpenClaim := { program := "ythhlimpmjmnmfaa", sum := "70948d148f96b335dd65661e921d35a690daa80e50e19ea53b6b7f0351cf8a91", func := "loop.example/chainfiles/laws.FnStateStep", spec := "fnStateStep", apart := false, narrowed := true }
def FnStateStepUptoSaid : Prop := fnStateStepUptoRow.holds Try.pinned (OpenSpec.upto fnStateStepSpec)

/-- 'laws.FnExactNodeAck', WHERE WHAT IT READS IS OF BULK AT MOST 1048576: true; the input reads as it did. -/
def fnExactNodeAckUptoRow : OpenClaim := { program := "ythhlimpmjmnmfaa", sum := "70948d148f96b335dd65661e921d35a690daa80e50e19ea53b6b7f0351cf8a91", func := "loop.example/chainfiles/laws.FnExactNodeAck", spec := "fnExactNodeAck", apart := false, narrowed := true }
def FnExactNodeAckUptoSaid : Prop := fnExactNodeAckUptoRow.holds Try.pinned (OpenSpec.upto fnExactNodeAckSpec)

end Rows
end Go.Proofs.Ythhlimpmjmnmfaa
