/-
  No cell of these rows narrows 'for every input' (looked for: loops, veiled, ifaces, maps, wideKeys, modest, calm, conditions, laid).
  DERIVED. THE GIVEN ROWS OF THIS SEAT. 12 by the template 'for every input the law returns true; each argument reads behind the call as it read before'; 0 by the template 'total and deterministic' (their statements: YtnbpckaplggkfaaTotals.lean).
  GIVEN WITH THE SEED: the statements are not yours to turn. If you find one false, say at which input.
  Laid BY PROGRAM, IN A SANDBOX (cutbox-rows.mjs): the forced cells as the released guide's own fill.sh prints them over the translation ec30e6e73b897a3c… (all of the seat's roots in one cut). By AI agents, Wed Nov 11 2026. No macro, syntax, notation, axiom, sorry.
-/
import Derived.Test.YtnbpckaplggkfaaChecked
import GoSem.Claim
import GoSem.ClaimJoined
import GoSem.ClaimMapViews
import Derived.JoinedTies
import Derived.KernelRfl
namespace Go.Proofs.Ytnbpckaplggkfaa
/- THE CELL 'sum', in the pinned program and in every row, IS THE sha256 OF THE DUMP (.gsa) THAT YtnbpckaplggkfaaProg.lean LOADS. Nothing in Lean hashes anything: it is a label: what it is worth is what the hold of that sum in a sandbox is worth. -/
noncomputable def Try.pinned : Pinned := { name := "ytnbpckaplggkfaa", sum := "ec30e6e73b897a3c1e70cf13c2a357163f9d20059f36f17166453dbf65fae71f", checked := Try.checked }
namespace Rows
def none {H : Type} : Left H := { results := [], args := [] }

/-- 'laws.FnExactConstants': WHATEVER THE INPUT: true; the input reads as it did. -/
def fnExactConstantsSpec : ChangeSpec := { name := "fnExactConstants", fn := fun _ => fun
  | [] => { results := [.lit (.bool true)], args := [] }
  | _ => none }
def fnExactConstantsRow : OpenClaim := { program := "ytnbpckaplggkfaa", sum := "ec30e6e73b897a3c1e70cf13c2a357163f9d20059f36f17166453dbf65fae71f", func := "loop.example/chainfiles/laws.FnExactConstants", spec := "fnExactConstants", apart := false }
def FnExactConstantsSaid : Prop := fnExactConstantsRow.holds Try.pinned (OpenSpec.ofChange fnExactConstantsSpec)

/-- ITS FALSE NEIGHBOUR: 'it returns false'. Refute it at one input. -/
def fnExactConstantsWrong : ChangeSpec := { name := "fnExactConstants", fn := fun _ => fun
  | [] => { results := [.lit (.bool false)], args := [] }
  | _ => none }
def FnExactConstantsWrongFalsely : Prop := fnExactConstantsRow.holds Try.pinned (OpenSpec.ofChange fnExactConstantsWrong)

/-- 'laws.FnExactUpdateValid': WHATEVER THE INPUT: true; the input reads as it did. -/
def fnExactUpdateValidSpec : ChangeSpec := { name := "fnExactUpdateValid", fn := fun _ => fun
  | [d] => { results := [.lit (.bool true)], args := [d] }
  | _ => none }
def fnExactUpdateValidRow : OpenClaim := { program := "ytnbpckaplggkfaa", sum := "ec30e6e73b897a3c1e70cf13c2a357163f9d20059f36f17166453dbf65fae71f", func := "loop.example/chainfiles/laws.FnExactUpdateValid", spec := "fnExactUpdateValid", apart := false }
def FnExactUpdateValidSaid : Prop := fnExactUpdateValidRow.holds Try.pinned (OpenSpec.ofChange fnExactUpdateValidSpec)

/-- ITS FALSE NEIGHBOUR: 'it returns false'. Refute it at one input. -/
def fnExactUpdateValidWrong : ChangeSpec := { name := "fnExactUpdateValid", fn := fun _ => fun
  | [d] => { results := [.lit (.bool false)], args := [d] }
  | _ => none }
def FnExactUpdateValidWrongFalsely : Prop := fnExactUpdateValidRow.holds Try.pinned (OpenSpec.ofChange fnExactUpdateValidWrong)

/-- 'laws.FnExactStateValid': WHATEVER THE INPUT: true; the input reads as it did. -/
def fnExactStateValidSpec : ChangeSpec := { name := "fnExactStateValid", fn := fun _ => fun
  | [d] => { results := [.lit (.bool true)], args := [d] }
  | _ => none }
def fnExactStateValidRow : OpenClaim := { program := "ytnbpckaplggkfaa", sum := "ec30e6e73b897a3c1e70cf13c2a357163f9d20059f36f17166453dbf65fae71f", func := "loop.example/chainfiles/laws.FnExactStateValid", spec := "fnExactStateValid", apart := false }
def FnExactStateValidSaid : Prop := fnExactStateValidRow.holds Try.pinned (OpenSpec.ofChange fnExactStateValidSpec)

/-- ITS FALSE NEIGHBOUR: 'it returns false'. Refute it at one input. -/
def fnExactStateValidWrong : ChangeSpec := { name := "fnExactStateValid", fn := fun _ => fun
  | [d] => { results := [.lit (.bool false)], args := [d] }
  | _ => none }
def FnExactStateValidWrongFalsely : Prop := fnExactStateValidRow.holds Try.pinned (OpenSpec.ofChange fnExactStateValidWrong)

/-- 'laws.FnUpdatePart': WHATEVER THE INPUT: true; the input reads as it did. -/
def fnUpdatePartSpec : ChangeSpec := { name := "fnUpdatePart", fn := fun _ => fun
  | [d] => { results := [.lit (.bool true)], args := [d] }
  | _ => none }
def fnUpdatePartRow : OpenClaim := { program := "ytnbpckaplggkfaa", sum := "ec30e6e73b897a3c1e70cf13c2a357163f9d20059f36f17166453dbf65fae71f", func := "loop.example/chainfiles/laws.FnUpdatePart", spec := "fnUpdatePart", apart := false }
def FnUpdatePartSaid : Prop := fnUpdatePartRow.holds Try.pinned (OpenSpec.ofChange fnUpdatePartSpec)

/-- ITS FALSE NEIGHBOUR: 'it returns false'. Refute it at one input. -/
def fnUpdatePartWrong : ChangeSpec := { name := "fnUpdatePart", fn := fun _ => fun
  | [d] => { results := [.lit (.bool false)], args := [d] }
  | _ => none }
def FnUpdatePartWrongFalsely : Prop := fnUpdatePartRow.holds Try.pinned (OpenSpec.ofChange fnUpdatePartWrong)

/-- 'laws.FnStateValid': WHATEVER THE INPUT: true; the input reads as it did. -/
def fnStateValidSpec : ChangeSpec := { name := "fnStateValid", fn := fun _ => fun
  | [d1, d2] => { results := [.lit (.bool true)], args := [d1, d2] }
  | _ => none }
def fnStateValidRow : OpenClaim := { program := "ytnbpckaplggkfaa", sum := "ec30e6e73b897a3c1e70cf13c2a357163f9d20059f36f17166453dbf65fae71f", func := "loop.example/chainfiles/laws.FnStateValid", spec := "fnStateValid", apart := false }
def FnStateValidSaid : Prop := fnStateValidRow.holds Try.pinned (OpenSpec.ofChange fnStateValidSpec)

/-- ITS FALSE NEIGHBOUR: 'it returns false'. Refute it at one input. -/
def fnStateValidWrong : ChangeSpec := { name := "fnStateValid", fn := fun _ => fun
  | [d1, d2] => { results := [.lit (.bool false)], args := [d1, d2] }
  | _ => none }
def FnStateValidWrongFalsely : Prop := fnStateValidRow.holds Try.pinned (OpenSpec.ofChange fnStateValidWrong)

/-- 'laws.FnExactLogValid': WHATEVER THE INPUT: true; the input reads as it did. -/
def fnExactLogValidSpec : ChangeSpec := { name := "fnExactLogValid", fn := fun _ => fun
  | [d] => { results := [.lit (.bool true)], args := [d] }
  | _ => none }
def fnExactLogValidRow : OpenClaim := { program := "ytnbpckaplggkfaa", sum := "ec30e6e73b897a3c1e70cf13c2a357163f9d20059f36f17166453dbf65fae71f", func := "loop.example/chainfiles/laws.FnExactLogValid", spec := "fnExactLogValid", apart := false }
def FnExactLogValidSaid : Prop := fnExactLogValidRow.holds Try.pinned (OpenSpec.ofChange fnExactLogValidSpec)

/-- ITS FALSE NEIGHBOUR: 'it returns false'. Refute it at one input. -/
def fnExactLogValidWrong : ChangeSpec := { name := "fnExactLogValid", fn := fun _ => fun
  | [d] => { results := [.lit (.bool false)], args := [d] }
  | _ => none }
def FnExactLogValidWrongFalsely : Prop := fnExactLogValidRow.holds Try.pinned (OpenSpec.ofChange fnExactLogValidWrong)

/-- 'laws.FnLogPart': WHATEVER THE INPUT: true; the input reads as it did. -/
def fnLogPartSpec : ChangeSpec := { name := "fnLogPart", fn := fun _ => fun
  | [d1, d2] => { results := [.lit (.bool true)], args := [d1, d2] }
  | _ => none }
def fnLogPartRow : OpenClaim := { program := "ytnbpckaplggkfaa", sum := "ec30e6e73b897a3c1e70cf13c2a357163f9d20059f36f17166453dbf65fae71f", func := "loop.example/chainfiles/laws.FnLogPart", spec := "fnLogPart", apart := false }
def FnLogPartSaid : Prop := fnLogPartRow.holds Try.pinned (OpenSpec.ofChange fnLogPartSpec)

/-- ITS FALSE NEIGHBOUR: 'it returns false'. Refute it at one input. -/
def fnLogPartWrong : ChangeSpec := { name := "fnLogPart", fn := fun _ => fun
  | [d1, d2] => { results := [.lit (.bool false)], args := [d1, d2] }
  | _ => none }
def FnLogPartWrongFalsely : Prop := fnLogPartRow.holds Try.pinned (OpenSpec.ofChange fnLogPartWrong)

/-- 'laws.FnExactLogCommon': WHATEVER THE INPUT: true; the input reads as it did. -/
def fnExactLogCommonSpec : ChangeSpec := { name := "fnExactLogCommon", fn := fun _ => fun
  | [d1, d2] => { results := [.lit (.bool true)], args := [d1, d2] }
  | _ => none }
def fnExactLogCommonRow : OpenClaim := { program := "ytnbpckaplggkfaa", sum := "ec30e6e73b897a3c1e70cf13c2a357163f9d20059f36f17166453dbf65fae71f", func := "loop.example/chainfiles/laws.FnExactLogCommon", spec := "fnExactLogCommon", apart := false }
def FnExactLogCommonSaid : Prop := fnExactLogCommonRow.holds Try.pinned (OpenSpec.ofChange fnExactLogCommonSpec)

/-- ITS FALSE NEIGHBOUR: 'it returns false'. Refute it at one input. -/
def fnExactLogCommonWrong : ChangeSpec := { name := "fnExactLogCommon", fn := fun _ => fun
  | [d1, d2] => { results := [.lit (.bool false)], args := [d1, d2] }
  | _ => none }
def FnExactLogCommonWrongFalsely : Prop := fnExactLogCommonRow.holds Try.pinned (OpenSpec.ofChange fnExactLogCommonWrong)

/-- 'laws.FnExactLogBegins': WHATEVER THE INPUT: true; the input reads as it did. -/
def fnExactLogBeginsSpec : ChangeSpec := { name := "fnExactLogBegins", fn := fun _ => fun
  | [d1, d2] => { results := [.lit (.bool true)], args := [d1, d2] }
  | _ => none }
def fnExactLogBeginsRow : OpenClaim := { program := "ytnbpckaplggkfaa", sum := "ec30e6e73b897a3c1e70cf13c2a357163f9d20059f36f17166453dbf65fae71f", func := "loop.example/chainfiles/laws.FnExactLogBegins", spec := "fnExactLogBegins", apart := false }
def FnExactLogBeginsSaid : Prop := fnExactLogBeginsRow.holds Try.pinned (OpenSpec.ofChange fnExactLogBeginsSpec)

/-- ITS FALSE NEIGHBOUR: 'it returns false'. Refute it at one input. -/
def fnExactLogBeginsWrong : ChangeSpec := { name := "fnExactLogBegins", fn := fun _ => fun
  | [d1, d2] => { results := [.lit (.bool false)], args := [d1, d2] }
  | _ => none }
def FnExactLogBeginsWrongFalsely : Prop := fnExactLogBeginsRow.holds Try.pinned (OpenSpec.ofChange fnExactLogBeginsWrong)

/-- 'laws.FnCommonBoth': WHATEVER THE INPUT: true; the input reads as it did. -/
def fnCommonBothSpec : ChangeSpec := { name := "fnCommonBoth", fn := fun _ => fun
  | [d] => { results := [.lit (.bool true)], args := [d] }
  | _ => none }
def fnCommonBothRow : OpenClaim := { program := "ytnbpckaplggkfaa", sum := "ec30e6e73b897a3c1e70cf13c2a357163f9d20059f36f17166453dbf65fae71f", func := "loop.example/chainfiles/laws.FnCommonBoth", spec := "fnCommonBoth", apart := false }
def FnCommonBothSaid : Prop := fnCommonBothRow.holds Try.pinned (OpenSpec.ofChange fnCommonBothSpec)

/-- ITS FALSE NEIGHBOUR: 'it returns false'. Refute it at one input. -/
def fnCommonBothWrong : ChangeSpec := { name := "fnCommonBoth", fn := fun _ => fun
  | [d] => { results := [.lit (.bool false)], args := [d] }
  | _ => none }
def FnCommonBothWrongFalsely : Prop := fnCommonBothRow.holds Try.pinned (OpenSpec.ofChange fnCommonBothWrong)

/-- 'laws.FnBeginsPart': WHATEVER THE INPUT: true; the input reads as it did. -/
def fnBeginsPartSpec : ChangeSpec := { name := "fnBeginsPart", fn := fun _ => fun
  | [d1, d2] => { results := [.lit (.bool true)], args := [d1, d2] }
  | _ => none }
def fnBeginsPartRow : OpenClaim := { program := "ytnbpckaplggkfaa", sum := "ec30e6e73b897a3c1e70cf13c2a357163f9d20059f36f17166453dbf65fae71f", func := "loop.example/chainfiles/laws.FnBeginsPart", spec := "fnBeginsPart", apart := false }
def FnBeginsPartSaid : Prop := fnBeginsPartRow.holds Try.pinned (OpenSpec.ofChange fnBeginsPartSpec)

/-- ITS FALSE NEIGHBOUR: 'it returns false'. Refute it at one input. -/
def fnBeginsPartWrong : ChangeSpec := { name := "fnBeginsPart", fn := fun _ => fun
  | [d1, d2] => { results := [.lit (.bool false)], args := [d1, d2] }
  | _ => none }
def FnBeginsPartWrongFalsely : Prop := fnBeginsPartRow.holds Try.pinned (OpenSpec.ofChange fnBeginsPartWrong)

/-- 'laws.FnBeginsSelf': WHATEVER THE INPUT: true; the input reads as it did. -/
def fnBeginsSelfSpec : ChangeSpec := { name := "fnBeginsSelf", fn := fun _ => fun
  | [d] => { results := [.lit (.bool true)], args := [d] }
  | _ => none }
def fnBeginsSelfRow : OpenClaim := { program := "ytnbpckaplggkfaa", sum := "ec30e6e73b897a3c1e70cf13c2a357163f9d20059f36f17166453dbf65fae71f", func := "loop.example/chainfiles/laws.FnBeginsSelf", spec := "fnBeginsSelf", apart := false }
def FnBeginsSelfSaid : Prop := fnBeginsSelfRow.holds Try.pinned (OpenSpec.ofChange fnBeginsSelfSpec)

/-- ITS FALSE NEIGHBOUR: 'it returns false'. Refute it at one input. -/
def fnBeginsSelfWrong : ChangeSpec := { name := "fnBeginsSelf", fn := fun _ => fun
  | [d] => { results := [.lit (.bool false)], args := [d] }
  | _ => none }
def FnBeginsSelfWrongFalsely : Prop := fnBeginsSelfRow.holds Try.pinned (OpenSpec.ofChange fnBeginsSelfWrong)

/- THE SECOND FORM. 'bulk': how many values and letters a reading holds, each counted each time it is reached (what is shared counts as often as it is met; a slice's spare places count too). A statement '..UptoSaid' is the law's where the arguments, and the package variables that the reading takes, are together of bulk at most 1048576: NARROWER than '..Said'. Prove '..Said' where nothing that the law and all that it calls make is longer than what came in: it says more and counts as full. Else prove '..UptoSaid'. A law counts once. -/
mutual
def uptoBulk {H : Type} : DataW H → Nat
  | .lit (.string bytes) => bytes.length + 1
  | .lit _ => 1
  | .nil => 1
  | .ptr d => uptoBulk d + 1
  | .slice elems spare => uptoBulkAll elems + uptoBulkAll spare + 1
  | .agg parts => uptoBulkAll parts + 1
  | .iface _ d => uptoBulk d + 1
  | .map entries => uptoBulkEntries entries + 1
  | .held _ => 1
def uptoBulkAll {H : Type} : List (DataW H) → Nat
  | [] => 0
  | d :: r => uptoBulk d + uptoBulkAll r
def uptoBulkEntries {H : Type} : List (Lit × DataW H) → Nat
  | [] => 0
  | x :: r => uptoBulkEntry x + uptoBulkEntries r
def uptoBulkEntry {H : Type} : Lit × DataW H → Nat
  | (.string bytes, d) => bytes.length + uptoBulk d + 1
  | (_, d) => uptoBulk d + 1
 end
def uptoSmall : (H : Type) → List (DataW H) → Bool := fun _ ds => decide (uptoBulkAll ds ≤ 1048576)
def OpenSpec.upto (s : _root_.Go.ChangeSpec) : _root_.Go.OpenSpec := { _root_.Go.OpenSpec.ofChange s with cond := some uptoSmall }

/-- 'laws.FnExactConstants', WHERE WHAT IT READS IS OF BULK AT MOST 1048576: true; the input reads as it did. -/
def fnExactConstantsUptoRow : OpenClaim := { program := "ytnbpckaplggkfaa", sum := "ec30e6e73b897a3c1e70cf13c2a357163f9d20059f36f17166453dbf65fae71f", func := "loop.example/chainfiles/laws.FnExactConstants", spec := "fnExactConstants", apart := false, narrowed := true }
def FnExactConstantsUptoSaid : Prop := fnExactConstantsUptoRow.holds Try.pinned (OpenSpec.upto fnExactConstantsSpec)

/-- 'laws.FnExactUpdateValid', WHERE WHAT IT READS IS OF BULK AT MOST 1048576: true; the input reads as it did. -/
def fnExactUpdateValidUptoRow : OpenClaim := { program := "ytnbpckaplggkfaa", sum := "ec30e6e73b897a3c1e70cf13c2a357163f9d20059f36f17166453dbf65fae71f", func := "loop.example/chainfiles/laws.FnExactUpdateValid", spec := "fnExactUpdateValid", apart := false, narrowed := true }
def FnExactUpdateValidUptoSaid : Prop := fnExactUpdateValidUptoRow.holds Try.pinned (OpenSpec.upto fnExactUpdateValidSpec)

/-- 'laws.FnExactStateValid', WHERE WHAT IT READS IS OF BULK AT MOST 1048576: true; the input reads as it did. -/
def fnExactStateValidUptoRow : OpenClaim := { program := "ytnbpckaplggkfaa", sum := "ec30e6e73b897a3c1e70cf13c2a357163f9d20059f36f17166453dbf65fae71f", func := "loop.example/chainfiles/laws.FnExactStateValid", spec := "fnExactStateValid", apart := false, narrowed := true }
def FnExactStateValidUptoSaid : Prop := fnExactStateValidUptoRow.holds Try.pinned (OpenSpec.upto fnExactStateValidSpec)

/-- 'laws.FnUpdatePart', WHERE WHAT IT READS IS OF BULK AT MOST 1048576: true; the input reads as it did. -/
def fnUpdatePartUptoRow : OpenClaim := { program := "ytnbpckaplggkfaa", sum := "ec30e6e73b897a3c1e70cf13c2a357163f9d20059f36f17166453dbf65fae71f", func := "loop.example/chainfiles/laws.FnUpdatePart", spec := "fnUpdatePart", apart := false, narrowed := true }
def FnUpdatePartUptoSaid : Prop := fnUpdatePartUptoRow.holds Try.pinned (OpenSpec.upto fnUpdatePartSpec)

/-- 'laws.FnStateValid', WHERE WHAT IT READS IS OF BULK AT MOST 1048576: true; the input reads as it did. -/
def fnStateValidUptoRow : OpenClaim := { program := "ytnbpckaplggkfaa", sum := "ec30e6e73b897a3c1e70cf13c2a357163f9d20059f36f17166453dbf65fae71f", func := "loop.example/chainfiles/laws.FnStateValid", spec := "fnStateValid", apart := false, narrowed := true }
def FnStateValidUptoSaid : Prop := fnStateValidUptoRow.holds Try.pinned (OpenSpec.upto fnStateValidSpec)

/-- 'laws.FnExactLogValid', WHERE WHAT IT READS IS OF BULK AT MOST 1048576: true; the input reads as it did. -/
def fnExactLogValidUptoRow : OpenClaim := { program := "ytnbpckaplggkfaa", sum := "ec30e6e73b897a3c1e70cf13c2a357163f9d20059f36f17166453dbf65fae71f", func := "loop.example/chainfiles/laws.FnExactLogValid", spec := "fnExactLogValid", apart := false, narrowed := true }
def FnExactLogValidUptoSaid : Prop := fnExactLogValidUptoRow.holds Try.pinned (OpenSpec.upto fnExactLogValidSpec)

/-- 'laws.FnLogPart', WHERE WHAT IT READS IS OF BULK AT MOST 1048576: true; the input reads as it did. -/
def fnLogPartUptoRow : OpenClaim := { program := "ytnbpckaplggkfaa", sum := "ec30e6e73b897a3c1e70cf13c2a357163f9d20059f36f17166453dbf65fae71f", func := "loop.example/chainfiles/laws.FnLogPart", spec := "fnLogPart", apart := false, narrowed := true }
def FnLogPartUptoSaid : Prop := fnLogPartUptoRow.holds Try.pinned (OpenSpec.upto fnLogPartSpec)

/-- 'laws.FnExactLogCommon', WHERE WHAT IT READS IS OF BULK AT MOST 1048576: true; the input reads as it did. -/
def fnExactLogCommonUptoRow : OpenClaim := { program := "ytnbpckaplggkfaa", sum := "ec30e6e73b897a3c1e70cf13c2a357163f9d20059f36f17166453dbf65fae71f", func := "loop.example/chainfiles/laws.FnExactLogCommon", spec := "fnExactLogCommon", apart := false, narrowed := true }
def FnExactLogCommonUptoSaid : Prop := fnExactLogCommonUptoRow.holds Try.pinned (OpenSpec.upto fnExactLogCommonSpec)

/-- 'laws.FnExactLogBegins', WHERE WHAT IT READS IS OF BULK AT MOST 1048576: true; the input reads as it did. -/
def fnExactLogBeginsUptoRow : OpenClaim := { program := "ytnbpckaplggkfaa", sum := "ec30e6e73b897a3c1e70cf13c2a357163f9d20059f36f17166453dbf65fae71f", func := "loop.example/chainfiles/laws.FnExactLogBegins", spec := "fnExactLogBegins", apart := false, narrowed := true }
def FnExactLogBeginsUptoSaid : Prop := fnExactLogBeginsUptoRow.holds Try.pinned (OpenSpec.upto fnExactLogBeginsSpec)

/-- 'laws.FnCommonBoth', WHERE WHAT IT READS IS OF BULK AT MOST 1048576: true; the input reads as it did. -/
def fnCommonBothUptoRow : OpenClaim := { program := "ytnbpckaplggkfaa", sum := "ec30e6e73b897a3c1e70cf13c2a357163f9d20059f36f17166453dbf65fae71f", func := "loop.example/chainfiles/laws.FnCommonBoth", spec := "fnCommonBoth", apart := false, narrowed := true }
def FnCommonBothUptoSaid : Prop := fnCommonBothUptoRow.holds Try.pinned (OpenSpec.upto fnCommonBothSpec)

/-- 'laws.FnBeginsPart', WHERE WHAT IT READS IS OF BULK AT MOST 1048576: true; the input reads as it did. -/
def fnBeginsPartUptoRow : OpenClaim := { program := "ytnbpckaplggkfaa", sum := "ec30e6e73b897a3c1e70cf13c2a357163f9d20059f36f17166453dbf65fae71f", func := "loop.example/chainfiles/laws.FnBeginsPart", spec := "fnBeginsPart", apart := false, narrowed := true }
def FnBeginsPartUptoSaid : Prop := fnBeginsPartUptoRow.holds Try.pinned (OpenSpec.upto fnBeginsPartSpec)

/-- 'laws.FnBeginsSelf', WHERE WHAT IT READS IS OF BULK AT MOST 1048576: true; the input reads as it did. -/
def fnBeginsSelfUptoRow : OpenClaim := { program := "ytnbpckaplggkfaa", sum := "ec30e6e73b897a3c1e70cf13c2a357163f9d20059f36f17166453dbf65fae71f", func := "loop.example/chainfiles/laws.FnBeginsSelf", spec := "fnBeginsSelf", apart := false, narrowed := true }
def FnBeginsSelfUptoSaid : Prop := fnBeginsSelfUptoRow.holds Try.pinned (OpenSpec.upto fnBeginsSelfSpec)

end Rows
end Go.Proofs.Ytnbpckaplggkfaa
