/-
  No cell of these rows narrows 'for every input' (looked for: loops, veiled, ifaces, maps, wideKeys, modest, calm, conditions, laid).
  DERIVED. THE GIVEN ROWS OF THIS SEAT. 12 by the template 'for every input the law returns true; each argument reads behind the call as it read before'; 0 by the template 'total and deterministic' (their statements: YtfkongkokegjjaaTotals.lean).
  GIVEN WITH THE SEED: the statements are not yours to turn. If you find one false, say at which input.
  Laid BY PROGRAM, IN A SANDBOX (cutbox-rows.mjs): the forced cells as the released guide's own fill.sh prints them over the translation 86f20f486390a000… (all of the seat's roots in one cut). By AI agents, Wed Nov 11 2026. No macro, syntax, notation, axiom, sorry.
-/
import Derived.Test.YtfkongkokegjjaaChecked
import GoSem.Claim
import GoSem.ClaimJoined
import GoSem.ClaimMapViews
import Derived.JoinedTies
import Derived.KernelRfl
namespace Go.Proofs.Ytfkongkokegjjaa
/- THE CELL 'sum', in the pinned program and in every row, IS THE sha256 OF THE DUMP (.gsa) THAT YtfkongkokegjjaaProg.lean LOADS. Nothing in Lean hashes anything: it is a label: what it is worth is what the hold of that sum in a sandbox is worth. -/
noncomputable def Try.pinned : Pinned := { name := "ytfkongkokegjjaa", sum := "86f20f486390a000e1527af5348be5b445ac84bd2951fdeacfd19509d2a78fd1", checked := Try.checked }
namespace Rows
def none {H : Type} : Left H := { results := [], args := [] }

/-- 'laws.FnKey': WHATEVER THE INPUT: true; the input reads as it did. -/
def fnKeySpec : ChangeSpec := { name := "fnKey", fn := fun _ => fun
  | [d] => { results := [.lit (.bool true)], args := [d] }
  | _ => none }
def fnKeyRow : OpenClaim := { program := "ytfkongkokegjjaa", sum := "86f20f486390a000e1527af5348be5b445ac84bd2951fdeacfd19509d2a78fd1", func := "loop.example/chainfiles/laws.FnKey", spec := "fnKey", apart := false }
def FnKeySaid : Prop := fnKeyRow.holds Try.pinned (OpenSpec.ofChange fnKeySpec)

/-- ITS FALSE NEIGHBOUR: 'it returns false'. Refute it at one input. -/
def fnKeyWrong : ChangeSpec := { name := "fnKey", fn := fun _ => fun
  | [d] => { results := [.lit (.bool false)], args := [d] }
  | _ => none }
def FnKeyWrongFalsely : Prop := fnKeyRow.holds Try.pinned (OpenSpec.ofChange fnKeyWrong)

/-- 'laws.FnCommonBegins': WHATEVER THE INPUT: true; the input reads as it did. -/
def fnCommonBeginsSpec : ChangeSpec := { name := "fnCommonBegins", fn := fun _ => fun
  | [d] => { results := [.lit (.bool true)], args := [d] }
  | _ => none }
def fnCommonBeginsRow : OpenClaim := { program := "ytfkongkokegjjaa", sum := "86f20f486390a000e1527af5348be5b445ac84bd2951fdeacfd19509d2a78fd1", func := "loop.example/chainfiles/laws.FnCommonBegins", spec := "fnCommonBegins", apart := false }
def FnCommonBeginsSaid : Prop := fnCommonBeginsRow.holds Try.pinned (OpenSpec.ofChange fnCommonBeginsSpec)

/-- ITS FALSE NEIGHBOUR: 'it returns false'. Refute it at one input. -/
def fnCommonBeginsWrong : ChangeSpec := { name := "fnCommonBegins", fn := fun _ => fun
  | [d] => { results := [.lit (.bool false)], args := [d] }
  | _ => none }
def FnCommonBeginsWrongFalsely : Prop := fnCommonBeginsRow.holds Try.pinned (OpenSpec.ofChange fnCommonBeginsWrong)

/-- 'laws.FnCommon': WHATEVER THE INPUT: true; the input reads as it did. -/
def fnCommonSpec : ChangeSpec := { name := "fnCommon", fn := fun _ => fun
  | [d] => { results := [.lit (.bool true)], args := [d] }
  | _ => none }
def fnCommonRow : OpenClaim := { program := "ytfkongkokegjjaa", sum := "86f20f486390a000e1527af5348be5b445ac84bd2951fdeacfd19509d2a78fd1", func := "loop.example/chainfiles/laws.FnCommon", spec := "fnCommon", apart := false }
def FnCommonSaid : Prop := fnCommonRow.holds Try.pinned (OpenSpec.ofChange fnCommonSpec)

/-- ITS FALSE NEIGHBOUR: 'it returns false'. Refute it at one input. -/
def fnCommonWrong : ChangeSpec := { name := "fnCommon", fn := fun _ => fun
  | [d] => { results := [.lit (.bool false)], args := [d] }
  | _ => none }
def FnCommonWrongFalsely : Prop := fnCommonRow.holds Try.pinned (OpenSpec.ofChange fnCommonWrong)

/-- 'laws.FnBegins': WHATEVER THE INPUT: true; the input reads as it did. -/
def fnBeginsSpec : ChangeSpec := { name := "fnBegins", fn := fun _ => fun
  | [d] => { results := [.lit (.bool true)], args := [d] }
  | _ => none }
def fnBeginsRow : OpenClaim := { program := "ytfkongkokegjjaa", sum := "86f20f486390a000e1527af5348be5b445ac84bd2951fdeacfd19509d2a78fd1", func := "loop.example/chainfiles/laws.FnBegins", spec := "fnBegins", apart := false }
def FnBeginsSaid : Prop := fnBeginsRow.holds Try.pinned (OpenSpec.ofChange fnBeginsSpec)

/-- ITS FALSE NEIGHBOUR: 'it returns false'. Refute it at one input. -/
def fnBeginsWrong : ChangeSpec := { name := "fnBegins", fn := fun _ => fun
  | [d] => { results := [.lit (.bool false)], args := [d] }
  | _ => none }
def FnBeginsWrongFalsely : Prop := fnBeginsRow.holds Try.pinned (OpenSpec.ofChange fnBeginsWrong)

/-- 'laws.FnExactLogKey': WHATEVER THE INPUT: true; the input reads as it did. -/
def fnExactLogKeySpec : ChangeSpec := { name := "fnExactLogKey", fn := fun _ => fun
  | [d1, d2] => { results := [.lit (.bool true)], args := [d1, d2] }
  | _ => none }
def fnExactLogKeyRow : OpenClaim := { program := "ytfkongkokegjjaa", sum := "86f20f486390a000e1527af5348be5b445ac84bd2951fdeacfd19509d2a78fd1", func := "loop.example/chainfiles/laws.FnExactLogKey", spec := "fnExactLogKey", apart := false }
def FnExactLogKeySaid : Prop := fnExactLogKeyRow.holds Try.pinned (OpenSpec.ofChange fnExactLogKeySpec)

/-- ITS FALSE NEIGHBOUR: 'it returns false'. Refute it at one input. -/
def fnExactLogKeyWrong : ChangeSpec := { name := "fnExactLogKey", fn := fun _ => fun
  | [d1, d2] => { results := [.lit (.bool false)], args := [d1, d2] }
  | _ => none }
def FnExactLogKeyWrongFalsely : Prop := fnExactLogKeyRow.holds Try.pinned (OpenSpec.ofChange fnExactLogKeyWrong)

/-- 'laws.FnExactStatePut': WHATEVER THE INPUT: true; the input reads as it did. -/
def fnExactStatePutSpec : ChangeSpec := { name := "fnExactStatePut", fn := fun _ => fun
  | [d1, d2] => { results := [.lit (.bool true)], args := [d1, d2] }
  | _ => none }
def fnExactStatePutRow : OpenClaim := { program := "ytfkongkokegjjaa", sum := "86f20f486390a000e1527af5348be5b445ac84bd2951fdeacfd19509d2a78fd1", func := "loop.example/chainfiles/laws.FnExactStatePut", spec := "fnExactStatePut", apart := false }
def FnExactStatePutSaid : Prop := fnExactStatePutRow.holds Try.pinned (OpenSpec.ofChange fnExactStatePutSpec)

/-- ITS FALSE NEIGHBOUR: 'it returns false'. Refute it at one input. -/
def fnExactStatePutWrong : ChangeSpec := { name := "fnExactStatePut", fn := fun _ => fun
  | [d1, d2] => { results := [.lit (.bool false)], args := [d1, d2] }
  | _ => none }
def FnExactStatePutWrongFalsely : Prop := fnExactStatePutRow.holds Try.pinned (OpenSpec.ofChange fnExactStatePutWrong)

/-- 'laws.FnPut': WHATEVER THE INPUT: true; the input reads as it did. -/
def fnPutSpec : ChangeSpec := { name := "fnPut", fn := fun _ => fun
  | [d] => { results := [.lit (.bool true)], args := [d] }
  | _ => none }
def fnPutRow : OpenClaim := { program := "ytfkongkokegjjaa", sum := "86f20f486390a000e1527af5348be5b445ac84bd2951fdeacfd19509d2a78fd1", func := "loop.example/chainfiles/laws.FnPut", spec := "fnPut", apart := false }
def FnPutSaid : Prop := fnPutRow.holds Try.pinned (OpenSpec.ofChange fnPutSpec)

/-- ITS FALSE NEIGHBOUR: 'it returns false'. Refute it at one input. -/
def fnPutWrong : ChangeSpec := { name := "fnPut", fn := fun _ => fun
  | [d] => { results := [.lit (.bool false)], args := [d] }
  | _ => none }
def FnPutWrongFalsely : Prop := fnPutRow.holds Try.pinned (OpenSpec.ofChange fnPutWrong)

/-- 'laws.FnPutSwap': WHATEVER THE INPUT: true; the input reads as it did. -/
def fnPutSwapSpec : ChangeSpec := { name := "fnPutSwap", fn := fun _ => fun
  | [d] => { results := [.lit (.bool true)], args := [d] }
  | _ => none }
def fnPutSwapRow : OpenClaim := { program := "ytfkongkokegjjaa", sum := "86f20f486390a000e1527af5348be5b445ac84bd2951fdeacfd19509d2a78fd1", func := "loop.example/chainfiles/laws.FnPutSwap", spec := "fnPutSwap", apart := false }
def FnPutSwapSaid : Prop := fnPutSwapRow.holds Try.pinned (OpenSpec.ofChange fnPutSwapSpec)

/-- ITS FALSE NEIGHBOUR: 'it returns false'. Refute it at one input. -/
def fnPutSwapWrong : ChangeSpec := { name := "fnPutSwap", fn := fun _ => fun
  | [d] => { results := [.lit (.bool false)], args := [d] }
  | _ => none }
def FnPutSwapWrongFalsely : Prop := fnPutSwapRow.holds Try.pinned (OpenSpec.ofChange fnPutSwapWrong)

/-- 'laws.FnPutTwice': WHATEVER THE INPUT: true; the input reads as it did. -/
def fnPutTwiceSpec : ChangeSpec := { name := "fnPutTwice", fn := fun _ => fun
  | [d] => { results := [.lit (.bool true)], args := [d] }
  | _ => none }
def fnPutTwiceRow : OpenClaim := { program := "ytfkongkokegjjaa", sum := "86f20f486390a000e1527af5348be5b445ac84bd2951fdeacfd19509d2a78fd1", func := "loop.example/chainfiles/laws.FnPutTwice", spec := "fnPutTwice", apart := false }
def FnPutTwiceSaid : Prop := fnPutTwiceRow.holds Try.pinned (OpenSpec.ofChange fnPutTwiceSpec)

/-- ITS FALSE NEIGHBOUR: 'it returns false'. Refute it at one input. -/
def fnPutTwiceWrong : ChangeSpec := { name := "fnPutTwice", fn := fun _ => fun
  | [d] => { results := [.lit (.bool false)], args := [d] }
  | _ => none }
def FnPutTwiceWrongFalsely : Prop := fnPutTwiceRow.holds Try.pinned (OpenSpec.ofChange fnPutTwiceWrong)

/-- 'laws.FnStateAll': WHATEVER THE INPUT: true; the input reads as it did. -/
def fnStateAllSpec : ChangeSpec := { name := "fnStateAll", fn := fun _ => fun
  | [d] => { results := [.lit (.bool true)], args := [d] }
  | _ => none }
def fnStateAllRow : OpenClaim := { program := "ytfkongkokegjjaa", sum := "86f20f486390a000e1527af5348be5b445ac84bd2951fdeacfd19509d2a78fd1", func := "loop.example/chainfiles/laws.FnStateAll", spec := "fnStateAll", apart := false }
def FnStateAllSaid : Prop := fnStateAllRow.holds Try.pinned (OpenSpec.ofChange fnStateAllSpec)

/-- ITS FALSE NEIGHBOUR: 'it returns false'. Refute it at one input. -/
def fnStateAllWrong : ChangeSpec := { name := "fnStateAll", fn := fun _ => fun
  | [d] => { results := [.lit (.bool false)], args := [d] }
  | _ => none }
def FnStateAllWrongFalsely : Prop := fnStateAllRow.holds Try.pinned (OpenSpec.ofChange fnStateAllWrong)

/-- 'laws.FnState': WHATEVER THE INPUT: true; the input reads as it did. -/
def fnStateSpec : ChangeSpec := { name := "fnState", fn := fun _ => fun
  | [d] => { results := [.lit (.bool true)], args := [d] }
  | _ => none }
def fnStateRow : OpenClaim := { program := "ytfkongkokegjjaa", sum := "86f20f486390a000e1527af5348be5b445ac84bd2951fdeacfd19509d2a78fd1", func := "loop.example/chainfiles/laws.FnState", spec := "fnState", apart := false }
def FnStateSaid : Prop := fnStateRow.holds Try.pinned (OpenSpec.ofChange fnStateSpec)

/-- ITS FALSE NEIGHBOUR: 'it returns false'. Refute it at one input. -/
def fnStateWrong : ChangeSpec := { name := "fnState", fn := fun _ => fun
  | [d] => { results := [.lit (.bool false)], args := [d] }
  | _ => none }
def FnStateWrongFalsely : Prop := fnStateRow.holds Try.pinned (OpenSpec.ofChange fnStateWrong)

/-- 'laws.FnStatePart': WHATEVER THE INPUT: true; the input reads as it did. -/
def fnStatePartSpec : ChangeSpec := { name := "fnStatePart", fn := fun _ => fun
  | [d] => { results := [.lit (.bool true)], args := [d] }
  | _ => none }
def fnStatePartRow : OpenClaim := { program := "ytfkongkokegjjaa", sum := "86f20f486390a000e1527af5348be5b445ac84bd2951fdeacfd19509d2a78fd1", func := "loop.example/chainfiles/laws.FnStatePart", spec := "fnStatePart", apart := false }
def FnStatePartSaid : Prop := fnStatePartRow.holds Try.pinned (OpenSpec.ofChange fnStatePartSpec)

/-- ITS FALSE NEIGHBOUR: 'it returns false'. Refute it at one input. -/
def fnStatePartWrong : ChangeSpec := { name := "fnStatePart", fn := fun _ => fun
  | [d] => { results := [.lit (.bool false)], args := [d] }
  | _ => none }
def FnStatePartWrongFalsely : Prop := fnStatePartRow.holds Try.pinned (OpenSpec.ofChange fnStatePartWrong)

/- THE SECOND FORM. 'bulk': how many values and letters a reading holds, each counted each time it is reached (what is shared counts as often as it is met; a slice's spare places count too). A statement '..UptoSaid' is the law's where the arguments, and the package variables that the reading takes, are together of bulk at most 1048576: NARROWER than '..Said'. Prove '..Said' where nothing that the law and all that it calls make is longer than what came in: it says more and counts as full. Else prove '..UptoSaid'. A law counts once. -/
mutual
def uptoBulk {H : Type} : DataW H → Nat
  | .lit (.string bytes) => bytes.length + 1
  | .lit _ => 1
  | .nil => 1
  | .ptr d => uptoBulk d + 1
  | .slice elems spare => uptoBulkAll elems + uptoBulkAll spare + 1
  | .agg parts => uptoBulkAll parts + 1
  | .iface _ d => uptoBulk d + 1
  | .map entries => uptoBulkEntries entries + 1
  | .held _ => 1
def uptoBulkAll {H : Type} : List (DataW H) → Nat
  | [] => 0
  | d :: r => uptoBulk d + uptoBulkAll r
def uptoBulkEntries {H : Type} : List (Lit × DataW H) → Nat
  | [] => 0
  | x :: r => uptoBulkEntry x + uptoBulkEntries r
def uptoBulkEntry {H : Type} : Lit × DataW H → Nat
  | (.string bytes, d) => bytes.length + uptoBulk d + 1
  | (_, d) => uptoBulk d + 1
 end
def uptoSmall : (H : Type) → List (DataW H) → Bool := fun _ ds => decide (uptoBulkAll ds ≤ 1048576)
def OpenSpec.upto (s : _root_.Go.ChangeSpec) : _root_.Go.OpenSpec := { _root_.Go.OpenSpec.ofChange s with cond := some uptoSmall }

/-- 'laws.FnKey', WHERE WHAT IT READS IS OF BULK AT MOST 1048576: true; the input reads as it did. -/
def fnKeyUptoRow : OpenClaim := { program := "ytfkongkokegjjaa", sum := "86f20f486390a000e1527af5348be5b445ac84bd2951fdeacfd19509d2a78fd1", func := "loop.example/chainfiles/laws.FnKey", spec := "fnKey", apart := false, narrowed := true }
def FnKeyUptoSaid : Prop := fnKeyUptoRow.holds Try.pinned (OpenSpec.upto fnKeySpec)

/-- 'laws.FnCommonBegins', WHERE WHAT IT READS IS OF BULK AT MOST 1048576: true; the input reads as it did. -/
def fnCommonBeginsUptoRow : OpenClaim := { program := "ytfkongkokegjjaa", sum := "86f20f486390a000e1527af5348be5b445ac84bd2951fdeacfd19509d2a78fd1", func := "loop.example/chainfiles/laws.FnCommonBegins", spec := "fnCommonBegins", apart := false, narrowed := true }
def FnCommonBeginsUptoSaid : Prop := fnCommonBeginsUptoRow.holds Try.pinned (OpenSpec.upto fnCommonBeginsSpec)

/-- 'laws.FnCommon', WHERE WHAT IT READS IS OF BULK AT MOST 1048576: true; the input reads as it did. -/
def fnCommonUptoRow : OpenClaim := { program := "ytfkongkokegjjaa", sum := "86f20f486390a000e1527af5348be5b445ac84bd2951fdeacfd19509d2a78fd1", func := "loop.example/chainfiles/laws.FnCommon", spec := "fnCommon", apart := false, narrowed := true }
def FnCommonUptoSaid : Prop := fnCommonUptoRow.holds Try.pinned (OpenSpec.upto fnCommonSpec)

/-- 'laws.FnBegins', WHERE WHAT IT READS IS OF BULK AT MOST 1048576: true; the input reads as it did. -/
def fnBeginsUptoRow : OpenClaim := { program := "ytfkongkokegjjaa", sum := "86f20f486390a000e1527af5348be5b445ac84bd2951fdeacfd19509d2a78fd1", func := "loop.example/chainfiles/laws.FnBegins", spec := "fnBegins", apart := false, narrowed := true }
def FnBeginsUptoSaid : Prop := fnBeginsUptoRow.holds Try.pinned (OpenSpec.upto fnBeginsSpec)

/-- 'laws.FnExactLogKey', WHERE WHAT IT READS IS OF BULK AT MOST 1048576: true; the input reads as it did. -/
def fnExactLogKeyUptoRow : OpenClaim := { program := "ytfkongkokegjjaa", sum := "86f20f486390a000e1527af5348be5b445ac84bd2951fdeacfd19509d2a78fd1", func := "loop.example/chainfiles/laws.FnExactLogKey", spec := "fnExactLogKey", apart := false, narrowed := true }
def FnExactLogKeyUptoSaid : Prop := fnExactLogKeyUptoRow.holds Try.pinned (OpenSpec.upto fnExactLogKeySpec)

/-- 'laws.FnExactStatePut', WHERE WHAT IT READS IS OF BULK AT MOST 1048576: true; the input reads as it did. -/
def fnExactStatePutUptoRow : OpenClaim := { program := "ytfkongkokegjjaa", sum := "86f20f486390a000e1527af5348be5b445ac84bd2951fdeacfd19509d2a78fd1", func := "loop.example/chainfiles/laws.FnExactStatePut", spec := "fnExactStatePut", apart := false, narrowed := true }
def FnExactStatePutUptoSaid : Prop := fnExactStatePutUptoRow.holds Try.pinned (OpenSpec.upto fnExactStatePutSpec)

/-- 'laws.FnPut', WHERE WHAT IT READS IS OF BULK AT MOST 1048576: true; the input reads as it did. -/
def fnPutUptoRow : OpenClaim := { program := "ytfkongkokegjjaa", sum := "86f20f486390a000e1527af5348be5b445ac84bd2951fdeacfd19509d2a78fd1", func := "loop.example/chainfiles/laws.FnPut", spec := "fnPut", apart := false, narrowed := true }
def FnPutUptoSaid : Prop := fnPutUptoRow.holds Try.pinned (OpenSpec.upto fnPutSpec)

/-- 'laws.FnPutSwap', WHERE WHAT IT READS IS OF BULK AT MOST 1048576: true; the input reads as it did. -/
def fnPutSwapUptoRow : OpenClaim := { program := "ytfkongkokegjjaa", sum := "86f20f486390a000e1527af5348be5b445ac84bd2951fdeacfd19509d2a78fd1", func := "loop.example/chainfiles/laws.FnPutSwap", spec := "fnPutSwap", apart := false, narrowed := true }
def FnPutSwapUptoSaid : Prop := fnPutSwapUptoRow.holds Try.pinned (OpenSpec.upto fnPutSwapSpec)

/-- 'laws.FnPutTwice', WHERE WHAT IT READS IS OF BULK AT MOST 1048576: true; the input reads as it did. -/
def fnPutTwiceUptoRow : OpenClaim := { program := "ytfkongkokegjjaa", sum := "86f20f486390a000e1527af5348be5b445ac84bd2951fdeacfd19509d2a78fd1", func := "loop.example/chainfiles/laws.FnPutTwice", spec := "fnPutTwice", apart := false, narrowed := true }
def FnPutTwiceUptoSaid : Prop := fnPutTwiceUptoRow.holds Try.pinned (OpenSpec.upto fnPutTwiceSpec)

/-- 'laws.FnStateAll', WHERE WHAT IT READS IS OF BULK AT MOST 1048576: true; the input reads as it did. -/
def fnStateAllUptoRow : OpenClaim := { program := "ytfkongkokegjjaa", sum := "86f20f486390a000e1527af5348be5b445ac84bd2951fdeacfd19509d2a78fd1", func := "loop.example/chainfiles/laws.FnStateAll", spec := "fnStateAll", apart := false, narrowed := true }
def FnStateAllUptoSaid : Prop := fnStateAllUptoRow.holds Try.pinned (OpenSpec.upto fnStateAllSpec)

/-- 'laws.FnState', WHERE WHAT IT READS IS OF BULK AT MOST 1048576: true; the input reads as it did. -/
def fnStateUptoRow : OpenClaim := { program := "ytfkongkokegjjaa", sum := "86f20f486390a000e1527af5348be5b445ac84bd2951fdeacfd19509d2a78fd1", func := "loop.example/chainfiles/laws.FnState", spec := "fnState", apart := false, narrowed := true }
def FnStateUptoSaid : Prop := fnStateUptoRow.holds Try.pinned (OpenSpec.upto fnStateSpec)

/-- 'laws.FnStatePart', WHERE WHAT IT READS IS OF BULK AT MOST 1048576: true; the input reads as it did. -/
def fnStatePartUptoRow : OpenClaim := { program := "ytfkongkokegjjaa", sum := "86f20f486390a000e1527af5348be5b445ac84bd2951fdeacfd19509d2a78fd1", func := "loop.example/chainfiles/laws.FnStatePart", spec := "fnStatePart", apart := false, narrowed := true }
def FnStatePartUptoSaid : Prop := fnStatePartUptoRow.holds Try.pinned (OpenSpec.upto fnStatePartSpec)

end Rows
end Go.Proofs.Ytfkongkokegjjaa
