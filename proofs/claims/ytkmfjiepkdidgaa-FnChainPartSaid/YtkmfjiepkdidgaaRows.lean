/-
  No cell of these rows narrows 'for every input' (looked for: loops, veiled, ifaces, maps, wideKeys, modest, calm, conditions, laid).
  DERIVED. THE GIVEN ROWS OF THIS SEAT. 12 by the template 'for every input the law returns true; each argument reads behind the call as it read before'; 0 by the template 'total and deterministic' (their statements: YtkmfjiepkdidgaaTotals.lean).
  GIVEN WITH THE SEED: the statements are not yours to turn. If you find one false, say at which input.
  Laid BY PROGRAM, IN A SANDBOX (cutbox-rows.mjs): the forced cells as the released guide's own fill.sh prints them over the translation ae43b10fd9864070… (all of the seat's roots in one cut). By AI agents, Wed Nov 11 2026. No macro, syntax, notation, axiom, sorry.
-/
import Derived.Test.YtkmfjiepkdidgaaChecked
import GoSem.Claim
import GoSem.ClaimJoined
import GoSem.ClaimMapViews
import Derived.JoinedTies
import Derived.KernelRfl
namespace Go.Proofs.Ytkmfjiepkdidgaa
/- THE CELL 'sum', in the pinned program and in every row, IS THE sha256 OF THE DUMP (.gsa) THAT YtkmfjiepkdidgaaProg.lean LOADS. Nothing in Lean hashes anything: it is a label: what it is worth is what the hold of that sum in a sandbox is worth. -/
noncomputable def Try.pinned : Pinned := { name := "ytkmfjiepkdidgaa", sum := "ae43b10fd986407023641e8f4337fb94cc35873d8fafe7f1cc32d615f21169a6", checked := Try.checked }
namespace Rows
def none {H : Type} : Left H := { results := [], args := [] }

/-- 'laws.FnChainLogs': WHATEVER THE INPUT: true; the input reads as it did. -/
def fnChainLogsSpec : ChangeSpec := { name := "fnChainLogs", fn := fun _ => fun
  | [d] => { results := [.lit (.bool true)], args := [d] }
  | _ => none }
def fnChainLogsRow : OpenClaim := { program := "ytkmfjiepkdidgaa", sum := "ae43b10fd986407023641e8f4337fb94cc35873d8fafe7f1cc32d615f21169a6", func := "loop.example/chainfiles/laws.FnChainLogs", spec := "fnChainLogs", apart := false }
def FnChainLogsSaid : Prop := fnChainLogsRow.holds Try.pinned (OpenSpec.ofChange fnChainLogsSpec)

/-- ITS FALSE NEIGHBOUR: 'it returns false'. Refute it at one input. -/
def fnChainLogsWrong : ChangeSpec := { name := "fnChainLogs", fn := fun _ => fun
  | [d] => { results := [.lit (.bool false)], args := [d] }
  | _ => none }
def FnChainLogsWrongFalsely : Prop := fnChainLogsRow.holds Try.pinned (OpenSpec.ofChange fnChainLogsWrong)

/-- 'laws.FnChainPart': WHATEVER THE INPUT: true; the input reads as it did. -/
def fnChainPartSpec : ChangeSpec := { name := "fnChainPart", fn := fun _ => fun
  | [d] => { results := [.lit (.bool true)], args := [d] }
  | _ => none }
def fnChainPartRow : OpenClaim := { program := "ytkmfjiepkdidgaa", sum := "ae43b10fd986407023641e8f4337fb94cc35873d8fafe7f1cc32d615f21169a6", func := "loop.example/chainfiles/laws.FnChainPart", spec := "fnChainPart", apart := false }
def FnChainPartSaid : Prop := fnChainPartRow.holds Try.pinned (OpenSpec.ofChange fnChainPartSpec)

/-- ITS FALSE NEIGHBOUR: 'it returns false'. Refute it at one input. -/
def fnChainPartWrong : ChangeSpec := { name := "fnChainPart", fn := fun _ => fun
  | [d] => { results := [.lit (.bool false)], args := [d] }
  | _ => none }
def FnChainPartWrongFalsely : Prop := fnChainPartRow.holds Try.pinned (OpenSpec.ofChange fnChainPartWrong)

/-- 'laws.FnChainDone': WHATEVER THE INPUT: true; the input reads as it did. -/
def fnChainDoneSpec : ChangeSpec := { name := "fnChainDone", fn := fun _ => fun
  | [d] => { results := [.lit (.bool true)], args := [d] }
  | _ => none }
def fnChainDoneRow : OpenClaim := { program := "ytkmfjiepkdidgaa", sum := "ae43b10fd986407023641e8f4337fb94cc35873d8fafe7f1cc32d615f21169a6", func := "loop.example/chainfiles/laws.FnChainDone", spec := "fnChainDone", apart := false }
def FnChainDoneSaid : Prop := fnChainDoneRow.holds Try.pinned (OpenSpec.ofChange fnChainDoneSpec)

/-- ITS FALSE NEIGHBOUR: 'it returns false'. Refute it at one input. -/
def fnChainDoneWrong : ChangeSpec := { name := "fnChainDone", fn := fun _ => fun
  | [d] => { results := [.lit (.bool false)], args := [d] }
  | _ => none }
def FnChainDoneWrongFalsely : Prop := fnChainDoneRow.holds Try.pinned (OpenSpec.ofChange fnChainDoneWrong)

/-- 'laws.FnLag': WHATEVER THE INPUT: true; the input reads as it did. -/
def fnLagSpec : ChangeSpec := { name := "fnLag", fn := fun _ => fun
  | [d] => { results := [.lit (.bool true)], args := [d] }
  | _ => none }
def fnLagRow : OpenClaim := { program := "ytkmfjiepkdidgaa", sum := "ae43b10fd986407023641e8f4337fb94cc35873d8fafe7f1cc32d615f21169a6", func := "loop.example/chainfiles/laws.FnLag", spec := "fnLag", apart := false }
def FnLagSaid : Prop := fnLagRow.holds Try.pinned (OpenSpec.ofChange fnLagSpec)

/-- ITS FALSE NEIGHBOUR: 'it returns false'. Refute it at one input. -/
def fnLagWrong : ChangeSpec := { name := "fnLag", fn := fun _ => fun
  | [d] => { results := [.lit (.bool false)], args := [d] }
  | _ => none }
def FnLagWrongFalsely : Prop := fnLagRow.holds Try.pinned (OpenSpec.ofChange fnLagWrong)

/-- 'laws.FnLagQuiet': WHATEVER THE INPUT: true; the input reads as it did. -/
def fnLagQuietSpec : ChangeSpec := { name := "fnLagQuiet", fn := fun _ => fun
  | [d] => { results := [.lit (.bool true)], args := [d] }
  | _ => none }
def fnLagQuietRow : OpenClaim := { program := "ytkmfjiepkdidgaa", sum := "ae43b10fd986407023641e8f4337fb94cc35873d8fafe7f1cc32d615f21169a6", func := "loop.example/chainfiles/laws.FnLagQuiet", spec := "fnLagQuiet", apart := false }
def FnLagQuietSaid : Prop := fnLagQuietRow.holds Try.pinned (OpenSpec.ofChange fnLagQuietSpec)

/-- ITS FALSE NEIGHBOUR: 'it returns false'. Refute it at one input. -/
def fnLagQuietWrong : ChangeSpec := { name := "fnLagQuiet", fn := fun _ => fun
  | [d] => { results := [.lit (.bool false)], args := [d] }
  | _ => none }
def FnLagQuietWrongFalsely : Prop := fnLagQuietRow.holds Try.pinned (OpenSpec.ofChange fnLagQuietWrong)

/-- 'laws.FnExactChainValid': WHATEVER THE INPUT: true; the input reads as it did. -/
def fnExactChainValidSpec : ChangeSpec := { name := "fnExactChainValid", fn := fun _ => fun
  | [d] => { results := [.lit (.bool true)], args := [d] }
  | _ => none }
def fnExactChainValidRow : OpenClaim := { program := "ytkmfjiepkdidgaa", sum := "ae43b10fd986407023641e8f4337fb94cc35873d8fafe7f1cc32d615f21169a6", func := "loop.example/chainfiles/laws.FnExactChainValid", spec := "fnExactChainValid", apart := false }
def FnExactChainValidSaid : Prop := fnExactChainValidRow.holds Try.pinned (OpenSpec.ofChange fnExactChainValidSpec)

/-- ITS FALSE NEIGHBOUR: 'it returns false'. Refute it at one input. -/
def fnExactChainValidWrong : ChangeSpec := { name := "fnExactChainValid", fn := fun _ => fun
  | [d] => { results := [.lit (.bool false)], args := [d] }
  | _ => none }
def FnExactChainValidWrongFalsely : Prop := fnExactChainValidRow.holds Try.pinned (OpenSpec.ofChange fnExactChainValidWrong)

/-- 'laws.FnExactChainQuiet': WHATEVER THE INPUT: true; the input reads as it did. -/
def fnExactChainQuietSpec : ChangeSpec := { name := "fnExactChainQuiet", fn := fun _ => fun
  | [d] => { results := [.lit (.bool true)], args := [d] }
  | _ => none }
def fnExactChainQuietRow : OpenClaim := { program := "ytkmfjiepkdidgaa", sum := "ae43b10fd986407023641e8f4337fb94cc35873d8fafe7f1cc32d615f21169a6", func := "loop.example/chainfiles/laws.FnExactChainQuiet", spec := "fnExactChainQuiet", apart := false }
def FnExactChainQuietSaid : Prop := fnExactChainQuietRow.holds Try.pinned (OpenSpec.ofChange fnExactChainQuietSpec)

/-- ITS FALSE NEIGHBOUR: 'it returns false'. Refute it at one input. -/
def fnExactChainQuietWrong : ChangeSpec := { name := "fnExactChainQuiet", fn := fun _ => fun
  | [d] => { results := [.lit (.bool false)], args := [d] }
  | _ => none }
def FnExactChainQuietWrongFalsely : Prop := fnExactChainQuietRow.holds Try.pinned (OpenSpec.ofChange fnExactChainQuietWrong)

/-- 'laws.FnExactChainLag': WHATEVER THE INPUT: true; the input reads as it did. -/
def fnExactChainLagSpec : ChangeSpec := { name := "fnExactChainLag", fn := fun _ => fun
  | [d] => { results := [.lit (.bool true)], args := [d] }
  | _ => none }
def fnExactChainLagRow : OpenClaim := { program := "ytkmfjiepkdidgaa", sum := "ae43b10fd986407023641e8f4337fb94cc35873d8fafe7f1cc32d615f21169a6", func := "loop.example/chainfiles/laws.FnExactChainLag", spec := "fnExactChainLag", apart := false }
def FnExactChainLagSaid : Prop := fnExactChainLagRow.holds Try.pinned (OpenSpec.ofChange fnExactChainLagSpec)

/-- ITS FALSE NEIGHBOUR: 'it returns false'. Refute it at one input. -/
def fnExactChainLagWrong : ChangeSpec := { name := "fnExactChainLag", fn := fun _ => fun
  | [d] => { results := [.lit (.bool false)], args := [d] }
  | _ => none }
def FnExactChainLagWrongFalsely : Prop := fnExactChainLagRow.holds Try.pinned (OpenSpec.ofChange fnExactChainLagWrong)

/-- 'laws.FnChainNew': WHATEVER THE INPUT: true; the input reads as it did. -/
def fnChainNewSpec : ChangeSpec := { name := "fnChainNew", fn := fun _ => fun
  | [d] => { results := [.lit (.bool true)], args := [d] }
  | _ => none }
def fnChainNewRow : OpenClaim := { program := "ytkmfjiepkdidgaa", sum := "ae43b10fd986407023641e8f4337fb94cc35873d8fafe7f1cc32d615f21169a6", func := "loop.example/chainfiles/laws.FnChainNew", spec := "fnChainNew", apart := false }
def FnChainNewSaid : Prop := fnChainNewRow.holds Try.pinned (OpenSpec.ofChange fnChainNewSpec)

/-- ITS FALSE NEIGHBOUR: 'it returns false'. Refute it at one input. -/
def fnChainNewWrong : ChangeSpec := { name := "fnChainNew", fn := fun _ => fun
  | [d] => { results := [.lit (.bool false)], args := [d] }
  | _ => none }
def FnChainNewWrongFalsely : Prop := fnChainNewRow.holds Try.pinned (OpenSpec.ofChange fnChainNewWrong)

/-- 'laws.FnExactChainNew': WHATEVER THE INPUT: true; the input reads as it did. -/
def fnExactChainNewSpec : ChangeSpec := { name := "fnExactChainNew", fn := fun _ => fun
  | [d] => { results := [.lit (.bool true)], args := [d] }
  | _ => none }
def fnExactChainNewRow : OpenClaim := { program := "ytkmfjiepkdidgaa", sum := "ae43b10fd986407023641e8f4337fb94cc35873d8fafe7f1cc32d615f21169a6", func := "loop.example/chainfiles/laws.FnExactChainNew", spec := "fnExactChainNew", apart := false }
def FnExactChainNewSaid : Prop := fnExactChainNewRow.holds Try.pinned (OpenSpec.ofChange fnExactChainNewSpec)

/-- ITS FALSE NEIGHBOUR: 'it returns false'. Refute it at one input. -/
def fnExactChainNewWrong : ChangeSpec := { name := "fnExactChainNew", fn := fun _ => fun
  | [d] => { results := [.lit (.bool false)], args := [d] }
  | _ => none }
def FnExactChainNewWrongFalsely : Prop := fnExactChainNewRow.holds Try.pinned (OpenSpec.ofChange fnExactChainNewWrong)

/-- 'laws.FnRead': WHATEVER THE INPUT: true; the input reads as it did. -/
def fnReadSpec : ChangeSpec := { name := "fnRead", fn := fun _ => fun
  | [d] => { results := [.lit (.bool true)], args := [d] }
  | _ => none }
def fnReadRow : OpenClaim := { program := "ytkmfjiepkdidgaa", sum := "ae43b10fd986407023641e8f4337fb94cc35873d8fafe7f1cc32d615f21169a6", func := "loop.example/chainfiles/laws.FnRead", spec := "fnRead", apart := false }
def FnReadSaid : Prop := fnReadRow.holds Try.pinned (OpenSpec.ofChange fnReadSpec)

/-- ITS FALSE NEIGHBOUR: 'it returns false'. Refute it at one input. -/
def fnReadWrong : ChangeSpec := { name := "fnRead", fn := fun _ => fun
  | [d] => { results := [.lit (.bool false)], args := [d] }
  | _ => none }
def FnReadWrongFalsely : Prop := fnReadRow.holds Try.pinned (OpenSpec.ofChange fnReadWrong)

/-- 'laws.FnExactChainRead': WHATEVER THE INPUT: true; the input reads as it did. -/
def fnExactChainReadSpec : ChangeSpec := { name := "fnExactChainRead", fn := fun _ => fun
  | [d1, d2] => { results := [.lit (.bool true)], args := [d1, d2] }
  | _ => none }
def fnExactChainReadRow : OpenClaim := { program := "ytkmfjiepkdidgaa", sum := "ae43b10fd986407023641e8f4337fb94cc35873d8fafe7f1cc32d615f21169a6", func := "loop.example/chainfiles/laws.FnExactChainRead", spec := "fnExactChainRead", apart := false }
def FnExactChainReadSaid : Prop := fnExactChainReadRow.holds Try.pinned (OpenSpec.ofChange fnExactChainReadSpec)

/-- ITS FALSE NEIGHBOUR: 'it returns false'. Refute it at one input. -/
def fnExactChainReadWrong : ChangeSpec := { name := "fnExactChainRead", fn := fun _ => fun
  | [d1, d2] => { results := [.lit (.bool false)], args := [d1, d2] }
  | _ => none }
def FnExactChainReadWrongFalsely : Prop := fnExactChainReadRow.holds Try.pinned (OpenSpec.ofChange fnExactChainReadWrong)

/- THE SECOND FORM. 'bulk': how many values and letters a reading holds, each counted each time it is reached (what is shared counts as often as it is met; a slice's spare places count too). A statement '..UptoSaid' is the law's where the arguments, and the package variables that the reading takes, are together of bulk at most 1048576: NARROWER than '..Said'. Prove '..Said' where nothing that the law and all that it calls make is longer than what came in: it says more and counts as full. Else prove '..UptoSaid'. A law counts once. -/
mutual
def uptoBulk {H : Type} : DataW H → Nat
  | .lit (.string bytes) => bytes.length + 1
  | .lit _ => 1
  | .nil => 1
  | .ptr d => uptoBulk d + 1
  | .slice elems spare => uptoBulkAll elems + uptoBulkAll spare + 1
  | .agg parts => uptoBulkAll parts + 1
  | .iface _ d => uptoBulk d + 1
  | .map entries => uptoBulkEntries entries + 1
  | .held _ => 1
def uptoBulkAll {H : Type} : List (DataW H) → Nat
  | [] => 0
  | d :: r => uptoBulk d + uptoBulkAll r
def uptoBulkEntries {H : Type} : List (Lit × DataW H) → Nat
  | [] => 0
  | x :: r => uptoBulkEntry x + uptoBulkEntries r
def uptoBulkEntry {H : Type} : Lit × DataW H → Nat
  | (.string bytes, d) => bytes.length + uptoBulk d + 1
  | (_, d) => uptoBulk d + 1
 end
def uptoSmall : (H : Type) → List (DataW H) → Bool := fun _ ds => decide (uptoBulkAll ds ≤ 1048576)
def OpenSpec.upto (s : _root_.Go.ChangeSpec) : _root_.Go.OpenSpec := { _root_.Go.OpenSpec.ofChange s with cond := some uptoSmall }

/-- 'laws.FnChainLogs', WHERE WHAT IT READS IS OF BULK AT MOST 1048576: true; the input reads as it did. -/
def fnChainLogsUptoRow : OpenClaim := { program := "ytkmfjiepkdidgaa", sum := "ae43b10fd986407023641e8f4337fb94cc35873d8fafe7f1cc32d615f21169a6", func := "loop.example/chainfiles/laws.FnChainLogs", spec := "fnChainLogs", apart := false, narrowed := true }
def FnChainLogsUptoSaid : Prop := fnChainLogsUptoRow.holds Try.pinned (OpenSpec.upto fnChainLogsSpec)

/-- 'laws.FnChainPart', WHERE WHAT IT READS IS OF BULK AT MOST 1048576: true; the input reads as it did. -/
def fnChainPartUptoRow : OpenClaim := { program := "ytkmfjiepkdidgaa", sum := "ae43b10fd986407023641e8f4337fb94cc35873d8fafe7f1cc32d615f21169a6", func := "loop.example/chainfiles/laws.FnChainPart", spec := "fnChainPart", apart := false, narrowed := true }
def FnChainPartUptoSaid : Prop := fnChainPartUptoRow.holds Try.pinned (OpenSpec.upto fnChainPartSpec)

/-- 'laws.FnChainDone', WHERE WHAT IT READS IS OF BULK AT MOST 1048576: true; the input reads as it did. -/
def fnChainDoneUptoRow : OpenClaim := { program := "ytkmfjiepkdidgaa", sum := "ae43b10fd986407023641e8f4337fb94cc35873d8fafe7f1cc32d615f21169a6", func := "loop.example/chainfiles/laws.FnChainDone", spec := "fnChainDone", apart := false, narrowed := true }
def FnChainDoneUptoSaid : Prop := fnChainDoneUptoRow.holds Try.pinned (OpenSpec.upto fnChainDoneSpec)

/-- 'laws.FnLag', WHERE WHAT IT READS IS OF BULK AT MOST 1048576: true; the input reads as it did. -/
def fnLagUptoRow : OpenClaim := { program := "ytkmfjiepkdidgaa", sum := "ae43b10fd986407023641e8f4337fb94cc35873d8fafe7f1cc32d615f21169a6", func := "loop.example/chainfiles/laws.FnLag", spec := "fnLag", apart := false, narrowed := true }
def FnLagUptoSaid : Prop := fnLagUptoRow.holds Try.pinned (OpenSpec.upto fnLagSpec)

/-- 'laws.FnLagQuiet', WHERE WHAT IT READS IS OF BULK AT MOST 1048576: true; the input reads as it did. -/
def fnLagQuietUptoRow : OpenClaim := { program := "ytkmfjiepkdidgaa", sum := "ae43b10fd986407023641e8f4337fb94cc35873d8fafe7f1cc32d615f21169a6", func := "loop.example/chainfiles/laws.FnLagQuiet", spec := "fnLagQuiet", apart := false, narrowed := true }
def FnLagQuietUptoSaid : Prop := fnLagQuietUptoRow.holds Try.pinned (OpenSpec.upto fnLagQuietSpec)

/-- 'laws.FnExactChainValid', WHERE WHAT IT READS IS OF BULK AT MOST 1048576: true; the input reads as it did. -/
def fnExactChainValidUptoRow : OpenClaim := { program := "ytkmfjiepkdidgaa", sum := "ae43b10fd986407023641e8f4337fb94cc35873d8fafe7f1cc32d615f21169a6", func := "loop.example/chainfiles/laws.FnExactChainValid", spec := "fnExactChainValid", apart := false, narrowed := true }
def FnExactChainValidUptoSaid : Prop := fnExactChainValidUptoRow.holds Try.pinned (OpenSpec.upto fnExactChainValidSpec)

/-- 'laws.FnExactChainQuiet', WHERE WHAT IT READS IS OF BULK AT MOST 1048576: true; the input reads as it did. -/
def fnExactChainQuietUptoRow : OpenClaim := { program := "ytkmfjiepkdidgaa", sum := "ae43b10fd986407023641e8f4337fb94cc35873d8fafe7f1cc32d615f21169a6", func := "loop.example/chainfiles/laws.FnExactChainQuiet", spec := "fnExactChainQuiet", apart := false, narrowed := true }
def FnExactChainQuietUptoSaid : Prop := fnExactChainQuietUptoRow.holds Try.pinned (OpenSpec.upto fnExactChainQuietSpec)

/-- 'laws.FnExactChainLag', WHERE WHAT IT READS IS OF BULK AT MOST 1048576: true; the input reads as it did. -/
def fnExactChainLagUptoRow : OpenClaim := { program := "ytkmfjiepkdidgaa", sum := "ae43b10fd986407023641e8f4337fb94cc35873d8fafe7f1cc32d615f21169a6", func := "loop.example/chainfiles/laws.FnExactChainLag", spec := "fnExactChainLag", apart := false, narrowed := true }
def FnExactChainLagUptoSaid : Prop := fnExactChainLagUptoRow.holds Try.pinned (OpenSpec.upto fnExactChainLagSpec)

/-- 'laws.FnChainNew', WHERE WHAT IT READS IS OF BULK AT MOST 1048576: true; the input reads as it did. -/
def fnChainNewUptoRow : OpenClaim := { program := "ytkmfjiepkdidgaa", sum := "ae43b10fd986407023641e8f4337fb94cc35873d8fafe7f1cc32d615f21169a6", func := "loop.example/chainfiles/laws.FnChainNew", spec := "fnChainNew", apart := false, narrowed := true }
def FnChainNewUptoSaid : Prop := fnChainNewUptoRow.holds Try.pinned (OpenSpec.upto fnChainNewSpec)

/-- 'laws.FnExactChainNew', WHERE WHAT IT READS IS OF BULK AT MOST 1048576: true; the input reads as it did. -/
def fnExactChainNewUptoRow : OpenClaim := { program := "ytkmfjiepkdidgaa", sum := "ae43b10fd986407023641e8f4337fb94cc35873d8fafe7f1cc32d615f21169a6", func := "loop.example/chainfiles/laws.FnExactChainNew", spec := "fnExactChainNew", apart := false, narrowed := true }
def FnExactChainNewUptoSaid : Prop := fnExactChainNewUptoRow.holds Try.pinned (OpenSpec.upto fnExactChainNewSpec)

/-- 'laws.FnRead', WHERE WHAT IT READS IS OF BULK AT MOST 1048576: true; the input reads as it did. -/
def fnReadUptoRow : OpenClaim := { program := "ytkmfjiepkdidgaa", sum := "ae43b10fd986407023641e8f4337fb94cc35873d8fafe7f1cc32d615f21169a6", func := "loop.example/chainfiles/laws.FnRead", spec := "fnRead", apart := false, narrowed := true }
def FnReadUptoSaid : Prop := fnReadUptoRow.holds Try.pinned (OpenSpec.upto fnReadSpec)

/-- 'laws.FnExactChainRead', WHERE WHAT IT READS IS OF BULK AT MOST 1048576: true; the input reads as it did. -/
def fnExactChainReadUptoRow : OpenClaim := { program := "ytkmfjiepkdidgaa", sum := "ae43b10fd986407023641e8f4337fb94cc35873d8fafe7f1cc32d615f21169a6", func := "loop.example/chainfiles/laws.FnExactChainRead", spec := "fnExactChainRead", apart := false, narrowed := true }
def FnExactChainReadUptoSaid : Prop := fnExactChainReadUptoRow.holds Try.pinned (OpenSpec.upto fnExactChainReadSpec)

end Rows
end Go.Proofs.Ytkmfjiepkdidgaa
