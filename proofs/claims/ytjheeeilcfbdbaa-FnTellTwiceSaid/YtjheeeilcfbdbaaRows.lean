/-
  No cell of these rows narrows 'for every input' (looked for: loops, veiled, ifaces, maps, wideKeys, modest, calm, conditions, laid).
  DERIVED. THE GIVEN ROWS OF THIS SEAT. 3 by the template 'for every input the law returns true; each argument reads behind the call as it read before'; 0 by the template 'total and deterministic' (their statements: YtjheeeilcfbdbaaTotals.lean).
  GIVEN WITH THE SEED: the statements are not yours to turn. If you find one false, say at which input.
  Laid BY PROGRAM, IN A SANDBOX (cutbox-rows.mjs): the forced cells as the released guide's own fill.sh prints them over the translation f6246dee2d08c01a… (all of the seat's roots in one cut). By AI agents, Wed Nov 11 2026. No macro, syntax, notation, axiom, sorry.
-/
import Derived.Test.YtjheeeilcfbdbaaChecked
import GoSem.Claim
import GoSem.ClaimJoined
import GoSem.ClaimMapViews
import Derived.JoinedTies
import Derived.KernelRfl
namespace Go.Proofs.Ytjheeeilcfbdbaa
/- THE CELL 'sum', in the pinned program and in every row, IS THE sha256 OF THE DUMP (.gsa) THAT YtjheeeilcfbdbaaProg.lean LOADS. Nothing in Lean hashes anything: it is a label: what it is worth is what the hold of that sum in a sandbox is worth. -/
noncomputable def Try.pinned : Pinned := { name := "ytjheeeilcfbdbaa", sum := "f6246dee2d08c01ab32b74866a9d46b4724d5f1a0835f74b0646319b5b526e4e", checked := Try.checked }
namespace Rows
def none {H : Type} : Left H := { results := [], args := [] }

/-- 'laws.FnTell': WHATEVER THE INPUT: true; the input reads as it did. -/
def fnTellSpec : ChangeSpec := { name := "fnTell", fn := fun _ => fun
  | [d] => { results := [.lit (.bool true)], args := [d] }
  | _ => none }
def fnTellRow : OpenClaim := { program := "ytjheeeilcfbdbaa", sum := "f6246dee2d08c01ab32b74866a9d46b4724d5f1a0835f74b0646319b5b526e4e", func := "loop.example/chainfiles/laws.FnTell", spec := "fnTell", apart := false }
def FnTellSaid : Prop := fnTellRow.holds Try.pinned (OpenSpec.ofChange fnTellSpec)

/-- ITS FALSE NEIGHBOUR: 'it returns false'. Refute it at one input. -/
def fnTellWrong : ChangeSpec := { name := "fnTell", fn := fun _ => fun
  | [d] => { results := [.lit (.bool false)], args := [d] }
  | _ => none }
def FnTellWrongFalsely : Prop := fnTellRow.holds Try.pinned (OpenSpec.ofChange fnTellWrong)

/-- 'laws.FnTellTwice': WHATEVER THE INPUT: true; the input reads as it did. -/
def fnTellTwiceSpec : ChangeSpec := { name := "fnTellTwice", fn := fun _ => fun
  | [d] => { results := [.lit (.bool true)], args := [d] }
  | _ => none }
def fnTellTwiceRow : OpenClaim := { program := "ytjheeeilcfbdbaa", sum := "f6246dee2d08c01ab32b74866a9d46b4724d5f1a0835f74b0646319b5b526e4e", func := "loop.example/chainfiles/laws.FnTellTwice", spec := "fnTellTwice", apart := false }
def FnTellTwiceSaid : Prop := fnTellTwiceRow.holds Try.pinned (OpenSpec.ofChange fnTellTwiceSpec)

/-- ITS FALSE NEIGHBOUR: 'it returns false'. Refute it at one input. -/
def fnTellTwiceWrong : ChangeSpec := { name := "fnTellTwice", fn := fun _ => fun
  | [d] => { results := [.lit (.bool false)], args := [d] }
  | _ => none }
def FnTellTwiceWrongFalsely : Prop := fnTellTwiceRow.holds Try.pinned (OpenSpec.ofChange fnTellTwiceWrong)

/-- 'laws.FnExactChainTell': WHATEVER THE INPUT: true; the input reads as it did. -/
def fnExactChainTellSpec : ChangeSpec := { name := "fnExactChainTell", fn := fun _ => fun
  | [d1, d2] => { results := [.lit (.bool true)], args := [d1, d2] }
  | _ => none }
def fnExactChainTellRow : OpenClaim := { program := "ytjheeeilcfbdbaa", sum := "f6246dee2d08c01ab32b74866a9d46b4724d5f1a0835f74b0646319b5b526e4e", func := "loop.example/chainfiles/laws.FnExactChainTell", spec := "fnExactChainTell", apart := false }
def FnExactChainTellSaid : Prop := fnExactChainTellRow.holds Try.pinned (OpenSpec.ofChange fnExactChainTellSpec)

/-- ITS FALSE NEIGHBOUR: 'it returns false'. Refute it at one input. -/
def fnExactChainTellWrong : ChangeSpec := { name := "fnExactChainTell", fn := fun _ => fun
  | [d1, d2] => { results := [.lit (.bool false)], args := [d1, d2] }
  | _ => none }
def FnExactChainTellWrongFalsely : Prop := fnExactChainTellRow.holds Try.pinned (OpenSpec.ofChange fnExactChainTellWrong)

/- THE SECOND FORM. 'bulk': how many values and letters a reading holds, each counted each time it is reached (what is shared counts as often as it is met; a slice's spare places count too). A statement '..UptoSaid' is the law's where the arguments, and the package variables that the reading takes, are together of bulk at most 1048576: NARROWER than '..Said'. Prove '..Said' where nothing that the law and all that it calls make is longer than what came in: it says more and counts as full. Else prove '..UptoSaid'. A law counts once. -/
mutual
def uptoBulk {H : Type} : DataW H → Nat
  | .lit (.string bytes) => bytes.length + 1
  | .lit _ => 1
  | .nil => 1
  | .ptr d => uptoBulk d + 1
  | .slice elems spare => uptoBulkAll elems + uptoBulkAll spare + 1
  | .agg parts => uptoBulkAll parts + 1
  | .iface _ d => uptoBulk d + 1
  | .map entries => uptoBulkEntries entries + 1
  | .held _ => 1
def uptoBulkAll {H : Type} : List (DataW H) → Nat
  | [] => 0
  | d :: r => uptoBulk d + uptoBulkAll r
def uptoBulkEntries {H : Type} : List (Lit × DataW H) → Nat
  | [] => 0
  | x :: r => uptoBulkEntry x + uptoBulkEntries r
def uptoBulkEntry {H : Type} : Lit × DataW H → Nat
  | (.string bytes, d) => bytes.length + uptoBulk d + 1
  | (_, d) => uptoBulk d + 1
 end
def uptoSmall : (H : Type) → List (DataW H) → Bool := fun _ ds => decide (uptoBulkAll ds ≤ 1048576)
def OpenSpec.upto (s : _root_.Go.ChangeSpec) : _root_.Go.OpenSpec := { _root_.Go.OpenSpec.ofChange s with cond := some uptoSmall }

/-- 'laws.FnTell', WHERE WHAT IT READS IS OF BULK AT MOST 1048576: true; the input reads as it did. -/
def fnTellUptoRow : OpenClaim := { program := "ytjheeeilcfbdbaa", sum := "f6246dee2d08c01ab32b74866a9d46b4724d5f1a0835f74b0646319b5b526e4e", func := "loop.example/chainfiles/laws.FnTell", spec := "fnTell", apart := false, narrowed := true }
def FnTellUptoSaid : Prop := fnTellUptoRow.holds Try.pinned (OpenSpec.upto fnTellSpec)

/-- 'laws.FnTellTwice', WHERE WHAT IT READS IS OF BULK AT MOST 1048576: true; the input reads as it did. -/
def fnTellTwiceUptoRow : OpenClaim := { program := "ytjheeeilcfbdbaa", sum := "f6246dee2d08c01ab32b74866a9d46b4724d5f1a0835f74b0646319b5b526e4e", func := "loop.example/chainfiles/laws.FnTellTwice", spec := "fnTellTwice", apart := false, narrowed := true }
def FnTellTwiceUptoSaid : Prop := fnTellTwiceUptoRow.holds Try.pinned (OpenSpec.upto fnTellTwiceSpec)

/-- 'laws.FnExactChainTell', WHERE WHAT IT READS IS OF BULK AT MOST 1048576: true; the input reads as it did. -/
def fnExactChainTellUptoRow : OpenClaim := { program := "ytjheeeilcfbdbaa", sum := "f6246dee2d08c01ab32b74866a9d46b4724d5f1a0835f74b0646319b5b526e4e", func := "loop.example/chainfiles/laws.FnExactChainTell", spec := "fnExactChainTell", apart := false, narrowed := true }
def FnExactChainTellUptoSaid : Prop := fnExactChainTellUptoRow.holds Try.pinned (OpenSpec.upto fnExactChainTellSpec)

end Rows
end Go.Proofs.Ytjheeeilcfbdbaa
