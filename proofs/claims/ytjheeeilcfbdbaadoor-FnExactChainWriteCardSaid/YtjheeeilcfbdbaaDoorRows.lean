/-
  NARROWER THAN 'FOR EVERY INPUT', by the rows' own cells (each row's printed sentence says how): FnTake: ifaces, laid · FnTakePending: ifaces, laid · FnExactNodeTake: ifaces, laid · FnWrite: ifaces, laid · FnWriteRead: ifaces, laid · FnExactChainWrite: ifaces, laid.
  DERIVED. THE GIVEN ROWS OF THIS SEAT. 6 by the template 'for every input the law returns true; each argument reads behind the call as it read before'; 0 by the template 'total and deterministic' (their statements: YtjheeeilcfbdbaaDoorTotals.lean).
  GIVEN WITH THE SEED: the statements are not yours to turn. If you find one false, say at which input.
  Laid BY PROGRAM, IN A SANDBOX (cutbox-rows.mjs): the forced cells as the released guide's own fill.sh prints them over the translation 011b7999a83508ba… (all of the seat's roots in one cut). By AI agents, Wed Nov 11 2026. No macro, syntax, notation, axiom, sorry.
-/
import Derived.Test.YtjheeeilcfbdbaaDoorChecked
import GoSem.Claim
import GoSem.ClaimJoined
import GoSem.ClaimMapViews
import Derived.JoinedTies
import Derived.KernelRfl
namespace Go.Proofs.YtjheeeilcfbdbaaDoor
/- THE CELL 'sum', in the pinned program and in every row, IS THE sha256 OF THE DUMP (.gsa) THAT YtjheeeilcfbdbaaDoorProg.lean LOADS. Nothing in Lean hashes anything: it is a label: what it is worth is what the hold of that sum in a sandbox is worth. -/
noncomputable def Tryd.pinned : Pinned := { name := "ytjheeeilcfbdbaadoor", sum := "011b7999a83508ba415bdda970866da70926e4584f7a3d6739873a19e6ea7daa", checked := Tryd.checked }
namespace Rows
def none {H : Type} : Left H := { results := [], args := [] }

/- WHAT THE LISTED PACKAGE-LEVEL VARIABLES READ AS WHEN THE CALL BEGINS. Each datum BY PROGRAM (the guide's laid-datum.mjs) off the statement by which the dump's own 'gosem.cut.vars' lays the variable. In a bare row this is a premise. The card (YtjheeeilcfbdbaaDoorCards.lean) ties it to the program's text. -/
def laid_loop_example_chainfiles_impl_errTake {H : Type} : DataW H := .iface "*errors.errorString" (.ptr (.agg [.lit (.string [116, 104, 101, 32, 110, 111, 100, 101, 32, 99, 97, 110, 32, 110, 111, 116, 32, 116, 97, 107, 101, 32, 116, 104, 101, 32, 117, 112, 100, 97, 116, 101])]))

/-- 'laws.FnTake': WHATEVER THE INPUT: true; the input reads as it did. -/
def fnTakeSpec : ChangeSpec := { name := "fnTake", vars := ["loop.example/chainfiles/impl.errTake"], fn := fun _ => fun
  | [d, g1] => { results := [.lit (.bool true)], args := [d], vars := [g1] }
  | _ => none }
def fnTakeRow : OpenClaim := { program := "ytjheeeilcfbdbaadoor", sum := "011b7999a83508ba415bdda970866da70926e4584f7a3d6739873a19e6ea7daa", func := "loop.example/chainfiles/laws.FnTake", spec := "fnTake", inPlace := ["internal/reflectlite.TypeOf"], unfollowed := true, recurses := true, named := ["loop.example/chainfiles/impl.errTake"], ifaces := true, apart := false, laid := [("loop.example/chainfiles/impl.errTake", laid_loop_example_chainfiles_impl_errTake)] }
def FnTakeSaid : Prop := fnTakeRow.holds Tryd.pinned (OpenSpec.ofChange fnTakeSpec)

/-- ITS FALSE NEIGHBOUR: 'it returns false'. Refute it at one input. -/
def fnTakeWrong : ChangeSpec := { name := "fnTake", vars := ["loop.example/chainfiles/impl.errTake"], fn := fun _ => fun
  | [d, g1] => { results := [.lit (.bool false)], args := [d], vars := [g1] }
  | _ => none }
def FnTakeWrongFalsely : Prop := fnTakeRow.holds Tryd.pinned (OpenSpec.ofChange fnTakeWrong)

/-- 'laws.FnTakePending': WHATEVER THE INPUT: true; the input reads as it did. -/
def fnTakePendingSpec : ChangeSpec := { name := "fnTakePending", vars := ["loop.example/chainfiles/impl.errTake"], fn := fun _ => fun
  | [d, g1] => { results := [.lit (.bool true)], args := [d], vars := [g1] }
  | _ => none }
def fnTakePendingRow : OpenClaim := { program := "ytjheeeilcfbdbaadoor", sum := "011b7999a83508ba415bdda970866da70926e4584f7a3d6739873a19e6ea7daa", func := "loop.example/chainfiles/laws.FnTakePending", spec := "fnTakePending", inPlace := ["internal/reflectlite.TypeOf"], unfollowed := true, recurses := true, named := ["loop.example/chainfiles/impl.errTake"], ifaces := true, apart := false, laid := [("loop.example/chainfiles/impl.errTake", laid_loop_example_chainfiles_impl_errTake)] }
def FnTakePendingSaid : Prop := fnTakePendingRow.holds Tryd.pinned (OpenSpec.ofChange fnTakePendingSpec)

/-- ITS FALSE NEIGHBOUR: 'it returns false'. Refute it at one input. -/
def fnTakePendingWrong : ChangeSpec := { name := "fnTakePending", vars := ["loop.example/chainfiles/impl.errTake"], fn := fun _ => fun
  | [d, g1] => { results := [.lit (.bool false)], args := [d], vars := [g1] }
  | _ => none }
def FnTakePendingWrongFalsely : Prop := fnTakePendingRow.holds Tryd.pinned (OpenSpec.ofChange fnTakePendingWrong)

/-- 'laws.FnExactNodeTake': WHATEVER THE INPUT: true; the input reads as it did. -/
def fnExactNodeTakeSpec : ChangeSpec := { name := "fnExactNodeTake", vars := ["loop.example/chainfiles/impl.errTake"], fn := fun _ => fun
  | [d1, d2, g1] => { results := [.lit (.bool true)], args := [d1, d2], vars := [g1] }
  | _ => none }
def fnExactNodeTakeRow : OpenClaim := { program := "ytjheeeilcfbdbaadoor", sum := "011b7999a83508ba415bdda970866da70926e4584f7a3d6739873a19e6ea7daa", func := "loop.example/chainfiles/laws.FnExactNodeTake", spec := "fnExactNodeTake", inPlace := ["internal/reflectlite.TypeOf"], unfollowed := true, recurses := true, named := ["loop.example/chainfiles/impl.errTake"], ifaces := true, apart := false, laid := [("loop.example/chainfiles/impl.errTake", laid_loop_example_chainfiles_impl_errTake)] }
def FnExactNodeTakeSaid : Prop := fnExactNodeTakeRow.holds Tryd.pinned (OpenSpec.ofChange fnExactNodeTakeSpec)

/-- ITS FALSE NEIGHBOUR: 'it returns false'. Refute it at one input. -/
def fnExactNodeTakeWrong : ChangeSpec := { name := "fnExactNodeTake", vars := ["loop.example/chainfiles/impl.errTake"], fn := fun _ => fun
  | [d1, d2, g1] => { results := [.lit (.bool false)], args := [d1, d2], vars := [g1] }
  | _ => none }
def FnExactNodeTakeWrongFalsely : Prop := fnExactNodeTakeRow.holds Tryd.pinned (OpenSpec.ofChange fnExactNodeTakeWrong)

/-- 'laws.FnWrite': WHATEVER THE INPUT: true; the input reads as it did. -/
def fnWriteSpec : ChangeSpec := { name := "fnWrite", vars := ["loop.example/chainfiles/impl.errTake"], fn := fun _ => fun
  | [d, g1] => { results := [.lit (.bool true)], args := [d], vars := [g1] }
  | _ => none }
def fnWriteRow : OpenClaim := { program := "ytjheeeilcfbdbaadoor", sum := "011b7999a83508ba415bdda970866da70926e4584f7a3d6739873a19e6ea7daa", func := "loop.example/chainfiles/laws.FnWrite", spec := "fnWrite", inPlace := ["internal/reflectlite.TypeOf"], unfollowed := true, recurses := true, named := ["loop.example/chainfiles/impl.errTake"], ifaces := true, apart := false, laid := [("loop.example/chainfiles/impl.errTake", laid_loop_example_chainfiles_impl_errTake)] }
def FnWriteSaid : Prop := fnWriteRow.holds Tryd.pinned (OpenSpec.ofChange fnWriteSpec)

/-- ITS FALSE NEIGHBOUR: 'it returns false'. Refute it at one input. -/
def fnWriteWrong : ChangeSpec := { name := "fnWrite", vars := ["loop.example/chainfiles/impl.errTake"], fn := fun _ => fun
  | [d, g1] => { results := [.lit (.bool false)], args := [d], vars := [g1] }
  | _ => none }
def FnWriteWrongFalsely : Prop := fnWriteRow.holds Tryd.pinned (OpenSpec.ofChange fnWriteWrong)

/-- 'laws.FnWriteRead': WHATEVER THE INPUT: true; the input reads as it did. -/
def fnWriteReadSpec : ChangeSpec := { name := "fnWriteRead", vars := ["loop.example/chainfiles/impl.errTake"], fn := fun _ => fun
  | [d1, d2, g1] => { results := [.lit (.bool true)], args := [d1, d2], vars := [g1] }
  | _ => none }
def fnWriteReadRow : OpenClaim := { program := "ytjheeeilcfbdbaadoor", sum := "011b7999a83508ba415bdda970866da70926e4584f7a3d6739873a19e6ea7daa", func := "loop.example/chainfiles/laws.FnWriteRead", spec := "fnWriteRead", inPlace := ["internal/reflectlite.TypeOf"], unfollowed := true, recurses := true, named := ["loop.example/chainfiles/impl.errTake"], ifaces := true, apart := false, laid := [("loop.example/chainfiles/impl.errTake", laid_loop_example_chainfiles_impl_errTake)] }
def FnWriteReadSaid : Prop := fnWriteReadRow.holds Tryd.pinned (OpenSpec.ofChange fnWriteReadSpec)

/-- ITS FALSE NEIGHBOUR: 'it returns false'. Refute it at one input. -/
def fnWriteReadWrong : ChangeSpec := { name := "fnWriteRead", vars := ["loop.example/chainfiles/impl.errTake"], fn := fun _ => fun
  | [d1, d2, g1] => { results := [.lit (.bool false)], args := [d1, d2], vars := [g1] }
  | _ => none }
def FnWriteReadWrongFalsely : Prop := fnWriteReadRow.holds Tryd.pinned (OpenSpec.ofChange fnWriteReadWrong)

/-- 'laws.FnExactChainWrite': WHATEVER THE INPUT: true; the input reads as it did. -/
def fnExactChainWriteSpec : ChangeSpec := { name := "fnExactChainWrite", vars := ["loop.example/chainfiles/impl.errTake"], fn := fun _ => fun
  | [d1, d2, g1] => { results := [.lit (.bool true)], args := [d1, d2], vars := [g1] }
  | _ => none }
def fnExactChainWriteRow : OpenClaim := { program := "ytjheeeilcfbdbaadoor", sum := "011b7999a83508ba415bdda970866da70926e4584f7a3d6739873a19e6ea7daa", func := "loop.example/chainfiles/laws.FnExactChainWrite", spec := "fnExactChainWrite", inPlace := ["internal/reflectlite.TypeOf"], unfollowed := true, recurses := true, named := ["loop.example/chainfiles/impl.errTake"], ifaces := true, apart := false, laid := [("loop.example/chainfiles/impl.errTake", laid_loop_example_chainfiles_impl_errTake)] }
def FnExactChainWriteSaid : Prop := fnExactChainWriteRow.holds Tryd.pinned (OpenSpec.ofChange fnExactChainWriteSpec)

/-- ITS FALSE NEIGHBOUR: 'it returns false'. Refute it at one input. -/
def fnExactChainWriteWrong : ChangeSpec := { name := "fnExactChainWrite", vars := ["loop.example/chainfiles/impl.errTake"], fn := fun _ => fun
  | [d1, d2, g1] => { results := [.lit (.bool false)], args := [d1, d2], vars := [g1] }
  | _ => none }
def FnExactChainWriteWrongFalsely : Prop := fnExactChainWriteRow.holds Tryd.pinned (OpenSpec.ofChange fnExactChainWriteWrong)

/- THE SECOND FORM. 'bulk': how many values and letters a reading holds, each counted each time it is reached (what is shared counts as often as it is met; a slice's spare places count too). A statement '..UptoSaid' is the law's where the arguments, and the package variables that the reading takes, are together of bulk at most 1048576: NARROWER than '..Said'. Prove '..Said' where nothing that the law and all that it calls make is longer than what came in: it says more and counts as full. Else prove '..UptoSaid'. A law counts once. -/
mutual
def uptoBulk {H : Type} : DataW H → Nat
  | .lit (.string bytes) => bytes.length + 1
  | .lit _ => 1
  | .nil => 1
  | .ptr d => uptoBulk d + 1
  | .slice elems spare => uptoBulkAll elems + uptoBulkAll spare + 1
  | .agg parts => uptoBulkAll parts + 1
  | .iface _ d => uptoBulk d + 1
  | .map entries => uptoBulkEntries entries + 1
  | .held _ => 1
def uptoBulkAll {H : Type} : List (DataW H) → Nat
  | [] => 0
  | d :: r => uptoBulk d + uptoBulkAll r
def uptoBulkEntries {H : Type} : List (Lit × DataW H) → Nat
  | [] => 0
  | x :: r => uptoBulkEntry x + uptoBulkEntries r
def uptoBulkEntry {H : Type} : Lit × DataW H → Nat
  | (.string bytes, d) => bytes.length + uptoBulk d + 1
  | (_, d) => uptoBulk d + 1
 end
def uptoSmall : (H : Type) → List (DataW H) → Bool := fun _ ds => decide (uptoBulkAll ds ≤ 1048576)
def OpenSpec.upto (s : _root_.Go.ChangeSpec) : _root_.Go.OpenSpec := { _root_.Go.OpenSpec.ofChange s with cond := some uptoSmall }

/-- 'laws.FnTake', WHERE WHAT IT READS IS OF BULK AT MOST 1048576: true; the input reads as it did. -/
def fnTakeUptoRow : OpenClaim := { program := "ytjheeeilcfbdbaadoor", sum := "011b7999a83508ba415bdda970866da70926e4584f7a3d6739873a19e6ea7daa", func := "loop.example/chainfiles/laws.FnTake", spec := "fnTake", inPlace := ["internal/reflectlite.TypeOf"], unfollowed := true, recurses := true, named := ["loop.example/chainfiles/impl.errTake"], ifaces := true, apart := false, laid := [("loop.example/chainfiles/impl.errTake", laid_loop_example_chainfiles_impl_errTake)], narrowed := true }
def FnTakeUptoSaid : Prop := fnTakeUptoRow.holds Tryd.pinned (OpenSpec.upto fnTakeSpec)

/-- 'laws.FnTakePending', WHERE WHAT IT READS IS OF BULK AT MOST 1048576: true; the input reads as it did. -/
def fnTakePendingUptoRow : OpenClaim := { program := "ytjheeeilcfbdbaadoor", sum := "011b7999a83508ba415bdda970866da70926e4584f7a3d6739873a19e6ea7daa", func := "loop.example/chainfiles/laws.FnTakePending", spec := "fnTakePending", inPlace := ["internal/reflectlite.TypeOf"], unfollowed := true, recurses := true, named := ["loop.example/chainfiles/impl.errTake"], ifaces := true, apart := false, laid := [("loop.example/chainfiles/impl.errTake", laid_loop_example_chainfiles_impl_errTake)], narrowed := true }
def FnTakePendingUptoSaid : Prop := fnTakePendingUptoRow.holds Tryd.pinned (OpenSpec.upto fnTakePendingSpec)

/-- 'laws.FnExactNodeTake', WHERE WHAT IT READS IS OF BULK AT MOST 1048576: true; the input reads as it did. -/
def fnExactNodeTakeUptoRow : OpenClaim := { program := "ytjheeeilcfbdbaadoor", sum := "011b7999a83508ba415bdda970866da70926e4584f7a3d6739873a19e6ea7daa", func := "loop.example/chainfiles/laws.FnExactNodeTake", spec := "fnExactNodeTake", inPlace := ["internal/reflectlite.TypeOf"], unfollowed := true, recurses := true, named := ["loop.example/chainfiles/impl.errTake"], ifaces := true, apart := false, laid := [("loop.example/chainfiles/impl.errTake", laid_loop_example_chainfiles_impl_errTake)], narrowed := true }
def FnExactNodeTakeUptoSaid : Prop := fnExactNodeTakeUptoRow.holds Tryd.pinned (OpenSpec.upto fnExactNodeTakeSpec)

/-- 'laws.FnWrite', WHERE WHAT IT READS IS OF BULK AT MOST 1048576: true; the input reads as it did. -/
def fnWriteUptoRow : OpenClaim := { program := "ytjheeeilcfbdbaadoor", sum := "011b7999a83508ba415bdda970866da70926e4584f7a3d6739873a19e6ea7daa", func := "loop.example/chainfiles/laws.FnWrite", spec := "fnWrite", inPlace := ["internal/reflectlite.TypeOf"], unfollowed := true, recurses := true, named := ["loop.example/chainfiles/impl.errTake"], ifaces := true, apart := false, laid := [("loop.example/chainfiles/impl.errTake", laid_loop_example_chainfiles_impl_errTake)], narrowed := true }
def FnWriteUptoSaid : Prop := fnWriteUptoRow.holds Tryd.pinned (OpenSpec.upto fnWriteSpec)

/-- 'laws.FnWriteRead', WHERE WHAT IT READS IS OF BULK AT MOST 1048576: true; the input reads as it did. -/
def fnWriteReadUptoRow : OpenClaim := { program := "ytjheeeilcfbdbaadoor", sum := "011b7999a83508ba415bdda970866da70926e4584f7a3d6739873a19e6ea7daa", func := "loop.example/chainfiles/laws.FnWriteRead", spec := "fnWriteRead", inPlace := ["internal/reflectlite.TypeOf"], unfollowed := true, recurses := true, named := ["loop.example/chainfiles/impl.errTake"], ifaces := true, apart := false, laid := [("loop.example/chainfiles/impl.errTake", laid_loop_example_chainfiles_impl_errTake)], narrowed := true }
def FnWriteReadUptoSaid : Prop := fnWriteReadUptoRow.holds Tryd.pinned (OpenSpec.upto fnWriteReadSpec)

/-- 'laws.FnExactChainWrite', WHERE WHAT IT READS IS OF BULK AT MOST 1048576: true; the input reads as it did. -/
def fnExactChainWriteUptoRow : OpenClaim := { program := "ytjheeeilcfbdbaadoor", sum := "011b7999a83508ba415bdda970866da70926e4584f7a3d6739873a19e6ea7daa", func := "loop.example/chainfiles/laws.FnExactChainWrite", spec := "fnExactChainWrite", inPlace := ["internal/reflectlite.TypeOf"], unfollowed := true, recurses := true, named := ["loop.example/chainfiles/impl.errTake"], ifaces := true, apart := false, laid := [("loop.example/chainfiles/impl.errTake", laid_loop_example_chainfiles_impl_errTake)], narrowed := true }
def FnExactChainWriteUptoSaid : Prop := fnExactChainWriteUptoRow.holds Tryd.pinned (OpenSpec.upto fnExactChainWriteSpec)

end Rows
end Go.Proofs.YtjheeeilcfbdbaaDoor
