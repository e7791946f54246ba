/-
  DERIVED. GIVEN WITH THE SEED: THE CARDS: each row of YtjheeeilcfbdbaaDoorRows.lean that lists a variable, with what it lists TIED to the program's text (the seventh form; the later family's looks); each row that meets fmt, with fmt's text TOLD by the authors' own Lean function (tested against real Go, not proved from fmt's source: count such statements apart). THE CARD IS WHAT COUNTS. Prove the row's statement (the work); the ties are given (YtjheeeilcfbdbaaDoorTie.lean); close each card by the builder's one call (the guide's Derived/Test/ToyasCard.lean, 'card_holds'). Laid BY PROGRAM, IN A SANDBOX (cutbox-door.mjs). By AI agents, Wed Nov 11 2026. No macro, syntax, notation, axiom, sorry.
-/
import Derived.Test.YtjheeeilcfbdbaaDoorRows
import GoSem.ClaimSeven
namespace Go.Proofs.YtjheeeilcfbdbaaDoor
namespace Rows

/-- THE TIED CARD OF 'laws.FnTake'. -/
def fnTakeCard : Claim7 := { stood := { row := fnTakeRow, standIns := [], harness := (true, "46b6810a648acbc41c18ea3f831988480e2226fbf815f5b6942241efda507b8a"), looks := true }, kinds := [], alts := [], laidByText := true, laidKinds := [.sentinel], laidTests := true, laidLooks := .later }
def FnTakeCardSaid : Prop := Claim7.holds Tryd.pinned (.plain (OpenSpec.ofChange fnTakeSpec)) fnTakeCard

/-- THE TIED CARD OF 'laws.FnTakePending'. -/
def fnTakePendingCard : Claim7 := { stood := { row := fnTakePendingRow, standIns := [], harness := (true, "46b6810a648acbc41c18ea3f831988480e2226fbf815f5b6942241efda507b8a"), looks := true }, kinds := [], alts := [], laidByText := true, laidKinds := [.sentinel], laidTests := true, laidLooks := .later }
def FnTakePendingCardSaid : Prop := Claim7.holds Tryd.pinned (.plain (OpenSpec.ofChange fnTakePendingSpec)) fnTakePendingCard

/-- THE TIED CARD OF 'laws.FnExactNodeTake'. -/
def fnExactNodeTakeCard : Claim7 := { stood := { row := fnExactNodeTakeRow, standIns := [], harness := (true, "46b6810a648acbc41c18ea3f831988480e2226fbf815f5b6942241efda507b8a"), looks := true }, kinds := [], alts := [], laidByText := true, laidKinds := [.sentinel], laidTests := true, laidLooks := .later }
def FnExactNodeTakeCardSaid : Prop := Claim7.holds Tryd.pinned (.plain (OpenSpec.ofChange fnExactNodeTakeSpec)) fnExactNodeTakeCard

/-- THE TIED CARD OF 'laws.FnWrite'. -/
def fnWriteCard : Claim7 := { stood := { row := fnWriteRow, standIns := [], harness := (true, "46b6810a648acbc41c18ea3f831988480e2226fbf815f5b6942241efda507b8a"), looks := true }, kinds := [], alts := [], laidByText := true, laidKinds := [.sentinel], laidTests := true, laidLooks := .later }
def FnWriteCardSaid : Prop := Claim7.holds Tryd.pinned (.plain (OpenSpec.ofChange fnWriteSpec)) fnWriteCard

/-- THE TIED CARD OF 'laws.FnWriteRead'. -/
def fnWriteReadCard : Claim7 := { stood := { row := fnWriteReadRow, standIns := [], harness := (true, "46b6810a648acbc41c18ea3f831988480e2226fbf815f5b6942241efda507b8a"), looks := true }, kinds := [], alts := [], laidByText := true, laidKinds := [.sentinel], laidTests := true, laidLooks := .later }
def FnWriteReadCardSaid : Prop := Claim7.holds Tryd.pinned (.plain (OpenSpec.ofChange fnWriteReadSpec)) fnWriteReadCard

/-- THE TIED CARD OF 'laws.FnExactChainWrite'. -/
def fnExactChainWriteCard : Claim7 := { stood := { row := fnExactChainWriteRow, standIns := [], harness := (true, "46b6810a648acbc41c18ea3f831988480e2226fbf815f5b6942241efda507b8a"), looks := true }, kinds := [], alts := [], laidByText := true, laidKinds := [.sentinel], laidTests := true, laidLooks := .later }
def FnExactChainWriteCardSaid : Prop := Claim7.holds Tryd.pinned (.plain (OpenSpec.ofChange fnExactChainWriteSpec)) fnExactChainWriteCard

/-- THE SECOND FORM's CARD OF 'laws.FnTake'. -/
def fnTakeUptoCard : Claim7 := { stood := { row := fnTakeUptoRow, standIns := [], harness := (true, "46b6810a648acbc41c18ea3f831988480e2226fbf815f5b6942241efda507b8a"), looks := true }, kinds := [], alts := [], laidByText := true, laidKinds := [.sentinel], laidTests := true, laidLooks := .later }
def FnTakeUptoCardSaid : Prop := Claim7.holds Tryd.pinned (.plain (OpenSpec.upto fnTakeSpec)) fnTakeUptoCard

/-- THE SECOND FORM's CARD OF 'laws.FnTakePending'. -/
def fnTakePendingUptoCard : Claim7 := { stood := { row := fnTakePendingUptoRow, standIns := [], harness := (true, "46b6810a648acbc41c18ea3f831988480e2226fbf815f5b6942241efda507b8a"), looks := true }, kinds := [], alts := [], laidByText := true, laidKinds := [.sentinel], laidTests := true, laidLooks := .later }
def FnTakePendingUptoCardSaid : Prop := Claim7.holds Tryd.pinned (.plain (OpenSpec.upto fnTakePendingSpec)) fnTakePendingUptoCard

/-- THE SECOND FORM's CARD OF 'laws.FnExactNodeTake'. -/
def fnExactNodeTakeUptoCard : Claim7 := { stood := { row := fnExactNodeTakeUptoRow, standIns := [], harness := (true, "46b6810a648acbc41c18ea3f831988480e2226fbf815f5b6942241efda507b8a"), looks := true }, kinds := [], alts := [], laidByText := true, laidKinds := [.sentinel], laidTests := true, laidLooks := .later }
def FnExactNodeTakeUptoCardSaid : Prop := Claim7.holds Tryd.pinned (.plain (OpenSpec.upto fnExactNodeTakeSpec)) fnExactNodeTakeUptoCard

/-- THE SECOND FORM's CARD OF 'laws.FnWrite'. -/
def fnWriteUptoCard : Claim7 := { stood := { row := fnWriteUptoRow, standIns := [], harness := (true, "46b6810a648acbc41c18ea3f831988480e2226fbf815f5b6942241efda507b8a"), looks := true }, kinds := [], alts := [], laidByText := true, laidKinds := [.sentinel], laidTests := true, laidLooks := .later }
def FnWriteUptoCardSaid : Prop := Claim7.holds Tryd.pinned (.plain (OpenSpec.upto fnWriteSpec)) fnWriteUptoCard

/-- THE SECOND FORM's CARD OF 'laws.FnWriteRead'. -/
def fnWriteReadUptoCard : Claim7 := { stood := { row := fnWriteReadUptoRow, standIns := [], harness := (true, "46b6810a648acbc41c18ea3f831988480e2226fbf815f5b6942241efda507b8a"), looks := true }, kinds := [], alts := [], laidByText := true, laidKinds := [.sentinel], laidTests := true, laidLooks := .later }
def FnWriteReadUptoCardSaid : Prop := Claim7.holds Tryd.pinned (.plain (OpenSpec.upto fnWriteReadSpec)) fnWriteReadUptoCard

/-- THE SECOND FORM's CARD OF 'laws.FnExactChainWrite'. -/
def fnExactChainWriteUptoCard : Claim7 := { stood := { row := fnExactChainWriteUptoRow, standIns := [], harness := (true, "46b6810a648acbc41c18ea3f831988480e2226fbf815f5b6942241efda507b8a"), looks := true }, kinds := [], alts := [], laidByText := true, laidKinds := [.sentinel], laidTests := true, laidLooks := .later }
def FnExactChainWriteUptoCardSaid : Prop := Claim7.holds Tryd.pinned (.plain (OpenSpec.upto fnExactChainWriteSpec)) fnExactChainWriteUptoCard
end Rows
end Go.Proofs.YtjheeeilcfbdbaaDoor
