/-
  DERIVED. GIVEN WITH THE SEED: THE CARDS: each row of YtcffonnijhhhiaaGreatDoorRows.lean that lists a variable, with what it lists TIED to the program's text (the seventh form; the later family's looks); each row that meets fmt, with fmt's text TOLD by the authors' own Lean function (tested against real Go, not proved from fmt's source: count such statements apart). THE CARD IS WHAT COUNTS. Prove the row's statement (the work); the ties are given (YtcffonnijhhhiaaGreatDoorTie.lean); close each card by the builder's one call (the guide's Derived/Test/ToyasCard.lean, 'card_holds'). Laid BY PROGRAM, IN A SANDBOX (cutbox-door.mjs). By AI agents, Wed Nov 11 2026. No macro, syntax, notation, axiom, sorry.
-/
import Derived.Test.YtcffonnijhhhiaaGreatDoorRows
import GoSem.ClaimSeven
namespace Go.Proofs.YtcffonnijhhhiaaGreatDoor
namespace Rows

/-- THE TIED CARD OF 'merestonelaw07.RightDeals'. -/
def rightDealsCard : Claim7 := { stood := { row := rightDealsRow, standIns := [], harness := (true, "e6255a452cdaf4c1cdee602496aae2345aab9ad00d2ad9640411cf6133b0114b"), looks := true }, kinds := [], alts := [], laidByText := true, laidKinds := [.data, .data, .data, .data, .sentinel, .sentinel, .pinned], laidTests := true, laidLooks := .later }
def RightDealsCardSaid : Prop := Claim7.holds Tryz.pinned (.plain (OpenSpec.ofChange rightDealsSpec)) rightDealsCard

/-- THE TIED CARD OF 'merestonelaw07.RightChecks'. -/
def rightChecksCard : Claim7 := { stood := { row := rightChecksRow, standIns := [], harness := (true, "e6255a452cdaf4c1cdee602496aae2345aab9ad00d2ad9640411cf6133b0114b"), looks := true }, kinds := [], alts := [], laidByText := true, laidKinds := [.data, .data, .data, .data, .sentinel, .sentinel, .pinned], laidTests := true, laidLooks := .later }
def RightChecksCardSaid : Prop := Claim7.holds Tryz.pinned (.plain (OpenSpec.ofChange rightChecksSpec)) rightChecksCard

/-- THE TIED CARD OF 'merestonelaw07.RightLines'. -/
def rightLinesCard : Claim7 := { stood := { row := rightLinesRow, standIns := [], harness := (true, "e6255a452cdaf4c1cdee602496aae2345aab9ad00d2ad9640411cf6133b0114b"), looks := true }, kinds := [], alts := [], laidByText := true, laidKinds := [.data, .data, .data, .data, .sentinel, .sentinel, .pinned], laidTests := true, laidLooks := .later }
def RightLinesCardSaid : Prop := Claim7.holds Tryz.pinned (.plain (OpenSpec.ofChange rightLinesSpec)) rightLinesCard

/-- THE TIED CARD OF 'merestonelaw07.RightSame'. -/
def rightSameCard : Claim7 := { stood := { row := rightSameRow, standIns := [], harness := (true, "e6255a452cdaf4c1cdee602496aae2345aab9ad00d2ad9640411cf6133b0114b"), looks := true }, kinds := [], alts := [], laidByText := true, laidKinds := [.data, .data, .data, .data, .sentinel, .sentinel, .pinned], laidTests := true, laidLooks := .later }
def RightSameCardSaid : Prop := Claim7.holds Tryz.pinned (.plain (OpenSpec.ofChange rightSameSpec)) rightSameCard

/-- THE TIED CARD OF 'merestonelaw07.RightWhole'. -/
def rightWholeCard : Claim7 := { stood := { row := rightWholeRow, standIns := [], harness := (true, "e6255a452cdaf4c1cdee602496aae2345aab9ad00d2ad9640411cf6133b0114b"), looks := true }, kinds := [], alts := [], laidByText := true, laidKinds := [.data, .data, .data, .data, .sentinel, .sentinel, .pinned], laidTests := true, laidLooks := .later }
def RightWholeCardSaid : Prop := Claim7.holds Tryz.pinned (.plain (OpenSpec.ofChange rightWholeSpec)) rightWholeCard

/-- THE TIED CARD OF 'merestonelaw07.RightGrants'. -/
def rightGrantsCard : Claim7 := { stood := { row := rightGrantsRow, standIns := [], harness := (true, "e6255a452cdaf4c1cdee602496aae2345aab9ad00d2ad9640411cf6133b0114b"), looks := true }, kinds := [], alts := [], laidByText := true, laidKinds := [.data, .data, .data, .data, .sentinel, .sentinel, .pinned], laidTests := true, laidLooks := .later }
def RightGrantsCardSaid : Prop := Claim7.holds Tryz.pinned (.plain (OpenSpec.ofChange rightGrantsSpec)) rightGrantsCard

/-- THE TIED CARD OF 'merestonelaw07.RightDays'. -/
def rightDaysCard : Claim7 := { stood := { row := rightDaysRow, standIns := [], harness := (true, "e6255a452cdaf4c1cdee602496aae2345aab9ad00d2ad9640411cf6133b0114b"), looks := true }, kinds := [], alts := [], laidByText := true, laidKinds := [.data, .data, .data, .data, .sentinel, .sentinel, .pinned], laidTests := true, laidLooks := .later }
def RightDaysCardSaid : Prop := Claim7.holds Tryz.pinned (.plain (OpenSpec.ofChange rightDaysSpec)) rightDaysCard

/-- THE TIED CARD OF 'merestonelaw07.RightNeeds'. -/
def rightNeedsCard : Claim7 := { stood := { row := rightNeedsRow, standIns := [], harness := (true, "e6255a452cdaf4c1cdee602496aae2345aab9ad00d2ad9640411cf6133b0114b"), looks := true }, kinds := [], alts := [], laidByText := true, laidKinds := [.data, .data, .data, .data, .sentinel, .sentinel, .pinned], laidTests := true, laidLooks := .later }
def RightNeedsCardSaid : Prop := Claim7.holds Tryz.pinned (.plain (OpenSpec.ofChange rightNeedsSpec)) rightNeedsCard

/-- THE TIED CARD OF 'merestonelaw07.RightMemory'. -/
def rightMemoryCard : Claim7 := { stood := { row := rightMemoryRow, standIns := [], harness := (true, "e6255a452cdaf4c1cdee602496aae2345aab9ad00d2ad9640411cf6133b0114b"), looks := true }, kinds := [], alts := [], laidByText := true, laidKinds := [.data, .data, .data, .data, .sentinel, .sentinel, .pinned], laidTests := true, laidLooks := .later }
def RightMemoryCardSaid : Prop := Claim7.holds Tryz.pinned (.plain (OpenSpec.ofChange rightMemorySpec)) rightMemoryCard

/-- THE TIED CARD OF 'merestonelaw07.RightFalls'. -/
def rightFallsCard : Claim7 := { stood := { row := rightFallsRow, standIns := [], harness := (true, "e6255a452cdaf4c1cdee602496aae2345aab9ad00d2ad9640411cf6133b0114b"), looks := true }, kinds := [], alts := [], laidByText := true, laidKinds := [.data, .data, .data, .data, .sentinel, .sentinel, .pinned], laidTests := true, laidLooks := .later }
def RightFallsCardSaid : Prop := Claim7.holds Tryz.pinned (.plain (OpenSpec.ofChange rightFallsSpec)) rightFallsCard

/-- THE TIED CARD OF 'merestonelaw07.RightFallen'. -/
def rightFallenCard : Claim7 := { stood := { row := rightFallenRow, standIns := [], harness := (true, "e6255a452cdaf4c1cdee602496aae2345aab9ad00d2ad9640411cf6133b0114b"), looks := true }, kinds := [], alts := [], laidByText := true, laidKinds := [.data, .data, .data, .data, .sentinel, .sentinel, .pinned], laidTests := true, laidLooks := .later }
def RightFallenCardSaid : Prop := Claim7.holds Tryz.pinned (.plain (OpenSpec.ofChange rightFallenSpec)) rightFallenCard

/-- THE TIED CARD OF 'merestonelaw07.RightRolls'. -/
def rightRollsCard : Claim7 := { stood := { row := rightRollsRow, standIns := [], harness := (true, "e6255a452cdaf4c1cdee602496aae2345aab9ad00d2ad9640411cf6133b0114b"), looks := true }, kinds := [], alts := [], laidByText := true, laidKinds := [.data, .data, .data, .data, .sentinel, .sentinel, .pinned], laidTests := true, laidLooks := .later }
def RightRollsCardSaid : Prop := Claim7.holds Tryz.pinned (.plain (OpenSpec.ofChange rightRollsSpec)) rightRollsCard

/-- THE TIED CARD OF 'merestonelaw07.RightRoots'. -/
def rightRootsCard : Claim7 := { stood := { row := rightRootsRow, standIns := [], harness := (true, "e6255a452cdaf4c1cdee602496aae2345aab9ad00d2ad9640411cf6133b0114b"), looks := true }, kinds := [], alts := [], laidByText := true, laidKinds := [.data, .data, .data, .data, .sentinel, .sentinel, .pinned], laidTests := true, laidLooks := .later }
def RightRootsCardSaid : Prop := Claim7.holds Tryz.pinned (.plain (OpenSpec.ofChange rightRootsSpec)) rightRootsCard

/-- THE TIED CARD OF 'merestonelaw07.RightChanged'. -/
def rightChangedCard : Claim7 := { stood := { row := rightChangedRow, standIns := [], harness := (true, "e6255a452cdaf4c1cdee602496aae2345aab9ad00d2ad9640411cf6133b0114b"), looks := true }, kinds := [], alts := [], laidByText := true, laidKinds := [.data, .data, .data, .data, .sentinel, .sentinel, .pinned], laidTests := true, laidLooks := .later }
def RightChangedCardSaid : Prop := Claim7.holds Tryz.pinned (.plain (OpenSpec.ofChange rightChangedSpec)) rightChangedCard

/-- THE TIED CARD OF 'merestonelaw07.RightLots'. -/
def rightLotsCard : Claim7 := { stood := { row := rightLotsRow, standIns := [], harness := (true, "e6255a452cdaf4c1cdee602496aae2345aab9ad00d2ad9640411cf6133b0114b"), looks := true }, kinds := [], alts := [], laidByText := true, laidKinds := [.data, .data, .data, .data, .sentinel, .sentinel, .pinned], laidTests := true, laidLooks := .later }
def RightLotsCardSaid : Prop := Claim7.holds Tryz.pinned (.plain (OpenSpec.ofChange rightLotsSpec)) rightLotsCard

/-- THE TIED CARD OF 'merestonelaw07.RightEases'. -/
def rightEasesCard : Claim7 := { stood := { row := rightEasesRow, standIns := [], harness := (true, "e6255a452cdaf4c1cdee602496aae2345aab9ad00d2ad9640411cf6133b0114b"), looks := true }, kinds := [], alts := [], laidByText := true, laidKinds := [.data, .data, .data, .data, .sentinel, .sentinel, .pinned], laidTests := true, laidLooks := .later }
def RightEasesCardSaid : Prop := Claim7.holds Tryz.pinned (.plain (OpenSpec.ofChange rightEasesSpec)) rightEasesCard

/-- THE TIED CARD OF 'merestonelaw07.RightDivides'. -/
def rightDividesCard : Claim7 := { stood := { row := rightDividesRow, standIns := [], harness := (true, "e6255a452cdaf4c1cdee602496aae2345aab9ad00d2ad9640411cf6133b0114b"), looks := true }, kinds := [], alts := [], laidByText := true, laidKinds := [.data, .data, .data, .data, .sentinel, .sentinel, .pinned], laidTests := true, laidLooks := .later }
def RightDividesCardSaid : Prop := Claim7.holds Tryz.pinned (.plain (OpenSpec.ofChange rightDividesSpec)) rightDividesCard

/-- THE TIED CARD OF 'merestonelaw07.RightChanges'. -/
def rightChangesCard : Claim7 := { stood := { row := rightChangesRow, standIns := [], harness := (true, "e6255a452cdaf4c1cdee602496aae2345aab9ad00d2ad9640411cf6133b0114b"), looks := true }, kinds := [], alts := [], laidByText := true, laidKinds := [.data, .data, .data, .data, .sentinel, .sentinel, .pinned], laidTests := true, laidLooks := .later }
def RightChangesCardSaid : Prop := Claim7.holds Tryz.pinned (.plain (OpenSpec.ofChange rightChangesSpec)) rightChangesCard

/-- THE TIED CARD OF 'merestonelaw07.RightTidy'. -/
def rightTidyCard : Claim7 := { stood := { row := rightTidyRow, standIns := [], harness := (true, "e6255a452cdaf4c1cdee602496aae2345aab9ad00d2ad9640411cf6133b0114b"), looks := true }, kinds := [], alts := [], laidByText := true, laidKinds := [.data, .data, .data, .data, .sentinel, .sentinel, .pinned], laidTests := true, laidLooks := .later }
def RightTidyCardSaid : Prop := Claim7.holds Tryz.pinned (.plain (OpenSpec.ofChange rightTidySpec)) rightTidyCard

/-- THE SECOND FORM's CARD OF 'merestonelaw07.RightDeals'. -/
def rightDealsUptoCard : Claim7 := { stood := { row := rightDealsUptoRow, standIns := [], harness := (true, "e6255a452cdaf4c1cdee602496aae2345aab9ad00d2ad9640411cf6133b0114b"), looks := true }, kinds := [], alts := [], laidByText := true, laidKinds := [.data, .data, .data, .data, .sentinel, .sentinel, .pinned], laidTests := true, laidLooks := .later }
def RightDealsUptoCardSaid : Prop := Claim7.holds Tryz.pinned (.plain (OpenSpec.upto rightDealsSpec)) rightDealsUptoCard

/-- THE SECOND FORM's CARD OF 'merestonelaw07.RightChecks'. -/
def rightChecksUptoCard : Claim7 := { stood := { row := rightChecksUptoRow, standIns := [], harness := (true, "e6255a452cdaf4c1cdee602496aae2345aab9ad00d2ad9640411cf6133b0114b"), looks := true }, kinds := [], alts := [], laidByText := true, laidKinds := [.data, .data, .data, .data, .sentinel, .sentinel, .pinned], laidTests := true, laidLooks := .later }
def RightChecksUptoCardSaid : Prop := Claim7.holds Tryz.pinned (.plain (OpenSpec.upto rightChecksSpec)) rightChecksUptoCard

/-- THE SECOND FORM's CARD OF 'merestonelaw07.RightLines'. -/
def rightLinesUptoCard : Claim7 := { stood := { row := rightLinesUptoRow, standIns := [], harness := (true, "e6255a452cdaf4c1cdee602496aae2345aab9ad00d2ad9640411cf6133b0114b"), looks := true }, kinds := [], alts := [], laidByText := true, laidKinds := [.data, .data, .data, .data, .sentinel, .sentinel, .pinned], laidTests := true, laidLooks := .later }
def RightLinesUptoCardSaid : Prop := Claim7.holds Tryz.pinned (.plain (OpenSpec.upto rightLinesSpec)) rightLinesUptoCard

/-- THE SECOND FORM's CARD OF 'merestonelaw07.RightSame'. -/
def rightSameUptoCard : Claim7 := { stood := { row := rightSameUptoRow, standIns := [], harness := (true, "e6255a452cdaf4c1cdee602496aae2345aab9ad00d2ad9640411cf6133b0114b"), looks := true }, kinds := [], alts := [], laidByText := true, laidKinds := [.data, .data, .data, .data, .sentinel, .sentinel, .pinned], laidTests := true, laidLooks := .later }
def RightSameUptoCardSaid : Prop := Claim7.holds Tryz.pinned (.plain (OpenSpec.upto rightSameSpec)) rightSameUptoCard

/-- THE SECOND FORM's CARD OF 'merestonelaw07.RightWhole'. -/
def rightWholeUptoCard : Claim7 := { stood := { row := rightWholeUptoRow, standIns := [], harness := (true, "e6255a452cdaf4c1cdee602496aae2345aab9ad00d2ad9640411cf6133b0114b"), looks := true }, kinds := [], alts := [], laidByText := true, laidKinds := [.data, .data, .data, .data, .sentinel, .sentinel, .pinned], laidTests := true, laidLooks := .later }
def RightWholeUptoCardSaid : Prop := Claim7.holds Tryz.pinned (.plain (OpenSpec.upto rightWholeSpec)) rightWholeUptoCard

/-- THE SECOND FORM's CARD OF 'merestonelaw07.RightGrants'. -/
def rightGrantsUptoCard : Claim7 := { stood := { row := rightGrantsUptoRow, standIns := [], harness := (true, "e6255a452cdaf4c1cdee602496aae2345aab9ad00d2ad9640411cf6133b0114b"), looks := true }, kinds := [], alts := [], laidByText := true, laidKinds := [.data, .data, .data, .data, .sentinel, .sentinel, .pinned], laidTests := true, laidLooks := .later }
def RightGrantsUptoCardSaid : Prop := Claim7.holds Tryz.pinned (.plain (OpenSpec.upto rightGrantsSpec)) rightGrantsUptoCard

/-- THE SECOND FORM's CARD OF 'merestonelaw07.RightDays'. -/
def rightDaysUptoCard : Claim7 := { stood := { row := rightDaysUptoRow, standIns := [], harness := (true, "e6255a452cdaf4c1cdee602496aae2345aab9ad00d2ad9640411cf6133b0114b"), looks := true }, kinds := [], alts := [], laidByText := true, laidKinds := [.data, .data, .data, .data, .sentinel, .sentinel, .pinned], laidTests := true, laidLooks := .later }
def RightDaysUptoCardSaid : Prop := Claim7.holds Tryz.pinned (.plain (OpenSpec.upto rightDaysSpec)) rightDaysUptoCard

/-- THE SECOND FORM's CARD OF 'merestonelaw07.RightNeeds'. -/
def rightNeedsUptoCard : Claim7 := { stood := { row := rightNeedsUptoRow, standIns := [], harness := (true, "e6255a452cdaf4c1cdee602496aae2345aab9ad00d2ad9640411cf6133b0114b"), looks := true }, kinds := [], alts := [], laidByText := true, laidKinds := [.data, .data, .data, .data, .sentinel, .sentinel, .pinned], laidTests := true, laidLooks := .later }
def RightNeedsUptoCardSaid : Prop := Claim7.holds Tryz.pinned (.plain (OpenSpec.upto rightNeedsSpec)) rightNeedsUptoCard

/-- THE SECOND FORM's CARD OF 'merestonelaw07.RightMemory'. -/
def rightMemoryUptoCard : Claim7 := { stood := { row := rightMemoryUptoRow, standIns := [], harness := (true, "e6255a452cdaf4c1cdee602496aae2345aab9ad00d2ad9640411cf6133b0114b"), looks := true }, kinds := [], alts := [], laidByText := true, laidKinds := [.data, .data, .data, .data, .sentinel, .sentinel, .pinned], laidTests := true, laidLooks := .later }
def RightMemoryUptoCardSaid : Prop := Claim7.holds Tryz.pinned (.plain (OpenSpec.upto rightMemorySpec)) rightMemoryUptoCard

/-- THE SECOND FORM's CARD OF 'merestonelaw07.RightFalls'. -/
def rightFallsUptoCard : Claim7 := { stood := { row := rightFallsUptoRow, standIns := [], harness := (true, "e6255a452cdaf4c1cdee602496aae2345aab9ad00d2ad9640411cf6133b0114b"), looks := true }, kinds := [], alts := [], laidByText := true, laidKinds := [.data, .data, .data, .data, .sentinel, .sentinel, .pinned], laidTests := true, laidLooks := .later }
def RightFallsUptoCardSaid : Prop := Claim7.holds Tryz.pinned (.plain (OpenSpec.upto rightFallsSpec)) rightFallsUptoCard

/-- THE SECOND FORM's CARD OF 'merestonelaw07.RightFallen'. -/
def rightFallenUptoCard : Claim7 := { stood := { row := rightFallenUptoRow, standIns := [], harness := (true, "e6255a452cdaf4c1cdee602496aae2345aab9ad00d2ad9640411cf6133b0114b"), looks := true }, kinds := [], alts := [], laidByText := true, laidKinds := [.data, .data, .data, .data, .sentinel, .sentinel, .pinned], laidTests := true, laidLooks := .later }
def RightFallenUptoCardSaid : Prop := Claim7.holds Tryz.pinned (.plain (OpenSpec.upto rightFallenSpec)) rightFallenUptoCard

/-- THE SECOND FORM's CARD OF 'merestonelaw07.RightRolls'. -/
def rightRollsUptoCard : Claim7 := { stood := { row := rightRollsUptoRow, standIns := [], harness := (true, "e6255a452cdaf4c1cdee602496aae2345aab9ad00d2ad9640411cf6133b0114b"), looks := true }, kinds := [], alts := [], laidByText := true, laidKinds := [.data, .data, .data, .data, .sentinel, .sentinel, .pinned], laidTests := true, laidLooks := .later }
def RightRollsUptoCardSaid : Prop := Claim7.holds Tryz.pinned (.plain (OpenSpec.upto rightRollsSpec)) rightRollsUptoCard

/-- THE SECOND FORM's CARD OF 'merestonelaw07.RightRoots'. -/
def rightRootsUptoCard : Claim7 := { stood := { row := rightRootsUptoRow, standIns := [], harness := (true, "e6255a452cdaf4c1cdee602496aae2345aab9ad00d2ad9640411cf6133b0114b"), looks := true }, kinds := [], alts := [], laidByText := true, laidKinds := [.data, .data, .data, .data, .sentinel, .sentinel, .pinned], laidTests := true, laidLooks := .later }
def RightRootsUptoCardSaid : Prop := Claim7.holds Tryz.pinned (.plain (OpenSpec.upto rightRootsSpec)) rightRootsUptoCard

/-- THE SECOND FORM's CARD OF 'merestonelaw07.RightChanged'. -/
def rightChangedUptoCard : Claim7 := { stood := { row := rightChangedUptoRow, standIns := [], harness := (true, "e6255a452cdaf4c1cdee602496aae2345aab9ad00d2ad9640411cf6133b0114b"), looks := true }, kinds := [], alts := [], laidByText := true, laidKinds := [.data, .data, .data, .data, .sentinel, .sentinel, .pinned], laidTests := true, laidLooks := .later }
def RightChangedUptoCardSaid : Prop := Claim7.holds Tryz.pinned (.plain (OpenSpec.upto rightChangedSpec)) rightChangedUptoCard

/-- THE SECOND FORM's CARD OF 'merestonelaw07.RightLots'. -/
def rightLotsUptoCard : Claim7 := { stood := { row := rightLotsUptoRow, standIns := [], harness := (true, "e6255a452cdaf4c1cdee602496aae2345aab9ad00d2ad9640411cf6133b0114b"), looks := true }, kinds := [], alts := [], laidByText := true, laidKinds := [.data, .data, .data, .data, .sentinel, .sentinel, .pinned], laidTests := true, laidLooks := .later }
def RightLotsUptoCardSaid : Prop := Claim7.holds Tryz.pinned (.plain (OpenSpec.upto rightLotsSpec)) rightLotsUptoCard

/-- THE SECOND FORM's CARD OF 'merestonelaw07.RightEases'. -/
def rightEasesUptoCard : Claim7 := { stood := { row := rightEasesUptoRow, standIns := [], harness := (true, "e6255a452cdaf4c1cdee602496aae2345aab9ad00d2ad9640411cf6133b0114b"), looks := true }, kinds := [], alts := [], laidByText := true, laidKinds := [.data, .data, .data, .data, .sentinel, .sentinel, .pinned], laidTests := true, laidLooks := .later }
def RightEasesUptoCardSaid : Prop := Claim7.holds Tryz.pinned (.plain (OpenSpec.upto rightEasesSpec)) rightEasesUptoCard

/-- THE SECOND FORM's CARD OF 'merestonelaw07.RightDivides'. -/
def rightDividesUptoCard : Claim7 := { stood := { row := rightDividesUptoRow, standIns := [], harness := (true, "e6255a452cdaf4c1cdee602496aae2345aab9ad00d2ad9640411cf6133b0114b"), looks := true }, kinds := [], alts := [], laidByText := true, laidKinds := [.data, .data, .data, .data, .sentinel, .sentinel, .pinned], laidTests := true, laidLooks := .later }
def RightDividesUptoCardSaid : Prop := Claim7.holds Tryz.pinned (.plain (OpenSpec.upto rightDividesSpec)) rightDividesUptoCard

/-- THE SECOND FORM's CARD OF 'merestonelaw07.RightChanges'. -/
def rightChangesUptoCard : Claim7 := { stood := { row := rightChangesUptoRow, standIns := [], harness := (true, "e6255a452cdaf4c1cdee602496aae2345aab9ad00d2ad9640411cf6133b0114b"), looks := true }, kinds := [], alts := [], laidByText := true, laidKinds := [.data, .data, .data, .data, .sentinel, .sentinel, .pinned], laidTests := true, laidLooks := .later }
def RightChangesUptoCardSaid : Prop := Claim7.holds Tryz.pinned (.plain (OpenSpec.upto rightChangesSpec)) rightChangesUptoCard

/-- THE SECOND FORM's CARD OF 'merestonelaw07.RightTidy'. -/
def rightTidyUptoCard : Claim7 := { stood := { row := rightTidyUptoRow, standIns := [], harness := (true, "e6255a452cdaf4c1cdee602496aae2345aab9ad00d2ad9640411cf6133b0114b"), looks := true }, kinds := [], alts := [], laidByText := true, laidKinds := [.data, .data, .data, .data, .sentinel, .sentinel, .pinned], laidTests := true, laidLooks := .later }
def RightTidyUptoCardSaid : Prop := Claim7.holds Tryz.pinned (.plain (OpenSpec.upto rightTidySpec)) rightTidyUptoCard
end Rows
end Go.Proofs.YtcffonnijhhhiaaGreatDoor
