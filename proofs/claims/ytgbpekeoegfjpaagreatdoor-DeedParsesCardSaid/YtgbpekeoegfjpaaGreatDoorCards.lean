/-
  DERIVED. GIVEN WITH THE SEED: THE CARDS: each row of YtgbpekeoegfjpaaGreatDoorRows.lean that lists a variable, with what it lists TIED to the program's text (the seventh form; the later family's looks); each row that meets fmt, with fmt's text TOLD by the authors' own Lean function (tested against real Go, not proved from fmt's source: count such statements apart). THE CARD IS WHAT COUNTS. Prove the row's statement (the work); the ties are given (YtgbpekeoegfjpaaGreatDoorTie.lean); close each card by the builder's one call (the guide's Derived/Test/ToyasCard.lean, 'card_holds'). Laid BY PROGRAM, IN A SANDBOX (cutbox-door.mjs). By AI agents, Wed Nov 11 2026. No macro, syntax, notation, axiom, sorry.
-/
import Derived.Test.YtgbpekeoegfjpaaGreatDoorRows
import GoSem.ClaimSeven
namespace Go.Proofs.YtgbpekeoegfjpaaGreatDoor
namespace Rows

/-- THE TIED CARD OF 'merestonelaw03.DeedSources'. -/
def deedSourcesCard : Claim7 := { stood := { row := deedSourcesRow, standIns := [], harness := (true, "95a6efddf635a5751c5d36e50850718d0eebc687a25b9ebc2e0fe5afc3ebe53b"), looks := true }, kinds := [], alts := [], laidByText := true, laidKinds := [.data, .data, .data, .data, .sentinel, .sentinel, .pinned], laidTests := true, laidLooks := .later }
def DeedSourcesCardSaid : Prop := Claim7.holds Tryz.pinned (.plain (OpenSpec.ofChange deedSourcesSpec)) deedSourcesCard

/-- THE TIED CARD OF 'merestonelaw03.DeedBlanks'. -/
def deedBlanksCard : Claim7 := { stood := { row := deedBlanksRow, standIns := [], harness := (true, "95a6efddf635a5751c5d36e50850718d0eebc687a25b9ebc2e0fe5afc3ebe53b"), looks := true }, kinds := [], alts := [], laidByText := true, laidKinds := [.data, .data, .data, .data, .sentinel, .sentinel, .pinned], laidTests := true, laidLooks := .later }
def DeedBlanksCardSaid : Prop := Claim7.holds Tryz.pinned (.plain (OpenSpec.ofChange deedBlanksSpec)) deedBlanksCard

/-- THE TIED CARD OF 'merestonelaw03.DeedMoves'. -/
def deedMovesCard : Claim7 := { stood := { row := deedMovesRow, standIns := [], harness := (true, "95a6efddf635a5751c5d36e50850718d0eebc687a25b9ebc2e0fe5afc3ebe53b"), looks := true }, kinds := [], alts := [], laidByText := true, laidKinds := [.data, .data, .data, .data, .sentinel, .sentinel, .pinned], laidTests := true, laidLooks := .later }
def DeedMovesCardSaid : Prop := Claim7.holds Tryz.pinned (.plain (OpenSpec.ofChange deedMovesSpec)) deedMovesCard

/-- THE TIED CARD OF 'merestonelaw03.DeedLines'. -/
def deedLinesCard : Claim7 := { stood := { row := deedLinesRow, standIns := [], harness := (true, "95a6efddf635a5751c5d36e50850718d0eebc687a25b9ebc2e0fe5afc3ebe53b"), looks := true }, kinds := [], alts := [], laidByText := true, laidKinds := [.data, .data, .data, .data, .sentinel, .sentinel, .pinned], laidTests := true, laidLooks := .later }
def DeedLinesCardSaid : Prop := Claim7.holds Tryz.pinned (.plain (OpenSpec.ofChange deedLinesSpec)) deedLinesCard

/-- THE TIED CARD OF 'merestonelaw03.DeedMeans'. -/
def deedMeansCard : Claim7 := { stood := { row := deedMeansRow, standIns := [], harness := (true, "95a6efddf635a5751c5d36e50850718d0eebc687a25b9ebc2e0fe5afc3ebe53b"), looks := true }, kinds := [], alts := [], laidByText := true, laidKinds := [.data, .data, .data, .data, .sentinel, .sentinel, .pinned], laidTests := true, laidLooks := .later }
def DeedMeansCardSaid : Prop := Claim7.holds Tryz.pinned (.plain (OpenSpec.ofChange deedMeansSpec)) deedMeansCard

/-- THE TIED CARD OF 'merestonelaw03.DeedNarrows'. -/
def deedNarrowsCard : Claim7 := { stood := { row := deedNarrowsRow, standIns := [], harness := (true, "95a6efddf635a5751c5d36e50850718d0eebc687a25b9ebc2e0fe5afc3ebe53b"), looks := true }, kinds := [], alts := [], laidByText := true, laidKinds := [.data, .data, .data, .data, .sentinel, .sentinel, .pinned], laidTests := true, laidLooks := .later }
def DeedNarrowsCardSaid : Prop := Claim7.holds Tryz.pinned (.plain (OpenSpec.ofChange deedNarrowsSpec)) deedNarrowsCard

/-- THE TIED CARD OF 'merestonelaw03.DeedCorners'. -/
def deedCornersCard : Claim7 := { stood := { row := deedCornersRow, standIns := [], harness := (true, "95a6efddf635a5751c5d36e50850718d0eebc687a25b9ebc2e0fe5afc3ebe53b"), looks := true }, kinds := [], alts := [], laidByText := true, laidKinds := [.data, .data, .data, .data, .sentinel, .sentinel, .pinned], laidTests := true, laidLooks := .later }
def DeedCornersCardSaid : Prop := Claim7.holds Tryz.pinned (.plain (OpenSpec.ofChange deedCornersSpec)) deedCornersCard

/-- THE TIED CARD OF 'merestonelaw03.DeedFields'. -/
def deedFieldsCard : Claim7 := { stood := { row := deedFieldsRow, standIns := [], harness := (true, "95a6efddf635a5751c5d36e50850718d0eebc687a25b9ebc2e0fe5afc3ebe53b"), looks := true }, kinds := [], alts := [], laidByText := true, laidKinds := [.data, .data, .data, .data, .sentinel, .sentinel, .pinned], laidTests := true, laidLooks := .later }
def DeedFieldsCardSaid : Prop := Claim7.holds Tryz.pinned (.plain (OpenSpec.ofChange deedFieldsSpec)) deedFieldsCard

/-- THE TIED CARD OF 'merestonelaw03.DeedParses'. -/
def deedParsesCard : Claim7 := { stood := { row := deedParsesRow, standIns := [], harness := (true, "95a6efddf635a5751c5d36e50850718d0eebc687a25b9ebc2e0fe5afc3ebe53b"), looks := true }, kinds := [], alts := [], laidByText := true, laidKinds := [.data, .data, .data, .data, .sentinel, .sentinel, .pinned], laidTests := true, laidLooks := .later }
def DeedParsesCardSaid : Prop := Claim7.holds Tryz.pinned (.plain (OpenSpec.ofChange deedParsesSpec)) deedParsesCard

/-- THE TIED CARD OF 'merestonelaw03.DeedPoints'. -/
def deedPointsCard : Claim7 := { stood := { row := deedPointsRow, standIns := [], harness := (true, "95a6efddf635a5751c5d36e50850718d0eebc687a25b9ebc2e0fe5afc3ebe53b"), looks := true }, kinds := [], alts := [], laidByText := true, laidKinds := [.data, .data, .data, .data, .sentinel, .sentinel, .pinned], laidTests := true, laidLooks := .later }
def DeedPointsCardSaid : Prop := Claim7.holds Tryz.pinned (.plain (OpenSpec.ofChange deedPointsSpec)) deedPointsCard

/-- THE TIED CARD OF 'merestonelaw03.DeedDeeds'. -/
def deedDeedsCard : Claim7 := { stood := { row := deedDeedsRow, standIns := [], harness := (true, "95a6efddf635a5751c5d36e50850718d0eebc687a25b9ebc2e0fe5afc3ebe53b"), looks := true }, kinds := [], alts := [], laidByText := true, laidKinds := [.data, .data, .data, .data, .sentinel, .sentinel, .pinned], laidTests := true, laidLooks := .later }
def DeedDeedsCardSaid : Prop := Claim7.holds Tryz.pinned (.plain (OpenSpec.ofChange deedDeedsSpec)) deedDeedsCard

/-- THE TIED CARD OF 'merestonelaw03.DeedBack'. -/
def deedBackCard : Claim7 := { stood := { row := deedBackRow, standIns := [], harness := (true, "95a6efddf635a5751c5d36e50850718d0eebc687a25b9ebc2e0fe5afc3ebe53b"), looks := true }, kinds := [], alts := [], laidByText := true, laidKinds := [.data, .data, .data, .data, .sentinel, .sentinel, .pinned], laidTests := true, laidLooks := .later }
def DeedBackCardSaid : Prop := Claim7.holds Tryz.pinned (.plain (OpenSpec.ofChange deedBackSpec)) deedBackCard

/-- THE TIED CARD OF 'merestonelaw03.DeedCalls'. -/
def deedCallsCard : Claim7 := { stood := { row := deedCallsRow, standIns := [], harness := (true, "95a6efddf635a5751c5d36e50850718d0eebc687a25b9ebc2e0fe5afc3ebe53b"), looks := true }, kinds := [], alts := [], laidByText := true, laidKinds := [.data, .data, .data, .data, .sentinel, .sentinel, .pinned], laidTests := true, laidLooks := .later }
def DeedCallsCardSaid : Prop := Claim7.holds Tryz.pinned (.plain (OpenSpec.ofChange deedCallsSpec)) deedCallsCard

/-- THE TIED CARD OF 'merestonelaw03.DeedAllows'. -/
def deedAllowsCard : Claim7 := { stood := { row := deedAllowsRow, standIns := [], harness := (true, "95a6efddf635a5751c5d36e50850718d0eebc687a25b9ebc2e0fe5afc3ebe53b"), looks := true }, kinds := [], alts := [], laidByText := true, laidKinds := [.data, .data, .data, .data, .sentinel, .sentinel, .pinned], laidTests := true, laidLooks := .later }
def DeedAllowsCardSaid : Prop := Claim7.holds Tryz.pinned (.plain (OpenSpec.ofChange deedAllowsSpec)) deedAllowsCard

/-- THE TIED CARD OF 'merestonelaw03.DeedTurns'. -/
def deedTurnsCard : Claim7 := { stood := { row := deedTurnsRow, standIns := [], harness := (true, "95a6efddf635a5751c5d36e50850718d0eebc687a25b9ebc2e0fe5afc3ebe53b"), looks := true }, kinds := [], alts := [], laidByText := true, laidKinds := [.data, .data, .data, .data, .sentinel, .sentinel, .pinned], laidTests := true, laidLooks := .later }
def DeedTurnsCardSaid : Prop := Claim7.holds Tryz.pinned (.plain (OpenSpec.ofChange deedTurnsSpec)) deedTurnsCard

/-- THE SECOND FORM's CARD OF 'merestonelaw03.DeedSources'. -/
def deedSourcesUptoCard : Claim7 := { stood := { row := deedSourcesUptoRow, standIns := [], harness := (true, "95a6efddf635a5751c5d36e50850718d0eebc687a25b9ebc2e0fe5afc3ebe53b"), looks := true }, kinds := [], alts := [], laidByText := true, laidKinds := [.data, .data, .data, .data, .sentinel, .sentinel, .pinned], laidTests := true, laidLooks := .later }
def DeedSourcesUptoCardSaid : Prop := Claim7.holds Tryz.pinned (.plain (OpenSpec.upto deedSourcesSpec)) deedSourcesUptoCard

/-- THE SECOND FORM's CARD OF 'merestonelaw03.DeedBlanks'. -/
def deedBlanksUptoCard : Claim7 := { stood := { row := deedBlanksUptoRow, standIns := [], harness := (true, "95a6efddf635a5751c5d36e50850718d0eebc687a25b9ebc2e0fe5afc3ebe53b"), looks := true }, kinds := [], alts := [], laidByText := true, laidKinds := [.data, .data, .data, .data, .sentinel, .sentinel, .pinned], laidTests := true, laidLooks := .later }
def DeedBlanksUptoCardSaid : Prop := Claim7.holds Tryz.pinned (.plain (OpenSpec.upto deedBlanksSpec)) deedBlanksUptoCard

/-- THE SECOND FORM's CARD OF 'merestonelaw03.DeedMoves'. -/
def deedMovesUptoCard : Claim7 := { stood := { row := deedMovesUptoRow, standIns := [], harness := (true, "95a6efddf635a5751c5d36e50850718d0eebc687a25b9ebc2e0fe5afc3ebe53b"), looks := true }, kinds := [], alts := [], laidByText := true, laidKinds := [.data, .data, .data, .data, .sentinel, .sentinel, .pinned], laidTests := true, laidLooks := .later }
def DeedMovesUptoCardSaid : Prop := Claim7.holds Tryz.pinned (.plain (OpenSpec.upto deedMovesSpec)) deedMovesUptoCard

/-- THE SECOND FORM's CARD OF 'merestonelaw03.DeedLines'. -/
def deedLinesUptoCard : Claim7 := { stood := { row := deedLinesUptoRow, standIns := [], harness := (true, "95a6efddf635a5751c5d36e50850718d0eebc687a25b9ebc2e0fe5afc3ebe53b"), looks := true }, kinds := [], alts := [], laidByText := true, laidKinds := [.data, .data, .data, .data, .sentinel, .sentinel, .pinned], laidTests := true, laidLooks := .later }
def DeedLinesUptoCardSaid : Prop := Claim7.holds Tryz.pinned (.plain (OpenSpec.upto deedLinesSpec)) deedLinesUptoCard

/-- THE SECOND FORM's CARD OF 'merestonelaw03.DeedMeans'. -/
def deedMeansUptoCard : Claim7 := { stood := { row := deedMeansUptoRow, standIns := [], harness := (true, "95a6efddf635a5751c5d36e50850718d0eebc687a25b9ebc2e0fe5afc3ebe53b"), looks := true }, kinds := [], alts := [], laidByText := true, laidKinds := [.data, .data, .data, .data, .sentinel, .sentinel, .pinned], laidTests := true, laidLooks := .later }
def DeedMeansUptoCardSaid : Prop := Claim7.holds Tryz.pinned (.plain (OpenSpec.upto deedMeansSpec)) deedMeansUptoCard

/-- THE SECOND FORM's CARD OF 'merestonelaw03.DeedNarrows'. -/
def deedNarrowsUptoCard : Claim7 := { stood := { row := deedNarrowsUptoRow, standIns := [], harness := (true, "95a6efddf635a5751c5d36e50850718d0eebc687a25b9ebc2e0fe5afc3ebe53b"), looks := true }, kinds := [], alts := [], laidByText := true, laidKinds := [.data, .data, .data, .data, .sentinel, .sentinel, .pinned], laidTests := true, laidLooks := .later }
def DeedNarrowsUptoCardSaid : Prop := Claim7.holds Tryz.pinned (.plain (OpenSpec.upto deedNarrowsSpec)) deedNarrowsUptoCard

/-- THE SECOND FORM's CARD OF 'merestonelaw03.DeedCorners'. -/
def deedCornersUptoCard : Claim7 := { stood := { row := deedCornersUptoRow, standIns := [], harness := (true, "95a6efddf635a5751c5d36e50850718d0eebc687a25b9ebc2e0fe5afc3ebe53b"), looks := true }, kinds := [], alts := [], laidByText := true, laidKinds := [.data, .data, .data, .data, .sentinel, .sentinel, .pinned], laidTests := true, laidLooks := .later }
def DeedCornersUptoCardSaid : Prop := Claim7.holds Tryz.pinned (.plain (OpenSpec.upto deedCornersSpec)) deedCornersUptoCard

/-- THE SECOND FORM's CARD OF 'merestonelaw03.DeedFields'. -/
def deedFieldsUptoCard : Claim7 := { stood := { row := deedFieldsUptoRow, standIns := [], harness := (true, "95a6efddf635a5751c5d36e50850718d0eebc687a25b9ebc2e0fe5afc3ebe53b"), looks := true }, kinds := [], alts := [], laidByText := true, laidKinds := [.data, .data, .data, .data, .sentinel, .sentinel, .pinned], laidTests := true, laidLooks := .later }
def DeedFieldsUptoCardSaid : Prop := Claim7.holds Tryz.pinned (.plain (OpenSpec.upto deedFieldsSpec)) deedFieldsUptoCard

/-- THE SECOND FORM's CARD OF 'merestonelaw03.DeedParses'. -/
def deedParsesUptoCard : Claim7 := { stood := { row := deedParsesUptoRow, standIns := [], harness := (true, "95a6efddf635a5751c5d36e50850718d0eebc687a25b9ebc2e0fe5afc3ebe53b"), looks := true }, kinds := [], alts := [], laidByText := true, laidKinds := [.data, .data, .data, .data, .sentinel, .sentinel, .pinned], laidTests := true, laidLooks := .later }
def DeedParsesUptoCardSaid : Prop := Claim7.holds Tryz.pinned (.plain (OpenSpec.upto deedParsesSpec)) deedParsesUptoCard

/-- THE SECOND FORM's CARD OF 'merestonelaw03.DeedPoints'. -/
def deedPointsUptoCard : Claim7 := { stood := { row := deedPointsUptoRow, standIns := [], harness := (true, "95a6efddf635a5751c5d36e50850718d0eebc687a25b9ebc2e0fe5afc3ebe53b"), looks := true }, kinds := [], alts := [], laidByText := true, laidKinds := [.data, .data, .data, .data, .sentinel, .sentinel, .pinned], laidTests := true, laidLooks := .later }
def DeedPointsUptoCardSaid : Prop := Claim7.holds Tryz.pinned (.plain (OpenSpec.upto deedPointsSpec)) deedPointsUptoCard

/-- THE SECOND FORM's CARD OF 'merestonelaw03.DeedDeeds'. -/
def deedDeedsUptoCard : Claim7 := { stood := { row := deedDeedsUptoRow, standIns := [], harness := (true, "95a6efddf635a5751c5d36e50850718d0eebc687a25b9ebc2e0fe5afc3ebe53b"), looks := true }, kinds := [], alts := [], laidByText := true, laidKinds := [.data, .data, .data, .data, .sentinel, .sentinel, .pinned], laidTests := true, laidLooks := .later }
def DeedDeedsUptoCardSaid : Prop := Claim7.holds Tryz.pinned (.plain (OpenSpec.upto deedDeedsSpec)) deedDeedsUptoCard

/-- THE SECOND FORM's CARD OF 'merestonelaw03.DeedBack'. -/
def deedBackUptoCard : Claim7 := { stood := { row := deedBackUptoRow, standIns := [], harness := (true, "95a6efddf635a5751c5d36e50850718d0eebc687a25b9ebc2e0fe5afc3ebe53b"), looks := true }, kinds := [], alts := [], laidByText := true, laidKinds := [.data, .data, .data, .data, .sentinel, .sentinel, .pinned], laidTests := true, laidLooks := .later }
def DeedBackUptoCardSaid : Prop := Claim7.holds Tryz.pinned (.plain (OpenSpec.upto deedBackSpec)) deedBackUptoCard

/-- THE SECOND FORM's CARD OF 'merestonelaw03.DeedCalls'. -/
def deedCallsUptoCard : Claim7 := { stood := { row := deedCallsUptoRow, standIns := [], harness := (true, "95a6efddf635a5751c5d36e50850718d0eebc687a25b9ebc2e0fe5afc3ebe53b"), looks := true }, kinds := [], alts := [], laidByText := true, laidKinds := [.data, .data, .data, .data, .sentinel, .sentinel, .pinned], laidTests := true, laidLooks := .later }
def DeedCallsUptoCardSaid : Prop := Claim7.holds Tryz.pinned (.plain (OpenSpec.upto deedCallsSpec)) deedCallsUptoCard

/-- THE SECOND FORM's CARD OF 'merestonelaw03.DeedAllows'. -/
def deedAllowsUptoCard : Claim7 := { stood := { row := deedAllowsUptoRow, standIns := [], harness := (true, "95a6efddf635a5751c5d36e50850718d0eebc687a25b9ebc2e0fe5afc3ebe53b"), looks := true }, kinds := [], alts := [], laidByText := true, laidKinds := [.data, .data, .data, .data, .sentinel, .sentinel, .pinned], laidTests := true, laidLooks := .later }
def DeedAllowsUptoCardSaid : Prop := Claim7.holds Tryz.pinned (.plain (OpenSpec.upto deedAllowsSpec)) deedAllowsUptoCard

/-- THE SECOND FORM's CARD OF 'merestonelaw03.DeedTurns'. -/
def deedTurnsUptoCard : Claim7 := { stood := { row := deedTurnsUptoRow, standIns := [], harness := (true, "95a6efddf635a5751c5d36e50850718d0eebc687a25b9ebc2e0fe5afc3ebe53b"), looks := true }, kinds := [], alts := [], laidByText := true, laidKinds := [.data, .data, .data, .data, .sentinel, .sentinel, .pinned], laidTests := true, laidLooks := .later }
def DeedTurnsUptoCardSaid : Prop := Claim7.holds Tryz.pinned (.plain (OpenSpec.upto deedTurnsSpec)) deedTurnsUptoCard
end Rows
end Go.Proofs.YtgbpekeoegfjpaaGreatDoor
