/-
  DERIVED. GIVEN WITH THE SEED: THE CARDS: each row of YthncpapejijloaaGreatDoorRows.lean that lists a variable, with what it lists TIED to the program's text (the seventh form; the later family's looks); each row that meets fmt, with fmt's text TOLD by the authors' own Lean function (tested against real Go, not proved from fmt's source: count such statements apart). THE CARD IS WHAT COUNTS. Prove the row's statement (the work); the ties are given (YthncpapejijloaaGreatDoorTie.lean); close each card by the builder's one call (the guide's Derived/Test/ToyasCard.lean, 'card_holds'). Laid BY PROGRAM, IN A SANDBOX (cutbox-door.mjs). By AI agents, Wed Nov 11 2026. No macro, syntax, notation, axiom, sorry.
-/
import Derived.Test.YthncpapejijloaaGreatDoorRows
import GoSem.ClaimSeven
namespace Go.Proofs.YthncpapejijloaaGreatDoor
namespace Rows

/-- THE TIED CARD OF 'merestonelaw02.CourseSines'. -/
def courseSinesCard : Claim7 := { stood := { row := courseSinesRow, standIns := [], harness := (true, "5a1f5546847442312d9845b7cef904ebf9d707a0d37aabe581cd52a970253b5a"), looks := true }, kinds := [], alts := [], laidByText := true, laidKinds := [.data, .data, .data, .data, .sentinel, .sentinel, .pinned], laidTests := true, laidLooks := .later }
def CourseSinesCardSaid : Prop := Claim7.holds Tryz.pinned (.plain (OpenSpec.ofChange courseSinesSpec)) courseSinesCard

/-- THE TIED CARD OF 'merestonelaw02.CourseRoots'. -/
def courseRootsCard : Claim7 := { stood := { row := courseRootsRow, standIns := [], harness := (true, "5a1f5546847442312d9845b7cef904ebf9d707a0d37aabe581cd52a970253b5a"), looks := true }, kinds := [], alts := [], laidByText := true, laidKinds := [.data, .data, .data, .data, .sentinel, .sentinel, .pinned], laidTests := true, laidLooks := .later }
def CourseRootsCardSaid : Prop := Claim7.holds Tryz.pinned (.plain (OpenSpec.ofChange courseRootsSpec)) courseRootsCard

/-- THE TIED CARD OF 'merestonelaw02.CourseFits'. -/
def courseFitsCard : Claim7 := { stood := { row := courseFitsRow, standIns := [], harness := (true, "5a1f5546847442312d9845b7cef904ebf9d707a0d37aabe581cd52a970253b5a"), looks := true }, kinds := [], alts := [], laidByText := true, laidKinds := [.data, .data, .data, .data, .sentinel, .sentinel, .pinned], laidTests := true, laidLooks := .later }
def CourseFitsCardSaid : Prop := Claim7.holds Tryz.pinned (.plain (OpenSpec.ofChange courseFitsSpec)) courseFitsCard

/-- THE TIED CARD OF 'merestonelaw02.CourseIntervals'. -/
def courseIntervalsCard : Claim7 := { stood := { row := courseIntervalsRow, standIns := [], harness := (true, "5a1f5546847442312d9845b7cef904ebf9d707a0d37aabe581cd52a970253b5a"), looks := true }, kinds := [], alts := [], laidByText := true, laidKinds := [.data, .data, .data, .data, .sentinel, .sentinel, .pinned], laidTests := true, laidLooks := .later }
def CourseIntervalsCardSaid : Prop := Claim7.holds Tryz.pinned (.plain (OpenSpec.ofChange courseIntervalsSpec)) courseIntervalsCard

/-- THE TIED CARD OF 'merestonelaw02.CourseNeedles'. -/
def courseNeedlesCard : Claim7 := { stood := { row := courseNeedlesRow, standIns := [], harness := (true, "5a1f5546847442312d9845b7cef904ebf9d707a0d37aabe581cd52a970253b5a"), looks := true }, kinds := [], alts := [], laidByText := true, laidKinds := [.data, .data, .data, .data, .sentinel, .sentinel, .pinned], laidTests := true, laidLooks := .later }
def CourseNeedlesCardSaid : Prop := Claim7.holds Tryz.pinned (.plain (OpenSpec.ofChange courseNeedlesSpec)) courseNeedlesCard

/-- THE TIED CARD OF 'merestonelaw02.CourseCommon'. -/
def courseCommonCard : Claim7 := { stood := { row := courseCommonRow, standIns := [], harness := (true, "5a1f5546847442312d9845b7cef904ebf9d707a0d37aabe581cd52a970253b5a"), looks := true }, kinds := [], alts := [], laidByText := true, laidKinds := [.data, .data, .data, .data, .sentinel, .sentinel, .pinned], laidTests := true, laidLooks := .later }
def CourseCommonCardSaid : Prop := Claim7.holds Tryz.pinned (.plain (OpenSpec.ofChange courseCommonSpec)) courseCommonCard

/-- THE TIED CARD OF 'merestonelaw02.CourseExact'. -/
def courseExactCard : Claim7 := { stood := { row := courseExactRow, standIns := [], harness := (true, "5a1f5546847442312d9845b7cef904ebf9d707a0d37aabe581cd52a970253b5a"), looks := true }, kinds := [], alts := [], laidByText := true, laidKinds := [.data, .data, .data, .data, .sentinel, .sentinel, .pinned], laidTests := true, laidLooks := .later }
def CourseExactCardSaid : Prop := Claim7.holds Tryz.pinned (.plain (OpenSpec.ofChange courseExactSpec)) courseExactCard

/-- THE TIED CARD OF 'merestonelaw02.CourseWider'. -/
def courseWiderCard : Claim7 := { stood := { row := courseWiderRow, standIns := [], harness := (true, "5a1f5546847442312d9845b7cef904ebf9d707a0d37aabe581cd52a970253b5a"), looks := true }, kinds := [], alts := [], laidByText := true, laidKinds := [.data, .data, .data, .data, .sentinel, .sentinel, .pinned], laidTests := true, laidLooks := .later }
def CourseWiderCardSaid : Prop := Claim7.holds Tryz.pinned (.plain (OpenSpec.ofChange courseWiderSpec)) courseWiderCard

/-- THE TIED CARD OF 'merestonelaw02.CourseBack'. -/
def courseBackCard : Claim7 := { stood := { row := courseBackRow, standIns := [], harness := (true, "5a1f5546847442312d9845b7cef904ebf9d707a0d37aabe581cd52a970253b5a"), looks := true }, kinds := [], alts := [], laidByText := true, laidKinds := [.data, .data, .data, .data, .sentinel, .sentinel, .pinned], laidTests := true, laidLooks := .later }
def CourseBackCardSaid : Prop := Claim7.holds Tryz.pinned (.plain (OpenSpec.ofChange courseBackSpec)) courseBackCard

/-- THE TIED CARD OF 'merestonelaw02.CourseShared'. -/
def courseSharedCard : Claim7 := { stood := { row := courseSharedRow, standIns := [], harness := (true, "5a1f5546847442312d9845b7cef904ebf9d707a0d37aabe581cd52a970253b5a"), looks := true }, kinds := [], alts := [], laidByText := true, laidKinds := [.data, .data, .data, .data, .sentinel, .sentinel, .pinned], laidTests := true, laidLooks := .later }
def CourseSharedCardSaid : Prop := Claim7.holds Tryz.pinned (.plain (OpenSpec.ofChange courseSharedSpec)) courseSharedCard

/-- THE TIED CARD OF 'merestonelaw02.CourseLengths'. -/
def courseLengthsCard : Claim7 := { stood := { row := courseLengthsRow, standIns := [], harness := (true, "5a1f5546847442312d9845b7cef904ebf9d707a0d37aabe581cd52a970253b5a"), looks := true }, kinds := [], alts := [], laidByText := true, laidKinds := [.data, .data, .data, .data, .sentinel, .sentinel, .pinned], laidTests := true, laidLooks := .later }
def CourseLengthsCardSaid : Prop := Claim7.holds Tryz.pinned (.plain (OpenSpec.ofChange courseLengthsSpec)) courseLengthsCard

/-- THE TIED CARD OF 'merestonelaw02.CourseTurns'. -/
def courseTurnsCard : Claim7 := { stood := { row := courseTurnsRow, standIns := [], harness := (true, "5a1f5546847442312d9845b7cef904ebf9d707a0d37aabe581cd52a970253b5a"), looks := true }, kinds := [], alts := [], laidByText := true, laidKinds := [.data, .data, .data, .data, .sentinel, .sentinel, .pinned], laidTests := true, laidLooks := .later }
def CourseTurnsCardSaid : Prop := Claim7.holds Tryz.pinned (.plain (OpenSpec.ofChange courseTurnsSpec)) courseTurnsCard

/-- THE TIED CARD OF 'merestonelaw02.CourseNarrower'. -/
def courseNarrowerCard : Claim7 := { stood := { row := courseNarrowerRow, standIns := [], harness := (true, "5a1f5546847442312d9845b7cef904ebf9d707a0d37aabe581cd52a970253b5a"), looks := true }, kinds := [], alts := [], laidByText := true, laidKinds := [.data, .data, .data, .data, .sentinel, .sentinel, .pinned], laidTests := true, laidLooks := .later }
def CourseNarrowerCardSaid : Prop := Claim7.holds Tryz.pinned (.plain (OpenSpec.ofChange courseNarrowerSpec)) courseNarrowerCard

/-- THE TIED CARD OF 'merestonelaw02.CourseBounds'. -/
def courseBoundsCard : Claim7 := { stood := { row := courseBoundsRow, standIns := [], harness := (true, "5a1f5546847442312d9845b7cef904ebf9d707a0d37aabe581cd52a970253b5a"), looks := true }, kinds := [], alts := [], laidByText := true, laidKinds := [.data, .data, .data, .data, .sentinel, .sentinel, .pinned], laidTests := true, laidLooks := .later }
def CourseBoundsCardSaid : Prop := Claim7.holds Tryz.pinned (.plain (OpenSpec.ofChange courseBoundsSpec)) courseBoundsCard

/-- THE TIED CARD OF 'merestonelaw02.CourseAllows'. -/
def courseAllowsCard : Claim7 := { stood := { row := courseAllowsRow, standIns := [], harness := (true, "5a1f5546847442312d9845b7cef904ebf9d707a0d37aabe581cd52a970253b5a"), looks := true }, kinds := [], alts := [], laidByText := true, laidKinds := [.data, .data, .data, .data, .sentinel, .sentinel, .pinned], laidTests := true, laidLooks := .later }
def CourseAllowsCardSaid : Prop := Claim7.holds Tryz.pinned (.plain (OpenSpec.ofChange courseAllowsSpec)) courseAllowsCard

/-- THE TIED CARD OF 'merestonelaw02.CourseQuadrants'. -/
def courseQuadrantsCard : Claim7 := { stood := { row := courseQuadrantsRow, standIns := [], harness := (true, "5a1f5546847442312d9845b7cef904ebf9d707a0d37aabe581cd52a970253b5a"), looks := true }, kinds := [], alts := [], laidByText := true, laidKinds := [.data, .data, .data, .data, .sentinel, .sentinel, .pinned], laidTests := true, laidLooks := .later }
def CourseQuadrantsCardSaid : Prop := Claim7.holds Tryz.pinned (.plain (OpenSpec.ofChange courseQuadrantsSpec)) courseQuadrantsCard

/-- THE TIED CARD OF 'merestonelaw02.CourseTexts'. -/
def courseTextsCard : Claim7 := { stood := { row := courseTextsRow, standIns := [], harness := (true, "5a1f5546847442312d9845b7cef904ebf9d707a0d37aabe581cd52a970253b5a"), looks := true }, kinds := [], alts := [], laidByText := true, laidKinds := [.data, .data, .data, .data, .sentinel, .sentinel, .pinned], laidTests := true, laidLooks := .later }
def CourseTextsCardSaid : Prop := Claim7.holds Tryz.pinned (.plain (OpenSpec.ofChange courseTextsSpec)) courseTextsCard

/-- THE TIED CARD OF 'merestonelaw02.CourseChecks'. -/
def courseChecksCard : Claim7 := { stood := { row := courseChecksRow, standIns := [], harness := (true, "5a1f5546847442312d9845b7cef904ebf9d707a0d37aabe581cd52a970253b5a"), looks := true }, kinds := [], alts := [], laidByText := true, laidKinds := [.data, .data, .data, .data, .sentinel, .sentinel, .pinned], laidTests := true, laidLooks := .later }
def CourseChecksCardSaid : Prop := Claim7.holds Tryz.pinned (.plain (OpenSpec.ofChange courseChecksSpec)) courseChecksCard

/-- THE SECOND FORM's CARD OF 'merestonelaw02.CourseSines'. -/
def courseSinesUptoCard : Claim7 := { stood := { row := courseSinesUptoRow, standIns := [], harness := (true, "5a1f5546847442312d9845b7cef904ebf9d707a0d37aabe581cd52a970253b5a"), looks := true }, kinds := [], alts := [], laidByText := true, laidKinds := [.data, .data, .data, .data, .sentinel, .sentinel, .pinned], laidTests := true, laidLooks := .later }
def CourseSinesUptoCardSaid : Prop := Claim7.holds Tryz.pinned (.plain (OpenSpec.upto courseSinesSpec)) courseSinesUptoCard

/-- THE SECOND FORM's CARD OF 'merestonelaw02.CourseRoots'. -/
def courseRootsUptoCard : Claim7 := { stood := { row := courseRootsUptoRow, standIns := [], harness := (true, "5a1f5546847442312d9845b7cef904ebf9d707a0d37aabe581cd52a970253b5a"), looks := true }, kinds := [], alts := [], laidByText := true, laidKinds := [.data, .data, .data, .data, .sentinel, .sentinel, .pinned], laidTests := true, laidLooks := .later }
def CourseRootsUptoCardSaid : Prop := Claim7.holds Tryz.pinned (.plain (OpenSpec.upto courseRootsSpec)) courseRootsUptoCard

/-- THE SECOND FORM's CARD OF 'merestonelaw02.CourseFits'. -/
def courseFitsUptoCard : Claim7 := { stood := { row := courseFitsUptoRow, standIns := [], harness := (true, "5a1f5546847442312d9845b7cef904ebf9d707a0d37aabe581cd52a970253b5a"), looks := true }, kinds := [], alts := [], laidByText := true, laidKinds := [.data, .data, .data, .data, .sentinel, .sentinel, .pinned], laidTests := true, laidLooks := .later }
def CourseFitsUptoCardSaid : Prop := Claim7.holds Tryz.pinned (.plain (OpenSpec.upto courseFitsSpec)) courseFitsUptoCard

/-- THE SECOND FORM's CARD OF 'merestonelaw02.CourseIntervals'. -/
def courseIntervalsUptoCard : Claim7 := { stood := { row := courseIntervalsUptoRow, standIns := [], harness := (true, "5a1f5546847442312d9845b7cef904ebf9d707a0d37aabe581cd52a970253b5a"), looks := true }, kinds := [], alts := [], laidByText := true, laidKinds := [.data, .data, .data, .data, .sentinel, .sentinel, .pinned], laidTests := true, laidLooks := .later }
def CourseIntervalsUptoCardSaid : Prop := Claim7.holds Tryz.pinned (.plain (OpenSpec.upto courseIntervalsSpec)) courseIntervalsUptoCard

/-- THE SECOND FORM's CARD OF 'merestonelaw02.CourseNeedles'. -/
def courseNeedlesUptoCard : Claim7 := { stood := { row := courseNeedlesUptoRow, standIns := [], harness := (true, "5a1f5546847442312d9845b7cef904ebf9d707a0d37aabe581cd52a970253b5a"), looks := true }, kinds := [], alts := [], laidByText := true, laidKinds := [.data, .data, .data, .data, .sentinel, .sentinel, .pinned], laidTests := true, laidLooks := .later }
def CourseNeedlesUptoCardSaid : Prop := Claim7.holds Tryz.pinned (.plain (OpenSpec.upto courseNeedlesSpec)) courseNeedlesUptoCard

/-- THE SECOND FORM's CARD OF 'merestonelaw02.CourseCommon'. -/
def courseCommonUptoCard : Claim7 := { stood := { row := courseCommonUptoRow, standIns := [], harness := (true, "5a1f5546847442312d9845b7cef904ebf9d707a0d37aabe581cd52a970253b5a"), looks := true }, kinds := [], alts := [], laidByText := true, laidKinds := [.data, .data, .data, .data, .sentinel, .sentinel, .pinned], laidTests := true, laidLooks := .later }
def CourseCommonUptoCardSaid : Prop := Claim7.holds Tryz.pinned (.plain (OpenSpec.upto courseCommonSpec)) courseCommonUptoCard

/-- THE SECOND FORM's CARD OF 'merestonelaw02.CourseExact'. -/
def courseExactUptoCard : Claim7 := { stood := { row := courseExactUptoRow, standIns := [], harness := (true, "5a1f5546847442312d9845b7cef904ebf9d707a0d37aabe581cd52a970253b5a"), looks := true }, kinds := [], alts := [], laidByText := true, laidKinds := [.data, .data, .data, .data, .sentinel, .sentinel, .pinned], laidTests := true, laidLooks := .later }
def CourseExactUptoCardSaid : Prop := Claim7.holds Tryz.pinned (.plain (OpenSpec.upto courseExactSpec)) courseExactUptoCard

/-- THE SECOND FORM's CARD OF 'merestonelaw02.CourseWider'. -/
def courseWiderUptoCard : Claim7 := { stood := { row := courseWiderUptoRow, standIns := [], harness := (true, "5a1f5546847442312d9845b7cef904ebf9d707a0d37aabe581cd52a970253b5a"), looks := true }, kinds := [], alts := [], laidByText := true, laidKinds := [.data, .data, .data, .data, .sentinel, .sentinel, .pinned], laidTests := true, laidLooks := .later }
def CourseWiderUptoCardSaid : Prop := Claim7.holds Tryz.pinned (.plain (OpenSpec.upto courseWiderSpec)) courseWiderUptoCard

/-- THE SECOND FORM's CARD OF 'merestonelaw02.CourseBack'. -/
def courseBackUptoCard : Claim7 := { stood := { row := courseBackUptoRow, standIns := [], harness := (true, "5a1f5546847442312d9845b7cef904ebf9d707a0d37aabe581cd52a970253b5a"), looks := true }, kinds := [], alts := [], laidByText := true, laidKinds := [.data, .data, .data, .data, .sentinel, .sentinel, .pinned], laidTests := true, laidLooks := .later }
def CourseBackUptoCardSaid : Prop := Claim7.holds Tryz.pinned (.plain (OpenSpec.upto courseBackSpec)) courseBackUptoCard

/-- THE SECOND FORM's CARD OF 'merestonelaw02.CourseShared'. -/
def courseSharedUptoCard : Claim7 := { stood := { row := courseSharedUptoRow, standIns := [], harness := (true, "5a1f5546847442312d9845b7cef904ebf9d707a0d37aabe581cd52a970253b5a"), looks := true }, kinds := [], alts := [], laidByText := true, laidKinds := [.data, .data, .data, .data, .sentinel, .sentinel, .pinned], laidTests := true, laidLooks := .later }
def CourseSharedUptoCardSaid : Prop := Claim7.holds Tryz.pinned (.plain (OpenSpec.upto courseSharedSpec)) courseSharedUptoCard

/-- THE SECOND FORM's CARD OF 'merestonelaw02.CourseLengths'. -/
def courseLengthsUptoCard : Claim7 := { stood := { row := courseLengthsUptoRow, standIns := [], harness := (true, "5a1f5546847442312d9845b7cef904ebf9d707a0d37aabe581cd52a970253b5a"), looks := true }, kinds := [], alts := [], laidByText := true, laidKinds := [.data, .data, .data, .data, .sentinel, .sentinel, .pinned], laidTests := true, laidLooks := .later }
def CourseLengthsUptoCardSaid : Prop := Claim7.holds Tryz.pinned (.plain (OpenSpec.upto courseLengthsSpec)) courseLengthsUptoCard

/-- THE SECOND FORM's CARD OF 'merestonelaw02.CourseTurns'. -/
def courseTurnsUptoCard : Claim7 := { stood := { row := courseTurnsUptoRow, standIns := [], harness := (true, "5a1f5546847442312d9845b7cef904ebf9d707a0d37aabe581cd52a970253b5a"), looks := true }, kinds := [], alts := [], laidByText := true, laidKinds := [.data, .data, .data, .data, .sentinel, .sentinel, .pinned], laidTests := true, laidLooks := .later }
def CourseTurnsUptoCardSaid : Prop := Claim7.holds Tryz.pinned (.plain (OpenSpec.upto courseTurnsSpec)) courseTurnsUptoCard

/-- THE SECOND FORM's CARD OF 'merestonelaw02.CourseNarrower'. -/
def courseNarrowerUptoCard : Claim7 := { stood := { row := courseNarrowerUptoRow, standIns := [], harness := (true, "5a1f5546847442312d9845b7cef904ebf9d707a0d37aabe581cd52a970253b5a"), looks := true }, kinds := [], alts := [], laidByText := true, laidKinds := [.data, .data, .data, .data, .sentinel, .sentinel, .pinned], laidTests := true, laidLooks := .later }
def CourseNarrowerUptoCardSaid : Prop := Claim7.holds Tryz.pinned (.plain (OpenSpec.upto courseNarrowerSpec)) courseNarrowerUptoCard

/-- THE SECOND FORM's CARD OF 'merestonelaw02.CourseBounds'. -/
def courseBoundsUptoCard : Claim7 := { stood := { row := courseBoundsUptoRow, standIns := [], harness := (true, "5a1f5546847442312d9845b7cef904ebf9d707a0d37aabe581cd52a970253b5a"), looks := true }, kinds := [], alts := [], laidByText := true, laidKinds := [.data, .data, .data, .data, .sentinel, .sentinel, .pinned], laidTests := true, laidLooks := .later }
def CourseBoundsUptoCardSaid : Prop := Claim7.holds Tryz.pinned (.plain (OpenSpec.upto courseBoundsSpec)) courseBoundsUptoCard

/-- THE SECOND FORM's CARD OF 'merestonelaw02.CourseAllows'. -/
def courseAllowsUptoCard : Claim7 := { stood := { row := courseAllowsUptoRow, standIns := [], harness := (true, "5a1f5546847442312d9845b7cef904ebf9d707a0d37aabe581cd52a970253b5a"), looks := true }, kinds := [], alts := [], laidByText := true, laidKinds := [.data, .data, .data, .data, .sentinel, .sentinel, .pinned], laidTests := true, laidLooks := .later }
def CourseAllowsUptoCardSaid : Prop := Claim7.holds Tryz.pinned (.plain (OpenSpec.upto courseAllowsSpec)) courseAllowsUptoCard

/-- THE SECOND FORM's CARD OF 'merestonelaw02.CourseQuadrants'. -/
def courseQuadrantsUptoCard : Claim7 := { stood := { row := courseQuadrantsUptoRow, standIns := [], harness := (true, "5a1f5546847442312d9845b7cef904ebf9d707a0d37aabe581cd52a970253b5a"), looks := true }, kinds := [], alts := [], laidByText := true, laidKinds := [.data, .data, .data, .data, .sentinel, .sentinel, .pinned], laidTests := true, laidLooks := .later }
def CourseQuadrantsUptoCardSaid : Prop := Claim7.holds Tryz.pinned (.plain (OpenSpec.upto courseQuadrantsSpec)) courseQuadrantsUptoCard

/-- THE SECOND FORM's CARD OF 'merestonelaw02.CourseTexts'. -/
def courseTextsUptoCard : Claim7 := { stood := { row := courseTextsUptoRow, standIns := [], harness := (true, "5a1f5546847442312d9845b7cef904ebf9d707a0d37aabe581cd52a970253b5a"), looks := true }, kinds := [], alts := [], laidByText := true, laidKinds := [.data, .data, .data, .data, .sentinel, .sentinel, .pinned], laidTests := true, laidLooks := .later }
def CourseTextsUptoCardSaid : Prop := Claim7.holds Tryz.pinned (.plain (OpenSpec.upto courseTextsSpec)) courseTextsUptoCard

/-- THE SECOND FORM's CARD OF 'merestonelaw02.CourseChecks'. -/
def courseChecksUptoCard : Claim7 := { stood := { row := courseChecksUptoRow, standIns := [], harness := (true, "5a1f5546847442312d9845b7cef904ebf9d707a0d37aabe581cd52a970253b5a"), looks := true }, kinds := [], alts := [], laidByText := true, laidKinds := [.data, .data, .data, .data, .sentinel, .sentinel, .pinned], laidTests := true, laidLooks := .later }
def CourseChecksUptoCardSaid : Prop := Claim7.holds Tryz.pinned (.plain (OpenSpec.upto courseChecksSpec)) courseChecksUptoCard
end Rows
end Go.Proofs.YthncpapejijloaaGreatDoor
