/-
  DERIVED. GIVEN WITH THE SEED: THE CARDS: each row of YthejmgnkenokpaaDoorRows.lean that lists a variable, with what it lists TIED to the program's text (the seventh form; the later family's looks); each row that meets fmt, with fmt's text TOLD by the authors' own Lean function (tested against real Go, not proved from fmt's source: count such statements apart). THE CARD IS WHAT COUNTS. Prove the row's statement (the work); the ties are given (YthejmgnkenokpaaDoorTie.lean); close each card by the builder's one call (the guide's Derived/Test/ToyasCard.lean, 'card_holds'). Laid BY PROGRAM, IN A SANDBOX (cutbox-door.mjs). By AI agents, Wed Nov 11 2026. No macro, syntax, notation, axiom, sorry.
-/
import Derived.Test.YthejmgnkenokpaaDoorRows
import GoSem.ClaimSeven
namespace Go.Proofs.YthejmgnkenokpaaDoor
namespace Rows

/-- THE TIED CARD OF 'wringinglaw03.PlateClasses'. -/
def plateClassesCard : Claim7 := { stood := { row := plateClassesRow, standIns := [], harness := (true, "ec7924829716fc1ac9fa52c404c0f004a553c45c84e7b2abe0e51f7437e1a5f1"), looks := false }, kinds := [], alts := [], laidByText := true, laidKinds := [.data, .data, .data], laidTests := true, laidLooks := .later }
def PlateClassesCardSaid : Prop := Claim7.holds Tryd.pinned (.plain (OpenSpec.ofChange plateClassesSpec)) plateClassesCard

/-- THE TIED CARD OF 'wringinglaw03.PlateShapes'. -/
def plateShapesCard : Claim7 := { stood := { row := plateShapesRow, standIns := [], harness := (true, "ec7924829716fc1ac9fa52c404c0f004a553c45c84e7b2abe0e51f7437e1a5f1"), looks := false }, kinds := [], alts := [], laidByText := true, laidKinds := [.data, .data, .data], laidTests := true, laidLooks := .later }
def PlateShapesCardSaid : Prop := Claim7.holds Tryd.pinned (.plain (OpenSpec.ofChange plateShapesSpec)) plateShapesCard

/-- THE TIED CARD OF 'wringinglaw03.PlateTurns'. -/
def plateTurnsCard : Claim7 := { stood := { row := plateTurnsRow, standIns := [], harness := (true, "ec7924829716fc1ac9fa52c404c0f004a553c45c84e7b2abe0e51f7437e1a5f1"), looks := false }, kinds := [], alts := [], laidByText := true, laidKinds := [.data, .data, .data], laidTests := true, laidLooks := .later }
def PlateTurnsCardSaid : Prop := Claim7.holds Tryd.pinned (.plain (OpenSpec.ofChange plateTurnsSpec)) plateTurnsCard

/-- THE TIED CARD OF 'wringinglaw03.PlateGroup'. -/
def plateGroupCard : Claim7 := { stood := { row := plateGroupRow, standIns := [], harness := (true, "ec7924829716fc1ac9fa52c404c0f004a553c45c84e7b2abe0e51f7437e1a5f1"), looks := false }, kinds := [], alts := [], laidByText := true, laidKinds := [.data, .data, .data], laidTests := true, laidLooks := .later }
def PlateGroupCardSaid : Prop := Claim7.holds Tryd.pinned (.plain (OpenSpec.ofChange plateGroupSpec)) plateGroupCard

/-- THE TIED CARD OF 'wringinglaw03.PlateThree'. -/
def plateThreeCard : Claim7 := { stood := { row := plateThreeRow, standIns := [], harness := (true, "ec7924829716fc1ac9fa52c404c0f004a553c45c84e7b2abe0e51f7437e1a5f1"), looks := false }, kinds := [], alts := [], laidByText := true, laidKinds := [.data, .data, .data], laidTests := true, laidLooks := .later }
def PlateThreeCardSaid : Prop := Claim7.holds Tryd.pinned (.plain (OpenSpec.ofChange plateThreeSpec)) plateThreeCard

/-- THE TIED CARD OF 'wringinglaw03.PlateFollows'. -/
def plateFollowsCard : Claim7 := { stood := { row := plateFollowsRow, standIns := [], harness := (true, "ec7924829716fc1ac9fa52c404c0f004a553c45c84e7b2abe0e51f7437e1a5f1"), looks := false }, kinds := [], alts := [], laidByText := true, laidKinds := [.data, .data, .data], laidTests := true, laidLooks := .later }
def PlateFollowsCardSaid : Prop := Claim7.holds Tryd.pinned (.plain (OpenSpec.ofChange plateFollowsSpec)) plateFollowsCard

/-- THE TIED CARD OF 'wringinglaw03.PlateHelps'. -/
def plateHelpsCard : Claim7 := { stood := { row := plateHelpsRow, standIns := [], harness := (true, "ec7924829716fc1ac9fa52c404c0f004a553c45c84e7b2abe0e51f7437e1a5f1"), looks := false }, kinds := [], alts := [], laidByText := true, laidKinds := [.data, .data, .data], laidTests := true, laidLooks := .later }
def PlateHelpsCardSaid : Prop := Claim7.holds Tryd.pinned (.plain (OpenSpec.ofChange plateHelpsSpec)) plateHelpsCard

/-- THE TIED CARD OF 'wringinglaw03.PlateMore'. -/
def plateMoreCard : Claim7 := { stood := { row := plateMoreRow, standIns := [], harness := (true, "ec7924829716fc1ac9fa52c404c0f004a553c45c84e7b2abe0e51f7437e1a5f1"), looks := false }, kinds := [], alts := [], laidByText := true, laidKinds := [.data, .data, .data], laidTests := true, laidLooks := .later }
def PlateMoreCardSaid : Prop := Claim7.holds Tryd.pinned (.plain (OpenSpec.ofChange plateMoreSpec)) plateMoreCard

/-- THE TIED CARD OF 'wringinglaw03.PlateWalks'. -/
def plateWalksCard : Claim7 := { stood := { row := plateWalksRow, standIns := [], harness := (true, "ec7924829716fc1ac9fa52c404c0f004a553c45c84e7b2abe0e51f7437e1a5f1"), looks := false }, kinds := [], alts := [], laidByText := true, laidKinds := [.data, .data, .data], laidTests := true, laidLooks := .later }
def PlateWalksCardSaid : Prop := Claim7.holds Tryd.pinned (.plain (OpenSpec.ofChange plateWalksSpec)) plateWalksCard

/-- THE TIED CARD OF 'wringinglaw03.PlateGaps'. -/
def plateGapsCard : Claim7 := { stood := { row := plateGapsRow, standIns := [], harness := (true, "ec7924829716fc1ac9fa52c404c0f004a553c45c84e7b2abe0e51f7437e1a5f1"), looks := false }, kinds := [], alts := [], laidByText := true, laidKinds := [.data, .data, .data], laidTests := true, laidLooks := .later }
def PlateGapsCardSaid : Prop := Claim7.holds Tryd.pinned (.plain (OpenSpec.ofChange plateGapsSpec)) plateGapsCard

/-- THE TIED CARD OF 'wringinglaw03.PlateFlat'. -/
def plateFlatCard : Claim7 := { stood := { row := plateFlatRow, standIns := [], harness := (true, "ec7924829716fc1ac9fa52c404c0f004a553c45c84e7b2abe0e51f7437e1a5f1"), looks := false }, kinds := [], alts := [], laidByText := true, laidKinds := [.data, .data, .data], laidTests := true, laidLooks := .later }
def PlateFlatCardSaid : Prop := Claim7.holds Tryd.pinned (.plain (OpenSpec.ofChange plateFlatSpec)) plateFlatCard

/-- THE TIED CARD OF 'wringinglaw03.PlateBound'. -/
def plateBoundCard : Claim7 := { stood := { row := plateBoundRow, standIns := [], harness := (true, "ec7924829716fc1ac9fa52c404c0f004a553c45c84e7b2abe0e51f7437e1a5f1"), looks := false }, kinds := [], alts := [], laidByText := true, laidKinds := [.data, .data, .data], laidTests := true, laidLooks := .later }
def PlateBoundCardSaid : Prop := Claim7.holds Tryd.pinned (.plain (OpenSpec.ofChange plateBoundSpec)) plateBoundCard

/-- THE SECOND FORM's CARD OF 'wringinglaw03.PlateClasses'. -/
def plateClassesUptoCard : Claim7 := { stood := { row := plateClassesUptoRow, standIns := [], harness := (true, "ec7924829716fc1ac9fa52c404c0f004a553c45c84e7b2abe0e51f7437e1a5f1"), looks := false }, kinds := [], alts := [], laidByText := true, laidKinds := [.data, .data, .data], laidTests := true, laidLooks := .later }
def PlateClassesUptoCardSaid : Prop := Claim7.holds Tryd.pinned (.plain (OpenSpec.upto plateClassesSpec)) plateClassesUptoCard

/-- THE SECOND FORM's CARD OF 'wringinglaw03.PlateShapes'. -/
def plateShapesUptoCard : Claim7 := { stood := { row := plateShapesUptoRow, standIns := [], harness := (true, "ec7924829716fc1ac9fa52c404c0f004a553c45c84e7b2abe0e51f7437e1a5f1"), looks := false }, kinds := [], alts := [], laidByText := true, laidKinds := [.data, .data, .data], laidTests := true, laidLooks := .later }
def PlateShapesUptoCardSaid : Prop := Claim7.holds Tryd.pinned (.plain (OpenSpec.upto plateShapesSpec)) plateShapesUptoCard

/-- THE SECOND FORM's CARD OF 'wringinglaw03.PlateTurns'. -/
def plateTurnsUptoCard : Claim7 := { stood := { row := plateTurnsUptoRow, standIns := [], harness := (true, "ec7924829716fc1ac9fa52c404c0f004a553c45c84e7b2abe0e51f7437e1a5f1"), looks := false }, kinds := [], alts := [], laidByText := true, laidKinds := [.data, .data, .data], laidTests := true, laidLooks := .later }
def PlateTurnsUptoCardSaid : Prop := Claim7.holds Tryd.pinned (.plain (OpenSpec.upto plateTurnsSpec)) plateTurnsUptoCard

/-- THE SECOND FORM's CARD OF 'wringinglaw03.PlateGroup'. -/
def plateGroupUptoCard : Claim7 := { stood := { row := plateGroupUptoRow, standIns := [], harness := (true, "ec7924829716fc1ac9fa52c404c0f004a553c45c84e7b2abe0e51f7437e1a5f1"), looks := false }, kinds := [], alts := [], laidByText := true, laidKinds := [.data, .data, .data], laidTests := true, laidLooks := .later }
def PlateGroupUptoCardSaid : Prop := Claim7.holds Tryd.pinned (.plain (OpenSpec.upto plateGroupSpec)) plateGroupUptoCard

/-- THE SECOND FORM's CARD OF 'wringinglaw03.PlateThree'. -/
def plateThreeUptoCard : Claim7 := { stood := { row := plateThreeUptoRow, standIns := [], harness := (true, "ec7924829716fc1ac9fa52c404c0f004a553c45c84e7b2abe0e51f7437e1a5f1"), looks := false }, kinds := [], alts := [], laidByText := true, laidKinds := [.data, .data, .data], laidTests := true, laidLooks := .later }
def PlateThreeUptoCardSaid : Prop := Claim7.holds Tryd.pinned (.plain (OpenSpec.upto plateThreeSpec)) plateThreeUptoCard

/-- THE SECOND FORM's CARD OF 'wringinglaw03.PlateFollows'. -/
def plateFollowsUptoCard : Claim7 := { stood := { row := plateFollowsUptoRow, standIns := [], harness := (true, "ec7924829716fc1ac9fa52c404c0f004a553c45c84e7b2abe0e51f7437e1a5f1"), looks := false }, kinds := [], alts := [], laidByText := true, laidKinds := [.data, .data, .data], laidTests := true, laidLooks := .later }
def PlateFollowsUptoCardSaid : Prop := Claim7.holds Tryd.pinned (.plain (OpenSpec.upto plateFollowsSpec)) plateFollowsUptoCard

/-- THE SECOND FORM's CARD OF 'wringinglaw03.PlateHelps'. -/
def plateHelpsUptoCard : Claim7 := { stood := { row := plateHelpsUptoRow, standIns := [], harness := (true, "ec7924829716fc1ac9fa52c404c0f004a553c45c84e7b2abe0e51f7437e1a5f1"), looks := false }, kinds := [], alts := [], laidByText := true, laidKinds := [.data, .data, .data], laidTests := true, laidLooks := .later }
def PlateHelpsUptoCardSaid : Prop := Claim7.holds Tryd.pinned (.plain (OpenSpec.upto plateHelpsSpec)) plateHelpsUptoCard

/-- THE SECOND FORM's CARD OF 'wringinglaw03.PlateMore'. -/
def plateMoreUptoCard : Claim7 := { stood := { row := plateMoreUptoRow, standIns := [], harness := (true, "ec7924829716fc1ac9fa52c404c0f004a553c45c84e7b2abe0e51f7437e1a5f1"), looks := false }, kinds := [], alts := [], laidByText := true, laidKinds := [.data, .data, .data], laidTests := true, laidLooks := .later }
def PlateMoreUptoCardSaid : Prop := Claim7.holds Tryd.pinned (.plain (OpenSpec.upto plateMoreSpec)) plateMoreUptoCard

/-- THE SECOND FORM's CARD OF 'wringinglaw03.PlateWalks'. -/
def plateWalksUptoCard : Claim7 := { stood := { row := plateWalksUptoRow, standIns := [], harness := (true, "ec7924829716fc1ac9fa52c404c0f004a553c45c84e7b2abe0e51f7437e1a5f1"), looks := false }, kinds := [], alts := [], laidByText := true, laidKinds := [.data, .data, .data], laidTests := true, laidLooks := .later }
def PlateWalksUptoCardSaid : Prop := Claim7.holds Tryd.pinned (.plain (OpenSpec.upto plateWalksSpec)) plateWalksUptoCard

/-- THE SECOND FORM's CARD OF 'wringinglaw03.PlateGaps'. -/
def plateGapsUptoCard : Claim7 := { stood := { row := plateGapsUptoRow, standIns := [], harness := (true, "ec7924829716fc1ac9fa52c404c0f004a553c45c84e7b2abe0e51f7437e1a5f1"), looks := false }, kinds := [], alts := [], laidByText := true, laidKinds := [.data, .data, .data], laidTests := true, laidLooks := .later }
def PlateGapsUptoCardSaid : Prop := Claim7.holds Tryd.pinned (.plain (OpenSpec.upto plateGapsSpec)) plateGapsUptoCard

/-- THE SECOND FORM's CARD OF 'wringinglaw03.PlateFlat'. -/
def plateFlatUptoCard : Claim7 := { stood := { row := plateFlatUptoRow, standIns := [], harness := (true, "ec7924829716fc1ac9fa52c404c0f004a553c45c84e7b2abe0e51f7437e1a5f1"), looks := false }, kinds := [], alts := [], laidByText := true, laidKinds := [.data, .data, .data], laidTests := true, laidLooks := .later }
def PlateFlatUptoCardSaid : Prop := Claim7.holds Tryd.pinned (.plain (OpenSpec.upto plateFlatSpec)) plateFlatUptoCard

/-- THE SECOND FORM's CARD OF 'wringinglaw03.PlateBound'. -/
def plateBoundUptoCard : Claim7 := { stood := { row := plateBoundUptoRow, standIns := [], harness := (true, "ec7924829716fc1ac9fa52c404c0f004a553c45c84e7b2abe0e51f7437e1a5f1"), looks := false }, kinds := [], alts := [], laidByText := true, laidKinds := [.data, .data, .data], laidTests := true, laidLooks := .later }
def PlateBoundUptoCardSaid : Prop := Claim7.holds Tryd.pinned (.plain (OpenSpec.upto plateBoundSpec)) plateBoundUptoCard
end Rows
end Go.Proofs.YthejmgnkenokpaaDoor
