/-
  DERIVED. GIVEN WITH THE SEED: THE CARDS: each row of YthejmgnkenokpaaGreatDoorRows.lean that lists a variable, with what it lists TIED to the program's text (the seventh form; the later family's looks); each row that meets fmt, with fmt's text TOLD by the authors' own Lean function (tested against real Go, not proved from fmt's source: count such statements apart). THE CARD IS WHAT COUNTS. Prove the row's statement (the work); the ties are given (YthejmgnkenokpaaGreatDoorTie.lean); close each card by the builder's one call (the guide's Derived/Test/ToyasCard.lean, 'card_holds'). Laid BY PROGRAM, IN A SANDBOX (cutbox-door.mjs). By AI agents, Wed Nov 11 2026. No macro, syntax, notation, axiom, sorry.
-/
import Derived.Test.YthejmgnkenokpaaGreatDoorRows
import GoSem.ClaimSeven
namespace Go.Proofs.YthejmgnkenokpaaGreatDoor
namespace Rows

/-- THE TIED CARD OF 'wringinglaw03.PlateProofs'. -/
def plateProofsCard : Claim7 := { stood := { row := plateProofsRow, standIns := [], harness := (true, "763b0c96b0754e23fd4c9e5a4dcbd390c04a64d95105f2e4db8b1613615322bd"), looks := true }, kinds := [], alts := [], laidByText := true, laidKinds := [.data, .data, .data], laidTests := true, laidLooks := .later }
def PlateProofsCardSaid : Prop := Claim7.holds Tryz.pinned (.plain (OpenSpec.ofChange plateProofsSpec)) plateProofsCard

/-- THE TIED CARD OF 'wringinglaw03.PlateFits'. -/
def plateFitsCard : Claim7 := { stood := { row := plateFitsRow, standIns := [], harness := (true, "763b0c96b0754e23fd4c9e5a4dcbd390c04a64d95105f2e4db8b1613615322bd"), looks := true }, kinds := [], alts := [], laidByText := true, laidKinds := [.data, .data, .data], laidTests := true, laidLooks := .later }
def PlateFitsCardSaid : Prop := Claim7.holds Tryz.pinned (.plain (OpenSpec.ofChange plateFitsSpec)) plateFitsCard

/-- THE TIED CARD OF 'wringinglaw03.PlateSigns'. -/
def plateSignsCard : Claim7 := { stood := { row := plateSignsRow, standIns := [], harness := (true, "763b0c96b0754e23fd4c9e5a4dcbd390c04a64d95105f2e4db8b1613615322bd"), looks := true }, kinds := [], alts := [], laidByText := true, laidKinds := [.data, .data, .data], laidTests := true, laidLooks := .later }
def PlateSignsCardSaid : Prop := Claim7.holds Tryz.pinned (.plain (OpenSpec.ofChange plateSignsSpec)) plateSignsCard

/-- THE TIED CARD OF 'wringinglaw03.PlateShops'. -/
def plateShopsCard : Claim7 := { stood := { row := plateShopsRow, standIns := [], harness := (true, "763b0c96b0754e23fd4c9e5a4dcbd390c04a64d95105f2e4db8b1613615322bd"), looks := true }, kinds := [], alts := [], laidByText := true, laidKinds := [.data, .data, .data, .data, .sentinel, .sentinel, .pinned], laidTests := true, laidLooks := .later }
def PlateShopsCardSaid : Prop := Claim7.holds Tryz.pinned (.plain (OpenSpec.ofChange plateShopsSpec)) plateShopsCard

/-- THE TIED CARD OF 'wringinglaw03.PlateTexts'. -/
def plateTextsCard : Claim7 := { stood := { row := plateTextsRow, standIns := [], harness := (true, "763b0c96b0754e23fd4c9e5a4dcbd390c04a64d95105f2e4db8b1613615322bd"), looks := true }, kinds := [], alts := [], laidByText := true, laidKinds := [.data, .data, .data, .data, .sentinel, .sentinel, .pinned], laidTests := true, laidLooks := .later }
def PlateTextsCardSaid : Prop := Claim7.holds Tryz.pinned (.plain (OpenSpec.ofChange plateTextsSpec)) plateTextsCard

/-- THE SECOND FORM's CARD OF 'wringinglaw03.PlateProofs'. -/
def plateProofsUptoCard : Claim7 := { stood := { row := plateProofsUptoRow, standIns := [], harness := (true, "763b0c96b0754e23fd4c9e5a4dcbd390c04a64d95105f2e4db8b1613615322bd"), looks := true }, kinds := [], alts := [], laidByText := true, laidKinds := [.data, .data, .data], laidTests := true, laidLooks := .later }
def PlateProofsUptoCardSaid : Prop := Claim7.holds Tryz.pinned (.plain (OpenSpec.upto plateProofsSpec)) plateProofsUptoCard

/-- THE SECOND FORM's CARD OF 'wringinglaw03.PlateFits'. -/
def plateFitsUptoCard : Claim7 := { stood := { row := plateFitsUptoRow, standIns := [], harness := (true, "763b0c96b0754e23fd4c9e5a4dcbd390c04a64d95105f2e4db8b1613615322bd"), looks := true }, kinds := [], alts := [], laidByText := true, laidKinds := [.data, .data, .data], laidTests := true, laidLooks := .later }
def PlateFitsUptoCardSaid : Prop := Claim7.holds Tryz.pinned (.plain (OpenSpec.upto plateFitsSpec)) plateFitsUptoCard

/-- THE SECOND FORM's CARD OF 'wringinglaw03.PlateSigns'. -/
def plateSignsUptoCard : Claim7 := { stood := { row := plateSignsUptoRow, standIns := [], harness := (true, "763b0c96b0754e23fd4c9e5a4dcbd390c04a64d95105f2e4db8b1613615322bd"), looks := true }, kinds := [], alts := [], laidByText := true, laidKinds := [.data, .data, .data], laidTests := true, laidLooks := .later }
def PlateSignsUptoCardSaid : Prop := Claim7.holds Tryz.pinned (.plain (OpenSpec.upto plateSignsSpec)) plateSignsUptoCard

/-- THE SECOND FORM's CARD OF 'wringinglaw03.PlateShops'. -/
def plateShopsUptoCard : Claim7 := { stood := { row := plateShopsUptoRow, standIns := [], harness := (true, "763b0c96b0754e23fd4c9e5a4dcbd390c04a64d95105f2e4db8b1613615322bd"), looks := true }, kinds := [], alts := [], laidByText := true, laidKinds := [.data, .data, .data, .data, .sentinel, .sentinel, .pinned], laidTests := true, laidLooks := .later }
def PlateShopsUptoCardSaid : Prop := Claim7.holds Tryz.pinned (.plain (OpenSpec.upto plateShopsSpec)) plateShopsUptoCard

/-- THE SECOND FORM's CARD OF 'wringinglaw03.PlateTexts'. -/
def plateTextsUptoCard : Claim7 := { stood := { row := plateTextsUptoRow, standIns := [], harness := (true, "763b0c96b0754e23fd4c9e5a4dcbd390c04a64d95105f2e4db8b1613615322bd"), looks := true }, kinds := [], alts := [], laidByText := true, laidKinds := [.data, .data, .data, .data, .sentinel, .sentinel, .pinned], laidTests := true, laidLooks := .later }
def PlateTextsUptoCardSaid : Prop := Claim7.holds Tryz.pinned (.plain (OpenSpec.upto plateTextsSpec)) plateTextsUptoCard
end Rows
end Go.Proofs.YthejmgnkenokpaaGreatDoor
