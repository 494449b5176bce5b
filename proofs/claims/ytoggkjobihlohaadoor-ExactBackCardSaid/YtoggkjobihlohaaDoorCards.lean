/-
  DERIVED. GIVEN WITH THE SEED: THE CARDS: each row of YtoggkjobihlohaaDoorRows.lean that lists a variable, with what it lists TIED to the program's text (the seventh form; the later family's looks); each row that meets fmt, with fmt's text TOLD by the authors' own Lean function (tested against real Go, not proved from fmt's source: count such statements apart). THE CARD IS WHAT COUNTS. Prove the row's statement (the work); the ties are given (YtoggkjobihlohaaDoorTie.lean); close each card by the builder's one call (the guide's Derived/Test/ToyasCard.lean, 'card_holds'). Laid BY PROGRAM, IN A SANDBOX (cutbox-door.mjs). By AI agents, Wed Nov 11 2026. No macro, syntax, notation, axiom, sorry.
-/
import Derived.Test.YtoggkjobihlohaaDoorRows
import GoSem.ClaimSeven
namespace Go.Proofs.YtoggkjobihlohaaDoor
namespace Rows

/-- THE TIED CARD OF 'wringinglaw01.ExactMakes'. -/
def exactMakesCard : Claim7 := { stood := { row := exactMakesRow, standIns := [], harness := (true, "26f6ca6f9f9aa1c30985a4cfafb88af9695fdefee926aa551743b94a27ce2679"), looks := true }, kinds := [], alts := [], laidByText := true, laidKinds := [.data, .data, .data], laidTests := true, laidLooks := .later }
def ExactMakesCardSaid : Prop := Claim7.holds Tryd.pinned (.plain (OpenSpec.ofChange exactMakesSpec)) exactMakesCard

/-- THE TIED CARD OF 'wringinglaw01.ExactSimplest'. -/
def exactSimplestCard : Claim7 := { stood := { row := exactSimplestRow, standIns := [], harness := (true, "26f6ca6f9f9aa1c30985a4cfafb88af9695fdefee926aa551743b94a27ce2679"), looks := true }, kinds := [], alts := [], laidByText := true, laidKinds := [.data, .data, .data], laidTests := true, laidLooks := .later }
def ExactSimplestCardSaid : Prop := Claim7.holds Tryd.pinned (.plain (OpenSpec.ofChange exactSimplestSpec)) exactSimplestCard

/-- THE TIED CARD OF 'wringinglaw01.ExactBest'. -/
def exactBestCard : Claim7 := { stood := { row := exactBestRow, standIns := [], harness := (true, "26f6ca6f9f9aa1c30985a4cfafb88af9695fdefee926aa551743b94a27ce2679"), looks := true }, kinds := [], alts := [], laidByText := true, laidKinds := [.data, .data, .data], laidTests := true, laidLooks := .later }
def ExactBestCardSaid : Prop := Claim7.holds Tryd.pinned (.plain (OpenSpec.ofChange exactBestSpec)) exactBestCard

/-- THE TIED CARD OF 'wringinglaw01.ExactLeast'. -/
def exactLeastCard : Claim7 := { stood := { row := exactLeastRow, standIns := [], harness := (true, "26f6ca6f9f9aa1c30985a4cfafb88af9695fdefee926aa551743b94a27ce2679"), looks := true }, kinds := [], alts := [], laidByText := true, laidKinds := [.data, .data, .data], laidTests := true, laidLooks := .later }
def ExactLeastCardSaid : Prop := Claim7.holds Tryd.pinned (.plain (OpenSpec.ofChange exactLeastSpec)) exactLeastCard

/-- THE TIED CARD OF 'wringinglaw01.ExactParts'. -/
def exactPartsCard : Claim7 := { stood := { row := exactPartsRow, standIns := [], harness := (true, "26f6ca6f9f9aa1c30985a4cfafb88af9695fdefee926aa551743b94a27ce2679"), looks := true }, kinds := [], alts := [], laidByText := true, laidKinds := [.data, .data, .data], laidTests := true, laidLooks := .later }
def ExactPartsCardSaid : Prop := Claim7.holds Tryd.pinned (.plain (OpenSpec.ofChange exactPartsSpec)) exactPartsCard

/-- THE TIED CARD OF 'wringinglaw01.ExactClosest'. -/
def exactClosestCard : Claim7 := { stood := { row := exactClosestRow, standIns := [], harness := (true, "26f6ca6f9f9aa1c30985a4cfafb88af9695fdefee926aa551743b94a27ce2679"), looks := true }, kinds := [], alts := [], laidByText := true, laidKinds := [.data, .data, .data], laidTests := true, laidLooks := .later }
def ExactClosestCardSaid : Prop := Claim7.holds Tryd.pinned (.plain (OpenSpec.ofChange exactClosestSpec)) exactClosestCard

/-- THE TIED CARD OF 'wringinglaw01.ExactOrder'. -/
def exactOrderCard : Claim7 := { stood := { row := exactOrderRow, standIns := [], harness := (true, "26f6ca6f9f9aa1c30985a4cfafb88af9695fdefee926aa551743b94a27ce2679"), looks := true }, kinds := [], alts := [], laidByText := true, laidKinds := [.data, .data, .data], laidTests := true, laidLooks := .later }
def ExactOrderCardSaid : Prop := Claim7.holds Tryd.pinned (.plain (OpenSpec.ofChange exactOrderSpec)) exactOrderCard

/-- THE TIED CARD OF 'wringinglaw01.ExactField'. -/
def exactFieldCard : Claim7 := { stood := { row := exactFieldRow, standIns := [], harness := (true, "26f6ca6f9f9aa1c30985a4cfafb88af9695fdefee926aa551743b94a27ce2679"), looks := true }, kinds := [], alts := [], laidByText := true, laidKinds := [.data, .data, .data], laidTests := true, laidLooks := .later }
def ExactFieldCardSaid : Prop := Claim7.holds Tryd.pinned (.plain (OpenSpec.ofChange exactFieldSpec)) exactFieldCard

/-- THE TIED CARD OF 'wringinglaw01.ExactFractions'. -/
def exactFractionsCard : Claim7 := { stood := { row := exactFractionsRow, standIns := [], harness := (true, "26f6ca6f9f9aa1c30985a4cfafb88af9695fdefee926aa551743b94a27ce2679"), looks := true }, kinds := [], alts := [], laidByText := true, laidKinds := [.data, .data, .data], laidTests := true, laidLooks := .later }
def ExactFractionsCardSaid : Prop := Claim7.holds Tryd.pinned (.plain (OpenSpec.ofChange exactFractionsSpec)) exactFractionsCard

/-- THE TIED CARD OF 'wringinglaw01.ExactSums'. -/
def exactSumsCard : Claim7 := { stood := { row := exactSumsRow, standIns := [], harness := (true, "26f6ca6f9f9aa1c30985a4cfafb88af9695fdefee926aa551743b94a27ce2679"), looks := true }, kinds := [], alts := [], laidByText := true, laidKinds := [.data, .data, .data], laidTests := true, laidLooks := .later }
def ExactSumsCardSaid : Prop := Claim7.holds Tryd.pinned (.plain (OpenSpec.ofChange exactSumsSpec)) exactSumsCard

/-- THE TIED CARD OF 'wringinglaw01.ExactRanges'. -/
def exactRangesCard : Claim7 := { stood := { row := exactRangesRow, standIns := [], harness := (true, "26f6ca6f9f9aa1c30985a4cfafb88af9695fdefee926aa551743b94a27ce2679"), looks := true }, kinds := [], alts := [], laidByText := true, laidKinds := [.data, .data, .data], laidTests := true, laidLooks := .later }
def ExactRangesCardSaid : Prop := Claim7.holds Tryd.pinned (.plain (OpenSpec.ofChange exactRangesSpec)) exactRangesCard

/-- THE TIED CARD OF 'wringinglaw01.ExactBetween'. -/
def exactBetweenCard : Claim7 := { stood := { row := exactBetweenRow, standIns := [], harness := (true, "26f6ca6f9f9aa1c30985a4cfafb88af9695fdefee926aa551743b94a27ce2679"), looks := true }, kinds := [], alts := [], laidByText := true, laidKinds := [.data, .data, .data], laidTests := true, laidLooks := .later }
def ExactBetweenCardSaid : Prop := Claim7.holds Tryd.pinned (.plain (OpenSpec.ofChange exactBetweenSpec)) exactBetweenCard

/-- THE TIED CARD OF 'wringinglaw01.ExactTexts'. -/
def exactTextsCard : Claim7 := { stood := { row := exactTextsRow, standIns := [], harness := (true, "26f6ca6f9f9aa1c30985a4cfafb88af9695fdefee926aa551743b94a27ce2679"), looks := true }, kinds := [], alts := [], laidByText := true, laidKinds := [.data, .data, .data, .sentinel, .sentinel], laidTests := true, laidLooks := .later }
def ExactTextsCardSaid : Prop := Claim7.holds Tryd.pinned (.plain (OpenSpec.ofChange exactTextsSpec)) exactTextsCard

/-- THE TIED CARD OF 'wringinglaw01.ExactBack'. -/
def exactBackCard : Claim7 := { stood := { row := exactBackRow, standIns := [], harness := (true, "26f6ca6f9f9aa1c30985a4cfafb88af9695fdefee926aa551743b94a27ce2679"), looks := true }, kinds := [], alts := [], laidByText := true, laidKinds := [.data, .data, .data, .sentinel, .sentinel], laidTests := true, laidLooks := .later }
def ExactBackCardSaid : Prop := Claim7.holds Tryd.pinned (.plain (OpenSpec.ofChange exactBackSpec)) exactBackCard

/-- THE SECOND FORM's CARD OF 'wringinglaw01.ExactMakes'. -/
def exactMakesUptoCard : Claim7 := { stood := { row := exactMakesUptoRow, standIns := [], harness := (true, "26f6ca6f9f9aa1c30985a4cfafb88af9695fdefee926aa551743b94a27ce2679"), looks := true }, kinds := [], alts := [], laidByText := true, laidKinds := [.data, .data, .data], laidTests := true, laidLooks := .later }
def ExactMakesUptoCardSaid : Prop := Claim7.holds Tryd.pinned (.plain (OpenSpec.upto exactMakesSpec)) exactMakesUptoCard

/-- THE SECOND FORM's CARD OF 'wringinglaw01.ExactSimplest'. -/
def exactSimplestUptoCard : Claim7 := { stood := { row := exactSimplestUptoRow, standIns := [], harness := (true, "26f6ca6f9f9aa1c30985a4cfafb88af9695fdefee926aa551743b94a27ce2679"), looks := true }, kinds := [], alts := [], laidByText := true, laidKinds := [.data, .data, .data], laidTests := true, laidLooks := .later }
def ExactSimplestUptoCardSaid : Prop := Claim7.holds Tryd.pinned (.plain (OpenSpec.upto exactSimplestSpec)) exactSimplestUptoCard

/-- THE SECOND FORM's CARD OF 'wringinglaw01.ExactBest'. -/
def exactBestUptoCard : Claim7 := { stood := { row := exactBestUptoRow, standIns := [], harness := (true, "26f6ca6f9f9aa1c30985a4cfafb88af9695fdefee926aa551743b94a27ce2679"), looks := true }, kinds := [], alts := [], laidByText := true, laidKinds := [.data, .data, .data], laidTests := true, laidLooks := .later }
def ExactBestUptoCardSaid : Prop := Claim7.holds Tryd.pinned (.plain (OpenSpec.upto exactBestSpec)) exactBestUptoCard

/-- THE SECOND FORM's CARD OF 'wringinglaw01.ExactLeast'. -/
def exactLeastUptoCard : Claim7 := { stood := { row := exactLeastUptoRow, standIns := [], harness := (true, "26f6ca6f9f9aa1c30985a4cfafb88af9695fdefee926aa551743b94a27ce2679"), looks := true }, kinds := [], alts := [], laidByText := true, laidKinds := [.data, .data, .data], laidTests := true, laidLooks := .later }
def ExactLeastUptoCardSaid : Prop := Claim7.holds Tryd.pinned (.plain (OpenSpec.upto exactLeastSpec)) exactLeastUptoCard

/-- THE SECOND FORM's CARD OF 'wringinglaw01.ExactParts'. -/
def exactPartsUptoCard : Claim7 := { stood := { row := exactPartsUptoRow, standIns := [], harness := (true, "26f6ca6f9f9aa1c30985a4cfafb88af9695fdefee926aa551743b94a27ce2679"), looks := true }, kinds := [], alts := [], laidByText := true, laidKinds := [.data, .data, .data], laidTests := true, laidLooks := .later }
def ExactPartsUptoCardSaid : Prop := Claim7.holds Tryd.pinned (.plain (OpenSpec.upto exactPartsSpec)) exactPartsUptoCard

/-- THE SECOND FORM's CARD OF 'wringinglaw01.ExactClosest'. -/
def exactClosestUptoCard : Claim7 := { stood := { row := exactClosestUptoRow, standIns := [], harness := (true, "26f6ca6f9f9aa1c30985a4cfafb88af9695fdefee926aa551743b94a27ce2679"), looks := true }, kinds := [], alts := [], laidByText := true, laidKinds := [.data, .data, .data], laidTests := true, laidLooks := .later }
def ExactClosestUptoCardSaid : Prop := Claim7.holds Tryd.pinned (.plain (OpenSpec.upto exactClosestSpec)) exactClosestUptoCard

/-- THE SECOND FORM's CARD OF 'wringinglaw01.ExactOrder'. -/
def exactOrderUptoCard : Claim7 := { stood := { row := exactOrderUptoRow, standIns := [], harness := (true, "26f6ca6f9f9aa1c30985a4cfafb88af9695fdefee926aa551743b94a27ce2679"), looks := true }, kinds := [], alts := [], laidByText := true, laidKinds := [.data, .data, .data], laidTests := true, laidLooks := .later }
def ExactOrderUptoCardSaid : Prop := Claim7.holds Tryd.pinned (.plain (OpenSpec.upto exactOrderSpec)) exactOrderUptoCard

/-- THE SECOND FORM's CARD OF 'wringinglaw01.ExactField'. -/
def exactFieldUptoCard : Claim7 := { stood := { row := exactFieldUptoRow, standIns := [], harness := (true, "26f6ca6f9f9aa1c30985a4cfafb88af9695fdefee926aa551743b94a27ce2679"), looks := true }, kinds := [], alts := [], laidByText := true, laidKinds := [.data, .data, .data], laidTests := true, laidLooks := .later }
def ExactFieldUptoCardSaid : Prop := Claim7.holds Tryd.pinned (.plain (OpenSpec.upto exactFieldSpec)) exactFieldUptoCard

/-- THE SECOND FORM's CARD OF 'wringinglaw01.ExactFractions'. -/
def exactFractionsUptoCard : Claim7 := { stood := { row := exactFractionsUptoRow, standIns := [], harness := (true, "26f6ca6f9f9aa1c30985a4cfafb88af9695fdefee926aa551743b94a27ce2679"), looks := true }, kinds := [], alts := [], laidByText := true, laidKinds := [.data, .data, .data], laidTests := true, laidLooks := .later }
def ExactFractionsUptoCardSaid : Prop := Claim7.holds Tryd.pinned (.plain (OpenSpec.upto exactFractionsSpec)) exactFractionsUptoCard

/-- THE SECOND FORM's CARD OF 'wringinglaw01.ExactSums'. -/
def exactSumsUptoCard : Claim7 := { stood := { row := exactSumsUptoRow, standIns := [], harness := (true, "26f6ca6f9f9aa1c30985a4cfafb88af9695fdefee926aa551743b94a27ce2679"), looks := true }, kinds := [], alts := [], laidByText := true, laidKinds := [.data, .data, .data], laidTests := true, laidLooks := .later }
def ExactSumsUptoCardSaid : Prop := Claim7.holds Tryd.pinned (.plain (OpenSpec.upto exactSumsSpec)) exactSumsUptoCard

/-- THE SECOND FORM's CARD OF 'wringinglaw01.ExactRanges'. -/
def exactRangesUptoCard : Claim7 := { stood := { row := exactRangesUptoRow, standIns := [], harness := (true, "26f6ca6f9f9aa1c30985a4cfafb88af9695fdefee926aa551743b94a27ce2679"), looks := true }, kinds := [], alts := [], laidByText := true, laidKinds := [.data, .data, .data], laidTests := true, laidLooks := .later }
def ExactRangesUptoCardSaid : Prop := Claim7.holds Tryd.pinned (.plain (OpenSpec.upto exactRangesSpec)) exactRangesUptoCard

/-- THE SECOND FORM's CARD OF 'wringinglaw01.ExactBetween'. -/
def exactBetweenUptoCard : Claim7 := { stood := { row := exactBetweenUptoRow, standIns := [], harness := (true, "26f6ca6f9f9aa1c30985a4cfafb88af9695fdefee926aa551743b94a27ce2679"), looks := true }, kinds := [], alts := [], laidByText := true, laidKinds := [.data, .data, .data], laidTests := true, laidLooks := .later }
def ExactBetweenUptoCardSaid : Prop := Claim7.holds Tryd.pinned (.plain (OpenSpec.upto exactBetweenSpec)) exactBetweenUptoCard

/-- THE SECOND FORM's CARD OF 'wringinglaw01.ExactTexts'. -/
def exactTextsUptoCard : Claim7 := { stood := { row := exactTextsUptoRow, standIns := [], harness := (true, "26f6ca6f9f9aa1c30985a4cfafb88af9695fdefee926aa551743b94a27ce2679"), looks := true }, kinds := [], alts := [], laidByText := true, laidKinds := [.data, .data, .data, .sentinel, .sentinel], laidTests := true, laidLooks := .later }
def ExactTextsUptoCardSaid : Prop := Claim7.holds Tryd.pinned (.plain (OpenSpec.upto exactTextsSpec)) exactTextsUptoCard

/-- THE SECOND FORM's CARD OF 'wringinglaw01.ExactBack'. -/
def exactBackUptoCard : Claim7 := { stood := { row := exactBackUptoRow, standIns := [], harness := (true, "26f6ca6f9f9aa1c30985a4cfafb88af9695fdefee926aa551743b94a27ce2679"), looks := true }, kinds := [], alts := [], laidByText := true, laidKinds := [.data, .data, .data, .sentinel, .sentinel], laidTests := true, laidLooks := .later }
def ExactBackUptoCardSaid : Prop := Claim7.holds Tryd.pinned (.plain (OpenSpec.upto exactBackSpec)) exactBackUptoCard
end Rows
end Go.Proofs.YtoggkjobihlohaaDoor
