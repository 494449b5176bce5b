/-
  DERIVED. GIVEN WITH THE SEED: THE CARDS: each row of YtcmojakklijgfaaGreatDoorRows.lean that lists a variable, with what it lists TIED to the program's text (the seventh form; the later family's looks); each row that meets fmt, with fmt's text TOLD by the authors' own Lean function (tested against real Go, not proved from fmt's source: count such statements apart). THE CARD IS WHAT COUNTS. Prove the row's statement (the work); the ties are given (YtcmojakklijgfaaGreatDoorTie.lean); close each card by the builder's one call (the guide's Derived/Test/ToyasCard.lean, 'card_holds'). Laid BY PROGRAM, IN A SANDBOX (cutbox-door.mjs). By AI agents, Wed Nov 11 2026. No macro, syntax, notation, axiom, sorry.
-/
import Derived.Test.YtcmojakklijgfaaGreatDoorRows
import GoSem.ClaimSeven
namespace Go.Proofs.YtcmojakklijgfaaGreatDoor
namespace Rows

/-- THE TIED CARD OF 'wringinglaw02.ChainTexts'. -/
def chainTextsCard : Claim7 := { stood := { row := chainTextsRow, standIns := [], harness := (true, "af1c5ad1ea4da8002cb48c7fc52be0d5b106fac22ebe277f92b441ab8cbad012"), looks := true }, kinds := [], alts := [], laidByText := true, laidKinds := [.data, .data, .data, .data, .sentinel, .sentinel, .pinned], laidTests := true, laidLooks := .later }
def ChainTextsCardSaid : Prop := Claim7.holds Tryz.pinned (.plain (OpenSpec.ofChange chainTextsSpec)) chainTextsCard

/-- THE TIED CARD OF 'wringinglaw02.ChainBack'. -/
def chainBackCard : Claim7 := { stood := { row := chainBackRow, standIns := [], harness := (true, "af1c5ad1ea4da8002cb48c7fc52be0d5b106fac22ebe277f92b441ab8cbad012"), looks := true }, kinds := [], alts := [], laidByText := true, laidKinds := [.data, .data, .data, .data, .sentinel, .sentinel, .pinned], laidTests := true, laidLooks := .later }
def ChainBackCardSaid : Prop := Claim7.holds Tryz.pinned (.plain (OpenSpec.ofChange chainBackSpec)) chainBackCard

/-- THE SECOND FORM's CARD OF 'wringinglaw02.ChainTexts'. -/
def chainTextsUptoCard : Claim7 := { stood := { row := chainTextsUptoRow, standIns := [], harness := (true, "af1c5ad1ea4da8002cb48c7fc52be0d5b106fac22ebe277f92b441ab8cbad012"), looks := true }, kinds := [], alts := [], laidByText := true, laidKinds := [.data, .data, .data, .data, .sentinel, .sentinel, .pinned], laidTests := true, laidLooks := .later }
def ChainTextsUptoCardSaid : Prop := Claim7.holds Tryz.pinned (.plain (OpenSpec.upto chainTextsSpec)) chainTextsUptoCard

/-- THE SECOND FORM's CARD OF 'wringinglaw02.ChainBack'. -/
def chainBackUptoCard : Claim7 := { stood := { row := chainBackUptoRow, standIns := [], harness := (true, "af1c5ad1ea4da8002cb48c7fc52be0d5b106fac22ebe277f92b441ab8cbad012"), looks := true }, kinds := [], alts := [], laidByText := true, laidKinds := [.data, .data, .data, .data, .sentinel, .sentinel, .pinned], laidTests := true, laidLooks := .later }
def ChainBackUptoCardSaid : Prop := Claim7.holds Tryz.pinned (.plain (OpenSpec.upto chainBackSpec)) chainBackUptoCard
end Rows
end Go.Proofs.YtcmojakklijgfaaGreatDoor
