/-
  DERIVED. GIVEN WITH THE SEED: THE CARDS: each row of YtgdaljpimblkgaaGreatDoorRows.lean that lists a variable, with what it lists TIED to the program's text (the seventh form; the later family's looks); each row that meets fmt, with fmt's text TOLD by the authors' own Lean function (tested against real Go, not proved from fmt's source: count such statements apart). THE CARD IS WHAT COUNTS. Prove the row's statement (the work); the ties are given (YtgdaljpimblkgaaGreatDoorTie.lean); close each card by the builder's one call (the guide's Derived/Test/ToyasCard.lean, 'card_holds'). Laid BY PROGRAM, IN A SANDBOX (cutbox-door.mjs). By AI agents, Wed Nov 11 2026. No macro, syntax, notation, axiom, sorry.
-/
import Derived.Test.YtgdaljpimblkgaaGreatDoorRows
import GoSem.ClaimSeven
namespace Go.Proofs.YtgdaljpimblkgaaGreatDoor
namespace Rows

/-- THE TIED CARD OF 'nightwatchlaw1.ConfTexts'. -/
def confTextsCard : Claim7 := { stood := { row := confTextsRow, standIns := [], harness := (true, "52b63ef1d3ffdcced839ed62888a72060f52a52a251cc0c522990a10f4c16cad"), looks := true }, kinds := [], alts := [], laidByText := true, laidKinds := [.data, .data, .data, .data, .handle, .sentinel, .sentinel, .sentinel, .sentinel, .sentinel, .sentinel, .sentinel, .sentinel, .sentinel, .sentinel, .sentinel, .sentinel, .sentinel, .pinned], laidTests := true, laidLooks := .later }
def ConfTextsCardSaid : Prop := Claim7.holds Tryz.pinned (.plain (OpenSpec.ofChange confTextsSpec)) confTextsCard

/-- THE TIED CARD OF 'nightwatchlaw1.ConfReads'. -/
def confReadsCard : Claim7 := { stood := { row := confReadsRow, standIns := [], harness := (true, "52b63ef1d3ffdcced839ed62888a72060f52a52a251cc0c522990a10f4c16cad"), looks := true }, kinds := [], alts := [], laidByText := true, laidKinds := [.data, .data, .data, .data, .handle, .sentinel, .sentinel, .sentinel, .sentinel, .sentinel, .sentinel, .sentinel, .sentinel, .sentinel, .sentinel, .sentinel, .sentinel, .sentinel, .pinned], laidTests := true, laidLooks := .later }
def ConfReadsCardSaid : Prop := Claim7.holds Tryz.pinned (.plain (OpenSpec.ofChange confReadsSpec)) confReadsCard

/-- THE SECOND FORM's CARD OF 'nightwatchlaw1.ConfTexts'. -/
def confTextsUptoCard : Claim7 := { stood := { row := confTextsUptoRow, standIns := [], harness := (true, "52b63ef1d3ffdcced839ed62888a72060f52a52a251cc0c522990a10f4c16cad"), looks := true }, kinds := [], alts := [], laidByText := true, laidKinds := [.data, .data, .data, .data, .handle, .sentinel, .sentinel, .sentinel, .sentinel, .sentinel, .sentinel, .sentinel, .sentinel, .sentinel, .sentinel, .sentinel, .sentinel, .sentinel, .pinned], laidTests := true, laidLooks := .later }
def ConfTextsUptoCardSaid : Prop := Claim7.holds Tryz.pinned (.plain (OpenSpec.upto confTextsSpec)) confTextsUptoCard

/-- THE SECOND FORM's CARD OF 'nightwatchlaw1.ConfReads'. -/
def confReadsUptoCard : Claim7 := { stood := { row := confReadsUptoRow, standIns := [], harness := (true, "52b63ef1d3ffdcced839ed62888a72060f52a52a251cc0c522990a10f4c16cad"), looks := true }, kinds := [], alts := [], laidByText := true, laidKinds := [.data, .data, .data, .data, .handle, .sentinel, .sentinel, .sentinel, .sentinel, .sentinel, .sentinel, .sentinel, .sentinel, .sentinel, .sentinel, .sentinel, .sentinel, .sentinel, .pinned], laidTests := true, laidLooks := .later }
def ConfReadsUptoCardSaid : Prop := Claim7.holds Tryz.pinned (.plain (OpenSpec.upto confReadsSpec)) confReadsUptoCard
end Rows
end Go.Proofs.YtgdaljpimblkgaaGreatDoor
