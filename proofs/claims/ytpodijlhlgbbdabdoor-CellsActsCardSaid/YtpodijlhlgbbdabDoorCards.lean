/-
  DERIVED. GIVEN WITH THE SEED: THE CARDS: each row of YtpodijlhlgbbdabDoorRows.lean that lists a variable, with what it lists TIED to the program's text (the seventh form; the later family's looks); each row that meets fmt, with fmt's text TOLD by the authors' own Lean function (tested against real Go, not proved from fmt's source: count such statements apart). THE CARD IS WHAT COUNTS. Prove the row's statement (the work); the ties are given (YtpodijlhlgbbdabDoorTie.lean); close each card by the builder's one call (the guide's Derived/Test/ToyasCard.lean, 'card_holds'). Laid BY PROGRAM, IN A SANDBOX (cutbox-door.mjs). By AI agents, Wed Nov 11 2026. No macro, syntax, notation, axiom, sorry.
-/
import Derived.Test.YtpodijlhlgbbdabDoorRows
import GoSem.ClaimSeven
namespace Go.Proofs.YtpodijlhlgbbdabDoor
namespace Rows

/-- THE TIED CARD OF 'nightwatchlaw1.DogWindows'. -/
def dogWindowsCard : Claim7 := { stood := { row := dogWindowsRow, standIns := [], harness := (true, "8be0b1943946230ee49835634656741fc40a1de4ecf59ba7d0d9b90aec0a324a"), looks := true }, kinds := [], alts := [], laidByText := true, laidKinds := [.handle, .sentinel, .sentinel, .sentinel, .sentinel, .sentinel, .sentinel, .sentinel, .sentinel, .sentinel, .sentinel, .sentinel], laidTests := true, laidLooks := .later }
def DogWindowsCardSaid : Prop := Claim7.holds Tryd.pinned (.plain (OpenSpec.ofChange dogWindowsSpec)) dogWindowsCard

/-- THE TIED CARD OF 'nightwatchlaw1.DogEarly'. -/
def dogEarlyCard : Claim7 := { stood := { row := dogEarlyRow, standIns := [], harness := (true, "8be0b1943946230ee49835634656741fc40a1de4ecf59ba7d0d9b90aec0a324a"), looks := true }, kinds := [], alts := [], laidByText := true, laidKinds := [.handle, .sentinel, .sentinel, .sentinel, .sentinel, .sentinel, .sentinel, .sentinel, .sentinel, .sentinel, .sentinel, .sentinel], laidTests := true, laidLooks := .later }
def DogEarlyCardSaid : Prop := Claim7.holds Tryd.pinned (.plain (OpenSpec.ofChange dogEarlySpec)) dogEarlyCard

/-- THE TIED CARD OF 'nightwatchlaw1.DogActs'. -/
def dogActsCard : Claim7 := { stood := { row := dogActsRow, standIns := [], harness := (true, "8be0b1943946230ee49835634656741fc40a1de4ecf59ba7d0d9b90aec0a324a"), looks := true }, kinds := [], alts := [], laidByText := true, laidKinds := [.handle, .sentinel, .sentinel, .sentinel, .sentinel, .sentinel, .sentinel, .sentinel, .sentinel, .sentinel, .sentinel, .sentinel], laidTests := true, laidLooks := .later }
def DogActsCardSaid : Prop := Claim7.holds Tryd.pinned (.plain (OpenSpec.ofChange dogActsSpec)) dogActsCard

/-- THE TIED CARD OF 'nightwatchlaw2.TotalEnds'. -/
def totalEndsCard : Claim7 := { stood := { row := totalEndsRow, standIns := [], harness := (true, "8be0b1943946230ee49835634656741fc40a1de4ecf59ba7d0d9b90aec0a324a"), looks := true }, kinds := [], alts := [], laidByText := true, laidKinds := [.handle, .sentinel, .sentinel, .sentinel, .sentinel, .sentinel, .sentinel, .sentinel, .sentinel, .sentinel, .sentinel, .sentinel], laidTests := true, laidLooks := .later }
def TotalEndsCardSaid : Prop := Claim7.holds Tryd.pinned (.plain (OpenSpec.ofChange totalEndsSpec)) totalEndsCard

/-- THE TIED CARD OF 'nightwatchlaw1.CellsCut'. -/
def cellsCutCard : Claim7 := { stood := { row := cellsCutRow, standIns := [], harness := (true, "8be0b1943946230ee49835634656741fc40a1de4ecf59ba7d0d9b90aec0a324a"), looks := true }, kinds := [], alts := [], laidByText := true, laidKinds := [.handle, .sentinel, .sentinel, .sentinel, .sentinel, .sentinel, .sentinel, .sentinel, .sentinel, .sentinel, .sentinel, .sentinel], laidTests := true, laidLooks := .later }
def CellsCutCardSaid : Prop := Claim7.holds Tryd.pinned (.plain (OpenSpec.ofChange cellsCutSpec)) cellsCutCard

/-- THE TIED CARD OF 'nightwatchlaw1.CellsActs'. -/
def cellsActsCard : Claim7 := { stood := { row := cellsActsRow, standIns := [], harness := (true, "8be0b1943946230ee49835634656741fc40a1de4ecf59ba7d0d9b90aec0a324a"), looks := true }, kinds := [], alts := [], laidByText := true, laidKinds := [.handle, .sentinel, .sentinel, .sentinel, .sentinel, .sentinel, .sentinel, .sentinel, .sentinel, .sentinel, .sentinel, .sentinel], laidTests := true, laidLooks := .later }
def CellsActsCardSaid : Prop := Claim7.holds Tryd.pinned (.plain (OpenSpec.ofChange cellsActsSpec)) cellsActsCard

/-- THE TIED CARD OF 'nightwatchlaw2.FlowWords'. -/
def flowWordsCard : Claim7 := { stood := { row := flowWordsRow, standIns := [], harness := (true, "8be0b1943946230ee49835634656741fc40a1de4ecf59ba7d0d9b90aec0a324a"), looks := true }, kinds := [], alts := [], laidByText := true, laidKinds := [.handle, .sentinel, .sentinel, .sentinel, .sentinel, .sentinel, .sentinel, .sentinel, .sentinel, .sentinel, .sentinel, .sentinel], laidTests := true, laidLooks := .later }
def FlowWordsCardSaid : Prop := Claim7.holds Tryd.pinned (.plain (OpenSpec.ofChange flowWordsSpec)) flowWordsCard

/-- THE TIED CARD OF 'nightwatchlaw2.LocalActs'. -/
def localActsCard : Claim7 := { stood := { row := localActsRow, standIns := [], harness := (true, "8be0b1943946230ee49835634656741fc40a1de4ecf59ba7d0d9b90aec0a324a"), looks := true }, kinds := [], alts := [], laidByText := true, laidKinds := [.handle, .sentinel, .sentinel, .sentinel, .sentinel, .sentinel, .sentinel, .sentinel, .sentinel, .sentinel, .sentinel, .sentinel], laidTests := true, laidLooks := .later }
def LocalActsCardSaid : Prop := Claim7.holds Tryd.pinned (.plain (OpenSpec.ofChange localActsSpec)) localActsCard

/-- THE TIED CARD OF 'nightwatchlaw1.RingTurned'. -/
def ringTurnedCard : Claim7 := { stood := { row := ringTurnedRow, standIns := [], harness := (true, "8be0b1943946230ee49835634656741fc40a1de4ecf59ba7d0d9b90aec0a324a"), looks := true }, kinds := [], alts := [], laidByText := true, laidKinds := [.sentinel, .sentinel, .sentinel, .sentinel], laidTests := true, laidLooks := .later }
def RingTurnedCardSaid : Prop := Claim7.holds Tryd.pinned (.plain (OpenSpec.ofChange ringTurnedSpec)) ringTurnedCard

/-- THE TIED CARD OF 'nightwatchlaw1.ConfMore'. -/
def confMoreCard : Claim7 := { stood := { row := confMoreRow, standIns := [], harness := (true, "8be0b1943946230ee49835634656741fc40a1de4ecf59ba7d0d9b90aec0a324a"), looks := true }, kinds := [], alts := [], laidByText := true, laidKinds := [.data, .data, .data, .handle, .sentinel, .sentinel, .sentinel, .sentinel, .sentinel, .sentinel, .sentinel, .sentinel, .sentinel, .sentinel, .sentinel], laidTests := true, laidLooks := .later }
def ConfMoreCardSaid : Prop := Claim7.holds Tryd.pinned (.plain (OpenSpec.ofChange confMoreSpec)) confMoreCard

/-- THE TIED CARD OF 'nightwatchlaw1.RingOpens'. -/
def ringOpensCard : Claim7 := { stood := { row := ringOpensRow, standIns := [], harness := (true, "8be0b1943946230ee49835634656741fc40a1de4ecf59ba7d0d9b90aec0a324a"), looks := true }, kinds := [], alts := [], laidByText := true, laidKinds := [.handle, .sentinel, .sentinel, .sentinel, .sentinel, .sentinel, .sentinel, .sentinel, .sentinel, .sentinel, .sentinel, .sentinel], laidTests := true, laidLooks := .later }
def RingOpensCardSaid : Prop := Claim7.holds Tryd.pinned (.plain (OpenSpec.ofChange ringOpensSpec)) ringOpensCard

/-- THE SECOND FORM's CARD OF 'nightwatchlaw1.DogWindows'. -/
def dogWindowsUptoCard : Claim7 := { stood := { row := dogWindowsUptoRow, standIns := [], harness := (true, "8be0b1943946230ee49835634656741fc40a1de4ecf59ba7d0d9b90aec0a324a"), looks := true }, kinds := [], alts := [], laidByText := true, laidKinds := [.handle, .sentinel, .sentinel, .sentinel, .sentinel, .sentinel, .sentinel, .sentinel, .sentinel, .sentinel, .sentinel, .sentinel], laidTests := true, laidLooks := .later }
def DogWindowsUptoCardSaid : Prop := Claim7.holds Tryd.pinned (.plain (OpenSpec.upto dogWindowsSpec)) dogWindowsUptoCard

/-- THE SECOND FORM's CARD OF 'nightwatchlaw1.DogEarly'. -/
def dogEarlyUptoCard : Claim7 := { stood := { row := dogEarlyUptoRow, standIns := [], harness := (true, "8be0b1943946230ee49835634656741fc40a1de4ecf59ba7d0d9b90aec0a324a"), looks := true }, kinds := [], alts := [], laidByText := true, laidKinds := [.handle, .sentinel, .sentinel, .sentinel, .sentinel, .sentinel, .sentinel, .sentinel, .sentinel, .sentinel, .sentinel, .sentinel], laidTests := true, laidLooks := .later }
def DogEarlyUptoCardSaid : Prop := Claim7.holds Tryd.pinned (.plain (OpenSpec.upto dogEarlySpec)) dogEarlyUptoCard

/-- THE SECOND FORM's CARD OF 'nightwatchlaw1.DogActs'. -/
def dogActsUptoCard : Claim7 := { stood := { row := dogActsUptoRow, standIns := [], harness := (true, "8be0b1943946230ee49835634656741fc40a1de4ecf59ba7d0d9b90aec0a324a"), looks := true }, kinds := [], alts := [], laidByText := true, laidKinds := [.handle, .sentinel, .sentinel, .sentinel, .sentinel, .sentinel, .sentinel, .sentinel, .sentinel, .sentinel, .sentinel, .sentinel], laidTests := true, laidLooks := .later }
def DogActsUptoCardSaid : Prop := Claim7.holds Tryd.pinned (.plain (OpenSpec.upto dogActsSpec)) dogActsUptoCard

/-- THE SECOND FORM's CARD OF 'nightwatchlaw2.TotalEnds'. -/
def totalEndsUptoCard : Claim7 := { stood := { row := totalEndsUptoRow, standIns := [], harness := (true, "8be0b1943946230ee49835634656741fc40a1de4ecf59ba7d0d9b90aec0a324a"), looks := true }, kinds := [], alts := [], laidByText := true, laidKinds := [.handle, .sentinel, .sentinel, .sentinel, .sentinel, .sentinel, .sentinel, .sentinel, .sentinel, .sentinel, .sentinel, .sentinel], laidTests := true, laidLooks := .later }
def TotalEndsUptoCardSaid : Prop := Claim7.holds Tryd.pinned (.plain (OpenSpec.upto totalEndsSpec)) totalEndsUptoCard

/-- THE SECOND FORM's CARD OF 'nightwatchlaw1.CellsCut'. -/
def cellsCutUptoCard : Claim7 := { stood := { row := cellsCutUptoRow, standIns := [], harness := (true, "8be0b1943946230ee49835634656741fc40a1de4ecf59ba7d0d9b90aec0a324a"), looks := true }, kinds := [], alts := [], laidByText := true, laidKinds := [.handle, .sentinel, .sentinel, .sentinel, .sentinel, .sentinel, .sentinel, .sentinel, .sentinel, .sentinel, .sentinel, .sentinel], laidTests := true, laidLooks := .later }
def CellsCutUptoCardSaid : Prop := Claim7.holds Tryd.pinned (.plain (OpenSpec.upto cellsCutSpec)) cellsCutUptoCard

/-- THE SECOND FORM's CARD OF 'nightwatchlaw1.CellsActs'. -/
def cellsActsUptoCard : Claim7 := { stood := { row := cellsActsUptoRow, standIns := [], harness := (true, "8be0b1943946230ee49835634656741fc40a1de4ecf59ba7d0d9b90aec0a324a"), looks := true }, kinds := [], alts := [], laidByText := true, laidKinds := [.handle, .sentinel, .sentinel, .sentinel, .sentinel, .sentinel, .sentinel, .sentinel, .sentinel, .sentinel, .sentinel, .sentinel], laidTests := true, laidLooks := .later }
def CellsActsUptoCardSaid : Prop := Claim7.holds Tryd.pinned (.plain (OpenSpec.upto cellsActsSpec)) cellsActsUptoCard

/-- THE SECOND FORM's CARD OF 'nightwatchlaw2.FlowWords'. -/
def flowWordsUptoCard : Claim7 := { stood := { row := flowWordsUptoRow, standIns := [], harness := (true, "8be0b1943946230ee49835634656741fc40a1de4ecf59ba7d0d9b90aec0a324a"), looks := true }, kinds := [], alts := [], laidByText := true, laidKinds := [.handle, .sentinel, .sentinel, .sentinel, .sentinel, .sentinel, .sentinel, .sentinel, .sentinel, .sentinel, .sentinel, .sentinel], laidTests := true, laidLooks := .later }
def FlowWordsUptoCardSaid : Prop := Claim7.holds Tryd.pinned (.plain (OpenSpec.upto flowWordsSpec)) flowWordsUptoCard

/-- THE SECOND FORM's CARD OF 'nightwatchlaw2.LocalActs'. -/
def localActsUptoCard : Claim7 := { stood := { row := localActsUptoRow, standIns := [], harness := (true, "8be0b1943946230ee49835634656741fc40a1de4ecf59ba7d0d9b90aec0a324a"), looks := true }, kinds := [], alts := [], laidByText := true, laidKinds := [.handle, .sentinel, .sentinel, .sentinel, .sentinel, .sentinel, .sentinel, .sentinel, .sentinel, .sentinel, .sentinel, .sentinel], laidTests := true, laidLooks := .later }
def LocalActsUptoCardSaid : Prop := Claim7.holds Tryd.pinned (.plain (OpenSpec.upto localActsSpec)) localActsUptoCard

/-- THE SECOND FORM's CARD OF 'nightwatchlaw1.RingTurned'. -/
def ringTurnedUptoCard : Claim7 := { stood := { row := ringTurnedUptoRow, standIns := [], harness := (true, "8be0b1943946230ee49835634656741fc40a1de4ecf59ba7d0d9b90aec0a324a"), looks := true }, kinds := [], alts := [], laidByText := true, laidKinds := [.sentinel, .sentinel, .sentinel, .sentinel], laidTests := true, laidLooks := .later }
def RingTurnedUptoCardSaid : Prop := Claim7.holds Tryd.pinned (.plain (OpenSpec.upto ringTurnedSpec)) ringTurnedUptoCard

/-- THE SECOND FORM's CARD OF 'nightwatchlaw1.ConfMore'. -/
def confMoreUptoCard : Claim7 := { stood := { row := confMoreUptoRow, standIns := [], harness := (true, "8be0b1943946230ee49835634656741fc40a1de4ecf59ba7d0d9b90aec0a324a"), looks := true }, kinds := [], alts := [], laidByText := true, laidKinds := [.data, .data, .data, .handle, .sentinel, .sentinel, .sentinel, .sentinel, .sentinel, .sentinel, .sentinel, .sentinel, .sentinel, .sentinel, .sentinel], laidTests := true, laidLooks := .later }
def ConfMoreUptoCardSaid : Prop := Claim7.holds Tryd.pinned (.plain (OpenSpec.upto confMoreSpec)) confMoreUptoCard

/-- THE SECOND FORM's CARD OF 'nightwatchlaw1.RingOpens'. -/
def ringOpensUptoCard : Claim7 := { stood := { row := ringOpensUptoRow, standIns := [], harness := (true, "8be0b1943946230ee49835634656741fc40a1de4ecf59ba7d0d9b90aec0a324a"), looks := true }, kinds := [], alts := [], laidByText := true, laidKinds := [.handle, .sentinel, .sentinel, .sentinel, .sentinel, .sentinel, .sentinel, .sentinel, .sentinel, .sentinel, .sentinel, .sentinel], laidTests := true, laidLooks := .later }
def RingOpensUptoCardSaid : Prop := Claim7.holds Tryd.pinned (.plain (OpenSpec.upto ringOpensSpec)) ringOpensUptoCard
end Rows
end Go.Proofs.YtpodijlhlgbbdabDoor
