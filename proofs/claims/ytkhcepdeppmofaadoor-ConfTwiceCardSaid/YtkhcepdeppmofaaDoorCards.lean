/-
  DERIVED. GIVEN WITH THE SEED: THE CARDS: each row of YtkhcepdeppmofaaDoorRows.lean that lists a variable, with what it lists TIED to the program's text (the seventh form; the later family's looks); each row that meets fmt, with fmt's text TOLD by the authors' own Lean function (tested against real Go, not proved from fmt's source: count such statements apart). THE CARD IS WHAT COUNTS. Prove the row's statement (the work); the ties are given (YtkhcepdeppmofaaDoorTie.lean); close each card by the builder's one call (the guide's Derived/Test/ToyasCard.lean, 'card_holds'). Laid BY PROGRAM, IN A SANDBOX (cutbox-door.mjs). By AI agents, Wed Nov 11 2026. No macro, syntax, notation, axiom, sorry.
-/
import Derived.Test.YtkhcepdeppmofaaDoorRows
import GoSem.ClaimSeven
namespace Go.Proofs.YtkhcepdeppmofaaDoor
namespace Rows

/-- THE TIED CARD OF 'nightwatchlaw2.LocalActs'. -/
def localActsCard : Claim7 := { stood := { row := localActsRow, standIns := [], harness := (true, "239a7fb830d884ee2f9a9c58d37df4f3b808eab179d0fadbbcdff3c627f2f90b"), looks := true }, kinds := [], alts := [], laidByText := true, laidKinds := [.handle, .sentinel, .sentinel, .sentinel, .sentinel, .sentinel, .sentinel, .sentinel, .sentinel, .sentinel, .sentinel, .sentinel], laidTests := true, laidLooks := .later }
def LocalActsCardSaid : Prop := Claim7.holds Tryd.pinned (.plain (OpenSpec.ofChange localActsSpec)) localActsCard

/-- THE TIED CARD OF 'nightwatchlaw1.RingTurned'. -/
def ringTurnedCard : Claim7 := { stood := { row := ringTurnedRow, standIns := [], harness := (true, "239a7fb830d884ee2f9a9c58d37df4f3b808eab179d0fadbbcdff3c627f2f90b"), looks := true }, kinds := [], alts := [], laidByText := true, laidKinds := [.sentinel, .sentinel, .sentinel, .sentinel], laidTests := true, laidLooks := .later }
def RingTurnedCardSaid : Prop := Claim7.holds Tryd.pinned (.plain (OpenSpec.ofChange ringTurnedSpec)) ringTurnedCard

/-- THE TIED CARD OF 'nightwatchlaw1.ConfMore'. -/
def confMoreCard : Claim7 := { stood := { row := confMoreRow, standIns := [], harness := (true, "239a7fb830d884ee2f9a9c58d37df4f3b808eab179d0fadbbcdff3c627f2f90b"), looks := true }, kinds := [], alts := [], laidByText := true, laidKinds := [.data, .data, .data, .handle, .sentinel, .sentinel, .sentinel, .sentinel, .sentinel, .sentinel, .sentinel, .sentinel, .sentinel, .sentinel, .sentinel], laidTests := true, laidLooks := .later }
def ConfMoreCardSaid : Prop := Claim7.holds Tryd.pinned (.plain (OpenSpec.ofChange confMoreSpec)) confMoreCard

/-- THE TIED CARD OF 'nightwatchlaw1.RingOpens'. -/
def ringOpensCard : Claim7 := { stood := { row := ringOpensRow, standIns := [], harness := (true, "239a7fb830d884ee2f9a9c58d37df4f3b808eab179d0fadbbcdff3c627f2f90b"), looks := true }, kinds := [], alts := [], laidByText := true, laidKinds := [.handle, .sentinel, .sentinel, .sentinel, .sentinel, .sentinel, .sentinel, .sentinel, .sentinel, .sentinel, .sentinel, .sentinel], laidTests := true, laidLooks := .later }
def RingOpensCardSaid : Prop := Claim7.holds Tryd.pinned (.plain (OpenSpec.ofChange ringOpensSpec)) ringOpensCard

/-- THE TIED CARD OF 'nightwatchlaw1.RingCuts'. -/
def ringCutsCard : Claim7 := { stood := { row := ringCutsRow, standIns := [], harness := (true, "239a7fb830d884ee2f9a9c58d37df4f3b808eab179d0fadbbcdff3c627f2f90b"), looks := true }, kinds := [], alts := [], laidByText := true, laidKinds := [.handle, .sentinel, .sentinel, .sentinel, .sentinel, .sentinel, .sentinel, .sentinel, .sentinel, .sentinel, .sentinel, .sentinel], laidTests := true, laidLooks := .later }
def RingCutsCardSaid : Prop := Claim7.holds Tryd.pinned (.plain (OpenSpec.ofChange ringCutsSpec)) ringCutsCard

/-- THE TIED CARD OF 'nightwatchlaw1.RingActs'. -/
def ringActsCard : Claim7 := { stood := { row := ringActsRow, standIns := [], harness := (true, "239a7fb830d884ee2f9a9c58d37df4f3b808eab179d0fadbbcdff3c627f2f90b"), looks := true }, kinds := [], alts := [], laidByText := true, laidKinds := [.handle, .sentinel, .sentinel, .sentinel, .sentinel, .sentinel, .sentinel, .sentinel, .sentinel, .sentinel, .sentinel, .sentinel], laidTests := true, laidLooks := .later }
def RingActsCardSaid : Prop := Claim7.holds Tryd.pinned (.plain (OpenSpec.ofChange ringActsSpec)) ringActsCard

/-- THE TIED CARD OF 'nightwatchlaw1.ConfTwice'. -/
def confTwiceCard : Claim7 := { stood := { row := confTwiceRow, standIns := [], harness := (true, "239a7fb830d884ee2f9a9c58d37df4f3b808eab179d0fadbbcdff3c627f2f90b"), looks := true }, kinds := [], alts := [], laidByText := true, laidKinds := [.data, .data, .data, .data, .sentinel, .sentinel, .sentinel, .sentinel, .sentinel, .sentinel, .sentinel, .sentinel, .pinned], laidTests := true, laidLooks := .later }
def ConfTwiceCardSaid : Prop := Claim7.holds Tryd.pinned (.plain (OpenSpec.ofChange confTwiceSpec)) confTwiceCard

/-- THE SECOND FORM's CARD OF 'nightwatchlaw2.LocalActs'. -/
def localActsUptoCard : Claim7 := { stood := { row := localActsUptoRow, standIns := [], harness := (true, "239a7fb830d884ee2f9a9c58d37df4f3b808eab179d0fadbbcdff3c627f2f90b"), looks := true }, kinds := [], alts := [], laidByText := true, laidKinds := [.handle, .sentinel, .sentinel, .sentinel, .sentinel, .sentinel, .sentinel, .sentinel, .sentinel, .sentinel, .sentinel, .sentinel], laidTests := true, laidLooks := .later }
def LocalActsUptoCardSaid : Prop := Claim7.holds Tryd.pinned (.plain (OpenSpec.upto localActsSpec)) localActsUptoCard

/-- THE SECOND FORM's CARD OF 'nightwatchlaw1.RingTurned'. -/
def ringTurnedUptoCard : Claim7 := { stood := { row := ringTurnedUptoRow, standIns := [], harness := (true, "239a7fb830d884ee2f9a9c58d37df4f3b808eab179d0fadbbcdff3c627f2f90b"), looks := true }, kinds := [], alts := [], laidByText := true, laidKinds := [.sentinel, .sentinel, .sentinel, .sentinel], laidTests := true, laidLooks := .later }
def RingTurnedUptoCardSaid : Prop := Claim7.holds Tryd.pinned (.plain (OpenSpec.upto ringTurnedSpec)) ringTurnedUptoCard

/-- THE SECOND FORM's CARD OF 'nightwatchlaw1.ConfMore'. -/
def confMoreUptoCard : Claim7 := { stood := { row := confMoreUptoRow, standIns := [], harness := (true, "239a7fb830d884ee2f9a9c58d37df4f3b808eab179d0fadbbcdff3c627f2f90b"), looks := true }, kinds := [], alts := [], laidByText := true, laidKinds := [.data, .data, .data, .handle, .sentinel, .sentinel, .sentinel, .sentinel, .sentinel, .sentinel, .sentinel, .sentinel, .sentinel, .sentinel, .sentinel], laidTests := true, laidLooks := .later }
def ConfMoreUptoCardSaid : Prop := Claim7.holds Tryd.pinned (.plain (OpenSpec.upto confMoreSpec)) confMoreUptoCard

/-- THE SECOND FORM's CARD OF 'nightwatchlaw1.RingOpens'. -/
def ringOpensUptoCard : Claim7 := { stood := { row := ringOpensUptoRow, standIns := [], harness := (true, "239a7fb830d884ee2f9a9c58d37df4f3b808eab179d0fadbbcdff3c627f2f90b"), looks := true }, kinds := [], alts := [], laidByText := true, laidKinds := [.handle, .sentinel, .sentinel, .sentinel, .sentinel, .sentinel, .sentinel, .sentinel, .sentinel, .sentinel, .sentinel, .sentinel], laidTests := true, laidLooks := .later }
def RingOpensUptoCardSaid : Prop := Claim7.holds Tryd.pinned (.plain (OpenSpec.upto ringOpensSpec)) ringOpensUptoCard

/-- THE SECOND FORM's CARD OF 'nightwatchlaw1.RingCuts'. -/
def ringCutsUptoCard : Claim7 := { stood := { row := ringCutsUptoRow, standIns := [], harness := (true, "239a7fb830d884ee2f9a9c58d37df4f3b808eab179d0fadbbcdff3c627f2f90b"), looks := true }, kinds := [], alts := [], laidByText := true, laidKinds := [.handle, .sentinel, .sentinel, .sentinel, .sentinel, .sentinel, .sentinel, .sentinel, .sentinel, .sentinel, .sentinel, .sentinel], laidTests := true, laidLooks := .later }
def RingCutsUptoCardSaid : Prop := Claim7.holds Tryd.pinned (.plain (OpenSpec.upto ringCutsSpec)) ringCutsUptoCard

/-- THE SECOND FORM's CARD OF 'nightwatchlaw1.RingActs'. -/
def ringActsUptoCard : Claim7 := { stood := { row := ringActsUptoRow, standIns := [], harness := (true, "239a7fb830d884ee2f9a9c58d37df4f3b808eab179d0fadbbcdff3c627f2f90b"), looks := true }, kinds := [], alts := [], laidByText := true, laidKinds := [.handle, .sentinel, .sentinel, .sentinel, .sentinel, .sentinel, .sentinel, .sentinel, .sentinel, .sentinel, .sentinel, .sentinel], laidTests := true, laidLooks := .later }
def RingActsUptoCardSaid : Prop := Claim7.holds Tryd.pinned (.plain (OpenSpec.upto ringActsSpec)) ringActsUptoCard

/-- THE SECOND FORM's CARD OF 'nightwatchlaw1.ConfTwice'. -/
def confTwiceUptoCard : Claim7 := { stood := { row := confTwiceUptoRow, standIns := [], harness := (true, "239a7fb830d884ee2f9a9c58d37df4f3b808eab179d0fadbbcdff3c627f2f90b"), looks := true }, kinds := [], alts := [], laidByText := true, laidKinds := [.data, .data, .data, .data, .sentinel, .sentinel, .sentinel, .sentinel, .sentinel, .sentinel, .sentinel, .sentinel, .pinned], laidTests := true, laidLooks := .later }
def ConfTwiceUptoCardSaid : Prop := Claim7.holds Tryd.pinned (.plain (OpenSpec.upto confTwiceSpec)) confTwiceUptoCard
end Rows
end Go.Proofs.YtkhcepdeppmofaaDoor
