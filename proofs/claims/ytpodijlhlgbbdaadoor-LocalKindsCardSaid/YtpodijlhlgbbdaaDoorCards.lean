/-
  DERIVED. GIVEN WITH THE SEED: THE CARDS: each row of YtpodijlhlgbbdaaDoorRows.lean that lists a variable, with what it lists TIED to the program's text (the seventh form; the later family's looks); each row that meets fmt, with fmt's text TOLD by the authors' own Lean function (tested against real Go, not proved from fmt's source: count such statements apart). THE CARD IS WHAT COUNTS. Prove the row's statement (the work); the ties are given (YtpodijlhlgbbdaaDoorTie.lean); close each card by the builder's one call (the guide's Derived/Test/ToyasCard.lean, 'card_holds'). Laid BY PROGRAM, IN A SANDBOX (cutbox-door.mjs). By AI agents, Wed Nov 11 2026. No macro, syntax, notation, axiom, sorry.
-/
import Derived.Test.YtpodijlhlgbbdaaDoorRows
import GoSem.ClaimSeven
namespace Go.Proofs.YtpodijlhlgbbdaaDoor
namespace Rows

/-- THE TIED CARD OF 'nightwatchlaw2.TotalStops'. -/
def totalStopsCard : Claim7 := { stood := { row := totalStopsRow, standIns := [], harness := (true, "8abe7662015dfaf1bb9a65c17347962513f7756ac5f877109e01bbe95217ac96"), looks := true }, kinds := [], alts := [], laidByText := true, laidKinds := [.sentinel], laidTests := true, laidLooks := .later }
def TotalStopsCardSaid : Prop := Claim7.holds Tryd.pinned (.plain (OpenSpec.ofChange totalStopsSpec)) totalStopsCard

/-- THE TIED CARD OF 'nightwatchlaw2.FlowBegins'. -/
def flowBeginsCard : Claim7 := { stood := { row := flowBeginsRow, standIns := [], harness := (true, "8abe7662015dfaf1bb9a65c17347962513f7756ac5f877109e01bbe95217ac96"), looks := true }, kinds := [], alts := [], laidByText := true, laidKinds := [.sentinel], laidTests := true, laidLooks := .later }
def FlowBeginsCardSaid : Prop := Claim7.holds Tryd.pinned (.plain (OpenSpec.ofChange flowBeginsSpec)) flowBeginsCard

/-- THE TIED CARD OF 'nightwatchlaw2.LocalKinds'. -/
def localKindsCard : Claim7 := { stood := { row := localKindsRow, standIns := [], harness := (true, "8abe7662015dfaf1bb9a65c17347962513f7756ac5f877109e01bbe95217ac96"), looks := true }, kinds := [], alts := [], laidByText := true, laidKinds := [.sentinel, .sentinel, .sentinel], laidTests := true, laidLooks := .later }
def LocalKindsCardSaid : Prop := Claim7.holds Tryd.pinned (.plain (OpenSpec.ofChange localKindsSpec)) localKindsCard

/-- THE TIED CARD OF 'nightwatchlaw2.LocalStays'. -/
def localStaysCard : Claim7 := { stood := { row := localStaysRow, standIns := [], harness := (true, "8abe7662015dfaf1bb9a65c17347962513f7756ac5f877109e01bbe95217ac96"), looks := true }, kinds := [], alts := [], laidByText := true, laidKinds := [.sentinel, .sentinel, .sentinel], laidTests := true, laidLooks := .later }
def LocalStaysCardSaid : Prop := Claim7.holds Tryd.pinned (.plain (OpenSpec.ofChange localStaysSpec)) localStaysCard

/-- THE TIED CARD OF 'nightwatchlaw2.LocalTolerance'. -/
def localToleranceCard : Claim7 := { stood := { row := localToleranceRow, standIns := [], harness := (true, "8abe7662015dfaf1bb9a65c17347962513f7756ac5f877109e01bbe95217ac96"), looks := true }, kinds := [], alts := [], laidByText := true, laidKinds := [.sentinel, .sentinel, .sentinel], laidTests := true, laidLooks := .later }
def LocalToleranceCardSaid : Prop := Claim7.holds Tryd.pinned (.plain (OpenSpec.ofChange localToleranceSpec)) localToleranceCard

/-- THE TIED CARD OF 'nightwatchlaw1.Names'. -/
def namesCard : Claim7 := { stood := { row := namesRow, standIns := [], harness := (true, "8abe7662015dfaf1bb9a65c17347962513f7756ac5f877109e01bbe95217ac96"), looks := true }, kinds := [], alts := [], laidByText := true, laidKinds := [.handle, .sentinel, .sentinel, .sentinel, .sentinel, .sentinel, .sentinel, .sentinel, .sentinel, .sentinel, .sentinel, .sentinel], laidTests := true, laidLooks := .later }
def NamesCardSaid : Prop := Claim7.holds Tryd.pinned (.plain (OpenSpec.ofChange namesSpec)) namesCard

/-- THE SECOND FORM's CARD OF 'nightwatchlaw2.TotalStops'. -/
def totalStopsUptoCard : Claim7 := { stood := { row := totalStopsUptoRow, standIns := [], harness := (true, "8abe7662015dfaf1bb9a65c17347962513f7756ac5f877109e01bbe95217ac96"), looks := true }, kinds := [], alts := [], laidByText := true, laidKinds := [.sentinel], laidTests := true, laidLooks := .later }
def TotalStopsUptoCardSaid : Prop := Claim7.holds Tryd.pinned (.plain (OpenSpec.upto totalStopsSpec)) totalStopsUptoCard

/-- THE SECOND FORM's CARD OF 'nightwatchlaw2.FlowBegins'. -/
def flowBeginsUptoCard : Claim7 := { stood := { row := flowBeginsUptoRow, standIns := [], harness := (true, "8abe7662015dfaf1bb9a65c17347962513f7756ac5f877109e01bbe95217ac96"), looks := true }, kinds := [], alts := [], laidByText := true, laidKinds := [.sentinel], laidTests := true, laidLooks := .later }
def FlowBeginsUptoCardSaid : Prop := Claim7.holds Tryd.pinned (.plain (OpenSpec.upto flowBeginsSpec)) flowBeginsUptoCard

/-- THE SECOND FORM's CARD OF 'nightwatchlaw2.LocalKinds'. -/
def localKindsUptoCard : Claim7 := { stood := { row := localKindsUptoRow, standIns := [], harness := (true, "8abe7662015dfaf1bb9a65c17347962513f7756ac5f877109e01bbe95217ac96"), looks := true }, kinds := [], alts := [], laidByText := true, laidKinds := [.sentinel, .sentinel, .sentinel], laidTests := true, laidLooks := .later }
def LocalKindsUptoCardSaid : Prop := Claim7.holds Tryd.pinned (.plain (OpenSpec.upto localKindsSpec)) localKindsUptoCard

/-- THE SECOND FORM's CARD OF 'nightwatchlaw2.LocalStays'. -/
def localStaysUptoCard : Claim7 := { stood := { row := localStaysUptoRow, standIns := [], harness := (true, "8abe7662015dfaf1bb9a65c17347962513f7756ac5f877109e01bbe95217ac96"), looks := true }, kinds := [], alts := [], laidByText := true, laidKinds := [.sentinel, .sentinel, .sentinel], laidTests := true, laidLooks := .later }
def LocalStaysUptoCardSaid : Prop := Claim7.holds Tryd.pinned (.plain (OpenSpec.upto localStaysSpec)) localStaysUptoCard

/-- THE SECOND FORM's CARD OF 'nightwatchlaw2.LocalTolerance'. -/
def localToleranceUptoCard : Claim7 := { stood := { row := localToleranceUptoRow, standIns := [], harness := (true, "8abe7662015dfaf1bb9a65c17347962513f7756ac5f877109e01bbe95217ac96"), looks := true }, kinds := [], alts := [], laidByText := true, laidKinds := [.sentinel, .sentinel, .sentinel], laidTests := true, laidLooks := .later }
def LocalToleranceUptoCardSaid : Prop := Claim7.holds Tryd.pinned (.plain (OpenSpec.upto localToleranceSpec)) localToleranceUptoCard

/-- THE SECOND FORM's CARD OF 'nightwatchlaw1.Names'. -/
def namesUptoCard : Claim7 := { stood := { row := namesUptoRow, standIns := [], harness := (true, "8abe7662015dfaf1bb9a65c17347962513f7756ac5f877109e01bbe95217ac96"), looks := true }, kinds := [], alts := [], laidByText := true, laidKinds := [.handle, .sentinel, .sentinel, .sentinel, .sentinel, .sentinel, .sentinel, .sentinel, .sentinel, .sentinel, .sentinel, .sentinel], laidTests := true, laidLooks := .later }
def NamesUptoCardSaid : Prop := Claim7.holds Tryd.pinned (.plain (OpenSpec.upto namesSpec)) namesUptoCard
end Rows
end Go.Proofs.YtpodijlhlgbbdaaDoor
