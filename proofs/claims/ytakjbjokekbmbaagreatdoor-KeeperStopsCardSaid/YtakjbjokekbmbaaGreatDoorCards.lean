/-
  DERIVED. GIVEN WITH THE SEED: THE CARDS: each row of YtakjbjokekbmbaaGreatDoorRows.lean that lists a variable, with what it lists TIED to the program's text (the seventh form; the later family's looks); each row that meets fmt, with fmt's text TOLD by the authors' own Lean function (tested against real Go, not proved from fmt's source: count such statements apart). THE CARD IS WHAT COUNTS. Prove the row's statement (the work); the ties are given (YtakjbjokekbmbaaGreatDoorTie.lean); close each card by the builder's one call (the guide's Derived/Test/ToyasCard.lean, 'card_holds'). Laid BY PROGRAM, IN A SANDBOX (cutbox-door.mjs). By AI agents, Wed Nov 11 2026. No macro, syntax, notation, axiom, sorry.
-/
import Derived.Test.YtakjbjokekbmbaaGreatDoorRows
import GoSem.ClaimSeven
namespace Go.Proofs.YtakjbjokekbmbaaGreatDoor
namespace Rows

/-- THE TIED CARD OF 'nightwatchlaw3.KeeperQuiet'. -/
def keeperQuietCard : Claim7 := { stood := { row := keeperQuietRow, standIns := [], harness := (true, "42d1773780a81c028230fe24f6ba71674b5e95a644d4623c8981927ca98190e1"), looks := true }, kinds := [], alts := [], laidByText := true, laidKinds := [.data, .data, .data, .data, .sentinel, .sentinel, .sentinel, .sentinel, .sentinel, .sentinel, .sentinel, .sentinel, .sentinel, .sentinel, .sentinel, .sentinel, .sentinel, .pinned], laidTests := true, laidLooks := .later }
def KeeperQuietCardSaid : Prop := Claim7.holds Tryz.pinned (.plain (OpenSpec.ofChange keeperQuietSpec)) keeperQuietCard

/-- THE TIED CARD OF 'nightwatchlaw3.KeeperStops'. -/
def keeperStopsCard : Claim7 := { stood := { row := keeperStopsRow, standIns := [], harness := (true, "42d1773780a81c028230fe24f6ba71674b5e95a644d4623c8981927ca98190e1"), looks := true }, kinds := [], alts := [], laidByText := true, laidKinds := [.data, .data, .data, .data, .handle, .sentinel, .sentinel, .sentinel, .sentinel, .sentinel, .sentinel, .sentinel, .sentinel, .sentinel, .sentinel, .sentinel, .sentinel, .sentinel, .pinned], laidTests := true, laidLooks := .later }
def KeeperStopsCardSaid : Prop := Claim7.holds Tryz.pinned (.plain (OpenSpec.ofChange keeperStopsSpec)) keeperStopsCard

/-- THE SECOND FORM's CARD OF 'nightwatchlaw3.KeeperQuiet'. -/
def keeperQuietUptoCard : Claim7 := { stood := { row := keeperQuietUptoRow, standIns := [], harness := (true, "42d1773780a81c028230fe24f6ba71674b5e95a644d4623c8981927ca98190e1"), looks := true }, kinds := [], alts := [], laidByText := true, laidKinds := [.data, .data, .data, .data, .sentinel, .sentinel, .sentinel, .sentinel, .sentinel, .sentinel, .sentinel, .sentinel, .sentinel, .sentinel, .sentinel, .sentinel, .sentinel, .pinned], laidTests := true, laidLooks := .later }
def KeeperQuietUptoCardSaid : Prop := Claim7.holds Tryz.pinned (.plain (OpenSpec.upto keeperQuietSpec)) keeperQuietUptoCard

/-- THE SECOND FORM's CARD OF 'nightwatchlaw3.KeeperStops'. -/
def keeperStopsUptoCard : Claim7 := { stood := { row := keeperStopsUptoRow, standIns := [], harness := (true, "42d1773780a81c028230fe24f6ba71674b5e95a644d4623c8981927ca98190e1"), looks := true }, kinds := [], alts := [], laidByText := true, laidKinds := [.data, .data, .data, .data, .handle, .sentinel, .sentinel, .sentinel, .sentinel, .sentinel, .sentinel, .sentinel, .sentinel, .sentinel, .sentinel, .sentinel, .sentinel, .sentinel, .pinned], laidTests := true, laidLooks := .later }
def KeeperStopsUptoCardSaid : Prop := Claim7.holds Tryz.pinned (.plain (OpenSpec.upto keeperStopsSpec)) keeperStopsUptoCard
end Rows
end Go.Proofs.YtakjbjokekbmbaaGreatDoor
