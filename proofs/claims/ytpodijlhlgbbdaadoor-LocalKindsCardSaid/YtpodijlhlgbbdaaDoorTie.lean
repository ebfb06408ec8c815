/-
  DERIVED. GIVEN WITH THE SEED: THE PROGRAM's TIES (one call each: nine closed facts by the kernel) AND EACH ROW's TIE, after the 31st guide's Derived/Test/Toyas{Tie, Card}.lean. No idea stands in it: it is a product of the set-up. Laid BY PROGRAM, IN A SANDBOX (cutbox-door.mjs). By AI agents, Wed Nov 11 2026. No macro, syntax, notation, axiom, sorry.
-/
import Derived.Test.YtpodijlhlgbbdaaDoorRows
import Derived.LaidByTextLater
import Derived.SevenTiedAt
import Derived.LaidSub
import Derived.LaidOnce
namespace Go.Proofs.YtpodijlhlgbbdaaDoor
open Go
set_option maxRecDepth 100000
theorem seatTie1 : Tryd.prog.laidByTextLater [("errors.errorType", Rows.laid_errors_errorType), ("nightwatch/api.ErrText", Rows.laid_nightwatch_api_ErrText), ("nightwatch/api.ErrBound", Rows.laid_nightwatch_api_ErrBound), ("nightwatch/api.ErrShape", Rows.laid_nightwatch_api_ErrShape), ("nightwatch/api.ErrName", Rows.laid_nightwatch_api_ErrName), ("nightwatch/api.ErrNone", Rows.laid_nightwatch_api_ErrNone), ("nightwatch/api.ErrExist", Rows.laid_nightwatch_api_ErrExist), ("nightwatch/api.ErrFull", Rows.laid_nightwatch_api_ErrFull), ("nightwatch/api.ErrOff", Rows.laid_nightwatch_api_ErrOff), ("nightwatch/api.ErrIdle", Rows.laid_nightwatch_api_ErrIdle), ("nightwatch/api.ErrHeld", Rows.laid_nightwatch_api_ErrHeld), ("nightwatch/api.ErrReset", Rows.laid_nightwatch_api_ErrReset)] [.handle, .sentinel, .sentinel, .sentinel, .sentinel, .sentinel, .sentinel, .sentinel, .sentinel, .sentinel, .sentinel, .sentinel] true :=
  Program.laidByTextLater_by_one 225 8 2 (by kernel_rfl) (by kernel_rfl) (by kernel_rfl) (by kernel_rfl) (by kernel_rfl) (by kernel_rfl) (fun _ _ => by kernel_rfl)
theorem noOwnUnsafe : Tryd.pinned.checked.prog.headLifts.contains "ownunsafe" = false := by kernel_rfl
theorem tie : Tryd.prog.laidByTextLater [("nightwatch/api.ErrBound", Rows.laid_nightwatch_api_ErrBound)] [.sentinel] true :=
  Program.laidByTextLater.sub seatTie1 ["nightwatch/api.ErrBound"] (by kernel_rfl) (by kernel_rfl)
theorem totalStops_row_tie : Rows.totalStopsRow.laidByTextAt .later Tryd.pinned [.sentinel] true :=
  OpenClaim.laidByTextAt_later rfl rfl tie noOwnUnsafe
theorem flowBegins_row_tie : Rows.flowBeginsRow.laidByTextAt .later Tryd.pinned [.sentinel] true :=
  OpenClaim.laidByTextAt_later rfl rfl tie noOwnUnsafe
theorem tie2 : Tryd.prog.laidByTextLater [("nightwatch/api.ErrNone", Rows.laid_nightwatch_api_ErrNone), ("nightwatch/api.ErrIdle", Rows.laid_nightwatch_api_ErrIdle), ("nightwatch/api.ErrHeld", Rows.laid_nightwatch_api_ErrHeld)] [.sentinel, .sentinel, .sentinel] true :=
  Program.laidByTextLater.sub seatTie1 ["nightwatch/api.ErrNone", "nightwatch/api.ErrIdle", "nightwatch/api.ErrHeld"] (by kernel_rfl) (by kernel_rfl)
theorem localKinds_row_tie : Rows.localKindsRow.laidByTextAt .later Tryd.pinned [.sentinel, .sentinel, .sentinel] true :=
  OpenClaim.laidByTextAt_later rfl rfl tie2 noOwnUnsafe
theorem localStays_row_tie : Rows.localStaysRow.laidByTextAt .later Tryd.pinned [.sentinel, .sentinel, .sentinel] true :=
  OpenClaim.laidByTextAt_later rfl rfl tie2 noOwnUnsafe
theorem localTolerance_row_tie : Rows.localToleranceRow.laidByTextAt .later Tryd.pinned [.sentinel, .sentinel, .sentinel] true :=
  OpenClaim.laidByTextAt_later rfl rfl tie2 noOwnUnsafe
theorem tie3 : Tryd.prog.laidByTextLater [("errors.errorType", Rows.laid_errors_errorType), ("nightwatch/api.ErrText", Rows.laid_nightwatch_api_ErrText), ("nightwatch/api.ErrBound", Rows.laid_nightwatch_api_ErrBound), ("nightwatch/api.ErrShape", Rows.laid_nightwatch_api_ErrShape), ("nightwatch/api.ErrName", Rows.laid_nightwatch_api_ErrName), ("nightwatch/api.ErrNone", Rows.laid_nightwatch_api_ErrNone), ("nightwatch/api.ErrExist", Rows.laid_nightwatch_api_ErrExist), ("nightwatch/api.ErrFull", Rows.laid_nightwatch_api_ErrFull), ("nightwatch/api.ErrOff", Rows.laid_nightwatch_api_ErrOff), ("nightwatch/api.ErrIdle", Rows.laid_nightwatch_api_ErrIdle), ("nightwatch/api.ErrHeld", Rows.laid_nightwatch_api_ErrHeld), ("nightwatch/api.ErrReset", Rows.laid_nightwatch_api_ErrReset)] [.handle, .sentinel, .sentinel, .sentinel, .sentinel, .sentinel, .sentinel, .sentinel, .sentinel, .sentinel, .sentinel, .sentinel] true :=
  Program.laidByTextLater.sub seatTie1 ["errors.errorType", "nightwatch/api.ErrText", "nightwatch/api.ErrBound", "nightwatch/api.ErrShape", "nightwatch/api.ErrName", "nightwatch/api.ErrNone", "nightwatch/api.ErrExist", "nightwatch/api.ErrFull", "nightwatch/api.ErrOff", "nightwatch/api.ErrIdle", "nightwatch/api.ErrHeld", "nightwatch/api.ErrReset"] (by kernel_rfl) (by kernel_rfl)
theorem names_row_tie : Rows.namesRow.laidByTextAt .later Tryd.pinned [.handle, .sentinel, .sentinel, .sentinel, .sentinel, .sentinel, .sentinel, .sentinel, .sentinel, .sentinel, .sentinel, .sentinel] true :=
  OpenClaim.laidByTextAt_later rfl rfl tie3 noOwnUnsafe
theorem totalStopsUpto_row_tie : Rows.totalStopsUptoRow.laidByTextAt .later Tryd.pinned [.sentinel] true :=
  OpenClaim.laidByTextAt_later rfl rfl tie noOwnUnsafe
theorem flowBeginsUpto_row_tie : Rows.flowBeginsUptoRow.laidByTextAt .later Tryd.pinned [.sentinel] true :=
  OpenClaim.laidByTextAt_later rfl rfl tie noOwnUnsafe
theorem localKindsUpto_row_tie : Rows.localKindsUptoRow.laidByTextAt .later Tryd.pinned [.sentinel, .sentinel, .sentinel] true :=
  OpenClaim.laidByTextAt_later rfl rfl tie2 noOwnUnsafe
theorem localStaysUpto_row_tie : Rows.localStaysUptoRow.laidByTextAt .later Tryd.pinned [.sentinel, .sentinel, .sentinel] true :=
  OpenClaim.laidByTextAt_later rfl rfl tie2 noOwnUnsafe
theorem localToleranceUpto_row_tie : Rows.localToleranceUptoRow.laidByTextAt .later Tryd.pinned [.sentinel, .sentinel, .sentinel] true :=
  OpenClaim.laidByTextAt_later rfl rfl tie2 noOwnUnsafe
theorem namesUpto_row_tie : Rows.namesUptoRow.laidByTextAt .later Tryd.pinned [.handle, .sentinel, .sentinel, .sentinel, .sentinel, .sentinel, .sentinel, .sentinel, .sentinel, .sentinel, .sentinel, .sentinel] true :=
  OpenClaim.laidByTextAt_later rfl rfl tie3 noOwnUnsafe
end Go.Proofs.YtpodijlhlgbbdaaDoor
