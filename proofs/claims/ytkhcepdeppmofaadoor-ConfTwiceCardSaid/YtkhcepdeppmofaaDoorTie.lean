/-
  DERIVED. GIVEN WITH THE SEED: THE PROGRAM's TIES (one call each: nine closed facts by the kernel) AND EACH ROW's TIE, after the 31st guide's Derived/Test/Toyas{Tie, Card}.lean. No idea stands in it: it is a product of the set-up. Laid BY PROGRAM, IN A SANDBOX (cutbox-door.mjs). By AI agents, Wed Nov 11 2026. No macro, syntax, notation, axiom, sorry.
-/
import Derived.Test.YtkhcepdeppmofaaDoorRows
import Derived.LaidByTextLater
import Derived.SevenTiedAt
import Derived.LaidSub
import Derived.LaidOnce
namespace Go.Proofs.YtkhcepdeppmofaaDoor
open Go
set_option maxRecDepth 100000
theorem seatTie1 : Tryd.prog.laidByTextLater [("math/bits.deBruijn32tab", Rows.laid_math_bits_deBruijn32tab), ("math/bits.deBruijn64tab", Rows.laid_math_bits_deBruijn64tab), ("internal/strconv.uint64pow10", Rows.laid_internal_strconv_uint64pow10), ("unicode/utf8.acceptRanges", Rows.laid_unicode_utf8_acceptRanges), ("errors.errorType", Rows.laid_errors_errorType), ("nightwatch/api.ErrText", Rows.laid_nightwatch_api_ErrText), ("nightwatch/api.ErrBound", Rows.laid_nightwatch_api_ErrBound), ("nightwatch/api.ErrShape", Rows.laid_nightwatch_api_ErrShape), ("nightwatch/api.ErrName", Rows.laid_nightwatch_api_ErrName), ("nightwatch/api.ErrNone", Rows.laid_nightwatch_api_ErrNone), ("nightwatch/api.ErrExist", Rows.laid_nightwatch_api_ErrExist), ("nightwatch/api.ErrFull", Rows.laid_nightwatch_api_ErrFull), ("nightwatch/api.ErrOff", Rows.laid_nightwatch_api_ErrOff), ("nightwatch/api.ErrIdle", Rows.laid_nightwatch_api_ErrIdle), ("nightwatch/api.ErrHeld", Rows.laid_nightwatch_api_ErrHeld), ("nightwatch/api.ErrReset", Rows.laid_nightwatch_api_ErrReset), ("strconv.ErrRange", Rows.laid_strconv_ErrRange), ("strconv.ErrSyntax", Rows.laid_strconv_ErrSyntax)] [.data, .data, .data, .data, .handle, .sentinel, .sentinel, .sentinel, .sentinel, .sentinel, .sentinel, .sentinel, .sentinel, .sentinel, .sentinel, .sentinel, .sentinel, .sentinel] true :=
  Program.laidByTextLater_by_one 288 8 65 (by kernel_rfl) (by kernel_rfl) (by kernel_rfl) (by kernel_rfl) (by kernel_rfl) (by kernel_rfl) (fun _ _ => by kernel_rfl)
theorem pin_laid_unicode_utf8_first : Tryd.pinned.checked.prog.pinnedFits "unicode/utf8.first" = true := by kernel_rfl
theorem noOwnUnsafe : Tryd.pinned.checked.prog.headLifts.contains "ownunsafe" = false := by kernel_rfl
theorem tie : Tryd.prog.laidByTextLater [("errors.errorType", Rows.laid_errors_errorType), ("nightwatch/api.ErrText", Rows.laid_nightwatch_api_ErrText), ("nightwatch/api.ErrBound", Rows.laid_nightwatch_api_ErrBound), ("nightwatch/api.ErrShape", Rows.laid_nightwatch_api_ErrShape), ("nightwatch/api.ErrName", Rows.laid_nightwatch_api_ErrName), ("nightwatch/api.ErrNone", Rows.laid_nightwatch_api_ErrNone), ("nightwatch/api.ErrExist", Rows.laid_nightwatch_api_ErrExist), ("nightwatch/api.ErrFull", Rows.laid_nightwatch_api_ErrFull), ("nightwatch/api.ErrOff", Rows.laid_nightwatch_api_ErrOff), ("nightwatch/api.ErrIdle", Rows.laid_nightwatch_api_ErrIdle), ("nightwatch/api.ErrHeld", Rows.laid_nightwatch_api_ErrHeld), ("nightwatch/api.ErrReset", Rows.laid_nightwatch_api_ErrReset)] [.handle, .sentinel, .sentinel, .sentinel, .sentinel, .sentinel, .sentinel, .sentinel, .sentinel, .sentinel, .sentinel, .sentinel] true :=
  Program.laidByTextLater.sub seatTie1 ["errors.errorType", "nightwatch/api.ErrText", "nightwatch/api.ErrBound", "nightwatch/api.ErrShape", "nightwatch/api.ErrName", "nightwatch/api.ErrNone", "nightwatch/api.ErrExist", "nightwatch/api.ErrFull", "nightwatch/api.ErrOff", "nightwatch/api.ErrIdle", "nightwatch/api.ErrHeld", "nightwatch/api.ErrReset"] (by kernel_rfl) (by kernel_rfl)
theorem localActs_row_tie : Rows.localActsRow.laidByTextAt .later Tryd.pinned [.handle, .sentinel, .sentinel, .sentinel, .sentinel, .sentinel, .sentinel, .sentinel, .sentinel, .sentinel, .sentinel, .sentinel] true :=
  OpenClaim.laidByTextAt_later rfl rfl tie noOwnUnsafe
theorem ringOpens_row_tie : Rows.ringOpensRow.laidByTextAt .later Tryd.pinned [.handle, .sentinel, .sentinel, .sentinel, .sentinel, .sentinel, .sentinel, .sentinel, .sentinel, .sentinel, .sentinel, .sentinel] true :=
  OpenClaim.laidByTextAt_later rfl rfl tie noOwnUnsafe
theorem ringCuts_row_tie : Rows.ringCutsRow.laidByTextAt .later Tryd.pinned [.handle, .sentinel, .sentinel, .sentinel, .sentinel, .sentinel, .sentinel, .sentinel, .sentinel, .sentinel, .sentinel, .sentinel] true :=
  OpenClaim.laidByTextAt_later rfl rfl tie noOwnUnsafe
theorem ringActs_row_tie : Rows.ringActsRow.laidByTextAt .later Tryd.pinned [.handle, .sentinel, .sentinel, .sentinel, .sentinel, .sentinel, .sentinel, .sentinel, .sentinel, .sentinel, .sentinel, .sentinel] true :=
  OpenClaim.laidByTextAt_later rfl rfl tie noOwnUnsafe
theorem tie2 : Tryd.prog.laidByTextLater [("nightwatch/api.ErrBound", Rows.laid_nightwatch_api_ErrBound), ("nightwatch/api.ErrShape", Rows.laid_nightwatch_api_ErrShape), ("nightwatch/api.ErrFull", Rows.laid_nightwatch_api_ErrFull), ("nightwatch/api.ErrOff", Rows.laid_nightwatch_api_ErrOff)] [.sentinel, .sentinel, .sentinel, .sentinel] true :=
  Program.laidByTextLater.sub seatTie1 ["nightwatch/api.ErrBound", "nightwatch/api.ErrShape", "nightwatch/api.ErrFull", "nightwatch/api.ErrOff"] (by kernel_rfl) (by kernel_rfl)
theorem ringTurned_row_tie : Rows.ringTurnedRow.laidByTextAt .later Tryd.pinned [.sentinel, .sentinel, .sentinel, .sentinel] true :=
  OpenClaim.laidByTextAt_later rfl rfl tie2 noOwnUnsafe
theorem tie3 : Tryd.prog.laidByTextLater [("math/bits.deBruijn32tab", Rows.laid_math_bits_deBruijn32tab), ("math/bits.deBruijn64tab", Rows.laid_math_bits_deBruijn64tab), ("internal/strconv.uint64pow10", Rows.laid_internal_strconv_uint64pow10), ("errors.errorType", Rows.laid_errors_errorType), ("nightwatch/api.ErrText", Rows.laid_nightwatch_api_ErrText), ("nightwatch/api.ErrBound", Rows.laid_nightwatch_api_ErrBound), ("nightwatch/api.ErrShape", Rows.laid_nightwatch_api_ErrShape), ("nightwatch/api.ErrName", Rows.laid_nightwatch_api_ErrName), ("nightwatch/api.ErrNone", Rows.laid_nightwatch_api_ErrNone), ("nightwatch/api.ErrExist", Rows.laid_nightwatch_api_ErrExist), ("nightwatch/api.ErrFull", Rows.laid_nightwatch_api_ErrFull), ("nightwatch/api.ErrOff", Rows.laid_nightwatch_api_ErrOff), ("nightwatch/api.ErrIdle", Rows.laid_nightwatch_api_ErrIdle), ("nightwatch/api.ErrHeld", Rows.laid_nightwatch_api_ErrHeld), ("nightwatch/api.ErrReset", Rows.laid_nightwatch_api_ErrReset)] [.data, .data, .data, .handle, .sentinel, .sentinel, .sentinel, .sentinel, .sentinel, .sentinel, .sentinel, .sentinel, .sentinel, .sentinel, .sentinel] true :=
  Program.laidByTextLater.sub seatTie1 ["math/bits.deBruijn32tab", "math/bits.deBruijn64tab", "internal/strconv.uint64pow10", "errors.errorType", "nightwatch/api.ErrText", "nightwatch/api.ErrBound", "nightwatch/api.ErrShape", "nightwatch/api.ErrName", "nightwatch/api.ErrNone", "nightwatch/api.ErrExist", "nightwatch/api.ErrFull", "nightwatch/api.ErrOff", "nightwatch/api.ErrIdle", "nightwatch/api.ErrHeld", "nightwatch/api.ErrReset"] (by kernel_rfl) (by kernel_rfl)
theorem confMore_row_tie : Rows.confMoreRow.laidByTextAt .later Tryd.pinned [.data, .data, .data, .handle, .sentinel, .sentinel, .sentinel, .sentinel, .sentinel, .sentinel, .sentinel, .sentinel, .sentinel, .sentinel, .sentinel] true :=
  OpenClaim.laidByTextAt_later rfl rfl tie3 noOwnUnsafe
theorem fits4 : Tryd.pinned.checked.prog.listedFits [("math/bits.deBruijn32tab", Rows.laid_math_bits_deBruijn32tab), ("math/bits.deBruijn64tab", Rows.laid_math_bits_deBruijn64tab), ("internal/strconv.uint64pow10", Rows.laid_internal_strconv_uint64pow10), ("unicode/utf8.acceptRanges", Rows.laid_unicode_utf8_acceptRanges), ("nightwatch/api.ErrText", Rows.laid_nightwatch_api_ErrText), ("nightwatch/api.ErrBound", Rows.laid_nightwatch_api_ErrBound), ("nightwatch/api.ErrShape", Rows.laid_nightwatch_api_ErrShape), ("nightwatch/api.ErrName", Rows.laid_nightwatch_api_ErrName), ("nightwatch/api.ErrNone", Rows.laid_nightwatch_api_ErrNone), ("nightwatch/api.ErrExist", Rows.laid_nightwatch_api_ErrExist), ("strconv.ErrRange", Rows.laid_strconv_ErrRange), ("strconv.ErrSyntax", Rows.laid_strconv_ErrSyntax), ("unicode/utf8.first", Rows.laid_unicode_utf8_first)] = true := by
  unfold Program.listedFits
  rw [noOwnUnsafe]
  kernel_rfl
theorem tie4 : Tryd.prog.laidByTextLater [("math/bits.deBruijn32tab", Rows.laid_math_bits_deBruijn32tab), ("math/bits.deBruijn64tab", Rows.laid_math_bits_deBruijn64tab), ("internal/strconv.uint64pow10", Rows.laid_internal_strconv_uint64pow10), ("unicode/utf8.acceptRanges", Rows.laid_unicode_utf8_acceptRanges), ("nightwatch/api.ErrText", Rows.laid_nightwatch_api_ErrText), ("nightwatch/api.ErrBound", Rows.laid_nightwatch_api_ErrBound), ("nightwatch/api.ErrShape", Rows.laid_nightwatch_api_ErrShape), ("nightwatch/api.ErrName", Rows.laid_nightwatch_api_ErrName), ("nightwatch/api.ErrNone", Rows.laid_nightwatch_api_ErrNone), ("nightwatch/api.ErrExist", Rows.laid_nightwatch_api_ErrExist), ("strconv.ErrRange", Rows.laid_strconv_ErrRange), ("strconv.ErrSyntax", Rows.laid_strconv_ErrSyntax)] [.data, .data, .data, .data, .sentinel, .sentinel, .sentinel, .sentinel, .sentinel, .sentinel, .sentinel, .sentinel] true :=
  Program.laidByTextLater.sub seatTie1 ["math/bits.deBruijn32tab", "math/bits.deBruijn64tab", "internal/strconv.uint64pow10", "unicode/utf8.acceptRanges", "nightwatch/api.ErrText", "nightwatch/api.ErrBound", "nightwatch/api.ErrShape", "nightwatch/api.ErrName", "nightwatch/api.ErrNone", "nightwatch/api.ErrExist", "strconv.ErrRange", "strconv.ErrSyntax"] (by kernel_rfl) (by kernel_rfl)
theorem confTwice_row_tie : Rows.confTwiceRow.laidByTextAt .later Tryd.pinned [.data, .data, .data, .data, .sentinel, .sentinel, .sentinel, .sentinel, .sentinel, .sentinel, .sentinel, .sentinel, .pinned] true :=
  OpenClaim.laidByTextAt_pinned rfl rfl tie4 rfl rfl rfl rfl (fun y hy _e => by
    simp only [Rows.confTwiceRow, List.zip_cons_cons, List.zip_nil_right, List.mem_cons, List.mem_nil_iff, or_false] at hy
    rcases hy with rfl | rfl | rfl | rfl | rfl | rfl | rfl | rfl | rfl | rfl | rfl | rfl | rfl
    · cases _e
    · cases _e
    · cases _e
    · cases _e
    · cases _e
    · cases _e
    · cases _e
    · cases _e
    · cases _e
    · cases _e
    · cases _e
    · cases _e
    · exact ⟨pin_laid_unicode_utf8_first, by kernel_rfl⟩) fits4
theorem localActsUpto_row_tie : Rows.localActsUptoRow.laidByTextAt .later Tryd.pinned [.handle, .sentinel, .sentinel, .sentinel, .sentinel, .sentinel, .sentinel, .sentinel, .sentinel, .sentinel, .sentinel, .sentinel] true :=
  OpenClaim.laidByTextAt_later rfl rfl tie noOwnUnsafe
theorem ringTurnedUpto_row_tie : Rows.ringTurnedUptoRow.laidByTextAt .later Tryd.pinned [.sentinel, .sentinel, .sentinel, .sentinel] true :=
  OpenClaim.laidByTextAt_later rfl rfl tie2 noOwnUnsafe
theorem confMoreUpto_row_tie : Rows.confMoreUptoRow.laidByTextAt .later Tryd.pinned [.data, .data, .data, .handle, .sentinel, .sentinel, .sentinel, .sentinel, .sentinel, .sentinel, .sentinel, .sentinel, .sentinel, .sentinel, .sentinel] true :=
  OpenClaim.laidByTextAt_later rfl rfl tie3 noOwnUnsafe
theorem ringOpensUpto_row_tie : Rows.ringOpensUptoRow.laidByTextAt .later Tryd.pinned [.handle, .sentinel, .sentinel, .sentinel, .sentinel, .sentinel, .sentinel, .sentinel, .sentinel, .sentinel, .sentinel, .sentinel] true :=
  OpenClaim.laidByTextAt_later rfl rfl tie noOwnUnsafe
theorem ringCutsUpto_row_tie : Rows.ringCutsUptoRow.laidByTextAt .later Tryd.pinned [.handle, .sentinel, .sentinel, .sentinel, .sentinel, .sentinel, .sentinel, .sentinel, .sentinel, .sentinel, .sentinel, .sentinel] true :=
  OpenClaim.laidByTextAt_later rfl rfl tie noOwnUnsafe
theorem ringActsUpto_row_tie : Rows.ringActsUptoRow.laidByTextAt .later Tryd.pinned [.handle, .sentinel, .sentinel, .sentinel, .sentinel, .sentinel, .sentinel, .sentinel, .sentinel, .sentinel, .sentinel, .sentinel] true :=
  OpenClaim.laidByTextAt_later rfl rfl tie noOwnUnsafe
theorem confTwiceUpto_row_tie : Rows.confTwiceUptoRow.laidByTextAt .later Tryd.pinned [.data, .data, .data, .data, .sentinel, .sentinel, .sentinel, .sentinel, .sentinel, .sentinel, .sentinel, .sentinel, .pinned] true :=
  OpenClaim.laidByTextAt_pinned rfl rfl tie4 rfl rfl rfl rfl (fun y hy _e => by
    simp only [Rows.confTwiceUptoRow, List.zip_cons_cons, List.zip_nil_right, List.mem_cons, List.mem_nil_iff, or_false] at hy
    rcases hy with rfl | rfl | rfl | rfl | rfl | rfl | rfl | rfl | rfl | rfl | rfl | rfl | rfl
    · cases _e
    · cases _e
    · cases _e
    · cases _e
    · cases _e
    · cases _e
    · cases _e
    · cases _e
    · cases _e
    · cases _e
    · cases _e
    · cases _e
    · exact ⟨pin_laid_unicode_utf8_first, by kernel_rfl⟩) fits4
end Go.Proofs.YtkhcepdeppmofaaDoor
