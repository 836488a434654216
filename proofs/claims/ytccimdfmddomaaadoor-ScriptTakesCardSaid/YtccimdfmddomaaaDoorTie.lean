/-
  DERIVED. GIVEN WITH THE SEED: THE PROGRAM's TIES (one call each: nine closed facts by the kernel) AND EACH ROW's TIE, after the 31st guide's Derived/Test/Toyas{Tie, Card}.lean. No idea stands in it: it is a product of the set-up. Laid BY PROGRAM, IN A SANDBOX (cutbox-door.mjs). By AI agents, Wed Nov 11 2026. No macro, syntax, notation, axiom, sorry.
-/
import Derived.Test.YtccimdfmddomaaaDoorRows
import Derived.LaidByTextLater
import Derived.SevenTiedAt
import Derived.LaidSub
import Derived.LaidOnce
namespace Go.Proofs.YtccimdfmddomaaaDoor
open Go
set_option maxRecDepth 100000
theorem seatTie1 : Tryd.prog.laidByTextLater [("errors.errorType", Rows.laid_errors_errorType), ("towncrier/api.ErrShort", Rows.laid_towncrier_api_ErrShort), ("towncrier/api.ErrMalformed", Rows.laid_towncrier_api_ErrMalformed), ("towncrier/api.ErrProtocol", Rows.laid_towncrier_api_ErrProtocol), ("towncrier/api.ErrTooLarge", Rows.laid_towncrier_api_ErrTooLarge), ("towncrier/api.ErrQuota", Rows.laid_towncrier_api_ErrQuota), ("towncrier/api.ErrState", Rows.laid_towncrier_api_ErrState), ("towncrier/api.ErrArgument", Rows.laid_towncrier_api_ErrArgument)] [.handle, .sentinel, .sentinel, .sentinel, .sentinel, .sentinel, .sentinel, .sentinel] true :=
  Program.laidByTextLater_by_one 149 8 2 (by kernel_rfl) (by kernel_rfl) (by kernel_rfl) (by kernel_rfl) (by kernel_rfl) (by kernel_rfl) (fun _ _ => by kernel_rfl)
theorem noOwnUnsafe : Tryd.pinned.checked.prog.headLifts.contains "ownunsafe" = false := by kernel_rfl
theorem tie : Tryd.prog.laidByTextLater [("towncrier/api.ErrShort", Rows.laid_towncrier_api_ErrShort), ("towncrier/api.ErrMalformed", Rows.laid_towncrier_api_ErrMalformed), ("towncrier/api.ErrProtocol", Rows.laid_towncrier_api_ErrProtocol), ("towncrier/api.ErrTooLarge", Rows.laid_towncrier_api_ErrTooLarge), ("towncrier/api.ErrQuota", Rows.laid_towncrier_api_ErrQuota), ("towncrier/api.ErrState", Rows.laid_towncrier_api_ErrState), ("towncrier/api.ErrArgument", Rows.laid_towncrier_api_ErrArgument)] [.sentinel, .sentinel, .sentinel, .sentinel, .sentinel, .sentinel, .sentinel] true :=
  Program.laidByTextLater.sub seatTie1 ["towncrier/api.ErrShort", "towncrier/api.ErrMalformed", "towncrier/api.ErrProtocol", "towncrier/api.ErrTooLarge", "towncrier/api.ErrQuota", "towncrier/api.ErrState", "towncrier/api.ErrArgument"] (by kernel_rfl) (by kernel_rfl)
theorem scriptBack_row_tie : Rows.scriptBackRow.laidByTextAt .later Tryd.pinned [.sentinel, .sentinel, .sentinel, .sentinel, .sentinel, .sentinel, .sentinel] true :=
  OpenClaim.laidByTextAt_later rfl rfl tie noOwnUnsafe
theorem tie2 : Tryd.prog.laidByTextLater [("errors.errorType", Rows.laid_errors_errorType), ("towncrier/api.ErrShort", Rows.laid_towncrier_api_ErrShort), ("towncrier/api.ErrMalformed", Rows.laid_towncrier_api_ErrMalformed), ("towncrier/api.ErrProtocol", Rows.laid_towncrier_api_ErrProtocol), ("towncrier/api.ErrTooLarge", Rows.laid_towncrier_api_ErrTooLarge), ("towncrier/api.ErrQuota", Rows.laid_towncrier_api_ErrQuota), ("towncrier/api.ErrState", Rows.laid_towncrier_api_ErrState), ("towncrier/api.ErrArgument", Rows.laid_towncrier_api_ErrArgument)] [.handle, .sentinel, .sentinel, .sentinel, .sentinel, .sentinel, .sentinel, .sentinel] true :=
  Program.laidByTextLater.sub seatTie1 ["errors.errorType", "towncrier/api.ErrShort", "towncrier/api.ErrMalformed", "towncrier/api.ErrProtocol", "towncrier/api.ErrTooLarge", "towncrier/api.ErrQuota", "towncrier/api.ErrState", "towncrier/api.ErrArgument"] (by kernel_rfl) (by kernel_rfl)
theorem frameFirst_row_tie : Rows.frameFirstRow.laidByTextAt .later Tryd.pinned [.handle, .sentinel, .sentinel, .sentinel, .sentinel, .sentinel, .sentinel, .sentinel] true :=
  OpenClaim.laidByTextAt_later rfl rfl tie2 noOwnUnsafe
theorem frameSplits_row_tie : Rows.frameSplitsRow.laidByTextAt .later Tryd.pinned [.handle, .sentinel, .sentinel, .sentinel, .sentinel, .sentinel, .sentinel, .sentinel] true :=
  OpenClaim.laidByTextAt_later rfl rfl tie2 noOwnUnsafe
theorem frameBack_row_tie : Rows.frameBackRow.laidByTextAt .later Tryd.pinned [.handle, .sentinel, .sentinel, .sentinel, .sentinel, .sentinel, .sentinel, .sentinel] true :=
  OpenClaim.laidByTextAt_later rfl rfl tie2 noOwnUnsafe
theorem scriptTakes_row_tie : Rows.scriptTakesRow.laidByTextAt .later Tryd.pinned [.handle, .sentinel, .sentinel, .sentinel, .sentinel, .sentinel, .sentinel, .sentinel] true :=
  OpenClaim.laidByTextAt_later rfl rfl tie2 noOwnUnsafe
theorem fieldBack_row_tie : Rows.fieldBackRow.laidByTextAt .later Tryd.pinned [.handle, .sentinel, .sentinel, .sentinel, .sentinel, .sentinel, .sentinel, .sentinel] true :=
  OpenClaim.laidByTextAt_later rfl rfl tie2 noOwnUnsafe
theorem propBack_row_tie : Rows.propBackRow.laidByTextAt .later Tryd.pinned [.handle, .sentinel, .sentinel, .sentinel, .sentinel, .sentinel, .sentinel, .sentinel] true :=
  OpenClaim.laidByTextAt_later rfl rfl tie2 noOwnUnsafe
theorem tie3 : Tryd.prog.laidByTextLater [("errors.errorType", Rows.laid_errors_errorType), ("towncrier/api.ErrShort", Rows.laid_towncrier_api_ErrShort), ("towncrier/api.ErrMalformed", Rows.laid_towncrier_api_ErrMalformed), ("towncrier/api.ErrProtocol", Rows.laid_towncrier_api_ErrProtocol), ("towncrier/api.ErrTooLarge", Rows.laid_towncrier_api_ErrTooLarge), ("towncrier/api.ErrArgument", Rows.laid_towncrier_api_ErrArgument)] [.handle, .sentinel, .sentinel, .sentinel, .sentinel, .sentinel] true :=
  Program.laidByTextLater.sub seatTie1 ["errors.errorType", "towncrier/api.ErrShort", "towncrier/api.ErrMalformed", "towncrier/api.ErrProtocol", "towncrier/api.ErrTooLarge", "towncrier/api.ErrArgument"] (by kernel_rfl) (by kernel_rfl)
theorem storePrefix_row_tie : Rows.storePrefixRow.laidByTextAt .later Tryd.pinned [.handle, .sentinel, .sentinel, .sentinel, .sentinel, .sentinel] true :=
  OpenClaim.laidByTextAt_later rfl rfl tie3 noOwnUnsafe
theorem scriptBackUpto_row_tie : Rows.scriptBackUptoRow.laidByTextAt .later Tryd.pinned [.sentinel, .sentinel, .sentinel, .sentinel, .sentinel, .sentinel, .sentinel] true :=
  OpenClaim.laidByTextAt_later rfl rfl tie noOwnUnsafe
theorem frameFirstUpto_row_tie : Rows.frameFirstUptoRow.laidByTextAt .later Tryd.pinned [.handle, .sentinel, .sentinel, .sentinel, .sentinel, .sentinel, .sentinel, .sentinel] true :=
  OpenClaim.laidByTextAt_later rfl rfl tie2 noOwnUnsafe
theorem frameSplitsUpto_row_tie : Rows.frameSplitsUptoRow.laidByTextAt .later Tryd.pinned [.handle, .sentinel, .sentinel, .sentinel, .sentinel, .sentinel, .sentinel, .sentinel] true :=
  OpenClaim.laidByTextAt_later rfl rfl tie2 noOwnUnsafe
theorem frameBackUpto_row_tie : Rows.frameBackUptoRow.laidByTextAt .later Tryd.pinned [.handle, .sentinel, .sentinel, .sentinel, .sentinel, .sentinel, .sentinel, .sentinel] true :=
  OpenClaim.laidByTextAt_later rfl rfl tie2 noOwnUnsafe
theorem scriptTakesUpto_row_tie : Rows.scriptTakesUptoRow.laidByTextAt .later Tryd.pinned [.handle, .sentinel, .sentinel, .sentinel, .sentinel, .sentinel, .sentinel, .sentinel] true :=
  OpenClaim.laidByTextAt_later rfl rfl tie2 noOwnUnsafe
theorem fieldBackUpto_row_tie : Rows.fieldBackUptoRow.laidByTextAt .later Tryd.pinned [.handle, .sentinel, .sentinel, .sentinel, .sentinel, .sentinel, .sentinel, .sentinel] true :=
  OpenClaim.laidByTextAt_later rfl rfl tie2 noOwnUnsafe
theorem propBackUpto_row_tie : Rows.propBackUptoRow.laidByTextAt .later Tryd.pinned [.handle, .sentinel, .sentinel, .sentinel, .sentinel, .sentinel, .sentinel, .sentinel] true :=
  OpenClaim.laidByTextAt_later rfl rfl tie2 noOwnUnsafe
theorem storePrefixUpto_row_tie : Rows.storePrefixUptoRow.laidByTextAt .later Tryd.pinned [.handle, .sentinel, .sentinel, .sentinel, .sentinel, .sentinel] true :=
  OpenClaim.laidByTextAt_later rfl rfl tie3 noOwnUnsafe
end Go.Proofs.YtccimdfmddomaaaDoor
