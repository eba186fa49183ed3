/-
  DERIVED. GIVEN WITH THE SEED: THE PROGRAM's TIES (one call each: nine closed facts by the kernel) AND EACH ROW's TIE, after the 31st guide's Derived/Test/Toyas{Tie, Card}.lean. No idea stands in it: it is a product of the set-up. Laid BY PROGRAM, IN A SANDBOX (cutbox-door.mjs). By AI agents, Wed Nov 11 2026. No macro, syntax, notation, axiom, sorry.
-/
import Derived.Test.YtdnjeianoioieaaGreatDoorRows
import Derived.LaidByTextLater
import Derived.SevenTiedAt
import Derived.LaidSub
import Derived.LaidOnce
namespace Go.Proofs.YtdnjeianoioieaaGreatDoor
open Go
set_option maxRecDepth 100000
theorem seatTie1 : Tryz.prog.laidByTextLater [("errors.errorType", Rows.laid_errors_errorType), ("provost/text.marks", Rows.laid_provost_text_marks), ("provost/ask.kinds", Rows.laid_provost_ask_kinds)] [.handle, .data, .data] true :=
  Program.laidByTextLater_by_one 38 8 65 (by kernel_rfl) (by kernel_rfl) (by kernel_rfl) (by kernel_rfl) (by kernel_rfl) (by kernel_rfl) (fun _ _ => by kernel_rfl)
theorem noOwnUnsafe : Tryz.pinned.checked.prog.headLifts.contains "ownunsafe" = false := by kernel_rfl
theorem tie : Tryz.prog.laidByTextLater [("errors.errorType", Rows.laid_errors_errorType), ("provost/text.marks", Rows.laid_provost_text_marks), ("provost/ask.kinds", Rows.laid_provost_ask_kinds)] [.handle, .data, .data] true :=
  Program.laidByTextLater.sub seatTie1 ["errors.errorType", "provost/text.marks", "provost/ask.kinds"] (by kernel_rfl) (by kernel_rfl)
theorem connDeaf_row_tie : Rows.connDeafRow.laidByTextAt .later Tryz.pinned [.handle, .data, .data] true :=
  OpenClaim.laidByTextAt_later rfl rfl tie noOwnUnsafe
theorem connCalls_row_tie : Rows.connCallsRow.laidByTextAt .later Tryz.pinned [.handle, .data, .data] true :=
  OpenClaim.laidByTextAt_later rfl rfl tie noOwnUnsafe
theorem connTells_row_tie : Rows.connTellsRow.laidByTextAt .later Tryz.pinned [.handle, .data, .data] true :=
  OpenClaim.laidByTextAt_later rfl rfl tie noOwnUnsafe
theorem connDeafUpto_row_tie : Rows.connDeafUptoRow.laidByTextAt .later Tryz.pinned [.handle, .data, .data] true :=
  OpenClaim.laidByTextAt_later rfl rfl tie noOwnUnsafe
theorem connCallsUpto_row_tie : Rows.connCallsUptoRow.laidByTextAt .later Tryz.pinned [.handle, .data, .data] true :=
  OpenClaim.laidByTextAt_later rfl rfl tie noOwnUnsafe
theorem connTellsUpto_row_tie : Rows.connTellsUptoRow.laidByTextAt .later Tryz.pinned [.handle, .data, .data] true :=
  OpenClaim.laidByTextAt_later rfl rfl tie noOwnUnsafe
end Go.Proofs.YtdnjeianoioieaaGreatDoor
