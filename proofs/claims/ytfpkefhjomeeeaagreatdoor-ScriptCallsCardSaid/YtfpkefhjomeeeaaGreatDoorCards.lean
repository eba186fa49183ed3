/-
  DERIVED. GIVEN WITH THE SEED: THE CARDS: each row of YtfpkefhjomeeeaaGreatDoorRows.lean that lists a variable, with what it lists TIED to the program's text (the seventh form; the later family's looks); each row that meets fmt, with fmt's text TOLD by the authors' own Lean function (tested against real Go, not proved from fmt's source: count such statements apart). THE CARD IS WHAT COUNTS. Prove the row's statement (the work); the ties are given (YtfpkefhjomeeeaaGreatDoorTie.lean); close each card by the builder's one call (the guide's Derived/Test/ToyasCard.lean, 'card_holds'). Laid BY PROGRAM, IN A SANDBOX (cutbox-door.mjs). By AI agents, Wed Nov 11 2026. No macro, syntax, notation, axiom, sorry.
-/
import Derived.Test.YtfpkefhjomeeeaaGreatDoorRows
import GoSem.ClaimSeven
namespace Go.Proofs.YtfpkefhjomeeeaaGreatDoor
namespace Rows

/-- THE TIED CARD OF 'provostlaw45.ScriptCalls'. -/
def scriptCallsCard : Claim7 := { stood := { row := scriptCallsRow, standIns := [], harness := (true, "db1d0ab03abe9beede73e9da7b5bf8cdf4dc457639e52c3c0a73685f6e707531"), looks := true }, kinds := [], alts := [], laidByText := true, laidKinds := [.data, .handle, .data, .data, .data, .pinned], laidTests := true, laidLooks := .later }
def ScriptCallsCardSaid : Prop := Claim7.holds Tryz.pinned (.plain (OpenSpec.ofChange scriptCallsSpec)) scriptCallsCard

/-- THE TIED CARD OF 'provostlaw45.ScriptFrames'. -/
def scriptFramesCard : Claim7 := { stood := { row := scriptFramesRow, standIns := [], harness := (true, "db1d0ab03abe9beede73e9da7b5bf8cdf4dc457639e52c3c0a73685f6e707531"), looks := true }, kinds := [], alts := [], laidByText := true, laidKinds := [.data, .handle, .data, .data, .data, .pinned], laidTests := true, laidLooks := .later }
def ScriptFramesCardSaid : Prop := Claim7.holds Tryz.pinned (.plain (OpenSpec.ofChange scriptFramesSpec)) scriptFramesCard

/-- THE SECOND FORM's CARD OF 'provostlaw45.ScriptCalls'. -/
def scriptCallsUptoCard : Claim7 := { stood := { row := scriptCallsUptoRow, standIns := [], harness := (true, "db1d0ab03abe9beede73e9da7b5bf8cdf4dc457639e52c3c0a73685f6e707531"), looks := true }, kinds := [], alts := [], laidByText := true, laidKinds := [.data, .handle, .data, .data, .data, .pinned], laidTests := true, laidLooks := .later }
def ScriptCallsUptoCardSaid : Prop := Claim7.holds Tryz.pinned (.plain (OpenSpec.upto scriptCallsSpec)) scriptCallsUptoCard

/-- THE SECOND FORM's CARD OF 'provostlaw45.ScriptFrames'. -/
def scriptFramesUptoCard : Claim7 := { stood := { row := scriptFramesUptoRow, standIns := [], harness := (true, "db1d0ab03abe9beede73e9da7b5bf8cdf4dc457639e52c3c0a73685f6e707531"), looks := true }, kinds := [], alts := [], laidByText := true, laidKinds := [.data, .handle, .data, .data, .data, .pinned], laidTests := true, laidLooks := .later }
def ScriptFramesUptoCardSaid : Prop := Claim7.holds Tryz.pinned (.plain (OpenSpec.upto scriptFramesSpec)) scriptFramesUptoCard
end Rows
end Go.Proofs.YtfpkefhjomeeeaaGreatDoor
