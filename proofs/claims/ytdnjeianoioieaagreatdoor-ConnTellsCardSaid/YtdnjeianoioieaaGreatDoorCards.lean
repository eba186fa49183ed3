/-
  DERIVED. GIVEN WITH THE SEED: THE CARDS: each row of YtdnjeianoioieaaGreatDoorRows.lean that lists a variable, with what it lists TIED to the program's text (the seventh form; the later family's looks); each row that meets fmt, with fmt's text TOLD by the authors' own Lean function (tested against real Go, not proved from fmt's source: count such statements apart). THE CARD IS WHAT COUNTS. Prove the row's statement (the work); the ties are given (YtdnjeianoioieaaGreatDoorTie.lean); close each card by the builder's one call (the guide's Derived/Test/ToyasCard.lean, 'card_holds'). Laid BY PROGRAM, IN A SANDBOX (cutbox-door.mjs). By AI agents, Wed Nov 11 2026. No macro, syntax, notation, axiom, sorry.
-/
import Derived.Test.YtdnjeianoioieaaGreatDoorRows
import GoSem.ClaimSeven
namespace Go.Proofs.YtdnjeianoioieaaGreatDoor
namespace Rows

/-- THE TIED CARD OF 'provostlaw39.ConnDeaf'. -/
def connDeafCard : Claim7 := { stood := { row := connDeafRow, standIns := [], harness := (true, "192d449eac3405e9d0728c2e48511532d545c2f8e2a813264b7e0a2dd9787e64"), looks := true }, kinds := [], alts := [], laidByText := true, laidKinds := [.handle, .data, .data], laidTests := true, laidLooks := .later }
def ConnDeafCardSaid : Prop := Claim7.holds Tryz.pinned (.plain (OpenSpec.ofChange connDeafSpec)) connDeafCard

/-- THE TIED CARD OF 'provostlaw39.ConnCalls'. -/
def connCallsCard : Claim7 := { stood := { row := connCallsRow, standIns := [], harness := (true, "192d449eac3405e9d0728c2e48511532d545c2f8e2a813264b7e0a2dd9787e64"), looks := true }, kinds := [], alts := [], laidByText := true, laidKinds := [.handle, .data, .data], laidTests := true, laidLooks := .later }
def ConnCallsCardSaid : Prop := Claim7.holds Tryz.pinned (.plain (OpenSpec.ofChange connCallsSpec)) connCallsCard

/-- THE TIED CARD OF 'provostlaw39.ConnTells'. -/
def connTellsCard : Claim7 := { stood := { row := connTellsRow, standIns := [], harness := (true, "192d449eac3405e9d0728c2e48511532d545c2f8e2a813264b7e0a2dd9787e64"), looks := true }, kinds := [], alts := [], laidByText := true, laidKinds := [.handle, .data, .data], laidTests := true, laidLooks := .later }
def ConnTellsCardSaid : Prop := Claim7.holds Tryz.pinned (.plain (OpenSpec.ofChange connTellsSpec)) connTellsCard

/-- THE SECOND FORM's CARD OF 'provostlaw39.ConnDeaf'. -/
def connDeafUptoCard : Claim7 := { stood := { row := connDeafUptoRow, standIns := [], harness := (true, "192d449eac3405e9d0728c2e48511532d545c2f8e2a813264b7e0a2dd9787e64"), looks := true }, kinds := [], alts := [], laidByText := true, laidKinds := [.handle, .data, .data], laidTests := true, laidLooks := .later }
def ConnDeafUptoCardSaid : Prop := Claim7.holds Tryz.pinned (.plain (OpenSpec.upto connDeafSpec)) connDeafUptoCard

/-- THE SECOND FORM's CARD OF 'provostlaw39.ConnCalls'. -/
def connCallsUptoCard : Claim7 := { stood := { row := connCallsUptoRow, standIns := [], harness := (true, "192d449eac3405e9d0728c2e48511532d545c2f8e2a813264b7e0a2dd9787e64"), looks := true }, kinds := [], alts := [], laidByText := true, laidKinds := [.handle, .data, .data], laidTests := true, laidLooks := .later }
def ConnCallsUptoCardSaid : Prop := Claim7.holds Tryz.pinned (.plain (OpenSpec.upto connCallsSpec)) connCallsUptoCard

/-- THE SECOND FORM's CARD OF 'provostlaw39.ConnTells'. -/
def connTellsUptoCard : Claim7 := { stood := { row := connTellsUptoRow, standIns := [], harness := (true, "192d449eac3405e9d0728c2e48511532d545c2f8e2a813264b7e0a2dd9787e64"), looks := true }, kinds := [], alts := [], laidByText := true, laidKinds := [.handle, .data, .data], laidTests := true, laidLooks := .later }
def ConnTellsUptoCardSaid : Prop := Claim7.holds Tryz.pinned (.plain (OpenSpec.upto connTellsSpec)) connTellsUptoCard
end Rows
end Go.Proofs.YtdnjeianoioieaaGreatDoor
