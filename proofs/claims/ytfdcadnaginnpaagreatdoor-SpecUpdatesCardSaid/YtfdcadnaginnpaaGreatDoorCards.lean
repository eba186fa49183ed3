/-
  DERIVED. GIVEN WITH THE SEED: THE CARDS: each row of YtfdcadnaginnpaaGreatDoorRows.lean that lists a variable, with what it lists TIED to the program's text (the seventh form; the later family's looks); each row that meets fmt, with fmt's text TOLD by the authors' own Lean function (tested against real Go, not proved from fmt's source: count such statements apart). THE CARD IS WHAT COUNTS. Prove the row's statement (the work); the ties are given (YtfdcadnaginnpaaGreatDoorTie.lean); close each card by the builder's one call (the guide's Derived/Test/ToyasCard.lean, 'card_holds'). Laid BY PROGRAM, IN A SANDBOX (cutbox-door.mjs). By AI agents, Wed Nov 11 2026. No macro, syntax, notation, axiom, sorry.
-/
import Derived.Test.YtfdcadnaginnpaaGreatDoorRows
import GoSem.ClaimSeven
namespace Go.Proofs.YtfdcadnaginnpaaGreatDoor
namespace Rows

/-- THE TIED CARD OF 'provostlaw06.SpecChecks'. -/
def specChecksCard : Claim7 := { stood := { row := specChecksRow, standIns := [], harness := (true, "7ae069f8485ac1f3010a08e018ae8b80ca3f9c0e6693d2afd4b4cbb9c20f13d4"), looks := true }, kinds := [], alts := [], laidByText := true, laidKinds := [.handle, .data], laidTests := true, laidLooks := .later }
def SpecChecksCardSaid : Prop := Claim7.holds Tryz.pinned (.plain (OpenSpec.ofChange specChecksSpec)) specChecksCard

/-- THE TIED CARD OF 'provostlaw06.SpecLabels'. -/
def specLabelsCard : Claim7 := { stood := { row := specLabelsRow, standIns := [], harness := (true, "7ae069f8485ac1f3010a08e018ae8b80ca3f9c0e6693d2afd4b4cbb9c20f13d4"), looks := true }, kinds := [], alts := [], laidByText := true, laidKinds := [.handle, .data], laidTests := true, laidLooks := .later }
def SpecLabelsCardSaid : Prop := Claim7.holds Tryz.pinned (.plain (OpenSpec.ofChange specLabelsSpec)) specLabelsCard

/-- THE TIED CARD OF 'provostlaw06.SpecClones'. -/
def specClonesCard : Claim7 := { stood := { row := specClonesRow, standIns := [], harness := (true, "7ae069f8485ac1f3010a08e018ae8b80ca3f9c0e6693d2afd4b4cbb9c20f13d4"), looks := true }, kinds := [], alts := [], laidByText := true, laidKinds := [.handle, .data], laidTests := true, laidLooks := .later }
def SpecClonesCardSaid : Prop := Claim7.holds Tryz.pinned (.plain (OpenSpec.ofChange specClonesSpec)) specClonesCard

/-- THE TIED CARD OF 'provostlaw06.SpecUpdates'. -/
def specUpdatesCard : Claim7 := { stood := { row := specUpdatesRow, standIns := [], harness := (true, "7ae069f8485ac1f3010a08e018ae8b80ca3f9c0e6693d2afd4b4cbb9c20f13d4"), looks := true }, kinds := [], alts := [], laidByText := true, laidKinds := [.handle, .data], laidTests := true, laidLooks := .later }
def SpecUpdatesCardSaid : Prop := Claim7.holds Tryz.pinned (.plain (OpenSpec.ofChange specUpdatesSpec)) specUpdatesCard

/-- THE SECOND FORM's CARD OF 'provostlaw06.SpecChecks'. -/
def specChecksUptoCard : Claim7 := { stood := { row := specChecksUptoRow, standIns := [], harness := (true, "7ae069f8485ac1f3010a08e018ae8b80ca3f9c0e6693d2afd4b4cbb9c20f13d4"), looks := true }, kinds := [], alts := [], laidByText := true, laidKinds := [.handle, .data], laidTests := true, laidLooks := .later }
def SpecChecksUptoCardSaid : Prop := Claim7.holds Tryz.pinned (.plain (OpenSpec.upto specChecksSpec)) specChecksUptoCard

/-- THE SECOND FORM's CARD OF 'provostlaw06.SpecLabels'. -/
def specLabelsUptoCard : Claim7 := { stood := { row := specLabelsUptoRow, standIns := [], harness := (true, "7ae069f8485ac1f3010a08e018ae8b80ca3f9c0e6693d2afd4b4cbb9c20f13d4"), looks := true }, kinds := [], alts := [], laidByText := true, laidKinds := [.handle, .data], laidTests := true, laidLooks := .later }
def SpecLabelsUptoCardSaid : Prop := Claim7.holds Tryz.pinned (.plain (OpenSpec.upto specLabelsSpec)) specLabelsUptoCard

/-- THE SECOND FORM's CARD OF 'provostlaw06.SpecClones'. -/
def specClonesUptoCard : Claim7 := { stood := { row := specClonesUptoRow, standIns := [], harness := (true, "7ae069f8485ac1f3010a08e018ae8b80ca3f9c0e6693d2afd4b4cbb9c20f13d4"), looks := true }, kinds := [], alts := [], laidByText := true, laidKinds := [.handle, .data], laidTests := true, laidLooks := .later }
def SpecClonesUptoCardSaid : Prop := Claim7.holds Tryz.pinned (.plain (OpenSpec.upto specClonesSpec)) specClonesUptoCard

/-- THE SECOND FORM's CARD OF 'provostlaw06.SpecUpdates'. -/
def specUpdatesUptoCard : Claim7 := { stood := { row := specUpdatesUptoRow, standIns := [], harness := (true, "7ae069f8485ac1f3010a08e018ae8b80ca3f9c0e6693d2afd4b4cbb9c20f13d4"), looks := true }, kinds := [], alts := [], laidByText := true, laidKinds := [.handle, .data], laidTests := true, laidLooks := .later }
def SpecUpdatesUptoCardSaid : Prop := Claim7.holds Tryz.pinned (.plain (OpenSpec.upto specUpdatesSpec)) specUpdatesUptoCard
end Rows
end Go.Proofs.YtfdcadnaginnpaaGreatDoor
