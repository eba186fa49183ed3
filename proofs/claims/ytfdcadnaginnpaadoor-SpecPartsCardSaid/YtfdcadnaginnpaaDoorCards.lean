/-
  DERIVED. GIVEN WITH THE SEED: THE CARDS: each row of YtfdcadnaginnpaaDoorRows.lean that lists a variable, with what it lists TIED to the program's text (the seventh form; the later family's looks); each row that meets fmt, with fmt's text TOLD by the authors' own Lean function (tested against real Go, not proved from fmt's source: count such statements apart). THE CARD IS WHAT COUNTS. Prove the row's statement (the work); the ties are given (YtfdcadnaginnpaaDoorTie.lean); close each card by the builder's one call (the guide's Derived/Test/ToyasCard.lean, 'card_holds'). Laid BY PROGRAM, IN A SANDBOX (cutbox-door.mjs). By AI agents, Wed Nov 11 2026. No macro, syntax, notation, axiom, sorry.
-/
import Derived.Test.YtfdcadnaginnpaaDoorRows
import GoSem.ClaimSeven
namespace Go.Proofs.YtfdcadnaginnpaaDoor
namespace Rows

/-- THE TIED CARD OF 'provostlaw06.SpecParts'. -/
def specPartsCard : Claim7 := { stood := { row := specPartsRow, standIns := [], harness := (true, "247b1fbcae64349f2f434f819d2c89dc3ab9657b7345cf9701e6d8ddd55ff000"), looks := true }, kinds := [], alts := [], laidByText := true, laidKinds := [.handle, .data], laidTests := true, laidLooks := .later }
def SpecPartsCardSaid : Prop := Claim7.holds Tryd.pinned (.plain (OpenSpec.ofChange specPartsSpec)) specPartsCard

/-- THE SECOND FORM's CARD OF 'provostlaw06.SpecParts'. -/
def specPartsUptoCard : Claim7 := { stood := { row := specPartsUptoRow, standIns := [], harness := (true, "247b1fbcae64349f2f434f819d2c89dc3ab9657b7345cf9701e6d8ddd55ff000"), looks := true }, kinds := [], alts := [], laidByText := true, laidKinds := [.handle, .data], laidTests := true, laidLooks := .later }
def SpecPartsUptoCardSaid : Prop := Claim7.holds Tryd.pinned (.plain (OpenSpec.upto specPartsSpec)) specPartsUptoCard
end Rows
end Go.Proofs.YtfdcadnaginnpaaDoor
