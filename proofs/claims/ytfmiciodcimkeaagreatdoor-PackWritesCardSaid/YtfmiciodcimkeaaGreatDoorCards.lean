/-
  DERIVED. GIVEN WITH THE SEED: THE CARDS: each row of YtfmiciodcimkeaaGreatDoorRows.lean that lists a variable, with what it lists TIED to the program's text (the seventh form; the later family's looks); each row that meets fmt, with fmt's text TOLD by the authors' own Lean function (tested against real Go, not proved from fmt's source: count such statements apart). THE CARD IS WHAT COUNTS. Prove the row's statement (the work); the ties are given (YtfmiciodcimkeaaGreatDoorTie.lean); close each card by the builder's one call (the guide's Derived/Test/ToyasCard.lean, 'card_holds'). Laid BY PROGRAM, IN A SANDBOX (cutbox-door.mjs). By AI agents, Wed Nov 11 2026. No macro, syntax, notation, axiom, sorry.
-/
import Derived.Test.YtfmiciodcimkeaaGreatDoorRows
import GoSem.ClaimSeven
namespace Go.Proofs.YtfmiciodcimkeaaGreatDoor
namespace Rows

/-- THE TIED CARD OF 'provostlaw07.PackWrites'. -/
def packWritesCard : Claim7 := { stood := { row := packWritesRow, standIns := [], harness := (true, "c346a10c028171e7a38e2ff41e23af64abc2f4b9998024bf3378d5e972bc2079"), looks := true }, kinds := [], alts := [], laidByText := true, laidKinds := [.handle, .data], laidTests := true, laidLooks := .later }
def PackWritesCardSaid : Prop := Claim7.holds Tryz.pinned (.plain (OpenSpec.ofChange packWritesSpec)) packWritesCard

/-- THE TIED CARD OF 'provostlaw07.PackBack'. -/
def packBackCard : Claim7 := { stood := { row := packBackRow, standIns := [], harness := (true, "c346a10c028171e7a38e2ff41e23af64abc2f4b9998024bf3378d5e972bc2079"), looks := true }, kinds := [], alts := [], laidByText := true, laidKinds := [.handle, .data], laidTests := true, laidLooks := .later }
def PackBackCardSaid : Prop := Claim7.holds Tryz.pinned (.plain (OpenSpec.ofChange packBackSpec)) packBackCard

/-- THE TIED CARD OF 'provostlaw07.PackCuts'. -/
def packCutsCard : Claim7 := { stood := { row := packCutsRow, standIns := [], harness := (true, "c346a10c028171e7a38e2ff41e23af64abc2f4b9998024bf3378d5e972bc2079"), looks := true }, kinds := [], alts := [], laidByText := true, laidKinds := [.handle, .data], laidTests := true, laidLooks := .later }
def PackCutsCardSaid : Prop := Claim7.holds Tryz.pinned (.plain (OpenSpec.ofChange packCutsSpec)) packCutsCard

/-- THE TIED CARD OF 'provostlaw07.PackLabels'. -/
def packLabelsCard : Claim7 := { stood := { row := packLabelsRow, standIns := [], harness := (true, "c346a10c028171e7a38e2ff41e23af64abc2f4b9998024bf3378d5e972bc2079"), looks := true }, kinds := [], alts := [], laidByText := true, laidKinds := [.handle, .data], laidTests := true, laidLooks := .later }
def PackLabelsCardSaid : Prop := Claim7.holds Tryz.pinned (.plain (OpenSpec.ofChange packLabelsSpec)) packLabelsCard

/-- THE TIED CARD OF 'provostlaw07.PackRaws'. -/
def packRawsCard : Claim7 := { stood := { row := packRawsRow, standIns := [], harness := (true, "c346a10c028171e7a38e2ff41e23af64abc2f4b9998024bf3378d5e972bc2079"), looks := true }, kinds := [], alts := [], laidByText := true, laidKinds := [.handle, .data], laidTests := true, laidLooks := .later }
def PackRawsCardSaid : Prop := Claim7.holds Tryz.pinned (.plain (OpenSpec.ofChange packRawsSpec)) packRawsCard

/-- THE TIED CARD OF 'provostlaw07.PackReads'. -/
def packReadsCard : Claim7 := { stood := { row := packReadsRow, standIns := [], harness := (true, "c346a10c028171e7a38e2ff41e23af64abc2f4b9998024bf3378d5e972bc2079"), looks := true }, kinds := [], alts := [], laidByText := true, laidKinds := [.handle, .data], laidTests := true, laidLooks := .later }
def PackReadsCardSaid : Prop := Claim7.holds Tryz.pinned (.plain (OpenSpec.ofChange packReadsSpec)) packReadsCard

/-- THE SECOND FORM's CARD OF 'provostlaw07.PackWrites'. -/
def packWritesUptoCard : Claim7 := { stood := { row := packWritesUptoRow, standIns := [], harness := (true, "c346a10c028171e7a38e2ff41e23af64abc2f4b9998024bf3378d5e972bc2079"), looks := true }, kinds := [], alts := [], laidByText := true, laidKinds := [.handle, .data], laidTests := true, laidLooks := .later }
def PackWritesUptoCardSaid : Prop := Claim7.holds Tryz.pinned (.plain (OpenSpec.upto packWritesSpec)) packWritesUptoCard

/-- THE SECOND FORM's CARD OF 'provostlaw07.PackBack'. -/
def packBackUptoCard : Claim7 := { stood := { row := packBackUptoRow, standIns := [], harness := (true, "c346a10c028171e7a38e2ff41e23af64abc2f4b9998024bf3378d5e972bc2079"), looks := true }, kinds := [], alts := [], laidByText := true, laidKinds := [.handle, .data], laidTests := true, laidLooks := .later }
def PackBackUptoCardSaid : Prop := Claim7.holds Tryz.pinned (.plain (OpenSpec.upto packBackSpec)) packBackUptoCard

/-- THE SECOND FORM's CARD OF 'provostlaw07.PackCuts'. -/
def packCutsUptoCard : Claim7 := { stood := { row := packCutsUptoRow, standIns := [], harness := (true, "c346a10c028171e7a38e2ff41e23af64abc2f4b9998024bf3378d5e972bc2079"), looks := true }, kinds := [], alts := [], laidByText := true, laidKinds := [.handle, .data], laidTests := true, laidLooks := .later }
def PackCutsUptoCardSaid : Prop := Claim7.holds Tryz.pinned (.plain (OpenSpec.upto packCutsSpec)) packCutsUptoCard

/-- THE SECOND FORM's CARD OF 'provostlaw07.PackLabels'. -/
def packLabelsUptoCard : Claim7 := { stood := { row := packLabelsUptoRow, standIns := [], harness := (true, "c346a10c028171e7a38e2ff41e23af64abc2f4b9998024bf3378d5e972bc2079"), looks := true }, kinds := [], alts := [], laidByText := true, laidKinds := [.handle, .data], laidTests := true, laidLooks := .later }
def PackLabelsUptoCardSaid : Prop := Claim7.holds Tryz.pinned (.plain (OpenSpec.upto packLabelsSpec)) packLabelsUptoCard

/-- THE SECOND FORM's CARD OF 'provostlaw07.PackRaws'. -/
def packRawsUptoCard : Claim7 := { stood := { row := packRawsUptoRow, standIns := [], harness := (true, "c346a10c028171e7a38e2ff41e23af64abc2f4b9998024bf3378d5e972bc2079"), looks := true }, kinds := [], alts := [], laidByText := true, laidKinds := [.handle, .data], laidTests := true, laidLooks := .later }
def PackRawsUptoCardSaid : Prop := Claim7.holds Tryz.pinned (.plain (OpenSpec.upto packRawsSpec)) packRawsUptoCard

/-- THE SECOND FORM's CARD OF 'provostlaw07.PackReads'. -/
def packReadsUptoCard : Claim7 := { stood := { row := packReadsUptoRow, standIns := [], harness := (true, "c346a10c028171e7a38e2ff41e23af64abc2f4b9998024bf3378d5e972bc2079"), looks := true }, kinds := [], alts := [], laidByText := true, laidKinds := [.handle, .data], laidTests := true, laidLooks := .later }
def PackReadsUptoCardSaid : Prop := Claim7.holds Tryz.pinned (.plain (OpenSpec.upto packReadsSpec)) packReadsUptoCard
end Rows
end Go.Proofs.YtfmiciodcimkeaaGreatDoor
