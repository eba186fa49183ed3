/-
  DERIVED. GIVEN WITH THE SEED: THE CARDS: each row of YthcpcbkipmocmaaDoorRows.lean that lists a variable, with what it lists TIED to the program's text (the seventh form; the later family's looks); each row that meets fmt, with fmt's text TOLD by the authors' own Lean function (tested against real Go, not proved from fmt's source: count such statements apart). THE CARD IS WHAT COUNTS. Prove the row's statement (the work); the ties are given (YthcpcbkipmocmaaDoorTie.lean); close each card by the builder's one call (the guide's Derived/Test/ToyasCard.lean, 'card_holds'). Laid BY PROGRAM, IN A SANDBOX (cutbox-door.mjs). By AI agents, Wed Nov 11 2026. No macro, syntax, notation, axiom, sorry.
-/
import Derived.Test.YthcpcbkipmocmaaDoorRows
import GoSem.ClaimSeven
namespace Go.Proofs.YthcpcbkipmocmaaDoor
namespace Rows

/-- THE TIED CARD OF 'provostlaw03.TextIs'. -/
def textIsCard : Claim7 := { stood := { row := textIsRow, standIns := [], harness := (true, "03d1664a58bfb6319806e17cb706492d79f5c22e8b1847d9d3178ec6e2236d97"), looks := false }, kinds := [], alts := [], laidByText := true, laidKinds := [.data], laidTests := true, laidLooks := .later }
def TextIsCardSaid : Prop := Claim7.holds Tryd.pinned (.plain (OpenSpec.ofChange textIsSpec)) textIsCard

/-- THE TIED CARD OF 'provostlaw03.TextNames'. -/
def textNamesCard : Claim7 := { stood := { row := textNamesRow, standIns := [], harness := (true, "03d1664a58bfb6319806e17cb706492d79f5c22e8b1847d9d3178ec6e2236d97"), looks := false }, kinds := [], alts := [], laidByText := true, laidKinds := [.data], laidTests := true, laidLooks := .later }
def TextNamesCardSaid : Prop := Claim7.holds Tryd.pinned (.plain (OpenSpec.ofChange textNamesSpec)) textNamesCard

/-- THE TIED CARD OF 'provostlaw03.TextSplits'. -/
def textSplitsCard : Claim7 := { stood := { row := textSplitsRow, standIns := [], harness := (true, "03d1664a58bfb6319806e17cb706492d79f5c22e8b1847d9d3178ec6e2236d97"), looks := false }, kinds := [], alts := [], laidByText := true, laidKinds := [.data], laidTests := true, laidLooks := .later }
def TextSplitsCardSaid : Prop := Claim7.holds Tryd.pinned (.plain (OpenSpec.ofChange textSplitsSpec)) textSplitsCard

/-- THE TIED CARD OF 'provostlaw03.TextParts'. -/
def textPartsCard : Claim7 := { stood := { row := textPartsRow, standIns := [], harness := (true, "03d1664a58bfb6319806e17cb706492d79f5c22e8b1847d9d3178ec6e2236d97"), looks := false }, kinds := [], alts := [], laidByText := true, laidKinds := [.data], laidTests := true, laidLooks := .later }
def TextPartsCardSaid : Prop := Claim7.holds Tryd.pinned (.plain (OpenSpec.ofChange textPartsSpec)) textPartsCard

/-- THE SECOND FORM's CARD OF 'provostlaw03.TextIs'. -/
def textIsUptoCard : Claim7 := { stood := { row := textIsUptoRow, standIns := [], harness := (true, "03d1664a58bfb6319806e17cb706492d79f5c22e8b1847d9d3178ec6e2236d97"), looks := false }, kinds := [], alts := [], laidByText := true, laidKinds := [.data], laidTests := true, laidLooks := .later }
def TextIsUptoCardSaid : Prop := Claim7.holds Tryd.pinned (.plain (OpenSpec.upto textIsSpec)) textIsUptoCard

/-- THE SECOND FORM's CARD OF 'provostlaw03.TextNames'. -/
def textNamesUptoCard : Claim7 := { stood := { row := textNamesUptoRow, standIns := [], harness := (true, "03d1664a58bfb6319806e17cb706492d79f5c22e8b1847d9d3178ec6e2236d97"), looks := false }, kinds := [], alts := [], laidByText := true, laidKinds := [.data], laidTests := true, laidLooks := .later }
def TextNamesUptoCardSaid : Prop := Claim7.holds Tryd.pinned (.plain (OpenSpec.upto textNamesSpec)) textNamesUptoCard

/-- THE SECOND FORM's CARD OF 'provostlaw03.TextSplits'. -/
def textSplitsUptoCard : Claim7 := { stood := { row := textSplitsUptoRow, standIns := [], harness := (true, "03d1664a58bfb6319806e17cb706492d79f5c22e8b1847d9d3178ec6e2236d97"), looks := false }, kinds := [], alts := [], laidByText := true, laidKinds := [.data], laidTests := true, laidLooks := .later }
def TextSplitsUptoCardSaid : Prop := Claim7.holds Tryd.pinned (.plain (OpenSpec.upto textSplitsSpec)) textSplitsUptoCard

/-- THE SECOND FORM's CARD OF 'provostlaw03.TextParts'. -/
def textPartsUptoCard : Claim7 := { stood := { row := textPartsUptoRow, standIns := [], harness := (true, "03d1664a58bfb6319806e17cb706492d79f5c22e8b1847d9d3178ec6e2236d97"), looks := false }, kinds := [], alts := [], laidByText := true, laidKinds := [.data], laidTests := true, laidLooks := .later }
def TextPartsUptoCardSaid : Prop := Claim7.holds Tryd.pinned (.plain (OpenSpec.upto textPartsSpec)) textPartsUptoCard
end Rows
end Go.Proofs.YthcpcbkipmocmaaDoor
