/-
  DERIVED. GIVEN WITH THE SEED: THE CARDS: each row of YtemlgeljgnmfeaaDoorRows.lean that lists a variable, with what it lists TIED to the program's text (the seventh form; the later family's looks); each row that meets fmt, with fmt's text TOLD by the authors' own Lean function (tested against real Go, not proved from fmt's source: count such statements apart). THE CARD IS WHAT COUNTS. Prove the row's statement (the work); the ties are given (YtemlgeljgnmfeaaDoorTie.lean); close each card by the builder's one call (the guide's Derived/Test/ToyasCard.lean, 'card_holds'). Laid BY PROGRAM, IN A SANDBOX (cutbox-door.mjs). By AI agents, Wed Nov 11 2026. No macro, syntax, notation, axiom, sorry.
-/
import Derived.Test.YtemlgeljgnmfeaaDoorRows
import GoSem.ClaimSeven
namespace Go.Proofs.YtemlgeljgnmfeaaDoor
namespace Rows

/-- THE TIED CARD OF 'provostlaw02.FailFirst'. -/
def failFirstCard : Claim7 := { stood := { row := failFirstRow, standIns := [], harness := (true, "db7697ec4989ed2b539c94377c2c9d17dd17dcc2663d7df0ad147a7631be0458"), looks := true }, kinds := [], alts := [], laidByText := true, laidKinds := [.handle], laidTests := true, laidLooks := .later }
def FailFirstCardSaid : Prop := Claim7.holds Tryd.pinned (.plain (OpenSpec.ofChange failFirstSpec)) failFirstCard

/-- THE TIED CARD OF 'provostlaw02.FailWraps'. -/
def failWrapsCard : Claim7 := { stood := { row := failWrapsRow, standIns := [], harness := (true, "db7697ec4989ed2b539c94377c2c9d17dd17dcc2663d7df0ad147a7631be0458"), looks := true }, kinds := [], alts := [], laidByText := true, laidKinds := [.handle], laidTests := true, laidLooks := .later }
def FailWrapsCardSaid : Prop := Claim7.holds Tryd.pinned (.plain (OpenSpec.ofChange failWrapsSpec)) failWrapsCard

/-- THE TIED CARD OF 'provostlaw02.FailTells'. -/
def failTellsCard : Claim7 := { stood := { row := failTellsRow, standIns := [], harness := (true, "db7697ec4989ed2b539c94377c2c9d17dd17dcc2663d7df0ad147a7631be0458"), looks := true }, kinds := [], alts := [], laidByText := true, laidKinds := [.handle], laidTests := true, laidLooks := .later }
def FailTellsCardSaid : Prop := Claim7.holds Tryd.pinned (.plain (OpenSpec.ofChange failTellsSpec)) failTellsCard

/-- THE TIED CARD OF 'provostlaw02.FailIs'. -/
def failIsCard : Claim7 := { stood := { row := failIsRow, standIns := [], harness := (true, "db7697ec4989ed2b539c94377c2c9d17dd17dcc2663d7df0ad147a7631be0458"), looks := true }, kinds := [], alts := [], laidByText := true, laidKinds := [.handle], laidTests := true, laidLooks := .later }
def FailIsCardSaid : Prop := Claim7.holds Tryd.pinned (.plain (OpenSpec.ofChange failIsSpec)) failIsCard

/-- THE SECOND FORM's CARD OF 'provostlaw02.FailFirst'. -/
def failFirstUptoCard : Claim7 := { stood := { row := failFirstUptoRow, standIns := [], harness := (true, "db7697ec4989ed2b539c94377c2c9d17dd17dcc2663d7df0ad147a7631be0458"), looks := true }, kinds := [], alts := [], laidByText := true, laidKinds := [.handle], laidTests := true, laidLooks := .later }
def FailFirstUptoCardSaid : Prop := Claim7.holds Tryd.pinned (.plain (OpenSpec.upto failFirstSpec)) failFirstUptoCard

/-- THE SECOND FORM's CARD OF 'provostlaw02.FailWraps'. -/
def failWrapsUptoCard : Claim7 := { stood := { row := failWrapsUptoRow, standIns := [], harness := (true, "db7697ec4989ed2b539c94377c2c9d17dd17dcc2663d7df0ad147a7631be0458"), looks := true }, kinds := [], alts := [], laidByText := true, laidKinds := [.handle], laidTests := true, laidLooks := .later }
def FailWrapsUptoCardSaid : Prop := Claim7.holds Tryd.pinned (.plain (OpenSpec.upto failWrapsSpec)) failWrapsUptoCard

/-- THE SECOND FORM's CARD OF 'provostlaw02.FailTells'. -/
def failTellsUptoCard : Claim7 := { stood := { row := failTellsUptoRow, standIns := [], harness := (true, "db7697ec4989ed2b539c94377c2c9d17dd17dcc2663d7df0ad147a7631be0458"), looks := true }, kinds := [], alts := [], laidByText := true, laidKinds := [.handle], laidTests := true, laidLooks := .later }
def FailTellsUptoCardSaid : Prop := Claim7.holds Tryd.pinned (.plain (OpenSpec.upto failTellsSpec)) failTellsUptoCard

/-- THE SECOND FORM's CARD OF 'provostlaw02.FailIs'. -/
def failIsUptoCard : Claim7 := { stood := { row := failIsUptoRow, standIns := [], harness := (true, "db7697ec4989ed2b539c94377c2c9d17dd17dcc2663d7df0ad147a7631be0458"), looks := true }, kinds := [], alts := [], laidByText := true, laidKinds := [.handle], laidTests := true, laidLooks := .later }
def FailIsUptoCardSaid : Prop := Claim7.holds Tryd.pinned (.plain (OpenSpec.upto failIsSpec)) failIsUptoCard
end Rows
end Go.Proofs.YtemlgeljgnmfeaaDoor
