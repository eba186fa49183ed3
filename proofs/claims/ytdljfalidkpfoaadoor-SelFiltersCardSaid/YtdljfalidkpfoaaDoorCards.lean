/-
  DERIVED. GIVEN WITH THE SEED: THE CARDS: each row of YtdljfalidkpfoaaDoorRows.lean that lists a variable, with what it lists TIED to the program's text (the seventh form; the later family's looks); each row that meets fmt, with fmt's text TOLD by the authors' own Lean function (tested against real Go, not proved from fmt's source: count such statements apart). THE CARD IS WHAT COUNTS. Prove the row's statement (the work); the ties are given (YtdljfalidkpfoaaDoorTie.lean); close each card by the builder's one call (the guide's Derived/Test/ToyasCard.lean, 'card_holds'). Laid BY PROGRAM, IN A SANDBOX (cutbox-door.mjs). By AI agents, Wed Nov 11 2026. No macro, syntax, notation, axiom, sorry.
-/
import Derived.Test.YtdljfalidkpfoaaDoorRows
import GoSem.ClaimSeven
namespace Go.Proofs.YtdljfalidkpfoaaDoor
namespace Rows

/-- THE TIED CARD OF 'provostlaw11.SelTexts'. -/
def selTextsCard : Claim7 := { stood := { row := selTextsRow, standIns := [], harness := (true, "528578b3f86f793ac0e8f4ad09532f4d4f40598749f181e93d3b44dccce2e91f"), looks := true }, kinds := [], alts := [], laidByText := true, laidKinds := [.data, .handle, .data, .pinned], laidTests := true, laidLooks := .later }
def SelTextsCardSaid : Prop := Claim7.holds Tryd.pinned (.plain (OpenSpec.ofChange selTextsSpec)) selTextsCard

/-- THE TIED CARD OF 'provostlaw11.SelBack'. -/
def selBackCard : Claim7 := { stood := { row := selBackRow, standIns := [], harness := (true, "528578b3f86f793ac0e8f4ad09532f4d4f40598749f181e93d3b44dccce2e91f"), looks := true }, kinds := [], alts := [], laidByText := true, laidKinds := [.data, .handle, .data, .pinned], laidTests := true, laidLooks := .later }
def SelBackCardSaid : Prop := Claim7.holds Tryd.pinned (.plain (OpenSpec.ofChange selBackSpec)) selBackCard

/-- THE TIED CARD OF 'provostlaw11.SelFilters'. -/
def selFiltersCard : Claim7 := { stood := { row := selFiltersRow, standIns := [], harness := (true, "528578b3f86f793ac0e8f4ad09532f4d4f40598749f181e93d3b44dccce2e91f"), looks := true }, kinds := [], alts := [], laidByText := true, laidKinds := [.data, .handle, .data, .pinned], laidTests := true, laidLooks := .later }
def SelFiltersCardSaid : Prop := Claim7.holds Tryd.pinned (.plain (OpenSpec.ofChange selFiltersSpec)) selFiltersCard

/-- THE TIED CARD OF 'provostlaw11.SelFits'. -/
def selFitsCard : Claim7 := { stood := { row := selFitsRow, standIns := [], harness := (true, "528578b3f86f793ac0e8f4ad09532f4d4f40598749f181e93d3b44dccce2e91f"), looks := true }, kinds := [], alts := [], laidByText := true, laidKinds := [.data, .handle, .data, .pinned], laidTests := true, laidLooks := .later }
def SelFitsCardSaid : Prop := Claim7.holds Tryd.pinned (.plain (OpenSpec.ofChange selFitsSpec)) selFitsCard

/-- THE TIED CARD OF 'provostlaw11.SelMerges'. -/
def selMergesCard : Claim7 := { stood := { row := selMergesRow, standIns := [], harness := (true, "528578b3f86f793ac0e8f4ad09532f4d4f40598749f181e93d3b44dccce2e91f"), looks := true }, kinds := [], alts := [], laidByText := true, laidKinds := [.data, .handle, .data, .pinned], laidTests := true, laidLooks := .later }
def SelMergesCardSaid : Prop := Claim7.holds Tryd.pinned (.plain (OpenSpec.ofChange selMergesSpec)) selMergesCard

/-- THE TIED CARD OF 'provostlaw11.SelBoth'. -/
def selBothCard : Claim7 := { stood := { row := selBothRow, standIns := [], harness := (true, "528578b3f86f793ac0e8f4ad09532f4d4f40598749f181e93d3b44dccce2e91f"), looks := true }, kinds := [], alts := [], laidByText := true, laidKinds := [.data, .handle, .data, .pinned], laidTests := true, laidLooks := .later }
def SelBothCardSaid : Prop := Claim7.holds Tryd.pinned (.plain (OpenSpec.ofChange selBothSpec)) selBothCard

/-- THE SECOND FORM's CARD OF 'provostlaw11.SelTexts'. -/
def selTextsUptoCard : Claim7 := { stood := { row := selTextsUptoRow, standIns := [], harness := (true, "528578b3f86f793ac0e8f4ad09532f4d4f40598749f181e93d3b44dccce2e91f"), looks := true }, kinds := [], alts := [], laidByText := true, laidKinds := [.data, .handle, .data, .pinned], laidTests := true, laidLooks := .later }
def SelTextsUptoCardSaid : Prop := Claim7.holds Tryd.pinned (.plain (OpenSpec.upto selTextsSpec)) selTextsUptoCard

/-- THE SECOND FORM's CARD OF 'provostlaw11.SelBack'. -/
def selBackUptoCard : Claim7 := { stood := { row := selBackUptoRow, standIns := [], harness := (true, "528578b3f86f793ac0e8f4ad09532f4d4f40598749f181e93d3b44dccce2e91f"), looks := true }, kinds := [], alts := [], laidByText := true, laidKinds := [.data, .handle, .data, .pinned], laidTests := true, laidLooks := .later }
def SelBackUptoCardSaid : Prop := Claim7.holds Tryd.pinned (.plain (OpenSpec.upto selBackSpec)) selBackUptoCard

/-- THE SECOND FORM's CARD OF 'provostlaw11.SelFilters'. -/
def selFiltersUptoCard : Claim7 := { stood := { row := selFiltersUptoRow, standIns := [], harness := (true, "528578b3f86f793ac0e8f4ad09532f4d4f40598749f181e93d3b44dccce2e91f"), looks := true }, kinds := [], alts := [], laidByText := true, laidKinds := [.data, .handle, .data, .pinned], laidTests := true, laidLooks := .later }
def SelFiltersUptoCardSaid : Prop := Claim7.holds Tryd.pinned (.plain (OpenSpec.upto selFiltersSpec)) selFiltersUptoCard

/-- THE SECOND FORM's CARD OF 'provostlaw11.SelFits'. -/
def selFitsUptoCard : Claim7 := { stood := { row := selFitsUptoRow, standIns := [], harness := (true, "528578b3f86f793ac0e8f4ad09532f4d4f40598749f181e93d3b44dccce2e91f"), looks := true }, kinds := [], alts := [], laidByText := true, laidKinds := [.data, .handle, .data, .pinned], laidTests := true, laidLooks := .later }
def SelFitsUptoCardSaid : Prop := Claim7.holds Tryd.pinned (.plain (OpenSpec.upto selFitsSpec)) selFitsUptoCard

/-- THE SECOND FORM's CARD OF 'provostlaw11.SelMerges'. -/
def selMergesUptoCard : Claim7 := { stood := { row := selMergesUptoRow, standIns := [], harness := (true, "528578b3f86f793ac0e8f4ad09532f4d4f40598749f181e93d3b44dccce2e91f"), looks := true }, kinds := [], alts := [], laidByText := true, laidKinds := [.data, .handle, .data, .pinned], laidTests := true, laidLooks := .later }
def SelMergesUptoCardSaid : Prop := Claim7.holds Tryd.pinned (.plain (OpenSpec.upto selMergesSpec)) selMergesUptoCard

/-- THE SECOND FORM's CARD OF 'provostlaw11.SelBoth'. -/
def selBothUptoCard : Claim7 := { stood := { row := selBothUptoRow, standIns := [], harness := (true, "528578b3f86f793ac0e8f4ad09532f4d4f40598749f181e93d3b44dccce2e91f"), looks := true }, kinds := [], alts := [], laidByText := true, laidKinds := [.data, .handle, .data, .pinned], laidTests := true, laidLooks := .later }
def SelBothUptoCardSaid : Prop := Claim7.holds Tryd.pinned (.plain (OpenSpec.upto selBothSpec)) selBothUptoCard
end Rows
end Go.Proofs.YtdljfalidkpfoaaDoor
