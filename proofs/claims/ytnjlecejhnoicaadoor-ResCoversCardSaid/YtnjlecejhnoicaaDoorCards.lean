/-
  DERIVED. GIVEN WITH THE SEED: THE CARDS: each row of YtnjlecejhnoicaaDoorRows.lean that lists a variable, with what it lists TIED to the program's text (the seventh form; the later family's looks); each row that meets fmt, with fmt's text TOLD by the authors' own Lean function (tested against real Go, not proved from fmt's source: count such statements apart). THE CARD IS WHAT COUNTS. Prove the row's statement (the work); the ties are given (YtnjlecejhnoicaaDoorTie.lean); close each card by the builder's one call (the guide's Derived/Test/ToyasCard.lean, 'card_holds'). Laid BY PROGRAM, IN A SANDBOX (cutbox-door.mjs). By AI agents, Wed Nov 11 2026. No macro, syntax, notation, axiom, sorry.
-/
import Derived.Test.YtnjlecejhnoicaaDoorRows
import GoSem.ClaimSeven
namespace Go.Proofs.YtnjlecejhnoicaaDoor
namespace Rows

/-- THE TIED CARD OF 'provostlaw14.ResCovers'. -/
def resCoversCard : Claim7 := { stood := { row := resCoversRow, standIns := [], harness := (true, "0f52080e14ed346c7fca3f55edb9a2d2abe0779652218b92f6ba98ac0274b18e"), looks := false }, kinds := [], alts := [], laidByText := true, laidKinds := [.data], laidTests := true, laidLooks := .later }
def ResCoversCardSaid : Prop := Claim7.holds Tryd.pinned (.plain (OpenSpec.ofChange resCoversSpec)) resCoversCard

/-- THE SECOND FORM's CARD OF 'provostlaw14.ResCovers'. -/
def resCoversUptoCard : Claim7 := { stood := { row := resCoversUptoRow, standIns := [], harness := (true, "0f52080e14ed346c7fca3f55edb9a2d2abe0779652218b92f6ba98ac0274b18e"), looks := false }, kinds := [], alts := [], laidByText := true, laidKinds := [.data], laidTests := true, laidLooks := .later }
def ResCoversUptoCardSaid : Prop := Claim7.holds Tryd.pinned (.plain (OpenSpec.upto resCoversSpec)) resCoversUptoCard
end Rows
end Go.Proofs.YtnjlecejhnoicaaDoor
