/-
  NARROWER THAN 'FOR EVERY INPUT', by the rows' own cells (each row's printed sentence says how): FailFirst: laid · FailWraps: laid · FailTells: laid · FailIs: laid.
  DERIVED. THE GIVEN ROWS OF THIS SEAT. 4 by the template 'for every input the law returns true; each argument reads behind the call as it read before'; 0 by the template 'total and deterministic' (their statements: YtemlgeljgnmfeaaDoorTotals.lean).
  GIVEN WITH THE SEED: the statements are not yours to turn. If you find one false, say at which input.
  Laid BY PROGRAM, IN A SANDBOX (cutbox-rows.mjs): the forced cells as the released guide's own fill.sh prints them over the translation fb03c9b292b617d3… (all of the seat's roots in one cut). By AI agents, Wed Nov 11 2026. No macro, syntax, notation, axiom, sorry.
-/
import Derived.Test.YtemlgeljgnmfeaaDoorChecked
import GoSem.Claim
import GoSem.ClaimJoined
import GoSem.ClaimMapViews
import Derived.JoinedTies
import Derived.KernelRfl
namespace Go.Proofs.YtemlgeljgnmfeaaDoor
/- THE CELL 'sum', in the pinned program and in every row, IS THE sha256 OF THE DUMP (.gsa) THAT YtemlgeljgnmfeaaDoorProg.lean LOADS. Nothing in Lean hashes anything: it is a label: what it is worth is what the hold of that sum in a sandbox is worth. -/
noncomputable def Tryd.pinned : Pinned := { name := "ytemlgeljgnmfeaadoor", sum := "fb03c9b292b617d37a2449222c33c990608e1090344197290b27590a9bd37f98", checked := Tryd.checked }
namespace Rows
def none {H : Type} : Left H := { results := [], args := [] }

/- WHAT THE LISTED PACKAGE-LEVEL VARIABLES READ AS WHEN THE CALL BEGINS. Each datum BY PROGRAM (the guide's laid-datum.mjs) off the statement by which the dump's own 'gosem.cut.vars' lays the variable. In a bare row this is a premise. The card (YtemlgeljgnmfeaaDoorCards.lean) ties it to the program's text. -/
def laid_errors_errorType {H : Type} : DataW H := .iface "internal/reflectlite.rtype" (.agg [.ptr (.lit (.string [101, 114, 114, 111, 114]))])

/-- 'provostlaw02.FailFirst': WHATEVER THE INPUT: true; the input reads as it did. -/
def failFirstSpec : ChangeSpec := { name := "failFirst", fn := fun _ => fun
  | [d] => { results := [.lit (.bool true)], args := [d] }
  | _ => none }
def failFirstRow : OpenClaim := { program := "ytemlgeljgnmfeaadoor", sum := "fb03c9b292b617d37a2449222c33c990608e1090344197290b27590a9bd37f98", func := "provost/provostlaw02.FailFirst", spec := "failFirst", inPlace := ["internal/reflectlite.ValueOf", "(internal/reflectlite.Value).Type", "(internal/reflectlite.Value).IsNil", "internal/reflectlite.TypeOf", "(internal/reflectlite.Value).Elem", "(internal/reflectlite.Value).Set", "internal/abi.NoEscape", "internal/bytealg.MakeNoZero"], unfollowed := true, recurses := true, named := ["errors.errorType"], apart := false, laid := [("errors.errorType", laid_errors_errorType)] }
def FailFirstSaid : Prop := failFirstRow.holds Tryd.pinned (OpenSpec.ofChange failFirstSpec)

/-- ITS FALSE NEIGHBOUR: 'it returns false'. Refute it at one input. -/
def failFirstWrong : ChangeSpec := { name := "failFirst", fn := fun _ => fun
  | [d] => { results := [.lit (.bool false)], args := [d] }
  | _ => none }
def FailFirstWrongFalsely : Prop := failFirstRow.holds Tryd.pinned (OpenSpec.ofChange failFirstWrong)

/-- 'provostlaw02.FailWraps': WHATEVER THE INPUT: true; the input reads as it did. -/
def failWrapsSpec : ChangeSpec := { name := "failWraps", fn := fun _ => fun
  | [d1, d2, d3] => { results := [.lit (.bool true)], args := [d1, d2, d3] }
  | _ => none }
def failWrapsRow : OpenClaim := { program := "ytemlgeljgnmfeaadoor", sum := "fb03c9b292b617d37a2449222c33c990608e1090344197290b27590a9bd37f98", func := "provost/provostlaw02.FailWraps", spec := "failWraps", inPlace := ["internal/reflectlite.ValueOf", "(internal/reflectlite.Value).Type", "(internal/reflectlite.Value).IsNil", "internal/reflectlite.TypeOf", "(internal/reflectlite.Value).Elem", "(internal/reflectlite.Value).Set", "internal/abi.NoEscape", "internal/bytealg.MakeNoZero"], unfollowed := true, recurses := true, named := ["errors.errorType"], apart := false, laid := [("errors.errorType", laid_errors_errorType)] }
def FailWrapsSaid : Prop := failWrapsRow.holds Tryd.pinned (OpenSpec.ofChange failWrapsSpec)

/-- ITS FALSE NEIGHBOUR: 'it returns false'. Refute it at one input. -/
def failWrapsWrong : ChangeSpec := { name := "failWraps", fn := fun _ => fun
  | [d1, d2, d3] => { results := [.lit (.bool false)], args := [d1, d2, d3] }
  | _ => none }
def FailWrapsWrongFalsely : Prop := failWrapsRow.holds Tryd.pinned (OpenSpec.ofChange failWrapsWrong)

/-- 'provostlaw02.FailTells': WHATEVER THE INPUT: true; the input reads as it did. -/
def failTellsSpec : ChangeSpec := { name := "failTells", fn := fun _ => fun
  | [d1, d2, d3] => { results := [.lit (.bool true)], args := [d1, d2, d3] }
  | _ => none }
def failTellsRow : OpenClaim := { program := "ytemlgeljgnmfeaadoor", sum := "fb03c9b292b617d37a2449222c33c990608e1090344197290b27590a9bd37f98", func := "provost/provostlaw02.FailTells", spec := "failTells", inPlace := ["internal/reflectlite.ValueOf", "(internal/reflectlite.Value).Type", "(internal/reflectlite.Value).IsNil", "internal/reflectlite.TypeOf", "(internal/reflectlite.Value).Elem", "(internal/reflectlite.Value).Set", "internal/abi.NoEscape", "internal/bytealg.MakeNoZero"], unfollowed := true, recurses := true, named := ["errors.errorType"], apart := false, laid := [("errors.errorType", laid_errors_errorType)] }
def FailTellsSaid : Prop := failTellsRow.holds Tryd.pinned (OpenSpec.ofChange failTellsSpec)

/-- ITS FALSE NEIGHBOUR: 'it returns false'. Refute it at one input. -/
def failTellsWrong : ChangeSpec := { name := "failTells", fn := fun _ => fun
  | [d1, d2, d3] => { results := [.lit (.bool false)], args := [d1, d2, d3] }
  | _ => none }
def FailTellsWrongFalsely : Prop := failTellsRow.holds Tryd.pinned (OpenSpec.ofChange failTellsWrong)

/-- 'provostlaw02.FailIs': WHATEVER THE INPUT: true; the input reads as it did. -/
def failIsSpec : ChangeSpec := { name := "failIs", fn := fun _ => fun
  | [d1, d2, d3] => { results := [.lit (.bool true)], args := [d1, d2, d3] }
  | _ => none }
def failIsRow : OpenClaim := { program := "ytemlgeljgnmfeaadoor", sum := "fb03c9b292b617d37a2449222c33c990608e1090344197290b27590a9bd37f98", func := "provost/provostlaw02.FailIs", spec := "failIs", inPlace := ["internal/reflectlite.ValueOf", "(internal/reflectlite.Value).Type", "(internal/reflectlite.Value).IsNil", "internal/reflectlite.TypeOf", "(internal/reflectlite.Value).Elem", "(internal/reflectlite.Value).Set", "internal/abi.NoEscape", "internal/bytealg.MakeNoZero"], unfollowed := true, recurses := true, named := ["errors.errorType"], apart := false, laid := [("errors.errorType", laid_errors_errorType)] }
def FailIsSaid : Prop := failIsRow.holds Tryd.pinned (OpenSpec.ofChange failIsSpec)

/-- ITS FALSE NEIGHBOUR: 'it returns false'. Refute it at one input. -/
def failIsWrong : ChangeSpec := { name := "failIs", fn := fun _ => fun
  | [d1, d2, d3] => { results := [.lit (.bool false)], args := [d1, d2, d3] }
  | _ => none }
def FailIsWrongFalsely : Prop := failIsRow.holds Tryd.pinned (OpenSpec.ofChange failIsWrong)

/- THE SECOND FORM. 'bulk': how many values and letters a reading holds, each counted each time it is reached (what is shared counts as often as it is met; a slice's spare places count too). A statement '..UptoSaid' is the law's where the arguments, and the package variables that the reading takes, are together of bulk at most 1048576: NARROWER than '..Said'. Prove '..Said' where nothing that the law and all that it calls make is longer than what came in: it says more and counts as full. Else prove '..UptoSaid'. A law counts once. -/
mutual
def uptoBulk {H : Type} : DataW H → Nat
  | .lit (.string bytes) => bytes.length + 1
  | .lit _ => 1
  | .nil => 1
  | .ptr d => uptoBulk d + 1
  | .slice elems spare => uptoBulkAll elems + uptoBulkAll spare + 1
  | .agg parts => uptoBulkAll parts + 1
  | .iface _ d => uptoBulk d + 1
  | .map entries => uptoBulkEntries entries + 1
  | .held _ => 1
def uptoBulkAll {H : Type} : List (DataW H) → Nat
  | [] => 0
  | d :: r => uptoBulk d + uptoBulkAll r
def uptoBulkEntries {H : Type} : List (Lit × DataW H) → Nat
  | [] => 0
  | x :: r => uptoBulkEntry x + uptoBulkEntries r
def uptoBulkEntry {H : Type} : Lit × DataW H → Nat
  | (.string bytes, d) => bytes.length + uptoBulk d + 1
  | (_, d) => uptoBulk d + 1
 end
def uptoSmall : (H : Type) → List (DataW H) → Bool := fun _ ds => decide (uptoBulkAll ds ≤ 1048576)
def OpenSpec.upto (s : _root_.Go.ChangeSpec) : _root_.Go.OpenSpec := { _root_.Go.OpenSpec.ofChange s with cond := some uptoSmall }

/-- 'provostlaw02.FailFirst', WHERE WHAT IT READS IS OF BULK AT MOST 1048576: true; the input reads as it did. -/
def failFirstUptoRow : OpenClaim := { program := "ytemlgeljgnmfeaadoor", sum := "fb03c9b292b617d37a2449222c33c990608e1090344197290b27590a9bd37f98", func := "provost/provostlaw02.FailFirst", spec := "failFirst", inPlace := ["internal/reflectlite.ValueOf", "(internal/reflectlite.Value).Type", "(internal/reflectlite.Value).IsNil", "internal/reflectlite.TypeOf", "(internal/reflectlite.Value).Elem", "(internal/reflectlite.Value).Set", "internal/abi.NoEscape", "internal/bytealg.MakeNoZero"], unfollowed := true, recurses := true, named := ["errors.errorType"], apart := false, laid := [("errors.errorType", laid_errors_errorType)], narrowed := true }
def FailFirstUptoSaid : Prop := failFirstUptoRow.holds Tryd.pinned (OpenSpec.upto failFirstSpec)

/-- 'provostlaw02.FailWraps', WHERE WHAT IT READS IS OF BULK AT MOST 1048576: true; the input reads as it did. -/
def failWrapsUptoRow : OpenClaim := { program := "ytemlgeljgnmfeaadoor", sum := "fb03c9b292b617d37a2449222c33c990608e1090344197290b27590a9bd37f98", func := "provost/provostlaw02.FailWraps", spec := "failWraps", inPlace := ["internal/reflectlite.ValueOf", "(internal/reflectlite.Value).Type", "(internal/reflectlite.Value).IsNil", "internal/reflectlite.TypeOf", "(internal/reflectlite.Value).Elem", "(internal/reflectlite.Value).Set", "internal/abi.NoEscape", "internal/bytealg.MakeNoZero"], unfollowed := true, recurses := true, named := ["errors.errorType"], apart := false, laid := [("errors.errorType", laid_errors_errorType)], narrowed := true }
def FailWrapsUptoSaid : Prop := failWrapsUptoRow.holds Tryd.pinned (OpenSpec.upto failWrapsSpec)

/-- 'provostlaw02.FailTells', WHERE WHAT IT READS IS OF BULK AT MOST 1048576: true; the input reads as it did. -/
def failTellsUptoRow : OpenClaim := { program := "ytemlgeljgnmfeaadoor", sum := "fb03c9b292b617d37a2449222c33c990608e1090344197290b27590a9bd37f98", func := "provost/provostlaw02.FailTells", spec := "failTells", inPlace := ["internal/reflectlite.ValueOf", "(internal/reflectlite.Value).Type", "(internal/reflectlite.Value).IsNil", "internal/reflectlite.TypeOf", "(internal/reflectlite.Value).Elem", "(internal/reflectlite.Value).Set", "internal/abi.NoEscape", "internal/bytealg.MakeNoZero"], unfollowed := true, recurses := true, named := ["errors.errorType"], apart := false, laid := [("errors.errorType", laid_errors_errorType)], narrowed := true }
def FailTellsUptoSaid : Prop := failTellsUptoRow.holds Tryd.pinned (OpenSpec.upto failTellsSpec)

/-- 'provostlaw02.FailIs', WHERE WHAT IT READS IS OF BULK AT MOST 1048576: true; the input reads as it did. -/
def failIsUptoRow : OpenClaim := { program := "ytemlgeljgnmfeaadoor", sum := "fb03c9b292b617d37a2449222c33c990608e1090344197290b27590a9bd37f98", func := "provost/provostlaw02.FailIs", spec := "failIs", inPlace := ["internal/reflectlite.ValueOf", "(internal/reflectlite.Value).Type", "(internal/reflectlite.Value).IsNil", "internal/reflectlite.TypeOf", "(internal/reflectlite.Value).Elem", "(internal/reflectlite.Value).Set", "internal/abi.NoEscape", "internal/bytealg.MakeNoZero"], unfollowed := true, recurses := true, named := ["errors.errorType"], apart := false, laid := [("errors.errorType", laid_errors_errorType)], narrowed := true }
def FailIsUptoSaid : Prop := failIsUptoRow.holds Tryd.pinned (OpenSpec.upto failIsSpec)

end Rows
end Go.Proofs.YtemlgeljgnmfeaaDoor
