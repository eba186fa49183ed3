/-
  NARROWER THAN 'FOR EVERY INPUT', by the rows' own cells (each row's printed sentence says how): ConnDeaf: laid · ConnCalls: laid · ConnTells: laid.
  DERIVED. THE GIVEN ROWS OF THIS SEAT. 3 by the template 'for every input the law returns true; each argument reads behind the call as it read before'; 0 by the template 'total and deterministic' (their statements: YtdnjeianoioieaaGreatDoorTotals.lean).
  GIVEN WITH THE SEED: the statements are not yours to turn. If you find one false, say at which input.
  Laid BY PROGRAM, IN A SANDBOX (cutbox-rows.mjs): the forced cells as the released guide's own fill.sh prints them over the translation dc3852c090fda1e0… (all of the seat's roots in one cut). By AI agents, Wed Nov 11 2026. No macro, syntax, notation, axiom, sorry.
-/
import Derived.Test.YtdnjeianoioieaaGreatDoorChecked
import GoSem.Claim
import GoSem.ClaimJoined
import GoSem.ClaimMapViews
import Derived.JoinedTies
import Derived.KernelRfl
namespace Go.Proofs.YtdnjeianoioieaaGreatDoor
/- THE CELL 'sum', in the pinned program and in every row, IS THE sha256 OF THE DUMP (.gsa) THAT YtdnjeianoioieaaGreatDoorProg.lean LOADS. Nothing in Lean hashes anything: it is a label: what it is worth is what the hold of that sum in a sandbox is worth. -/
noncomputable def Tryz.pinned : Pinned := { name := "ytdnjeianoioieaagreatdoor", sum := "dc3852c090fda1e01fa58ff1e1319f82abcf78f9d848eb3871ddd3cdd95fb21e", checked := Tryz.checked }
namespace Rows
def none {H : Type} : Left H := { results := [], args := [] }

/- WHAT THE LISTED PACKAGE-LEVEL VARIABLES READ AS WHEN THE CALL BEGINS. Each datum BY PROGRAM (the guide's laid-datum.mjs) off the statement by which the dump's own 'gosem.cut.vars' lays the variable. In a bare row this is a premise. The card (YtdnjeianoioieaaGreatDoorCards.lean) ties it to the program's text. -/
def laid_errors_errorType {H : Type} : DataW H := .iface "internal/reflectlite.rtype" (.agg [.ptr (.lit (.string [101, 114, 114, 111, 114]))])
def laid_provost_text_marks {H : Type} : DataW H := .agg [.lit (.int .i64 0), .lit (.int .i64 0), .lit (.int .i64 0), .lit (.int .i64 0), .lit (.int .i64 0), .lit (.int .i64 0), .lit (.int .i64 0), .lit (.int .i64 0), .lit (.int .i64 0), .lit (.int .i64 0), .lit (.int .i64 0), .lit (.int .i64 0), .lit (.int .i64 0), .lit (.int .i64 7), .lit (.int .i64 6), .lit (.int .i64 0), .lit (.int .i64 0), .lit (.int .i64 0), .lit (.int .i64 0), .lit (.int .i64 0), .lit (.int .i64 0), .lit (.int .i64 0), .lit (.int .i64 0), .lit (.int .i64 0), .lit (.int .i64 0), .lit (.int .i64 0), .lit (.int .i64 0), .lit (.int .i64 0), .lit (.int .i64 0), .lit (.int .i64 0), .lit (.int .i64 0), .lit (.int .i64 0), .lit (.int .i64 0), .lit (.int .i64 0), .lit (.int .i64 0), .lit (.int .i64 0), .lit (.int .i64 0), .lit (.int .i64 0), .lit (.int .i64 0), .lit (.int .i64 0), .lit (.int .i64 0), .lit (.int .i64 0), .lit (.int .i64 0), .lit (.int .i64 0), .lit (.int .i64 0), .lit (.int .i64 0), .lit (.int .i64 0), .lit (.int .i64 0), .lit (.int .i64 0), .lit (.int .i64 0), .lit (.int .i64 0), .lit (.int .i64 0), .lit (.int .i64 0), .lit (.int .i64 0), .lit (.int .i64 0), .lit (.int .i64 0), .lit (.int .i64 0), .lit (.int .i64 0), .lit (.int .i64 0), .lit (.int .i64 0), .lit (.int .i64 0), .lit (.int .i64 0), .lit (.int .i64 0), .lit (.int .i64 4)]
def laid_provost_ask_kinds {H : Type} : DataW H := .agg [.agg [.lit (.string []), .lit (.string [])], .agg [.lit (.string [114, 117, 110]), .lit (.string [115])], .agg [.lit (.string [117, 112, 100, 97, 116, 101]), .lit (.string [117, 114, 115])], .agg [.lit (.string [107, 105, 108, 108]), .lit (.string [117, 103])], .agg [.lit (.string [111, 112, 101, 110]), .lit (.string [117, 99])], .agg [.lit (.string [119, 114, 105, 116, 101]), .lit (.string [105, 100])], .agg [.lit (.string [114, 101, 97, 100]), .lit (.string [105, 109])], .agg [.lit (.string [99, 108, 111, 115, 101]), .lit (.string [105])], .agg [.lit (.string [115, 116, 97, 116, 115]), .lit (.string [117])], .agg [.lit (.string [108, 105, 115, 116]), .lit (.string [108])], .agg [.lit (.string [103, 101, 116]), .lit (.string [117])], .agg [.lit (.string [119, 97, 116, 99, 104]), .lit (.string [114, 108])], .agg [.lit (.string [99, 97, 110, 99, 101, 108]), .lit (.string [105])]]

/-- 'provostlaw39.ConnDeaf': WHATEVER THE INPUT: true; the input reads as it did. -/
def connDeafSpec : ChangeSpec := { name := "connDeaf", fn := fun _ => fun
  | [d] => { results := [.lit (.bool true)], args := [d] }
  | _ => none }
def connDeafRow : OpenClaim := { program := "ytdnjeianoioieaagreatdoor", sum := "dc3852c090fda1e01fa58ff1e1319f82abcf78f9d848eb3871ddd3cdd95fb21e", func := "provost/provostlaw39.ConnDeaf", spec := "connDeaf", inPlace := ["internal/bytealg.IndexByteString", "internal/bytealg.IndexString", "internal/reflectlite.ValueOf", "(internal/reflectlite.Value).Type", "(internal/reflectlite.Value).IsNil", "internal/reflectlite.TypeOf", "(internal/reflectlite.Value).Elem", "(internal/reflectlite.Value).Set", "internal/abi.NoEscape", "internal/bytealg.MakeNoZero"], unfollowed := true, recurses := true, named := ["provost/ask.kinds", "provost/text.marks", "internal/bytealg.MaxLen", "errors.errorType"], apart := false, laid := [("errors.errorType", laid_errors_errorType), ("provost/text.marks", laid_provost_text_marks), ("provost/ask.kinds", laid_provost_ask_kinds)] }
def ConnDeafSaid : Prop := connDeafRow.holds Tryz.pinned (OpenSpec.ofChange connDeafSpec)

/-- ITS FALSE NEIGHBOUR: 'it returns false'. Refute it at one input. -/
def connDeafWrong : ChangeSpec := { name := "connDeaf", fn := fun _ => fun
  | [d] => { results := [.lit (.bool false)], args := [d] }
  | _ => none }
def ConnDeafWrongFalsely : Prop := connDeafRow.holds Tryz.pinned (OpenSpec.ofChange connDeafWrong)

/-- 'provostlaw39.ConnCalls': WHATEVER THE INPUT: true; the input reads as it did. -/
def connCallsSpec : ChangeSpec := { name := "connCalls", fn := fun _ => fun
  | [d1, d2] => { results := [.lit (.bool true)], args := [d1, d2] }
  | _ => none }
def connCallsRow : OpenClaim := { program := "ytdnjeianoioieaagreatdoor", sum := "dc3852c090fda1e01fa58ff1e1319f82abcf78f9d848eb3871ddd3cdd95fb21e", func := "provost/provostlaw39.ConnCalls", spec := "connCalls", inPlace := ["internal/bytealg.IndexByteString", "internal/bytealg.IndexString", "internal/reflectlite.ValueOf", "(internal/reflectlite.Value).Type", "(internal/reflectlite.Value).IsNil", "internal/reflectlite.TypeOf", "(internal/reflectlite.Value).Elem", "(internal/reflectlite.Value).Set", "internal/abi.NoEscape", "internal/bytealg.MakeNoZero"], unfollowed := true, recurses := true, named := ["provost/ask.kinds", "provost/text.marks", "internal/bytealg.MaxLen", "errors.errorType"], apart := false, laid := [("errors.errorType", laid_errors_errorType), ("provost/text.marks", laid_provost_text_marks), ("provost/ask.kinds", laid_provost_ask_kinds)] }
def ConnCallsSaid : Prop := connCallsRow.holds Tryz.pinned (OpenSpec.ofChange connCallsSpec)

/-- ITS FALSE NEIGHBOUR: 'it returns false'. Refute it at one input. -/
def connCallsWrong : ChangeSpec := { name := "connCalls", fn := fun _ => fun
  | [d1, d2] => { results := [.lit (.bool false)], args := [d1, d2] }
  | _ => none }
def ConnCallsWrongFalsely : Prop := connCallsRow.holds Tryz.pinned (OpenSpec.ofChange connCallsWrong)

/-- 'provostlaw39.ConnTells': WHATEVER THE INPUT: true; the input reads as it did. -/
def connTellsSpec : ChangeSpec := { name := "connTells", fn := fun _ => fun
  | [d1, d2] => { results := [.lit (.bool true)], args := [d1, d2] }
  | _ => none }
def connTellsRow : OpenClaim := { program := "ytdnjeianoioieaagreatdoor", sum := "dc3852c090fda1e01fa58ff1e1319f82abcf78f9d848eb3871ddd3cdd95fb21e", func := "provost/provostlaw39.ConnTells", spec := "connTells", inPlace := ["internal/bytealg.IndexByteString", "internal/bytealg.IndexString", "internal/reflectlite.ValueOf", "(internal/reflectlite.Value).Type", "(internal/reflectlite.Value).IsNil", "internal/reflectlite.TypeOf", "(internal/reflectlite.Value).Elem", "(internal/reflectlite.Value).Set", "internal/abi.NoEscape", "internal/bytealg.MakeNoZero"], unfollowed := true, recurses := true, named := ["provost/ask.kinds", "provost/text.marks", "internal/bytealg.MaxLen", "errors.errorType"], apart := false, laid := [("errors.errorType", laid_errors_errorType), ("provost/text.marks", laid_provost_text_marks), ("provost/ask.kinds", laid_provost_ask_kinds)] }
def ConnTellsSaid : Prop := connTellsRow.holds Tryz.pinned (OpenSpec.ofChange connTellsSpec)

/-- ITS FALSE NEIGHBOUR: 'it returns false'. Refute it at one input. -/
def connTellsWrong : ChangeSpec := { name := "connTells", fn := fun _ => fun
  | [d1, d2] => { results := [.lit (.bool false)], args := [d1, d2] }
  | _ => none }
def ConnTellsWrongFalsely : Prop := connTellsRow.holds Tryz.pinned (OpenSpec.ofChange connTellsWrong)

/- THE SECOND FORM. 'bulk': how many values and letters a reading holds, each counted each time it is reached (what is shared counts as often as it is met; a slice's spare places count too). A statement '..UptoSaid' is the law's where the arguments, and the package variables that the reading takes, are together of bulk at most 1048576: NARROWER than '..Said'. Prove '..Said' where nothing that the law and all that it calls make is longer than what came in: it says more and counts as full. Else prove '..UptoSaid'. A law counts once. -/
mutual
def uptoBulk {H : Type} : DataW H → Nat
  | .lit (.string bytes) => bytes.length + 1
  | .lit _ => 1
  | .nil => 1
  | .ptr d => uptoBulk d + 1
  | .slice elems spare => uptoBulkAll elems + uptoBulkAll spare + 1
  | .agg parts => uptoBulkAll parts + 1
  | .iface _ d => uptoBulk d + 1
  | .map entries => uptoBulkEntries entries + 1
  | .held _ => 1
def uptoBulkAll {H : Type} : List (DataW H) → Nat
  | [] => 0
  | d :: r => uptoBulk d + uptoBulkAll r
def uptoBulkEntries {H : Type} : List (Lit × DataW H) → Nat
  | [] => 0
  | x :: r => uptoBulkEntry x + uptoBulkEntries r
def uptoBulkEntry {H : Type} : Lit × DataW H → Nat
  | (.string bytes, d) => bytes.length + uptoBulk d + 1
  | (_, d) => uptoBulk d + 1
 end
def uptoSmall : (H : Type) → List (DataW H) → Bool := fun _ ds => decide (uptoBulkAll ds ≤ 1048576)
def OpenSpec.upto (s : _root_.Go.ChangeSpec) : _root_.Go.OpenSpec := { _root_.Go.OpenSpec.ofChange s with cond := some uptoSmall }

/-- 'provostlaw39.ConnDeaf', WHERE WHAT IT READS IS OF BULK AT MOST 1048576: true; the input reads as it did. -/
def connDeafUptoRow : OpenClaim := { program := "ytdnjeianoioieaagreatdoor", sum := "dc3852c090fda1e01fa58ff1e1319f82abcf78f9d848eb3871ddd3cdd95fb21e", func := "provost/provostlaw39.ConnDeaf", spec := "connDeaf", inPlace := ["internal/bytealg.IndexByteString", "internal/bytealg.IndexString", "internal/reflectlite.ValueOf", "(internal/reflectlite.Value).Type", "(internal/reflectlite.Value).IsNil", "internal/reflectlite.TypeOf", "(internal/reflectlite.Value).Elem", "(internal/reflectlite.Value).Set", "internal/abi.NoEscape", "internal/bytealg.MakeNoZero"], unfollowed := true, recurses := true, named := ["provost/ask.kinds", "provost/text.marks", "internal/bytealg.MaxLen", "errors.errorType"], apart := false, laid := [("errors.errorType", laid_errors_errorType), ("provost/text.marks", laid_provost_text_marks), ("provost/ask.kinds", laid_provost_ask_kinds)], narrowed := true }
def ConnDeafUptoSaid : Prop := connDeafUptoRow.holds Tryz.pinned (OpenSpec.upto connDeafSpec)

/-- 'provostlaw39.ConnCalls', WHERE WHAT IT READS IS OF BULK AT MOST 1048576: true; the input reads as it did. -/
def connCallsUptoRow : OpenClaim := { program := "ytdnjeianoioieaagreatdoor", sum := "dc3852c090fda1e01fa58ff1e1319f82abcf78f9d848eb3871ddd3cdd95fb21e", func := "provost/provostlaw39.ConnCalls", spec := "connCalls", inPlace := ["internal/bytealg.IndexByteString", "internal/bytealg.IndexString", "internal/reflectlite.ValueOf", "(internal/reflectlite.Value).Type", "(internal/reflectlite.Value).IsNil", "internal/reflectlite.TypeOf", "(internal/reflectlite.Value).Elem", "(internal/reflectlite.Value).Set", "internal/abi.NoEscape", "internal/bytealg.MakeNoZero"], unfollowed := true, recurses := true, named := ["provost/ask.kinds", "provost/text.marks", "internal/bytealg.MaxLen", "errors.errorType"], apart := false, laid := [("errors.errorType", laid_errors_errorType), ("provost/text.marks", laid_provost_text_marks), ("provost/ask.kinds", laid_provost_ask_kinds)], narrowed := true }
def ConnCallsUptoSaid : Prop := connCallsUptoRow.holds Tryz.pinned (OpenSpec.upto connCallsSpec)

/-- 'provostlaw39.ConnTells', WHERE WHAT IT READS IS OF BULK AT MOST 1048576: true; the input reads as it did. -/
def connTellsUptoRow : OpenClaim := { program := "ytdnjeianoioieaagreatdoor", sum := "dc3852c090fda1e01fa58ff1e1319f82abcf78f9d848eb3871ddd3cdd95fb21e", func := "provost/provostlaw39.ConnTells", spec := "connTells", inPlace := ["internal/bytealg.IndexByteString", "internal/bytealg.IndexString", "internal/reflectlite.ValueOf", "(internal/reflectlite.Value).Type", "(internal/reflectlite.Value).IsNil", "internal/reflectlite.TypeOf", "(internal/reflectlite.Value).Elem", "(internal/reflectlite.Value).Set", "internal/abi.NoEscape", "internal/bytealg.MakeNoZero"], unfollowed := true, recurses := true, named := ["provost/ask.kinds", "provost/text.marks", "internal/bytealg.MaxLen", "errors.errorType"], apart := false, laid := [("errors.errorType", laid_errors_errorType), ("provost/text.marks", laid_provost_text_marks), ("provost/ask.kinds", laid_provost_ask_kinds)], narrowed := true }
def ConnTellsUptoSaid : Prop := connTellsUptoRow.holds Tryz.pinned (OpenSpec.upto connTellsSpec)

end Rows
end Go.Proofs.YtdnjeianoioieaaGreatDoor
