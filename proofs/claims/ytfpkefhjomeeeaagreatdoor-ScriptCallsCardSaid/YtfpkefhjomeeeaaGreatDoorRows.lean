/-
  NARROWER THAN 'FOR EVERY INPUT', by the rows' own cells (each row's printed sentence says how): ScriptCalls: laid · ScriptFrames: laid.
  DERIVED. THE GIVEN ROWS OF THIS SEAT. 2 by the template 'for every input the law returns true; each argument reads behind the call as it read before'; 0 by the template 'total and deterministic' (their statements: YtfpkefhjomeeeaaGreatDoorTotals.lean).
  GIVEN WITH THE SEED: the statements are not yours to turn. If you find one false, say at which input.
  Laid BY PROGRAM, IN A SANDBOX (cutbox-rows.mjs): the forced cells as the released guide's own fill.sh prints them over the translation 97646fba21af8b77… (all of the seat's roots in one cut). By AI agents, Wed Nov 11 2026. No macro, syntax, notation, axiom, sorry.
-/
import Derived.Test.YtfpkefhjomeeeaaGreatDoorChecked
import GoSem.PinnedTables
import GoSem.Claim
import GoSem.ClaimJoined
import GoSem.ClaimMapViews
import Derived.JoinedTies
import Derived.KernelRfl
namespace Go.Proofs.YtfpkefhjomeeeaaGreatDoor
/- THE CELL 'sum', in the pinned program and in every row, IS THE sha256 OF THE DUMP (.gsa) THAT YtfpkefhjomeeeaaGreatDoorProg.lean LOADS. Nothing in Lean hashes anything: it is a label: what it is worth is what the hold of that sum in a sandbox is worth. -/
noncomputable def Tryz.pinned : Pinned := { name := "ytfpkefhjomeeeaagreatdoor", sum := "97646fba21af8b77197e0344863eaea00ad826b857413c90e73e51b55525e6be", checked := Tryz.checked }
namespace Rows
def none {H : Type} : Left H := { results := [], args := [] }

/- WHAT THE LISTED PACKAGE-LEVEL VARIABLES READ AS WHEN THE CALL BEGINS. Each datum BY PROGRAM (the guide's laid-datum.mjs) off the statement by which the dump's own 'gosem.cut.vars' lays the variable. In a bare row this is a premise. The card (YtfpkefhjomeeeaaGreatDoorCards.lean) ties it to the program's text. -/
def laid_unicode_utf8_acceptRanges {H : Type} : DataW H := .agg [.agg [.lit (.int .u8 128), .lit (.int .u8 191)], .agg [.lit (.int .u8 160), .lit (.int .u8 191)], .agg [.lit (.int .u8 128), .lit (.int .u8 159)], .agg [.lit (.int .u8 144), .lit (.int .u8 191)], .agg [.lit (.int .u8 128), .lit (.int .u8 143)], .agg [.lit (.int .u8 0), .lit (.int .u8 0)], .agg [.lit (.int .u8 0), .lit (.int .u8 0)], .agg [.lit (.int .u8 0), .lit (.int .u8 0)], .agg [.lit (.int .u8 0), .lit (.int .u8 0)], .agg [.lit (.int .u8 0), .lit (.int .u8 0)], .agg [.lit (.int .u8 0), .lit (.int .u8 0)], .agg [.lit (.int .u8 0), .lit (.int .u8 0)], .agg [.lit (.int .u8 0), .lit (.int .u8 0)], .agg [.lit (.int .u8 0), .lit (.int .u8 0)], .agg [.lit (.int .u8 0), .lit (.int .u8 0)], .agg [.lit (.int .u8 0), .lit (.int .u8 0)]]
def laid_errors_errorType {H : Type} : DataW H := .iface "internal/reflectlite.rtype" (.agg [.ptr (.lit (.string [101, 114, 114, 111, 114]))])
def laid_provost_text_marks {H : Type} : DataW H := .agg [.lit (.int .i64 0), .lit (.int .i64 0), .lit (.int .i64 0), .lit (.int .i64 0), .lit (.int .i64 0), .lit (.int .i64 0), .lit (.int .i64 0), .lit (.int .i64 0), .lit (.int .i64 0), .lit (.int .i64 0), .lit (.int .i64 0), .lit (.int .i64 0), .lit (.int .i64 0), .lit (.int .i64 7), .lit (.int .i64 6), .lit (.int .i64 0), .lit (.int .i64 0), .lit (.int .i64 0), .lit (.int .i64 0), .lit (.int .i64 0), .lit (.int .i64 0), .lit (.int .i64 0), .lit (.int .i64 0), .lit (.int .i64 0), .lit (.int .i64 0), .lit (.int .i64 0), .lit (.int .i64 0), .lit (.int .i64 0), .lit (.int .i64 0), .lit (.int .i64 0), .lit (.int .i64 0), .lit (.int .i64 0), .lit (.int .i64 0), .lit (.int .i64 0), .lit (.int .i64 0), .lit (.int .i64 0), .lit (.int .i64 0), .lit (.int .i64 0), .lit (.int .i64 0), .lit (.int .i64 0), .lit (.int .i64 0), .lit (.int .i64 0), .lit (.int .i64 0), .lit (.int .i64 0), .lit (.int .i64 0), .lit (.int .i64 0), .lit (.int .i64 0), .lit (.int .i64 0), .lit (.int .i64 0), .lit (.int .i64 0), .lit (.int .i64 0), .lit (.int .i64 0), .lit (.int .i64 0), .lit (.int .i64 0), .lit (.int .i64 0), .lit (.int .i64 0), .lit (.int .i64 0), .lit (.int .i64 0), .lit (.int .i64 0), .lit (.int .i64 0), .lit (.int .i64 0), .lit (.int .i64 0), .lit (.int .i64 0), .lit (.int .i64 4)]
def laid_provost_ask_kinds {H : Type} : DataW H := .agg [.agg [.lit (.string []), .lit (.string [])], .agg [.lit (.string [114, 117, 110]), .lit (.string [115])], .agg [.lit (.string [117, 112, 100, 97, 116, 101]), .lit (.string [117, 114, 115])], .agg [.lit (.string [107, 105, 108, 108]), .lit (.string [117, 103])], .agg [.lit (.string [111, 112, 101, 110]), .lit (.string [117, 99])], .agg [.lit (.string [119, 114, 105, 116, 101]), .lit (.string [105, 100])], .agg [.lit (.string [114, 101, 97, 100]), .lit (.string [105, 109])], .agg [.lit (.string [99, 108, 111, 115, 101]), .lit (.string [105])], .agg [.lit (.string [115, 116, 97, 116, 115]), .lit (.string [117])], .agg [.lit (.string [108, 105, 115, 116]), .lit (.string [108])], .agg [.lit (.string [103, 101, 116]), .lit (.string [117])], .agg [.lit (.string [119, 97, 116, 99, 104]), .lit (.string [114, 108])], .agg [.lit (.string [99, 97, 110, 99, 101, 108]), .lit (.string [105])]]
def laid_provost_script_verbs {H : Type} : DataW H := .agg [.agg [.lit (.string []), .lit (.int .i64 0), .lit (.int .i64 0)], .agg [.lit (.string [99, 111, 110, 110, 101, 99, 116]), .lit (.int .i64 0), .lit (.int .i64 0)], .agg [.lit (.string [98, 121, 116, 101, 115]), .lit (.int .i64 1), .lit (.int .i64 1)], .agg [.lit (.string [114, 101, 97, 100]), .lit (.int .i64 1), .lit (.int .i64 0)], .agg [.lit (.string [104, 97, 110, 103]), .lit (.int .i64 1), .lit (.int .i64 0)], .agg [.lit (.string [116, 105, 99, 107]), .lit (.int .i64 0), .lit (.int .i64 0)], .agg [.lit (.string [114, 111, 117, 110, 100]), .lit (.int .i64 0), .lit (.int .i64 0)], .agg [.lit (.string [112, 105, 99, 107]), .lit (.int .i64 1), .lit (.int .i64 0)], .agg [.lit (.string [102, 97, 105, 108]), .lit (.int .i64 1), .lit (.int .i64 0)], .agg [.lit (.string [101, 120, 105, 116]), .lit (.int .i64 3), .lit (.int .i64 0)], .agg [.lit (.string [112, 114, 111, 98, 101]), .lit (.int .i64 3), .lit (.int .i64 0)], .agg [.lit (.string [103, 114, 111, 119]), .lit (.int .i64 5), .lit (.int .i64 0)], .agg [.lit (.string [115, 116, 114, 97, 121]), .lit (.int .i64 1), .lit (.int .i64 0)], .agg [.lit (.string [108, 105, 115, 116]), .lit (.int .i64 1), .lit (.int .i64 0)], .agg [.lit (.string [103, 101, 116]), .lit (.int .i64 2), .lit (.int .i64 0)], .agg [.lit (.string [115, 116, 97, 116, 115]), .lit (.int .i64 2), .lit (.int .i64 0)], .agg [.lit (.string [107, 105, 108, 108]), .lit (.int .i64 3), .lit (.int .i64 0)], .agg [.lit (.string [111, 112, 101, 110]), .lit (.int .i64 3), .lit (.int .i64 0)], .agg [.lit (.string [119, 114, 105, 116, 101]), .lit (.int .i64 2), .lit (.int .i64 2)], .agg [.lit (.string [116, 97, 107, 101]), .lit (.int .i64 3), .lit (.int .i64 0)], .agg [.lit (.string [99, 108, 111, 115, 101]), .lit (.int .i64 2), .lit (.int .i64 0)], .agg [.lit (.string [119, 97, 116, 99, 104]), .lit (.int .i64 2), .lit (.int .i64 0)], .agg [.lit (.string [99, 97, 110, 99, 101, 108]), .lit (.int .i64 2), .lit (.int .i64 0)], .agg [.lit (.string [114, 117, 110]), .lit (.int .i64 4), .lit (.int .i64 2)]]
/-- One of Go's own tables, pinned by name: the form's constant. -/
def laid_unicode_utf8_first : DataW Unit := Go.Pinned.utf8First

/-- 'provostlaw45.ScriptCalls': WHATEVER THE INPUT: true; the input reads as it did. -/
def scriptCallsSpec : ChangeSpec := { name := "scriptCalls", fn := fun _ => fun
  | [d] => { results := [.lit (.bool true)], args := [d] }
  | _ => none }
def scriptCallsRow : OpenClaim := { program := "ytfpkefhjomeeeaagreatdoor", sum := "97646fba21af8b77197e0344863eaea00ad826b857413c90e73e51b55525e6be", func := "provost/provostlaw45.ScriptCalls", spec := "scriptCalls", inPlace := ["internal/bytealg.CountString", "internal/bytealg.IndexByteString", "internal/bytealg.IndexString", "internal/abi.NoEscape", "internal/bytealg.MakeNoZero", "internal/reflectlite.ValueOf", "(internal/reflectlite.Value).Type", "(internal/reflectlite.Value).IsNil", "internal/reflectlite.TypeOf", "(internal/reflectlite.Value).Elem", "(internal/reflectlite.Value).Set"], unfollowed := true, recurses := true, named := ["provost/script.verbs", "unicode/utf8.first", "unicode/utf8.acceptRanges", "internal/bytealg.MaxLen", "provost/text.marks", "provost/ask.kinds", "errors.errorType"], apart := false, laid := [("unicode/utf8.acceptRanges", laid_unicode_utf8_acceptRanges), ("errors.errorType", laid_errors_errorType), ("provost/text.marks", laid_provost_text_marks), ("provost/ask.kinds", laid_provost_ask_kinds), ("provost/script.verbs", laid_provost_script_verbs), ("unicode/utf8.first", laid_unicode_utf8_first)] }
def ScriptCallsSaid : Prop := scriptCallsRow.holds Tryz.pinned (OpenSpec.ofChange scriptCallsSpec)

/-- ITS FALSE NEIGHBOUR: 'it returns false'. Refute it at one input. -/
def scriptCallsWrong : ChangeSpec := { name := "scriptCalls", fn := fun _ => fun
  | [d] => { results := [.lit (.bool false)], args := [d] }
  | _ => none }
def ScriptCallsWrongFalsely : Prop := scriptCallsRow.holds Tryz.pinned (OpenSpec.ofChange scriptCallsWrong)

/-- 'provostlaw45.ScriptFrames': WHATEVER THE INPUT: true; the input reads as it did. -/
def scriptFramesSpec : ChangeSpec := { name := "scriptFrames", fn := fun _ => fun
  | [d] => { results := [.lit (.bool true)], args := [d] }
  | _ => none }
def scriptFramesRow : OpenClaim := { program := "ytfpkefhjomeeeaagreatdoor", sum := "97646fba21af8b77197e0344863eaea00ad826b857413c90e73e51b55525e6be", func := "provost/provostlaw45.ScriptFrames", spec := "scriptFrames", inPlace := ["internal/bytealg.CountString", "internal/bytealg.IndexByteString", "internal/bytealg.IndexString", "internal/abi.NoEscape", "internal/bytealg.MakeNoZero", "internal/reflectlite.ValueOf", "(internal/reflectlite.Value).Type", "(internal/reflectlite.Value).IsNil", "internal/reflectlite.TypeOf", "(internal/reflectlite.Value).Elem", "(internal/reflectlite.Value).Set"], unfollowed := true, recurses := true, named := ["provost/script.verbs", "unicode/utf8.first", "unicode/utf8.acceptRanges", "internal/bytealg.MaxLen", "provost/text.marks", "provost/ask.kinds", "errors.errorType"], apart := false, laid := [("unicode/utf8.acceptRanges", laid_unicode_utf8_acceptRanges), ("errors.errorType", laid_errors_errorType), ("provost/text.marks", laid_provost_text_marks), ("provost/ask.kinds", laid_provost_ask_kinds), ("provost/script.verbs", laid_provost_script_verbs), ("unicode/utf8.first", laid_unicode_utf8_first)] }
def ScriptFramesSaid : Prop := scriptFramesRow.holds Tryz.pinned (OpenSpec.ofChange scriptFramesSpec)

/-- ITS FALSE NEIGHBOUR: 'it returns false'. Refute it at one input. -/
def scriptFramesWrong : ChangeSpec := { name := "scriptFrames", fn := fun _ => fun
  | [d] => { results := [.lit (.bool false)], args := [d] }
  | _ => none }
def ScriptFramesWrongFalsely : Prop := scriptFramesRow.holds Tryz.pinned (OpenSpec.ofChange scriptFramesWrong)

/- THE SECOND FORM. 'bulk': how many values and letters a reading holds, each counted each time it is reached (what is shared counts as often as it is met; a slice's spare places count too). A statement '..UptoSaid' is the law's where the arguments, and the package variables that the reading takes, are together of bulk at most 1048576: NARROWER than '..Said'. Prove '..Said' where nothing that the law and all that it calls make is longer than what came in: it says more and counts as full. Else prove '..UptoSaid'. A law counts once. -/
mutual
def uptoBulk {H : Type} : DataW H → Nat
  | .lit (.string bytes) => bytes.length + 1
  | .lit _ => 1
  | .nil => 1
  | .ptr d => uptoBulk d + 1
  | .slice elems spare => uptoBulkAll elems + uptoBulkAll spare + 1
  | .agg parts => uptoBulkAll parts + 1
  | .iface _ d => uptoBulk d + 1
  | .map entries => uptoBulkEntries entries + 1
  | .held _ => 1
def uptoBulkAll {H : Type} : List (DataW H) → Nat
  | [] => 0
  | d :: r => uptoBulk d + uptoBulkAll r
def uptoBulkEntries {H : Type} : List (Lit × DataW H) → Nat
  | [] => 0
  | x :: r => uptoBulkEntry x + uptoBulkEntries r
def uptoBulkEntry {H : Type} : Lit × DataW H → Nat
  | (.string bytes, d) => bytes.length + uptoBulk d + 1
  | (_, d) => uptoBulk d + 1
 end
def uptoSmall : (H : Type) → List (DataW H) → Bool := fun _ ds => decide (uptoBulkAll ds ≤ 1048576)
def OpenSpec.upto (s : _root_.Go.ChangeSpec) : _root_.Go.OpenSpec := { _root_.Go.OpenSpec.ofChange s with cond := some uptoSmall }

/-- 'provostlaw45.ScriptCalls', WHERE WHAT IT READS IS OF BULK AT MOST 1048576: true; the input reads as it did. -/
def scriptCallsUptoRow : OpenClaim := { program := "ytfpkefhjomeeeaagreatdoor", sum := "97646fba21af8b77197e0344863eaea00ad826b857413c90e73e51b55525e6be", func := "provost/provostlaw45.ScriptCalls", spec := "scriptCalls", inPlace := ["internal/bytealg.CountString", "internal/bytealg.IndexByteString", "internal/bytealg.IndexString", "internal/abi.NoEscape", "internal/bytealg.MakeNoZero", "internal/reflectlite.ValueOf", "(internal/reflectlite.Value).Type", "(internal/reflectlite.Value).IsNil", "internal/reflectlite.TypeOf", "(internal/reflectlite.Value).Elem", "(internal/reflectlite.Value).Set"], unfollowed := true, recurses := true, named := ["provost/script.verbs", "unicode/utf8.first", "unicode/utf8.acceptRanges", "internal/bytealg.MaxLen", "provost/text.marks", "provost/ask.kinds", "errors.errorType"], apart := false, laid := [("unicode/utf8.acceptRanges", laid_unicode_utf8_acceptRanges), ("errors.errorType", laid_errors_errorType), ("provost/text.marks", laid_provost_text_marks), ("provost/ask.kinds", laid_provost_ask_kinds), ("provost/script.verbs", laid_provost_script_verbs), ("unicode/utf8.first", laid_unicode_utf8_first)], narrowed := true }
def ScriptCallsUptoSaid : Prop := scriptCallsUptoRow.holds Tryz.pinned (OpenSpec.upto scriptCallsSpec)

/-- 'provostlaw45.ScriptFrames', WHERE WHAT IT READS IS OF BULK AT MOST 1048576: true; the input reads as it did. -/
def scriptFramesUptoRow : OpenClaim := { program := "ytfpkefhjomeeeaagreatdoor", sum := "97646fba21af8b77197e0344863eaea00ad826b857413c90e73e51b55525e6be", func := "provost/provostlaw45.ScriptFrames", spec := "scriptFrames", inPlace := ["internal/bytealg.CountString", "internal/bytealg.IndexByteString", "internal/bytealg.IndexString", "internal/abi.NoEscape", "internal/bytealg.MakeNoZero", "internal/reflectlite.ValueOf", "(internal/reflectlite.Value).Type", "(internal/reflectlite.Value).IsNil", "internal/reflectlite.TypeOf", "(internal/reflectlite.Value).Elem", "(internal/reflectlite.Value).Set"], unfollowed := true, recurses := true, named := ["provost/script.verbs", "unicode/utf8.first", "unicode/utf8.acceptRanges", "internal/bytealg.MaxLen", "provost/text.marks", "provost/ask.kinds", "errors.errorType"], apart := false, laid := [("unicode/utf8.acceptRanges", laid_unicode_utf8_acceptRanges), ("errors.errorType", laid_errors_errorType), ("provost/text.marks", laid_provost_text_marks), ("provost/ask.kinds", laid_provost_ask_kinds), ("provost/script.verbs", laid_provost_script_verbs), ("unicode/utf8.first", laid_unicode_utf8_first)], narrowed := true }
def ScriptFramesUptoSaid : Prop := scriptFramesUptoRow.holds Tryz.pinned (OpenSpec.upto scriptFramesSpec)

end Rows
end Go.Proofs.YtfpkefhjomeeeaaGreatDoor
