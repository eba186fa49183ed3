/-
  NARROWER THAN 'FOR EVERY INPUT', by the rows' own cells (each row's printed sentence says how): AskBytes: laid · AskBack: laid · AskUnlike: laid · AskNames: laid · AskChecks: laid.
  DERIVED. THE GIVEN ROWS OF THIS SEAT. 5 by the template 'for every input the law returns true; each argument reads behind the call as it read before'; 0 by the template 'total and deterministic' (their statements: YtcbnokpgklmndaaGreatDoorTotals.lean).
  GIVEN WITH THE SEED: the statements are not yours to turn. If you find one false, say at which input.
  Laid BY PROGRAM, IN A SANDBOX (cutbox-rows.mjs): the forced cells as the released guide's own fill.sh prints them over the translation c76fd1b91cafdfed… (all of the seat's roots in one cut). By AI agents, Wed Nov 11 2026. No macro, syntax, notation, axiom, sorry.
-/
import Derived.Test.YtcbnokpgklmndaaGreatDoorChecked
import GoSem.Claim
import GoSem.ClaimJoined
import GoSem.ClaimMapViews
import Derived.JoinedTies
import Derived.KernelRfl
namespace Go.Proofs.YtcbnokpgklmndaaGreatDoor
/- THE CELL 'sum', in the pinned program and in every row, IS THE sha256 OF THE DUMP (.gsa) THAT YtcbnokpgklmndaaGreatDoorProg.lean LOADS. Nothing in Lean hashes anything: it is a label: what it is worth is what the hold of that sum in a sandbox is worth. -/
noncomputable def Tryz.pinned : Pinned := { name := "ytcbnokpgklmndaagreatdoor", sum := "c76fd1b91cafdfed4684e7a842f7336e571dba9b319c996734e2df84264baa68", checked := Tryz.checked }
namespace Rows
def none {H : Type} : Left H := { results := [], args := [] }

/- WHAT THE LISTED PACKAGE-LEVEL VARIABLES READ AS WHEN THE CALL BEGINS. Each datum BY PROGRAM (the guide's laid-datum.mjs) off the statement by which the dump's own 'gosem.cut.vars' lays the variable. In a bare row this is a premise. The card (YtcbnokpgklmndaaGreatDoorCards.lean) ties it to the program's text. -/
def laid_errors_errorType {H : Type} : DataW H := .iface "internal/reflectlite.rtype" (.agg [.ptr (.lit (.string [101, 114, 114, 111, 114]))])
def laid_provost_text_marks {H : Type} : DataW H := .agg [.lit (.int .i64 0), .lit (.int .i64 0), .lit (.int .i64 0), .lit (.int .i64 0), .lit (.int .i64 0), .lit (.int .i64 0), .lit (.int .i64 0), .lit (.int .i64 0), .lit (.int .i64 0), .lit (.int .i64 0), .lit (.int .i64 0), .lit (.int .i64 0), .lit (.int .i64 0), .lit (.int .i64 7), .lit (.int .i64 6), .lit (.int .i64 0), .lit (.int .i64 0), .lit (.int .i64 0), .lit (.int .i64 0), .lit (.int .i64 0), .lit (.int .i64 0), .lit (.int .i64 0), .lit (.int .i64 0), .lit (.int .i64 0), .lit (.int .i64 0), .lit (.int .i64 0), .lit (.int .i64 0), .lit (.int .i64 0), .lit (.int .i64 0), .lit (.int .i64 0), .lit (.int .i64 0), .lit (.int .i64 0), .lit (.int .i64 0), .lit (.int .i64 0), .lit (.int .i64 0), .lit (.int .i64 0), .lit (.int .i64 0), .lit (.int .i64 0), .lit (.int .i64 0), .lit (.int .i64 0), .lit (.int .i64 0), .lit (.int .i64 0), .lit (.int .i64 0), .lit (.int .i64 0), .lit (.int .i64 0), .lit (.int .i64 0), .lit (.int .i64 0), .lit (.int .i64 0), .lit (.int .i64 0), .lit (.int .i64 0), .lit (.int .i64 0), .lit (.int .i64 0), .lit (.int .i64 0), .lit (.int .i64 0), .lit (.int .i64 0), .lit (.int .i64 0), .lit (.int .i64 0), .lit (.int .i64 0), .lit (.int .i64 0), .lit (.int .i64 0), .lit (.int .i64 0), .lit (.int .i64 0), .lit (.int .i64 0), .lit (.int .i64 4)]
def laid_provost_ask_kinds {H : Type} : DataW H := .agg [.agg [.lit (.string []), .lit (.string [])], .agg [.lit (.string [114, 117, 110]), .lit (.string [115])], .agg [.lit (.string [117, 112, 100, 97, 116, 101]), .lit (.string [117, 114, 115])], .agg [.lit (.string [107, 105, 108, 108]), .lit (.string [117, 103])], .agg [.lit (.string [111, 112, 101, 110]), .lit (.string [117, 99])], .agg [.lit (.string [119, 114, 105, 116, 101]), .lit (.string [105, 100])], .agg [.lit (.string [114, 101, 97, 100]), .lit (.string [105, 109])], .agg [.lit (.string [99, 108, 111, 115, 101]), .lit (.string [105])], .agg [.lit (.string [115, 116, 97, 116, 115]), .lit (.string [117])], .agg [.lit (.string [108, 105, 115, 116]), .lit (.string [108])], .agg [.lit (.string [103, 101, 116]), .lit (.string [117])], .agg [.lit (.string [119, 97, 116, 99, 104]), .lit (.string [114, 108])], .agg [.lit (.string [99, 97, 110, 99, 101, 108]), .lit (.string [105])]]

/-- 'provostlaw08.AskBytes': WHATEVER THE INPUT: true; the input reads as it did. -/
def askBytesSpec : ChangeSpec := { name := "askBytes", fn := fun _ => fun
  | [d] => { results := [.lit (.bool true)], args := [d] }
  | _ => none }
def askBytesRow : OpenClaim := { program := "ytcbnokpgklmndaagreatdoor", sum := "c76fd1b91cafdfed4684e7a842f7336e571dba9b319c996734e2df84264baa68", func := "provost/provostlaw08.AskBytes", spec := "askBytes", inPlace := ["internal/bytealg.IndexByteString", "internal/bytealg.IndexString", "internal/reflectlite.ValueOf", "(internal/reflectlite.Value).Type", "(internal/reflectlite.Value).IsNil", "internal/reflectlite.TypeOf", "(internal/reflectlite.Value).Elem", "(internal/reflectlite.Value).Set", "internal/abi.NoEscape"], unfollowed := true, recurses := true, named := ["provost/ask.kinds", "provost/text.marks", "internal/bytealg.MaxLen", "errors.errorType"], apart := false, laid := [("errors.errorType", laid_errors_errorType), ("provost/text.marks", laid_provost_text_marks), ("provost/ask.kinds", laid_provost_ask_kinds)] }
def AskBytesSaid : Prop := askBytesRow.holds Tryz.pinned (OpenSpec.ofChange askBytesSpec)

/-- ITS FALSE NEIGHBOUR: 'it returns false'. Refute it at one input. -/
def askBytesWrong : ChangeSpec := { name := "askBytes", fn := fun _ => fun
  | [d] => { results := [.lit (.bool false)], args := [d] }
  | _ => none }
def AskBytesWrongFalsely : Prop := askBytesRow.holds Tryz.pinned (OpenSpec.ofChange askBytesWrong)

/-- 'provostlaw08.AskBack': WHATEVER THE INPUT: true; the input reads as it did. -/
def askBackSpec : ChangeSpec := { name := "askBack", fn := fun _ => fun
  | [d1, d2] => { results := [.lit (.bool true)], args := [d1, d2] }
  | _ => none }
def askBackRow : OpenClaim := { program := "ytcbnokpgklmndaagreatdoor", sum := "c76fd1b91cafdfed4684e7a842f7336e571dba9b319c996734e2df84264baa68", func := "provost/provostlaw08.AskBack", spec := "askBack", inPlace := ["internal/bytealg.IndexByteString", "internal/bytealg.IndexString", "internal/reflectlite.ValueOf", "(internal/reflectlite.Value).Type", "(internal/reflectlite.Value).IsNil", "internal/reflectlite.TypeOf", "(internal/reflectlite.Value).Elem", "(internal/reflectlite.Value).Set", "internal/abi.NoEscape"], unfollowed := true, recurses := true, named := ["provost/ask.kinds", "provost/text.marks", "internal/bytealg.MaxLen", "errors.errorType"], apart := false, laid := [("errors.errorType", laid_errors_errorType), ("provost/text.marks", laid_provost_text_marks), ("provost/ask.kinds", laid_provost_ask_kinds)] }
def AskBackSaid : Prop := askBackRow.holds Tryz.pinned (OpenSpec.ofChange askBackSpec)

/-- ITS FALSE NEIGHBOUR: 'it returns false'. Refute it at one input. -/
def askBackWrong : ChangeSpec := { name := "askBack", fn := fun _ => fun
  | [d1, d2] => { results := [.lit (.bool false)], args := [d1, d2] }
  | _ => none }
def AskBackWrongFalsely : Prop := askBackRow.holds Tryz.pinned (OpenSpec.ofChange askBackWrong)

/-- 'provostlaw08.AskUnlike': WHATEVER THE INPUT: true; the input reads as it did. -/
def askUnlikeSpec : ChangeSpec := { name := "askUnlike", fn := fun _ => fun
  | [d1, d2] => { results := [.lit (.bool true)], args := [d1, d2] }
  | _ => none }
def askUnlikeRow : OpenClaim := { program := "ytcbnokpgklmndaagreatdoor", sum := "c76fd1b91cafdfed4684e7a842f7336e571dba9b319c996734e2df84264baa68", func := "provost/provostlaw08.AskUnlike", spec := "askUnlike", inPlace := ["internal/bytealg.IndexByteString", "internal/bytealg.IndexString", "internal/reflectlite.ValueOf", "(internal/reflectlite.Value).Type", "(internal/reflectlite.Value).IsNil", "internal/reflectlite.TypeOf", "(internal/reflectlite.Value).Elem", "(internal/reflectlite.Value).Set", "internal/abi.NoEscape"], unfollowed := true, recurses := true, named := ["provost/ask.kinds", "provost/text.marks", "internal/bytealg.MaxLen", "errors.errorType"], apart := false, laid := [("errors.errorType", laid_errors_errorType), ("provost/text.marks", laid_provost_text_marks), ("provost/ask.kinds", laid_provost_ask_kinds)] }
def AskUnlikeSaid : Prop := askUnlikeRow.holds Tryz.pinned (OpenSpec.ofChange askUnlikeSpec)

/-- ITS FALSE NEIGHBOUR: 'it returns false'. Refute it at one input. -/
def askUnlikeWrong : ChangeSpec := { name := "askUnlike", fn := fun _ => fun
  | [d1, d2] => { results := [.lit (.bool false)], args := [d1, d2] }
  | _ => none }
def AskUnlikeWrongFalsely : Prop := askUnlikeRow.holds Tryz.pinned (OpenSpec.ofChange askUnlikeWrong)

/-- 'provostlaw08.AskNames': WHATEVER THE INPUT: true; the input reads as it did. -/
def askNamesSpec : ChangeSpec := { name := "askNames", fn := fun _ => fun
  | [d1, d2] => { results := [.lit (.bool true)], args := [d1, d2] }
  | _ => none }
def askNamesRow : OpenClaim := { program := "ytcbnokpgklmndaagreatdoor", sum := "c76fd1b91cafdfed4684e7a842f7336e571dba9b319c996734e2df84264baa68", func := "provost/provostlaw08.AskNames", spec := "askNames", inPlace := ["internal/bytealg.IndexByteString", "internal/bytealg.IndexString", "internal/reflectlite.ValueOf", "(internal/reflectlite.Value).Type", "(internal/reflectlite.Value).IsNil", "internal/reflectlite.TypeOf", "(internal/reflectlite.Value).Elem", "(internal/reflectlite.Value).Set", "internal/abi.NoEscape"], unfollowed := true, recurses := true, named := ["provost/ask.kinds", "provost/text.marks", "internal/bytealg.MaxLen", "errors.errorType"], apart := false, laid := [("errors.errorType", laid_errors_errorType), ("provost/text.marks", laid_provost_text_marks), ("provost/ask.kinds", laid_provost_ask_kinds)] }
def AskNamesSaid : Prop := askNamesRow.holds Tryz.pinned (OpenSpec.ofChange askNamesSpec)

/-- ITS FALSE NEIGHBOUR: 'it returns false'. Refute it at one input. -/
def askNamesWrong : ChangeSpec := { name := "askNames", fn := fun _ => fun
  | [d1, d2] => { results := [.lit (.bool false)], args := [d1, d2] }
  | _ => none }
def AskNamesWrongFalsely : Prop := askNamesRow.holds Tryz.pinned (OpenSpec.ofChange askNamesWrong)

/-- 'provostlaw08.AskChecks': WHATEVER THE INPUT: true; the input reads as it did. -/
def askChecksSpec : ChangeSpec := { name := "askChecks", fn := fun _ => fun
  | [d] => { results := [.lit (.bool true)], args := [d] }
  | _ => none }
def askChecksRow : OpenClaim := { program := "ytcbnokpgklmndaagreatdoor", sum := "c76fd1b91cafdfed4684e7a842f7336e571dba9b319c996734e2df84264baa68", func := "provost/provostlaw08.AskChecks", spec := "askChecks", inPlace := ["internal/bytealg.IndexByteString", "internal/bytealg.IndexString", "internal/reflectlite.ValueOf", "(internal/reflectlite.Value).Type", "(internal/reflectlite.Value).IsNil", "internal/reflectlite.TypeOf", "(internal/reflectlite.Value).Elem", "(internal/reflectlite.Value).Set", "internal/abi.NoEscape", "internal/bytealg.MakeNoZero"], unfollowed := true, recurses := true, named := ["provost/ask.kinds", "provost/text.marks", "internal/bytealg.MaxLen", "errors.errorType"], apart := false, laid := [("errors.errorType", laid_errors_errorType), ("provost/text.marks", laid_provost_text_marks), ("provost/ask.kinds", laid_provost_ask_kinds)] }
def AskChecksSaid : Prop := askChecksRow.holds Tryz.pinned (OpenSpec.ofChange askChecksSpec)

/-- ITS FALSE NEIGHBOUR: 'it returns false'. Refute it at one input. -/
def askChecksWrong : ChangeSpec := { name := "askChecks", fn := fun _ => fun
  | [d] => { results := [.lit (.bool false)], args := [d] }
  | _ => none }
def AskChecksWrongFalsely : Prop := askChecksRow.holds Tryz.pinned (OpenSpec.ofChange askChecksWrong)

/- THE SECOND FORM. 'bulk': how many values and letters a reading holds, each counted each time it is reached (what is shared counts as often as it is met; a slice's spare places count too). A statement '..UptoSaid' is the law's where the arguments, and the package variables that the reading takes, are together of bulk at most 1048576: NARROWER than '..Said'. Prove '..Said' where nothing that the law and all that it calls make is longer than what came in: it says more and counts as full. Else prove '..UptoSaid'. A law counts once. -/
mutual
def uptoBulk {H : Type} : DataW H → Nat
  | .lit (.string bytes) => bytes.length + 1
  | .lit _ => 1
  | .nil => 1
  | .ptr d => uptoBulk d + 1
  | .slice elems spare => uptoBulkAll elems + uptoBulkAll spare + 1
  | .agg parts => uptoBulkAll parts + 1
  | .iface _ d => uptoBulk d + 1
  | .map entries => uptoBulkEntries entries + 1
  | .held _ => 1
def uptoBulkAll {H : Type} : List (DataW H) → Nat
  | [] => 0
  | d :: r => uptoBulk d + uptoBulkAll r
def uptoBulkEntries {H : Type} : List (Lit × DataW H) → Nat
  | [] => 0
  | x :: r => uptoBulkEntry x + uptoBulkEntries r
def uptoBulkEntry {H : Type} : Lit × DataW H → Nat
  | (.string bytes, d) => bytes.length + uptoBulk d + 1
  | (_, d) => uptoBulk d + 1
 end
def uptoSmall : (H : Type) → List (DataW H) → Bool := fun _ ds => decide (uptoBulkAll ds ≤ 1048576)
def OpenSpec.upto (s : _root_.Go.ChangeSpec) : _root_.Go.OpenSpec := { _root_.Go.OpenSpec.ofChange s with cond := some uptoSmall }

/-- 'provostlaw08.AskBytes', WHERE WHAT IT READS IS OF BULK AT MOST 1048576: true; the input reads as it did. -/
def askBytesUptoRow : OpenClaim := { program := "ytcbnokpgklmndaagreatdoor", sum := "c76fd1b91cafdfed4684e7a842f7336e571dba9b319c996734e2df84264baa68", func := "provost/provostlaw08.AskBytes", spec := "askBytes", inPlace := ["internal/bytealg.IndexByteString", "internal/bytealg.IndexString", "internal/reflectlite.ValueOf", "(internal/reflectlite.Value).Type", "(internal/reflectlite.Value).IsNil", "internal/reflectlite.TypeOf", "(internal/reflectlite.Value).Elem", "(internal/reflectlite.Value).Set", "internal/abi.NoEscape"], unfollowed := true, recurses := true, named := ["provost/ask.kinds", "provost/text.marks", "internal/bytealg.MaxLen", "errors.errorType"], apart := false, laid := [("errors.errorType", laid_errors_errorType), ("provost/text.marks", laid_provost_text_marks), ("provost/ask.kinds", laid_provost_ask_kinds)], narrowed := true }
def AskBytesUptoSaid : Prop := askBytesUptoRow.holds Tryz.pinned (OpenSpec.upto askBytesSpec)

/-- 'provostlaw08.AskBack', WHERE WHAT IT READS IS OF BULK AT MOST 1048576: true; the input reads as it did. -/
def askBackUptoRow : OpenClaim := { program := "ytcbnokpgklmndaagreatdoor", sum := "c76fd1b91cafdfed4684e7a842f7336e571dba9b319c996734e2df84264baa68", func := "provost/provostlaw08.AskBack", spec := "askBack", inPlace := ["internal/bytealg.IndexByteString", "internal/bytealg.IndexString", "internal/reflectlite.ValueOf", "(internal/reflectlite.Value).Type", "(internal/reflectlite.Value).IsNil", "internal/reflectlite.TypeOf", "(internal/reflectlite.Value).Elem", "(internal/reflectlite.Value).Set", "internal/abi.NoEscape"], unfollowed := true, recurses := true, named := ["provost/ask.kinds", "provost/text.marks", "internal/bytealg.MaxLen", "errors.errorType"], apart := false, laid := [("errors.errorType", laid_errors_errorType), ("provost/text.marks", laid_provost_text_marks), ("provost/ask.kinds", laid_provost_ask_kinds)], narrowed := true }
def AskBackUptoSaid : Prop := askBackUptoRow.holds Tryz.pinned (OpenSpec.upto askBackSpec)

/-- 'provostlaw08.AskUnlike', WHERE WHAT IT READS IS OF BULK AT MOST 1048576: true; the input reads as it did. -/
def askUnlikeUptoRow : OpenClaim := { program := "ytcbnokpgklmndaagreatdoor", sum := "c76fd1b91cafdfed4684e7a842f7336e571dba9b319c996734e2df84264baa68", func := "provost/provostlaw08.AskUnlike", spec := "askUnlike", inPlace := ["internal/bytealg.IndexByteString", "internal/bytealg.IndexString", "internal/reflectlite.ValueOf", "(internal/reflectlite.Value).Type", "(internal/reflectlite.Value).IsNil", "internal/reflectlite.TypeOf", "(internal/reflectlite.Value).Elem", "(internal/reflectlite.Value).Set", "internal/abi.NoEscape"], unfollowed := true, recurses := true, named := ["provost/ask.kinds", "provost/text.marks", "internal/bytealg.MaxLen", "errors.errorType"], apart := false, laid := [("errors.errorType", laid_errors_errorType), ("provost/text.marks", laid_provost_text_marks), ("provost/ask.kinds", laid_provost_ask_kinds)], narrowed := true }
def AskUnlikeUptoSaid : Prop := askUnlikeUptoRow.holds Tryz.pinned (OpenSpec.upto askUnlikeSpec)

/-- 'provostlaw08.AskNames', WHERE WHAT IT READS IS OF BULK AT MOST 1048576: true; the input reads as it did. -/
def askNamesUptoRow : OpenClaim := { program := "ytcbnokpgklmndaagreatdoor", sum := "c76fd1b91cafdfed4684e7a842f7336e571dba9b319c996734e2df84264baa68", func := "provost/provostlaw08.AskNames", spec := "askNames", inPlace := ["internal/bytealg.IndexByteString", "internal/bytealg.IndexString", "internal/reflectlite.ValueOf", "(internal/reflectlite.Value).Type", "(internal/reflectlite.Value).IsNil", "internal/reflectlite.TypeOf", "(internal/reflectlite.Value).Elem", "(internal/reflectlite.Value).Set", "internal/abi.NoEscape"], unfollowed := true, recurses := true, named := ["provost/ask.kinds", "provost/text.marks", "internal/bytealg.MaxLen", "errors.errorType"], apart := false, laid := [("errors.errorType", laid_errors_errorType), ("provost/text.marks", laid_provost_text_marks), ("provost/ask.kinds", laid_provost_ask_kinds)], narrowed := true }
def AskNamesUptoSaid : Prop := askNamesUptoRow.holds Tryz.pinned (OpenSpec.upto askNamesSpec)

/-- 'provostlaw08.AskChecks', WHERE WHAT IT READS IS OF BULK AT MOST 1048576: true; the input reads as it did. -/
def askChecksUptoRow : OpenClaim := { program := "ytcbnokpgklmndaagreatdoor", sum := "c76fd1b91cafdfed4684e7a842f7336e571dba9b319c996734e2df84264baa68", func := "provost/provostlaw08.AskChecks", spec := "askChecks", inPlace := ["internal/bytealg.IndexByteString", "internal/bytealg.IndexString", "internal/reflectlite.ValueOf", "(internal/reflectlite.Value).Type", "(internal/reflectlite.Value).IsNil", "internal/reflectlite.TypeOf", "(internal/reflectlite.Value).Elem", "(internal/reflectlite.Value).Set", "internal/abi.NoEscape", "internal/bytealg.MakeNoZero"], unfollowed := true, recurses := true, named := ["provost/ask.kinds", "provost/text.marks", "internal/bytealg.MaxLen", "errors.errorType"], apart := false, laid := [("errors.errorType", laid_errors_errorType), ("provost/text.marks", laid_provost_text_marks), ("provost/ask.kinds", laid_provost_ask_kinds)], narrowed := true }
def AskChecksUptoSaid : Prop := askChecksUptoRow.holds Tryz.pinned (OpenSpec.upto askChecksSpec)

end Rows
end Go.Proofs.YtcbnokpgklmndaaGreatDoor
