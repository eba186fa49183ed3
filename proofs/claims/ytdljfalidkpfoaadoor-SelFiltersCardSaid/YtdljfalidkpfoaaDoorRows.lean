/-
  NARROWER THAN 'FOR EVERY INPUT', by the rows' own cells (each row's printed sentence says how): SelTexts: laid · SelBack: laid · SelFilters: laid · SelFits: laid · SelMerges: laid · SelBoth: laid.
  DERIVED. THE GIVEN ROWS OF THIS SEAT. 6 by the template 'for every input the law returns true; each argument reads behind the call as it read before'; 0 by the template 'total and deterministic' (their statements: YtdljfalidkpfoaaDoorTotals.lean).
  GIVEN WITH THE SEED: the statements are not yours to turn. If you find one false, say at which input.
  Laid BY PROGRAM, IN A SANDBOX (cutbox-rows.mjs): the forced cells as the released guide's own fill.sh prints them over the translation 8d4a464017318fe5… (all of the seat's roots in one cut). By AI agents, Wed Nov 11 2026. No macro, syntax, notation, axiom, sorry.
-/
import Derived.Test.YtdljfalidkpfoaaDoorChecked
import GoSem.PinnedTables
import GoSem.Claim
import GoSem.ClaimJoined
import GoSem.ClaimMapViews
import Derived.JoinedTies
import Derived.KernelRfl
namespace Go.Proofs.YtdljfalidkpfoaaDoor
/- THE CELL 'sum', in the pinned program and in every row, IS THE sha256 OF THE DUMP (.gsa) THAT YtdljfalidkpfoaaDoorProg.lean LOADS. Nothing in Lean hashes anything: it is a label: what it is worth is what the hold of that sum in a sandbox is worth. -/
noncomputable def Tryd.pinned : Pinned := { name := "ytdljfalidkpfoaadoor", sum := "8d4a464017318fe5dd804dadf7df8fc60097200f35fc63087f3425f8ded14a6b", checked := Tryd.checked }
namespace Rows
def none {H : Type} : Left H := { results := [], args := [] }

/- WHAT THE LISTED PACKAGE-LEVEL VARIABLES READ AS WHEN THE CALL BEGINS. Each datum BY PROGRAM (the guide's laid-datum.mjs) off the statement by which the dump's own 'gosem.cut.vars' lays the variable. In a bare row this is a premise. The card (YtdljfalidkpfoaaDoorCards.lean) ties it to the program's text. -/
def laid_unicode_utf8_acceptRanges {H : Type} : DataW H := .agg [.agg [.lit (.int .u8 128), .lit (.int .u8 191)], .agg [.lit (.int .u8 160), .lit (.int .u8 191)], .agg [.lit (.int .u8 128), .lit (.int .u8 159)], .agg [.lit (.int .u8 144), .lit (.int .u8 191)], .agg [.lit (.int .u8 128), .lit (.int .u8 143)], .agg [.lit (.int .u8 0), .lit (.int .u8 0)], .agg [.lit (.int .u8 0), .lit (.int .u8 0)], .agg [.lit (.int .u8 0), .lit (.int .u8 0)], .agg [.lit (.int .u8 0), .lit (.int .u8 0)], .agg [.lit (.int .u8 0), .lit (.int .u8 0)], .agg [.lit (.int .u8 0), .lit (.int .u8 0)], .agg [.lit (.int .u8 0), .lit (.int .u8 0)], .agg [.lit (.int .u8 0), .lit (.int .u8 0)], .agg [.lit (.int .u8 0), .lit (.int .u8 0)], .agg [.lit (.int .u8 0), .lit (.int .u8 0)], .agg [.lit (.int .u8 0), .lit (.int .u8 0)]]
def laid_errors_errorType {H : Type} : DataW H := .iface "internal/reflectlite.rtype" (.agg [.ptr (.lit (.string [101, 114, 114, 111, 114]))])
def laid_provost_text_marks {H : Type} : DataW H := .agg [.lit (.int .i64 0), .lit (.int .i64 0), .lit (.int .i64 0), .lit (.int .i64 0), .lit (.int .i64 0), .lit (.int .i64 0), .lit (.int .i64 0), .lit (.int .i64 0), .lit (.int .i64 0), .lit (.int .i64 0), .lit (.int .i64 0), .lit (.int .i64 0), .lit (.int .i64 0), .lit (.int .i64 7), .lit (.int .i64 6), .lit (.int .i64 0), .lit (.int .i64 0), .lit (.int .i64 0), .lit (.int .i64 0), .lit (.int .i64 0), .lit (.int .i64 0), .lit (.int .i64 0), .lit (.int .i64 0), .lit (.int .i64 0), .lit (.int .i64 0), .lit (.int .i64 0), .lit (.int .i64 0), .lit (.int .i64 0), .lit (.int .i64 0), .lit (.int .i64 0), .lit (.int .i64 0), .lit (.int .i64 0), .lit (.int .i64 0), .lit (.int .i64 0), .lit (.int .i64 0), .lit (.int .i64 0), .lit (.int .i64 0), .lit (.int .i64 0), .lit (.int .i64 0), .lit (.int .i64 0), .lit (.int .i64 0), .lit (.int .i64 0), .lit (.int .i64 0), .lit (.int .i64 0), .lit (.int .i64 0), .lit (.int .i64 0), .lit (.int .i64 0), .lit (.int .i64 0), .lit (.int .i64 0), .lit (.int .i64 0), .lit (.int .i64 0), .lit (.int .i64 0), .lit (.int .i64 0), .lit (.int .i64 0), .lit (.int .i64 0), .lit (.int .i64 0), .lit (.int .i64 0), .lit (.int .i64 0), .lit (.int .i64 0), .lit (.int .i64 0), .lit (.int .i64 0), .lit (.int .i64 0), .lit (.int .i64 0), .lit (.int .i64 4)]
/-- One of Go's own tables, pinned by name: the form's constant. -/
def laid_unicode_utf8_first : DataW Unit := Go.Pinned.utf8First

/-- 'provostlaw11.SelTexts': WHATEVER THE INPUT: true; the input reads as it did. -/
def selTextsSpec : ChangeSpec := { name := "selTexts", fn := fun _ => fun
  | [d1, d2] => { results := [.lit (.bool true)], args := [d1, d2] }
  | _ => none }
def selTextsRow : OpenClaim := { program := "ytdljfalidkpfoaadoor", sum := "8d4a464017318fe5dd804dadf7df8fc60097200f35fc63087f3425f8ded14a6b", func := "provost/provostlaw11.SelTexts", spec := "selTexts", inPlace := ["internal/bytealg.CountString", "internal/bytealg.IndexByteString", "internal/bytealg.IndexString", "internal/reflectlite.ValueOf", "(internal/reflectlite.Value).Type", "(internal/reflectlite.Value).IsNil", "internal/reflectlite.TypeOf", "(internal/reflectlite.Value).Elem", "(internal/reflectlite.Value).Set", "internal/abi.NoEscape", "internal/bytealg.MakeNoZero"], unfollowed := true, recurses := true, named := ["unicode/utf8.first", "unicode/utf8.acceptRanges", "internal/bytealg.MaxLen", "provost/text.marks", "errors.errorType"], apart := false, laid := [("unicode/utf8.acceptRanges", laid_unicode_utf8_acceptRanges), ("errors.errorType", laid_errors_errorType), ("provost/text.marks", laid_provost_text_marks), ("unicode/utf8.first", laid_unicode_utf8_first)] }
def SelTextsSaid : Prop := selTextsRow.holds Tryd.pinned (OpenSpec.ofChange selTextsSpec)

/-- ITS FALSE NEIGHBOUR: 'it returns false'. Refute it at one input. -/
def selTextsWrong : ChangeSpec := { name := "selTexts", fn := fun _ => fun
  | [d1, d2] => { results := [.lit (.bool false)], args := [d1, d2] }
  | _ => none }
def SelTextsWrongFalsely : Prop := selTextsRow.holds Tryd.pinned (OpenSpec.ofChange selTextsWrong)

/-- 'provostlaw11.SelBack': WHATEVER THE INPUT: true; the input reads as it did. -/
def selBackSpec : ChangeSpec := { name := "selBack", fn := fun _ => fun
  | [d1, d2] => { results := [.lit (.bool true)], args := [d1, d2] }
  | _ => none }
def selBackRow : OpenClaim := { program := "ytdljfalidkpfoaadoor", sum := "8d4a464017318fe5dd804dadf7df8fc60097200f35fc63087f3425f8ded14a6b", func := "provost/provostlaw11.SelBack", spec := "selBack", inPlace := ["internal/bytealg.CountString", "internal/bytealg.IndexByteString", "internal/bytealg.IndexString", "internal/reflectlite.ValueOf", "(internal/reflectlite.Value).Type", "(internal/reflectlite.Value).IsNil", "internal/reflectlite.TypeOf", "(internal/reflectlite.Value).Elem", "(internal/reflectlite.Value).Set", "internal/abi.NoEscape", "internal/bytealg.MakeNoZero"], unfollowed := true, recurses := true, named := ["unicode/utf8.first", "unicode/utf8.acceptRanges", "internal/bytealg.MaxLen", "provost/text.marks", "errors.errorType"], apart := false, laid := [("unicode/utf8.acceptRanges", laid_unicode_utf8_acceptRanges), ("errors.errorType", laid_errors_errorType), ("provost/text.marks", laid_provost_text_marks), ("unicode/utf8.first", laid_unicode_utf8_first)] }
def SelBackSaid : Prop := selBackRow.holds Tryd.pinned (OpenSpec.ofChange selBackSpec)

/-- ITS FALSE NEIGHBOUR: 'it returns false'. Refute it at one input. -/
def selBackWrong : ChangeSpec := { name := "selBack", fn := fun _ => fun
  | [d1, d2] => { results := [.lit (.bool false)], args := [d1, d2] }
  | _ => none }
def SelBackWrongFalsely : Prop := selBackRow.holds Tryd.pinned (OpenSpec.ofChange selBackWrong)

/-- 'provostlaw11.SelFilters': WHATEVER THE INPUT: true; the input reads as it did. -/
def selFiltersSpec : ChangeSpec := { name := "selFilters", fn := fun _ => fun
  | [d1, d2] => { results := [.lit (.bool true)], args := [d1, d2] }
  | _ => none }
def selFiltersRow : OpenClaim := { program := "ytdljfalidkpfoaadoor", sum := "8d4a464017318fe5dd804dadf7df8fc60097200f35fc63087f3425f8ded14a6b", func := "provost/provostlaw11.SelFilters", spec := "selFilters", inPlace := ["internal/bytealg.CountString", "internal/bytealg.IndexByteString", "internal/bytealg.IndexString", "internal/reflectlite.ValueOf", "(internal/reflectlite.Value).Type", "(internal/reflectlite.Value).IsNil", "internal/reflectlite.TypeOf", "(internal/reflectlite.Value).Elem", "(internal/reflectlite.Value).Set", "internal/abi.NoEscape", "internal/bytealg.MakeNoZero"], unfollowed := true, recurses := true, named := ["unicode/utf8.first", "unicode/utf8.acceptRanges", "internal/bytealg.MaxLen", "provost/text.marks", "errors.errorType"], apart := false, laid := [("unicode/utf8.acceptRanges", laid_unicode_utf8_acceptRanges), ("errors.errorType", laid_errors_errorType), ("provost/text.marks", laid_provost_text_marks), ("unicode/utf8.first", laid_unicode_utf8_first)] }
def SelFiltersSaid : Prop := selFiltersRow.holds Tryd.pinned (OpenSpec.ofChange selFiltersSpec)

/-- ITS FALSE NEIGHBOUR: 'it returns false'. Refute it at one input. -/
def selFiltersWrong : ChangeSpec := { name := "selFilters", fn := fun _ => fun
  | [d1, d2] => { results := [.lit (.bool false)], args := [d1, d2] }
  | _ => none }
def SelFiltersWrongFalsely : Prop := selFiltersRow.holds Tryd.pinned (OpenSpec.ofChange selFiltersWrong)

/-- 'provostlaw11.SelFits': WHATEVER THE INPUT: true; the input reads as it did. -/
def selFitsSpec : ChangeSpec := { name := "selFits", fn := fun _ => fun
  | [d1, d2, d3] => { results := [.lit (.bool true)], args := [d1, d2, d3] }
  | _ => none }
def selFitsRow : OpenClaim := { program := "ytdljfalidkpfoaadoor", sum := "8d4a464017318fe5dd804dadf7df8fc60097200f35fc63087f3425f8ded14a6b", func := "provost/provostlaw11.SelFits", spec := "selFits", inPlace := ["internal/bytealg.CountString", "internal/bytealg.IndexByteString", "internal/bytealg.IndexString", "internal/reflectlite.ValueOf", "(internal/reflectlite.Value).Type", "(internal/reflectlite.Value).IsNil", "internal/reflectlite.TypeOf", "(internal/reflectlite.Value).Elem", "(internal/reflectlite.Value).Set", "internal/abi.NoEscape", "internal/bytealg.MakeNoZero"], unfollowed := true, recurses := true, named := ["unicode/utf8.first", "unicode/utf8.acceptRanges", "internal/bytealg.MaxLen", "provost/text.marks", "errors.errorType"], apart := false, laid := [("unicode/utf8.acceptRanges", laid_unicode_utf8_acceptRanges), ("errors.errorType", laid_errors_errorType), ("provost/text.marks", laid_provost_text_marks), ("unicode/utf8.first", laid_unicode_utf8_first)] }
def SelFitsSaid : Prop := selFitsRow.holds Tryd.pinned (OpenSpec.ofChange selFitsSpec)

/-- ITS FALSE NEIGHBOUR: 'it returns false'. Refute it at one input. -/
def selFitsWrong : ChangeSpec := { name := "selFits", fn := fun _ => fun
  | [d1, d2, d3] => { results := [.lit (.bool false)], args := [d1, d2, d3] }
  | _ => none }
def SelFitsWrongFalsely : Prop := selFitsRow.holds Tryd.pinned (OpenSpec.ofChange selFitsWrong)

/-- 'provostlaw11.SelMerges': WHATEVER THE INPUT: true; the input reads as it did. -/
def selMergesSpec : ChangeSpec := { name := "selMerges", fn := fun _ => fun
  | [d1, d2] => { results := [.lit (.bool true)], args := [d1, d2] }
  | _ => none }
def selMergesRow : OpenClaim := { program := "ytdljfalidkpfoaadoor", sum := "8d4a464017318fe5dd804dadf7df8fc60097200f35fc63087f3425f8ded14a6b", func := "provost/provostlaw11.SelMerges", spec := "selMerges", inPlace := ["internal/bytealg.CountString", "internal/bytealg.IndexByteString", "internal/bytealg.IndexString", "internal/reflectlite.ValueOf", "(internal/reflectlite.Value).Type", "(internal/reflectlite.Value).IsNil", "internal/reflectlite.TypeOf", "(internal/reflectlite.Value).Elem", "(internal/reflectlite.Value).Set", "internal/abi.NoEscape", "internal/bytealg.MakeNoZero"], unfollowed := true, recurses := true, named := ["unicode/utf8.first", "unicode/utf8.acceptRanges", "internal/bytealg.MaxLen", "provost/text.marks", "errors.errorType"], apart := false, laid := [("unicode/utf8.acceptRanges", laid_unicode_utf8_acceptRanges), ("errors.errorType", laid_errors_errorType), ("provost/text.marks", laid_provost_text_marks), ("unicode/utf8.first", laid_unicode_utf8_first)] }
def SelMergesSaid : Prop := selMergesRow.holds Tryd.pinned (OpenSpec.ofChange selMergesSpec)

/-- ITS FALSE NEIGHBOUR: 'it returns false'. Refute it at one input. -/
def selMergesWrong : ChangeSpec := { name := "selMerges", fn := fun _ => fun
  | [d1, d2] => { results := [.lit (.bool false)], args := [d1, d2] }
  | _ => none }
def SelMergesWrongFalsely : Prop := selMergesRow.holds Tryd.pinned (OpenSpec.ofChange selMergesWrong)

/-- 'provostlaw11.SelBoth': WHATEVER THE INPUT: true; the input reads as it did. -/
def selBothSpec : ChangeSpec := { name := "selBoth", fn := fun _ => fun
  | [d1, d2, d3] => { results := [.lit (.bool true)], args := [d1, d2, d3] }
  | _ => none }
def selBothRow : OpenClaim := { program := "ytdljfalidkpfoaadoor", sum := "8d4a464017318fe5dd804dadf7df8fc60097200f35fc63087f3425f8ded14a6b", func := "provost/provostlaw11.SelBoth", spec := "selBoth", inPlace := ["internal/bytealg.CountString", "internal/bytealg.IndexByteString", "internal/bytealg.IndexString", "internal/reflectlite.ValueOf", "(internal/reflectlite.Value).Type", "(internal/reflectlite.Value).IsNil", "internal/reflectlite.TypeOf", "(internal/reflectlite.Value).Elem", "(internal/reflectlite.Value).Set", "internal/abi.NoEscape", "internal/bytealg.MakeNoZero"], unfollowed := true, recurses := true, named := ["unicode/utf8.first", "unicode/utf8.acceptRanges", "internal/bytealg.MaxLen", "provost/text.marks", "errors.errorType"], apart := false, laid := [("unicode/utf8.acceptRanges", laid_unicode_utf8_acceptRanges), ("errors.errorType", laid_errors_errorType), ("provost/text.marks", laid_provost_text_marks), ("unicode/utf8.first", laid_unicode_utf8_first)] }
def SelBothSaid : Prop := selBothRow.holds Tryd.pinned (OpenSpec.ofChange selBothSpec)

/-- ITS FALSE NEIGHBOUR: 'it returns false'. Refute it at one input. -/
def selBothWrong : ChangeSpec := { name := "selBoth", fn := fun _ => fun
  | [d1, d2, d3] => { results := [.lit (.bool false)], args := [d1, d2, d3] }
  | _ => none }
def SelBothWrongFalsely : Prop := selBothRow.holds Tryd.pinned (OpenSpec.ofChange selBothWrong)

/- THE SECOND FORM. 'bulk': how many values and letters a reading holds, each counted each time it is reached (what is shared counts as often as it is met; a slice's spare places count too). A statement '..UptoSaid' is the law's where the arguments, and the package variables that the reading takes, are together of bulk at most 1048576: NARROWER than '..Said'. Prove '..Said' where nothing that the law and all that it calls make is longer than what came in: it says more and counts as full. Else prove '..UptoSaid'. A law counts once. -/
mutual
def uptoBulk {H : Type} : DataW H → Nat
  | .lit (.string bytes) => bytes.length + 1
  | .lit _ => 1
  | .nil => 1
  | .ptr d => uptoBulk d + 1
  | .slice elems spare => uptoBulkAll elems + uptoBulkAll spare + 1
  | .agg parts => uptoBulkAll parts + 1
  | .iface _ d => uptoBulk d + 1
  | .map entries => uptoBulkEntries entries + 1
  | .held _ => 1
def uptoBulkAll {H : Type} : List (DataW H) → Nat
  | [] => 0
  | d :: r => uptoBulk d + uptoBulkAll r
def uptoBulkEntries {H : Type} : List (Lit × DataW H) → Nat
  | [] => 0
  | x :: r => uptoBulkEntry x + uptoBulkEntries r
def uptoBulkEntry {H : Type} : Lit × DataW H → Nat
  | (.string bytes, d) => bytes.length + uptoBulk d + 1
  | (_, d) => uptoBulk d + 1
 end
def uptoSmall : (H : Type) → List (DataW H) → Bool := fun _ ds => decide (uptoBulkAll ds ≤ 1048576)
def OpenSpec.upto (s : _root_.Go.ChangeSpec) : _root_.Go.OpenSpec := { _root_.Go.OpenSpec.ofChange s with cond := some uptoSmall }

/-- 'provostlaw11.SelTexts', WHERE WHAT IT READS IS OF BULK AT MOST 1048576: true; the input reads as it did. -/
def selTextsUptoRow : OpenClaim := { program := "ytdljfalidkpfoaadoor", sum := "8d4a464017318fe5dd804dadf7df8fc60097200f35fc63087f3425f8ded14a6b", func := "provost/provostlaw11.SelTexts", spec := "selTexts", inPlace := ["internal/bytealg.CountString", "internal/bytealg.IndexByteString", "internal/bytealg.IndexString", "internal/reflectlite.ValueOf", "(internal/reflectlite.Value).Type", "(internal/reflectlite.Value).IsNil", "internal/reflectlite.TypeOf", "(internal/reflectlite.Value).Elem", "(internal/reflectlite.Value).Set", "internal/abi.NoEscape", "internal/bytealg.MakeNoZero"], unfollowed := true, recurses := true, named := ["unicode/utf8.first", "unicode/utf8.acceptRanges", "internal/bytealg.MaxLen", "provost/text.marks", "errors.errorType"], apart := false, laid := [("unicode/utf8.acceptRanges", laid_unicode_utf8_acceptRanges), ("errors.errorType", laid_errors_errorType), ("provost/text.marks", laid_provost_text_marks), ("unicode/utf8.first", laid_unicode_utf8_first)], narrowed := true }
def SelTextsUptoSaid : Prop := selTextsUptoRow.holds Tryd.pinned (OpenSpec.upto selTextsSpec)

/-- 'provostlaw11.SelBack', WHERE WHAT IT READS IS OF BULK AT MOST 1048576: true; the input reads as it did. -/
def selBackUptoRow : OpenClaim := { program := "ytdljfalidkpfoaadoor", sum := "8d4a464017318fe5dd804dadf7df8fc60097200f35fc63087f3425f8ded14a6b", func := "provost/provostlaw11.SelBack", spec := "selBack", inPlace := ["internal/bytealg.CountString", "internal/bytealg.IndexByteString", "internal/bytealg.IndexString", "internal/reflectlite.ValueOf", "(internal/reflectlite.Value).Type", "(internal/reflectlite.Value).IsNil", "internal/reflectlite.TypeOf", "(internal/reflectlite.Value).Elem", "(internal/reflectlite.Value).Set", "internal/abi.NoEscape", "internal/bytealg.MakeNoZero"], unfollowed := true, recurses := true, named := ["unicode/utf8.first", "unicode/utf8.acceptRanges", "internal/bytealg.MaxLen", "provost/text.marks", "errors.errorType"], apart := false, laid := [("unicode/utf8.acceptRanges", laid_unicode_utf8_acceptRanges), ("errors.errorType", laid_errors_errorType), ("provost/text.marks", laid_provost_text_marks), ("unicode/utf8.first", laid_unicode_utf8_first)], narrowed := true }
def SelBackUptoSaid : Prop := selBackUptoRow.holds Tryd.pinned (OpenSpec.upto selBackSpec)

/-- 'provostlaw11.SelFilters', WHERE WHAT IT READS IS OF BULK AT MOST 1048576: true; the input reads as it did. -/
def selFiltersUptoRow : OpenClaim := { program := "ytdljfalidkpfoaadoor", sum := "8d4a464017318fe5dd804dadf7df8fc60097200f35fc63087f3425f8ded14a6b", func := "provost/provostlaw11.SelFilters", spec := "selFilters", inPlace := ["internal/bytealg.CountString", "internal/bytealg.IndexByteString", "internal/bytealg.IndexString", "internal/reflectlite.ValueOf", "(internal/reflectlite.Value).Type", "(internal/reflectlite.Value).IsNil", "internal/reflectlite.TypeOf", "(internal/reflectlite.Value).Elem", "(internal/reflectlite.Value).Set", "internal/abi.NoEscape", "internal/bytealg.MakeNoZero"], unfollowed := true, recurses := true, named := ["unicode/utf8.first", "unicode/utf8.acceptRanges", "internal/bytealg.MaxLen", "provost/text.marks", "errors.errorType"], apart := false, laid := [("unicode/utf8.acceptRanges", laid_unicode_utf8_acceptRanges), ("errors.errorType", laid_errors_errorType), ("provost/text.marks", laid_provost_text_marks), ("unicode/utf8.first", laid_unicode_utf8_first)], narrowed := true }
def SelFiltersUptoSaid : Prop := selFiltersUptoRow.holds Tryd.pinned (OpenSpec.upto selFiltersSpec)

/-- 'provostlaw11.SelFits', WHERE WHAT IT READS IS OF BULK AT MOST 1048576: true; the input reads as it did. -/
def selFitsUptoRow : OpenClaim := { program := "ytdljfalidkpfoaadoor", sum := "8d4a464017318fe5dd804dadf7df8fc60097200f35fc63087f3425f8ded14a6b", func := "provost/provostlaw11.SelFits", spec := "selFits", inPlace := ["internal/bytealg.CountString", "internal/bytealg.IndexByteString", "internal/bytealg.IndexString", "internal/reflectlite.ValueOf", "(internal/reflectlite.Value).Type", "(internal/reflectlite.Value).IsNil", "internal/reflectlite.TypeOf", "(internal/reflectlite.Value).Elem", "(internal/reflectlite.Value).Set", "internal/abi.NoEscape", "internal/bytealg.MakeNoZero"], unfollowed := true, recurses := true, named := ["unicode/utf8.first", "unicode/utf8.acceptRanges", "internal/bytealg.MaxLen", "provost/text.marks", "errors.errorType"], apart := false, laid := [("unicode/utf8.acceptRanges", laid_unicode_utf8_acceptRanges), ("errors.errorType", laid_errors_errorType), ("provost/text.marks", laid_provost_text_marks), ("unicode/utf8.first", laid_unicode_utf8_first)], narrowed := true }
def SelFitsUptoSaid : Prop := selFitsUptoRow.holds Tryd.pinned (OpenSpec.upto selFitsSpec)

/-- 'provostlaw11.SelMerges', WHERE WHAT IT READS IS OF BULK AT MOST 1048576: true; the input reads as it did. -/
def selMergesUptoRow : OpenClaim := { program := "ytdljfalidkpfoaadoor", sum := "8d4a464017318fe5dd804dadf7df8fc60097200f35fc63087f3425f8ded14a6b", func := "provost/provostlaw11.SelMerges", spec := "selMerges", inPlace := ["internal/bytealg.CountString", "internal/bytealg.IndexByteString", "internal/bytealg.IndexString", "internal/reflectlite.ValueOf", "(internal/reflectlite.Value).Type", "(internal/reflectlite.Value).IsNil", "internal/reflectlite.TypeOf", "(internal/reflectlite.Value).Elem", "(internal/reflectlite.Value).Set", "internal/abi.NoEscape", "internal/bytealg.MakeNoZero"], unfollowed := true, recurses := true, named := ["unicode/utf8.first", "unicode/utf8.acceptRanges", "internal/bytealg.MaxLen", "provost/text.marks", "errors.errorType"], apart := false, laid := [("unicode/utf8.acceptRanges", laid_unicode_utf8_acceptRanges), ("errors.errorType", laid_errors_errorType), ("provost/text.marks", laid_provost_text_marks), ("unicode/utf8.first", laid_unicode_utf8_first)], narrowed := true }
def SelMergesUptoSaid : Prop := selMergesUptoRow.holds Tryd.pinned (OpenSpec.upto selMergesSpec)

/-- 'provostlaw11.SelBoth', WHERE WHAT IT READS IS OF BULK AT MOST 1048576: true; the input reads as it did. -/
def selBothUptoRow : OpenClaim := { program := "ytdljfalidkpfoaadoor", sum := "8d4a464017318fe5dd804dadf7df8fc60097200f35fc63087f3425f8ded14a6b", func := "provost/provostlaw11.SelBoth", spec := "selBoth", inPlace := ["internal/bytealg.CountString", "internal/bytealg.IndexByteString", "internal/bytealg.IndexString", "internal/reflectlite.ValueOf", "(internal/reflectlite.Value).Type", "(internal/reflectlite.Value).IsNil", "internal/reflectlite.TypeOf", "(internal/reflectlite.Value).Elem", "(internal/reflectlite.Value).Set", "internal/abi.NoEscape", "internal/bytealg.MakeNoZero"], unfollowed := true, recurses := true, named := ["unicode/utf8.first", "unicode/utf8.acceptRanges", "internal/bytealg.MaxLen", "provost/text.marks", "errors.errorType"], apart := false, laid := [("unicode/utf8.acceptRanges", laid_unicode_utf8_acceptRanges), ("errors.errorType", laid_errors_errorType), ("provost/text.marks", laid_provost_text_marks), ("unicode/utf8.first", laid_unicode_utf8_first)], narrowed := true }
def SelBothUptoSaid : Prop := selBothUptoRow.holds Tryd.pinned (OpenSpec.upto selBothSpec)

end Rows
end Go.Proofs.YtdljfalidkpfoaaDoor
