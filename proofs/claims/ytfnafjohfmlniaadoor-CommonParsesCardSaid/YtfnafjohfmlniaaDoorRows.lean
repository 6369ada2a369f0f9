/-
  NARROWER THAN 'FOR EVERY INPUT', by the rows' own cells (each row's printed sentence says how): CommonParses: laid · CommonRuns: laid · CommonPlain: laid · CommonMarks: laid · CommonRight: laid · CommonEscapes: laid.
  DERIVED. THE GIVEN ROWS OF THIS SEAT. 6 by the template 'for every input the law returns true; each argument reads behind the call as it read before'; 0 by the template 'total and deterministic' (their statements: YtfnafjohfmlniaaDoorTotals.lean).
  GIVEN WITH THE SEED: the statements are not yours to turn. If you find one false, say at which input.
  Laid BY PROGRAM, IN A SANDBOX (cutbox-rows.mjs): the forced cells as the released guide's own fill.sh prints them over the translation fb951636b0227299… (all of the seat's roots in one cut). By AI agents, Wed Nov 11 2026. No macro, syntax, notation, axiom, sorry.
-/
import Derived.Test.YtfnafjohfmlniaaDoorChecked
import GoSem.PinnedTables
import GoSem.Claim
import GoSem.ClaimJoined
import GoSem.ClaimMapViews
import Derived.JoinedTies
import Derived.KernelRfl
namespace Go.Proofs.YtfnafjohfmlniaaDoor
/- THE CELL 'sum', in the pinned program and in every row, IS THE sha256 OF THE DUMP (.gsa) THAT YtfnafjohfmlniaaDoorProg.lean LOADS. Nothing in Lean hashes anything: it is a label: what it is worth is what the hold of that sum in a sandbox is worth. -/
noncomputable def Tryd.pinned : Pinned := { name := "ytfnafjohfmlniaadoor", sum := "fb951636b02272993a332af30ab86be5ee9a9a97e5f3499d9199435c184b709e", checked := Tryd.checked }
namespace Rows
def none {H : Type} : Left H := { results := [], args := [] }

/- WHAT THE LISTED PACKAGE-LEVEL VARIABLES READ AS WHEN THE CALL BEGINS. Each datum BY PROGRAM (the guide's laid-datum.mjs) off the statement by which the dump's own 'gosem.cut.vars' lays the variable. In a bare row this is a premise. The card (YtfnafjohfmlniaaDoorCards.lean) ties it to the program's text. -/
def laid_unicode_utf8_acceptRanges {H : Type} : DataW H := .agg [.agg [.lit (.int .u8 128), .lit (.int .u8 191)], .agg [.lit (.int .u8 160), .lit (.int .u8 191)], .agg [.lit (.int .u8 128), .lit (.int .u8 159)], .agg [.lit (.int .u8 144), .lit (.int .u8 191)], .agg [.lit (.int .u8 128), .lit (.int .u8 143)], .agg [.lit (.int .u8 0), .lit (.int .u8 0)], .agg [.lit (.int .u8 0), .lit (.int .u8 0)], .agg [.lit (.int .u8 0), .lit (.int .u8 0)], .agg [.lit (.int .u8 0), .lit (.int .u8 0)], .agg [.lit (.int .u8 0), .lit (.int .u8 0)], .agg [.lit (.int .u8 0), .lit (.int .u8 0)], .agg [.lit (.int .u8 0), .lit (.int .u8 0)], .agg [.lit (.int .u8 0), .lit (.int .u8 0)], .agg [.lit (.int .u8 0), .lit (.int .u8 0)], .agg [.lit (.int .u8 0), .lit (.int .u8 0)], .agg [.lit (.int .u8 0), .lit (.int .u8 0)]]
/-- One of Go's own tables, pinned by name: the form's constant. -/
def laid_unicode_utf8_first : DataW Unit := Go.Pinned.utf8First

/-- 'emenderlaw28.CommonParses': WHATEVER THE INPUT: true; the input reads as it did. -/
def commonParsesSpec : ChangeSpec := { name := "commonParses", fn := fun _ => fun
  | [d] => { results := [.lit (.bool true)], args := [d] }
  | _ => none }
def commonParsesRow : OpenClaim := { program := "ytfnafjohfmlniaadoor", sum := "fb951636b02272993a332af30ab86be5ee9a9a97e5f3499d9199435c184b709e", func := "emender/emenderlaw28.CommonParses", spec := "commonParses", named := ["unicode/utf8.first", "unicode/utf8.acceptRanges"], apart := false, laid := [("unicode/utf8.acceptRanges", laid_unicode_utf8_acceptRanges), ("unicode/utf8.first", laid_unicode_utf8_first)] }
def CommonParsesSaid : Prop := commonParsesRow.holds Tryd.pinned (OpenSpec.ofChange commonParsesSpec)

/-- ITS FALSE NEIGHBOUR: 'it returns false'. Refute it at one input. -/
def commonParsesWrong : ChangeSpec := { name := "commonParses", fn := fun _ => fun
  | [d] => { results := [.lit (.bool false)], args := [d] }
  | _ => none }
def CommonParsesWrongFalsely : Prop := commonParsesRow.holds Tryd.pinned (OpenSpec.ofChange commonParsesWrong)

/-- 'emenderlaw28.CommonRuns': WHATEVER THE INPUT: true; the input reads as it did. -/
def commonRunsSpec : ChangeSpec := { name := "commonRuns", fn := fun _ => fun
  | [d] => { results := [.lit (.bool true)], args := [d] }
  | _ => none }
def commonRunsRow : OpenClaim := { program := "ytfnafjohfmlniaadoor", sum := "fb951636b02272993a332af30ab86be5ee9a9a97e5f3499d9199435c184b709e", func := "emender/emenderlaw28.CommonRuns", spec := "commonRuns", named := ["unicode/utf8.first", "unicode/utf8.acceptRanges"], apart := false, laid := [("unicode/utf8.acceptRanges", laid_unicode_utf8_acceptRanges), ("unicode/utf8.first", laid_unicode_utf8_first)] }
def CommonRunsSaid : Prop := commonRunsRow.holds Tryd.pinned (OpenSpec.ofChange commonRunsSpec)

/-- ITS FALSE NEIGHBOUR: 'it returns false'. Refute it at one input. -/
def commonRunsWrong : ChangeSpec := { name := "commonRuns", fn := fun _ => fun
  | [d] => { results := [.lit (.bool false)], args := [d] }
  | _ => none }
def CommonRunsWrongFalsely : Prop := commonRunsRow.holds Tryd.pinned (OpenSpec.ofChange commonRunsWrong)

/-- 'emenderlaw28.CommonPlain': WHATEVER THE INPUT: true; the input reads as it did. -/
def commonPlainSpec : ChangeSpec := { name := "commonPlain", fn := fun _ => fun
  | [d] => { results := [.lit (.bool true)], args := [d] }
  | _ => none }
def commonPlainRow : OpenClaim := { program := "ytfnafjohfmlniaadoor", sum := "fb951636b02272993a332af30ab86be5ee9a9a97e5f3499d9199435c184b709e", func := "emender/emenderlaw28.CommonPlain", spec := "commonPlain", inPlace := ["internal/abi.NoEscape"], named := ["unicode/utf8.first", "unicode/utf8.acceptRanges"], apart := false, laid := [("unicode/utf8.acceptRanges", laid_unicode_utf8_acceptRanges), ("unicode/utf8.first", laid_unicode_utf8_first)] }
def CommonPlainSaid : Prop := commonPlainRow.holds Tryd.pinned (OpenSpec.ofChange commonPlainSpec)

/-- ITS FALSE NEIGHBOUR: 'it returns false'. Refute it at one input. -/
def commonPlainWrong : ChangeSpec := { name := "commonPlain", fn := fun _ => fun
  | [d] => { results := [.lit (.bool false)], args := [d] }
  | _ => none }
def CommonPlainWrongFalsely : Prop := commonPlainRow.holds Tryd.pinned (OpenSpec.ofChange commonPlainWrong)

/-- 'emenderlaw28.CommonMarks': WHATEVER THE INPUT: true; the input reads as it did. -/
def commonMarksSpec : ChangeSpec := { name := "commonMarks", fn := fun _ => fun
  | [d1, d2] => { results := [.lit (.bool true)], args := [d1, d2] }
  | _ => none }
def commonMarksRow : OpenClaim := { program := "ytfnafjohfmlniaadoor", sum := "fb951636b02272993a332af30ab86be5ee9a9a97e5f3499d9199435c184b709e", func := "emender/emenderlaw28.CommonMarks", spec := "commonMarks", inPlace := ["internal/abi.NoEscape"], named := ["unicode/utf8.first", "unicode/utf8.acceptRanges"], apart := false, laid := [("unicode/utf8.acceptRanges", laid_unicode_utf8_acceptRanges), ("unicode/utf8.first", laid_unicode_utf8_first)] }
def CommonMarksSaid : Prop := commonMarksRow.holds Tryd.pinned (OpenSpec.ofChange commonMarksSpec)

/-- ITS FALSE NEIGHBOUR: 'it returns false'. Refute it at one input. -/
def commonMarksWrong : ChangeSpec := { name := "commonMarks", fn := fun _ => fun
  | [d1, d2] => { results := [.lit (.bool false)], args := [d1, d2] }
  | _ => none }
def CommonMarksWrongFalsely : Prop := commonMarksRow.holds Tryd.pinned (OpenSpec.ofChange commonMarksWrong)

/-- 'emenderlaw28.CommonRight': WHATEVER THE INPUT: true; the input reads as it did. -/
def commonRightSpec : ChangeSpec := { name := "commonRight", fn := fun _ => fun
  | [d] => { results := [.lit (.bool true)], args := [d] }
  | _ => none }
def commonRightRow : OpenClaim := { program := "ytfnafjohfmlniaadoor", sum := "fb951636b02272993a332af30ab86be5ee9a9a97e5f3499d9199435c184b709e", func := "emender/emenderlaw28.CommonRight", spec := "commonRight", inPlace := ["internal/abi.NoEscape"], named := ["unicode/utf8.first", "unicode/utf8.acceptRanges"], apart := false, laid := [("unicode/utf8.acceptRanges", laid_unicode_utf8_acceptRanges), ("unicode/utf8.first", laid_unicode_utf8_first)] }
def CommonRightSaid : Prop := commonRightRow.holds Tryd.pinned (OpenSpec.ofChange commonRightSpec)

/-- ITS FALSE NEIGHBOUR: 'it returns false'. Refute it at one input. -/
def commonRightWrong : ChangeSpec := { name := "commonRight", fn := fun _ => fun
  | [d] => { results := [.lit (.bool false)], args := [d] }
  | _ => none }
def CommonRightWrongFalsely : Prop := commonRightRow.holds Tryd.pinned (OpenSpec.ofChange commonRightWrong)

/-- 'emenderlaw28.CommonEscapes': WHATEVER THE INPUT: true; the input reads as it did. -/
def commonEscapesSpec : ChangeSpec := { name := "commonEscapes", fn := fun _ => fun
  | [d1, d2] => { results := [.lit (.bool true)], args := [d1, d2] }
  | _ => none }
def commonEscapesRow : OpenClaim := { program := "ytfnafjohfmlniaadoor", sum := "fb951636b02272993a332af30ab86be5ee9a9a97e5f3499d9199435c184b709e", func := "emender/emenderlaw28.CommonEscapes", spec := "commonEscapes", inPlace := ["internal/abi.NoEscape"], named := ["unicode/utf8.first", "unicode/utf8.acceptRanges"], apart := false, laid := [("unicode/utf8.acceptRanges", laid_unicode_utf8_acceptRanges), ("unicode/utf8.first", laid_unicode_utf8_first)] }
def CommonEscapesSaid : Prop := commonEscapesRow.holds Tryd.pinned (OpenSpec.ofChange commonEscapesSpec)

/-- ITS FALSE NEIGHBOUR: 'it returns false'. Refute it at one input. -/
def commonEscapesWrong : ChangeSpec := { name := "commonEscapes", fn := fun _ => fun
  | [d1, d2] => { results := [.lit (.bool false)], args := [d1, d2] }
  | _ => none }
def CommonEscapesWrongFalsely : Prop := commonEscapesRow.holds Tryd.pinned (OpenSpec.ofChange commonEscapesWrong)

/- THE SECOND FORM. 'bulk': how many values and letters a reading holds, each counted each time it is reached (what is shared counts as often as it is met; a slice's spare places count too). A statement '..UptoSaid' is the law's where the arguments, and the package variables that the reading takes, are together of bulk at most 1048576: NARROWER than '..Said'. Prove '..Said' where nothing that the law and all that it calls make is longer than what came in: it says more and counts as full. Else prove '..UptoSaid'. A law counts once. -/
mutual
def uptoBulk {H : Type} : DataW H → Nat
  | .lit (.string bytes) => bytes.length + 1
  | .lit _ => 1
  | .nil => 1
  | .ptr d => uptoBulk d + 1
  | .slice elems spare => uptoBulkAll elems + uptoBulkAll spare + 1
  | .agg parts => uptoBulkAll parts + 1
  | .iface _ d => uptoBulk d + 1
  | .map entries => uptoBulkEntries entries + 1
  | .held _ => 1
def uptoBulkAll {H : Type} : List (DataW H) → Nat
  | [] => 0
  | d :: r => uptoBulk d + uptoBulkAll r
def uptoBulkEntries {H : Type} : List (Lit × DataW H) → Nat
  | [] => 0
  | x :: r => uptoBulkEntry x + uptoBulkEntries r
def uptoBulkEntry {H : Type} : Lit × DataW H → Nat
  | (.string bytes, d) => bytes.length + uptoBulk d + 1
  | (_, d) => uptoBulk d + 1
 end
def uptoSmall : (H : Type) → List (DataW H) → Bool := fun _ ds => decide (uptoBulkAll ds ≤ 1048576)
def OpenSpec.upto (s : _root_.Go.ChangeSpec) : _root_.Go.OpenSpec := { _root_.Go.OpenSpec.ofChange s with cond := some uptoSmall }

/-- 'emenderlaw28.CommonParses', WHERE WHAT IT READS IS OF BULK AT MOST 1048576: true; the input reads as it did. -/
def commonParsesUptoRow : OpenClaim := { program := "ytfnafjohfmlniaadoor", sum := "fb951636b02272993a332af30ab86be5ee9a9a97e5f3499d9199435c184b709e", func := "emender/emenderlaw28.CommonParses", spec := "commonParses", named := ["unicode/utf8.first", "unicode/utf8.acceptRanges"], apart := false, laid := [("unicode/utf8.acceptRanges", laid_unicode_utf8_acceptRanges), ("unicode/utf8.first", laid_unicode_utf8_first)], narrowed := true }
def CommonParsesUptoSaid : Prop := commonParsesUptoRow.holds Tryd.pinned (OpenSpec.upto commonParsesSpec)

/-- 'emenderlaw28.CommonRuns', WHERE WHAT IT READS IS OF BULK AT MOST 1048576: true; the input reads as it did. -/
def commonRunsUptoRow : OpenClaim := { program := "ytfnafjohfmlniaadoor", sum := "fb951636b02272993a332af30ab86be5ee9a9a97e5f3499d9199435c184b709e", func := "emender/emenderlaw28.CommonRuns", spec := "commonRuns", named := ["unicode/utf8.first", "unicode/utf8.acceptRanges"], apart := false, laid := [("unicode/utf8.acceptRanges", laid_unicode_utf8_acceptRanges), ("unicode/utf8.first", laid_unicode_utf8_first)], narrowed := true }
def CommonRunsUptoSaid : Prop := commonRunsUptoRow.holds Tryd.pinned (OpenSpec.upto commonRunsSpec)

/-- 'emenderlaw28.CommonPlain', WHERE WHAT IT READS IS OF BULK AT MOST 1048576: true; the input reads as it did. -/
def commonPlainUptoRow : OpenClaim := { program := "ytfnafjohfmlniaadoor", sum := "fb951636b02272993a332af30ab86be5ee9a9a97e5f3499d9199435c184b709e", func := "emender/emenderlaw28.CommonPlain", spec := "commonPlain", inPlace := ["internal/abi.NoEscape"], named := ["unicode/utf8.first", "unicode/utf8.acceptRanges"], apart := false, laid := [("unicode/utf8.acceptRanges", laid_unicode_utf8_acceptRanges), ("unicode/utf8.first", laid_unicode_utf8_first)], narrowed := true }
def CommonPlainUptoSaid : Prop := commonPlainUptoRow.holds Tryd.pinned (OpenSpec.upto commonPlainSpec)

/-- 'emenderlaw28.CommonMarks', WHERE WHAT IT READS IS OF BULK AT MOST 1048576: true; the input reads as it did. -/
def commonMarksUptoRow : OpenClaim := { program := "ytfnafjohfmlniaadoor", sum := "fb951636b02272993a332af30ab86be5ee9a9a97e5f3499d9199435c184b709e", func := "emender/emenderlaw28.CommonMarks", spec := "commonMarks", inPlace := ["internal/abi.NoEscape"], named := ["unicode/utf8.first", "unicode/utf8.acceptRanges"], apart := false, laid := [("unicode/utf8.acceptRanges", laid_unicode_utf8_acceptRanges), ("unicode/utf8.first", laid_unicode_utf8_first)], narrowed := true }
def CommonMarksUptoSaid : Prop := commonMarksUptoRow.holds Tryd.pinned (OpenSpec.upto commonMarksSpec)

/-- 'emenderlaw28.CommonRight', WHERE WHAT IT READS IS OF BULK AT MOST 1048576: true; the input reads as it did. -/
def commonRightUptoRow : OpenClaim := { program := "ytfnafjohfmlniaadoor", sum := "fb951636b02272993a332af30ab86be5ee9a9a97e5f3499d9199435c184b709e", func := "emender/emenderlaw28.CommonRight", spec := "commonRight", inPlace := ["internal/abi.NoEscape"], named := ["unicode/utf8.first", "unicode/utf8.acceptRanges"], apart := false, laid := [("unicode/utf8.acceptRanges", laid_unicode_utf8_acceptRanges), ("unicode/utf8.first", laid_unicode_utf8_first)], narrowed := true }
def CommonRightUptoSaid : Prop := commonRightUptoRow.holds Tryd.pinned (OpenSpec.upto commonRightSpec)

/-- 'emenderlaw28.CommonEscapes', WHERE WHAT IT READS IS OF BULK AT MOST 1048576: true; the input reads as it did. -/
def commonEscapesUptoRow : OpenClaim := { program := "ytfnafjohfmlniaadoor", sum := "fb951636b02272993a332af30ab86be5ee9a9a97e5f3499d9199435c184b709e", func := "emender/emenderlaw28.CommonEscapes", spec := "commonEscapes", inPlace := ["internal/abi.NoEscape"], named := ["unicode/utf8.first", "unicode/utf8.acceptRanges"], apart := false, laid := [("unicode/utf8.acceptRanges", laid_unicode_utf8_acceptRanges), ("unicode/utf8.first", laid_unicode_utf8_first)], narrowed := true }
def CommonEscapesUptoSaid : Prop := commonEscapesUptoRow.holds Tryd.pinned (OpenSpec.upto commonEscapesSpec)

end Rows
end Go.Proofs.YtfnafjohfmlniaaDoor
