/-
  NARROWER THAN 'FOR EVERY INPUT', by the rows' own cells (each row's printed sentence says how): InlineParses: laid · InlineBack: laid · InlineRight: laid · InlinePlain: laid · InlineEscapes: laid.
  DERIVED. THE GIVEN ROWS OF THIS SEAT. 5 by the template 'for every input the law returns true; each argument reads behind the call as it read before'; 0 by the template 'total and deterministic' (their statements: YtebbngeamnpgjaaDoorTotals.lean).
  GIVEN WITH THE SEED: the statements are not yours to turn. If you find one false, say at which input.
  Laid BY PROGRAM, IN A SANDBOX (cutbox-rows.mjs): the forced cells as the released guide's own fill.sh prints them over the translation 897c9ccc9c1c5283… (all of the seat's roots in one cut). By AI agents, Wed Nov 11 2026. No macro, syntax, notation, axiom, sorry.
-/
import Derived.Test.YtebbngeamnpgjaaDoorChecked
import GoSem.PinnedTables
import GoSem.Claim
import GoSem.ClaimJoined
import GoSem.ClaimMapViews
import Derived.JoinedTies
import Derived.KernelRfl
namespace Go.Proofs.YtebbngeamnpgjaaDoor
/- THE CELL 'sum', in the pinned program and in every row, IS THE sha256 OF THE DUMP (.gsa) THAT YtebbngeamnpgjaaDoorProg.lean LOADS. Nothing in Lean hashes anything: it is a label: what it is worth is what the hold of that sum in a sandbox is worth. -/
noncomputable def Tryd.pinned : Pinned := { name := "ytebbngeamnpgjaadoor", sum := "897c9ccc9c1c52832b02fef43f9c0d6de1eb4f6c5b408508db1c88c8ed8fd8bc", checked := Tryd.checked }
namespace Rows
def none {H : Type} : Left H := { results := [], args := [] }

/- WHAT THE LISTED PACKAGE-LEVEL VARIABLES READ AS WHEN THE CALL BEGINS. Each datum BY PROGRAM (the guide's laid-datum.mjs) off the statement by which the dump's own 'gosem.cut.vars' lays the variable. In a bare row this is a premise. The card (YtebbngeamnpgjaaDoorCards.lean) ties it to the program's text. -/
def laid_unicode_utf8_acceptRanges {H : Type} : DataW H := .agg [.agg [.lit (.int .u8 128), .lit (.int .u8 191)], .agg [.lit (.int .u8 160), .lit (.int .u8 191)], .agg [.lit (.int .u8 128), .lit (.int .u8 159)], .agg [.lit (.int .u8 144), .lit (.int .u8 191)], .agg [.lit (.int .u8 128), .lit (.int .u8 143)], .agg [.lit (.int .u8 0), .lit (.int .u8 0)], .agg [.lit (.int .u8 0), .lit (.int .u8 0)], .agg [.lit (.int .u8 0), .lit (.int .u8 0)], .agg [.lit (.int .u8 0), .lit (.int .u8 0)], .agg [.lit (.int .u8 0), .lit (.int .u8 0)], .agg [.lit (.int .u8 0), .lit (.int .u8 0)], .agg [.lit (.int .u8 0), .lit (.int .u8 0)], .agg [.lit (.int .u8 0), .lit (.int .u8 0)], .agg [.lit (.int .u8 0), .lit (.int .u8 0)], .agg [.lit (.int .u8 0), .lit (.int .u8 0)], .agg [.lit (.int .u8 0), .lit (.int .u8 0)]]
/-- One of Go's own tables, pinned by name: the form's constant. -/
def laid_unicode_utf8_first : DataW Unit := Go.Pinned.utf8First

/-- 'emenderlaw14.InlineParses': WHATEVER THE INPUT: true; the input reads as it did. -/
def inlineParsesSpec : ChangeSpec := { name := "inlineParses", fn := fun _ => fun
  | [d] => { results := [.lit (.bool true)], args := [d] }
  | _ => none }
def inlineParsesRow : OpenClaim := { program := "ytebbngeamnpgjaadoor", sum := "897c9ccc9c1c52832b02fef43f9c0d6de1eb4f6c5b408508db1c88c8ed8fd8bc", func := "emender/emenderlaw14.InlineParses", spec := "inlineParses", inPlace := ["internal/abi.NoEscape"], named := ["unicode/utf8.first", "unicode/utf8.acceptRanges"], apart := false, laid := [("unicode/utf8.acceptRanges", laid_unicode_utf8_acceptRanges), ("unicode/utf8.first", laid_unicode_utf8_first)] }
def InlineParsesSaid : Prop := inlineParsesRow.holds Tryd.pinned (OpenSpec.ofChange inlineParsesSpec)

/-- ITS FALSE NEIGHBOUR: 'it returns false'. Refute it at one input. -/
def inlineParsesWrong : ChangeSpec := { name := "inlineParses", fn := fun _ => fun
  | [d] => { results := [.lit (.bool false)], args := [d] }
  | _ => none }
def InlineParsesWrongFalsely : Prop := inlineParsesRow.holds Tryd.pinned (OpenSpec.ofChange inlineParsesWrong)

/-- 'emenderlaw14.InlineBack': WHATEVER THE INPUT: true; the input reads as it did. -/
def inlineBackSpec : ChangeSpec := { name := "inlineBack", fn := fun _ => fun
  | [d] => { results := [.lit (.bool true)], args := [d] }
  | _ => none }
def inlineBackRow : OpenClaim := { program := "ytebbngeamnpgjaadoor", sum := "897c9ccc9c1c52832b02fef43f9c0d6de1eb4f6c5b408508db1c88c8ed8fd8bc", func := "emender/emenderlaw14.InlineBack", spec := "inlineBack", inPlace := ["internal/abi.NoEscape"], named := ["unicode/utf8.first", "unicode/utf8.acceptRanges"], apart := false, laid := [("unicode/utf8.acceptRanges", laid_unicode_utf8_acceptRanges), ("unicode/utf8.first", laid_unicode_utf8_first)] }
def InlineBackSaid : Prop := inlineBackRow.holds Tryd.pinned (OpenSpec.ofChange inlineBackSpec)

/-- ITS FALSE NEIGHBOUR: 'it returns false'. Refute it at one input. -/
def inlineBackWrong : ChangeSpec := { name := "inlineBack", fn := fun _ => fun
  | [d] => { results := [.lit (.bool false)], args := [d] }
  | _ => none }
def InlineBackWrongFalsely : Prop := inlineBackRow.holds Tryd.pinned (OpenSpec.ofChange inlineBackWrong)

/-- 'emenderlaw14.InlineRight': WHATEVER THE INPUT: true; the input reads as it did. -/
def inlineRightSpec : ChangeSpec := { name := "inlineRight", fn := fun _ => fun
  | [d] => { results := [.lit (.bool true)], args := [d] }
  | _ => none }
def inlineRightRow : OpenClaim := { program := "ytebbngeamnpgjaadoor", sum := "897c9ccc9c1c52832b02fef43f9c0d6de1eb4f6c5b408508db1c88c8ed8fd8bc", func := "emender/emenderlaw14.InlineRight", spec := "inlineRight", inPlace := ["internal/abi.NoEscape"], named := ["unicode/utf8.first", "unicode/utf8.acceptRanges"], apart := false, laid := [("unicode/utf8.acceptRanges", laid_unicode_utf8_acceptRanges), ("unicode/utf8.first", laid_unicode_utf8_first)] }
def InlineRightSaid : Prop := inlineRightRow.holds Tryd.pinned (OpenSpec.ofChange inlineRightSpec)

/-- ITS FALSE NEIGHBOUR: 'it returns false'. Refute it at one input. -/
def inlineRightWrong : ChangeSpec := { name := "inlineRight", fn := fun _ => fun
  | [d] => { results := [.lit (.bool false)], args := [d] }
  | _ => none }
def InlineRightWrongFalsely : Prop := inlineRightRow.holds Tryd.pinned (OpenSpec.ofChange inlineRightWrong)

/-- 'emenderlaw14.InlinePlain': WHATEVER THE INPUT: true; the input reads as it did. -/
def inlinePlainSpec : ChangeSpec := { name := "inlinePlain", fn := fun _ => fun
  | [d] => { results := [.lit (.bool true)], args := [d] }
  | _ => none }
def inlinePlainRow : OpenClaim := { program := "ytebbngeamnpgjaadoor", sum := "897c9ccc9c1c52832b02fef43f9c0d6de1eb4f6c5b408508db1c88c8ed8fd8bc", func := "emender/emenderlaw14.InlinePlain", spec := "inlinePlain", inPlace := ["internal/abi.NoEscape"], named := ["unicode/utf8.first", "unicode/utf8.acceptRanges"], apart := false, laid := [("unicode/utf8.acceptRanges", laid_unicode_utf8_acceptRanges), ("unicode/utf8.first", laid_unicode_utf8_first)] }
def InlinePlainSaid : Prop := inlinePlainRow.holds Tryd.pinned (OpenSpec.ofChange inlinePlainSpec)

/-- ITS FALSE NEIGHBOUR: 'it returns false'. Refute it at one input. -/
def inlinePlainWrong : ChangeSpec := { name := "inlinePlain", fn := fun _ => fun
  | [d] => { results := [.lit (.bool false)], args := [d] }
  | _ => none }
def InlinePlainWrongFalsely : Prop := inlinePlainRow.holds Tryd.pinned (OpenSpec.ofChange inlinePlainWrong)

/-- 'emenderlaw14.InlineEscapes': WHATEVER THE INPUT: true; the input reads as it did. -/
def inlineEscapesSpec : ChangeSpec := { name := "inlineEscapes", fn := fun _ => fun
  | [d] => { results := [.lit (.bool true)], args := [d] }
  | _ => none }
def inlineEscapesRow : OpenClaim := { program := "ytebbngeamnpgjaadoor", sum := "897c9ccc9c1c52832b02fef43f9c0d6de1eb4f6c5b408508db1c88c8ed8fd8bc", func := "emender/emenderlaw14.InlineEscapes", spec := "inlineEscapes", inPlace := ["internal/abi.NoEscape"], named := ["unicode/utf8.first", "unicode/utf8.acceptRanges"], apart := false, laid := [("unicode/utf8.acceptRanges", laid_unicode_utf8_acceptRanges), ("unicode/utf8.first", laid_unicode_utf8_first)] }
def InlineEscapesSaid : Prop := inlineEscapesRow.holds Tryd.pinned (OpenSpec.ofChange inlineEscapesSpec)

/-- ITS FALSE NEIGHBOUR: 'it returns false'. Refute it at one input. -/
def inlineEscapesWrong : ChangeSpec := { name := "inlineEscapes", fn := fun _ => fun
  | [d] => { results := [.lit (.bool false)], args := [d] }
  | _ => none }
def InlineEscapesWrongFalsely : Prop := inlineEscapesRow.holds Tryd.pinned (OpenSpec.ofChange inlineEscapesWrong)

/- THE SECOND FORM. 'bulk': how many values and letters a reading holds, each counted each time it is reached (what is shared counts as often as it is met; a slice's spare places count too). A statement '..UptoSaid' is the law's where the arguments, and the package variables that the reading takes, are together of bulk at most 1048576: NARROWER than '..Said'. Prove '..Said' where nothing that the law and all that it calls make is longer than what came in: it says more and counts as full. Else prove '..UptoSaid'. A law counts once. -/
mutual
def uptoBulk {H : Type} : DataW H → Nat
  | .lit (.string bytes) => bytes.length + 1
  | .lit _ => 1
  | .nil => 1
  | .ptr d => uptoBulk d + 1
  | .slice elems spare => uptoBulkAll elems + uptoBulkAll spare + 1
  | .agg parts => uptoBulkAll parts + 1
  | .iface _ d => uptoBulk d + 1
  | .map entries => uptoBulkEntries entries + 1
  | .held _ => 1
def uptoBulkAll {H : Type} : List (DataW H) → Nat
  | [] => 0
  | d :: r => uptoBulk d + uptoBulkAll r
def uptoBulkEntries {H : Type} : List (Lit × DataW H) → Nat
  | [] => 0
  | x :: r => uptoBulkEntry x + uptoBulkEntries r
def uptoBulkEntry {H : Type} : Lit × DataW H → Nat
  | (.string bytes, d) => bytes.length + uptoBulk d + 1
  | (_, d) => uptoBulk d + 1
 end
def uptoSmall : (H : Type) → List (DataW H) → Bool := fun _ ds => decide (uptoBulkAll ds ≤ 1048576)
def OpenSpec.upto (s : _root_.Go.ChangeSpec) : _root_.Go.OpenSpec := { _root_.Go.OpenSpec.ofChange s with cond := some uptoSmall }

/-- 'emenderlaw14.InlineParses', WHERE WHAT IT READS IS OF BULK AT MOST 1048576: true; the input reads as it did. -/
def inlineParsesUptoRow : OpenClaim := { program := "ytebbngeamnpgjaadoor", sum := "897c9ccc9c1c52832b02fef43f9c0d6de1eb4f6c5b408508db1c88c8ed8fd8bc", func := "emender/emenderlaw14.InlineParses", spec := "inlineParses", inPlace := ["internal/abi.NoEscape"], named := ["unicode/utf8.first", "unicode/utf8.acceptRanges"], apart := false, laid := [("unicode/utf8.acceptRanges", laid_unicode_utf8_acceptRanges), ("unicode/utf8.first", laid_unicode_utf8_first)], narrowed := true }
def InlineParsesUptoSaid : Prop := inlineParsesUptoRow.holds Tryd.pinned (OpenSpec.upto inlineParsesSpec)

/-- 'emenderlaw14.InlineBack', WHERE WHAT IT READS IS OF BULK AT MOST 1048576: true; the input reads as it did. -/
def inlineBackUptoRow : OpenClaim := { program := "ytebbngeamnpgjaadoor", sum := "897c9ccc9c1c52832b02fef43f9c0d6de1eb4f6c5b408508db1c88c8ed8fd8bc", func := "emender/emenderlaw14.InlineBack", spec := "inlineBack", inPlace := ["internal/abi.NoEscape"], named := ["unicode/utf8.first", "unicode/utf8.acceptRanges"], apart := false, laid := [("unicode/utf8.acceptRanges", laid_unicode_utf8_acceptRanges), ("unicode/utf8.first", laid_unicode_utf8_first)], narrowed := true }
def InlineBackUptoSaid : Prop := inlineBackUptoRow.holds Tryd.pinned (OpenSpec.upto inlineBackSpec)

/-- 'emenderlaw14.InlineRight', WHERE WHAT IT READS IS OF BULK AT MOST 1048576: true; the input reads as it did. -/
def inlineRightUptoRow : OpenClaim := { program := "ytebbngeamnpgjaadoor", sum := "897c9ccc9c1c52832b02fef43f9c0d6de1eb4f6c5b408508db1c88c8ed8fd8bc", func := "emender/emenderlaw14.InlineRight", spec := "inlineRight", inPlace := ["internal/abi.NoEscape"], named := ["unicode/utf8.first", "unicode/utf8.acceptRanges"], apart := false, laid := [("unicode/utf8.acceptRanges", laid_unicode_utf8_acceptRanges), ("unicode/utf8.first", laid_unicode_utf8_first)], narrowed := true }
def InlineRightUptoSaid : Prop := inlineRightUptoRow.holds Tryd.pinned (OpenSpec.upto inlineRightSpec)

/-- 'emenderlaw14.InlinePlain', WHERE WHAT IT READS IS OF BULK AT MOST 1048576: true; the input reads as it did. -/
def inlinePlainUptoRow : OpenClaim := { program := "ytebbngeamnpgjaadoor", sum := "897c9ccc9c1c52832b02fef43f9c0d6de1eb4f6c5b408508db1c88c8ed8fd8bc", func := "emender/emenderlaw14.InlinePlain", spec := "inlinePlain", inPlace := ["internal/abi.NoEscape"], named := ["unicode/utf8.first", "unicode/utf8.acceptRanges"], apart := false, laid := [("unicode/utf8.acceptRanges", laid_unicode_utf8_acceptRanges), ("unicode/utf8.first", laid_unicode_utf8_first)], narrowed := true }
def InlinePlainUptoSaid : Prop := inlinePlainUptoRow.holds Tryd.pinned (OpenSpec.upto inlinePlainSpec)

/-- 'emenderlaw14.InlineEscapes', WHERE WHAT IT READS IS OF BULK AT MOST 1048576: true; the input reads as it did. -/
def inlineEscapesUptoRow : OpenClaim := { program := "ytebbngeamnpgjaadoor", sum := "897c9ccc9c1c52832b02fef43f9c0d6de1eb4f6c5b408508db1c88c8ed8fd8bc", func := "emender/emenderlaw14.InlineEscapes", spec := "inlineEscapes", inPlace := ["internal/abi.NoEscape"], named := ["unicode/utf8.first", "unicode/utf8.acceptRanges"], apart := false, laid := [("unicode/utf8.acceptRanges", laid_unicode_utf8_acceptRanges), ("unicode/utf8.first", laid_unicode_utf8_first)], narrowed := true }
def InlineEscapesUptoSaid : Prop := inlineEscapesUptoRow.holds Tryd.pinned (OpenSpec.upto inlineEscapesSpec)

end Rows
end Go.Proofs.YtebbngeamnpgjaaDoor
