/-
  NARROWER THAN 'FOR EVERY INPUT', by the rows' own cells (each row's printed sentence says how): FindFolds: laid · FindFits: laid · FindPuts: laid · FindSelf: laid.
  DERIVED. THE GIVEN ROWS OF THIS SEAT. 4 by the template 'for every input the law returns true; each argument reads behind the call as it read before'; 0 by the template 'total and deterministic' (their statements: YtfcfomconcoimaaDoorTotals.lean).
  GIVEN WITH THE SEED: the statements are not yours to turn. If you find one false, say at which input.
  Laid BY PROGRAM, IN A SANDBOX (cutbox-rows.mjs): the forced cells as the released guide's own fill.sh prints them over the translation a7e7ee3ec7bb0937… (all of the seat's roots in one cut). By AI agents, Wed Nov 11 2026. No macro, syntax, notation, axiom, sorry.
-/
import Derived.Test.YtfcfomconcoimaaDoorChecked
import GoSem.PinnedTables
import GoSem.Claim
import GoSem.ClaimJoined
import GoSem.ClaimMapViews
import Derived.JoinedTies
import Derived.KernelRfl
namespace Go.Proofs.YtfcfomconcoimaaDoor
/- THE CELL 'sum', in the pinned program and in every row, IS THE sha256 OF THE DUMP (.gsa) THAT YtfcfomconcoimaaDoorProg.lean LOADS. Nothing in Lean hashes anything: it is a label: what it is worth is what the hold of that sum in a sandbox is worth. -/
noncomputable def Tryd.pinned : Pinned := { name := "ytfcfomconcoimaadoor", sum := "a7e7ee3ec7bb09371e02d4056067a4c374edd8d3e289c12bbe897e4de4de52d3", checked := Tryd.checked }
namespace Rows
def none {H : Type} : Left H := { results := [], args := [] }

/- WHAT THE LISTED PACKAGE-LEVEL VARIABLES READ AS WHEN THE CALL BEGINS. Each datum BY PROGRAM (the guide's laid-datum.mjs) off the statement by which the dump's own 'gosem.cut.vars' lays the variable. In a bare row this is a premise. The card (YtfcfomconcoimaaDoorCards.lean) ties it to the program's text. -/
def laid_unicode_utf8_acceptRanges {H : Type} : DataW H := .agg [.agg [.lit (.int .u8 128), .lit (.int .u8 191)], .agg [.lit (.int .u8 160), .lit (.int .u8 191)], .agg [.lit (.int .u8 128), .lit (.int .u8 159)], .agg [.lit (.int .u8 144), .lit (.int .u8 191)], .agg [.lit (.int .u8 128), .lit (.int .u8 143)], .agg [.lit (.int .u8 0), .lit (.int .u8 0)], .agg [.lit (.int .u8 0), .lit (.int .u8 0)], .agg [.lit (.int .u8 0), .lit (.int .u8 0)], .agg [.lit (.int .u8 0), .lit (.int .u8 0)], .agg [.lit (.int .u8 0), .lit (.int .u8 0)], .agg [.lit (.int .u8 0), .lit (.int .u8 0)], .agg [.lit (.int .u8 0), .lit (.int .u8 0)], .agg [.lit (.int .u8 0), .lit (.int .u8 0)], .agg [.lit (.int .u8 0), .lit (.int .u8 0)], .agg [.lit (.int .u8 0), .lit (.int .u8 0)], .agg [.lit (.int .u8 0), .lit (.int .u8 0)]]
/-- One of Go's own tables, pinned by name: the form's constant. -/
def laid_unicode_utf8_first : DataW Unit := Go.Pinned.utf8First

/-- 'emenderlaw26.FindFolds': WHATEVER THE INPUT: true; the input reads as it did. -/
def findFoldsSpec : ChangeSpec := { name := "findFolds", fn := fun _ => fun
  | [d1, d2] => { results := [.lit (.bool true)], args := [d1, d2] }
  | _ => none }
def findFoldsRow : OpenClaim := { program := "ytfcfomconcoimaadoor", sum := "a7e7ee3ec7bb09371e02d4056067a4c374edd8d3e289c12bbe897e4de4de52d3", func := "emender/emenderlaw26.FindFolds", spec := "findFolds", unfollowed := true, recurses := true, named := ["unicode/utf8.first", "unicode/utf8.acceptRanges"], apart := false, laid := [("unicode/utf8.acceptRanges", laid_unicode_utf8_acceptRanges), ("unicode/utf8.first", laid_unicode_utf8_first)] }
def FindFoldsSaid : Prop := findFoldsRow.holds Tryd.pinned (OpenSpec.ofChange findFoldsSpec)

/-- ITS FALSE NEIGHBOUR: 'it returns false'. Refute it at one input. -/
def findFoldsWrong : ChangeSpec := { name := "findFolds", fn := fun _ => fun
  | [d1, d2] => { results := [.lit (.bool false)], args := [d1, d2] }
  | _ => none }
def FindFoldsWrongFalsely : Prop := findFoldsRow.holds Tryd.pinned (OpenSpec.ofChange findFoldsWrong)

/-- 'emenderlaw26.FindFits': WHATEVER THE INPUT: true; the input reads as it did. -/
def findFitsSpec : ChangeSpec := { name := "findFits", fn := fun _ => fun
  | [d1, d2] => { results := [.lit (.bool true)], args := [d1, d2] }
  | _ => none }
def findFitsRow : OpenClaim := { program := "ytfcfomconcoimaadoor", sum := "a7e7ee3ec7bb09371e02d4056067a4c374edd8d3e289c12bbe897e4de4de52d3", func := "emender/emenderlaw26.FindFits", spec := "findFits", inPlace := ["internal/abi.NoEscape"], unfollowed := true, recurses := true, named := ["unicode/utf8.first", "unicode/utf8.acceptRanges"], apart := false, laid := [("unicode/utf8.acceptRanges", laid_unicode_utf8_acceptRanges), ("unicode/utf8.first", laid_unicode_utf8_first)] }
def FindFitsSaid : Prop := findFitsRow.holds Tryd.pinned (OpenSpec.ofChange findFitsSpec)

/-- ITS FALSE NEIGHBOUR: 'it returns false'. Refute it at one input. -/
def findFitsWrong : ChangeSpec := { name := "findFits", fn := fun _ => fun
  | [d1, d2] => { results := [.lit (.bool false)], args := [d1, d2] }
  | _ => none }
def FindFitsWrongFalsely : Prop := findFitsRow.holds Tryd.pinned (OpenSpec.ofChange findFitsWrong)

/-- 'emenderlaw26.FindPuts': WHATEVER THE INPUT: true; the input reads as it did. -/
def findPutsSpec : ChangeSpec := { name := "findPuts", fn := fun _ => fun
  | [d1, d2, d3] => { results := [.lit (.bool true)], args := [d1, d2, d3] }
  | _ => none }
def findPutsRow : OpenClaim := { program := "ytfcfomconcoimaadoor", sum := "a7e7ee3ec7bb09371e02d4056067a4c374edd8d3e289c12bbe897e4de4de52d3", func := "emender/emenderlaw26.FindPuts", spec := "findPuts", unfollowed := true, recurses := true, named := ["unicode/utf8.first", "unicode/utf8.acceptRanges"], apart := false, laid := [("unicode/utf8.acceptRanges", laid_unicode_utf8_acceptRanges), ("unicode/utf8.first", laid_unicode_utf8_first)] }
def FindPutsSaid : Prop := findPutsRow.holds Tryd.pinned (OpenSpec.ofChange findPutsSpec)

/-- ITS FALSE NEIGHBOUR: 'it returns false'. Refute it at one input. -/
def findPutsWrong : ChangeSpec := { name := "findPuts", fn := fun _ => fun
  | [d1, d2, d3] => { results := [.lit (.bool false)], args := [d1, d2, d3] }
  | _ => none }
def FindPutsWrongFalsely : Prop := findPutsRow.holds Tryd.pinned (OpenSpec.ofChange findPutsWrong)

/-- 'emenderlaw26.FindSelf': WHATEVER THE INPUT: true; the input reads as it did. -/
def findSelfSpec : ChangeSpec := { name := "findSelf", fn := fun _ => fun
  | [d1, d2, d3] => { results := [.lit (.bool true)], args := [d1, d2, d3] }
  | _ => none }
def findSelfRow : OpenClaim := { program := "ytfcfomconcoimaadoor", sum := "a7e7ee3ec7bb09371e02d4056067a4c374edd8d3e289c12bbe897e4de4de52d3", func := "emender/emenderlaw26.FindSelf", spec := "findSelf", unfollowed := true, recurses := true, named := ["unicode/utf8.first", "unicode/utf8.acceptRanges"], apart := false, laid := [("unicode/utf8.acceptRanges", laid_unicode_utf8_acceptRanges), ("unicode/utf8.first", laid_unicode_utf8_first)] }
def FindSelfSaid : Prop := findSelfRow.holds Tryd.pinned (OpenSpec.ofChange findSelfSpec)

/-- ITS FALSE NEIGHBOUR: 'it returns false'. Refute it at one input. -/
def findSelfWrong : ChangeSpec := { name := "findSelf", fn := fun _ => fun
  | [d1, d2, d3] => { results := [.lit (.bool false)], args := [d1, d2, d3] }
  | _ => none }
def FindSelfWrongFalsely : Prop := findSelfRow.holds Tryd.pinned (OpenSpec.ofChange findSelfWrong)

/- THE SECOND FORM. 'bulk': how many values and letters a reading holds, each counted each time it is reached (what is shared counts as often as it is met; a slice's spare places count too). A statement '..UptoSaid' is the law's where the arguments, and the package variables that the reading takes, are together of bulk at most 1048576: NARROWER than '..Said'. Prove '..Said' where nothing that the law and all that it calls make is longer than what came in: it says more and counts as full. Else prove '..UptoSaid'. A law counts once. -/
mutual
def uptoBulk {H : Type} : DataW H → Nat
  | .lit (.string bytes) => bytes.length + 1
  | .lit _ => 1
  | .nil => 1
  | .ptr d => uptoBulk d + 1
  | .slice elems spare => uptoBulkAll elems + uptoBulkAll spare + 1
  | .agg parts => uptoBulkAll parts + 1
  | .iface _ d => uptoBulk d + 1
  | .map entries => uptoBulkEntries entries + 1
  | .held _ => 1
def uptoBulkAll {H : Type} : List (DataW H) → Nat
  | [] => 0
  | d :: r => uptoBulk d + uptoBulkAll r
def uptoBulkEntries {H : Type} : List (Lit × DataW H) → Nat
  | [] => 0
  | x :: r => uptoBulkEntry x + uptoBulkEntries r
def uptoBulkEntry {H : Type} : Lit × DataW H → Nat
  | (.string bytes, d) => bytes.length + uptoBulk d + 1
  | (_, d) => uptoBulk d + 1
 end
def uptoSmall : (H : Type) → List (DataW H) → Bool := fun _ ds => decide (uptoBulkAll ds ≤ 1048576)
def OpenSpec.upto (s : _root_.Go.ChangeSpec) : _root_.Go.OpenSpec := { _root_.Go.OpenSpec.ofChange s with cond := some uptoSmall }

/-- 'emenderlaw26.FindFolds', WHERE WHAT IT READS IS OF BULK AT MOST 1048576: true; the input reads as it did. -/
def findFoldsUptoRow : OpenClaim := { program := "ytfcfomconcoimaadoor", sum := "a7e7ee3ec7bb09371e02d4056067a4c374edd8d3e289c12bbe897e4de4de52d3", func := "emender/emenderlaw26.FindFolds", spec := "findFolds", unfollowed := true, recurses := true, named := ["unicode/utf8.first", "unicode/utf8.acceptRanges"], apart := false, laid := [("unicode/utf8.acceptRanges", laid_unicode_utf8_acceptRanges), ("unicode/utf8.first", laid_unicode_utf8_first)], narrowed := true }
def FindFoldsUptoSaid : Prop := findFoldsUptoRow.holds Tryd.pinned (OpenSpec.upto findFoldsSpec)

/-- 'emenderlaw26.FindFits', WHERE WHAT IT READS IS OF BULK AT MOST 1048576: true; the input reads as it did. -/
def findFitsUptoRow : OpenClaim := { program := "ytfcfomconcoimaadoor", sum := "a7e7ee3ec7bb09371e02d4056067a4c374edd8d3e289c12bbe897e4de4de52d3", func := "emender/emenderlaw26.FindFits", spec := "findFits", inPlace := ["internal/abi.NoEscape"], unfollowed := true, recurses := true, named := ["unicode/utf8.first", "unicode/utf8.acceptRanges"], apart := false, laid := [("unicode/utf8.acceptRanges", laid_unicode_utf8_acceptRanges), ("unicode/utf8.first", laid_unicode_utf8_first)], narrowed := true }
def FindFitsUptoSaid : Prop := findFitsUptoRow.holds Tryd.pinned (OpenSpec.upto findFitsSpec)

/-- 'emenderlaw26.FindPuts', WHERE WHAT IT READS IS OF BULK AT MOST 1048576: true; the input reads as it did. -/
def findPutsUptoRow : OpenClaim := { program := "ytfcfomconcoimaadoor", sum := "a7e7ee3ec7bb09371e02d4056067a4c374edd8d3e289c12bbe897e4de4de52d3", func := "emender/emenderlaw26.FindPuts", spec := "findPuts", unfollowed := true, recurses := true, named := ["unicode/utf8.first", "unicode/utf8.acceptRanges"], apart := false, laid := [("unicode/utf8.acceptRanges", laid_unicode_utf8_acceptRanges), ("unicode/utf8.first", laid_unicode_utf8_first)], narrowed := true }
def FindPutsUptoSaid : Prop := findPutsUptoRow.holds Tryd.pinned (OpenSpec.upto findPutsSpec)

/-- 'emenderlaw26.FindSelf', WHERE WHAT IT READS IS OF BULK AT MOST 1048576: true; the input reads as it did. -/
def findSelfUptoRow : OpenClaim := { program := "ytfcfomconcoimaadoor", sum := "a7e7ee3ec7bb09371e02d4056067a4c374edd8d3e289c12bbe897e4de4de52d3", func := "emender/emenderlaw26.FindSelf", spec := "findSelf", unfollowed := true, recurses := true, named := ["unicode/utf8.first", "unicode/utf8.acceptRanges"], apart := false, laid := [("unicode/utf8.acceptRanges", laid_unicode_utf8_acceptRanges), ("unicode/utf8.first", laid_unicode_utf8_first)], narrowed := true }
def FindSelfUptoSaid : Prop := findSelfUptoRow.holds Tryd.pinned (OpenSpec.upto findSelfSpec)

end Rows
end Go.Proofs.YtfcfomconcoimaaDoor
