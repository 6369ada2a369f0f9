/-
  No cell of these rows narrows 'for every input' (looked for: loops, veiled, ifaces, maps, wideKeys, modest, calm, conditions, laid).
  DERIVED. THE GIVEN ROWS OF THIS SEAT. 5 by the template 'for every input the law returns true; each argument reads behind the call as it read before'; 0 by the template 'total and deterministic' (their statements: YtjpmlggkhhoooaaTotals.lean).
  GIVEN WITH THE SEED: the statements are not yours to turn. If you find one false, say at which input.
  Laid BY PROGRAM, IN A SANDBOX (cutbox-rows.mjs): the forced cells as the released guide's own fill.sh prints them over the translation 7bce229c2263ac19… (all of the seat's roots in one cut). By AI agents, Wed Nov 11 2026. No macro, syntax, notation, axiom, sorry.
-/
import Derived.Test.YtjpmlggkhhoooaaChecked
import GoSem.Claim
import GoSem.ClaimJoined
import GoSem.ClaimMapViews
import Derived.JoinedTies
import Derived.KernelRfl
namespace Go.Proofs.Ytjpmlggkhhoooaa
/- THE CELL 'sum', in the pinned program and in every row, IS THE sha256 OF THE DUMP (.gsa) THAT YtjpmlggkhhoooaaProg.lean LOADS. Nothing in Lean hashes anything: it is a label: what it is worth is what the hold of that sum in a sandbox is worth. -/
noncomputable def Try.pinned : Pinned := { name := "ytjpmlggkhhoooaa", sum := "7bce229c2263ac1953c7c66c1347608bfe3f913400c23d71cec60751107e8668", checked := Try.checked }
namespace Rows
def none {H : Type} : Left H := { results := [], args := [] }

/-- 'emenderlaw23.DiffPairs': WHATEVER THE INPUT: true; the input reads as it did. -/
def diffPairsSpec : ChangeSpec := { name := "diffPairs", fn := fun _ => fun
  | [d1, d2] => { results := [.lit (.bool true)], args := [d1, d2] }
  | _ => none }
def diffPairsRow : OpenClaim := { program := "ytjpmlggkhhoooaa", sum := "7bce229c2263ac1953c7c66c1347608bfe3f913400c23d71cec60751107e8668", func := "emender/emenderlaw23.DiffPairs", spec := "diffPairs", unfollowed := true, recurses := true, apart := false }
def DiffPairsSaid : Prop := diffPairsRow.holds Try.pinned (OpenSpec.ofChange diffPairsSpec)

/-- ITS FALSE NEIGHBOUR: 'it returns false'. Refute it at one input. -/
def diffPairsWrong : ChangeSpec := { name := "diffPairs", fn := fun _ => fun
  | [d1, d2] => { results := [.lit (.bool false)], args := [d1, d2] }
  | _ => none }
def DiffPairsWrongFalsely : Prop := diffPairsRow.holds Try.pinned (OpenSpec.ofChange diffPairsWrong)

/-- 'emenderlaw23.DiffEdits': WHATEVER THE INPUT: true; the input reads as it did. -/
def diffEditsSpec : ChangeSpec := { name := "diffEdits", fn := fun _ => fun
  | [d1, d2] => { results := [.lit (.bool true)], args := [d1, d2] }
  | _ => none }
def diffEditsRow : OpenClaim := { program := "ytjpmlggkhhoooaa", sum := "7bce229c2263ac1953c7c66c1347608bfe3f913400c23d71cec60751107e8668", func := "emender/emenderlaw23.DiffEdits", spec := "diffEdits", unfollowed := true, recurses := true, apart := false }
def DiffEditsSaid : Prop := diffEditsRow.holds Try.pinned (OpenSpec.ofChange diffEditsSpec)

/-- ITS FALSE NEIGHBOUR: 'it returns false'. Refute it at one input. -/
def diffEditsWrong : ChangeSpec := { name := "diffEdits", fn := fun _ => fun
  | [d1, d2] => { results := [.lit (.bool false)], args := [d1, d2] }
  | _ => none }
def DiffEditsWrongFalsely : Prop := diffEditsRow.holds Try.pinned (OpenSpec.ofChange diffEditsWrong)

/-- 'emenderlaw23.DiffMakes': WHATEVER THE INPUT: true; the input reads as it did. -/
def diffMakesSpec : ChangeSpec := { name := "diffMakes", fn := fun _ => fun
  | [d1, d2] => { results := [.lit (.bool true)], args := [d1, d2] }
  | _ => none }
def diffMakesRow : OpenClaim := { program := "ytjpmlggkhhoooaa", sum := "7bce229c2263ac1953c7c66c1347608bfe3f913400c23d71cec60751107e8668", func := "emender/emenderlaw23.DiffMakes", spec := "diffMakes", unfollowed := true, recurses := true, apart := false }
def DiffMakesSaid : Prop := diffMakesRow.holds Try.pinned (OpenSpec.ofChange diffMakesSpec)

/-- ITS FALSE NEIGHBOUR: 'it returns false'. Refute it at one input. -/
def diffMakesWrong : ChangeSpec := { name := "diffMakes", fn := fun _ => fun
  | [d1, d2] => { results := [.lit (.bool false)], args := [d1, d2] }
  | _ => none }
def DiffMakesWrongFalsely : Prop := diffMakesRow.holds Try.pinned (OpenSpec.ofChange diffMakesWrong)

/-- 'emenderlaw23.DiffBlocks': WHATEVER THE INPUT: true; the input reads as it did. -/
def diffBlocksSpec : ChangeSpec := { name := "diffBlocks", fn := fun _ => fun
  | [d1, d2] => { results := [.lit (.bool true)], args := [d1, d2] }
  | _ => none }
def diffBlocksRow : OpenClaim := { program := "ytjpmlggkhhoooaa", sum := "7bce229c2263ac1953c7c66c1347608bfe3f913400c23d71cec60751107e8668", func := "emender/emenderlaw23.DiffBlocks", spec := "diffBlocks", unfollowed := true, recurses := true, apart := false }
def DiffBlocksSaid : Prop := diffBlocksRow.holds Try.pinned (OpenSpec.ofChange diffBlocksSpec)

/-- ITS FALSE NEIGHBOUR: 'it returns false'. Refute it at one input. -/
def diffBlocksWrong : ChangeSpec := { name := "diffBlocks", fn := fun _ => fun
  | [d1, d2] => { results := [.lit (.bool false)], args := [d1, d2] }
  | _ => none }
def DiffBlocksWrongFalsely : Prop := diffBlocksRow.holds Try.pinned (OpenSpec.ofChange diffBlocksWrong)

/-- 'emenderlaw23.DiffRows': WHATEVER THE INPUT: true; the input reads as it did. -/
def diffRowsSpec : ChangeSpec := { name := "diffRows", fn := fun _ => fun
  | [d1, d2] => { results := [.lit (.bool true)], args := [d1, d2] }
  | _ => none }
def diffRowsRow : OpenClaim := { program := "ytjpmlggkhhoooaa", sum := "7bce229c2263ac1953c7c66c1347608bfe3f913400c23d71cec60751107e8668", func := "emender/emenderlaw23.DiffRows", spec := "diffRows", unfollowed := true, recurses := true, apart := false }
def DiffRowsSaid : Prop := diffRowsRow.holds Try.pinned (OpenSpec.ofChange diffRowsSpec)

/-- ITS FALSE NEIGHBOUR: 'it returns false'. Refute it at one input. -/
def diffRowsWrong : ChangeSpec := { name := "diffRows", fn := fun _ => fun
  | [d1, d2] => { results := [.lit (.bool false)], args := [d1, d2] }
  | _ => none }
def DiffRowsWrongFalsely : Prop := diffRowsRow.holds Try.pinned (OpenSpec.ofChange diffRowsWrong)

/- THE SECOND FORM. 'bulk': how many values and letters a reading holds, each counted each time it is reached (what is shared counts as often as it is met; a slice's spare places count too). A statement '..UptoSaid' is the law's where the arguments, and the package variables that the reading takes, are together of bulk at most 1048576: NARROWER than '..Said'. Prove '..Said' where nothing that the law and all that it calls make is longer than what came in: it says more and counts as full. Else prove '..UptoSaid'. A law counts once. -/
mutual
def uptoBulk {H : Type} : DataW H → Nat
  | .lit (.string bytes) => bytes.length + 1
  | .lit _ => 1
  | .nil => 1
  | .ptr d => uptoBulk d + 1
  | .slice elems spare => uptoBulkAll elems + uptoBulkAll spare + 1
  | .agg parts => uptoBulkAll parts + 1
  | .iface _ d => uptoBulk d + 1
  | .map entries => uptoBulkEntries entries + 1
  | .held _ => 1
def uptoBulkAll {H : Type} : List (DataW H) → Nat
  | [] => 0
  | d :: r => uptoBulk d + uptoBulkAll r
def uptoBulkEntries {H : Type} : List (Lit × DataW H) → Nat
  | [] => 0
  | x :: r => uptoBulkEntry x + uptoBulkEntries r
def uptoBulkEntry {H : Type} : Lit × DataW H → Nat
  | (.string bytes, d) => bytes.length + uptoBulk d + 1
  | (_, d) => uptoBulk d + 1
 end
def uptoSmall : (H : Type) → List (DataW H) → Bool := fun _ ds => decide (uptoBulkAll ds ≤ 1048576)
def OpenSpec.upto (s : _root_.Go.ChangeSpec) : _root_.Go.OpenSpec := { _root_.Go.OpenSpec.ofChange s with cond := some uptoSmall }

/-- 'emenderlaw23.DiffPairs', WHERE WHAT IT READS IS OF BULK AT MOST 1048576: true; the input reads as it did. -/
def diffPairsUptoRow : OpenClaim := { program := "ytjpmlggkhhoooaa", sum := "7bce229c2263ac1953c7c66c1347608bfe3f913400c23d71cec60751107e8668", func := "emender/emenderlaw23.DiffPairs", spec := "diffPairs", unfollowed := true, recurses := true, apart := false, narrowed := true }
def DiffPairsUptoSaid : Prop := diffPairsUptoRow.holds Try.pinned (OpenSpec.upto diffPairsSpec)

/-- 'emenderlaw23.DiffEdits', WHERE WHAT IT READS IS OF BULK AT MOST 1048576: true; the input reads as it did. -/
def diffEditsUptoRow : OpenClaim := { program := "ytjpmlggkhhoooaa", sum := "7bce229c2263ac1953c7c66c1347608bfe3f913400c23d71cec60751107e8668", func := "emender/emenderlaw23.DiffEdits", spec := "diffEdits", unfollowed := true, recurses := true, apart := false, narrowed := true }
def DiffEditsUptoSaid : Prop := diffEditsUptoRow.holds Try.pinned (OpenSpec.upto diffEditsSpec)

/-- 'emenderlaw23.DiffMakes', WHERE WHAT IT READS IS OF BULK AT MOST 1048576: true; the input reads as it did. -/
def diffMakesUptoRow : OpenClaim := { program := "ytjpmlggkhhoooaa", sum := "7bce229c2263ac1953c7c66c1347608bfe3f913400c23d71cec60751107e8668", func := "emender/emenderlaw23.DiffMakes", spec := "diffMakes", unfollowed := true, recurses := true, apart := false, narrowed := true }
def DiffMakesUptoSaid : Prop := diffMakesUptoRow.holds Try.pinned (OpenSpec.upto diffMakesSpec)

/-- 'emenderlaw23.DiffBlocks', WHERE WHAT IT READS IS OF BULK AT MOST 1048576: true; the input reads as it did. -/
def diffBlocksUptoRow : OpenClaim := { program := "ytjpmlggkhhoooaa", sum := "7bce229c2263ac1953c7c66c1347608bfe3f913400c23d71cec60751107e8668", func := "emender/emenderlaw23.DiffBlocks", spec := "diffBlocks", unfollowed := true, recurses := true, apart := false, narrowed := true }
def DiffBlocksUptoSaid : Prop := diffBlocksUptoRow.holds Try.pinned (OpenSpec.upto diffBlocksSpec)

/-- 'emenderlaw23.DiffRows', WHERE WHAT IT READS IS OF BULK AT MOST 1048576: true; the input reads as it did. -/
def diffRowsUptoRow : OpenClaim := { program := "ytjpmlggkhhoooaa", sum := "7bce229c2263ac1953c7c66c1347608bfe3f913400c23d71cec60751107e8668", func := "emender/emenderlaw23.DiffRows", spec := "diffRows", unfollowed := true, recurses := true, apart := false, narrowed := true }
def DiffRowsUptoSaid : Prop := diffRowsUptoRow.holds Try.pinned (OpenSpec.upto diffRowsSpec)

end Rows
end Go.Proofs.Ytjpmlggkhhoooaa
