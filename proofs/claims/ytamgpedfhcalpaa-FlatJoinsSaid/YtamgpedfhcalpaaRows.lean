/-
  No cell of these rows narrows 'for every input' (looked for: loops, veiled, ifaces, maps, wideKeys, modest, calm, conditions, laid).
  DERIVED. THE GIVEN ROWS OF THIS SEAT. 8 by the template 'for every input the law returns true; each argument reads behind the call as it read before'; 0 by the template 'total and deterministic' (their statements: YtamgpedfhcalpaaTotals.lean).
  GIVEN WITH THE SEED: the statements are not yours to turn. If you find one false, say at which input.
  Laid BY PROGRAM, IN A SANDBOX (cutbox-rows.mjs): the forced cells as the released guide's own fill.sh prints them over the translation ffbd6773568dd9e8… (all of the seat's roots in one cut). By AI agents, Wed Nov 11 2026. No macro, syntax, notation, axiom, sorry.
-/
import Derived.Test.YtamgpedfhcalpaaChecked
import GoSem.Claim
import GoSem.ClaimJoined
import GoSem.ClaimMapViews
import Derived.JoinedTies
import Derived.KernelRfl
namespace Go.Proofs.Ytamgpedfhcalpaa
/- THE CELL 'sum', in the pinned program and in every row, IS THE sha256 OF THE DUMP (.gsa) THAT YtamgpedfhcalpaaProg.lean LOADS. Nothing in Lean hashes anything: it is a label: what it is worth is what the hold of that sum in a sandbox is worth. -/
noncomputable def Try.pinned : Pinned := { name := "ytamgpedfhcalpaa", sum := "ffbd6773568dd9e80c0cbb911fc52dbd184a90250b12085630cf1f5a8eae2d89", checked := Try.checked }
namespace Rows
def none {H : Type} : Left H := { results := [], args := [] }

/-- 'emenderlaw04.FlatRights': WHATEVER THE INPUT: true; the input reads as it did. -/
def flatRightsSpec : ChangeSpec := { name := "flatRights", fn := fun _ => fun
  | [d] => { results := [.lit (.bool true)], args := [d] }
  | _ => none }
def flatRightsRow : OpenClaim := { program := "ytamgpedfhcalpaa", sum := "ffbd6773568dd9e80c0cbb911fc52dbd184a90250b12085630cf1f5a8eae2d89", func := "emender/emenderlaw04.FlatRights", spec := "flatRights", apart := false }
def FlatRightsSaid : Prop := flatRightsRow.holds Try.pinned (OpenSpec.ofChange flatRightsSpec)

/-- ITS FALSE NEIGHBOUR: 'it returns false'. Refute it at one input. -/
def flatRightsWrong : ChangeSpec := { name := "flatRights", fn := fun _ => fun
  | [d] => { results := [.lit (.bool false)], args := [d] }
  | _ => none }
def FlatRightsWrongFalsely : Prop := flatRightsRow.holds Try.pinned (OpenSpec.ofChange flatRightsWrong)

/-- 'emenderlaw04.FlatDeep': WHATEVER THE INPUT: true; the input reads as it did. -/
def flatDeepSpec : ChangeSpec := { name := "flatDeep", fn := fun _ => fun
  | [d] => { results := [.lit (.bool true)], args := [d] }
  | _ => none }
def flatDeepRow : OpenClaim := { program := "ytamgpedfhcalpaa", sum := "ffbd6773568dd9e80c0cbb911fc52dbd184a90250b12085630cf1f5a8eae2d89", func := "emender/emenderlaw04.FlatDeep", spec := "flatDeep", apart := false }
def FlatDeepSaid : Prop := flatDeepRow.holds Try.pinned (OpenSpec.ofChange flatDeepSpec)

/-- ITS FALSE NEIGHBOUR: 'it returns false'. Refute it at one input. -/
def flatDeepWrong : ChangeSpec := { name := "flatDeep", fn := fun _ => fun
  | [d] => { results := [.lit (.bool false)], args := [d] }
  | _ => none }
def FlatDeepWrongFalsely : Prop := flatDeepRow.holds Try.pinned (OpenSpec.ofChange flatDeepWrong)

/-- 'emenderlaw04.FlatKids': WHATEVER THE INPUT: true; the input reads as it did. -/
def flatKidsSpec : ChangeSpec := { name := "flatKids", fn := fun _ => fun
  | [d1, d2] => { results := [.lit (.bool true)], args := [d1, d2] }
  | _ => none }
def flatKidsRow : OpenClaim := { program := "ytamgpedfhcalpaa", sum := "ffbd6773568dd9e80c0cbb911fc52dbd184a90250b12085630cf1f5a8eae2d89", func := "emender/emenderlaw04.FlatKids", spec := "flatKids", apart := false }
def FlatKidsSaid : Prop := flatKidsRow.holds Try.pinned (OpenSpec.ofChange flatKidsSpec)

/-- ITS FALSE NEIGHBOUR: 'it returns false'. Refute it at one input. -/
def flatKidsWrong : ChangeSpec := { name := "flatKids", fn := fun _ => fun
  | [d1, d2] => { results := [.lit (.bool false)], args := [d1, d2] }
  | _ => none }
def FlatKidsWrongFalsely : Prop := flatKidsRow.holds Try.pinned (OpenSpec.ofChange flatKidsWrong)

/-- 'emenderlaw04.FlatPairs': WHATEVER THE INPUT: true; the input reads as it did. -/
def flatPairsSpec : ChangeSpec := { name := "flatPairs", fn := fun _ => fun
  | [d] => { results := [.lit (.bool true)], args := [d] }
  | _ => none }
def flatPairsRow : OpenClaim := { program := "ytamgpedfhcalpaa", sum := "ffbd6773568dd9e80c0cbb911fc52dbd184a90250b12085630cf1f5a8eae2d89", func := "emender/emenderlaw04.FlatPairs", spec := "flatPairs", apart := false }
def FlatPairsSaid : Prop := flatPairsRow.holds Try.pinned (OpenSpec.ofChange flatPairsSpec)

/-- ITS FALSE NEIGHBOUR: 'it returns false'. Refute it at one input. -/
def flatPairsWrong : ChangeSpec := { name := "flatPairs", fn := fun _ => fun
  | [d] => { results := [.lit (.bool false)], args := [d] }
  | _ => none }
def FlatPairsWrongFalsely : Prop := flatPairsRow.holds Try.pinned (OpenSpec.ofChange flatPairsWrong)

/-- 'emenderlaw04.FlatChecks': WHATEVER THE INPUT: true; the input reads as it did. -/
def flatChecksSpec : ChangeSpec := { name := "flatChecks", fn := fun _ => fun
  | [d1, d2] => { results := [.lit (.bool true)], args := [d1, d2] }
  | _ => none }
def flatChecksRow : OpenClaim := { program := "ytamgpedfhcalpaa", sum := "ffbd6773568dd9e80c0cbb911fc52dbd184a90250b12085630cf1f5a8eae2d89", func := "emender/emenderlaw04.FlatChecks", spec := "flatChecks", apart := false }
def FlatChecksSaid : Prop := flatChecksRow.holds Try.pinned (OpenSpec.ofChange flatChecksSpec)

/-- ITS FALSE NEIGHBOUR: 'it returns false'. Refute it at one input. -/
def flatChecksWrong : ChangeSpec := { name := "flatChecks", fn := fun _ => fun
  | [d1, d2] => { results := [.lit (.bool false)], args := [d1, d2] }
  | _ => none }
def FlatChecksWrongFalsely : Prop := flatChecksRow.holds Try.pinned (OpenSpec.ofChange flatChecksWrong)

/-- 'emenderlaw04.FlatJoins': WHATEVER THE INPUT: true; the input reads as it did. -/
def flatJoinsSpec : ChangeSpec := { name := "flatJoins", fn := fun _ => fun
  | [d1, d2, d3] => { results := [.lit (.bool true)], args := [d1, d2, d3] }
  | _ => none }
def flatJoinsRow : OpenClaim := { program := "ytamgpedfhcalpaa", sum := "ffbd6773568dd9e80c0cbb911fc52dbd184a90250b12085630cf1f5a8eae2d89", func := "emender/emenderlaw04.FlatJoins", spec := "flatJoins", inPlace := ["internal/abi.NoEscape"], apart := false }
def FlatJoinsSaid : Prop := flatJoinsRow.holds Try.pinned (OpenSpec.ofChange flatJoinsSpec)

/-- ITS FALSE NEIGHBOUR: 'it returns false'. Refute it at one input. -/
def flatJoinsWrong : ChangeSpec := { name := "flatJoins", fn := fun _ => fun
  | [d1, d2, d3] => { results := [.lit (.bool false)], args := [d1, d2, d3] }
  | _ => none }
def FlatJoinsWrongFalsely : Prop := flatJoinsRow.holds Try.pinned (OpenSpec.ofChange flatJoinsWrong)

/-- 'emenderlaw04.FlatCuts': WHATEVER THE INPUT: true; the input reads as it did. -/
def flatCutsSpec : ChangeSpec := { name := "flatCuts", fn := fun _ => fun
  | [d1, d2, d3, d4] => { results := [.lit (.bool true)], args := [d1, d2, d3, d4] }
  | _ => none }
def flatCutsRow : OpenClaim := { program := "ytamgpedfhcalpaa", sum := "ffbd6773568dd9e80c0cbb911fc52dbd184a90250b12085630cf1f5a8eae2d89", func := "emender/emenderlaw04.FlatCuts", spec := "flatCuts", inPlace := ["internal/abi.NoEscape"], apart := false }
def FlatCutsSaid : Prop := flatCutsRow.holds Try.pinned (OpenSpec.ofChange flatCutsSpec)

/-- ITS FALSE NEIGHBOUR: 'it returns false'. Refute it at one input. -/
def flatCutsWrong : ChangeSpec := { name := "flatCuts", fn := fun _ => fun
  | [d1, d2, d3, d4] => { results := [.lit (.bool false)], args := [d1, d2, d3, d4] }
  | _ => none }
def FlatCutsWrongFalsely : Prop := flatCutsRow.holds Try.pinned (OpenSpec.ofChange flatCutsWrong)

/-- 'emenderlaw04.FlatText': WHATEVER THE INPUT: true; the input reads as it did. -/
def flatTextSpec : ChangeSpec := { name := "flatText", fn := fun _ => fun
  | [d1, d2] => { results := [.lit (.bool true)], args := [d1, d2] }
  | _ => none }
def flatTextRow : OpenClaim := { program := "ytamgpedfhcalpaa", sum := "ffbd6773568dd9e80c0cbb911fc52dbd184a90250b12085630cf1f5a8eae2d89", func := "emender/emenderlaw04.FlatText", spec := "flatText", inPlace := ["internal/abi.NoEscape"], apart := false }
def FlatTextSaid : Prop := flatTextRow.holds Try.pinned (OpenSpec.ofChange flatTextSpec)

/-- ITS FALSE NEIGHBOUR: 'it returns false'. Refute it at one input. -/
def flatTextWrong : ChangeSpec := { name := "flatText", fn := fun _ => fun
  | [d1, d2] => { results := [.lit (.bool false)], args := [d1, d2] }
  | _ => none }
def FlatTextWrongFalsely : Prop := flatTextRow.holds Try.pinned (OpenSpec.ofChange flatTextWrong)

/- THE SECOND FORM. 'bulk': how many values and letters a reading holds, each counted each time it is reached (what is shared counts as often as it is met; a slice's spare places count too). A statement '..UptoSaid' is the law's where the arguments, and the package variables that the reading takes, are together of bulk at most 1048576: NARROWER than '..Said'. Prove '..Said' where nothing that the law and all that it calls make is longer than what came in: it says more and counts as full. Else prove '..UptoSaid'. A law counts once. -/
mutual
def uptoBulk {H : Type} : DataW H → Nat
  | .lit (.string bytes) => bytes.length + 1
  | .lit _ => 1
  | .nil => 1
  | .ptr d => uptoBulk d + 1
  | .slice elems spare => uptoBulkAll elems + uptoBulkAll spare + 1
  | .agg parts => uptoBulkAll parts + 1
  | .iface _ d => uptoBulk d + 1
  | .map entries => uptoBulkEntries entries + 1
  | .held _ => 1
def uptoBulkAll {H : Type} : List (DataW H) → Nat
  | [] => 0
  | d :: r => uptoBulk d + uptoBulkAll r
def uptoBulkEntries {H : Type} : List (Lit × DataW H) → Nat
  | [] => 0
  | x :: r => uptoBulkEntry x + uptoBulkEntries r
def uptoBulkEntry {H : Type} : Lit × DataW H → Nat
  | (.string bytes, d) => bytes.length + uptoBulk d + 1
  | (_, d) => uptoBulk d + 1
 end
def uptoSmall : (H : Type) → List (DataW H) → Bool := fun _ ds => decide (uptoBulkAll ds ≤ 1048576)
def OpenSpec.upto (s : _root_.Go.ChangeSpec) : _root_.Go.OpenSpec := { _root_.Go.OpenSpec.ofChange s with cond := some uptoSmall }

/-- 'emenderlaw04.FlatRights', WHERE WHAT IT READS IS OF BULK AT MOST 1048576: true; the input reads as it did. -/
def flatRightsUptoRow : OpenClaim := { program := "ytamgpedfhcalpaa", sum := "ffbd6773568dd9e80c0cbb911fc52dbd184a90250b12085630cf1f5a8eae2d89", func := "emender/emenderlaw04.FlatRights", spec := "flatRights", apart := false, narrowed := true }
def FlatRightsUptoSaid : Prop := flatRightsUptoRow.holds Try.pinned (OpenSpec.upto flatRightsSpec)

/-- 'emenderlaw04.FlatDeep', WHERE WHAT IT READS IS OF BULK AT MOST 1048576: true; the input reads as it did. -/
def flatDeepUptoRow : OpenClaim := { program := "ytamgpedfhcalpaa", sum := "ffbd6773568dd9e80c0cbb911fc52dbd184a90250b12085630cf1f5a8eae2d89", func := "emender/emenderlaw04.FlatDeep", spec := "flatDeep", apart := false, narrowed := true }
def FlatDeepUptoSaid : Prop := flatDeepUptoRow.holds Try.pinned (OpenSpec.upto flatDeepSpec)

/-- 'emenderlaw04.FlatKids', WHERE WHAT IT READS IS OF BULK AT MOST 1048576: true; the input reads as it did. -/
def flatKidsUptoRow : OpenClaim := { program := "ytamgpedfhcalpaa", sum := "ffbd6773568dd9e80c0cbb911fc52dbd184a90250b12085630cf1f5a8eae2d89", func := "emender/emenderlaw04.FlatKids", spec := "flatKids", apart := false, narrowed := true }
def FlatKidsUptoSaid : Prop := flatKidsUptoRow.holds Try.pinned (OpenSpec.upto flatKidsSpec)

/-- 'emenderlaw04.FlatPairs', WHERE WHAT IT READS IS OF BULK AT MOST 1048576: true; the input reads as it did. -/
def flatPairsUptoRow : OpenClaim := { program := "ytamgpedfhcalpaa", sum := "ffbd6773568dd9e80c0cbb911fc52dbd184a90250b12085630cf1f5a8eae2d89", func := "emender/emenderlaw04.FlatPairs", spec := "flatPairs", apart := false, narrowed := true }
def FlatPairsUptoSaid : Prop := flatPairsUptoRow.holds Try.pinned (OpenSpec.upto flatPairsSpec)

/-- 'emenderlaw04.FlatChecks', WHERE WHAT IT READS IS OF BULK AT MOST 1048576: true; the input reads as it did. -/
def flatChecksUptoRow : OpenClaim := { program := "ytamgpedfhcalpaa", sum := "ffbd6773568dd9e80c0cbb911fc52dbd184a90250b12085630cf1f5a8eae2d89", func := "emender/emenderlaw04.FlatChecks", spec := "flatChecks", apart := false, narrowed := true }
def FlatChecksUptoSaid : Prop := flatChecksUptoRow.holds Try.pinned (OpenSpec.upto flatChecksSpec)

/-- 'emenderlaw04.FlatJoins', WHERE WHAT IT READS IS OF BULK AT MOST 1048576: true; the input reads as it did. -/
def flatJoinsUptoRow : OpenClaim := { program := "ytamgpedfhcalpaa", sum := "ffbd6773568dd9e80c0cbb911fc52dbd184a90250b12085630cf1f5a8eae2d89", func := "emender/emenderlaw04.FlatJoins", spec := "flatJoins", inPlace := ["internal/abi.NoEscape"], apart := false, narrowed := true }
def FlatJoinsUptoSaid : Prop := flatJoinsUptoRow.holds Try.pinned (OpenSpec.upto flatJoinsSpec)

/-- 'emenderlaw04.FlatCuts', WHERE WHAT IT READS IS OF BULK AT MOST 1048576: true; the input reads as it did. -/
def flatCutsUptoRow : OpenClaim := { program := "ytamgpedfhcalpaa", sum := "ffbd6773568dd9e80c0cbb911fc52dbd184a90250b12085630cf1f5a8eae2d89", func := "emender/emenderlaw04.FlatCuts", spec := "flatCuts", inPlace := ["internal/abi.NoEscape"], apart := false, narrowed := true }
def FlatCutsUptoSaid : Prop := flatCutsUptoRow.holds Try.pinned (OpenSpec.upto flatCutsSpec)

/-- 'emenderlaw04.FlatText', WHERE WHAT IT READS IS OF BULK AT MOST 1048576: true; the input reads as it did. -/
def flatTextUptoRow : OpenClaim := { program := "ytamgpedfhcalpaa", sum := "ffbd6773568dd9e80c0cbb911fc52dbd184a90250b12085630cf1f5a8eae2d89", func := "emender/emenderlaw04.FlatText", spec := "flatText", inPlace := ["internal/abi.NoEscape"], apart := false, narrowed := true }
def FlatTextUptoSaid : Prop := flatTextUptoRow.holds Try.pinned (OpenSpec.upto flatTextSpec)

end Rows
end Go.Proofs.Ytamgpedfhcalpaa
