/-
  No cell of these rows narrows 'for every input' (looked for: loops, veiled, ifaces, maps, wideKeys, modest, calm, conditions, laid).
  DERIVED. THE GIVEN ROWS OF THIS SEAT. 6 by the template 'for every input the law returns true; each argument reads behind the call as it read before'; 0 by the template 'total and deterministic' (their statements: YtlngjgcodknpiaaTotals.lean).
  GIVEN WITH THE SEED: the statements are not yours to turn. If you find one false, say at which input.
  Laid BY PROGRAM, IN A SANDBOX (cutbox-rows.mjs): the forced cells as the released guide's own fill.sh prints them over the translation ae0301d138b1932b… (all of the seat's roots in one cut). By AI agents, Wed Nov 11 2026. No macro, syntax, notation, axiom, sorry.
-/
import Derived.Test.YtlngjgcodknpiaaChecked
import GoSem.Claim
import GoSem.ClaimJoined
import GoSem.ClaimMapViews
import Derived.JoinedTies
import Derived.KernelRfl
namespace Go.Proofs.Ytlngjgcodknpiaa
/- THE CELL 'sum', in the pinned program and in every row, IS THE sha256 OF THE DUMP (.gsa) THAT YtlngjgcodknpiaaProg.lean LOADS. Nothing in Lean hashes anything: it is a label: what it is worth is what the hold of that sum in a sandbox is worth. -/
noncomputable def Try.pinned : Pinned := { name := "ytlngjgcodknpiaa", sum := "ae0301d138b1932b284b5fab8779bcb9c2e3a7d99a0c1af9bbe28e6cf3452f96", checked := Try.checked }
namespace Rows
def none {H : Type} : Left H := { results := [], args := [] }

/-- 'emenderlaw09.StepKeeps': WHATEVER THE INPUT: true; the input reads as it did. -/
def stepKeepsSpec : ChangeSpec := { name := "stepKeeps", fn := fun _ => fun
  | [d1, d2] => { results := [.lit (.bool true)], args := [d1, d2] }
  | _ => none }
def stepKeepsRow : OpenClaim := { program := "ytlngjgcodknpiaa", sum := "ae0301d138b1932b284b5fab8779bcb9c2e3a7d99a0c1af9bbe28e6cf3452f96", func := "emender/emenderlaw09.StepKeeps", spec := "stepKeeps", unfollowed := true, recurses := true, apart := false }
def StepKeepsSaid : Prop := stepKeepsRow.holds Try.pinned (OpenSpec.ofChange stepKeepsSpec)

/-- ITS FALSE NEIGHBOUR: 'it returns false'. Refute it at one input. -/
def stepKeepsWrong : ChangeSpec := { name := "stepKeeps", fn := fun _ => fun
  | [d1, d2] => { results := [.lit (.bool false)], args := [d1, d2] }
  | _ => none }
def StepKeepsWrongFalsely : Prop := stepKeepsRow.holds Try.pinned (OpenSpec.ofChange stepKeepsWrong)

/-- 'emenderlaw09.StepMerges': WHATEVER THE INPUT: true; the input reads as it did. -/
def stepMergesSpec : ChangeSpec := { name := "stepMerges", fn := fun _ => fun
  | [d1, d2, d3] => { results := [.lit (.bool true)], args := [d1, d2, d3] }
  | _ => none }
def stepMergesRow : OpenClaim := { program := "ytlngjgcodknpiaa", sum := "ae0301d138b1932b284b5fab8779bcb9c2e3a7d99a0c1af9bbe28e6cf3452f96", func := "emender/emenderlaw09.StepMerges", spec := "stepMerges", unfollowed := true, recurses := true, apart := false }
def StepMergesSaid : Prop := stepMergesRow.holds Try.pinned (OpenSpec.ofChange stepMergesSpec)

/-- ITS FALSE NEIGHBOUR: 'it returns false'. Refute it at one input. -/
def stepMergesWrong : ChangeSpec := { name := "stepMerges", fn := fun _ => fun
  | [d1, d2, d3] => { results := [.lit (.bool false)], args := [d1, d2, d3] }
  | _ => none }
def StepMergesWrongFalsely : Prop := stepMergesRow.holds Try.pinned (OpenSpec.ofChange stepMergesWrong)

/-- 'emenderlaw09.StepApplies': WHATEVER THE INPUT: true; the input reads as it did. -/
def stepAppliesSpec : ChangeSpec := { name := "stepApplies", fn := fun _ => fun
  | [d1, d2] => { results := [.lit (.bool true)], args := [d1, d2] }
  | _ => none }
def stepAppliesRow : OpenClaim := { program := "ytlngjgcodknpiaa", sum := "ae0301d138b1932b284b5fab8779bcb9c2e3a7d99a0c1af9bbe28e6cf3452f96", func := "emender/emenderlaw09.StepApplies", spec := "stepApplies", unfollowed := true, recurses := true, apart := false }
def StepAppliesSaid : Prop := stepAppliesRow.holds Try.pinned (OpenSpec.ofChange stepAppliesSpec)

/-- ITS FALSE NEIGHBOUR: 'it returns false'. Refute it at one input. -/
def stepAppliesWrong : ChangeSpec := { name := "stepApplies", fn := fun _ => fun
  | [d1, d2] => { results := [.lit (.bool false)], args := [d1, d2] }
  | _ => none }
def StepAppliesWrongFalsely : Prop := stepAppliesRow.holds Try.pinned (OpenSpec.ofChange stepAppliesWrong)

/-- 'emenderlaw09.StepMaps': WHATEVER THE INPUT: true; the input reads as it did. -/
def stepMapsSpec : ChangeSpec := { name := "stepMaps", fn := fun _ => fun
  | [d1, d2] => { results := [.lit (.bool true)], args := [d1, d2] }
  | _ => none }
def stepMapsRow : OpenClaim := { program := "ytlngjgcodknpiaa", sum := "ae0301d138b1932b284b5fab8779bcb9c2e3a7d99a0c1af9bbe28e6cf3452f96", func := "emender/emenderlaw09.StepMaps", spec := "stepMaps", unfollowed := true, recurses := true, apart := false }
def StepMapsSaid : Prop := stepMapsRow.holds Try.pinned (OpenSpec.ofChange stepMapsSpec)

/-- ITS FALSE NEIGHBOUR: 'it returns false'. Refute it at one input. -/
def stepMapsWrong : ChangeSpec := { name := "stepMaps", fn := fun _ => fun
  | [d1, d2] => { results := [.lit (.bool false)], args := [d1, d2] }
  | _ => none }
def StepMapsWrongFalsely : Prop := stepMapsRow.holds Try.pinned (OpenSpec.ofChange stepMapsWrong)

/-- 'emenderlaw09.StepLengths': WHATEVER THE INPUT: true; the input reads as it did. -/
def stepLengthsSpec : ChangeSpec := { name := "stepLengths", fn := fun _ => fun
  | [d1, d2, d3] => { results := [.lit (.bool true)], args := [d1, d2, d3] }
  | _ => none }
def stepLengthsRow : OpenClaim := { program := "ytlngjgcodknpiaa", sum := "ae0301d138b1932b284b5fab8779bcb9c2e3a7d99a0c1af9bbe28e6cf3452f96", func := "emender/emenderlaw09.StepLengths", spec := "stepLengths", unfollowed := true, recurses := true, apart := false }
def StepLengthsSaid : Prop := stepLengthsRow.holds Try.pinned (OpenSpec.ofChange stepLengthsSpec)

/-- ITS FALSE NEIGHBOUR: 'it returns false'. Refute it at one input. -/
def stepLengthsWrong : ChangeSpec := { name := "stepLengths", fn := fun _ => fun
  | [d1, d2, d3] => { results := [.lit (.bool false)], args := [d1, d2, d3] }
  | _ => none }
def StepLengthsWrongFalsely : Prop := stepLengthsRow.holds Try.pinned (OpenSpec.ofChange stepLengthsWrong)

/-- 'emenderlaw09.StepBack': WHATEVER THE INPUT: true; the input reads as it did. -/
def stepBackSpec : ChangeSpec := { name := "stepBack", fn := fun _ => fun
  | [d1, d2] => { results := [.lit (.bool true)], args := [d1, d2] }
  | _ => none }
def stepBackRow : OpenClaim := { program := "ytlngjgcodknpiaa", sum := "ae0301d138b1932b284b5fab8779bcb9c2e3a7d99a0c1af9bbe28e6cf3452f96", func := "emender/emenderlaw09.StepBack", spec := "stepBack", unfollowed := true, recurses := true, apart := false }
def StepBackSaid : Prop := stepBackRow.holds Try.pinned (OpenSpec.ofChange stepBackSpec)

/-- ITS FALSE NEIGHBOUR: 'it returns false'. Refute it at one input. -/
def stepBackWrong : ChangeSpec := { name := "stepBack", fn := fun _ => fun
  | [d1, d2] => { results := [.lit (.bool false)], args := [d1, d2] }
  | _ => none }
def StepBackWrongFalsely : Prop := stepBackRow.holds Try.pinned (OpenSpec.ofChange stepBackWrong)

/- THE SECOND FORM. 'bulk': how many values and letters a reading holds, each counted each time it is reached (what is shared counts as often as it is met; a slice's spare places count too). A statement '..UptoSaid' is the law's where the arguments, and the package variables that the reading takes, are together of bulk at most 1048576: NARROWER than '..Said'. Prove '..Said' where nothing that the law and all that it calls make is longer than what came in: it says more and counts as full. Else prove '..UptoSaid'. A law counts once. -/
mutual
def uptoBulk {H : Type} : DataW H → Nat
  | .lit (.string bytes) => bytes.length + 1
  | .lit _ => 1
  | .nil => 1
  | .ptr d => uptoBulk d + 1
  | .slice elems spare => uptoBulkAll elems + uptoBulkAll spare + 1
  | .agg parts => uptoBulkAll parts + 1
  | .iface _ d => uptoBulk d + 1
  | .map entries => uptoBulkEntries entries + 1
  | .held _ => 1
def uptoBulkAll {H : Type} : List (DataW H) → Nat
  | [] => 0
  | d :: r => uptoBulk d + uptoBulkAll r
def uptoBulkEntries {H : Type} : List (Lit × DataW H) → Nat
  | [] => 0
  | x :: r => uptoBulkEntry x + uptoBulkEntries r
def uptoBulkEntry {H : Type} : Lit × DataW H → Nat
  | (.string bytes, d) => bytes.length + uptoBulk d + 1
  | (_, d) => uptoBulk d + 1
 end
def uptoSmall : (H : Type) → List (DataW H) → Bool := fun _ ds => decide (uptoBulkAll ds ≤ 1048576)
def OpenSpec.upto (s : _root_.Go.ChangeSpec) : _root_.Go.OpenSpec := { _root_.Go.OpenSpec.ofChange s with cond := some uptoSmall }

/-- 'emenderlaw09.StepKeeps', WHERE WHAT IT READS IS OF BULK AT MOST 1048576: true; the input reads as it did. -/
def stepKeepsUptoRow : OpenClaim := { program := "ytlngjgcodknpiaa", sum := "ae0301d138b1932b284b5fab8779bcb9c2e3a7d99a0c1af9bbe28e6cf3452f96", func := "emender/emenderlaw09.StepKeeps", spec := "stepKeeps", unfollowed := true, recurses := true, apart := false, narrowed := true }
def StepKeepsUptoSaid : Prop := stepKeepsUptoRow.holds Try.pinned (OpenSpec.upto stepKeepsSpec)

/-- 'emenderlaw09.StepMerges', WHERE WHAT IT READS IS OF BULK AT MOST 1048576: true; the input reads as it did. -/
def stepMergesUptoRow : OpenClaim := { program := "ytlngjgcodknpiaa", sum := "ae0301d138b1932b284b5fab8779bcb9c2e3a7d99a0c1af9bbe28e6cf3452f96", func := "emender/emenderlaw09.StepMerges", spec := "stepMerges", unfollowed := true, recurses := true, apart := false, narrowed := true }
def StepMergesUptoSaid : Prop := stepMergesUptoRow.holds Try.pinned (OpenSpec.upto stepMergesSpec)

/-- 'emenderlaw09.StepApplies', WHERE WHAT IT READS IS OF BULK AT MOST 1048576: true; the input reads as it did. -/
def stepAppliesUptoRow : OpenClaim := { program := "ytlngjgcodknpiaa", sum := "ae0301d138b1932b284b5fab8779bcb9c2e3a7d99a0c1af9bbe28e6cf3452f96", func := "emender/emenderlaw09.StepApplies", spec := "stepApplies", unfollowed := true, recurses := true, apart := false, narrowed := true }
def StepAppliesUptoSaid : Prop := stepAppliesUptoRow.holds Try.pinned (OpenSpec.upto stepAppliesSpec)

/-- 'emenderlaw09.StepMaps', WHERE WHAT IT READS IS OF BULK AT MOST 1048576: true; the input reads as it did. -/
def stepMapsUptoRow : OpenClaim := { program := "ytlngjgcodknpiaa", sum := "ae0301d138b1932b284b5fab8779bcb9c2e3a7d99a0c1af9bbe28e6cf3452f96", func := "emender/emenderlaw09.StepMaps", spec := "stepMaps", unfollowed := true, recurses := true, apart := false, narrowed := true }
def StepMapsUptoSaid : Prop := stepMapsUptoRow.holds Try.pinned (OpenSpec.upto stepMapsSpec)

/-- 'emenderlaw09.StepLengths', WHERE WHAT IT READS IS OF BULK AT MOST 1048576: true; the input reads as it did. -/
def stepLengthsUptoRow : OpenClaim := { program := "ytlngjgcodknpiaa", sum := "ae0301d138b1932b284b5fab8779bcb9c2e3a7d99a0c1af9bbe28e6cf3452f96", func := "emender/emenderlaw09.StepLengths", spec := "stepLengths", unfollowed := true, recurses := true, apart := false, narrowed := true }
def StepLengthsUptoSaid : Prop := stepLengthsUptoRow.holds Try.pinned (OpenSpec.upto stepLengthsSpec)

/-- 'emenderlaw09.StepBack', WHERE WHAT IT READS IS OF BULK AT MOST 1048576: true; the input reads as it did. -/
def stepBackUptoRow : OpenClaim := { program := "ytlngjgcodknpiaa", sum := "ae0301d138b1932b284b5fab8779bcb9c2e3a7d99a0c1af9bbe28e6cf3452f96", func := "emender/emenderlaw09.StepBack", spec := "stepBack", unfollowed := true, recurses := true, apart := false, narrowed := true }
def StepBackUptoSaid : Prop := stepBackUptoRow.holds Try.pinned (OpenSpec.upto stepBackSpec)

end Rows
end Go.Proofs.Ytlngjgcodknpiaa
