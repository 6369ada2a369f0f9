/-
  No cell of these rows narrows 'for every input' (looked for: loops, veiled, ifaces, maps, wideKeys, modest, calm, conditions, laid).
  DERIVED. THE GIVEN ROWS OF THIS SEAT. 9 by the template 'for every input the law returns true; each argument reads behind the call as it read before'; 0 by the template 'total and deterministic' (their statements: YtcoolajjjnkfpaaTotals.lean).
  GIVEN WITH THE SEED: the statements are not yours to turn. If you find one false, say at which input.
  Laid BY PROGRAM, IN A SANDBOX (cutbox-rows.mjs): the forced cells as the released guide's own fill.sh prints them over the translation d5f6dd3320b8c3cd… (all of the seat's roots in one cut). By AI agents, Wed Nov 11 2026. No macro, syntax, notation, axiom, sorry.
-/
import Derived.Test.YtcoolajjjnkfpaaChecked
import GoSem.Claim
import GoSem.ClaimJoined
import GoSem.ClaimMapViews
import Derived.JoinedTies
import Derived.KernelRfl
namespace Go.Proofs.Ytcoolajjjnkfpaa
/- THE CELL 'sum', in the pinned program and in every row, IS THE sha256 OF THE DUMP (.gsa) THAT YtcoolajjjnkfpaaProg.lean LOADS. Nothing in Lean hashes anything: it is a label: what it is worth is what the hold of that sum in a sandbox is worth. -/
noncomputable def Try.pinned : Pinned := { name := "ytcoolajjjnkfpaa", sum := "d5f6dd3320b8c3cd39f39f88e37becb019ec1d7ff3b0fa03aec2dbc311af0b03", checked := Try.checked }
namespace Rows
def none {H : Type} : Left H := { results := [], args := [] }

/-- 'emenderlaw08.PosMaps': WHATEVER THE INPUT: true; the input reads as it did. -/
def posMapsSpec : ChangeSpec := { name := "posMaps", fn := fun _ => fun
  | [d1, d2, d3] => { results := [.lit (.bool true)], args := [d1, d2, d3] }
  | _ => none }
def posMapsRow : OpenClaim := { program := "ytcoolajjjnkfpaa", sum := "d5f6dd3320b8c3cd39f39f88e37becb019ec1d7ff3b0fa03aec2dbc311af0b03", func := "emender/emenderlaw08.PosMaps", spec := "posMaps", unfollowed := true, recurses := true, apart := false }
def PosMapsSaid : Prop := posMapsRow.holds Try.pinned (OpenSpec.ofChange posMapsSpec)

/-- ITS FALSE NEIGHBOUR: 'it returns false'. Refute it at one input. -/
def posMapsWrong : ChangeSpec := { name := "posMaps", fn := fun _ => fun
  | [d1, d2, d3] => { results := [.lit (.bool false)], args := [d1, d2, d3] }
  | _ => none }
def PosMapsWrongFalsely : Prop := posMapsRow.holds Try.pinned (OpenSpec.ofChange posMapsWrong)

/-- 'emenderlaw08.PosOrder': WHATEVER THE INPUT: true; the input reads as it did. -/
def posOrderSpec : ChangeSpec := { name := "posOrder", fn := fun _ => fun
  | [d1, d2, d3, d4] => { results := [.lit (.bool true)], args := [d1, d2, d3, d4] }
  | _ => none }
def posOrderRow : OpenClaim := { program := "ytcoolajjjnkfpaa", sum := "d5f6dd3320b8c3cd39f39f88e37becb019ec1d7ff3b0fa03aec2dbc311af0b03", func := "emender/emenderlaw08.PosOrder", spec := "posOrder", unfollowed := true, recurses := true, apart := false }
def PosOrderSaid : Prop := posOrderRow.holds Try.pinned (OpenSpec.ofChange posOrderSpec)

/-- ITS FALSE NEIGHBOUR: 'it returns false'. Refute it at one input. -/
def posOrderWrong : ChangeSpec := { name := "posOrder", fn := fun _ => fun
  | [d1, d2, d3, d4] => { results := [.lit (.bool false)], args := [d1, d2, d3, d4] }
  | _ => none }
def PosOrderWrongFalsely : Prop := posOrderRow.holds Try.pinned (OpenSpec.ofChange posOrderWrong)

/-- 'emenderlaw08.PosEmpty': WHATEVER THE INPUT: true; the input reads as it did. -/
def posEmptySpec : ChangeSpec := { name := "posEmpty", fn := fun _ => fun
  | [d1, d2, d3] => { results := [.lit (.bool true)], args := [d1, d2, d3] }
  | _ => none }
def posEmptyRow : OpenClaim := { program := "ytcoolajjjnkfpaa", sum := "d5f6dd3320b8c3cd39f39f88e37becb019ec1d7ff3b0fa03aec2dbc311af0b03", func := "emender/emenderlaw08.PosEmpty", spec := "posEmpty", unfollowed := true, recurses := true, apart := false }
def PosEmptySaid : Prop := posEmptyRow.holds Try.pinned (OpenSpec.ofChange posEmptySpec)

/-- ITS FALSE NEIGHBOUR: 'it returns false'. Refute it at one input. -/
def posEmptyWrong : ChangeSpec := { name := "posEmpty", fn := fun _ => fun
  | [d1, d2, d3] => { results := [.lit (.bool false)], args := [d1, d2, d3] }
  | _ => none }
def PosEmptyWrongFalsely : Prop := posEmptyRow.holds Try.pinned (OpenSpec.ofChange posEmptyWrong)

/-- 'emenderlaw08.PosBack': WHATEVER THE INPUT: true; the input reads as it did. -/
def posBackSpec : ChangeSpec := { name := "posBack", fn := fun _ => fun
  | [d1, d2, d3] => { results := [.lit (.bool true)], args := [d1, d2, d3] }
  | _ => none }
def posBackRow : OpenClaim := { program := "ytcoolajjjnkfpaa", sum := "d5f6dd3320b8c3cd39f39f88e37becb019ec1d7ff3b0fa03aec2dbc311af0b03", func := "emender/emenderlaw08.PosBack", spec := "posBack", unfollowed := true, recurses := true, apart := false }
def PosBackSaid : Prop := posBackRow.holds Try.pinned (OpenSpec.ofChange posBackSpec)

/-- ITS FALSE NEIGHBOUR: 'it returns false'. Refute it at one input. -/
def posBackWrong : ChangeSpec := { name := "posBack", fn := fun _ => fun
  | [d1, d2, d3] => { results := [.lit (.bool false)], args := [d1, d2, d3] }
  | _ => none }
def PosBackWrongFalsely : Prop := posBackRow.holds Try.pinned (OpenSpec.ofChange posBackWrong)

/-- 'emenderlaw08.PosTurns': WHATEVER THE INPUT: true; the input reads as it did. -/
def posTurnsSpec : ChangeSpec := { name := "posTurns", fn := fun _ => fun
  | [d1, d2, d3] => { results := [.lit (.bool true)], args := [d1, d2, d3] }
  | _ => none }
def posTurnsRow : OpenClaim := { program := "ytcoolajjjnkfpaa", sum := "d5f6dd3320b8c3cd39f39f88e37becb019ec1d7ff3b0fa03aec2dbc311af0b03", func := "emender/emenderlaw08.PosTurns", spec := "posTurns", unfollowed := true, recurses := true, apart := false }
def PosTurnsSaid : Prop := posTurnsRow.holds Try.pinned (OpenSpec.ofChange posTurnsSpec)

/-- ITS FALSE NEIGHBOUR: 'it returns false'. Refute it at one input. -/
def posTurnsWrong : ChangeSpec := { name := "posTurns", fn := fun _ => fun
  | [d1, d2, d3] => { results := [.lit (.bool false)], args := [d1, d2, d3] }
  | _ => none }
def PosTurnsWrongFalsely : Prop := posTurnsRow.holds Try.pinned (OpenSpec.ofChange posTurnsWrong)

/-- 'emenderlaw08.PosAdds': WHATEVER THE INPUT: true; the input reads as it did. -/
def posAddsSpec : ChangeSpec := { name := "posAdds", fn := fun _ => fun
  | [d1, d2, d3] => { results := [.lit (.bool true)], args := [d1, d2, d3] }
  | _ => none }
def posAddsRow : OpenClaim := { program := "ytcoolajjjnkfpaa", sum := "d5f6dd3320b8c3cd39f39f88e37becb019ec1d7ff3b0fa03aec2dbc311af0b03", func := "emender/emenderlaw08.PosAdds", spec := "posAdds", unfollowed := true, recurses := true, apart := false }
def PosAddsSaid : Prop := posAddsRow.holds Try.pinned (OpenSpec.ofChange posAddsSpec)

/-- ITS FALSE NEIGHBOUR: 'it returns false'. Refute it at one input. -/
def posAddsWrong : ChangeSpec := { name := "posAdds", fn := fun _ => fun
  | [d1, d2, d3] => { results := [.lit (.bool false)], args := [d1, d2, d3] }
  | _ => none }
def PosAddsWrongFalsely : Prop := posAddsRow.holds Try.pinned (OpenSpec.ofChange posAddsWrong)

/-- 'emenderlaw08.PosZero': WHATEVER THE INPUT: true; the input reads as it did. -/
def posZeroSpec : ChangeSpec := { name := "posZero", fn := fun _ => fun
  | [d1, d2] => { results := [.lit (.bool true)], args := [d1, d2] }
  | _ => none }
def posZeroRow : OpenClaim := { program := "ytcoolajjjnkfpaa", sum := "d5f6dd3320b8c3cd39f39f88e37becb019ec1d7ff3b0fa03aec2dbc311af0b03", func := "emender/emenderlaw08.PosZero", spec := "posZero", unfollowed := true, recurses := true, apart := false }
def PosZeroSaid : Prop := posZeroRow.holds Try.pinned (OpenSpec.ofChange posZeroSpec)

/-- ITS FALSE NEIGHBOUR: 'it returns false'. Refute it at one input. -/
def posZeroWrong : ChangeSpec := { name := "posZero", fn := fun _ => fun
  | [d1, d2] => { results := [.lit (.bool false)], args := [d1, d2] }
  | _ => none }
def PosZeroWrongFalsely : Prop := posZeroRow.holds Try.pinned (OpenSpec.ofChange posZeroWrong)

/-- 'emenderlaw08.PosRows': WHATEVER THE INPUT: true; the input reads as it did. -/
def posRowsSpec : ChangeSpec := { name := "posRows", fn := fun _ => fun
  | [d1, d2, d3, d4, d5] => { results := [.lit (.bool true)], args := [d1, d2, d3, d4, d5] }
  | _ => none }
def posRowsRow : OpenClaim := { program := "ytcoolajjjnkfpaa", sum := "d5f6dd3320b8c3cd39f39f88e37becb019ec1d7ff3b0fa03aec2dbc311af0b03", func := "emender/emenderlaw08.PosRows", spec := "posRows", unfollowed := true, recurses := true, apart := false }
def PosRowsSaid : Prop := posRowsRow.holds Try.pinned (OpenSpec.ofChange posRowsSpec)

/-- ITS FALSE NEIGHBOUR: 'it returns false'. Refute it at one input. -/
def posRowsWrong : ChangeSpec := { name := "posRows", fn := fun _ => fun
  | [d1, d2, d3, d4, d5] => { results := [.lit (.bool false)], args := [d1, d2, d3, d4, d5] }
  | _ => none }
def PosRowsWrongFalsely : Prop := posRowsRow.holds Try.pinned (OpenSpec.ofChange posRowsWrong)

/-- 'emenderlaw08.PosMirrors': WHATEVER THE INPUT: true; the input reads as it did. -/
def posMirrorsSpec : ChangeSpec := { name := "posMirrors", fn := fun _ => fun
  | [d1, d2, d3] => { results := [.lit (.bool true)], args := [d1, d2, d3] }
  | _ => none }
def posMirrorsRow : OpenClaim := { program := "ytcoolajjjnkfpaa", sum := "d5f6dd3320b8c3cd39f39f88e37becb019ec1d7ff3b0fa03aec2dbc311af0b03", func := "emender/emenderlaw08.PosMirrors", spec := "posMirrors", unfollowed := true, recurses := true, apart := false }
def PosMirrorsSaid : Prop := posMirrorsRow.holds Try.pinned (OpenSpec.ofChange posMirrorsSpec)

/-- ITS FALSE NEIGHBOUR: 'it returns false'. Refute it at one input. -/
def posMirrorsWrong : ChangeSpec := { name := "posMirrors", fn := fun _ => fun
  | [d1, d2, d3] => { results := [.lit (.bool false)], args := [d1, d2, d3] }
  | _ => none }
def PosMirrorsWrongFalsely : Prop := posMirrorsRow.holds Try.pinned (OpenSpec.ofChange posMirrorsWrong)

/- THE SECOND FORM. 'bulk': how many values and letters a reading holds, each counted each time it is reached (what is shared counts as often as it is met; a slice's spare places count too). A statement '..UptoSaid' is the law's where the arguments, and the package variables that the reading takes, are together of bulk at most 1048576: NARROWER than '..Said'. Prove '..Said' where nothing that the law and all that it calls make is longer than what came in: it says more and counts as full. Else prove '..UptoSaid'. A law counts once. -/
mutual
def uptoBulk {H : Type} : DataW H → Nat
  | .lit (.string bytes) => bytes.length + 1
  | .lit _ => 1
  | .nil => 1
  | .ptr d => uptoBulk d + 1
  | .slice elems spare => uptoBulkAll elems + uptoBulkAll spare + 1
  | .agg parts => uptoBulkAll parts + 1
  | .iface _ d => uptoBulk d + 1
  | .map entries => uptoBulkEntries entries + 1
  | .held _ => 1
def uptoBulkAll {H : Type} : List (DataW H) → Nat
  | [] => 0
  | d :: r => uptoBulk d + uptoBulkAll r
def uptoBulkEntries {H : Type} : List (Lit × DataW H) → Nat
  | [] => 0
  | x :: r => uptoBulkEntry x + uptoBulkEntries r
def uptoBulkEntry {H : Type} : Lit × DataW H → Nat
  | (.string bytes, d) => bytes.length + uptoBulk d + 1
  | (_, d) => uptoBulk d + 1
 end
def uptoSmall : (H : Type) → List (DataW H) → Bool := fun _ ds => decide (uptoBulkAll ds ≤ 1048576)
def OpenSpec.upto (s : _root_.Go.ChangeSpec) : _root_.Go.OpenSpec := { _root_.Go.OpenSpec.ofChange s with cond := some uptoSmall }

/-- 'emenderlaw08.PosMaps', WHERE WHAT IT READS IS OF BULK AT MOST 1048576: true; the input reads as it did. -/
def posMapsUptoRow : OpenClaim := { program := "ytcoolajjjnkfpaa", sum := "d5f6dd3320b8c3cd39f39f88e37becb019ec1d7ff3b0fa03aec2dbc311af0b03", func := "emender/emenderlaw08.PosMaps", spec := "posMaps", unfollowed := true, recurses := true, apart := false, narrowed := true }
def PosMapsUptoSaid : Prop := posMapsUptoRow.holds Try.pinned (OpenSpec.upto posMapsSpec)

/-- 'emenderlaw08.PosOrder', WHERE WHAT IT READS IS OF BULK AT MOST 1048576: true; the input reads as it did. -/
def posOrderUptoRow : OpenClaim := { program := "ytcoolajjjnkfpaa", sum := "d5f6dd3320b8c3cd39f39f88e37becb019ec1d7ff3b0fa03aec2dbc311af0b03", func := "emender/emenderlaw08.PosOrder", spec := "posOrder", unfollowed := true, recurses := true, apart := false, narrowed := true }
def PosOrderUptoSaid : Prop := posOrderUptoRow.holds Try.pinned (OpenSpec.upto posOrderSpec)

/-- 'emenderlaw08.PosEmpty', WHERE WHAT IT READS IS OF BULK AT MOST 1048576: true; the input reads as it did. -/
def posEmptyUptoRow : OpenClaim := { program := "ytcoolajjjnkfpaa", sum := "d5f6dd3320b8c3cd39f39f88e37becb019ec1d7ff3b0fa03aec2dbc311af0b03", func := "emender/emenderlaw08.PosEmpty", spec := "posEmpty", unfollowed := true, recurses := true, apart := false, narrowed := true }
def PosEmptyUptoSaid : Prop := posEmptyUptoRow.holds Try.pinned (OpenSpec.upto posEmptySpec)

/-- 'emenderlaw08.PosBack', WHERE WHAT IT READS IS OF BULK AT MOST 1048576: true; the input reads as it did. -/
def posBackUptoRow : OpenClaim := { program := "ytcoolajjjnkfpaa", sum := "d5f6dd3320b8c3cd39f39f88e37becb019ec1d7ff3b0fa03aec2dbc311af0b03", func := "emender/emenderlaw08.PosBack", spec := "posBack", unfollowed := true, recurses := true, apart := false, narrowed := true }
def PosBackUptoSaid : Prop := posBackUptoRow.holds Try.pinned (OpenSpec.upto posBackSpec)

/-- 'emenderlaw08.PosTurns', WHERE WHAT IT READS IS OF BULK AT MOST 1048576: true; the input reads as it did. -/
def posTurnsUptoRow : OpenClaim := { program := "ytcoolajjjnkfpaa", sum := "d5f6dd3320b8c3cd39f39f88e37becb019ec1d7ff3b0fa03aec2dbc311af0b03", func := "emender/emenderlaw08.PosTurns", spec := "posTurns", unfollowed := true, recurses := true, apart := false, narrowed := true }
def PosTurnsUptoSaid : Prop := posTurnsUptoRow.holds Try.pinned (OpenSpec.upto posTurnsSpec)

/-- 'emenderlaw08.PosAdds', WHERE WHAT IT READS IS OF BULK AT MOST 1048576: true; the input reads as it did. -/
def posAddsUptoRow : OpenClaim := { program := "ytcoolajjjnkfpaa", sum := "d5f6dd3320b8c3cd39f39f88e37becb019ec1d7ff3b0fa03aec2dbc311af0b03", func := "emender/emenderlaw08.PosAdds", spec := "posAdds", unfollowed := true, recurses := true, apart := false, narrowed := true }
def PosAddsUptoSaid : Prop := posAddsUptoRow.holds Try.pinned (OpenSpec.upto posAddsSpec)

/-- 'emenderlaw08.PosZero', WHERE WHAT IT READS IS OF BULK AT MOST 1048576: true; the input reads as it did. -/
def posZeroUptoRow : OpenClaim := { program := "ytcoolajjjnkfpaa", sum := "d5f6dd3320b8c3cd39f39f88e37becb019ec1d7ff3b0fa03aec2dbc311af0b03", func := "emender/emenderlaw08.PosZero", spec := "posZero", unfollowed := true, recurses := true, apart := false, narrowed := true }
def PosZeroUptoSaid : Prop := posZeroUptoRow.holds Try.pinned (OpenSpec.upto posZeroSpec)

/-- 'emenderlaw08.PosRows', WHERE WHAT IT READS IS OF BULK AT MOST 1048576: true; the input reads as it did. -/
def posRowsUptoRow : OpenClaim := { program := "ytcoolajjjnkfpaa", sum := "d5f6dd3320b8c3cd39f39f88e37becb019ec1d7ff3b0fa03aec2dbc311af0b03", func := "emender/emenderlaw08.PosRows", spec := "posRows", unfollowed := true, recurses := true, apart := false, narrowed := true }
def PosRowsUptoSaid : Prop := posRowsUptoRow.holds Try.pinned (OpenSpec.upto posRowsSpec)

/-- 'emenderlaw08.PosMirrors', WHERE WHAT IT READS IS OF BULK AT MOST 1048576: true; the input reads as it did. -/
def posMirrorsUptoRow : OpenClaim := { program := "ytcoolajjjnkfpaa", sum := "d5f6dd3320b8c3cd39f39f88e37becb019ec1d7ff3b0fa03aec2dbc311af0b03", func := "emender/emenderlaw08.PosMirrors", spec := "posMirrors", unfollowed := true, recurses := true, apart := false, narrowed := true }
def PosMirrorsUptoSaid : Prop := posMirrorsUptoRow.holds Try.pinned (OpenSpec.upto posMirrorsSpec)

end Rows
end Go.Proofs.Ytcoolajjjnkfpaa
