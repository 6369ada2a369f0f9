/-
  No cell of these rows narrows 'for every input' (looked for: loops, veiled, ifaces, maps, wideKeys, modest, calm, conditions, laid).
  DERIVED. THE GIVEN ROWS OF THIS SEAT. 5 by the template 'for every input the law returns true; each argument reads behind the call as it read before'; 0 by the template 'total and deterministic' (their statements: YtgafgkojbbndmaaTotals.lean).
  GIVEN WITH THE SEED: the statements are not yours to turn. If you find one false, say at which input.
  Laid BY PROGRAM, IN A SANDBOX (cutbox-rows.mjs): the forced cells as the released guide's own fill.sh prints them over the translation 0af566f259def789… (all of the seat's roots in one cut). By AI agents, Wed Nov 11 2026. No macro, syntax, notation, axiom, sorry.
-/
import Derived.Test.YtgafgkojbbndmaaChecked
import GoSem.Claim
import GoSem.ClaimJoined
import GoSem.ClaimMapViews
import Derived.JoinedTies
import Derived.KernelRfl
namespace Go.Proofs.Ytgafgkojbbndmaa
/- THE CELL 'sum', in the pinned program and in every row, IS THE sha256 OF THE DUMP (.gsa) THAT YtgafgkojbbndmaaProg.lean LOADS. Nothing in Lean hashes anything: it is a label: what it is worth is what the hold of that sum in a sandbox is worth. -/
noncomputable def Try.pinned : Pinned := { name := "ytgafgkojbbndmaa", sum := "0af566f259def789ccf8f2457ed67deea12fd984ee322baef459e16aa4e16402", checked := Try.checked }
namespace Rows
def none {H : Type} : Left H := { results := [], args := [] }

/-- 'emenderlaw25.AnchorGrows': WHATEVER THE INPUT: true; the input reads as it did. -/
def anchorGrowsSpec : ChangeSpec := { name := "anchorGrows", fn := fun _ => fun
  | [d1, d2, d3] => { results := [.lit (.bool true)], args := [d1, d2, d3] }
  | _ => none }
def anchorGrowsRow : OpenClaim := { program := "ytgafgkojbbndmaa", sum := "0af566f259def789ccf8f2457ed67deea12fd984ee322baef459e16aa4e16402", func := "emender/emenderlaw25.AnchorGrows", spec := "anchorGrows", unfollowed := true, recurses := true, apart := false }
def AnchorGrowsSaid : Prop := anchorGrowsRow.holds Try.pinned (OpenSpec.ofChange anchorGrowsSpec)

/-- ITS FALSE NEIGHBOUR: 'it returns false'. Refute it at one input. -/
def anchorGrowsWrong : ChangeSpec := { name := "anchorGrows", fn := fun _ => fun
  | [d1, d2, d3] => { results := [.lit (.bool false)], args := [d1, d2, d3] }
  | _ => none }
def AnchorGrowsWrongFalsely : Prop := anchorGrowsRow.holds Try.pinned (OpenSpec.ofChange anchorGrowsWrong)

/-- 'emenderlaw25.AnchorOrder': WHATEVER THE INPUT: true; the input reads as it did. -/
def anchorOrderSpec : ChangeSpec := { name := "anchorOrder", fn := fun _ => fun
  | [d1, d2, d3] => { results := [.lit (.bool true)], args := [d1, d2, d3] }
  | _ => none }
def anchorOrderRow : OpenClaim := { program := "ytgafgkojbbndmaa", sum := "0af566f259def789ccf8f2457ed67deea12fd984ee322baef459e16aa4e16402", func := "emender/emenderlaw25.AnchorOrder", spec := "anchorOrder", unfollowed := true, recurses := true, apart := false }
def AnchorOrderSaid : Prop := anchorOrderRow.holds Try.pinned (OpenSpec.ofChange anchorOrderSpec)

/-- ITS FALSE NEIGHBOUR: 'it returns false'. Refute it at one input. -/
def anchorOrderWrong : ChangeSpec := { name := "anchorOrder", fn := fun _ => fun
  | [d1, d2, d3] => { results := [.lit (.bool false)], args := [d1, d2, d3] }
  | _ => none }
def AnchorOrderWrongFalsely : Prop := anchorOrderRow.holds Try.pinned (OpenSpec.ofChange anchorOrderWrong)

/-- 'emenderlaw25.AnchorSpans': WHATEVER THE INPUT: true; the input reads as it did. -/
def anchorSpansSpec : ChangeSpec := { name := "anchorSpans", fn := fun _ => fun
  | [d1, d2] => { results := [.lit (.bool true)], args := [d1, d2] }
  | _ => none }
def anchorSpansRow : OpenClaim := { program := "ytgafgkojbbndmaa", sum := "0af566f259def789ccf8f2457ed67deea12fd984ee322baef459e16aa4e16402", func := "emender/emenderlaw25.AnchorSpans", spec := "anchorSpans", unfollowed := true, recurses := true, apart := false }
def AnchorSpansSaid : Prop := anchorSpansRow.holds Try.pinned (OpenSpec.ofChange anchorSpansSpec)

/-- ITS FALSE NEIGHBOUR: 'it returns false'. Refute it at one input. -/
def anchorSpansWrong : ChangeSpec := { name := "anchorSpans", fn := fun _ => fun
  | [d1, d2] => { results := [.lit (.bool false)], args := [d1, d2] }
  | _ => none }
def AnchorSpansWrongFalsely : Prop := anchorSpansRow.holds Try.pinned (OpenSpec.ofChange anchorSpansWrong)

/-- 'emenderlaw25.AnchorZero': WHATEVER THE INPUT: true; the input reads as it did. -/
def anchorZeroSpec : ChangeSpec := { name := "anchorZero", fn := fun _ => fun
  | [d] => { results := [.lit (.bool true)], args := [d] }
  | _ => none }
def anchorZeroRow : OpenClaim := { program := "ytgafgkojbbndmaa", sum := "0af566f259def789ccf8f2457ed67deea12fd984ee322baef459e16aa4e16402", func := "emender/emenderlaw25.AnchorZero", spec := "anchorZero", unfollowed := true, recurses := true, apart := false }
def AnchorZeroSaid : Prop := anchorZeroRow.holds Try.pinned (OpenSpec.ofChange anchorZeroSpec)

/-- ITS FALSE NEIGHBOUR: 'it returns false'. Refute it at one input. -/
def anchorZeroWrong : ChangeSpec := { name := "anchorZero", fn := fun _ => fun
  | [d] => { results := [.lit (.bool false)], args := [d] }
  | _ => none }
def AnchorZeroWrongFalsely : Prop := anchorZeroRow.holds Try.pinned (OpenSpec.ofChange anchorZeroWrong)

/-- 'emenderlaw25.AnchorPlays': WHATEVER THE INPUT: true; the input reads as it did. -/
def anchorPlaysSpec : ChangeSpec := { name := "anchorPlays", fn := fun _ => fun
  | [d1, d2, d3, d4] => { results := [.lit (.bool true)], args := [d1, d2, d3, d4] }
  | _ => none }
def anchorPlaysRow : OpenClaim := { program := "ytgafgkojbbndmaa", sum := "0af566f259def789ccf8f2457ed67deea12fd984ee322baef459e16aa4e16402", func := "emender/emenderlaw25.AnchorPlays", spec := "anchorPlays", unfollowed := true, recurses := true, apart := false }
def AnchorPlaysSaid : Prop := anchorPlaysRow.holds Try.pinned (OpenSpec.ofChange anchorPlaysSpec)

/-- ITS FALSE NEIGHBOUR: 'it returns false'. Refute it at one input. -/
def anchorPlaysWrong : ChangeSpec := { name := "anchorPlays", fn := fun _ => fun
  | [d1, d2, d3, d4] => { results := [.lit (.bool false)], args := [d1, d2, d3, d4] }
  | _ => none }
def AnchorPlaysWrongFalsely : Prop := anchorPlaysRow.holds Try.pinned (OpenSpec.ofChange anchorPlaysWrong)

/- THE SECOND FORM. 'bulk': how many values and letters a reading holds, each counted each time it is reached (what is shared counts as often as it is met; a slice's spare places count too). A statement '..UptoSaid' is the law's where the arguments, and the package variables that the reading takes, are together of bulk at most 1048576: NARROWER than '..Said'. Prove '..Said' where nothing that the law and all that it calls make is longer than what came in: it says more and counts as full. Else prove '..UptoSaid'. A law counts once. -/
mutual
def uptoBulk {H : Type} : DataW H → Nat
  | .lit (.string bytes) => bytes.length + 1
  | .lit _ => 1
  | .nil => 1
  | .ptr d => uptoBulk d + 1
  | .slice elems spare => uptoBulkAll elems + uptoBulkAll spare + 1
  | .agg parts => uptoBulkAll parts + 1
  | .iface _ d => uptoBulk d + 1
  | .map entries => uptoBulkEntries entries + 1
  | .held _ => 1
def uptoBulkAll {H : Type} : List (DataW H) → Nat
  | [] => 0
  | d :: r => uptoBulk d + uptoBulkAll r
def uptoBulkEntries {H : Type} : List (Lit × DataW H) → Nat
  | [] => 0
  | x :: r => uptoBulkEntry x + uptoBulkEntries r
def uptoBulkEntry {H : Type} : Lit × DataW H → Nat
  | (.string bytes, d) => bytes.length + uptoBulk d + 1
  | (_, d) => uptoBulk d + 1
 end
def uptoSmall : (H : Type) → List (DataW H) → Bool := fun _ ds => decide (uptoBulkAll ds ≤ 1048576)
def OpenSpec.upto (s : _root_.Go.ChangeSpec) : _root_.Go.OpenSpec := { _root_.Go.OpenSpec.ofChange s with cond := some uptoSmall }

/-- 'emenderlaw25.AnchorGrows', WHERE WHAT IT READS IS OF BULK AT MOST 1048576: true; the input reads as it did. -/
def anchorGrowsUptoRow : OpenClaim := { program := "ytgafgkojbbndmaa", sum := "0af566f259def789ccf8f2457ed67deea12fd984ee322baef459e16aa4e16402", func := "emender/emenderlaw25.AnchorGrows", spec := "anchorGrows", unfollowed := true, recurses := true, apart := false, narrowed := true }
def AnchorGrowsUptoSaid : Prop := anchorGrowsUptoRow.holds Try.pinned (OpenSpec.upto anchorGrowsSpec)

/-- 'emenderlaw25.AnchorOrder', WHERE WHAT IT READS IS OF BULK AT MOST 1048576: true; the input reads as it did. -/
def anchorOrderUptoRow : OpenClaim := { program := "ytgafgkojbbndmaa", sum := "0af566f259def789ccf8f2457ed67deea12fd984ee322baef459e16aa4e16402", func := "emender/emenderlaw25.AnchorOrder", spec := "anchorOrder", unfollowed := true, recurses := true, apart := false, narrowed := true }
def AnchorOrderUptoSaid : Prop := anchorOrderUptoRow.holds Try.pinned (OpenSpec.upto anchorOrderSpec)

/-- 'emenderlaw25.AnchorSpans', WHERE WHAT IT READS IS OF BULK AT MOST 1048576: true; the input reads as it did. -/
def anchorSpansUptoRow : OpenClaim := { program := "ytgafgkojbbndmaa", sum := "0af566f259def789ccf8f2457ed67deea12fd984ee322baef459e16aa4e16402", func := "emender/emenderlaw25.AnchorSpans", spec := "anchorSpans", unfollowed := true, recurses := true, apart := false, narrowed := true }
def AnchorSpansUptoSaid : Prop := anchorSpansUptoRow.holds Try.pinned (OpenSpec.upto anchorSpansSpec)

/-- 'emenderlaw25.AnchorZero', WHERE WHAT IT READS IS OF BULK AT MOST 1048576: true; the input reads as it did. -/
def anchorZeroUptoRow : OpenClaim := { program := "ytgafgkojbbndmaa", sum := "0af566f259def789ccf8f2457ed67deea12fd984ee322baef459e16aa4e16402", func := "emender/emenderlaw25.AnchorZero", spec := "anchorZero", unfollowed := true, recurses := true, apart := false, narrowed := true }
def AnchorZeroUptoSaid : Prop := anchorZeroUptoRow.holds Try.pinned (OpenSpec.upto anchorZeroSpec)

/-- 'emenderlaw25.AnchorPlays', WHERE WHAT IT READS IS OF BULK AT MOST 1048576: true; the input reads as it did. -/
def anchorPlaysUptoRow : OpenClaim := { program := "ytgafgkojbbndmaa", sum := "0af566f259def789ccf8f2457ed67deea12fd984ee322baef459e16aa4e16402", func := "emender/emenderlaw25.AnchorPlays", spec := "anchorPlays", unfollowed := true, recurses := true, apart := false, narrowed := true }
def AnchorPlaysUptoSaid : Prop := anchorPlaysUptoRow.holds Try.pinned (OpenSpec.upto anchorPlaysSpec)

end Rows
end Go.Proofs.Ytgafgkojbbndmaa
