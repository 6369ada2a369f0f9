-- Written for this claim by a program (the kit's print, with hand-made contracts for what it does not take).
import Derived.Test.YtfcfomconcoimaaDoorPFax0
import Derived.Test.YtfcfomconcoimaaDoorOpens
namespace Go.Proofs.YtfcfomconcoimaaDoor.PFa
open Go.RowKit Go.Proofs.YtfcfomconcoimaaDoorW.PrintWords Go.Proofs.YtfcfomconcoimaaDoorW.PrintMore
open Go.Proofs.YtfcfomconcoimaaDoor
set_option linter.unusedVariables false
def op48_wf (x : S48) : Prop := (Lit.int .i64 x.f0).wf = true ∧ (Lit.int .i64 x.f1).wf = true ∧ (Lit.int .i64 x.f2).wf = true ∧ (Lit.int .i64 x.f3).wf = true
theorem op48 : Opn.Opens Tryd.prog 48 k48 op48_wf :=
  Opn.opens_iso (fun x : S48 => (x.f0, x.f1, x.f2, x.f3)) (fun a => ⟨⟨a.1, a.2.1, a.2.2.1, a.2.2.2⟩, rfl⟩) (Opn.opens_struct Tryd.underlying48 (by kernel_rfl) (Opn.opensF_cons (Opn.opens_int Tryd.underlying3 (by kernel_rfl)) (Opn.opensF_cons (Opn.opens_int Tryd.underlying3 (by kernel_rfl)) (Opn.opensF_cons (Opn.opens_int Tryd.underlying3 (by kernel_rfl)) (Opn.opensF_last (Opn.opens_int Tryd.underlying3 (by kernel_rfl))) (by kernel_rfl)) (by kernel_rfl)) (by kernel_rfl)))
def op28_wf (x : S28) : Prop := (Lit.int .i64 x.f0).wf = true ∧ (Lit.int .i64 x.f1).wf = true
theorem op28 : Opn.Opens Tryd.prog 28 k28 op28_wf :=
  Opn.opens_iso (fun x : S28 => (x.f0, x.f1)) (fun a => ⟨⟨a.1, a.2⟩, rfl⟩) (Opn.opens_array Tryd.underlying28 (by kernel_rfl) (Opn.opensA_cons (Opn.opens_int Tryd.underlying3 (by kernel_rfl)) (Opn.opensA_last (Opn.opens_int Tryd.underlying3 (by kernel_rfl)) (by decide)) (by decide)))
end Go.Proofs.YtfcfomconcoimaaDoor.PFa
