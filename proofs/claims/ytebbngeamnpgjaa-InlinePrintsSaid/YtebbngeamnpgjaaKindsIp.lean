-- Written for this claim by a program (the kit's print, with hand-made contracts for what it does not take).
import Derived.Test.YtebbngeamnpgjaaPIpx0
import Derived.Test.YtebbngeamnpgjaaOpens
namespace Go.Proofs.Ytebbngeamnpgjaa.PIp
open Go.RowKit Go.Proofs.YtebbngeamnpgjaaW.PrintWords Go.Proofs.YtebbngeamnpgjaaW.PrintMore
open Go.Proofs.Ytebbngeamnpgjaa
set_option linter.unusedVariables false
def op31_wf (x : S31) : Prop := (Lit.int .i64 x.f0).wf = true ∧ (Lit.int .i64 x.f1).wf = true ∧ (Lit.int .i64 x.f2).wf = true ∧ (Lit.int .i64 x.f3).wf = true
theorem op31 : Opn.Opens Try.prog 31 k31 op31_wf :=
  Opn.opens_iso (fun x : S31 => (x.f0, x.f1, x.f2, x.f3)) (fun a => ⟨⟨a.1, a.2.1, a.2.2.1, a.2.2.2⟩, rfl⟩) (Opn.opens_struct Try.underlying31 (by kernel_rfl) (Opn.opensF_cons (Opn.opens_int Try.underlying3 (by kernel_rfl)) (Opn.opensF_cons (Opn.opens_int Try.underlying3 (by kernel_rfl)) (Opn.opensF_cons (Opn.opens_int Try.underlying3 (by kernel_rfl)) (Opn.opensF_last (Opn.opens_int Try.underlying3 (by kernel_rfl))) (by kernel_rfl)) (by kernel_rfl)) (by kernel_rfl)))
end Go.Proofs.Ytebbngeamnpgjaa.PIp
