-- Written for this claim by a program (the kit's print, with hand-made contracts for what it does not take).
import Derived.Test.YtgafgkojbbndmaaPAzx0
import Derived.Test.YtgafgkojbbndmaaOpens
namespace Go.Proofs.Ytgafgkojbbndmaa.PAz
open Go.RowKit Go.Proofs.YtgafgkojbbndmaaW.PrintWords Go.Proofs.YtgafgkojbbndmaaW.PrintMore
open Go.Proofs.Ytgafgkojbbndmaa
set_option linter.unusedVariables false
def op23_wf (x : S23) : Prop := (Lit.int .i64 x.f0).wf = true ∧ (Lit.int .i64 x.f1).wf = true ∧ (Lit.int .i64 x.f2).wf = true
theorem op23 : Opn.Opens Try.prog 23 k23 op23_wf :=
  Opn.opens_iso (fun x : S23 => (x.f0, x.f1, x.f2)) (fun a => ⟨⟨a.1, a.2.1, a.2.2⟩, rfl⟩) (Opn.opens_struct Try.underlying23 (by kernel_rfl) (Opn.opensF_cons (Opn.opens_int Try.underlying3 (by kernel_rfl)) (Opn.opensF_cons (Opn.opens_int Try.underlying3 (by kernel_rfl)) (Opn.opensF_last (Opn.opens_int Try.underlying3 (by kernel_rfl))) (by kernel_rfl)) (by kernel_rfl)))
end Go.Proofs.Ytgafgkojbbndmaa.PAz
