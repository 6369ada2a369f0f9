-- Written for this claim by a program (the kit's print, with hand-made contracts for what it does not take).
import Derived.Test.YtgafgkojbbndmaaPAsx0
import Derived.Test.YtgafgkojbbndmaaOpens
namespace Go.Proofs.Ytgafgkojbbndmaa.PAs
open Go.RowKit Go.Proofs.YtgafgkojbbndmaaW.PrintWords Go.Proofs.YtgafgkojbbndmaaW.PrintMore
open Go.Proofs.Ytgafgkojbbndmaa
set_option linter.unusedVariables false
def op37_wf (x : S37) : Prop := (Lit.int .i64 x.f0).wf = true ∧ (Lit.int .i64 x.f1).wf = true
theorem op37 : Opn.Opens Try.prog 37 k37 op37_wf :=
  Opn.opens_iso (fun x : S37 => (x.f0, x.f1)) (fun a => ⟨⟨a.1, a.2⟩, rfl⟩) (Opn.opens_array Try.underlying37 (by kernel_rfl) (Opn.opensA_cons (Opn.opens_int Try.underlying3 (by kernel_rfl)) (Opn.opensA_last (Opn.opens_int Try.underlying3 (by kernel_rfl)) (by decide)) (by decide)))
end Go.Proofs.Ytgafgkojbbndmaa.PAs
