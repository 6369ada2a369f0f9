-- Written for this claim by a program (the kit's print, with hand-made contracts for what it does not take).
import Derived.Test.YtcoolajjjnkfpaaPPdx0
import Derived.Test.YtcoolajjjnkfpaaOpens
namespace Go.Proofs.Ytcoolajjjnkfpaa.PPd
open Go.RowKit Go.Proofs.YtcoolajjjnkfpaaW.PrintWords Go.Proofs.YtcoolajjjnkfpaaW.PrintMore
open Go.Proofs.Ytcoolajjjnkfpaa
set_option linter.unusedVariables false
def op37_wf (x : S37) : Prop := (Lit.int .i64 x.f0).wf = true ∧ (Lit.int .i64 x.f1).wf = true ∧ (Lit.int .i64 x.f2).wf = true
theorem op37 : Opn.Opens Try.prog 37 k37 op37_wf :=
  Opn.opens_iso (fun x : S37 => (x.f0, x.f1, x.f2)) (fun a => ⟨⟨a.1, a.2.1, a.2.2⟩, rfl⟩) (Opn.opens_struct Try.underlying37 (by kernel_rfl) (Opn.opensF_cons (Opn.opens_int Try.underlying3 (by kernel_rfl)) (Opn.opensF_cons (Opn.opens_int Try.underlying3 (by kernel_rfl)) (Opn.opensF_last (Opn.opens_int Try.underlying3 (by kernel_rfl))) (by kernel_rfl)) (by kernel_rfl)))
def op66_wf (x : S66) : Prop := (Lit.int .i64 x.f0).wf = true ∧ (Lit.int .i64 x.f1).wf = true
theorem op66 : Opn.Opens Try.prog 66 k66 op66_wf :=
  Opn.opens_iso (fun x : S66 => (x.f0, x.f1)) (fun a => ⟨⟨a.1, a.2⟩, rfl⟩) (Opn.opens_array Try.underlying66 (by kernel_rfl) (Opn.opensA_cons (Opn.opens_int Try.underlying3 (by kernel_rfl)) (Opn.opensA_last (Opn.opens_int Try.underlying3 (by kernel_rfl)) (by decide)) (by decide)))
end Go.Proofs.Ytcoolajjjnkfpaa.PPd
