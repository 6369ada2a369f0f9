-- Written for this claim by a program (the kit's print, with hand-made contracts for what it does not take).
import Derived.Test.YtlngjgcodknpiaaPSmx0
import Derived.Test.YtlngjgcodknpiaaOpens
namespace Go.Proofs.Ytlngjgcodknpiaa.PSm
open Go.RowKit Go.Proofs.YtlngjgcodknpiaaW.PrintWords Go.Proofs.YtlngjgcodknpiaaW.PrintMore
open Go.Proofs.Ytlngjgcodknpiaa
set_option linter.unusedVariables false
def op57_wf (x : S57) : Prop := (Lit.int .i64 x.f0).wf = true ∧ (Lit.int .i64 x.f1).wf = true ∧ (Lit.int .i64 x.f2).wf = true ∧ (Lit.int .i64 x.f3).wf = true
theorem op57 : Opn.Opens Try.prog 57 k57 op57_wf :=
  Opn.opens_iso (fun x : S57 => (x.f0, x.f1, x.f2, x.f3)) (fun a => ⟨⟨a.1, a.2.1, a.2.2.1, a.2.2.2⟩, rfl⟩) (Opn.opens_struct Try.underlying57 (by kernel_rfl) (Opn.opensF_cons (Opn.opens_int Try.underlying3 (by kernel_rfl)) (Opn.opensF_cons (Opn.opens_int Try.underlying3 (by kernel_rfl)) (Opn.opensF_cons (Opn.opens_int Try.underlying3 (by kernel_rfl)) (Opn.opensF_last (Opn.opens_int Try.underlying3 (by kernel_rfl))) (by kernel_rfl)) (by kernel_rfl)) (by kernel_rfl)))
end Go.Proofs.Ytlngjgcodknpiaa.PSm
