-- Written for this claim by a program (the kit's print, with hand-made contracts for what it does not take).
import Derived.Test.YtebbngeamnpgjaaDoorPIax0
import Derived.Test.YtebbngeamnpgjaaDoorOpens
namespace Go.Proofs.YtebbngeamnpgjaaDoor.PIa
open Go.RowKit Go.Proofs.YtebbngeamnpgjaaDoorW.PrintWords Go.Proofs.YtebbngeamnpgjaaDoorW.PrintMore
open Go.Proofs.YtebbngeamnpgjaaDoor
set_option linter.unusedVariables false
def op36_wf (x : S36) : Prop := (Lit.int .i64 x.f0).wf = true ∧ (Lit.int .i64 x.f1).wf = true ∧ (Lit.int .i64 x.f2).wf = true ∧ (Lit.int .i64 x.f3).wf = true
theorem op36 : Opn.Opens Tryd.prog 36 k36 op36_wf :=
  Opn.opens_iso (fun x : S36 => (x.f0, x.f1, x.f2, x.f3)) (fun a => ⟨⟨a.1, a.2.1, a.2.2.1, a.2.2.2⟩, rfl⟩) (Opn.opens_struct Tryd.underlying36 (by kernel_rfl) (Opn.opensF_cons (Opn.opens_int Tryd.underlying3 (by kernel_rfl)) (Opn.opensF_cons (Opn.opens_int Tryd.underlying3 (by kernel_rfl)) (Opn.opensF_cons (Opn.opens_int Tryd.underlying3 (by kernel_rfl)) (Opn.opensF_last (Opn.opens_int Tryd.underlying3 (by kernel_rfl))) (by kernel_rfl)) (by kernel_rfl)) (by kernel_rfl)))
end Go.Proofs.YtebbngeamnpgjaaDoor.PIa
