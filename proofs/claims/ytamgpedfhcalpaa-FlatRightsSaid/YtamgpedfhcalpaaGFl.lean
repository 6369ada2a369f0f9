-- Written for this claim by a program (the kit's print, with hand-made contracts for what it does not take).
import Derived.Test.YtamgpedfhcalpaaPFlx
import Derived.Test.YtamgpedfhcalpaaOpens
namespace Go.Proofs.Ytamgpedfhcalpaa.PFl
open Go.RowKit Go.Proofs.YtamgpedfhcalpaaW.PrintWords Go.Proofs.YtamgpedfhcalpaaW.PrintMore
open Go.Proofs.Ytamgpedfhcalpaa
set_option linter.unusedVariables false
def op23_wf (x : S23) : Prop := (Lit.int .i64 x.f0).wf = true ∧ (Lit.int .i64 x.f1).wf = true ∧ (Lit.int .i64 x.f2).wf = true ∧ (Lit.int .i64 x.f3).wf = true
theorem op23 : Opn.Opens Try.prog 23 k23 op23_wf :=
  Opn.opens_iso (fun x : S23 => (x.f0, x.f1, x.f2, x.f3)) (fun a => ⟨⟨a.1, a.2.1, a.2.2.1, a.2.2.2⟩, rfl⟩) (Opn.opens_struct Try.underlying23 (by kernel_rfl) (Opn.opensF_cons (Opn.opens_int Try.underlying3 (by kernel_rfl)) (Opn.opensF_cons (Opn.opens_int Try.underlying3 (by kernel_rfl)) (Opn.opensF_cons (Opn.opens_int Try.underlying3 (by kernel_rfl)) (Opn.opensF_last (Opn.opens_int Try.underlying3 (by kernel_rfl))) (by kernel_rfl)) (by kernel_rfl)) (by kernel_rfl)))
/-- THE PURE STATEMENT of emenderlaw04_FlatRights. -/
def emenderlaw04_FlatRights.Pure : Prop := ∀ (a0_0 : Int) (a0_1 : Int) (a0_2 : Int) (a0_3 : Int), (Lit.int .i64 a0_0).wf = true → (Lit.int .i64 a0_1).wf = true → (Lit.int .i64 a0_2).wf = true → (Lit.int .i64 a0_3).wf = true → ∃ k, emenderlaw04_FlatRights.f k a0_0 a0_1 a0_2 a0_3 = some true
/-- THE PURE STATEMENT of emenderlaw04_FlatDeep. -/
def emenderlaw04_FlatDeep.Pure : Prop := ∀ (l0 : List (S23)), l0.length * 32 ≤ 140737488351232 → (∀ y_ ∈ l0, op23_wf y_) → ∃ k, emenderlaw04_FlatDeep.f k l0 = some true
/-- THE PURE STATEMENT of emenderlaw04_FlatKids. -/
def emenderlaw04_FlatKids.Pure : Prop := ∀ (l0 : List (S23)) (a1 : Int), l0.length * 32 ≤ 140737488351232 → (∀ y_ ∈ l0, op23_wf y_) → (Lit.int .i64 a1).wf = true → ∃ k, emenderlaw04_FlatKids.f k l0 a1 = some true
/-- THE PURE STATEMENT of emenderlaw04_FlatPairs. -/
def emenderlaw04_FlatPairs.Pure : Prop := ∀ (l0 : List (S23)), l0.length * 32 ≤ 140737488351232 → (∀ y_ ∈ l0, op23_wf y_) → ∃ k, emenderlaw04_FlatPairs.f k l0 = some true
/-- THE PURE STATEMENT of emenderlaw04_FlatChecks. -/
def emenderlaw04_FlatChecks.Pure : Prop := ∀ (l0 : List (S23)) (a1 : Int), l0.length * 32 ≤ 140737488351232 → (∀ y_ ∈ l0, op23_wf y_) → (Lit.int .i64 a1).wf = true → ∃ k, emenderlaw04_FlatChecks.f k l0 a1 = some true
end Go.Proofs.Ytamgpedfhcalpaa.PFl
