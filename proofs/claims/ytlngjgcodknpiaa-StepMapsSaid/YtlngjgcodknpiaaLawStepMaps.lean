/- The statement StepMapsSaid: whatever the input, the law StepMaps returns true, and each argument reads behind the call as it read before. No condition beside the row's own. -/
import Derived.Test.YtlngjgcodknpiaaRows
import Derived.Test.YtlngjgcodknpiaaGStepMaps
import Derived.Test.YtlngjgcodknpiaaPureStepMaps
import Derived.WalkKit
import Derived.ProofKit
import Derived.OpenShut
import Derived.ShutString
import Derived.ChangeOld
import Derived.Below
import Derived.SizedLaws
namespace Go.Proofs.Ytlngjgcodknpiaa.stepMaps
open Go.ChangeShapes Go.WideShapes Go.ChangeAt Go.RowKit
open Go.ChangeMaps (open_string shut_string)
open Go.Proofs.Ytlngjgcodknpiaa
open Go.Proofs.Ytlngjgcodknpiaa.PSm
set_option linter.unusedVariables false
theorem own : ownKnob Try.prog.godebug = none := by kernel_rfl
theorem laidOut : laidOutB Try.prog = true := by kernel_rfl
set_option maxRecDepth 100000 in
theorem lifted (os : Os) (started : os.Started) (H : Type) (enc : TypeId × Value → H) :
    ReturnsInHanded {} Try.checked os 6 .any (Rows.stepMapsSpec.pre6 enc Try.prog Try.f6 Rows.stepMapsRow.domain false) (Rows.stepMapsSpec.post enc Try.prog Try.f6 false true false false) := by
  refine returnsInHanded_of_change_sized (C := Try.checked) own started (by kernel_rfl) Try.func6
    (ChangeSpec.witness6 (enc := enc) (C := Try.checked) false ⟨#[], #[.agg #[.int .i64 0, .int .i64 0, .int .i64 0, .int .i64 0, .int .i64 0, .int .i64 0, .slice none 0 0, .int .i64 0], .agg #[.int .i64 0, .int .i64 0, .int .i64 0, .int .i64 0, .int .i64 0, .int .i64 0, .slice none 0 0, .int .i64 0]], []⟩ 8 (by kernel_rfl) (by kernel_rfl) (by kernel_rfl) (by kernel_rfl)) ?_
  intro W base args ds gs before hval0 hW hcnd hsz0 _
  have hsz : (DataW.weightsEach Try.prog (Try.f6.params.toList ++ Rows.stepMapsSpec.plain.varTypes Try.prog) (ds ++ gs)).all (· ≤ reachBytes) = true := hsz0
  have hval : ∀ (j : Nat) t v, Try.f6.params[j]? = some t → args[j]? = some v → Value.okWide Try.prog W .any base t v := hval0
  have hW' := hW
  obtain ⟨p, q, hA0, hV, rfl, hfz, hnd⟩ := hW
  have hA : DataW.TrodAll enc Try.prog W 0 (fun _ => true) true Try.f6.params.toList args.toList ds p := hA0
  rw [Try.params6] at hA hval hsz
  obtain ⟨v0, vs0, d0, ds0, p0, q0, hargs, rfl, rfl, h0, r0⟩ := trodAll_cons hA
  obtain ⟨v1, vs1, d1, ds1, p1, q1, rfl, rfl, rfl, h1, r1⟩ := trodAll_cons r0
  obtain ⟨rfl, rfl, rfl⟩ := trodAll_nil r1
  obtain rfl : args = #[v0, v1] := by cases args; simp_all
  obtain ⟨rfl, rfl⟩ := trodVars_none hV
  obtain ⟨cs0, rfl, _⟩ := okWide_struct Try.underlying24 (hval 0 24 v0 rfl rfl)
  have k0 := h0
  have lt0 : ∀ x ∈ p0, x.block < W.heap.size := by obtain ⟨m, hm⟩ := k0; exact DataW.trod_lt m _ _ _ hm
  obtain ⟨x0, hK0, w0⟩ := Opn.open_ag (Opn.opens_struct Try.underlying24 (by kernel_rfl) (Opn.opensF_cons (Opn.opens_int Try.underlying3 (by kernel_rfl)) (Opn.opensF_cons (Opn.opens_int Try.underlying3 (by kernel_rfl)) (Opn.opensF_cons (Opn.opens_int Try.underlying3 (by kernel_rfl)) (Opn.opensF_cons (Opn.opens_int Try.underlying3 (by kernel_rfl)) (Opn.opensF_cons (Opn.opens_int Try.underlying3 (by kernel_rfl)) (Opn.opensF_cons (Opn.opens_int Try.underlying3 (by kernel_rfl)) (Opn.opensF_cons (Opn.opens_slice Try.underlying22 (by kernel_rfl) op57) (Opn.opensF_last (Opn.opens_int Try.underlying3 (by kernel_rfl))) (by kernel_rfl)) (by kernel_rfl)) (by kernel_rfl)) (by kernel_rfl)) (by kernel_rfl)) (by kernel_rfl)) (by kernel_rfl))) h0
  obtain ⟨cs0⟩ := cs0
  obtain ⟨e0_0, r0_0, q0_0, f0_0, e0_1, r0_1, q0_1, f0_1, e0_2, r0_2, q0_2, f0_2, e0_3, r0_3, q0_3, f0_3, e0_4, r0_4, q0_4, f0_4, e0_5, r0_5, q0_5, f0_5, e0_6, r0_6, q0_6, f0_6, f0_7⟩ := hK0
  obtain rfl : e0_0 = [.int .i64 x0.1] := f0_0
  obtain rfl : e0_1 = [.int .i64 x0.2.1] := f0_1
  obtain rfl : e0_2 = [.int .i64 x0.2.2.1] := f0_2
  obtain rfl : e0_3 = [.int .i64 x0.2.2.2.1] := f0_3
  obtain rfl : e0_4 = [.int .i64 x0.2.2.2.2.1] := f0_4
  obtain rfl : e0_5 = [.int .i64 x0.2.2.2.2.2.1] := f0_5
  obtain ⟨A0_6, c0_6, rfl, hc0_6, hr0_6⟩ := f0_6
  obtain rfl : r0_6 = [.int .i64 x0.2.2.2.2.2.2.2] := f0_7
  obtain rfl := q0_6
  obtain rfl := q0_5
  obtain rfl := q0_4
  obtain rfl := q0_3
  obtain rfl := q0_2
  obtain rfl := q0_1
  obtain rfl := q0_0
  obtain ⟨cs1, rfl, _⟩ := okWide_struct Try.underlying24 (hval 1 24 v1 rfl rfl)
  have k1 := h1
  have lt1 : ∀ x ∈ p1, x.block < W.heap.size := by obtain ⟨m, hm⟩ := k1; exact DataW.trod_lt m _ _ _ hm
  obtain ⟨x1, hK1, w1⟩ := Opn.open_ag (Opn.opens_struct Try.underlying24 (by kernel_rfl) (Opn.opensF_cons (Opn.opens_int Try.underlying3 (by kernel_rfl)) (Opn.opensF_cons (Opn.opens_int Try.underlying3 (by kernel_rfl)) (Opn.opensF_cons (Opn.opens_int Try.underlying3 (by kernel_rfl)) (Opn.opensF_cons (Opn.opens_int Try.underlying3 (by kernel_rfl)) (Opn.opensF_cons (Opn.opens_int Try.underlying3 (by kernel_rfl)) (Opn.opensF_cons (Opn.opens_int Try.underlying3 (by kernel_rfl)) (Opn.opensF_cons (Opn.opens_slice Try.underlying22 (by kernel_rfl) op57) (Opn.opensF_last (Opn.opens_int Try.underlying3 (by kernel_rfl))) (by kernel_rfl)) (by kernel_rfl)) (by kernel_rfl)) (by kernel_rfl)) (by kernel_rfl)) (by kernel_rfl)) (by kernel_rfl))) h1
  obtain ⟨cs1⟩ := cs1
  obtain ⟨e1_0, r1_0, q1_0, f1_0, e1_1, r1_1, q1_1, f1_1, e1_2, r1_2, q1_2, f1_2, e1_3, r1_3, q1_3, f1_3, e1_4, r1_4, q1_4, f1_4, e1_5, r1_5, q1_5, f1_5, e1_6, r1_6, q1_6, f1_6, f1_7⟩ := hK1
  obtain rfl : e1_0 = [.int .i64 x1.1] := f1_0
  obtain rfl : e1_1 = [.int .i64 x1.2.1] := f1_1
  obtain rfl : e1_2 = [.int .i64 x1.2.2.1] := f1_2
  obtain rfl : e1_3 = [.int .i64 x1.2.2.2.1] := f1_3
  obtain rfl : e1_4 = [.int .i64 x1.2.2.2.2.1] := f1_4
  obtain rfl : e1_5 = [.int .i64 x1.2.2.2.2.2.1] := f1_5
  obtain ⟨A1_6, c1_6, rfl, hc1_6, hr1_6⟩ := f1_6
  obtain rfl : r1_6 = [.int .i64 x1.2.2.2.2.2.2.2] := f1_7
  obtain rfl := q1_6
  obtain rfl := q1_5
  obtain rfl := q1_4
  obtain rfl := q1_3
  obtain rfl := q1_2
  obtain rfl := q1_1
  obtain rfl := q1_0
  clear hA0 hval0 hsz0 hsz
  obtain ⟨k, hp⟩ := Pure.StepMaps x0.1 x0.2.1 x0.2.2.1 x0.2.2.2.1 x0.2.2.2.2.1 x0.2.2.2.2.2.1 x0.2.2.2.2.2.2.1 x0.2.2.2.2.2.2.2 x1.1 x1.2.1 x1.2.2.1 x1.2.2.2.1 x1.2.2.2.2.1 x1.2.2.2.2.2.1 x1.2.2.2.2.2.2.1 x1.2.2.2.2.2.2.2 w0.1 w0.2.1 w0.2.2.1 w0.2.2.2.1 w0.2.2.2.2.1 w0.2.2.2.2.2.1 hr0_6.2.1 w0.2.2.2.2.2.2.1 w0.2.2.2.2.2.2.2 w1.1 w1.2.1 w1.2.2.1 w1.2.2.2.1 w1.2.2.2.2.1 w1.2.2.2.2.2.1 hr1_6.2.1 w1.2.2.2.2.2.2.1 w1.2.2.2.2.2.2.2
  refine (emenderlaw09_StepMaps.calls (k := k) (a0_0 := x0.1) (a0_1 := x0.2.1) (a0_2 := x0.2.2.1) (a0_3 := x0.2.2.2.1) (a0_4 := x0.2.2.2.2.1) (a0_5 := x0.2.2.2.2.2.1) (A0_6 := A0_6) (c0_6 := c0_6) (l0_6 := x0.2.2.2.2.2.2.1) (hr0_6 := hr0_6) (hc0_6 := hc0_6) (a0_7 := x0.2.2.2.2.2.2.2) (a1_0 := x1.1) (a1_1 := x1.2.1) (a1_2 := x1.2.2.1) (a1_3 := x1.2.2.2.1) (a1_4 := x1.2.2.2.2.1) (a1_5 := x1.2.2.2.2.2.1) (A1_6 := A1_6) (c1_6 := c1_6) (l1_6 := x1.2.2.2.2.2.2.1) (hr1_6 := hr1_6) (hc1_6 := hc1_6) (a1_7 := x1.2.2.2.2.2.2.2) (r := true) (w := W) (h := hp)).mono fun e W' ⟨he, bel0⟩ => ?_
  have bel : Below W.heap.size W W' := bel0
  subst he
  exact ⟨_, rfl, _, _, _, [], _, [], hW', trodAll_mk1 (shut_bool Try.underlying4 _), (trodAll_cons_mk (Below.trod laidOut (by kernel_rfl) (of_decide_eq_true (by kernel_rfl)) k0 bel lt0) (trodAll_cons_mk (Below.trod laidOut (by kernel_rfl) (of_decide_eq_true (by kernel_rfl)) k1 bel lt1) trodAll_mk0)), rfl, bel.frame _, fun h => by cases h⟩
theorem over : Rows.stepMapsRow.holds Try.pinned (OpenSpec.ofChange Rows.stepMapsSpec) :=
  OpenClaim.holds_of_wide 6 Try.f6 rfl rfl rfl rfl rfl rfl rfl ⟨rfl, rfl, rfl, rfl, rfl⟩ rfl rfl rfl rfl rfl (by kernel_rfl) Try.func6 (by kernel_rfl)
    (of_decide_eq_true (by kernel_rfl)) (by unfold Func.isWrapper; first | (rw [if_pos (by decide +kernel)]; kernel_rfl) | (rw [if_neg (by decide +kernel)]; exact ⟨rfl, rfl⟩))
    (fun os started H enc _ => lifted os started H enc)
theorem proved : Rows.StepMapsSaid := over
#print axioms proved
end Go.Proofs.Ytlngjgcodknpiaa.stepMaps
namespace Go.Proofs.Ytlngjgcodknpiaa
/-- The row, under a short name, for the claim. -/
theorem stepMaps_holds : Rows.StepMapsSaid := stepMaps.proved
end Go.Proofs.Ytlngjgcodknpiaa
