/- The statement StepAppliesSaid: whatever the input, the law StepApplies returns true, and each argument reads behind the call as it read before. No condition beside the row's own. -/
import Derived.Test.YtlngjgcodknpiaaRows
import Derived.Test.YtlngjgcodknpiaaGStepApplies
import Derived.Test.YtlngjgcodknpiaaPureStepApplies
import Derived.WalkKit
import Derived.ProofKit
import Derived.OpenShut
import Derived.ShutString
import Derived.ChangeOld
import Derived.Below
import Derived.SizedLaws
namespace Go.Proofs.Ytlngjgcodknpiaa.stepApplies
open Go.ChangeShapes Go.WideShapes Go.ChangeAt Go.RowKit
open Go.ChangeMaps (open_string shut_string)
open Go.Proofs.Ytlngjgcodknpiaa
open Go.Proofs.Ytlngjgcodknpiaa.PSa
set_option linter.unusedVariables false
theorem own : ownKnob Try.prog.godebug = none := by kernel_rfl
theorem laidOut : laidOutB Try.prog = true := by kernel_rfl
set_option maxRecDepth 100000 in
theorem lifted (os : Os) (started : os.Started) (H : Type) (enc : TypeId × Value → H) :
    ReturnsInHanded {} Try.checked os 5 .any (Rows.stepAppliesSpec.pre6 enc Try.prog Try.f5 Rows.stepAppliesRow.domain false) (Rows.stepAppliesSpec.post enc Try.prog Try.f5 false true false false) := by
  refine returnsInHanded_of_change_sized (C := Try.checked) own started (by kernel_rfl) Try.func5
    (ChangeSpec.witness6 (enc := enc) (C := Try.checked) false ⟨#[], #[.slice none 0 0, .agg #[.int .i64 0, .int .i64 0, .int .i64 0, .int .i64 0, .int .i64 0, .int .i64 0, .slice none 0 0, .int .i64 0]], []⟩ 8 (by kernel_rfl) (by kernel_rfl) (by kernel_rfl) (by kernel_rfl)) ?_
  intro W base args ds gs before hval0 hW hcnd hsz0 _
  have hsz : (DataW.weightsEach Try.prog (Try.f5.params.toList ++ Rows.stepAppliesSpec.plain.varTypes Try.prog) (ds ++ gs)).all (· ≤ reachBytes) = true := hsz0
  have hval : ∀ (j : Nat) t v, Try.f5.params[j]? = some t → args[j]? = some v → Value.okWide Try.prog W .any base t v := hval0
  have hW' := hW
  obtain ⟨p, q, hA0, hV, rfl, hfz, hnd⟩ := hW
  have hA : DataW.TrodAll enc Try.prog W 0 (fun _ => true) true Try.f5.params.toList args.toList ds p := hA0
  rw [Try.params5] at hA hval hsz
  obtain ⟨v0, vs0, d0, ds0, p0, q0, hargs, rfl, rfl, h0, r0⟩ := trodAll_cons hA
  obtain ⟨v1, vs1, d1, ds1, p1, q1, rfl, rfl, rfl, h1, r1⟩ := trodAll_cons r0
  obtain ⟨rfl, rfl, rfl⟩ := trodAll_nil r1
  obtain rfl : args = #[v0, v1] := by cases args; simp_all
  obtain ⟨rfl, rfl⟩ := trodVars_none hV
  obtain ⟨b0, len0, cap0, rfl⟩ := okWide_slice Try.underlying22 (hval 0 22 v0 rfl rfl)
  have k0 := h0
  have lt0 : ∀ x ∈ p0, x.block < W.heap.size := by obtain ⟨m, hm⟩ := k0; exact DataW.trod_lt m _ _ _ hm
  obtain ⟨l0, rfl, hc0, hr0, w0⟩ := Opn.open_sl Try.underlying22 (by kernel_rfl) op57 h0
  have y0 := Opn.sized_any hsz (j := 0) (t := 22) rfl rfl Try.underlying22 (B := 32) (by kernel_rfl) k0
  obtain ⟨cs1, rfl, _⟩ := okWide_struct Try.underlying24 (hval 1 24 v1 rfl rfl)
  have k1 := h1
  have lt1 : ∀ x ∈ p1, x.block < W.heap.size := by obtain ⟨m, hm⟩ := k1; exact DataW.trod_lt m _ _ _ hm
  obtain ⟨x1, hK1, w1⟩ := Opn.open_ag (Opn.opens_struct Try.underlying24 (by kernel_rfl) (Opn.opensF_cons (Opn.opens_int Try.underlying3 (by kernel_rfl)) (Opn.opensF_cons (Opn.opens_int Try.underlying3 (by kernel_rfl)) (Opn.opensF_cons (Opn.opens_int Try.underlying3 (by kernel_rfl)) (Opn.opensF_cons (Opn.opens_int Try.underlying3 (by kernel_rfl)) (Opn.opensF_cons (Opn.opens_int Try.underlying3 (by kernel_rfl)) (Opn.opensF_cons (Opn.opens_int Try.underlying3 (by kernel_rfl)) (Opn.opensF_cons (Opn.opens_slice Try.underlying22 (by kernel_rfl) op57) (Opn.opensF_last (Opn.opens_int Try.underlying3 (by kernel_rfl))) (by kernel_rfl)) (by kernel_rfl)) (by kernel_rfl)) (by kernel_rfl)) (by kernel_rfl)) (by kernel_rfl)) (by kernel_rfl))) h1
  obtain ⟨cs1⟩ := cs1
  obtain ⟨e1_0, r1_0, q1_0, f1_0, e1_1, r1_1, q1_1, f1_1, e1_2, r1_2, q1_2, f1_2, e1_3, r1_3, q1_3, f1_3, e1_4, r1_4, q1_4, f1_4, e1_5, r1_5, q1_5, f1_5, e1_6, r1_6, q1_6, f1_6, f1_7⟩ := hK1
  obtain rfl : e1_0 = [.int .i64 x1.1] := f1_0
  obtain rfl : e1_1 = [.int .i64 x1.2.1] := f1_1
  obtain rfl : e1_2 = [.int .i64 x1.2.2.1] := f1_2
  obtain rfl : e1_3 = [.int .i64 x1.2.2.2.1] := f1_3
  obtain rfl : e1_4 = [.int .i64 x1.2.2.2.2.1] := f1_4
  obtain rfl : e1_5 = [.int .i64 x1.2.2.2.2.2.1] := f1_5
  obtain ⟨A1_6, c1_6, rfl, hc1_6, hr1_6⟩ := f1_6
  obtain rfl : r1_6 = [.int .i64 x1.2.2.2.2.2.2.2] := f1_7
  obtain rfl := q1_6
  obtain rfl := q1_5
  obtain rfl := q1_4
  obtain rfl := q1_3
  obtain rfl := q1_2
  obtain rfl := q1_1
  obtain rfl := q1_0
  clear hA0 hval0 hsz0 hsz
  obtain ⟨k, hp⟩ := Pure.StepApplies l0 x1.1 x1.2.1 x1.2.2.1 x1.2.2.2.1 x1.2.2.2.2.1 x1.2.2.2.2.2.1 x1.2.2.2.2.2.2.1 x1.2.2.2.2.2.2.2 y0 w0 w1.1 w1.2.1 w1.2.2.1 w1.2.2.2.1 w1.2.2.2.2.1 w1.2.2.2.2.2.1 hr1_6.2.1 w1.2.2.2.2.2.2.1 w1.2.2.2.2.2.2.2
  refine (emenderlaw09_StepApplies.calls (k := k) (A0 := b0) (c0 := cap0) (l0 := l0) (hr0 := hr0) (hc0 := hc0) (a1_0 := x1.1) (a1_1 := x1.2.1) (a1_2 := x1.2.2.1) (a1_3 := x1.2.2.2.1) (a1_4 := x1.2.2.2.2.1) (a1_5 := x1.2.2.2.2.2.1) (A1_6 := A1_6) (c1_6 := c1_6) (l1_6 := x1.2.2.2.2.2.2.1) (hr1_6 := hr1_6) (hc1_6 := hc1_6) (a1_7 := x1.2.2.2.2.2.2.2) (r := true) (w := W) (h := hp)).mono fun e W' ⟨he, bel0⟩ => ?_
  have bel : Below W.heap.size W W' := bel0
  subst he
  exact ⟨_, rfl, _, _, _, [], _, [], hW', trodAll_mk1 (shut_bool Try.underlying4 _), (trodAll_cons_mk (Below.trod laidOut (by kernel_rfl) (of_decide_eq_true (by kernel_rfl)) k0 bel lt0) (trodAll_cons_mk (Below.trod laidOut (by kernel_rfl) (of_decide_eq_true (by kernel_rfl)) k1 bel lt1) trodAll_mk0)), rfl, bel.frame _, fun h => by cases h⟩
theorem over : Rows.stepAppliesRow.holds Try.pinned (OpenSpec.ofChange Rows.stepAppliesSpec) :=
  OpenClaim.holds_of_wide 5 Try.f5 rfl rfl rfl rfl rfl rfl rfl ⟨rfl, rfl, rfl, rfl, rfl⟩ rfl rfl rfl rfl rfl (by kernel_rfl) Try.func5 (by kernel_rfl)
    (of_decide_eq_true (by kernel_rfl)) (by unfold Func.isWrapper; first | (rw [if_pos (by decide +kernel)]; kernel_rfl) | (rw [if_neg (by decide +kernel)]; exact ⟨rfl, rfl⟩))
    (fun os started H enc _ => lifted os started H enc)
theorem proved : Rows.StepAppliesSaid := over
#print axioms proved
end Go.Proofs.Ytlngjgcodknpiaa.stepApplies
namespace Go.Proofs.Ytlngjgcodknpiaa
/-- The row, under a short name, for the claim. -/
theorem stepApplies_holds : Rows.StepAppliesSaid := stepApplies.proved
end Go.Proofs.Ytlngjgcodknpiaa
