/- The statement StepMergesSaid: whatever the input, the law StepMerges returns true, and each argument reads behind the call as it read before. No condition beside the row's own. -/
import Derived.Test.YtlngjgcodknpiaaRows
import Derived.Test.YtlngjgcodknpiaaGStepMerges
import Derived.Test.YtlngjgcodknpiaaPureStepMerges
import Derived.WalkKit
import Derived.ProofKit
import Derived.OpenShut
import Derived.ShutString
import Derived.ChangeOld
import Derived.Below
import Derived.SizedLaws
namespace Go.Proofs.Ytlngjgcodknpiaa.stepMerges
open Go.ChangeShapes Go.WideShapes Go.ChangeAt Go.RowKit
open Go.ChangeMaps (open_string shut_string)
open Go.Proofs.Ytlngjgcodknpiaa
open Go.Proofs.Ytlngjgcodknpiaa.PSk
set_option linter.unusedVariables false
theorem own : ownKnob Try.prog.godebug = none := by kernel_rfl
theorem laidOut : laidOutB Try.prog = true := by kernel_rfl
set_option maxRecDepth 100000 in
theorem lifted (os : Os) (started : os.Started) (H : Type) (enc : TypeId × Value → H) :
    ReturnsInHanded {} Try.checked os 4 .any (Rows.stepMergesSpec.pre6 enc Try.prog Try.f4 Rows.stepMergesRow.domain false) (Rows.stepMergesSpec.post enc Try.prog Try.f4 false true false false) := by
  refine returnsInHanded_of_change_sized (C := Try.checked) own started (by kernel_rfl) Try.func4
    (ChangeSpec.witness6 (enc := enc) (C := Try.checked) false ⟨#[], #[.slice none 0 0, .agg #[.int .i64 0, .int .i64 0, .int .i64 0, .int .i64 0, .int .i64 0, .int .i64 0, .slice none 0 0, .int .i64 0], .agg #[.int .i64 0, .int .i64 0, .int .i64 0, .int .i64 0, .int .i64 0, .int .i64 0, .slice none 0 0, .int .i64 0]], []⟩ 8 (by kernel_rfl) (by kernel_rfl) (by kernel_rfl) (by kernel_rfl)) ?_
  intro W base args ds gs before hval0 hW hcnd hsz0 _
  have hsz : (DataW.weightsEach Try.prog (Try.f4.params.toList ++ Rows.stepMergesSpec.plain.varTypes Try.prog) (ds ++ gs)).all (· ≤ reachBytes) = true := hsz0
  have hval : ∀ (j : Nat) t v, Try.f4.params[j]? = some t → args[j]? = some v → Value.okWide Try.prog W .any base t v := hval0
  have hW' := hW
  obtain ⟨p, q, hA0, hV, rfl, hfz, hnd⟩ := hW
  have hA : DataW.TrodAll enc Try.prog W 0 (fun _ => true) true Try.f4.params.toList args.toList ds p := hA0
  rw [Try.params4] at hA hval hsz
  obtain ⟨v0, vs0, d0, ds0, p0, q0, hargs, rfl, rfl, h0, r0⟩ := trodAll_cons hA
  obtain ⟨v1, vs1, d1, ds1, p1, q1, rfl, rfl, rfl, h1, r1⟩ := trodAll_cons r0
  obtain ⟨v2, vs2, d2, ds2, p2, q2, rfl, rfl, rfl, h2, r2⟩ := trodAll_cons r1
  obtain ⟨rfl, rfl, rfl⟩ := trodAll_nil r2
  obtain rfl : args = #[v0, v1, v2] := by cases args; simp_all
  obtain ⟨rfl, rfl⟩ := trodVars_none hV
  obtain ⟨b0, len0, cap0, rfl⟩ := okWide_slice Try.underlying22 (hval 0 22 v0 rfl rfl)
  have k0 := h0
  have lt0 : ∀ x ∈ p0, x.block < W.heap.size := by obtain ⟨m, hm⟩ := k0; exact DataW.trod_lt m _ _ _ hm
  obtain ⟨l0, rfl, hc0, hr0, w0⟩ := Opn.open_sl Try.underlying22 (by kernel_rfl) op57 h0
  have y0 := Opn.sized_any hsz (j := 0) (t := 22) rfl rfl Try.underlying22 (B := 32) (by kernel_rfl) k0
  obtain ⟨cs1, rfl, _⟩ := okWide_struct Try.underlying24 (hval 1 24 v1 rfl rfl)
  have k1 := h1
  have lt1 : ∀ x ∈ p1, x.block < W.heap.size := by obtain ⟨m, hm⟩ := k1; exact DataW.trod_lt m _ _ _ hm
  obtain ⟨x1, hK1, w1⟩ := Opn.open_ag (Opn.opens_struct Try.underlying24 (by kernel_rfl) (Opn.opensF_cons (Opn.opens_int Try.underlying3 (by kernel_rfl)) (Opn.opensF_cons (Opn.opens_int Try.underlying3 (by kernel_rfl)) (Opn.opensF_cons (Opn.opens_int Try.underlying3 (by kernel_rfl)) (Opn.opensF_cons (Opn.opens_int Try.underlying3 (by kernel_rfl)) (Opn.opensF_cons (Opn.opens_int Try.underlying3 (by kernel_rfl)) (Opn.opensF_cons (Opn.opens_int Try.underlying3 (by kernel_rfl)) (Opn.opensF_cons (Opn.opens_slice Try.underlying22 (by kernel_rfl) op57) (Opn.opensF_last (Opn.opens_int Try.underlying3 (by kernel_rfl))) (by kernel_rfl)) (by kernel_rfl)) (by kernel_rfl)) (by kernel_rfl)) (by kernel_rfl)) (by kernel_rfl)) (by kernel_rfl))) h1
  obtain ⟨cs1⟩ := cs1
  obtain ⟨e1_0, r1_0, q1_0, f1_0, e1_1, r1_1, q1_1, f1_1, e1_2, r1_2, q1_2, f1_2, e1_3, r1_3, q1_3, f1_3, e1_4, r1_4, q1_4, f1_4, e1_5, r1_5, q1_5, f1_5, e1_6, r1_6, q1_6, f1_6, f1_7⟩ := hK1
  obtain rfl : e1_0 = [.int .i64 x1.1] := f1_0
  obtain rfl : e1_1 = [.int .i64 x1.2.1] := f1_1
  obtain rfl : e1_2 = [.int .i64 x1.2.2.1] := f1_2
  obtain rfl : e1_3 = [.int .i64 x1.2.2.2.1] := f1_3
  obtain rfl : e1_4 = [.int .i64 x1.2.2.2.2.1] := f1_4
  obtain rfl : e1_5 = [.int .i64 x1.2.2.2.2.2.1] := f1_5
  obtain ⟨A1_6, c1_6, rfl, hc1_6, hr1_6⟩ := f1_6
  obtain rfl : r1_6 = [.int .i64 x1.2.2.2.2.2.2.2] := f1_7
  obtain rfl := q1_6
  obtain rfl := q1_5
  obtain rfl := q1_4
  obtain rfl := q1_3
  obtain rfl := q1_2
  obtain rfl := q1_1
  obtain rfl := q1_0
  obtain ⟨cs2, rfl, _⟩ := okWide_struct Try.underlying24 (hval 2 24 v2 rfl rfl)
  have k2 := h2
  have lt2 : ∀ x ∈ p2, x.block < W.heap.size := by obtain ⟨m, hm⟩ := k2; exact DataW.trod_lt m _ _ _ hm
  obtain ⟨x2, hK2, w2⟩ := Opn.open_ag (Opn.opens_struct Try.underlying24 (by kernel_rfl) (Opn.opensF_cons (Opn.opens_int Try.underlying3 (by kernel_rfl)) (Opn.opensF_cons (Opn.opens_int Try.underlying3 (by kernel_rfl)) (Opn.opensF_cons (Opn.opens_int Try.underlying3 (by kernel_rfl)) (Opn.opensF_cons (Opn.opens_int Try.underlying3 (by kernel_rfl)) (Opn.opensF_cons (Opn.opens_int Try.underlying3 (by kernel_rfl)) (Opn.opensF_cons (Opn.opens_int Try.underlying3 (by kernel_rfl)) (Opn.opensF_cons (Opn.opens_slice Try.underlying22 (by kernel_rfl) op57) (Opn.opensF_last (Opn.opens_int Try.underlying3 (by kernel_rfl))) (by kernel_rfl)) (by kernel_rfl)) (by kernel_rfl)) (by kernel_rfl)) (by kernel_rfl)) (by kernel_rfl)) (by kernel_rfl))) h2
  obtain ⟨cs2⟩ := cs2
  obtain ⟨e2_0, r2_0, q2_0, f2_0, e2_1, r2_1, q2_1, f2_1, e2_2, r2_2, q2_2, f2_2, e2_3, r2_3, q2_3, f2_3, e2_4, r2_4, q2_4, f2_4, e2_5, r2_5, q2_5, f2_5, e2_6, r2_6, q2_6, f2_6, f2_7⟩ := hK2
  obtain rfl : e2_0 = [.int .i64 x2.1] := f2_0
  obtain rfl : e2_1 = [.int .i64 x2.2.1] := f2_1
  obtain rfl : e2_2 = [.int .i64 x2.2.2.1] := f2_2
  obtain rfl : e2_3 = [.int .i64 x2.2.2.2.1] := f2_3
  obtain rfl : e2_4 = [.int .i64 x2.2.2.2.2.1] := f2_4
  obtain rfl : e2_5 = [.int .i64 x2.2.2.2.2.2.1] := f2_5
  obtain ⟨A2_6, c2_6, rfl, hc2_6, hr2_6⟩ := f2_6
  obtain rfl : r2_6 = [.int .i64 x2.2.2.2.2.2.2.2] := f2_7
  obtain rfl := q2_6
  obtain rfl := q2_5
  obtain rfl := q2_4
  obtain rfl := q2_3
  obtain rfl := q2_2
  obtain rfl := q2_1
  obtain rfl := q2_0
  clear hA0 hval0 hsz0 hsz
  obtain ⟨k, hp⟩ := Pure.StepMerges l0 x1.1 x1.2.1 x1.2.2.1 x1.2.2.2.1 x1.2.2.2.2.1 x1.2.2.2.2.2.1 x1.2.2.2.2.2.2.1 x1.2.2.2.2.2.2.2 x2.1 x2.2.1 x2.2.2.1 x2.2.2.2.1 x2.2.2.2.2.1 x2.2.2.2.2.2.1 x2.2.2.2.2.2.2.1 x2.2.2.2.2.2.2.2 y0 w0 w1.1 w1.2.1 w1.2.2.1 w1.2.2.2.1 w1.2.2.2.2.1 w1.2.2.2.2.2.1 hr1_6.2.1 w1.2.2.2.2.2.2.1 w1.2.2.2.2.2.2.2 w2.1 w2.2.1 w2.2.2.1 w2.2.2.2.1 w2.2.2.2.2.1 w2.2.2.2.2.2.1 hr2_6.2.1 w2.2.2.2.2.2.2.1 w2.2.2.2.2.2.2.2
  refine (emenderlaw09_StepMerges.calls (k := k) (A0 := b0) (c0 := cap0) (l0 := l0) (hr0 := hr0) (hc0 := hc0) (a1_0 := x1.1) (a1_1 := x1.2.1) (a1_2 := x1.2.2.1) (a1_3 := x1.2.2.2.1) (a1_4 := x1.2.2.2.2.1) (a1_5 := x1.2.2.2.2.2.1) (A1_6 := A1_6) (c1_6 := c1_6) (l1_6 := x1.2.2.2.2.2.2.1) (hr1_6 := hr1_6) (hc1_6 := hc1_6) (a1_7 := x1.2.2.2.2.2.2.2) (a2_0 := x2.1) (a2_1 := x2.2.1) (a2_2 := x2.2.2.1) (a2_3 := x2.2.2.2.1) (a2_4 := x2.2.2.2.2.1) (a2_5 := x2.2.2.2.2.2.1) (A2_6 := A2_6) (c2_6 := c2_6) (l2_6 := x2.2.2.2.2.2.2.1) (hr2_6 := hr2_6) (hc2_6 := hc2_6) (a2_7 := x2.2.2.2.2.2.2.2) (r := true) (w := W) (h := hp)).mono fun e W' ⟨he, bel0⟩ => ?_
  have bel : Below W.heap.size W W' := bel0
  subst he
  exact ⟨_, rfl, _, _, _, [], _, [], hW', trodAll_mk1 (shut_bool Try.underlying4 _), (trodAll_cons_mk (Below.trod laidOut (by kernel_rfl) (of_decide_eq_true (by kernel_rfl)) k0 bel lt0) (trodAll_cons_mk (Below.trod laidOut (by kernel_rfl) (of_decide_eq_true (by kernel_rfl)) k1 bel lt1) (trodAll_cons_mk (Below.trod laidOut (by kernel_rfl) (of_decide_eq_true (by kernel_rfl)) k2 bel lt2) trodAll_mk0))), rfl, bel.frame _, fun h => by cases h⟩
theorem over : Rows.stepMergesRow.holds Try.pinned (OpenSpec.ofChange Rows.stepMergesSpec) :=
  OpenClaim.holds_of_wide 4 Try.f4 rfl rfl rfl rfl rfl rfl rfl ⟨rfl, rfl, rfl, rfl, rfl⟩ rfl rfl rfl rfl rfl (by kernel_rfl) Try.func4 (by kernel_rfl)
    (of_decide_eq_true (by kernel_rfl)) (by unfold Func.isWrapper; first | (rw [if_pos (by decide +kernel)]; kernel_rfl) | (rw [if_neg (by decide +kernel)]; exact ⟨rfl, rfl⟩))
    (fun os started H enc _ => lifted os started H enc)
theorem proved : Rows.StepMergesSaid := over
#print axioms proved
end Go.Proofs.Ytlngjgcodknpiaa.stepMerges
namespace Go.Proofs.Ytlngjgcodknpiaa
/-- The row, under a short name, for the claim. -/
theorem stepMerges_holds : Rows.StepMergesSaid := stepMerges.proved
end Go.Proofs.Ytlngjgcodknpiaa
