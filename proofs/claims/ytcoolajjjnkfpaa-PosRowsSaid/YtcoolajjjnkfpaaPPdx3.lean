-- Written for this claim by a program (the kit's print, with hand-made contracts for what it does not take).
import Derived.Test.YtcoolajjjnkfpaaPPdx0
namespace Go.Proofs.Ytcoolajjjnkfpaa.PPd
open Go.RowKit Go.Proofs.YtcoolajjjnkfpaaW.PrintWords Go.Proofs.YtcoolajjjnkfpaaW.PrintLast Go.Proofs.YtcoolajjjnkfpaaW.PrintMore
attribute [local go_sem] max2_int min2_int max_two min_two max_three min_three max_four min_four   -- for this text's walks alone
set_option linter.unusedVariables false
set_option linter.unusedSimpArgs false

/-! ### pos_within: function 31 -/
def pos_within.f (a0_0 : Int) (a0_1 : Int) (a0_2 : Int) (a1 : Int) (a2 : Int) (a3 : Int) : Option (Int × Bool × Int × Int) := if a0_1 = 0 then (if a3 < 0 then (some (a1, false, (-1), 0)) else (some (wrap64 (a1 + a0_2), false, (-1), 0))) else (if a2 = a0_0 then (some (a1, false, (-1), 0)) else (if a2 = (wrap64 (a0_0 + a0_1)) then (some (wrap64 (a1 + a0_2), false, (-1), 0)) else (if a3 < 0 then (some (a1, true, (-1), 0)) else (some (wrap64 (a1 + a0_2), true, (-1), 0)))))
section
theorem pos_within.fin {w : World} {A S : Obj} {q0 q1 q2 q3 v : Value} {a : Act} (ht : a.tmps.getD 8 undef = .pointer (some ⟨w.heap.size + 1, 0, none⟩)) (hd : a.defers = []) (hv : v = .agg #[q0, q1, q2, q3]) :
    bodyPost Try.prog Try.f31 (fun e w' => e = .returned v ∧ Below w.heap.size w w') .ret a (((w.alloc A).alloc (.cells #[q0, q1, q2, q3] 24)).alloc S) := by
  subst hv
  have hb : (((w.alloc A).alloc (.cells #[q0, q1, q2, q3] 24)).alloc S).heap[w.heap.size + 1]? = some (.cells #[q0, q1, q2, q3] 24 (0, 0)) := by
    have := blk_new (w.alloc A) (.cells #[q0, q1, q2, q3] 24)
    rw [World.size_alloc] at this
    exact blk_alloc this _
  have hr := results_cell_row (fn := Try.f31) rfl a.tmps _ (w.heap.size + 1) 24 #[q0, q1, q2, q3] (0, 0) _ ht hb Try.underlying24 rfl (by kernel_rfl)
  exact bodyPost_ret hr hd ⟨rfl, below_alloc (below_alloc (below_alloc (Below.refl _ _) _) _) _⟩
set_option maxRecDepth 100000 in
set_option maxHeartbeats 4000000 in
theorem pos_within.calls (a0_0 : Int) (a0_1 : Int) (a0_2 : Int) (a1 : Int) (a2 : Int) (a3 : Int) (r1 : Int) (r2 : Bool) (r3 : Int) (r4 : Int) (w : World) (h : pos_within.f a0_0 a0_1 a0_2 a1 a2 a3 = some (r1, r2, r3, r4)) :
    Calls Try.prog 31 #[.agg #[.int .i64 a0_0, .int .i64 a0_1, .int .i64 a0_2], .int .i64 a1, .int .i64 a2, .int .i64 a3] w fun e w' => e = .returned (.agg #[.int .i64 r1, .bool r2, .int .i64 r3, .int .i64 r4]) ∧ Below w.heap.size w w' := by
  have hu37 := Try.underlying37
  have hu24 := Try.underlying24
  unfold pos_within.f at h
  refine (callsIn_wide (n := 1)).1 ?_
  refine callsIn_of_wp Try.func31 rfl trivial ?_ rfl
  simp only [Try.ntmps31, List.size_toArray, List.length_cons, List.length_nil, Nat.reduceAdd, Nat.reduceSub, Array.replicate_succ, Array.replicate_zero, List.push_toArray, List.append_toArray, List.nil_append, List.cons_append]
  have hx0 : (((w.alloc (.cells #[.int .i64 a0_0, .int .i64 a0_1, .int .i64 a0_2] 37)).alloc (.cells #[.int .i64 0, .bool false, .int .i64 0, .int .i64 0] 24)).alloc (.cells #[.int .i64 a1, .bool false, .int .i64 (-1), .int .i64 0] 24)).cell? ⟨w.heap.size, 0, none⟩ = some (.int .i64 a0_0) := (blk_cell (blk_alloc (blk_alloc (blk_new _ _) _) _) 0).trans rfl
  have hx1 : (((w.alloc (.cells #[.int .i64 a0_0, .int .i64 a0_1, .int .i64 a0_2] 37)).alloc (.cells #[.int .i64 0, .bool false, .int .i64 0, .int .i64 0] 24)).alloc (.cells #[.int .i64 a1, .bool false, .int .i64 (-1), .int .i64 0] 24)).cell? ⟨w.heap.size, 1, none⟩ = some (.int .i64 a0_1) := (blk_cell (blk_alloc (blk_alloc (blk_new _ _) _) _) 1).trans rfl
  have hx2 : (((w.alloc (.cells #[.int .i64 a0_0, .int .i64 a0_1, .int .i64 a0_2] 37)).alloc (.cells #[.int .i64 0, .bool false, .int .i64 0, .int .i64 0] 24)).alloc (.cells #[.int .i64 a1, .bool false, .int .i64 (-1), .int .i64 0] 24)).cell? ⟨w.heap.size, 2, none⟩ = some (.int .i64 a0_2) := (blk_cell (blk_alloc (blk_alloc (blk_new _ _) _) _) 2).trans rfl
  by_cases c5 : a0_1 = 0
  · rw [if_pos c5] at h
    have c5b : (a0_1 == 0) = true := beq_iff_eq.mpr c5
    clear c5
    by_cases c6 : a3 < 0
    · rw [if_pos c6] at h
      have c6b : decide (a3 < 0) = true := decide_eq_true c6
      clear c6
      simp only [Option.some.injEq, Prod.mk.injEq] at h
      obtain ⟨rfl, rfl, rfl, rfl⟩ := h
      gi_wp2
      exact pos_within.fin rfl rfl rfl
    · rw [if_neg c6] at h
      have c6b : decide (a3 < 0) = false := decide_eq_false c6
      clear c6
      simp only [Option.some.injEq, Prod.mk.injEq] at h
      obtain ⟨rfl, rfl, rfl, rfl⟩ := h
      gi_wp2
      exact pos_within.fin rfl rfl rfl
  · rw [if_neg c5] at h
    have c5b : (a0_1 == 0) = false := beq_eq_false_iff_ne.mpr c5
    clear c5
    by_cases c7 : a2 = a0_0
    · rw [if_pos c7] at h
      have c7b : (a2 == a0_0) = true := beq_iff_eq.mpr c7
      clear c7
      simp only [Option.some.injEq, Prod.mk.injEq] at h
      obtain ⟨rfl, rfl, rfl, rfl⟩ := h
      gi_wp2
      exact pos_within.fin rfl rfl rfl
    · rw [if_neg c7] at h
      have c7b : (a2 == a0_0) = false := beq_eq_false_iff_ne.mpr c7
      clear c7
      by_cases c8 : a2 = wrap64 (a0_0 + a0_1)
      · rw [if_pos c8] at h
        have c8b : (a2 == wrap64 (a0_0 + a0_1)) = true := beq_iff_eq.mpr c8
        clear c8
        simp only [Option.some.injEq, Prod.mk.injEq] at h
        obtain ⟨rfl, rfl, rfl, rfl⟩ := h
        gi_wp2
        exact pos_within.fin rfl rfl rfl
      · rw [if_neg c8] at h
        have c8b : (a2 == wrap64 (a0_0 + a0_1)) = false := beq_eq_false_iff_ne.mpr c8
        clear c8
        by_cases c6 : a3 < 0
        · rw [if_pos c6] at h
          have c6b : decide (a3 < 0) = true := decide_eq_true c6
          clear c6
          simp only [Option.some.injEq, Prod.mk.injEq] at h
          obtain ⟨rfl, rfl, rfl, rfl⟩ := h
          gi_wp2
          exact pos_within.fin rfl rfl rfl
        · rw [if_neg c6] at h
          have c6b : decide (a3 < 0) = false := decide_eq_false c6
          clear c6
          simp only [Option.some.injEq, Prod.mk.injEq] at h
          obtain ⟨rfl, rfl, rfl, rfl⟩ := h
          gi_wp2
          exact pos_within.fin rfl rfl rfl
end

end Go.Proofs.Ytcoolajjjnkfpaa.PPd
