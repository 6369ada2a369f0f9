-- Written for this claim by a program (the kit's print, with hand-made contracts for what it does not take).
import Derived.Test.YtlngjgcodknpiaaPSmx0
import Derived.Test.YtlngjgcodknpiaaPSmx3
import Derived.Test.YtlngjgcodknpiaaPSmx4
namespace Go.Proofs.Ytlngjgcodknpiaa.PSm
open Go.RowKit Go.Proofs.YtlngjgcodknpiaaW.PrintWords Go.Proofs.YtlngjgcodknpiaaW.PrintLast Go.Proofs.YtlngjgcodknpiaaW.PrintMore
attribute [local go_sem] max2_int min2_int max_two min_two max_three min_three max_four min_four   -- for this text's walks alone
set_option linter.unusedVariables false
set_option linter.unusedSimpArgs false

mutual
def step_Check.j0 : Nat → Bool → Int → Int → Int → Int → Int → Int → List (S57) → Int → Int → Int → Int → Int → Int → Int → Int → Option (Int)
|0, _, _, _, _, _, _, _, _, _, _, _, _, _, _, _, _ => none
|k + 1, x4, x111000, x111001, x111002, x111003, x111004, x111005, x111006, x111007, x112000, x112001, x112002, x112003, x112004, x112005, x112007 => if x111000 = 1 then (if x4 = true then (if x111001 ≤ x111003 then (if x111003 < x111004 then (if x111004 ≤ x111002 then (if x111005 ≥ 0 then (if x111005 ≤ (x111006.length : Int) then (step_Check.j1 k (x112007 == 0) x111000 x111001 x111002 x111003 x111004 x111005 x111006 x111007 x112000 x112001 x112002 0 0 0 x112007) else (step_Check.j1 k false x111000 x111001 x111002 x111003 x111004 x111005 x111006 x111007 x112000 x112001 x112002 0 0 0 x112007)) else (step_Check.j1 k false x111000 x111001 x111002 x111003 x111004 x111005 x111006 x111007 x112000 x112001 x112002 0 0 0 x112007)) else (step_Check.j1 k false x111000 x111001 x111002 x111003 x111004 x111005 x111006 x111007 x112000 x112001 x112002 0 0 0 x112007)) else (step_Check.j1 k false x111000 x111001 x111002 x111003 x111004 x111005 x111006 x111007 x112000 x112001 x112002 0 0 0 x112007)) else (step_Check.j1 k false x111000 x111001 x111002 x111003 x111004 x111005 x111006 x111007 x112000 x112001 x112002 0 0 0 x112007)) else (step_Check.j1 k false x111000 x111001 x111002 x111003 x111004 x111005 x111006 x111007 x112000 x112001 x112002 0 0 0 x112007)) else (if x111000 = 0 then (if x4 = true then (step_Check.j1 k (x112007 == 0) x111000 x111001 x111002 x111003 x111004 x111005 x111006 x111007 x112000 x112001 x112002 x112003 x112004 x112005 x112007) else (step_Check.j1 k false x111000 x111001 x111002 x111003 x111004 x111005 x111006 x111007 x112000 x112001 x112002 x112003 x112004 x112005 x112007)) else (if x111000 = 2 then (if x4 = true then (if x111001 < x111002 then ((mark_List.f k x111007).bind fun t112 => (if (t112.length : Int) = 1 then (step_Check.j1 k ((x111006.length : Int) == 0) x111000 x111001 x111002 x111003 x111004 x111005 x111006 x111007 x112000 x112001 x112002 x112003 x112004 x112005 x112007) else (step_Check.j1 k false x111000 x111001 x111002 x111003 x111004 x111005 x111006 x111007 x112000 x112001 x112002 x112003 x112004 x112005 x112007))) else (step_Check.j1 k false x111000 x111001 x111002 x111003 x111004 x111005 x111006 x111007 x112000 x112001 x112002 x112003 x112004 x112005 x112007)) else (step_Check.j1 k false x111000 x111001 x111002 x111003 x111004 x111005 x111006 x111007 x112000 x112001 x112002 x112003 x112004 x112005 x112007)) else (if x111000 = 3 then (if x4 = true then (if x111001 < x111002 then ((mark_List.f k x111007).bind fun t115 => (if (t115.length : Int) = 1 then (step_Check.j1 k ((x111006.length : Int) == 0) x111000 x111001 x111002 x111003 x111004 x111005 x111006 x111007 x112000 x112001 x112002 x112003 x112004 x112005 x112007) else (step_Check.j1 k false x111000 x111001 x111002 x111003 x111004 x111005 x111006 x111007 x112000 x112001 x112002 x112003 x112004 x112005 x112007))) else (step_Check.j1 k false x111000 x111001 x111002 x111003 x111004 x111005 x111006 x111007 x112000 x112001 x112002 x112003 x112004 x112005 x112007)) else (step_Check.j1 k false x111000 x111001 x111002 x111003 x111004 x111005 x111006 x111007 x112000 x112001 x112002 x112003 x112004 x112005 x112007)) else (step_Check.j1 k false x111000 x111001 x111002 x111003 x111004 x111005 x111006 x111007 x112000 x112001 x112002 x112003 x112004 x112005 x112007))))
def step_Check.j1 : Nat → Bool → Int → Int → Int → Int → Int → Int → List (S57) → Int → Int → Int → Int → Int → Int → Int → Int → Option (Int)
|0, _, _, _, _, _, _, _, _, _, _, _, _, _, _, _, _ => none
|k + 1, x4, x111000, x111001, x111002, x111003, x111004, x111005, x111006, x111007, x112000, x112001, x112002, x112003, x112004, x112005, x112007 => if x4 = true then (if x112003 = 0 then (if x112004 = 0 then (step_Check.j2 k (x112005 == 0) x111000 x111001 x111002 x111003 x111004 x111005 x111006 x111007) else (step_Check.j2 k false x111000 x111001 x111002 x111003 x111004 x111005 x111006 x111007)) else (step_Check.j2 k false x111000 x111001 x111002 x111003 x111004 x111005 x111006 x111007)) else (step_Check.j2 k false x111000 x111001 x111002 x111003 x111004 x111005 x111006 x111007)
def step_Check.j2 : Nat → Bool → Int → Int → Int → Int → Int → Int → List (S57) → Int → Option (Int)
|0, _, _, _, _, _, _, _, _, _ => none
|k + 1, x4, x111000, x111001, x111002, x111003, x111004, x111005, x111006, x111007 => step_Check.l0 k x4 x111006 (x111006.length : Int) 0
def step_Check.l0 : Nat → Bool → List (S57) → Int → Int → Option (Int)
|0, _, _, _, _ => none
|k + 1, x4, x121, x122, x123 => if x123 < x122 then (if 0 ≤ x123 then (if x123 < (x121.length : Int) then (if x4 = true then ((flat_Right.f ((rd_T57 x121 x123).f0) ((rd_T57 x121 x123).f1) ((rd_T57 x121 x123).f2) ((rd_T57 x121 x123).f3)).bind fun t120 => (step_Check.l0 k t120 x121 x122 (wrap64 (x123 + 1)))) else (step_Check.l0 k false x121 x122 (wrap64 (x123 + 1)))) else (none)) else (none)) else (if x4 = true then (some 0) else (some 1))
end
def step_Check.f (k : Nat) (a0_0 : Int) (a0_1 : Int) (a0_2 : Int) (a0_3 : Int) (a0_4 : Int) (a0_5 : Int) (l0_6 : List (S57)) (a0_7 : Int) : Option (Int) := if (l0_6.length : Int) > 2048 then (some 2) else (if a0_1 ≥ 0 then (if a0_1 ≤ a0_2 then (step_Check.j0 k (decide (a0_2 ≤ 2048)) a0_0 a0_1 a0_2 a0_3 a0_4 a0_5 l0_6 a0_7 a0_0 0 0 a0_3 a0_4 a0_5 a0_7) else (step_Check.j0 k false a0_0 a0_1 a0_2 a0_3 a0_4 a0_5 l0_6 a0_7 a0_0 0 0 a0_3 a0_4 a0_5 a0_7)) else (step_Check.j0 k false a0_0 a0_1 a0_2 a0_3 a0_4 a0_5 l0_6 a0_7 a0_0 0 0 a0_3 a0_4 a0_5 a0_7))
theorem step_Check.mono_l : ∀ k, (∀ y0 y1 y2 y3 y4 y5 y6 y7 y8 y9 y10 y11 y12 y13 y14 y15, LeO (step_Check.j0 k y0 y1 y2 y3 y4 y5 y6 y7 y8 y9 y10 y11 y12 y13 y14 y15) (step_Check.j0 (k + 1) y0 y1 y2 y3 y4 y5 y6 y7 y8 y9 y10 y11 y12 y13 y14 y15)) ∧ (∀ y0 y1 y2 y3 y4 y5 y6 y7 y8 y9 y10 y11 y12 y13 y14 y15, LeO (step_Check.j1 k y0 y1 y2 y3 y4 y5 y6 y7 y8 y9 y10 y11 y12 y13 y14 y15) (step_Check.j1 (k + 1) y0 y1 y2 y3 y4 y5 y6 y7 y8 y9 y10 y11 y12 y13 y14 y15)) ∧ (∀ y0 y1 y2 y3 y4 y5 y6 y7 y8, LeO (step_Check.j2 k y0 y1 y2 y3 y4 y5 y6 y7 y8) (step_Check.j2 (k + 1) y0 y1 y2 y3 y4 y5 y6 y7 y8)) ∧ (∀ y0 y1 y2 y3, LeO (step_Check.l0 k y0 y1 y2 y3) (step_Check.l0 (k + 1) y0 y1 y2 y3))
|0 => ⟨fun _ _ _ _ _ _ _ _ _ _ _ _ _ _ _ _ r h => by simp [step_Check.j0] at h, fun _ _ _ _ _ _ _ _ _ _ _ _ _ _ _ _ r h => by simp [step_Check.j1] at h, fun _ _ _ _ _ _ _ _ _ r h => by simp [step_Check.j2] at h, fun _ _ _ _ r h => by simp [step_Check.l0] at h⟩
|k + 1 => by
  obtain ⟨ih0, ih1, ih2, ih3⟩ := step_Check.mono_l k
  refine ⟨?_, ?_, ?_, ?_⟩
  ·intro y0 y1 y2 y3 y4 y5 y6 y7 y8 y9 y10 y11 y12 y13 y14 y15
   unfold step_Check.j0
   repeat' first
  |(with_reducible exact ih0 _ _ _ _ _ _ _ _ _ _ _ _ _ _ _ _)
  |(with_reducible exact ih1 _ _ _ _ _ _ _ _ _ _ _ _ _ _ _ _)
  |(with_reducible exact ih2 _ _ _ _ _ _ _ _ _)
  |(with_reducible exact ih3 _ _ _ _)
  |(with_reducible exact mark_List.mono _ _)
  |(with_reducible exact LeO.refl _)
  |(with_reducible exact LeO.none _)
  |(with_reducible refine LeO.ite ?_ ?_)
  |(with_reducible refine LeO.bind ?_ (fun _ => ?_))
  |exact ih0 _ _ _ _ _ _ _ _ _ _ _ _ _ _ _ _
  |exact ih1 _ _ _ _ _ _ _ _ _ _ _ _ _ _ _ _
  |exact ih2 _ _ _ _ _ _ _ _ _
  |exact ih3 _ _ _ _
  |exact mark_List.mono _ _
  |exact LeO.none _
  |refine LeO.ite ?_ ?_
  |refine LeO.bind ?_ (fun _ => ?_)
  ·intro y0 y1 y2 y3 y4 y5 y6 y7 y8 y9 y10 y11 y12 y13 y14 y15
   unfold step_Check.j1
   repeat' first
  |(with_reducible exact ih0 _ _ _ _ _ _ _ _ _ _ _ _ _ _ _ _)
  |(with_reducible exact ih1 _ _ _ _ _ _ _ _ _ _ _ _ _ _ _ _)
  |(with_reducible exact ih2 _ _ _ _ _ _ _ _ _)
  |(with_reducible exact ih3 _ _ _ _)
  |(with_reducible exact mark_List.mono _ _)
  |(with_reducible exact LeO.refl _)
  |(with_reducible exact LeO.none _)
  |(with_reducible refine LeO.ite ?_ ?_)
  |(with_reducible refine LeO.bind ?_ (fun _ => ?_))
  |exact ih0 _ _ _ _ _ _ _ _ _ _ _ _ _ _ _ _
  |exact ih1 _ _ _ _ _ _ _ _ _ _ _ _ _ _ _ _
  |exact ih2 _ _ _ _ _ _ _ _ _
  |exact ih3 _ _ _ _
  |exact mark_List.mono _ _
  |exact LeO.none _
  |refine LeO.ite ?_ ?_
  |refine LeO.bind ?_ (fun _ => ?_)
  ·intro y0 y1 y2 y3 y4 y5 y6 y7 y8
   unfold step_Check.j2
   repeat' first
  |(with_reducible exact ih0 _ _ _ _ _ _ _ _ _ _ _ _ _ _ _ _)
  |(with_reducible exact ih1 _ _ _ _ _ _ _ _ _ _ _ _ _ _ _ _)
  |(with_reducible exact ih2 _ _ _ _ _ _ _ _ _)
  |(with_reducible exact ih3 _ _ _ _)
  |(with_reducible exact mark_List.mono _ _)
  |(with_reducible exact LeO.refl _)
  |(with_reducible exact LeO.none _)
  |(with_reducible refine LeO.ite ?_ ?_)
  |(with_reducible refine LeO.bind ?_ (fun _ => ?_))
  |exact ih0 _ _ _ _ _ _ _ _ _ _ _ _ _ _ _ _
  |exact ih1 _ _ _ _ _ _ _ _ _ _ _ _ _ _ _ _
  |exact ih2 _ _ _ _ _ _ _ _ _
  |exact ih3 _ _ _ _
  |exact mark_List.mono _ _
  |exact LeO.none _
  |refine LeO.ite ?_ ?_
  |refine LeO.bind ?_ (fun _ => ?_)
  ·intro y0 y1 y2 y3
   unfold step_Check.l0
   repeat' first
  |(with_reducible exact ih0 _ _ _ _ _ _ _ _ _ _ _ _ _ _ _ _)
  |(with_reducible exact ih1 _ _ _ _ _ _ _ _ _ _ _ _ _ _ _ _)
  |(with_reducible exact ih2 _ _ _ _ _ _ _ _ _)
  |(with_reducible exact ih3 _ _ _ _)
  |(with_reducible exact mark_List.mono _ _)
  |(with_reducible exact LeO.refl _)
  |(with_reducible exact LeO.none _)
  |(with_reducible refine LeO.ite ?_ ?_)
  |(with_reducible refine LeO.bind ?_ (fun _ => ?_))
  |exact ih0 _ _ _ _ _ _ _ _ _ _ _ _ _ _ _ _
  |exact ih1 _ _ _ _ _ _ _ _ _ _ _ _ _ _ _ _
  |exact ih2 _ _ _ _ _ _ _ _ _
  |exact ih3 _ _ _ _
  |exact mark_List.mono _ _
  |exact LeO.none _
  |refine LeO.ite ?_ ?_
  |refine LeO.bind ?_ (fun _ => ?_)
theorem step_Check.mono : ∀ a0 a1 a2 a3 a4 a5 a6 a7 k, LeO (step_Check.f k a0 a1 a2 a3 a4 a5 a6 a7) (step_Check.f (k + 1) a0 a1 a2 a3 a4 a5 a6 a7) := by
 intro a0 a1 a2 a3 a4 a5 a6 a7 k
 obtain ⟨ih0, ih1, ih2, ih3⟩ := step_Check.mono_l k
 unfold step_Check.f
 repeat' first
  |(with_reducible exact ih0 _ _ _ _ _ _ _ _ _ _ _ _ _ _ _ _)
  |(with_reducible exact ih1 _ _ _ _ _ _ _ _ _ _ _ _ _ _ _ _)
  |(with_reducible exact ih2 _ _ _ _ _ _ _ _ _)
  |(with_reducible exact ih3 _ _ _ _)
  |(with_reducible exact mark_List.mono _ _)
  |(with_reducible exact LeO.refl _)
  |(with_reducible exact LeO.none _)
  |(with_reducible refine LeO.ite ?_ ?_)
  |(with_reducible refine LeO.bind ?_ (fun _ => ?_))
  |exact ih0 _ _ _ _ _ _ _ _ _ _ _ _ _ _ _ _
  |exact ih1 _ _ _ _ _ _ _ _ _ _ _ _ _ _ _ _
  |exact ih2 _ _ _ _ _ _ _ _ _
  |exact ih3 _ _ _ _
  |exact mark_List.mono _ _
  |exact LeO.none _
  |refine LeO.ite ?_ ?_
  |refine LeO.bind ?_ (fun _ => ?_)
set_option maxHeartbeats 8000000 in
set_option maxRecDepth 100000 in
theorem step_Check.calls (k : Nat) (a0_0 : Int) (a0_1 : Int) (a0_2 : Int) (a0_3 : Int) (a0_4 : Int) (a0_5 : Int) (A0_6 : Option Addr) (c0_6 : Nat) (l0_6 : List (S57)) (a0_7 : Int) (r : Int) (w : World) (hr0_6 : Kd.C k57 w A0_6 l0_6.length l0_6) (hc0_6 : l0_6.length ≤ c0_6) (h : step_Check.f k a0_0 a0_1 a0_2 a0_3 a0_4 a0_5 l0_6 a0_7 = some r) :
  Calls Try.prog 21 #[.agg #[.int .i64 a0_0, .int .i64 a0_1, .int .i64 a0_2, .int .i64 a0_3, .int .i64 a0_4, .int .i64 a0_5, .slice A0_6 l0_6.length c0_6, .int .i64 a0_7]] w fun e w' => e = .returned (.int .i64 r) ∧ Below w.heap.size w w' := by
 have hu24 := Try.underlying24
 have hu57 := Try.underlying57
 have HR0_6 := aM hr0_6
 have HC0_6 := aM hc0_6
 clear hr0_6 hc0_6
 have HB := aM (Below.refl w.heap.size w)
 have H : (if (l0_6.length : Int) > 2048 then (some 2) else (if a0_1 ≥ 0 then (if a0_1 ≤ a0_2 then (step_Check.j0 k (decide (a0_2 ≤ 2048)) a0_0 a0_1 a0_2 a0_3 a0_4 a0_5 l0_6 a0_7 a0_0 0 0 a0_3 a0_4 a0_5 a0_7) else (step_Check.j0 k false a0_0 a0_1 a0_2 a0_3 a0_4 a0_5 l0_6 a0_7 a0_0 0 0 a0_3 a0_4 a0_5 a0_7)) else (step_Check.j0 k false a0_0 a0_1 a0_2 a0_3 a0_4 a0_5 l0_6 a0_7 a0_0 0 0 a0_3 a0_4 a0_5 a0_7))) = some r := h
 clear h
 by_cases c2 : (l0_6.length : Int) > 2048
 ·rw [if_pos c2] at H
  have c2b0 : decide (2048 < (l0_6.length : Int)) = true := decide_eq_true c2
  have c2b1 : decide (2048 < l0_6.length) = true := decide_eq_true (by omega)
  clear c2
  obtain rfl := Option.some.inj H
  go_enter Try.func21, Try.ntmps21
  go_wp2_with (first|((with_reducible refine gate_dst (N := 1) rfl ?_); (try (refine gate_guard (by rfl) ?_; dsimp only)); refine box_event ?hg (N := 1) ?hd (cs := #[.int .i64 a0_0, .int .i64 a0_1, .int .i64 a0_2, .int .i64 a0_3, .int .i64 a0_4, .int .i64 a0_5, .slice A0_6 l0_6.length c0_6, .int .i64 a0_7]) (t := 24) ?hr ?_; (case hd => rfl); (case hg => rfl); (case hr => first|(go_simp; done)|(go_simp; rfl)); intro gb110 hg w3 hbox hb; have hB_ := (by repeat (first|(with_reducible first|exact HB.out|apply lA|apply lN|apply lD)|exact HB.out) : Below w.heap.size w _); replace HB := aM (below_step hB_ hb); replace BK110 := aM (hbox); replace GW110 := aM ((bsz hg hB_)); replace GE110 := aM ((bsz hg hB_)); clear hb hbox hg hB_; obtain ⟨hcz4_0, hcz4_1, hcz4_2, hcz4_3, hcz4_4, hcz4_5, hcz4_6, hcz4_7, hfz4_0, hfz4_1, hfz4_2, hfz4_3, hfz4_4, hfz4_5, hfz4_6, hfz4_7⟩ := bx8z BK110.out))
  go_ret
  exact ⟨by first|rfl|(simp [errW_none, errW_some] <;> rfl)|(simp [*, errW_none, errW_some] <;> rfl), by repeat (first|(with_reducible first|exact HB.out|apply lA|apply lN|apply lD|refine lS ?_ GE110.out)|exact HB.out)⟩
 ·rw [if_neg c2] at H
  have c2b0 : decide (2048 < (l0_6.length : Int)) = false := decide_eq_false c2
  have c2b1 : decide (2048 < l0_6.length) = false := decide_eq_false (by omega)
  clear c2
  have HC5 := aM H
  clear H
  go_enter Try.func21, Try.ntmps21
  go_upto_region 5 with (first|((with_reducible refine gate_dst (N := 1) rfl ?_); (try (refine gate_guard (by rfl) ?_; dsimp only)); refine box_event ?hg (N := 1) ?hd (cs := #[.int .i64 a0_0, .int .i64 a0_1, .int .i64 a0_2, .int .i64 a0_3, .int .i64 a0_4, .int .i64 a0_5, .slice A0_6 l0_6.length c0_6, .int .i64 a0_7]) (t := 24) ?hr ?_; (case hd => rfl); (case hg => rfl); (case hr => first|(go_simp; done)|(go_simp; rfl)); intro gb110 hg w6 hbox hb; have hB_ := (by repeat (first|(with_reducible first|exact HB.out|apply lA|apply lN|apply lD)|exact HB.out) : Below w.heap.size w _); replace HB := aM (below_step hB_ hb); replace BK110 := aM (hbox); replace GW110 := aM ((bsz hg hB_)); replace GE110 := aM ((bsz hg hB_)); clear hb hbox hg hB_; obtain ⟨hcz7_0, hcz7_1, hcz7_2, hcz7_3, hcz7_4, hcz7_5, hcz7_6, hcz7_7, hfz7_0, hfz7_1, hfz7_2, hfz7_3, hfz7_4, hfz7_5, hfz7_6, hfz7_7⟩ := bx8z BK110.out)|((with_reducible refine gate_dst (N := 3) rfl ?_); (try (refine gate_guard (by rfl) ?_; dsimp only)); refine box_event ?hg (N := 3) ?hd (cs := #[.int .i64 0, .int .i64 0, .int .i64 0, .int .i64 0, .int .i64 0, .int .i64 0, .slice none 0 0, .int .i64 0]) (t := 24) ?hr ?_; (case hd => rfl); (case hg => rfl); (case hr => first|(go_simp; done)|(go_simp; rfl)); intro gb111 hg w8 hbox hb; replace BK111 := aM (hbox); replace GW111 := aM ((by rw [hg]; exact (below_size (by repeat (first|(with_reducible first|exact HB.out|apply lA|apply lN|apply lD|refine lS ?_ GE110.out)|exact HB.out))) : w.heap.size ≤ gb111)); replace GE111 := aM ((by rw [hg]; exact (below_size (by repeat (first|(with_reducible first|exact HB.out|apply lA|apply lN|apply lD|refine lS ?_ GE110.out)|exact HB.out))) : w.heap.size ≤ gb111)); replace HB := aM (below_step (by repeat (first|(with_reducible first|exact HB.out|apply lA|apply lN|apply lD|refine lS ?_ GE110.out)|exact HB.out)) hb); replace NB110_111 := aM ((by rw [hg]; exact Nat.ne_of_lt (blk_lt (g := gb110) (o := .cells #[.int .i64 a0_0, .int .i64 a0_1, .int .i64 a0_2, .int .i64 a0_3, .int .i64 a0_4, .int .i64 a0_5, .slice A0_6 l0_6.length c0_6, .int .i64 a0_7] 24 (0, 0)) (by (with_reducible repeat (first|refine bN ?_ _|refine bD ?_|refine bA ?_ _)); exact BK110.out)) : gb110 ≠ gb111)); replace NB111_110 := aM ((by rw [hg]; exact Nat.ne_of_gt (blk_lt (g := gb110) (o := .cells #[.int .i64 a0_0, .int .i64 a0_1, .int .i64 a0_2, .int .i64 a0_3, .int .i64 a0_4, .int .i64 a0_5, .slice A0_6 l0_6.length c0_6, .int .i64 a0_7] 24 (0, 0)) (by (with_reducible repeat (first|refine bN ?_ _|refine bD ?_|refine bA ?_ _)); exact BK110.out)) : gb111 ≠ gb110)); replace BK110 := aM (blk_below (by (with_reducible repeat (first|refine bN ?_ _|refine bD ?_|refine bA ?_ _)); exact BK110.out) hb); clear hb hbox hg; have hnb9 := NB111_110.out; have hnc9 := NB110_111.out; obtain ⟨hcz10_0, hcz10_1, hcz10_2, hcz10_3, hcz10_4, hcz10_5, hcz10_6, hcz10_7, hfz10_0, hfz10_1, hfz10_2, hfz10_3, hfz10_4, hfz10_5, hfz10_6, hfz10_7⟩ := bx8z BK111.out))
  (try simp only [Act.put, List.setIfInBounds_toArray, List.set_cons_zero, List.set_cons_succ])
  go_cut [4] (fun v4 wc => ∃ (kq : Nat) (x4_4 : Bool), v4 = .bool x4_4 ∧ Aside0 (step_Check.j0 kq x4_4 a0_0 a0_1 a0_2 a0_3 a0_4 a0_5 l0_6 a0_7 a0_0 0 0 a0_3 a0_4 a0_5 a0_7 = some r) ∧ Aside0 (kq ≤ k) ∧ Aside0 (wc.heap[gb110]? = some (.cells #[.int .i64 a0_0, .int .i64 a0_1, .int .i64 a0_2, .int .i64 a0_3, .int .i64 a0_4, .int .i64 a0_5, (.slice A0_6 l0_6.length c0_6), .int .i64 a0_7] 24 (0, 0))) ∧ Aside0 (wc.heap[gb111]? = some (.cells #[.int .i64 a0_0, .int .i64 0, .int .i64 0, .int .i64 a0_3, .int .i64 a0_4, .int .i64 a0_5, (.slice none 0 0), .int .i64 a0_7] 24 (0, 0))) ∧ Aside0 (Below w.heap.size w wc))
  case first =>
   have H := HC5.out
   clear HC5
   by_cases c11 : a0_1 ≥ 0
   ·rw [if_pos c11] at H
    have c11b0 : decide (0 ≤ a0_1) = true := decide_eq_true c11
    clear c11
    (first|rw [c11b0]|(simp only [i64_w, i32_w]; rw [c11b0])|skip)
    by_cases c12 : a0_1 ≤ a0_2
    ·rw [if_pos c12] at H
     have c12b0 : decide (a0_1 ≤ a0_2) = true := decide_eq_true c12
     clear c12
     have H' := aM H
     clear H
     have hnb13 := NB110_111.out
     have hnc13 := NB111_110.out
     obtain ⟨hcz14_0, hcz14_1, hcz14_2, hcz14_3, hcz14_4, hcz14_5, hcz14_6, hcz14_7, hfz14_0, hfz14_1, hfz14_2, hfz14_3, hfz14_4, hfz14_5, hfz14_6, hfz14_7⟩ := bx8z BK110.out
     go_wp2
     go_meet
     case rel => exact ⟨_, (decide (a0_2 ≤ 2048)), (by first|rfl|(simp; done)|(simp [*]; done)), H', ⟨by first|omega|exact Nat.le_refl _⟩, ⟨by (with_reducible repeat (first|refine bN ?_ _|refine bD ?_|refine bA ?_ _)); refine far8 ?_ NB110_111.out; (with_reducible repeat (first|refine bN ?_ _|refine bD ?_|refine bA ?_ _)); refine far3 ?_ NB110_111.out; (with_reducible repeat (first|refine bN ?_ _|refine bD ?_|refine bA ?_ _)); exact BK110.out⟩, ⟨by (with_reducible repeat (first|refine bN ?_ _|refine bD ?_|refine bA ?_ _)); refine blk_put (cs := #[.int .i64 a0_0, .int .i64 0, .int .i64 a0_2, .int .i64 a0_3, .int .i64 a0_4, .int .i64 a0_5, .slice none 0 0, .int .i64 a0_7]) ?_ 2 _ rfl; (with_reducible repeat (first|refine bN ?_ _|refine bD ?_|refine bA ?_ _)); refine blk_put (cs := #[.int .i64 a0_0, .int .i64 a0_1, .int .i64 a0_2, .int .i64 a0_3, .int .i64 a0_4, .int .i64 a0_5, .slice none 0 0, .int .i64 a0_7]) ?_ 1 _ rfl; (with_reducible repeat (first|refine bN ?_ _|refine bD ?_|refine bA ?_ _)); refine blk_put (cs := #[.int .i64 a0_0, .int .i64 a0_1, .int .i64 a0_2, .int .i64 a0_3, .int .i64 a0_4, .int .i64 a0_5, .slice A0_6 l0_6.length c0_6, .int .i64 a0_7]) ?_ 6 _ rfl; (with_reducible repeat (first|refine bN ?_ _|refine bD ?_|refine bA ?_ _)); refine blk_put (cs := #[.int .i64 a0_0, .int .i64 a0_1, .int .i64 a0_2, .int .i64 a0_3, .int .i64 a0_4, .int .i64 a0_5, .slice A0_6 l0_6.length c0_6, .int .i64 0]) ?_ 7 _ rfl; (with_reducible repeat (first|refine bN ?_ _|refine bD ?_|refine bA ?_ _)); refine blk_put (cs := #[.int .i64 a0_0, .int .i64 a0_1, .int .i64 a0_2, .int .i64 a0_3, .int .i64 a0_4, .int .i64 a0_5, .slice none 0 0, .int .i64 0]) ?_ 6 _ rfl; (with_reducible repeat (first|refine bN ?_ _|refine bD ?_|refine bA ?_ _)); refine blk_put (cs := #[.int .i64 a0_0, .int .i64 a0_1, .int .i64 a0_2, .int .i64 a0_3, .int .i64 a0_4, .int .i64 0, .slice none 0 0, .int .i64 0]) ?_ 5 _ rfl; (with_reducible repeat (first|refine bN ?_ _|refine bD ?_|refine bA ?_ _)); refine blk_put (cs := #[.int .i64 a0_0, .int .i64 a0_1, .int .i64 a0_2, .int .i64 a0_3, .int .i64 0, .int .i64 0, .slice none 0 0, .int .i64 0]) ?_ 4 _ rfl; (with_reducible repeat (first|refine bN ?_ _|refine bD ?_|refine bA ?_ _)); refine blk_put (cs := #[.int .i64 a0_0, .int .i64 a0_1, .int .i64 a0_2, .int .i64 0, .int .i64 0, .int .i64 0, .slice none 0 0, .int .i64 0]) ?_ 3 _ rfl; (with_reducible repeat (first|refine bN ?_ _|refine bD ?_|refine bA ?_ _)); refine blk_put (cs := #[.int .i64 a0_0, .int .i64 a0_1, .int .i64 0, .int .i64 0, .int .i64 0, .int .i64 0, .slice none 0 0, .int .i64 0]) ?_ 2 _ rfl; (with_reducible repeat (first|refine bN ?_ _|refine bD ?_|refine bA ?_ _)); refine blk_put (cs := #[.int .i64 a0_0, .int .i64 0, .int .i64 0, .int .i64 0, .int .i64 0, .int .i64 0, .slice none 0 0, .int .i64 0]) ?_ 1 _ rfl; (with_reducible repeat (first|refine bN ?_ _|refine bD ?_|refine bA ?_ _)); refine blk_put (cs := #[.int .i64 0, .int .i64 0, .int .i64 0, .int .i64 0, .int .i64 0, .int .i64 0, .slice none 0 0, .int .i64 0]) ?_ 0 _ rfl; (with_reducible repeat (first|refine bN ?_ _|refine bD ?_|refine bA ?_ _)); exact BK111.out⟩, ⟨by repeat (first|(with_reducible first|exact HB.out|apply lA|apply lN|apply lD|refine lS ?_ GE110.out|refine lS ?_ GE111.out)|exact HB.out)⟩⟩
    ·rw [if_neg c12] at H
     have c12b0 : decide (a0_1 ≤ a0_2) = false := decide_eq_false c12
     clear c12
     have H' := aM H
     clear H
     have hnb15 := NB110_111.out
     have hnc15 := NB111_110.out
     obtain ⟨hcz16_0, hcz16_1, hcz16_2, hcz16_3, hcz16_4, hcz16_5, hcz16_6, hcz16_7, hfz16_0, hfz16_1, hfz16_2, hfz16_3, hfz16_4, hfz16_5, hfz16_6, hfz16_7⟩ := bx8z BK110.out
     go_wp2
     go_meet
     case rel => exact ⟨_, (false), (by first|rfl|(simp; done)|(simp [*]; done)), H', ⟨by first|omega|exact Nat.le_refl _⟩, ⟨by (with_reducible repeat (first|refine bN ?_ _|refine bD ?_|refine bA ?_ _)); refine far8 ?_ NB110_111.out; (with_reducible repeat (first|refine bN ?_ _|refine bD ?_|refine bA ?_ _)); refine far3 ?_ NB110_111.out; (with_reducible repeat (first|refine bN ?_ _|refine bD ?_|refine bA ?_ _)); exact BK110.out⟩, ⟨by (with_reducible repeat (first|refine bN ?_ _|refine bD ?_|refine bA ?_ _)); refine blk_put (cs := #[.int .i64 a0_0, .int .i64 0, .int .i64 a0_2, .int .i64 a0_3, .int .i64 a0_4, .int .i64 a0_5, .slice none 0 0, .int .i64 a0_7]) ?_ 2 _ rfl; (with_reducible repeat (first|refine bN ?_ _|refine bD ?_|refine bA ?_ _)); refine blk_put (cs := #[.int .i64 a0_0, .int .i64 a0_1, .int .i64 a0_2, .int .i64 a0_3, .int .i64 a0_4, .int .i64 a0_5, .slice none 0 0, .int .i64 a0_7]) ?_ 1 _ rfl; (with_reducible repeat (first|refine bN ?_ _|refine bD ?_|refine bA ?_ _)); refine blk_put (cs := #[.int .i64 a0_0, .int .i64 a0_1, .int .i64 a0_2, .int .i64 a0_3, .int .i64 a0_4, .int .i64 a0_5, .slice A0_6 l0_6.length c0_6, .int .i64 a0_7]) ?_ 6 _ rfl; (with_reducible repeat (first|refine bN ?_ _|refine bD ?_|refine bA ?_ _)); refine blk_put (cs := #[.int .i64 a0_0, .int .i64 a0_1, .int .i64 a0_2, .int .i64 a0_3, .int .i64 a0_4, .int .i64 a0_5, .slice A0_6 l0_6.length c0_6, .int .i64 0]) ?_ 7 _ rfl; (with_reducible repeat (first|refine bN ?_ _|refine bD ?_|refine bA ?_ _)); refine blk_put (cs := #[.int .i64 a0_0, .int .i64 a0_1, .int .i64 a0_2, .int .i64 a0_3, .int .i64 a0_4, .int .i64 a0_5, .slice none 0 0, .int .i64 0]) ?_ 6 _ rfl; (with_reducible repeat (first|refine bN ?_ _|refine bD ?_|refine bA ?_ _)); refine blk_put (cs := #[.int .i64 a0_0, .int .i64 a0_1, .int .i64 a0_2, .int .i64 a0_3, .int .i64 a0_4, .int .i64 0, .slice none 0 0, .int .i64 0]) ?_ 5 _ rfl; (with_reducible repeat (first|refine bN ?_ _|refine bD ?_|refine bA ?_ _)); refine blk_put (cs := #[.int .i64 a0_0, .int .i64 a0_1, .int .i64 a0_2, .int .i64 a0_3, .int .i64 0, .int .i64 0, .slice none 0 0, .int .i64 0]) ?_ 4 _ rfl; (with_reducible repeat (first|refine bN ?_ _|refine bD ?_|refine bA ?_ _)); refine blk_put (cs := #[.int .i64 a0_0, .int .i64 a0_1, .int .i64 a0_2, .int .i64 0, .int .i64 0, .int .i64 0, .slice none 0 0, .int .i64 0]) ?_ 3 _ rfl; (with_reducible repeat (first|refine bN ?_ _|refine bD ?_|refine bA ?_ _)); refine blk_put (cs := #[.int .i64 a0_0, .int .i64 a0_1, .int .i64 0, .int .i64 0, .int .i64 0, .int .i64 0, .slice none 0 0, .int .i64 0]) ?_ 2 _ rfl; (with_reducible repeat (first|refine bN ?_ _|refine bD ?_|refine bA ?_ _)); refine blk_put (cs := #[.int .i64 a0_0, .int .i64 0, .int .i64 0, .int .i64 0, .int .i64 0, .int .i64 0, .slice none 0 0, .int .i64 0]) ?_ 1 _ rfl; (with_reducible repeat (first|refine bN ?_ _|refine bD ?_|refine bA ?_ _)); refine blk_put (cs := #[.int .i64 0, .int .i64 0, .int .i64 0, .int .i64 0, .int .i64 0, .int .i64 0, .slice none 0 0, .int .i64 0]) ?_ 0 _ rfl; (with_reducible repeat (first|refine bN ?_ _|refine bD ?_|refine bA ?_ _)); exact BK111.out⟩, ⟨by repeat (first|(with_reducible first|exact HB.out|apply lA|apply lN|apply lD|refine lS ?_ GE110.out|refine lS ?_ GE111.out)|exact HB.out)⟩⟩
   ·rw [if_neg c11] at H
    have c11b0 : decide (0 ≤ a0_1) = false := decide_eq_false c11
    clear c11
    (first|rw [c11b0]|(simp only [i64_w, i32_w]; rw [c11b0])|skip)
    have H' := aM H
    clear H
    have hnb17 := NB110_111.out
    have hnc17 := NB111_110.out
    obtain ⟨hcz18_0, hcz18_1, hcz18_2, hcz18_3, hcz18_4, hcz18_5, hcz18_6, hcz18_7, hfz18_0, hfz18_1, hfz18_2, hfz18_3, hfz18_4, hfz18_5, hfz18_6, hfz18_7⟩ := bx8z BK110.out
    go_wp2
    go_meet
    case rel => exact ⟨_, (false), (by first|rfl|(simp; done)|(simp [*]; done)), H', ⟨by first|omega|exact Nat.le_refl _⟩, ⟨by (with_reducible repeat (first|refine bN ?_ _|refine bD ?_|refine bA ?_ _)); refine far8 ?_ NB110_111.out; (with_reducible repeat (first|refine bN ?_ _|refine bD ?_|refine bA ?_ _)); refine far3 ?_ NB110_111.out; (with_reducible repeat (first|refine bN ?_ _|refine bD ?_|refine bA ?_ _)); exact BK110.out⟩, ⟨by (with_reducible repeat (first|refine bN ?_ _|refine bD ?_|refine bA ?_ _)); refine blk_put (cs := #[.int .i64 a0_0, .int .i64 0, .int .i64 a0_2, .int .i64 a0_3, .int .i64 a0_4, .int .i64 a0_5, .slice none 0 0, .int .i64 a0_7]) ?_ 2 _ rfl; (with_reducible repeat (first|refine bN ?_ _|refine bD ?_|refine bA ?_ _)); refine blk_put (cs := #[.int .i64 a0_0, .int .i64 a0_1, .int .i64 a0_2, .int .i64 a0_3, .int .i64 a0_4, .int .i64 a0_5, .slice none 0 0, .int .i64 a0_7]) ?_ 1 _ rfl; (with_reducible repeat (first|refine bN ?_ _|refine bD ?_|refine bA ?_ _)); refine blk_put (cs := #[.int .i64 a0_0, .int .i64 a0_1, .int .i64 a0_2, .int .i64 a0_3, .int .i64 a0_4, .int .i64 a0_5, .slice A0_6 l0_6.length c0_6, .int .i64 a0_7]) ?_ 6 _ rfl; (with_reducible repeat (first|refine bN ?_ _|refine bD ?_|refine bA ?_ _)); refine blk_put (cs := #[.int .i64 a0_0, .int .i64 a0_1, .int .i64 a0_2, .int .i64 a0_3, .int .i64 a0_4, .int .i64 a0_5, .slice A0_6 l0_6.length c0_6, .int .i64 0]) ?_ 7 _ rfl; (with_reducible repeat (first|refine bN ?_ _|refine bD ?_|refine bA ?_ _)); refine blk_put (cs := #[.int .i64 a0_0, .int .i64 a0_1, .int .i64 a0_2, .int .i64 a0_3, .int .i64 a0_4, .int .i64 a0_5, .slice none 0 0, .int .i64 0]) ?_ 6 _ rfl; (with_reducible repeat (first|refine bN ?_ _|refine bD ?_|refine bA ?_ _)); refine blk_put (cs := #[.int .i64 a0_0, .int .i64 a0_1, .int .i64 a0_2, .int .i64 a0_3, .int .i64 a0_4, .int .i64 0, .slice none 0 0, .int .i64 0]) ?_ 5 _ rfl; (with_reducible repeat (first|refine bN ?_ _|refine bD ?_|refine bA ?_ _)); refine blk_put (cs := #[.int .i64 a0_0, .int .i64 a0_1, .int .i64 a0_2, .int .i64 a0_3, .int .i64 0, .int .i64 0, .slice none 0 0, .int .i64 0]) ?_ 4 _ rfl; (with_reducible repeat (first|refine bN ?_ _|refine bD ?_|refine bA ?_ _)); refine blk_put (cs := #[.int .i64 a0_0, .int .i64 a0_1, .int .i64 a0_2, .int .i64 0, .int .i64 0, .int .i64 0, .slice none 0 0, .int .i64 0]) ?_ 3 _ rfl; (with_reducible repeat (first|refine bN ?_ _|refine bD ?_|refine bA ?_ _)); refine blk_put (cs := #[.int .i64 a0_0, .int .i64 a0_1, .int .i64 0, .int .i64 0, .int .i64 0, .int .i64 0, .slice none 0 0, .int .i64 0]) ?_ 2 _ rfl; (with_reducible repeat (first|refine bN ?_ _|refine bD ?_|refine bA ?_ _)); refine blk_put (cs := #[.int .i64 a0_0, .int .i64 0, .int .i64 0, .int .i64 0, .int .i64 0, .int .i64 0, .slice none 0 0, .int .i64 0]) ?_ 1 _ rfl; (with_reducible repeat (first|refine bN ?_ _|refine bD ?_|refine bA ?_ _)); refine blk_put (cs := #[.int .i64 0, .int .i64 0, .int .i64 0, .int .i64 0, .int .i64 0, .int .i64 0, .slice none 0 0, .int .i64 0]) ?_ 0 _ rfl; (with_reducible repeat (first|refine bN ?_ _|refine bD ?_|refine bA ?_ _)); exact BK111.out⟩, ⟨by repeat (first|(with_reducible first|exact HB.out|apply lA|apply lN|apply lD|refine lS ?_ GE110.out|refine lS ?_ GE111.out)|exact HB.out)⟩⟩
  case rest =>
   clear HC5
   obtain ⟨kq, x4_4, rfl, HA, HJ4, BK110, BK111, HB⟩ := hcut
   cases kq with
  |zero => exact absurd HA.out (by simp [step_Check.j0])
  |succ kj4 =>
    have H := HA.out
    clear HA
    simp only [step_Check.j0] at H
    have HC19 := aM H
    clear H
    have hnb20 := NB110_111.out
    have hnc20 := NB111_110.out
    obtain ⟨hcz21_0, hcz21_1, hcz21_2, hcz21_3, hcz21_4, hcz21_5, hcz21_6, hcz21_7, hfz21_0, hfz21_1, hfz21_2, hfz21_3, hfz21_4, hfz21_5, hfz21_6, hfz21_7⟩ := bx8z BK110.out
    go_upto_block 0 with (fail)
    go_cut [4] (fun v4 wc => ∃ (kq : Nat) (x4_18 : Bool) (x112003_18 : Int) (x112004_18 : Int) (x112005_18 : Int), v4 = .bool x4_18 ∧ Aside0 (step_Check.j1 kq x4_18 a0_0 a0_1 a0_2 a0_3 a0_4 a0_5 l0_6 a0_7 a0_0 0 0 x112003_18 x112004_18 x112005_18 a0_7 = some r) ∧ Aside0 (kq ≤ kj4) ∧ Aside0 (wc.heap[gb110]? = some (.cells #[.int .i64 a0_0, .int .i64 a0_1, .int .i64 a0_2, .int .i64 a0_3, .int .i64 a0_4, .int .i64 a0_5, (.slice A0_6 l0_6.length c0_6), .int .i64 a0_7] 24 (0, 0))) ∧ Aside0 (wc.heap[gb111]? = some (.cells #[.int .i64 a0_0, .int .i64 0, .int .i64 0, .int .i64 x112003_18, .int .i64 x112004_18, .int .i64 x112005_18, (.slice none 0 0), .int .i64 a0_7] 24 (0, 0))) ∧ Aside0 (Below w.heap.size w wc))
    case first =>
     have H := HC19.out
     clear HC19
     by_cases c22 : a0_0 = 1
     ·rw [if_pos c22] at H
      have c22b0 : (a0_0 == 1) = true := beq_iff_eq.mpr c22
      have c22b1 : (a0_0 != 1) = false := bne_eq_false_iff_eq.mpr c22
      clear c22
      (first|rw [c22b0]|(simp only [i64_w, i32_w]; rw [c22b0])|skip)
      by_cases c23 : x4_4 = true
      ·subst c23
       have H1 : (if a0_1 ≤ a0_3 then (if a0_3 < a0_4 then (if a0_4 ≤ a0_2 then (if a0_5 ≥ 0 then (if a0_5 ≤ (l0_6.length : Int) then (step_Check.j1 kj4 (a0_7 == 0) a0_0 a0_1 a0_2 a0_3 a0_4 a0_5 l0_6 a0_7 a0_0 0 0 0 0 0 a0_7) else (step_Check.j1 kj4 false a0_0 a0_1 a0_2 a0_3 a0_4 a0_5 l0_6 a0_7 a0_0 0 0 0 0 0 a0_7)) else (step_Check.j1 kj4 false a0_0 a0_1 a0_2 a0_3 a0_4 a0_5 l0_6 a0_7 a0_0 0 0 0 0 0 a0_7)) else (step_Check.j1 kj4 false a0_0 a0_1 a0_2 a0_3 a0_4 a0_5 l0_6 a0_7 a0_0 0 0 0 0 0 a0_7)) else (step_Check.j1 kj4 false a0_0 a0_1 a0_2 a0_3 a0_4 a0_5 l0_6 a0_7 a0_0 0 0 0 0 0 a0_7)) else (step_Check.j1 kj4 false a0_0 a0_1 a0_2 a0_3 a0_4 a0_5 l0_6 a0_7 a0_0 0 0 0 0 0 a0_7)) = some r := by rw [if_pos rfl] at H; exact H
       clear H
       have H := H1
       clear H1
       by_cases c24 : a0_1 ≤ a0_3
       ·rw [if_pos c24] at H
        have c24b0 : decide (a0_1 ≤ a0_3) = true := decide_eq_true c24
        clear c24
        by_cases c25 : a0_3 < a0_4
        ·rw [if_pos c25] at H
         have c25b0 : decide (a0_3 < a0_4) = true := decide_eq_true c25
         clear c25
         by_cases c26 : a0_4 ≤ a0_2
         ·rw [if_pos c26] at H
          have c26b0 : decide (a0_4 ≤ a0_2) = true := decide_eq_true c26
          clear c26
          by_cases c27 : a0_5 ≥ 0
          ·rw [if_pos c27] at H
           have c27b0 : decide (0 ≤ a0_5) = true := decide_eq_true c27
           clear c27
           by_cases c28 : a0_5 ≤ (l0_6.length : Int)
           ·rw [if_pos c28] at H
            have c28b0 : decide (a0_5 ≤ (l0_6.length : Int)) = true := decide_eq_true c28
            clear c28
            have H' := aM H
            clear H
            have hnb29 := NB110_111.out
            have hnc29 := NB111_110.out
            obtain ⟨hcz30_0, hcz30_1, hcz30_2, hcz30_3, hcz30_4, hcz30_5, hcz30_6, hcz30_7, hfz30_0, hfz30_1, hfz30_2, hfz30_3, hfz30_4, hfz30_5, hfz30_6, hfz30_7⟩ := bx8z BK110.out
            obtain ⟨hcz31_0, hcz31_1, hcz31_2, hcz31_3, hcz31_4, hcz31_5, hcz31_6, hcz31_7, hfz31_0, hfz31_1, hfz31_2, hfz31_3, hfz31_4, hfz31_5, hfz31_6, hfz31_7⟩ := bx8z BK111.out
            go_wp2
            go_meet
            case rel => exact ⟨_, ((a0_7 == 0)), (0), (0), (0), (by first|rfl|(simp; done)|(simp [*]; done)), H', ⟨by have := HJ4.out; first|omega|exact Nat.le_refl _⟩, ⟨by (with_reducible repeat (first|refine bN ?_ _|refine bD ?_|refine bA ?_ _)); refine far3 ?_ NB110_111.out; (with_reducible repeat (first|refine bN ?_ _|refine bD ?_|refine bA ?_ _)); exact BK110.out⟩, ⟨by (with_reducible repeat (first|refine bN ?_ _|refine bD ?_|refine bA ?_ _)); refine blk_put (cs := #[.int .i64 a0_0, .int .i64 0, .int .i64 0, .int .i64 0, .int .i64 0, .int .i64 a0_5, .slice none 0 0, .int .i64 a0_7]) ?_ 5 _ rfl; (with_reducible repeat (first|refine bN ?_ _|refine bD ?_|refine bA ?_ _)); refine blk_put (cs := #[.int .i64 a0_0, .int .i64 0, .int .i64 0, .int .i64 0, .int .i64 a0_4, .int .i64 a0_5, .slice none 0 0, .int .i64 a0_7]) ?_ 4 _ rfl; (with_reducible repeat (first|refine bN ?_ _|refine bD ?_|refine bA ?_ _)); refine blk_put (cs := #[.int .i64 a0_0, .int .i64 0, .int .i64 0, .int .i64 a0_3, .int .i64 a0_4, .int .i64 a0_5, .slice none 0 0, .int .i64 a0_7]) ?_ 3 _ rfl; (with_reducible repeat (first|refine bN ?_ _|refine bD ?_|refine bA ?_ _)); exact BK111.out⟩, ⟨by repeat (first|(with_reducible first|exact HB.out|apply lA|apply lN|apply lD|refine lS ?_ GE110.out|refine lS ?_ GE111.out)|exact HB.out)⟩⟩
           ·rw [if_neg c28] at H
            have c28b0 : decide (a0_5 ≤ (l0_6.length : Int)) = false := decide_eq_false c28
            clear c28
            have H' := aM H
            clear H
            have hnb32 := NB110_111.out
            have hnc32 := NB111_110.out
            obtain ⟨hcz33_0, hcz33_1, hcz33_2, hcz33_3, hcz33_4, hcz33_5, hcz33_6, hcz33_7, hfz33_0, hfz33_1, hfz33_2, hfz33_3, hfz33_4, hfz33_5, hfz33_6, hfz33_7⟩ := bx8z BK110.out
            obtain ⟨hcz34_0, hcz34_1, hcz34_2, hcz34_3, hcz34_4, hcz34_5, hcz34_6, hcz34_7, hfz34_0, hfz34_1, hfz34_2, hfz34_3, hfz34_4, hfz34_5, hfz34_6, hfz34_7⟩ := bx8z BK111.out
            go_wp2
            go_meet
            case rel => exact ⟨_, (false), (0), (0), (0), (by first|rfl|(simp; done)|(simp [*]; done)), H', ⟨by have := HJ4.out; first|omega|exact Nat.le_refl _⟩, ⟨by (with_reducible repeat (first|refine bN ?_ _|refine bD ?_|refine bA ?_ _)); refine far3 ?_ NB110_111.out; (with_reducible repeat (first|refine bN ?_ _|refine bD ?_|refine bA ?_ _)); exact BK110.out⟩, ⟨by (with_reducible repeat (first|refine bN ?_ _|refine bD ?_|refine bA ?_ _)); refine blk_put (cs := #[.int .i64 a0_0, .int .i64 0, .int .i64 0, .int .i64 0, .int .i64 0, .int .i64 a0_5, .slice none 0 0, .int .i64 a0_7]) ?_ 5 _ rfl; (with_reducible repeat (first|refine bN ?_ _|refine bD ?_|refine bA ?_ _)); refine blk_put (cs := #[.int .i64 a0_0, .int .i64 0, .int .i64 0, .int .i64 0, .int .i64 a0_4, .int .i64 a0_5, .slice none 0 0, .int .i64 a0_7]) ?_ 4 _ rfl; (with_reducible repeat (first|refine bN ?_ _|refine bD ?_|refine bA ?_ _)); refine blk_put (cs := #[.int .i64 a0_0, .int .i64 0, .int .i64 0, .int .i64 a0_3, .int .i64 a0_4, .int .i64 a0_5, .slice none 0 0, .int .i64 a0_7]) ?_ 3 _ rfl; (with_reducible repeat (first|refine bN ?_ _|refine bD ?_|refine bA ?_ _)); exact BK111.out⟩, ⟨by repeat (first|(with_reducible first|exact HB.out|apply lA|apply lN|apply lD|refine lS ?_ GE110.out|refine lS ?_ GE111.out)|exact HB.out)⟩⟩
          ·rw [if_neg c27] at H
           have c27b0 : decide (0 ≤ a0_5) = false := decide_eq_false c27
           clear c27
           have H' := aM H
           clear H
           have hnb35 := NB110_111.out
           have hnc35 := NB111_110.out
           obtain ⟨hcz36_0, hcz36_1, hcz36_2, hcz36_3, hcz36_4, hcz36_5, hcz36_6, hcz36_7, hfz36_0, hfz36_1, hfz36_2, hfz36_3, hfz36_4, hfz36_5, hfz36_6, hfz36_7⟩ := bx8z BK110.out
           obtain ⟨hcz37_0, hcz37_1, hcz37_2, hcz37_3, hcz37_4, hcz37_5, hcz37_6, hcz37_7, hfz37_0, hfz37_1, hfz37_2, hfz37_3, hfz37_4, hfz37_5, hfz37_6, hfz37_7⟩ := bx8z BK111.out
           go_wp2
           go_meet
           case rel => exact ⟨_, (false), (0), (0), (0), (by first|rfl|(simp; done)|(simp [*]; done)), H', ⟨by have := HJ4.out; first|omega|exact Nat.le_refl _⟩, ⟨by (with_reducible repeat (first|refine bN ?_ _|refine bD ?_|refine bA ?_ _)); refine far3 ?_ NB110_111.out; (with_reducible repeat (first|refine bN ?_ _|refine bD ?_|refine bA ?_ _)); exact BK110.out⟩, ⟨by (with_reducible repeat (first|refine bN ?_ _|refine bD ?_|refine bA ?_ _)); refine blk_put (cs := #[.int .i64 a0_0, .int .i64 0, .int .i64 0, .int .i64 0, .int .i64 0, .int .i64 a0_5, .slice none 0 0, .int .i64 a0_7]) ?_ 5 _ rfl; (with_reducible repeat (first|refine bN ?_ _|refine bD ?_|refine bA ?_ _)); refine blk_put (cs := #[.int .i64 a0_0, .int .i64 0, .int .i64 0, .int .i64 0, .int .i64 a0_4, .int .i64 a0_5, .slice none 0 0, .int .i64 a0_7]) ?_ 4 _ rfl; (with_reducible repeat (first|refine bN ?_ _|refine bD ?_|refine bA ?_ _)); refine blk_put (cs := #[.int .i64 a0_0, .int .i64 0, .int .i64 0, .int .i64 a0_3, .int .i64 a0_4, .int .i64 a0_5, .slice none 0 0, .int .i64 a0_7]) ?_ 3 _ rfl; (with_reducible repeat (first|refine bN ?_ _|refine bD ?_|refine bA ?_ _)); exact BK111.out⟩, ⟨by repeat (first|(with_reducible first|exact HB.out|apply lA|apply lN|apply lD|refine lS ?_ GE110.out|refine lS ?_ GE111.out)|exact HB.out)⟩⟩
         ·rw [if_neg c26] at H
          have c26b0 : decide (a0_4 ≤ a0_2) = false := decide_eq_false c26
          clear c26
          have H' := aM H
          clear H
          have hnb38 := NB110_111.out
          have hnc38 := NB111_110.out
          obtain ⟨hcz39_0, hcz39_1, hcz39_2, hcz39_3, hcz39_4, hcz39_5, hcz39_6, hcz39_7, hfz39_0, hfz39_1, hfz39_2, hfz39_3, hfz39_4, hfz39_5, hfz39_6, hfz39_7⟩ := bx8z BK110.out
          obtain ⟨hcz40_0, hcz40_1, hcz40_2, hcz40_3, hcz40_4, hcz40_5, hcz40_6, hcz40_7, hfz40_0, hfz40_1, hfz40_2, hfz40_3, hfz40_4, hfz40_5, hfz40_6, hfz40_7⟩ := bx8z BK111.out
          go_wp2
          go_meet
          case rel => exact ⟨_, (false), (0), (0), (0), (by first|rfl|(simp; done)|(simp [*]; done)), H', ⟨by have := HJ4.out; first|omega|exact Nat.le_refl _⟩, ⟨by (with_reducible repeat (first|refine bN ?_ _|refine bD ?_|refine bA ?_ _)); refine far3 ?_ NB110_111.out; (with_reducible repeat (first|refine bN ?_ _|refine bD ?_|refine bA ?_ _)); exact BK110.out⟩, ⟨by (with_reducible repeat (first|refine bN ?_ _|refine bD ?_|refine bA ?_ _)); refine blk_put (cs := #[.int .i64 a0_0, .int .i64 0, .int .i64 0, .int .i64 0, .int .i64 0, .int .i64 a0_5, .slice none 0 0, .int .i64 a0_7]) ?_ 5 _ rfl; (with_reducible repeat (first|refine bN ?_ _|refine bD ?_|refine bA ?_ _)); refine blk_put (cs := #[.int .i64 a0_0, .int .i64 0, .int .i64 0, .int .i64 0, .int .i64 a0_4, .int .i64 a0_5, .slice none 0 0, .int .i64 a0_7]) ?_ 4 _ rfl; (with_reducible repeat (first|refine bN ?_ _|refine bD ?_|refine bA ?_ _)); refine blk_put (cs := #[.int .i64 a0_0, .int .i64 0, .int .i64 0, .int .i64 a0_3, .int .i64 a0_4, .int .i64 a0_5, .slice none 0 0, .int .i64 a0_7]) ?_ 3 _ rfl; (with_reducible repeat (first|refine bN ?_ _|refine bD ?_|refine bA ?_ _)); exact BK111.out⟩, ⟨by repeat (first|(with_reducible first|exact HB.out|apply lA|apply lN|apply lD|refine lS ?_ GE110.out|refine lS ?_ GE111.out)|exact HB.out)⟩⟩
        ·rw [if_neg c25] at H
         have c25b0 : decide (a0_3 < a0_4) = false := decide_eq_false c25
         clear c25
         have H' := aM H
         clear H
         have hnb41 := NB110_111.out
         have hnc41 := NB111_110.out
         obtain ⟨hcz42_0, hcz42_1, hcz42_2, hcz42_3, hcz42_4, hcz42_5, hcz42_6, hcz42_7, hfz42_0, hfz42_1, hfz42_2, hfz42_3, hfz42_4, hfz42_5, hfz42_6, hfz42_7⟩ := bx8z BK110.out
         obtain ⟨hcz43_0, hcz43_1, hcz43_2, hcz43_3, hcz43_4, hcz43_5, hcz43_6, hcz43_7, hfz43_0, hfz43_1, hfz43_2, hfz43_3, hfz43_4, hfz43_5, hfz43_6, hfz43_7⟩ := bx8z BK111.out
         go_wp2
         go_meet
         case rel => exact ⟨_, (false), (0), (0), (0), (by first|rfl|(simp; done)|(simp [*]; done)), H', ⟨by have := HJ4.out; first|omega|exact Nat.le_refl _⟩, ⟨by (with_reducible repeat (first|refine bN ?_ _|refine bD ?_|refine bA ?_ _)); refine far3 ?_ NB110_111.out; (with_reducible repeat (first|refine bN ?_ _|refine bD ?_|refine bA ?_ _)); exact BK110.out⟩, ⟨by (with_reducible repeat (first|refine bN ?_ _|refine bD ?_|refine bA ?_ _)); refine blk_put (cs := #[.int .i64 a0_0, .int .i64 0, .int .i64 0, .int .i64 0, .int .i64 0, .int .i64 a0_5, .slice none 0 0, .int .i64 a0_7]) ?_ 5 _ rfl; (with_reducible repeat (first|refine bN ?_ _|refine bD ?_|refine bA ?_ _)); refine blk_put (cs := #[.int .i64 a0_0, .int .i64 0, .int .i64 0, .int .i64 0, .int .i64 a0_4, .int .i64 a0_5, .slice none 0 0, .int .i64 a0_7]) ?_ 4 _ rfl; (with_reducible repeat (first|refine bN ?_ _|refine bD ?_|refine bA ?_ _)); refine blk_put (cs := #[.int .i64 a0_0, .int .i64 0, .int .i64 0, .int .i64 a0_3, .int .i64 a0_4, .int .i64 a0_5, .slice none 0 0, .int .i64 a0_7]) ?_ 3 _ rfl; (with_reducible repeat (first|refine bN ?_ _|refine bD ?_|refine bA ?_ _)); exact BK111.out⟩, ⟨by repeat (first|(with_reducible first|exact HB.out|apply lA|apply lN|apply lD|refine lS ?_ GE110.out|refine lS ?_ GE111.out)|exact HB.out)⟩⟩
       ·rw [if_neg c24] at H
        have c24b0 : decide (a0_1 ≤ a0_3) = false := decide_eq_false c24
        clear c24
        have H' := aM H
        clear H
        have hnb44 := NB110_111.out
        have hnc44 := NB111_110.out
        obtain ⟨hcz45_0, hcz45_1, hcz45_2, hcz45_3, hcz45_4, hcz45_5, hcz45_6, hcz45_7, hfz45_0, hfz45_1, hfz45_2, hfz45_3, hfz45_4, hfz45_5, hfz45_6, hfz45_7⟩ := bx8z BK110.out
        obtain ⟨hcz46_0, hcz46_1, hcz46_2, hcz46_3, hcz46_4, hcz46_5, hcz46_6, hcz46_7, hfz46_0, hfz46_1, hfz46_2, hfz46_3, hfz46_4, hfz46_5, hfz46_6, hfz46_7⟩ := bx8z BK111.out
        go_wp2
        go_meet
        case rel => exact ⟨_, (false), (0), (0), (0), (by first|rfl|(simp; done)|(simp [*]; done)), H', ⟨by have := HJ4.out; first|omega|exact Nat.le_refl _⟩, ⟨by (with_reducible repeat (first|refine bN ?_ _|refine bD ?_|refine bA ?_ _)); refine far3 ?_ NB110_111.out; (with_reducible repeat (first|refine bN ?_ _|refine bD ?_|refine bA ?_ _)); exact BK110.out⟩, ⟨by (with_reducible repeat (first|refine bN ?_ _|refine bD ?_|refine bA ?_ _)); refine blk_put (cs := #[.int .i64 a0_0, .int .i64 0, .int .i64 0, .int .i64 0, .int .i64 0, .int .i64 a0_5, .slice none 0 0, .int .i64 a0_7]) ?_ 5 _ rfl; (with_reducible repeat (first|refine bN ?_ _|refine bD ?_|refine bA ?_ _)); refine blk_put (cs := #[.int .i64 a0_0, .int .i64 0, .int .i64 0, .int .i64 0, .int .i64 a0_4, .int .i64 a0_5, .slice none 0 0, .int .i64 a0_7]) ?_ 4 _ rfl; (with_reducible repeat (first|refine bN ?_ _|refine bD ?_|refine bA ?_ _)); refine blk_put (cs := #[.int .i64 a0_0, .int .i64 0, .int .i64 0, .int .i64 a0_3, .int .i64 a0_4, .int .i64 a0_5, .slice none 0 0, .int .i64 a0_7]) ?_ 3 _ rfl; (with_reducible repeat (first|refine bN ?_ _|refine bD ?_|refine bA ?_ _)); exact BK111.out⟩, ⟨by repeat (first|(with_reducible first|exact HB.out|apply lA|apply lN|apply lD|refine lS ?_ GE110.out|refine lS ?_ GE111.out)|exact HB.out)⟩⟩
      ·replace c23 := Bool.eq_false_iff.mpr c23
       subst c23
       have H1 : (step_Check.j1 kj4 false a0_0 a0_1 a0_2 a0_3 a0_4 a0_5 l0_6 a0_7 a0_0 0 0 0 0 0 a0_7) = some r := by rw [if_neg (show ¬ (false = true) by decide)] at H; exact H
       clear H
       have H := H1
       clear H1
       have H' := aM H
       clear H
       have hnb47 := NB111_110.out
       have hnc47 := NB110_111.out
       obtain ⟨hcz48_0, hcz48_1, hcz48_2, hcz48_3, hcz48_4, hcz48_5, hcz48_6, hcz48_7, hfz48_0, hfz48_1, hfz48_2, hfz48_3, hfz48_4, hfz48_5, hfz48_6, hfz48_7⟩ := bx8z BK111.out
       go_wp2
       go_meet
       case rel => exact ⟨_, (false), (0), (0), (0), (by first|rfl|(simp; done)|(simp [*]; done)), H', ⟨by have := HJ4.out; first|omega|exact Nat.le_refl _⟩, ⟨by (with_reducible repeat (first|refine bN ?_ _|refine bD ?_|refine bA ?_ _)); refine far3 ?_ NB110_111.out; (with_reducible repeat (first|refine bN ?_ _|refine bD ?_|refine bA ?_ _)); exact BK110.out⟩, ⟨by (with_reducible repeat (first|refine bN ?_ _|refine bD ?_|refine bA ?_ _)); refine blk_put (cs := #[.int .i64 a0_0, .int .i64 0, .int .i64 0, .int .i64 0, .int .i64 0, .int .i64 a0_5, .slice none 0 0, .int .i64 a0_7]) ?_ 5 _ rfl; (with_reducible repeat (first|refine bN ?_ _|refine bD ?_|refine bA ?_ _)); refine blk_put (cs := #[.int .i64 a0_0, .int .i64 0, .int .i64 0, .int .i64 0, .int .i64 a0_4, .int .i64 a0_5, .slice none 0 0, .int .i64 a0_7]) ?_ 4 _ rfl; (with_reducible repeat (first|refine bN ?_ _|refine bD ?_|refine bA ?_ _)); refine blk_put (cs := #[.int .i64 a0_0, .int .i64 0, .int .i64 0, .int .i64 a0_3, .int .i64 a0_4, .int .i64 a0_5, .slice none 0 0, .int .i64 a0_7]) ?_ 3 _ rfl; (with_reducible repeat (first|refine bN ?_ _|refine bD ?_|refine bA ?_ _)); exact BK111.out⟩, ⟨by repeat (first|(with_reducible first|exact HB.out|apply lA|apply lN|apply lD|refine lS ?_ GE110.out|refine lS ?_ GE111.out)|exact HB.out)⟩⟩
     ·rw [if_neg c22] at H
      have c22b0 : (a0_0 == 1) = false := beq_eq_false_iff_ne.mpr c22
      have c22b1 : (a0_0 != 1) = true := bne_iff_ne.mpr c22
      (first|rw [c22b0]|(simp only [i64_w, i32_w]; rw [c22b0])|skip)
      by_cases c49 : a0_0 = 0
      ·rw [if_pos c49] at H
       have c49b0 : (a0_0 == 0) = true := beq_iff_eq.mpr c49
       have c49b1 : (a0_0 != 0) = false := bne_eq_false_iff_eq.mpr c49
       clear c49
       by_cases c50 : x4_4 = true
       ·subst c50
        have H1 : (step_Check.j1 kj4 (a0_7 == 0) a0_0 a0_1 a0_2 a0_3 a0_4 a0_5 l0_6 a0_7 a0_0 0 0 a0_3 a0_4 a0_5 a0_7) = some r := by rw [if_pos rfl] at H; exact H
        clear H
        have H := H1
        clear H1
        have H' := aM H
        clear H
        have hnb51 := NB111_110.out
        have hnc51 := NB110_111.out
        obtain ⟨hcz52_0, hcz52_1, hcz52_2, hcz52_3, hcz52_4, hcz52_5, hcz52_6, hcz52_7, hfz52_0, hfz52_1, hfz52_2, hfz52_3, hfz52_4, hfz52_5, hfz52_6, hfz52_7⟩ := bx8z BK111.out
        go_wp2
        go_meet
        case rel => exact ⟨_, ((a0_7 == 0)), (a0_3), (a0_4), (a0_5), (by first|rfl|(simp; done)|(simp [*]; done)), H', ⟨by have := HJ4.out; first|omega|exact Nat.le_refl _⟩, ⟨by (with_reducible repeat (first|refine bN ?_ _|refine bD ?_|refine bA ?_ _)); exact BK110.out⟩, ⟨by (with_reducible repeat (first|refine bN ?_ _|refine bD ?_|refine bA ?_ _)); exact BK111.out⟩, ⟨by repeat (first|(with_reducible first|exact HB.out|apply lA|apply lN|apply lD|refine lS ?_ GE110.out|refine lS ?_ GE111.out)|exact HB.out)⟩⟩
       ·replace c50 := Bool.eq_false_iff.mpr c50
        subst c50
        have H1 : (step_Check.j1 kj4 false a0_0 a0_1 a0_2 a0_3 a0_4 a0_5 l0_6 a0_7 a0_0 0 0 a0_3 a0_4 a0_5 a0_7) = some r := by rw [if_neg (show ¬ (false = true) by decide)] at H; exact H
        clear H
        have H := H1
        clear H1
        have H' := aM H
        clear H
        go_wp2
        go_meet
        case rel => exact ⟨_, (false), (a0_3), (a0_4), (a0_5), (by first|rfl|(simp; done)|(simp [*]; done)), H', ⟨by have := HJ4.out; first|omega|exact Nat.le_refl _⟩, ⟨by (with_reducible repeat (first|refine bN ?_ _|refine bD ?_|refine bA ?_ _)); exact BK110.out⟩, ⟨by (with_reducible repeat (first|refine bN ?_ _|refine bD ?_|refine bA ?_ _)); exact BK111.out⟩, ⟨by repeat (first|(with_reducible first|exact HB.out|apply lA|apply lN|apply lD|refine lS ?_ GE110.out|refine lS ?_ GE111.out)|exact HB.out)⟩⟩
      ·rw [if_neg c49] at H
       have c49b0 : (a0_0 == 0) = false := beq_eq_false_iff_ne.mpr c49
       have c49b1 : (a0_0 != 0) = true := bne_iff_ne.mpr c49
       by_cases c53 : a0_0 = 2
       ·rw [if_pos c53] at H
        have c53b0 : (a0_0 == 2) = true := beq_iff_eq.mpr c53
        have c53b1 : (a0_0 != 2) = false := bne_eq_false_iff_eq.mpr c53
        clear c53
        by_cases c54 : x4_4 = true
        ·subst c54
         have H1 : (if a0_1 < a0_2 then ((mark_List.f kj4 a0_7).bind fun t112 => (if (t112.length : Int) = 1 then (step_Check.j1 kj4 ((l0_6.length : Int) == 0) a0_0 a0_1 a0_2 a0_3 a0_4 a0_5 l0_6 a0_7 a0_0 0 0 a0_3 a0_4 a0_5 a0_7) else (step_Check.j1 kj4 false a0_0 a0_1 a0_2 a0_3 a0_4 a0_5 l0_6 a0_7 a0_0 0 0 a0_3 a0_4 a0_5 a0_7))) else (step_Check.j1 kj4 false a0_0 a0_1 a0_2 a0_3 a0_4 a0_5 l0_6 a0_7 a0_0 0 0 a0_3 a0_4 a0_5 a0_7)) = some r := by rw [if_pos rfl] at H; exact H
         clear H
         have H := H1
         clear H1
         by_cases c55 : a0_1 < a0_2
         ·rw [if_pos c55] at H
          have c55b0 : decide (a0_1 < a0_2) = true := decide_eq_true c55
          clear c55
          replace H := Option.bind_eq_some_iff.mp H
          obtain ⟨t112, A560, H⟩ := H
          replace H : (if (t112.length : Int) = 1 then (step_Check.j1 kj4 ((l0_6.length : Int) == 0) a0_0 a0_1 a0_2 a0_3 a0_4 a0_5 l0_6 a0_7 a0_0 0 0 a0_3 a0_4 a0_5 a0_7) else (step_Check.j1 kj4 false a0_0 a0_1 a0_2 a0_3 a0_4 a0_5 l0_6 a0_7 a0_0 0 0 a0_3 a0_4 a0_5 a0_7)) = some r := H
          have A56 := aM A560
          clear A560
          by_cases c57 : (t112.length : Int) = 1
          ·rw [if_pos c57] at H
           have c57b0 : ((t112.length : Int) == 1) = true := beq_iff_eq.mpr c57
           have c57b1 : ((t112.length : Int) != 1) = false := bne_eq_false_iff_eq.mpr c57
           clear c57
           have H' := aM H
           clear H
           have hnb58 := NB110_111.out
           have hnc58 := NB111_110.out
           obtain ⟨hcz59_0, hcz59_1, hcz59_2, hcz59_3, hcz59_4, hcz59_5, hcz59_6, hcz59_7, hfz59_0, hfz59_1, hfz59_2, hfz59_3, hfz59_4, hfz59_5, hfz59_6, hfz59_7⟩ := bx8z BK110.out
           go_wp2_with (first|(go_at_call 37; (with_reducible refine (mark_List.calls kj4 a0_7 t112 _ A56.out).mono ?_); rintro e w60 ⟨v113, rfl, ho0, hb⟩; replace HO114 := aM (Kd.R_lower ho0 (below_size (by repeat (first|(with_reducible first|exact HB.out|apply lA|apply lN|apply lD|refine lS ?_ GE110.out|refine lS ?_ GE111.out)|exact HB.out)))); replace BK110 := aM (blk_below (by (with_reducible repeat (first|refine bN ?_ _|refine bD ?_|refine bA ?_ _)); exact BK110.out) hb); replace BK111 := aM (blk_below (by (with_reducible repeat (first|refine bN ?_ _|refine bD ?_|refine bA ?_ _)); exact BK111.out) hb); replace HB := aM (below_step (by repeat (first|(with_reducible first|exact HB.out|apply lA|apply lN|apply lD|refine lS ?_ GE110.out|refine lS ?_ GE111.out)|exact HB.out)) hb); (try clear hb); (try clear hb2); (try clear hk); (try clear hi); (try clear ho0); obtain ⟨Ao61, co61, eo61⟩ := Kd.R_slice HO114.out; subst eo61; obtain ⟨hcz62_0, hcz62_1, hcz62_2, hcz62_3, hcz62_4, hcz62_5, hcz62_6, hcz62_7, hfz62_0, hfz62_1, hfz62_2, hfz62_3, hfz62_4, hfz62_5, hfz62_6, hfz62_7⟩ := bx8z BK110.out))
           go_meet
           case rel => exact ⟨_, (((l0_6.length : Int) == 0)), (a0_3), (a0_4), (a0_5), (by first|rfl|(simp; done)|(simp [*]; done)), H', ⟨by have := HJ4.out; first|omega|exact Nat.le_refl _⟩, ⟨by (with_reducible repeat (first|refine bN ?_ _|refine bD ?_|refine bA ?_ _)); exact BK110.out⟩, ⟨by (with_reducible repeat (first|refine bN ?_ _|refine bD ?_|refine bA ?_ _)); exact BK111.out⟩, ⟨by repeat (first|(with_reducible first|exact HB.out|apply lA|apply lN|apply lD|refine lS ?_ GE110.out|refine lS ?_ GE111.out)|exact HB.out)⟩⟩
          ·rw [if_neg c57] at H
           have c57b0 : ((t112.length : Int) == 1) = false := beq_eq_false_iff_ne.mpr c57
           have c57b1 : ((t112.length : Int) != 1) = true := bne_iff_ne.mpr c57
           have H' := aM H
           clear H
           have hnb63 := NB110_111.out
           have hnc63 := NB111_110.out
           obtain ⟨hcz64_0, hcz64_1, hcz64_2, hcz64_3, hcz64_4, hcz64_5, hcz64_6, hcz64_7, hfz64_0, hfz64_1, hfz64_2, hfz64_3, hfz64_4, hfz64_5, hfz64_6, hfz64_7⟩ := bx8z BK110.out
           go_wp2_with (first|(go_at_call 37; (with_reducible refine (mark_List.calls kj4 a0_7 t112 _ A56.out).mono ?_); rintro e w65 ⟨v113, rfl, ho0, hb⟩; replace HO114 := aM (Kd.R_lower ho0 (below_size (by repeat (first|(with_reducible first|exact HB.out|apply lA|apply lN|apply lD|refine lS ?_ GE110.out|refine lS ?_ GE111.out)|exact HB.out)))); replace BK110 := aM (blk_below (by (with_reducible repeat (first|refine bN ?_ _|refine bD ?_|refine bA ?_ _)); exact BK110.out) hb); replace BK111 := aM (blk_below (by (with_reducible repeat (first|refine bN ?_ _|refine bD ?_|refine bA ?_ _)); exact BK111.out) hb); replace HB := aM (below_step (by repeat (first|(with_reducible first|exact HB.out|apply lA|apply lN|apply lD|refine lS ?_ GE110.out|refine lS ?_ GE111.out)|exact HB.out)) hb); (try clear hb); (try clear hb2); (try clear hk); (try clear hi); (try clear ho0); obtain ⟨Ao66, co66, eo66⟩ := Kd.R_slice HO114.out; subst eo66))
           go_meet
           case rel => exact ⟨_, (false), (a0_3), (a0_4), (a0_5), (by first|rfl|(simp; done)|(simp [*]; done)), H', ⟨by have := HJ4.out; first|omega|exact Nat.le_refl _⟩, ⟨by (with_reducible repeat (first|refine bN ?_ _|refine bD ?_|refine bA ?_ _)); exact BK110.out⟩, ⟨by (with_reducible repeat (first|refine bN ?_ _|refine bD ?_|refine bA ?_ _)); exact BK111.out⟩, ⟨by repeat (first|(with_reducible first|exact HB.out|apply lA|apply lN|apply lD|refine lS ?_ GE110.out|refine lS ?_ GE111.out)|exact HB.out)⟩⟩
         ·rw [if_neg c55] at H
          have c55b0 : decide (a0_1 < a0_2) = false := decide_eq_false c55
          clear c55
          have H' := aM H
          clear H
          have hnb67 := NB110_111.out
          have hnc67 := NB111_110.out
          obtain ⟨hcz68_0, hcz68_1, hcz68_2, hcz68_3, hcz68_4, hcz68_5, hcz68_6, hcz68_7, hfz68_0, hfz68_1, hfz68_2, hfz68_3, hfz68_4, hfz68_5, hfz68_6, hfz68_7⟩ := bx8z BK110.out
          go_wp2
          go_meet
          case rel => exact ⟨_, (false), (a0_3), (a0_4), (a0_5), (by first|rfl|(simp; done)|(simp [*]; done)), H', ⟨by have := HJ4.out; first|omega|exact Nat.le_refl _⟩, ⟨by (with_reducible repeat (first|refine bN ?_ _|refine bD ?_|refine bA ?_ _)); exact BK110.out⟩, ⟨by (with_reducible repeat (first|refine bN ?_ _|refine bD ?_|refine bA ?_ _)); exact BK111.out⟩, ⟨by repeat (first|(with_reducible first|exact HB.out|apply lA|apply lN|apply lD|refine lS ?_ GE110.out|refine lS ?_ GE111.out)|exact HB.out)⟩⟩
        ·replace c54 := Bool.eq_false_iff.mpr c54
         subst c54
         have H1 : (step_Check.j1 kj4 false a0_0 a0_1 a0_2 a0_3 a0_4 a0_5 l0_6 a0_7 a0_0 0 0 a0_3 a0_4 a0_5 a0_7) = some r := by rw [if_neg (show ¬ (false = true) by decide)] at H; exact H
         clear H
         have H := H1
         clear H1
         have H' := aM H
         clear H
         go_wp2
         go_meet
         case rel => exact ⟨_, (false), (a0_3), (a0_4), (a0_5), (by first|rfl|(simp; done)|(simp [*]; done)), H', ⟨by have := HJ4.out; first|omega|exact Nat.le_refl _⟩, ⟨by (with_reducible repeat (first|refine bN ?_ _|refine bD ?_|refine bA ?_ _)); exact BK110.out⟩, ⟨by (with_reducible repeat (first|refine bN ?_ _|refine bD ?_|refine bA ?_ _)); exact BK111.out⟩, ⟨by repeat (first|(with_reducible first|exact HB.out|apply lA|apply lN|apply lD|refine lS ?_ GE110.out|refine lS ?_ GE111.out)|exact HB.out)⟩⟩
       ·rw [if_neg c53] at H
        have c53b0 : (a0_0 == 2) = false := beq_eq_false_iff_ne.mpr c53
        have c53b1 : (a0_0 != 2) = true := bne_iff_ne.mpr c53
        by_cases c69 : a0_0 = 3
        ·rw [if_pos c69] at H
         have c69b0 : (a0_0 == 3) = true := beq_iff_eq.mpr c69
         have c69b1 : (a0_0 != 3) = false := bne_eq_false_iff_eq.mpr c69
         clear c69
         by_cases c70 : x4_4 = true
         ·subst c70
          have H1 : (if a0_1 < a0_2 then ((mark_List.f kj4 a0_7).bind fun t115 => (if (t115.length : Int) = 1 then (step_Check.j1 kj4 ((l0_6.length : Int) == 0) a0_0 a0_1 a0_2 a0_3 a0_4 a0_5 l0_6 a0_7 a0_0 0 0 a0_3 a0_4 a0_5 a0_7) else (step_Check.j1 kj4 false a0_0 a0_1 a0_2 a0_3 a0_4 a0_5 l0_6 a0_7 a0_0 0 0 a0_3 a0_4 a0_5 a0_7))) else (step_Check.j1 kj4 false a0_0 a0_1 a0_2 a0_3 a0_4 a0_5 l0_6 a0_7 a0_0 0 0 a0_3 a0_4 a0_5 a0_7)) = some r := by rw [if_pos rfl] at H; exact H
          clear H
          have H := H1
          clear H1
          by_cases c71 : a0_1 < a0_2
          ·rw [if_pos c71] at H
           have c71b0 : decide (a0_1 < a0_2) = true := decide_eq_true c71
           clear c71
           replace H := Option.bind_eq_some_iff.mp H
           obtain ⟨t115, A720, H⟩ := H
           replace H : (if (t115.length : Int) = 1 then (step_Check.j1 kj4 ((l0_6.length : Int) == 0) a0_0 a0_1 a0_2 a0_3 a0_4 a0_5 l0_6 a0_7 a0_0 0 0 a0_3 a0_4 a0_5 a0_7) else (step_Check.j1 kj4 false a0_0 a0_1 a0_2 a0_3 a0_4 a0_5 l0_6 a0_7 a0_0 0 0 a0_3 a0_4 a0_5 a0_7)) = some r := H
           have A72 := aM A720
           clear A720
           by_cases c73 : (t115.length : Int) = 1
           ·rw [if_pos c73] at H
            have c73b0 : ((t115.length : Int) == 1) = true := beq_iff_eq.mpr c73
            have c73b1 : ((t115.length : Int) != 1) = false := bne_eq_false_iff_eq.mpr c73
            clear c73
            have H' := aM H
            clear H
            have hnb74 := NB110_111.out
            have hnc74 := NB111_110.out
            obtain ⟨hcz75_0, hcz75_1, hcz75_2, hcz75_3, hcz75_4, hcz75_5, hcz75_6, hcz75_7, hfz75_0, hfz75_1, hfz75_2, hfz75_3, hfz75_4, hfz75_5, hfz75_6, hfz75_7⟩ := bx8z BK110.out
            go_wp2_with (first|(go_at_call 37; (with_reducible refine (mark_List.calls kj4 a0_7 t115 _ A72.out).mono ?_); rintro e w76 ⟨v116, rfl, ho0, hb⟩; replace HO117 := aM (Kd.R_lower ho0 (below_size (by repeat (first|(with_reducible first|exact HB.out|apply lA|apply lN|apply lD|refine lS ?_ GE110.out|refine lS ?_ GE111.out)|exact HB.out)))); replace BK110 := aM (blk_below (by (with_reducible repeat (first|refine bN ?_ _|refine bD ?_|refine bA ?_ _)); exact BK110.out) hb); replace BK111 := aM (blk_below (by (with_reducible repeat (first|refine bN ?_ _|refine bD ?_|refine bA ?_ _)); exact BK111.out) hb); replace HB := aM (below_step (by repeat (first|(with_reducible first|exact HB.out|apply lA|apply lN|apply lD|refine lS ?_ GE110.out|refine lS ?_ GE111.out)|exact HB.out)) hb); (try clear hb); (try clear hb2); (try clear hk); (try clear hi); (try clear ho0); obtain ⟨Ao77, co77, eo77⟩ := Kd.R_slice HO117.out; subst eo77; obtain ⟨hcz78_0, hcz78_1, hcz78_2, hcz78_3, hcz78_4, hcz78_5, hcz78_6, hcz78_7, hfz78_0, hfz78_1, hfz78_2, hfz78_3, hfz78_4, hfz78_5, hfz78_6, hfz78_7⟩ := bx8z BK110.out))
            go_meet
            case rel => exact ⟨_, (((l0_6.length : Int) == 0)), (a0_3), (a0_4), (a0_5), (by first|rfl|(simp; done)|(simp [*]; done)), H', ⟨by have := HJ4.out; first|omega|exact Nat.le_refl _⟩, ⟨by (with_reducible repeat (first|refine bN ?_ _|refine bD ?_|refine bA ?_ _)); exact BK110.out⟩, ⟨by (with_reducible repeat (first|refine bN ?_ _|refine bD ?_|refine bA ?_ _)); exact BK111.out⟩, ⟨by repeat (first|(with_reducible first|exact HB.out|apply lA|apply lN|apply lD|refine lS ?_ GE110.out|refine lS ?_ GE111.out)|exact HB.out)⟩⟩
           ·rw [if_neg c73] at H
            have c73b0 : ((t115.length : Int) == 1) = false := beq_eq_false_iff_ne.mpr c73
            have c73b1 : ((t115.length : Int) != 1) = true := bne_iff_ne.mpr c73
            have H' := aM H
            clear H
            have hnb79 := NB110_111.out
            have hnc79 := NB111_110.out
            obtain ⟨hcz80_0, hcz80_1, hcz80_2, hcz80_3, hcz80_4, hcz80_5, hcz80_6, hcz80_7, hfz80_0, hfz80_1, hfz80_2, hfz80_3, hfz80_4, hfz80_5, hfz80_6, hfz80_7⟩ := bx8z BK110.out
            go_wp2_with (first|(go_at_call 37; (with_reducible refine (mark_List.calls kj4 a0_7 t115 _ A72.out).mono ?_); rintro e w81 ⟨v116, rfl, ho0, hb⟩; replace HO117 := aM (Kd.R_lower ho0 (below_size (by repeat (first|(with_reducible first|exact HB.out|apply lA|apply lN|apply lD|refine lS ?_ GE110.out|refine lS ?_ GE111.out)|exact HB.out)))); replace BK110 := aM (blk_below (by (with_reducible repeat (first|refine bN ?_ _|refine bD ?_|refine bA ?_ _)); exact BK110.out) hb); replace BK111 := aM (blk_below (by (with_reducible repeat (first|refine bN ?_ _|refine bD ?_|refine bA ?_ _)); exact BK111.out) hb); replace HB := aM (below_step (by repeat (first|(with_reducible first|exact HB.out|apply lA|apply lN|apply lD|refine lS ?_ GE110.out|refine lS ?_ GE111.out)|exact HB.out)) hb); (try clear hb); (try clear hb2); (try clear hk); (try clear hi); (try clear ho0); obtain ⟨Ao82, co82, eo82⟩ := Kd.R_slice HO117.out; subst eo82))
            go_meet
            case rel => exact ⟨_, (false), (a0_3), (a0_4), (a0_5), (by first|rfl|(simp; done)|(simp [*]; done)), H', ⟨by have := HJ4.out; first|omega|exact Nat.le_refl _⟩, ⟨by (with_reducible repeat (first|refine bN ?_ _|refine bD ?_|refine bA ?_ _)); exact BK110.out⟩, ⟨by (with_reducible repeat (first|refine bN ?_ _|refine bD ?_|refine bA ?_ _)); exact BK111.out⟩, ⟨by repeat (first|(with_reducible first|exact HB.out|apply lA|apply lN|apply lD|refine lS ?_ GE110.out|refine lS ?_ GE111.out)|exact HB.out)⟩⟩
          ·rw [if_neg c71] at H
           have c71b0 : decide (a0_1 < a0_2) = false := decide_eq_false c71
           clear c71
           have H' := aM H
           clear H
           have hnb83 := NB110_111.out
           have hnc83 := NB111_110.out
           obtain ⟨hcz84_0, hcz84_1, hcz84_2, hcz84_3, hcz84_4, hcz84_5, hcz84_6, hcz84_7, hfz84_0, hfz84_1, hfz84_2, hfz84_3, hfz84_4, hfz84_5, hfz84_6, hfz84_7⟩ := bx8z BK110.out
           go_wp2
           go_meet
           case rel => exact ⟨_, (false), (a0_3), (a0_4), (a0_5), (by first|rfl|(simp; done)|(simp [*]; done)), H', ⟨by have := HJ4.out; first|omega|exact Nat.le_refl _⟩, ⟨by (with_reducible repeat (first|refine bN ?_ _|refine bD ?_|refine bA ?_ _)); exact BK110.out⟩, ⟨by (with_reducible repeat (first|refine bN ?_ _|refine bD ?_|refine bA ?_ _)); exact BK111.out⟩, ⟨by repeat (first|(with_reducible first|exact HB.out|apply lA|apply lN|apply lD|refine lS ?_ GE110.out|refine lS ?_ GE111.out)|exact HB.out)⟩⟩
         ·replace c70 := Bool.eq_false_iff.mpr c70
          subst c70
          have H1 : (step_Check.j1 kj4 false a0_0 a0_1 a0_2 a0_3 a0_4 a0_5 l0_6 a0_7 a0_0 0 0 a0_3 a0_4 a0_5 a0_7) = some r := by rw [if_neg (show ¬ (false = true) by decide)] at H; exact H
          clear H
          have H := H1
          clear H1
          have H' := aM H
          clear H
          go_wp2
          go_meet
          case rel => exact ⟨_, (false), (a0_3), (a0_4), (a0_5), (by first|rfl|(simp; done)|(simp [*]; done)), H', ⟨by have := HJ4.out; first|omega|exact Nat.le_refl _⟩, ⟨by (with_reducible repeat (first|refine bN ?_ _|refine bD ?_|refine bA ?_ _)); exact BK110.out⟩, ⟨by (with_reducible repeat (first|refine bN ?_ _|refine bD ?_|refine bA ?_ _)); exact BK111.out⟩, ⟨by repeat (first|(with_reducible first|exact HB.out|apply lA|apply lN|apply lD|refine lS ?_ GE110.out|refine lS ?_ GE111.out)|exact HB.out)⟩⟩
        ·rw [if_neg c69] at H
         have c69b0 : (a0_0 == 3) = false := beq_eq_false_iff_ne.mpr c69
         have c69b1 : (a0_0 != 3) = true := bne_iff_ne.mpr c69
         have H' := aM H
         clear H
         go_wp2
         go_meet
         case rel => exact ⟨_, (false), (a0_3), (a0_4), (a0_5), (by first|rfl|(simp; done)|(simp [*]; done)), H', ⟨by have := HJ4.out; first|omega|exact Nat.le_refl _⟩, ⟨by (with_reducible repeat (first|refine bN ?_ _|refine bD ?_|refine bA ?_ _)); exact BK110.out⟩, ⟨by (with_reducible repeat (first|refine bN ?_ _|refine bD ?_|refine bA ?_ _)); exact BK111.out⟩, ⟨by repeat (first|(with_reducible first|exact HB.out|apply lA|apply lN|apply lD|refine lS ?_ GE110.out|refine lS ?_ GE111.out)|exact HB.out)⟩⟩
    case rest =>
     clear HC19
     obtain ⟨kq, x4_18, x112003_18, x112004_18, x112005_18, rfl, HA, HJ18, BK110, BK111, HB⟩ := hcut
     cases kq with
    |zero => exact absurd HA.out (by simp [step_Check.j1])
    |succ kj18 =>
      have H := HA.out
      clear HA
      simp only [step_Check.j1] at H
      have HC85 := aM H
      clear H
      go_upto_region 16 with (fail)
      go_cut [4] (fun v4 wc => ∃ (kq : Nat) (x4_84 : Bool), v4 = .bool x4_84 ∧ Aside0 (step_Check.j2 kq x4_84 a0_0 a0_1 a0_2 a0_3 a0_4 a0_5 l0_6 a0_7 = some r) ∧ Aside0 (kq ≤ kj18) ∧ Aside0 (wc.heap[gb110]? = some (.cells #[.int .i64 a0_0, .int .i64 a0_1, .int .i64 a0_2, .int .i64 a0_3, .int .i64 a0_4, .int .i64 a0_5, (.slice A0_6 l0_6.length c0_6), .int .i64 a0_7] 24 (0, 0))) ∧ Aside0 (wc.heap[gb111]? = some (.cells #[.int .i64 a0_0, .int .i64 0, .int .i64 0, .int .i64 x112003_18, .int .i64 x112004_18, .int .i64 x112005_18, (.slice none 0 0), .int .i64 a0_7] 24 (0, 0))) ∧ Aside0 (Below w.heap.size w wc))
      case first =>
       have H := HC85.out
       clear HC85
       by_cases c86 : x4_18 = true
       ·subst c86
        have H1 : (if x112003_18 = 0 then (if x112004_18 = 0 then (step_Check.j2 kj18 (x112005_18 == 0) a0_0 a0_1 a0_2 a0_3 a0_4 a0_5 l0_6 a0_7) else (step_Check.j2 kj18 false a0_0 a0_1 a0_2 a0_3 a0_4 a0_5 l0_6 a0_7)) else (step_Check.j2 kj18 false a0_0 a0_1 a0_2 a0_3 a0_4 a0_5 l0_6 a0_7)) = some r := by rw [if_pos rfl] at H; exact H
        clear H
        have H := H1
        clear H1
        by_cases c87 : x112003_18 = 0
        ·rw [if_pos c87] at H
         have c87b0 : (x112003_18 == 0) = true := beq_iff_eq.mpr c87
         have c87b1 : (x112003_18 != 0) = false := bne_eq_false_iff_eq.mpr c87
         clear c87
         (first|rw [c87b0]|(simp only [i64_w, i32_w]; rw [c87b0])|skip)
         by_cases c88 : x112004_18 = 0
         ·rw [if_pos c88] at H
          have c88b0 : (x112004_18 == 0) = true := beq_iff_eq.mpr c88
          have c88b1 : (x112004_18 != 0) = false := bne_eq_false_iff_eq.mpr c88
          clear c88
          have H' := aM H
          clear H
          have hnb89 := NB111_110.out
          have hnc89 := NB110_111.out
          obtain ⟨hcz90_0, hcz90_1, hcz90_2, hcz90_3, hcz90_4, hcz90_5, hcz90_6, hcz90_7, hfz90_0, hfz90_1, hfz90_2, hfz90_3, hfz90_4, hfz90_5, hfz90_6, hfz90_7⟩ := bx8z BK111.out
          go_wp2
          go_meet
          case rel => exact ⟨_, ((x112005_18 == 0)), (by first|rfl|(simp; done)|(simp [*]; done)), H', ⟨by have := HJ4.out; have := HJ18.out; first|omega|exact Nat.le_refl _⟩, ⟨by (with_reducible repeat (first|refine bN ?_ _|refine bD ?_|refine bA ?_ _)); exact BK110.out⟩, ⟨by (with_reducible repeat (first|refine bN ?_ _|refine bD ?_|refine bA ?_ _)); exact BK111.out⟩, ⟨by repeat (first|(with_reducible first|exact HB.out|apply lA|apply lN|apply lD|refine lS ?_ GE110.out|refine lS ?_ GE111.out)|exact HB.out)⟩⟩
         ·rw [if_neg c88] at H
          have c88b0 : (x112004_18 == 0) = false := beq_eq_false_iff_ne.mpr c88
          have c88b1 : (x112004_18 != 0) = true := bne_iff_ne.mpr c88
          have H' := aM H
          clear H
          have hnb91 := NB111_110.out
          have hnc91 := NB110_111.out
          obtain ⟨hcz92_0, hcz92_1, hcz92_2, hcz92_3, hcz92_4, hcz92_5, hcz92_6, hcz92_7, hfz92_0, hfz92_1, hfz92_2, hfz92_3, hfz92_4, hfz92_5, hfz92_6, hfz92_7⟩ := bx8z BK111.out
          go_wp2
          go_meet
          case rel => exact ⟨_, (false), (by first|rfl|(simp; done)|(simp [*]; done)), H', ⟨by have := HJ4.out; have := HJ18.out; first|omega|exact Nat.le_refl _⟩, ⟨by (with_reducible repeat (first|refine bN ?_ _|refine bD ?_|refine bA ?_ _)); exact BK110.out⟩, ⟨by (with_reducible repeat (first|refine bN ?_ _|refine bD ?_|refine bA ?_ _)); exact BK111.out⟩, ⟨by repeat (first|(with_reducible first|exact HB.out|apply lA|apply lN|apply lD|refine lS ?_ GE110.out|refine lS ?_ GE111.out)|exact HB.out)⟩⟩
        ·rw [if_neg c87] at H
         have c87b0 : (x112003_18 == 0) = false := beq_eq_false_iff_ne.mpr c87
         have c87b1 : (x112003_18 != 0) = true := bne_iff_ne.mpr c87
         (first|rw [c87b0]|(simp only [i64_w, i32_w]; rw [c87b0])|skip)
         have H' := aM H
         clear H
         have hnb93 := NB111_110.out
         have hnc93 := NB110_111.out
         obtain ⟨hcz94_0, hcz94_1, hcz94_2, hcz94_3, hcz94_4, hcz94_5, hcz94_6, hcz94_7, hfz94_0, hfz94_1, hfz94_2, hfz94_3, hfz94_4, hfz94_5, hfz94_6, hfz94_7⟩ := bx8z BK111.out
         go_wp2
         go_meet
         case rel => exact ⟨_, (false), (by first|rfl|(simp; done)|(simp [*]; done)), H', ⟨by have := HJ4.out; have := HJ18.out; first|omega|exact Nat.le_refl _⟩, ⟨by (with_reducible repeat (first|refine bN ?_ _|refine bD ?_|refine bA ?_ _)); exact BK110.out⟩, ⟨by (with_reducible repeat (first|refine bN ?_ _|refine bD ?_|refine bA ?_ _)); exact BK111.out⟩, ⟨by repeat (first|(with_reducible first|exact HB.out|apply lA|apply lN|apply lD|refine lS ?_ GE110.out|refine lS ?_ GE111.out)|exact HB.out)⟩⟩
       ·replace c86 := Bool.eq_false_iff.mpr c86
        subst c86
        have H1 : (step_Check.j2 kj18 false a0_0 a0_1 a0_2 a0_3 a0_4 a0_5 l0_6 a0_7) = some r := by rw [if_neg (show ¬ (false = true) by decide)] at H; exact H
        clear H
        have H := H1
        clear H1
        have H' := aM H
        clear H
        go_wp2
        go_meet
        case rel => exact ⟨_, (false), (by first|rfl|(simp; done)|(simp [*]; done)), H', ⟨by have := HJ4.out; have := HJ18.out; first|omega|exact Nat.le_refl _⟩, ⟨by (with_reducible repeat (first|refine bN ?_ _|refine bD ?_|refine bA ?_ _)); exact BK110.out⟩, ⟨by (with_reducible repeat (first|refine bN ?_ _|refine bD ?_|refine bA ?_ _)); exact BK111.out⟩, ⟨by repeat (first|(with_reducible first|exact HB.out|apply lA|apply lN|apply lD|refine lS ?_ GE110.out|refine lS ?_ GE111.out)|exact HB.out)⟩⟩
      case rest =>
       clear HC85
       obtain ⟨kq, x4_84, rfl, HA, HJ84, BK110, BK111, HB⟩ := hcut
       cases kq with
      |zero => exact absurd HA.out (by simp [step_Check.j2])
      |succ kj84 =>
        have H := HA.out
        clear HA
        simp only [step_Check.j2] at H
        have H' := aM H
        clear H
        have hnb95 := NB110_111.out
        have hnc95 := NB111_110.out
        obtain ⟨hcz96_0, hcz96_1, hcz96_2, hcz96_3, hcz96_4, hcz96_5, hcz96_6, hcz96_7, hfz96_0, hfz96_1, hfz96_2, hfz96_3, hfz96_4, hfz96_5, hfz96_6, hfz96_7⟩ := bx8z BK110.out
        go_wp2
        go_loopg [4, 123] kj84 (fun kq v4 v123 w' => ∃ (x4_4 : Bool) (x123_4 : Int), v4 = .bool x4_4 ∧ v123 = .int .i64 x123_4 ∧ Aside0 (step_Check.l0 kq x4_4 l0_6 (l0_6.length : Int) x123_4 = some r) ∧ Aside0 (kq ≤ kj84) ∧ Aside0 (w'.heap[gb110]? = some (.cells #[.int .i64 a0_0, .int .i64 a0_1, .int .i64 a0_2, .int .i64 a0_3, .int .i64 a0_4, .int .i64 a0_5, (.slice A0_6 l0_6.length c0_6), .int .i64 a0_7] 24 (0, 0))) ∧ Aside0 (w'.heap[gb111]? = some (.cells #[.int .i64 a0_0, .int .i64 0, .int .i64 0, .int .i64 x112003_18, .int .i64 x112004_18, .int .i64 x112005_18, (.slice none 0 0), .int .i64 a0_7] 24 (0, 0))) ∧ Aside0 (Below w.heap.size w w'))
        case atStart => exact ⟨(x4_84), (0), (by first|rfl|(simp; done)|(simp [*]; done)), (by first|rfl|(simp; done)|(simp [*]; done)), H', ⟨Nat.le_refl _⟩, ⟨by (with_reducible repeat (first|refine bN ?_ _|refine bD ?_|refine bA ?_ _)); exact BK110.out⟩, ⟨by (with_reducible repeat (first|refine bN ?_ _|refine bD ?_|refine bA ?_ _)); exact BK111.out⟩, ⟨by repeat (first|(with_reducible first|exact HB.out|apply lA|apply lN|apply lD|refine lS ?_ GE110.out|refine lS ?_ GE111.out)|exact HB.out)⟩⟩
        case round =>
         clear H'
         obtain ⟨x4_4, x123_4, rfl, rfl, HA, HK4, BK110, BK111, HB⟩ := hrel
         cases gk with
        |zero => exact absurd HA.out (by simp [step_Check.l0])
        |succ k4 =>
          have H := HA.out
          clear HA
          simp only [step_Check.l0] at H
          by_cases c97 : x123_4 < (l0_6.length : Int)
          ·rw [if_pos c97] at H
           have c97b0 : decide (x123_4 < (l0_6.length : Int)) = true := decide_eq_true c97
           clear c97
           replace H := ifS H; obtain ⟨c98, H⟩ := H
           have c98b0 : decide (0 ≤ x123_4) = true := decide_eq_true c98
           clear c98
           replace H := ifS H; obtain ⟨c99, H⟩ := H
           have c99b0 : decide (x123_4 < (l0_6.length : Int)) = true := decide_eq_true c99
           clear c99
           by_cases c100 : x4_4 = true
           ·subst c100
            have H1 : ((flat_Right.f ((rd_T57 l0_6 x123_4).f0) ((rd_T57 l0_6 x123_4).f1) ((rd_T57 l0_6 x123_4).f2) ((rd_T57 l0_6 x123_4).f3)).bind fun t120 => (step_Check.l0 k4 t120 l0_6 (l0_6.length : Int) (wrap64 (x123_4 + 1)))) = some r := by rw [if_pos rfl] at H; exact H
            clear H
            have H := H1
            clear H1
            replace H := Option.bind_eq_some_iff.mp H
            obtain ⟨t120, A1010, H⟩ := H
            replace H : (step_Check.l0 k4 t120 l0_6 (l0_6.length : Int) (wrap64 (x123_4 + 1))) = some r := H
            have A101 := aM A1010
            clear A1010
            have H' := aM H
            clear H
            have p118 : 0 ≤ (x123_4 : Int) := of_decide_eq_true (by assumption)
            have q118 : x123_4 < (l0_6.length : Int) := of_decide_eq_true (by assumption)
            obtain ⟨ad118, e118, hx118_0, hx118_1, hx118_2, hx118_3⟩ := at_T57 HR0_6.out x123_4 p118 q118
            cases e118
            replace hx118_0 := cB HB.out hx118_0
            replace hx118_1 := cB HB.out hx118_1
            replace hx118_2 := cB HB.out hx118_2
            replace hx118_3 := cB HB.out hx118_3
            replace p118 := eq_true p118
            replace q118 := eq_true q118
            go_wp2_with (first|((with_reducible refine gate_dst (N := 6) rfl ?_); (try (refine gate_guard (by rfl) ?_; dsimp only)); refine box_event ?hg (N := 6) ?hd (cs := #[.int .i64 0, .int .i64 0, .int .i64 0, .int .i64 0]) (t := 57) ?hr ?_; (case hd => rfl); (case hg => rfl); (case hr => first|(go_simp; done)|(go_simp; rfl)); intro gb119 hg w102 hbox hb; replace BK119 := aM (hbox); replace GW119 := aM ((by rw [hg]; exact (below_size (by repeat (first|(with_reducible first|exact HB.out|apply lA|apply lN|apply lD|refine lS ?_ GE110.out|refine lS ?_ GE111.out)|exact HB.out))) : w.heap.size ≤ gb119)); replace GE119 := aM ((by rw [hg]; exact (below_size (by repeat (first|(with_reducible first|exact HB.out|apply lA|apply lN|apply lD|refine lS ?_ GE110.out|refine lS ?_ GE111.out)|exact HB.out))) : w.heap.size ≤ gb119)); replace HB := aM (below_step (by repeat (first|(with_reducible first|exact HB.out|apply lA|apply lN|apply lD|refine lS ?_ GE110.out|refine lS ?_ GE111.out)|exact HB.out)) hb); replace NB110_119 := aM ((by rw [hg]; exact Nat.ne_of_lt (blk_lt (g := gb110) (o := .cells #[.int .i64 a0_0, .int .i64 a0_1, .int .i64 a0_2, .int .i64 a0_3, .int .i64 a0_4, .int .i64 a0_5, .slice (some ad118) l0_6.length c0_6, .int .i64 a0_7] 24 (0, 0)) (by (with_reducible repeat (first|refine bN ?_ _|refine bD ?_|refine bA ?_ _)); exact BK110.out)) : gb110 ≠ gb119)); replace NB119_110 := aM ((by rw [hg]; exact Nat.ne_of_gt (blk_lt (g := gb110) (o := .cells #[.int .i64 a0_0, .int .i64 a0_1, .int .i64 a0_2, .int .i64 a0_3, .int .i64 a0_4, .int .i64 a0_5, .slice (some ad118) l0_6.length c0_6, .int .i64 a0_7] 24 (0, 0)) (by (with_reducible repeat (first|refine bN ?_ _|refine bD ?_|refine bA ?_ _)); exact BK110.out)) : gb119 ≠ gb110)); replace BK110 := aM (blk_below (by (with_reducible repeat (first|refine bN ?_ _|refine bD ?_|refine bA ?_ _)); exact BK110.out) hb); replace NB111_119 := aM ((by rw [hg]; exact Nat.ne_of_lt (blk_lt (g := gb111) (o := .cells #[.int .i64 a0_0, .int .i64 0, .int .i64 0, .int .i64 x112003_18, .int .i64 x112004_18, .int .i64 x112005_18, .slice none 0 0, .int .i64 a0_7] 24 (0, 0)) (by (with_reducible repeat (first|refine bN ?_ _|refine bD ?_|refine bA ?_ _)); exact BK111.out)) : gb111 ≠ gb119)); replace NB119_111 := aM ((by rw [hg]; exact Nat.ne_of_gt (blk_lt (g := gb111) (o := .cells #[.int .i64 a0_0, .int .i64 0, .int .i64 0, .int .i64 x112003_18, .int .i64 x112004_18, .int .i64 x112005_18, .slice none 0 0, .int .i64 a0_7] 24 (0, 0)) (by (with_reducible repeat (first|refine bN ?_ _|refine bD ?_|refine bA ?_ _)); exact BK111.out)) : gb119 ≠ gb111)); replace BK111 := aM (blk_below (by (with_reducible repeat (first|refine bN ?_ _|refine bD ?_|refine bA ?_ _)); exact BK111.out) hb); clear hb hbox hg; have hnb103 := NB119_110.out; have hnc103 := NB110_119.out; have hnb104 := NB119_111.out; have hnc104 := NB111_119.out; obtain ⟨hcz105_0, hcz105_1, hcz105_2, hcz105_3, hfz105_0, hfz105_1, hfz105_2, hfz105_3⟩ := bx4z BK119.out)|(go_at_call 38; (with_reducible refine (flat_Right.calls ((rd_T57 l0_6 x123_4).f0) ((rd_T57 l0_6 x123_4).f1) ((rd_T57 l0_6 x123_4).f2) ((rd_T57 l0_6 x123_4).f3) t120 _ A101.out).mono ?_); rintro e w106 ⟨rfl, hb⟩; replace BK110 := aM (blk_below (g := gb110) (o := .cells #[.int .i64 a0_0, .int .i64 a0_1, .int .i64 a0_2, .int .i64 a0_3, .int .i64 a0_4, .int .i64 a0_5, .slice (some ad118) l0_6.length c0_6, .int .i64 a0_7] 24 (0, 0)) (by (with_reducible repeat (first|refine bN ?_ _|refine bD ?_|refine bA ?_ _)); refine far4 ?_ NB110_119.out; (with_reducible repeat (first|refine bN ?_ _|refine bD ?_|refine bA ?_ _)); exact BK110.out) hb); replace BK111 := aM (blk_below (g := gb111) (o := .cells #[.int .i64 a0_0, .int .i64 0, .int .i64 0, .int .i64 x112003_18, .int .i64 x112004_18, .int .i64 x112005_18, .slice none 0 0, .int .i64 a0_7] 24 (0, 0)) (by (with_reducible repeat (first|refine bN ?_ _|refine bD ?_|refine bA ?_ _)); refine far4 ?_ NB111_119.out; (with_reducible repeat (first|refine bN ?_ _|refine bD ?_|refine bA ?_ _)); exact BK111.out) hb); replace BK119 := aM (blk_below (g := gb119) (o := .cells #[.int .i64 ((rd_T57 l0_6 x123_4).f0), .int .i64 ((rd_T57 l0_6 x123_4).f1), .int .i64 ((rd_T57 l0_6 x123_4).f2), .int .i64 ((rd_T57 l0_6 x123_4).f3)] 57 (0, 0)) (by (with_reducible repeat (first|refine bN ?_ _|refine bD ?_|refine bA ?_ _)); apply put4; (with_reducible repeat (first|refine bN ?_ _|refine bD ?_|refine bA ?_ _)); exact BK119.out) hb); replace HB := aM (below_step (by repeat (first|(with_reducible first|exact HB.out|apply lA|apply lN|apply lD|refine lS ?_ GE110.out|refine lS ?_ GE111.out|refine lS ?_ GE119.out)|exact HB.out)) hb); (try clear hb); (try clear hb2); (try clear hk); (try clear hi)))
            go_roundg k4
            case measure => have := HJ4.out; have := HJ18.out; have := HJ84.out; have := HK4.out; omega
            case rel => exact ⟨(t120), (wrap64 (x123_4 + 1)), (by first|rfl|(simp; done)|(simp [*]; done)), (by first|rfl|(simp; done)|(simp [*]; done)), H', ⟨by have := HJ4.out; have := HJ18.out; have := HJ84.out; have := HK4.out; omega⟩, ⟨by (with_reducible repeat (first|refine bN ?_ _|refine bD ?_|refine bA ?_ _)); exact BK110.out⟩, ⟨by (with_reducible repeat (first|refine bN ?_ _|refine bD ?_|refine bA ?_ _)); exact BK111.out⟩, ⟨by repeat (first|(with_reducible first|exact HB.out|apply lA|apply lN|apply lD|refine lS ?_ GE110.out|refine lS ?_ GE111.out|refine lS ?_ GE119.out)|exact HB.out)⟩⟩
           ·replace c100 := Bool.eq_false_iff.mpr c100
            subst c100
            have H1 : (step_Check.l0 k4 false l0_6 (l0_6.length : Int) (wrap64 (x123_4 + 1))) = some r := by rw [if_neg (show ¬ (false = true) by decide)] at H; exact H
            clear H
            have H := H1
            clear H1
            have H' := aM H
            clear H
            have p118 : 0 ≤ (x123_4 : Int) := of_decide_eq_true (by assumption)
            have q118 : x123_4 < (l0_6.length : Int) := of_decide_eq_true (by assumption)
            obtain ⟨ad118, e118, hx118_0, hx118_1, hx118_2, hx118_3⟩ := at_T57 HR0_6.out x123_4 p118 q118
            cases e118
            replace hx118_0 := cB HB.out hx118_0
            replace hx118_1 := cB HB.out hx118_1
            replace hx118_2 := cB HB.out hx118_2
            replace hx118_3 := cB HB.out hx118_3
            replace p118 := eq_true p118
            replace q118 := eq_true q118
            go_wp2_with (first|((with_reducible refine gate_dst (N := 6) rfl ?_); (try (refine gate_guard (by rfl) ?_; dsimp only)); refine box_event ?hg (N := 6) ?hd (cs := #[.int .i64 0, .int .i64 0, .int .i64 0, .int .i64 0]) (t := 57) ?hr ?_; (case hd => rfl); (case hg => rfl); (case hr => first|(go_simp; done)|(go_simp; rfl)); intro gb119 hg w107 hbox hb; replace BK119 := aM (hbox); replace GW119 := aM ((by rw [hg]; exact (below_size (by repeat (first|(with_reducible first|exact HB.out|apply lA|apply lN|apply lD|refine lS ?_ GE110.out|refine lS ?_ GE111.out)|exact HB.out))) : w.heap.size ≤ gb119)); replace GE119 := aM ((by rw [hg]; exact (below_size (by repeat (first|(with_reducible first|exact HB.out|apply lA|apply lN|apply lD|refine lS ?_ GE110.out|refine lS ?_ GE111.out)|exact HB.out))) : w.heap.size ≤ gb119)); replace HB := aM (below_step (by repeat (first|(with_reducible first|exact HB.out|apply lA|apply lN|apply lD|refine lS ?_ GE110.out|refine lS ?_ GE111.out)|exact HB.out)) hb); replace NB110_119 := aM ((by rw [hg]; exact Nat.ne_of_lt (blk_lt (g := gb110) (o := .cells #[.int .i64 a0_0, .int .i64 a0_1, .int .i64 a0_2, .int .i64 a0_3, .int .i64 a0_4, .int .i64 a0_5, .slice (some ad118) l0_6.length c0_6, .int .i64 a0_7] 24 (0, 0)) (by (with_reducible repeat (first|refine bN ?_ _|refine bD ?_|refine bA ?_ _)); exact BK110.out)) : gb110 ≠ gb119)); replace NB119_110 := aM ((by rw [hg]; exact Nat.ne_of_gt (blk_lt (g := gb110) (o := .cells #[.int .i64 a0_0, .int .i64 a0_1, .int .i64 a0_2, .int .i64 a0_3, .int .i64 a0_4, .int .i64 a0_5, .slice (some ad118) l0_6.length c0_6, .int .i64 a0_7] 24 (0, 0)) (by (with_reducible repeat (first|refine bN ?_ _|refine bD ?_|refine bA ?_ _)); exact BK110.out)) : gb119 ≠ gb110)); replace BK110 := aM (blk_below (by (with_reducible repeat (first|refine bN ?_ _|refine bD ?_|refine bA ?_ _)); exact BK110.out) hb); replace NB111_119 := aM ((by rw [hg]; exact Nat.ne_of_lt (blk_lt (g := gb111) (o := .cells #[.int .i64 a0_0, .int .i64 0, .int .i64 0, .int .i64 x112003_18, .int .i64 x112004_18, .int .i64 x112005_18, .slice none 0 0, .int .i64 a0_7] 24 (0, 0)) (by (with_reducible repeat (first|refine bN ?_ _|refine bD ?_|refine bA ?_ _)); exact BK111.out)) : gb111 ≠ gb119)); replace NB119_111 := aM ((by rw [hg]; exact Nat.ne_of_gt (blk_lt (g := gb111) (o := .cells #[.int .i64 a0_0, .int .i64 0, .int .i64 0, .int .i64 x112003_18, .int .i64 x112004_18, .int .i64 x112005_18, .slice none 0 0, .int .i64 a0_7] 24 (0, 0)) (by (with_reducible repeat (first|refine bN ?_ _|refine bD ?_|refine bA ?_ _)); exact BK111.out)) : gb119 ≠ gb111)); replace BK111 := aM (blk_below (by (with_reducible repeat (first|refine bN ?_ _|refine bD ?_|refine bA ?_ _)); exact BK111.out) hb); clear hb hbox hg; have hnb108 := NB119_110.out; have hnc108 := NB110_119.out; have hnb109 := NB119_111.out; have hnc109 := NB111_119.out; obtain ⟨hcz110_0, hcz110_1, hcz110_2, hcz110_3, hfz110_0, hfz110_1, hfz110_2, hfz110_3⟩ := bx4z BK119.out))
            go_roundg k4
            case measure => have := HJ4.out; have := HJ18.out; have := HJ84.out; have := HK4.out; omega
            case rel => exact ⟨(false), (wrap64 (x123_4 + 1)), (by first|rfl|(simp; done)|(simp [*]; done)), (by first|rfl|(simp; done)|(simp [*]; done)), H', ⟨by have := HJ4.out; have := HJ18.out; have := HJ84.out; have := HK4.out; omega⟩, ⟨by (with_reducible repeat (first|refine bN ?_ _|refine bD ?_|refine bA ?_ _)); refine far4 ?_ NB110_119.out; (with_reducible repeat (first|refine bN ?_ _|refine bD ?_|refine bA ?_ _)); exact BK110.out⟩, ⟨by (with_reducible repeat (first|refine bN ?_ _|refine bD ?_|refine bA ?_ _)); refine far4 ?_ NB111_119.out; (with_reducible repeat (first|refine bN ?_ _|refine bD ?_|refine bA ?_ _)); exact BK111.out⟩, ⟨by repeat (first|(with_reducible first|exact HB.out|apply lA|apply lN|apply lD|refine lS ?_ GE110.out|refine lS ?_ GE111.out|refine lS ?_ GE119.out)|exact HB.out)⟩⟩
          ·rw [if_neg c97] at H
           have c97b0 : decide (x123_4 < (l0_6.length : Int)) = false := decide_eq_false c97
           clear c97
           by_cases c111 : x4_4 = true
           ·subst c111
            have H1 : (some 0) = some r := by rw [if_pos rfl] at H; exact H
            clear H
            have H := H1
            clear H1
            obtain rfl := Option.some.inj H
            go_wp2
            go_ret
            exact ⟨by first|rfl|(simp [errW_none, errW_some] <;> rfl)|(simp [*, errW_none, errW_some] <;> rfl), by repeat (first|(with_reducible first|exact HB.out|apply lA|apply lN|apply lD|refine lS ?_ GE110.out|refine lS ?_ GE111.out)|exact HB.out)⟩
           ·replace c111 := Bool.eq_false_iff.mpr c111
            subst c111
            have H1 : (some 1) = some r := by rw [if_neg (show ¬ (false = true) by decide)] at H; exact H
            clear H
            have H := H1
            clear H1
            obtain rfl := Option.some.inj H
            go_wp2
            go_ret
            exact ⟨by first|rfl|(simp [errW_none, errW_some] <;> rfl)|(simp [*, errW_none, errW_some] <;> rfl), by repeat (first|(with_reducible first|exact HB.out|apply lA|apply lN|apply lD|refine lS ?_ GE110.out|refine lS ?_ GE111.out)|exact HB.out)⟩

end Go.Proofs.Ytlngjgcodknpiaa.PSm
