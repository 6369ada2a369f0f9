-- Written for this claim by a program (the kit's print, with hand-made contracts for what it does not take).
import Derived.Test.YtlngjgcodknpiaaPSmx0
import Derived.Test.YtlngjgcodknpiaaPSmx14
namespace Go.Proofs.Ytlngjgcodknpiaa.PSm
open Go.RowKit Go.Proofs.YtlngjgcodknpiaaW.PrintWords Go.Proofs.YtlngjgcodknpiaaW.PrintLast Go.Proofs.YtlngjgcodknpiaaW.PrintMore
attribute [local go_sem] max2_int min2_int max_two min_two max_three min_three max_four min_four   -- for this text's walks alone
set_option linter.unusedVariables false
set_option linter.unusedSimpArgs false

mutual
def emenderref09_Check.j0 : Nat → Bool → Int → Int → Int → Int → Int → Int → List (S57) → Int → Option (Int)
|0, _, _, _, _, _, _, _, _, _ => none
|k + 1, x24, x259000, x259001, x259002, x259003, x259004, x259005, x259006, x259007 => if x24 = true then (some 1) else (if x259003 = 0 then (if x259004 = 0 then (emenderref09_Check.j1 k (x259005 == 0) x259000 x259001 x259002 x259003 x259004 x259005 x259006 x259007) else (emenderref09_Check.j1 k false x259000 x259001 x259002 x259003 x259004 x259005 x259006 x259007)) else (emenderref09_Check.j1 k false x259000 x259001 x259002 x259003 x259004 x259005 x259006 x259007))
def emenderref09_Check.j1 : Nat → Bool → Int → Int → Int → Int → Int → Int → List (S57) → Int → Option (Int)
|0, _, _, _, _, _, _, _, _, _ => none
|k + 1, x3, x259000, x259001, x259002, x259003, x259004, x259005, x259006, x259007 => if x259000 = 0 then (if x3 = true then (emenderref09_Check.j3 k (x259007 == 0) x259000 x259001 x259002 x259003 x259004 x259005 x259006 x259007) else (emenderref09_Check.j3 k false x259000 x259001 x259002 x259003 x259004 x259005 x259006 x259007)) else (if x259000 = 1 then (if x259001 ≤ x259003 then (if x259003 < x259004 then (if x259004 ≤ x259002 then (if x259005 ≥ 0 then (if x259005 ≤ (x259006.length : Int) then (emenderref09_Check.j3 k (x259007 == 0) x259000 x259001 x259002 x259003 x259004 x259005 x259006 x259007) else (emenderref09_Check.j3 k false x259000 x259001 x259002 x259003 x259004 x259005 x259006 x259007)) else (emenderref09_Check.j3 k false x259000 x259001 x259002 x259003 x259004 x259005 x259006 x259007)) else (emenderref09_Check.j3 k false x259000 x259001 x259002 x259003 x259004 x259005 x259006 x259007)) else (emenderref09_Check.j3 k false x259000 x259001 x259002 x259003 x259004 x259005 x259006 x259007)) else (emenderref09_Check.j3 k false x259000 x259001 x259002 x259003 x259004 x259005 x259006 x259007)) else (if x259000 = 2 then (emenderref09_Check.j2 k x3 (x259000 == 2) x259000 x259001 x259002 x259003 x259004 x259005 x259006 x259007) else (emenderref09_Check.j2 k x3 (x259000 == 3) x259000 x259001 x259002 x259003 x259004 x259005 x259006 x259007)))
def emenderref09_Check.j3 : Nat → Bool → Int → Int → Int → Int → Int → Int → List (S57) → Int → Option (Int)
|0, _, _, _, _, _, _, _, _, _ => none
|k + 1, x4, x259000, x259001, x259002, x259003, x259004, x259005, x259006, x259007 => emenderref09_Check.l0 k x4 0 x259000 x259001 x259002 x259003 x259004 x259005 x259006 x259007
def emenderref09_Check.l0 : Nat → Bool → Int → Int → Int → Int → Int → Int → Int → List (S57) → Int → Option (Int)
|0, _, _, _, _, _, _, _, _, _, _ => none
|k + 1, x4, x5, x259000, x259001, x259002, x259003, x259004, x259005, x259006, x259007 => if x5 < (x259006.length : Int) then (if x4 = true then (if 0 ≤ x5 then ((emenderref04_Right.f k ((rd_T57 x259006 x5).f0) ((rd_T57 x259006 x5).f1) ((rd_T57 x259006 x5).f2) ((rd_T57 x259006 x5).f3)).bind fun t260 => (emenderref09_Check.l0 k t260 (wrap64 (x5 + 1)) x259000 x259001 x259002 x259003 x259004 x259005 x259006 x259007)) else (none)) else (emenderref09_Check.l0 k false (wrap64 (x5 + 1)) x259000 x259001 x259002 x259003 x259004 x259005 x259006 x259007)) else (if x4 = true then (some 0) else (some 1))
def emenderref09_Check.j2 : Nat → Bool → Bool → Int → Int → Int → Int → Int → Int → List (S57) → Int → Option (Int)
|0, _, _, _, _, _, _, _, _, _, _ => none
|k + 1, x3, x87, x259000, x259001, x259002, x259003, x259004, x259005, x259006, x259007 => if x87 = true then (if x3 = true then (if x259001 < x259002 then (if (x259006.length : Int) = 0 then (if x259007 = 1 then (emenderref09_Check.j3 k true x259000 x259001 x259002 x259003 x259004 x259005 x259006 x259007) else (if x259007 = 2 then (emenderref09_Check.j3 k true x259000 x259001 x259002 x259003 x259004 x259005 x259006 x259007) else (emenderref09_Check.j3 k (x259007 == 4) x259000 x259001 x259002 x259003 x259004 x259005 x259006 x259007))) else (emenderref09_Check.j3 k false x259000 x259001 x259002 x259003 x259004 x259005 x259006 x259007)) else (emenderref09_Check.j3 k false x259000 x259001 x259002 x259003 x259004 x259005 x259006 x259007)) else (emenderref09_Check.j3 k false x259000 x259001 x259002 x259003 x259004 x259005 x259006 x259007)) else (emenderref09_Check.j3 k false x259000 x259001 x259002 x259003 x259004 x259005 x259006 x259007)
end
def emenderref09_Check.f (k : Nat) (a0_0 : Int) (a0_1 : Int) (a0_2 : Int) (a0_3 : Int) (a0_4 : Int) (a0_5 : Int) (l0_6 : List (S57)) (a0_7 : Int) : Option (Int) := if (l0_6.length : Int) > 2048 then (some 2) else (if a0_1 < 0 then (emenderref09_Check.j0 k true a0_0 a0_1 a0_2 a0_3 a0_4 a0_5 l0_6 a0_7) else (if a0_1 > a0_2 then (emenderref09_Check.j0 k true a0_0 a0_1 a0_2 a0_3 a0_4 a0_5 l0_6 a0_7) else (emenderref09_Check.j0 k (decide (a0_2 > 2048)) a0_0 a0_1 a0_2 a0_3 a0_4 a0_5 l0_6 a0_7)))
theorem emenderref09_Check.mono_l : ∀ k, (∀ y0 y1 y2 y3 y4 y5 y6 y7 y8, LeO (emenderref09_Check.j0 k y0 y1 y2 y3 y4 y5 y6 y7 y8) (emenderref09_Check.j0 (k + 1) y0 y1 y2 y3 y4 y5 y6 y7 y8)) ∧ (∀ y0 y1 y2 y3 y4 y5 y6 y7 y8, LeO (emenderref09_Check.j1 k y0 y1 y2 y3 y4 y5 y6 y7 y8) (emenderref09_Check.j1 (k + 1) y0 y1 y2 y3 y4 y5 y6 y7 y8)) ∧ (∀ y0 y1 y2 y3 y4 y5 y6 y7 y8, LeO (emenderref09_Check.j3 k y0 y1 y2 y3 y4 y5 y6 y7 y8) (emenderref09_Check.j3 (k + 1) y0 y1 y2 y3 y4 y5 y6 y7 y8)) ∧ (∀ y0 y1 y2 y3 y4 y5 y6 y7 y8 y9, LeO (emenderref09_Check.l0 k y0 y1 y2 y3 y4 y5 y6 y7 y8 y9) (emenderref09_Check.l0 (k + 1) y0 y1 y2 y3 y4 y5 y6 y7 y8 y9)) ∧ (∀ y0 y1 y2 y3 y4 y5 y6 y7 y8 y9, LeO (emenderref09_Check.j2 k y0 y1 y2 y3 y4 y5 y6 y7 y8 y9) (emenderref09_Check.j2 (k + 1) y0 y1 y2 y3 y4 y5 y6 y7 y8 y9))
|0 => ⟨fun _ _ _ _ _ _ _ _ _ r h => by simp [emenderref09_Check.j0] at h, fun _ _ _ _ _ _ _ _ _ r h => by simp [emenderref09_Check.j1] at h, fun _ _ _ _ _ _ _ _ _ r h => by simp [emenderref09_Check.j3] at h, fun _ _ _ _ _ _ _ _ _ _ r h => by simp [emenderref09_Check.l0] at h, fun _ _ _ _ _ _ _ _ _ _ r h => by simp [emenderref09_Check.j2] at h⟩
|k + 1 => by
  obtain ⟨ih0, ih1, ih2, ih3, ih4⟩ := emenderref09_Check.mono_l k
  refine ⟨?_, ?_, ?_, ?_, ?_⟩
  ·intro y0 y1 y2 y3 y4 y5 y6 y7 y8
   unfold emenderref09_Check.j0
   repeat' first
  |(with_reducible exact ih0 _ _ _ _ _ _ _ _ _)
  |(with_reducible exact ih1 _ _ _ _ _ _ _ _ _)
  |(with_reducible exact ih2 _ _ _ _ _ _ _ _ _)
  |(with_reducible exact ih3 _ _ _ _ _ _ _ _ _ _)
  |(with_reducible exact ih4 _ _ _ _ _ _ _ _ _ _)
  |(with_reducible exact emenderref04_Right.mono _ _ _ _ _)
  |(with_reducible exact LeO.refl _)
  |(with_reducible exact LeO.none _)
  |(with_reducible refine LeO.ite ?_ ?_)
  |(with_reducible refine LeO.bind ?_ (fun _ => ?_))
  |exact ih0 _ _ _ _ _ _ _ _ _
  |exact ih1 _ _ _ _ _ _ _ _ _
  |exact ih2 _ _ _ _ _ _ _ _ _
  |exact ih3 _ _ _ _ _ _ _ _ _ _
  |exact ih4 _ _ _ _ _ _ _ _ _ _
  |exact emenderref04_Right.mono _ _ _ _ _
  |exact LeO.none _
  |refine LeO.ite ?_ ?_
  |refine LeO.bind ?_ (fun _ => ?_)
  ·intro y0 y1 y2 y3 y4 y5 y6 y7 y8
   unfold emenderref09_Check.j1
   repeat' first
  |(with_reducible exact ih0 _ _ _ _ _ _ _ _ _)
  |(with_reducible exact ih1 _ _ _ _ _ _ _ _ _)
  |(with_reducible exact ih2 _ _ _ _ _ _ _ _ _)
  |(with_reducible exact ih3 _ _ _ _ _ _ _ _ _ _)
  |(with_reducible exact ih4 _ _ _ _ _ _ _ _ _ _)
  |(with_reducible exact emenderref04_Right.mono _ _ _ _ _)
  |(with_reducible exact LeO.refl _)
  |(with_reducible exact LeO.none _)
  |(with_reducible refine LeO.ite ?_ ?_)
  |(with_reducible refine LeO.bind ?_ (fun _ => ?_))
  |exact ih0 _ _ _ _ _ _ _ _ _
  |exact ih1 _ _ _ _ _ _ _ _ _
  |exact ih2 _ _ _ _ _ _ _ _ _
  |exact ih3 _ _ _ _ _ _ _ _ _ _
  |exact ih4 _ _ _ _ _ _ _ _ _ _
  |exact emenderref04_Right.mono _ _ _ _ _
  |exact LeO.none _
  |refine LeO.ite ?_ ?_
  |refine LeO.bind ?_ (fun _ => ?_)
  ·intro y0 y1 y2 y3 y4 y5 y6 y7 y8
   unfold emenderref09_Check.j3
   repeat' first
  |(with_reducible exact ih0 _ _ _ _ _ _ _ _ _)
  |(with_reducible exact ih1 _ _ _ _ _ _ _ _ _)
  |(with_reducible exact ih2 _ _ _ _ _ _ _ _ _)
  |(with_reducible exact ih3 _ _ _ _ _ _ _ _ _ _)
  |(with_reducible exact ih4 _ _ _ _ _ _ _ _ _ _)
  |(with_reducible exact emenderref04_Right.mono _ _ _ _ _)
  |(with_reducible exact LeO.refl _)
  |(with_reducible exact LeO.none _)
  |(with_reducible refine LeO.ite ?_ ?_)
  |(with_reducible refine LeO.bind ?_ (fun _ => ?_))
  |exact ih0 _ _ _ _ _ _ _ _ _
  |exact ih1 _ _ _ _ _ _ _ _ _
  |exact ih2 _ _ _ _ _ _ _ _ _
  |exact ih3 _ _ _ _ _ _ _ _ _ _
  |exact ih4 _ _ _ _ _ _ _ _ _ _
  |exact emenderref04_Right.mono _ _ _ _ _
  |exact LeO.none _
  |refine LeO.ite ?_ ?_
  |refine LeO.bind ?_ (fun _ => ?_)
  ·intro y0 y1 y2 y3 y4 y5 y6 y7 y8 y9
   unfold emenderref09_Check.l0
   repeat' first
  |(with_reducible exact ih0 _ _ _ _ _ _ _ _ _)
  |(with_reducible exact ih1 _ _ _ _ _ _ _ _ _)
  |(with_reducible exact ih2 _ _ _ _ _ _ _ _ _)
  |(with_reducible exact ih3 _ _ _ _ _ _ _ _ _ _)
  |(with_reducible exact ih4 _ _ _ _ _ _ _ _ _ _)
  |(with_reducible exact emenderref04_Right.mono _ _ _ _ _)
  |(with_reducible exact LeO.refl _)
  |(with_reducible exact LeO.none _)
  |(with_reducible refine LeO.ite ?_ ?_)
  |(with_reducible refine LeO.bind ?_ (fun _ => ?_))
  |exact ih0 _ _ _ _ _ _ _ _ _
  |exact ih1 _ _ _ _ _ _ _ _ _
  |exact ih2 _ _ _ _ _ _ _ _ _
  |exact ih3 _ _ _ _ _ _ _ _ _ _
  |exact ih4 _ _ _ _ _ _ _ _ _ _
  |exact emenderref04_Right.mono _ _ _ _ _
  |exact LeO.none _
  |refine LeO.ite ?_ ?_
  |refine LeO.bind ?_ (fun _ => ?_)
  ·intro y0 y1 y2 y3 y4 y5 y6 y7 y8 y9
   unfold emenderref09_Check.j2
   repeat' first
  |(with_reducible exact ih0 _ _ _ _ _ _ _ _ _)
  |(with_reducible exact ih1 _ _ _ _ _ _ _ _ _)
  |(with_reducible exact ih2 _ _ _ _ _ _ _ _ _)
  |(with_reducible exact ih3 _ _ _ _ _ _ _ _ _ _)
  |(with_reducible exact ih4 _ _ _ _ _ _ _ _ _ _)
  |(with_reducible exact emenderref04_Right.mono _ _ _ _ _)
  |(with_reducible exact LeO.refl _)
  |(with_reducible exact LeO.none _)
  |(with_reducible refine LeO.ite ?_ ?_)
  |(with_reducible refine LeO.bind ?_ (fun _ => ?_))
  |exact ih0 _ _ _ _ _ _ _ _ _
  |exact ih1 _ _ _ _ _ _ _ _ _
  |exact ih2 _ _ _ _ _ _ _ _ _
  |exact ih3 _ _ _ _ _ _ _ _ _ _
  |exact ih4 _ _ _ _ _ _ _ _ _ _
  |exact emenderref04_Right.mono _ _ _ _ _
  |exact LeO.none _
  |refine LeO.ite ?_ ?_
  |refine LeO.bind ?_ (fun _ => ?_)
theorem emenderref09_Check.mono : ∀ a0 a1 a2 a3 a4 a5 a6 a7 k, LeO (emenderref09_Check.f k a0 a1 a2 a3 a4 a5 a6 a7) (emenderref09_Check.f (k + 1) a0 a1 a2 a3 a4 a5 a6 a7) := by
 intro a0 a1 a2 a3 a4 a5 a6 a7 k
 obtain ⟨ih0, ih1, ih2, ih3, ih4⟩ := emenderref09_Check.mono_l k
 unfold emenderref09_Check.f
 repeat' first
  |(with_reducible exact ih0 _ _ _ _ _ _ _ _ _)
  |(with_reducible exact ih1 _ _ _ _ _ _ _ _ _)
  |(with_reducible exact ih2 _ _ _ _ _ _ _ _ _)
  |(with_reducible exact ih3 _ _ _ _ _ _ _ _ _ _)
  |(with_reducible exact ih4 _ _ _ _ _ _ _ _ _ _)
  |(with_reducible exact emenderref04_Right.mono _ _ _ _ _)
  |(with_reducible exact LeO.refl _)
  |(with_reducible exact LeO.none _)
  |(with_reducible refine LeO.ite ?_ ?_)
  |(with_reducible refine LeO.bind ?_ (fun _ => ?_))
  |exact ih0 _ _ _ _ _ _ _ _ _
  |exact ih1 _ _ _ _ _ _ _ _ _
  |exact ih2 _ _ _ _ _ _ _ _ _
  |exact ih3 _ _ _ _ _ _ _ _ _ _
  |exact ih4 _ _ _ _ _ _ _ _ _ _
  |exact emenderref04_Right.mono _ _ _ _ _
  |exact LeO.none _
  |refine LeO.ite ?_ ?_
  |refine LeO.bind ?_ (fun _ => ?_)
set_option maxHeartbeats 8000000 in
set_option maxRecDepth 100000 in
theorem emenderref09_Check.calls (k : Nat) (a0_0 : Int) (a0_1 : Int) (a0_2 : Int) (a0_3 : Int) (a0_4 : Int) (a0_5 : Int) (A0_6 : Option Addr) (c0_6 : Nat) (l0_6 : List (S57)) (a0_7 : Int) (r : Int) (w : World) (hr0_6 : Kd.C k57 w A0_6 l0_6.length l0_6) (hc0_6 : l0_6.length ≤ c0_6) (h : emenderref09_Check.f k a0_0 a0_1 a0_2 a0_3 a0_4 a0_5 l0_6 a0_7 = some r) :
  Calls Try.prog 22 #[.agg #[.int .i64 a0_0, .int .i64 a0_1, .int .i64 a0_2, .int .i64 a0_3, .int .i64 a0_4, .int .i64 a0_5, .slice A0_6 l0_6.length c0_6, .int .i64 a0_7]] w fun e w' => e = .returned (.int .i64 r) ∧ Below w.heap.size w w' := by
 have hu24 := Try.underlying24
 have hu57 := Try.underlying57
 have HR0_6 := aM hr0_6
 have HC0_6 := aM hc0_6
 clear hr0_6 hc0_6
 have HB := aM (Below.refl w.heap.size w)
 have H : (if (l0_6.length : Int) > 2048 then (some 2) else (if a0_1 < 0 then (emenderref09_Check.j0 k true a0_0 a0_1 a0_2 a0_3 a0_4 a0_5 l0_6 a0_7) else (if a0_1 > a0_2 then (emenderref09_Check.j0 k true a0_0 a0_1 a0_2 a0_3 a0_4 a0_5 l0_6 a0_7) else (emenderref09_Check.j0 k (decide (a0_2 > 2048)) a0_0 a0_1 a0_2 a0_3 a0_4 a0_5 l0_6 a0_7)))) = some r := h
 clear h
 by_cases c2 : (l0_6.length : Int) > 2048
 ·rw [if_pos c2] at H
  have c2b0 : decide (2048 < (l0_6.length : Int)) = true := decide_eq_true c2
  have c2b1 : decide (2048 < l0_6.length) = true := decide_eq_true (by omega)
  clear c2
  obtain rfl := Option.some.inj H
  go_enter Try.func22, Try.ntmps22
  go_wp2_with (first|((with_reducible refine gate_dst (N := 1) rfl ?_); (try (refine gate_guard (by rfl) ?_; dsimp only)); refine box_event ?hg (N := 1) ?hd (cs := #[.int .i64 a0_0, .int .i64 a0_1, .int .i64 a0_2, .int .i64 a0_3, .int .i64 a0_4, .int .i64 a0_5, .slice A0_6 l0_6.length c0_6, .int .i64 a0_7]) (t := 24) ?hr ?_; (case hd => rfl); (case hg => rfl); (case hr => first|(go_simp; done)|(go_simp; rfl)); intro gb258 hg w3 hbox hb; have hB_ := (by repeat (first|(with_reducible first|exact HB.out|apply lA|apply lN|apply lD)|exact HB.out) : Below w.heap.size w _); replace HB := aM (below_step hB_ hb); replace BK258 := aM (hbox); replace GW258 := aM ((bsz hg hB_)); replace GE258 := aM ((bsz hg hB_)); clear hb hbox hg hB_; obtain ⟨hcz4_0, hcz4_1, hcz4_2, hcz4_3, hcz4_4, hcz4_5, hcz4_6, hcz4_7, hfz4_0, hfz4_1, hfz4_2, hfz4_3, hfz4_4, hfz4_5, hfz4_6, hfz4_7⟩ := bx8z BK258.out))
  go_ret
  exact ⟨by first|rfl|(simp [errW_none, errW_some] <;> rfl)|(simp [*, errW_none, errW_some] <;> rfl), by repeat (first|(with_reducible first|exact HB.out|apply lA|apply lN|apply lD|refine lS ?_ GE258.out)|exact HB.out)⟩
 ·rw [if_neg c2] at H
  have c2b0 : decide (2048 < (l0_6.length : Int)) = false := decide_eq_false c2
  have c2b1 : decide (2048 < l0_6.length) = false := decide_eq_false (by omega)
  clear c2
  have HC5 := aM H
  clear H
  go_enter Try.func22, Try.ntmps22
  go_upto_region 3 with (first|((with_reducible refine gate_dst (N := 1) rfl ?_); (try (refine gate_guard (by rfl) ?_; dsimp only)); refine box_event ?hg (N := 1) ?hd (cs := #[.int .i64 a0_0, .int .i64 a0_1, .int .i64 a0_2, .int .i64 a0_3, .int .i64 a0_4, .int .i64 a0_5, .slice A0_6 l0_6.length c0_6, .int .i64 a0_7]) (t := 24) ?hr ?_; (case hd => rfl); (case hg => rfl); (case hr => first|(go_simp; done)|(go_simp; rfl)); intro gb258 hg w6 hbox hb; have hB_ := (by repeat (first|(with_reducible first|exact HB.out|apply lA|apply lN|apply lD)|exact HB.out) : Below w.heap.size w _); replace HB := aM (below_step hB_ hb); replace BK258 := aM (hbox); replace GW258 := aM ((bsz hg hB_)); replace GE258 := aM ((bsz hg hB_)); clear hb hbox hg hB_; obtain ⟨hcz7_0, hcz7_1, hcz7_2, hcz7_3, hcz7_4, hcz7_5, hcz7_6, hcz7_7, hfz7_0, hfz7_1, hfz7_2, hfz7_3, hfz7_4, hfz7_5, hfz7_6, hfz7_7⟩ := bx8z BK258.out))
  (try simp only [Act.put, List.setIfInBounds_toArray, List.set_cons_zero, List.set_cons_succ])
  go_cut [24] (fun v24 wc => ∃ (kq : Nat) (x24_4 : Bool), v24 = .bool x24_4 ∧ Aside0 (emenderref09_Check.j0 kq x24_4 a0_0 a0_1 a0_2 a0_3 a0_4 a0_5 l0_6 a0_7 = some r) ∧ Aside0 (kq ≤ k) ∧ Aside0 (wc.heap[gb258]? = some (.cells #[.int .i64 a0_0, .int .i64 a0_1, .int .i64 a0_2, .int .i64 a0_3, .int .i64 a0_4, .int .i64 a0_5, (.slice A0_6 l0_6.length c0_6), .int .i64 a0_7] 24 (0, 0))) ∧ Aside0 (Below w.heap.size w wc))
  case first =>
   have H := HC5.out
   clear HC5
   by_cases c8 : a0_1 < 0
   ·rw [if_pos c8] at H
    have c8b0 : decide (a0_1 < 0) = true := decide_eq_true c8
    clear c8
    (first|rw [c8b0]|(simp only [i64_w, i32_w]; rw [c8b0])|skip)
    have H' := aM H
    clear H
    obtain ⟨hcz9_0, hcz9_1, hcz9_2, hcz9_3, hcz9_4, hcz9_5, hcz9_6, hcz9_7, hfz9_0, hfz9_1, hfz9_2, hfz9_3, hfz9_4, hfz9_5, hfz9_6, hfz9_7⟩ := bx8z BK258.out
    go_wp2
    go_meet
    case rel => exact ⟨_, (true), (by first|rfl|(simp; done)|(simp [*]; done)), H', ⟨by first|omega|exact Nat.le_refl _⟩, ⟨by (with_reducible repeat (first|refine bN ?_ _|refine bD ?_|refine bA ?_ _)); exact BK258.out⟩, ⟨by repeat (first|(with_reducible first|exact HB.out|apply lA|apply lN|apply lD|refine lS ?_ GE258.out)|exact HB.out)⟩⟩
   ·rw [if_neg c8] at H
    have c8b0 : decide (a0_1 < 0) = false := decide_eq_false c8
    clear c8
    (first|rw [c8b0]|(simp only [i64_w, i32_w]; rw [c8b0])|skip)
    by_cases c10 : a0_1 > a0_2
    ·rw [if_pos c10] at H
     have c10b0 : decide (a0_2 < a0_1) = true := decide_eq_true c10
     clear c10
     have H' := aM H
     clear H
     obtain ⟨hcz11_0, hcz11_1, hcz11_2, hcz11_3, hcz11_4, hcz11_5, hcz11_6, hcz11_7, hfz11_0, hfz11_1, hfz11_2, hfz11_3, hfz11_4, hfz11_5, hfz11_6, hfz11_7⟩ := bx8z BK258.out
     go_wp2
     go_meet
     case rel => exact ⟨_, (true), (by first|rfl|(simp; done)|(simp [*]; done)), H', ⟨by first|omega|exact Nat.le_refl _⟩, ⟨by (with_reducible repeat (first|refine bN ?_ _|refine bD ?_|refine bA ?_ _)); exact BK258.out⟩, ⟨by repeat (first|(with_reducible first|exact HB.out|apply lA|apply lN|apply lD|refine lS ?_ GE258.out)|exact HB.out)⟩⟩
    ·rw [if_neg c10] at H
     have c10b0 : decide (a0_2 < a0_1) = false := decide_eq_false c10
     clear c10
     have H' := aM H
     clear H
     obtain ⟨hcz12_0, hcz12_1, hcz12_2, hcz12_3, hcz12_4, hcz12_5, hcz12_6, hcz12_7, hfz12_0, hfz12_1, hfz12_2, hfz12_3, hfz12_4, hfz12_5, hfz12_6, hfz12_7⟩ := bx8z BK258.out
     go_wp2
     go_meet
     case rel => exact ⟨_, (decide (a0_2 > 2048)), (by first|rfl|(simp; done)|(simp [*]; done)), H', ⟨by first|omega|exact Nat.le_refl _⟩, ⟨by (with_reducible repeat (first|refine bN ?_ _|refine bD ?_|refine bA ?_ _)); exact BK258.out⟩, ⟨by repeat (first|(with_reducible first|exact HB.out|apply lA|apply lN|apply lD|refine lS ?_ GE258.out)|exact HB.out)⟩⟩
  case rest =>
   clear HC5
   obtain ⟨kq, x24_4, rfl, HA, HJ4, BK258, HB⟩ := hcut
   cases kq with
  |zero => exact absurd HA.out (by simp [emenderref09_Check.j0])
  |succ kj4 =>
    have H := HA.out
    clear HA
    simp only [emenderref09_Check.j0] at H
    by_cases c13 : x24_4 = true
    ·subst c13
     have H1 : (some 1) = some r := by rw [if_pos rfl] at H; exact H
     clear H
     have H := H1
     clear H1
     obtain rfl := Option.some.inj H
     go_wp2
     go_ret
     exact ⟨by first|rfl|(simp [errW_none, errW_some] <;> rfl)|(simp [*, errW_none, errW_some] <;> rfl), by repeat (first|(with_reducible first|exact HB.out|apply lA|apply lN|apply lD|refine lS ?_ GE258.out)|exact HB.out)⟩
    ·replace c13 := Bool.eq_false_iff.mpr c13
     subst c13
     have H1 : (if a0_3 = 0 then (if a0_4 = 0 then (emenderref09_Check.j1 kj4 (a0_5 == 0) a0_0 a0_1 a0_2 a0_3 a0_4 a0_5 l0_6 a0_7) else (emenderref09_Check.j1 kj4 false a0_0 a0_1 a0_2 a0_3 a0_4 a0_5 l0_6 a0_7)) else (emenderref09_Check.j1 kj4 false a0_0 a0_1 a0_2 a0_3 a0_4 a0_5 l0_6 a0_7)) = some r := by rw [if_neg (show ¬ (false = true) by decide)] at H; exact H
     clear H
     have H := H1
     clear H1
     have HC14 := aM H
     clear H
     go_upto_region 5 with (fail)
     go_cut [3] (fun v3 wc => ∃ (kq : Nat) (x3_13 : Bool), v3 = .bool x3_13 ∧ Aside0 (emenderref09_Check.j1 kq x3_13 a0_0 a0_1 a0_2 a0_3 a0_4 a0_5 l0_6 a0_7 = some r) ∧ Aside0 (kq ≤ kj4) ∧ Aside0 (wc.heap[gb258]? = some (.cells #[.int .i64 a0_0, .int .i64 a0_1, .int .i64 a0_2, .int .i64 a0_3, .int .i64 a0_4, .int .i64 a0_5, (.slice A0_6 l0_6.length c0_6), .int .i64 a0_7] 24 (0, 0))) ∧ Aside0 (Below w.heap.size w wc))
     case first =>
      have H := HC14.out
      clear HC14
      by_cases c15 : a0_3 = 0
      ·rw [if_pos c15] at H
       have c15b0 : (a0_3 == 0) = true := beq_iff_eq.mpr c15
       have c15b1 : (a0_3 != 0) = false := bne_eq_false_iff_eq.mpr c15
       clear c15
       (first|rw [c15b0]|(simp only [i64_w, i32_w]; rw [c15b0])|skip)
       by_cases c16 : a0_4 = 0
       ·rw [if_pos c16] at H
        have c16b0 : (a0_4 == 0) = true := beq_iff_eq.mpr c16
        have c16b1 : (a0_4 != 0) = false := bne_eq_false_iff_eq.mpr c16
        clear c16
        have H' := aM H
        clear H
        obtain ⟨hcz17_0, hcz17_1, hcz17_2, hcz17_3, hcz17_4, hcz17_5, hcz17_6, hcz17_7, hfz17_0, hfz17_1, hfz17_2, hfz17_3, hfz17_4, hfz17_5, hfz17_6, hfz17_7⟩ := bx8z BK258.out
        go_wp2
        go_meet
        case rel => exact ⟨_, ((a0_5 == 0)), (by first|rfl|(simp; done)|(simp [*]; done)), H', ⟨by have := HJ4.out; first|omega|exact Nat.le_refl _⟩, ⟨by (with_reducible repeat (first|refine bN ?_ _|refine bD ?_|refine bA ?_ _)); exact BK258.out⟩, ⟨by repeat (first|(with_reducible first|exact HB.out|apply lA|apply lN|apply lD|refine lS ?_ GE258.out)|exact HB.out)⟩⟩
       ·rw [if_neg c16] at H
        have c16b0 : (a0_4 == 0) = false := beq_eq_false_iff_ne.mpr c16
        have c16b1 : (a0_4 != 0) = true := bne_iff_ne.mpr c16
        have H' := aM H
        clear H
        obtain ⟨hcz18_0, hcz18_1, hcz18_2, hcz18_3, hcz18_4, hcz18_5, hcz18_6, hcz18_7, hfz18_0, hfz18_1, hfz18_2, hfz18_3, hfz18_4, hfz18_5, hfz18_6, hfz18_7⟩ := bx8z BK258.out
        go_wp2
        go_meet
        case rel => exact ⟨_, (false), (by first|rfl|(simp; done)|(simp [*]; done)), H', ⟨by have := HJ4.out; first|omega|exact Nat.le_refl _⟩, ⟨by (with_reducible repeat (first|refine bN ?_ _|refine bD ?_|refine bA ?_ _)); exact BK258.out⟩, ⟨by repeat (first|(with_reducible first|exact HB.out|apply lA|apply lN|apply lD|refine lS ?_ GE258.out)|exact HB.out)⟩⟩
      ·rw [if_neg c15] at H
       have c15b0 : (a0_3 == 0) = false := beq_eq_false_iff_ne.mpr c15
       have c15b1 : (a0_3 != 0) = true := bne_iff_ne.mpr c15
       (first|rw [c15b0]|(simp only [i64_w, i32_w]; rw [c15b0])|skip)
       have H' := aM H
       clear H
       obtain ⟨hcz19_0, hcz19_1, hcz19_2, hcz19_3, hcz19_4, hcz19_5, hcz19_6, hcz19_7, hfz19_0, hfz19_1, hfz19_2, hfz19_3, hfz19_4, hfz19_5, hfz19_6, hfz19_7⟩ := bx8z BK258.out
       go_wp2
       go_meet
       case rel => exact ⟨_, (false), (by first|rfl|(simp; done)|(simp [*]; done)), H', ⟨by have := HJ4.out; first|omega|exact Nat.le_refl _⟩, ⟨by (with_reducible repeat (first|refine bN ?_ _|refine bD ?_|refine bA ?_ _)); exact BK258.out⟩, ⟨by repeat (first|(with_reducible first|exact HB.out|apply lA|apply lN|apply lD|refine lS ?_ GE258.out)|exact HB.out)⟩⟩
     case rest =>
      clear HC14
      obtain ⟨kq, x3_13, rfl, HA, HJ13, BK258, HB⟩ := hcut
      cases kq with
     |zero => exact absurd HA.out (by simp [emenderref09_Check.j1])
     |succ kj13 =>
       have H := HA.out
       clear HA
       simp only [emenderref09_Check.j1] at H
       have HC20 := aM H
       clear H
       obtain ⟨hcz21_0, hcz21_1, hcz21_2, hcz21_3, hcz21_4, hcz21_5, hcz21_6, hcz21_7, hfz21_0, hfz21_1, hfz21_2, hfz21_3, hfz21_4, hfz21_5, hfz21_6, hfz21_7⟩ := bx8z BK258.out
       go_upto_block 0 with (fail)
       go_cut [4] (fun v4 wc => ∃ (kq : Nat) (x4_19 : Bool), v4 = .bool x4_19 ∧ Aside0 (emenderref09_Check.j3 kq x4_19 a0_0 a0_1 a0_2 a0_3 a0_4 a0_5 l0_6 a0_7 = some r) ∧ Aside0 (kq ≤ kj13) ∧ Aside0 (wc.heap[gb258]? = some (.cells #[.int .i64 a0_0, .int .i64 a0_1, .int .i64 a0_2, .int .i64 a0_3, .int .i64 a0_4, .int .i64 a0_5, (.slice A0_6 l0_6.length c0_6), .int .i64 a0_7] 24 (0, 0))) ∧ Aside0 (Below w.heap.size w wc))
       case first =>
        have H := HC20.out
        clear HC20
        by_cases c22 : a0_0 = 0
        ·rw [if_pos c22] at H
         have c22b0 : (a0_0 == 0) = true := beq_iff_eq.mpr c22
         have c22b1 : (a0_0 != 0) = false := bne_eq_false_iff_eq.mpr c22
         clear c22
         (first|rw [c22b0]|(simp only [i64_w, i32_w]; rw [c22b0])|skip)
         by_cases c23 : x3_13 = true
         ·subst c23
          have H1 : (emenderref09_Check.j3 kj13 (a0_7 == 0) a0_0 a0_1 a0_2 a0_3 a0_4 a0_5 l0_6 a0_7) = some r := by rw [if_pos rfl] at H; exact H
          clear H
          have H := H1
          clear H1
          have H' := aM H
          clear H
          obtain ⟨hcz24_0, hcz24_1, hcz24_2, hcz24_3, hcz24_4, hcz24_5, hcz24_6, hcz24_7, hfz24_0, hfz24_1, hfz24_2, hfz24_3, hfz24_4, hfz24_5, hfz24_6, hfz24_7⟩ := bx8z BK258.out
          go_wp2
          go_meet
          case rel => exact ⟨_, ((a0_7 == 0)), (by first|rfl|(simp; done)|(simp [*]; done)), H', ⟨by have := HJ4.out; have := HJ13.out; first|omega|exact Nat.le_refl _⟩, ⟨by (with_reducible repeat (first|refine bN ?_ _|refine bD ?_|refine bA ?_ _)); exact BK258.out⟩, ⟨by repeat (first|(with_reducible first|exact HB.out|apply lA|apply lN|apply lD|refine lS ?_ GE258.out)|exact HB.out)⟩⟩
         ·replace c23 := Bool.eq_false_iff.mpr c23
          subst c23
          have H1 : (emenderref09_Check.j3 kj13 false a0_0 a0_1 a0_2 a0_3 a0_4 a0_5 l0_6 a0_7) = some r := by rw [if_neg (show ¬ (false = true) by decide)] at H; exact H
          clear H
          have H := H1
          clear H1
          have H' := aM H
          clear H
          go_wp2
          go_meet
          case rel => exact ⟨_, (false), (by first|rfl|(simp; done)|(simp [*]; done)), H', ⟨by have := HJ4.out; have := HJ13.out; first|omega|exact Nat.le_refl _⟩, ⟨by (with_reducible repeat (first|refine bN ?_ _|refine bD ?_|refine bA ?_ _)); exact BK258.out⟩, ⟨by repeat (first|(with_reducible first|exact HB.out|apply lA|apply lN|apply lD|refine lS ?_ GE258.out)|exact HB.out)⟩⟩
        ·rw [if_neg c22] at H
         have c22b0 : (a0_0 == 0) = false := beq_eq_false_iff_ne.mpr c22
         have c22b1 : (a0_0 != 0) = true := bne_iff_ne.mpr c22
         (first|rw [c22b0]|(simp only [i64_w, i32_w]; rw [c22b0])|skip)
         by_cases c25 : a0_0 = 1
         ·rw [if_pos c25] at H
          have c25b0 : (a0_0 == 1) = true := beq_iff_eq.mpr c25
          have c25b1 : (a0_0 != 1) = false := bne_eq_false_iff_eq.mpr c25
          clear c25
          by_cases c26 : a0_1 ≤ a0_3
          ·rw [if_pos c26] at H
           have c26b0 : decide (a0_1 ≤ a0_3) = true := decide_eq_true c26
           clear c26
           by_cases c27 : a0_3 < a0_4
           ·rw [if_pos c27] at H
            have c27b0 : decide (a0_3 < a0_4) = true := decide_eq_true c27
            clear c27
            by_cases c28 : a0_4 ≤ a0_2
            ·rw [if_pos c28] at H
             have c28b0 : decide (a0_4 ≤ a0_2) = true := decide_eq_true c28
             clear c28
             by_cases c29 : a0_5 ≥ 0
             ·rw [if_pos c29] at H
              have c29b0 : decide (0 ≤ a0_5) = true := decide_eq_true c29
              clear c29
              by_cases c30 : a0_5 ≤ (l0_6.length : Int)
              ·rw [if_pos c30] at H
               have c30b0 : decide (a0_5 ≤ (l0_6.length : Int)) = true := decide_eq_true c30
               clear c30
               have H' := aM H
               clear H
               obtain ⟨hcz31_0, hcz31_1, hcz31_2, hcz31_3, hcz31_4, hcz31_5, hcz31_6, hcz31_7, hfz31_0, hfz31_1, hfz31_2, hfz31_3, hfz31_4, hfz31_5, hfz31_6, hfz31_7⟩ := bx8z BK258.out
               go_wp2
               go_meet
               case rel => exact ⟨_, ((a0_7 == 0)), (by first|rfl|(simp; done)|(simp [*]; done)), H', ⟨by have := HJ4.out; have := HJ13.out; first|omega|exact Nat.le_refl _⟩, ⟨by (with_reducible repeat (first|refine bN ?_ _|refine bD ?_|refine bA ?_ _)); exact BK258.out⟩, ⟨by repeat (first|(with_reducible first|exact HB.out|apply lA|apply lN|apply lD|refine lS ?_ GE258.out)|exact HB.out)⟩⟩
              ·rw [if_neg c30] at H
               have c30b0 : decide (a0_5 ≤ (l0_6.length : Int)) = false := decide_eq_false c30
               clear c30
               have H' := aM H
               clear H
               obtain ⟨hcz32_0, hcz32_1, hcz32_2, hcz32_3, hcz32_4, hcz32_5, hcz32_6, hcz32_7, hfz32_0, hfz32_1, hfz32_2, hfz32_3, hfz32_4, hfz32_5, hfz32_6, hfz32_7⟩ := bx8z BK258.out
               go_wp2
               go_meet
               case rel => exact ⟨_, (false), (by first|rfl|(simp; done)|(simp [*]; done)), H', ⟨by have := HJ4.out; have := HJ13.out; first|omega|exact Nat.le_refl _⟩, ⟨by (with_reducible repeat (first|refine bN ?_ _|refine bD ?_|refine bA ?_ _)); exact BK258.out⟩, ⟨by repeat (first|(with_reducible first|exact HB.out|apply lA|apply lN|apply lD|refine lS ?_ GE258.out)|exact HB.out)⟩⟩
             ·rw [if_neg c29] at H
              have c29b0 : decide (0 ≤ a0_5) = false := decide_eq_false c29
              clear c29
              have H' := aM H
              clear H
              obtain ⟨hcz33_0, hcz33_1, hcz33_2, hcz33_3, hcz33_4, hcz33_5, hcz33_6, hcz33_7, hfz33_0, hfz33_1, hfz33_2, hfz33_3, hfz33_4, hfz33_5, hfz33_6, hfz33_7⟩ := bx8z BK258.out
              go_wp2
              go_meet
              case rel => exact ⟨_, (false), (by first|rfl|(simp; done)|(simp [*]; done)), H', ⟨by have := HJ4.out; have := HJ13.out; first|omega|exact Nat.le_refl _⟩, ⟨by (with_reducible repeat (first|refine bN ?_ _|refine bD ?_|refine bA ?_ _)); exact BK258.out⟩, ⟨by repeat (first|(with_reducible first|exact HB.out|apply lA|apply lN|apply lD|refine lS ?_ GE258.out)|exact HB.out)⟩⟩
            ·rw [if_neg c28] at H
             have c28b0 : decide (a0_4 ≤ a0_2) = false := decide_eq_false c28
             clear c28
             have H' := aM H
             clear H
             obtain ⟨hcz34_0, hcz34_1, hcz34_2, hcz34_3, hcz34_4, hcz34_5, hcz34_6, hcz34_7, hfz34_0, hfz34_1, hfz34_2, hfz34_3, hfz34_4, hfz34_5, hfz34_6, hfz34_7⟩ := bx8z BK258.out
             go_wp2
             go_meet
             case rel => exact ⟨_, (false), (by first|rfl|(simp; done)|(simp [*]; done)), H', ⟨by have := HJ4.out; have := HJ13.out; first|omega|exact Nat.le_refl _⟩, ⟨by (with_reducible repeat (first|refine bN ?_ _|refine bD ?_|refine bA ?_ _)); exact BK258.out⟩, ⟨by repeat (first|(with_reducible first|exact HB.out|apply lA|apply lN|apply lD|refine lS ?_ GE258.out)|exact HB.out)⟩⟩
           ·rw [if_neg c27] at H
            have c27b0 : decide (a0_3 < a0_4) = false := decide_eq_false c27
            clear c27
            have H' := aM H
            clear H
            obtain ⟨hcz35_0, hcz35_1, hcz35_2, hcz35_3, hcz35_4, hcz35_5, hcz35_6, hcz35_7, hfz35_0, hfz35_1, hfz35_2, hfz35_3, hfz35_4, hfz35_5, hfz35_6, hfz35_7⟩ := bx8z BK258.out
            go_wp2
            go_meet
            case rel => exact ⟨_, (false), (by first|rfl|(simp; done)|(simp [*]; done)), H', ⟨by have := HJ4.out; have := HJ13.out; first|omega|exact Nat.le_refl _⟩, ⟨by (with_reducible repeat (first|refine bN ?_ _|refine bD ?_|refine bA ?_ _)); exact BK258.out⟩, ⟨by repeat (first|(with_reducible first|exact HB.out|apply lA|apply lN|apply lD|refine lS ?_ GE258.out)|exact HB.out)⟩⟩
          ·rw [if_neg c26] at H
           have c26b0 : decide (a0_1 ≤ a0_3) = false := decide_eq_false c26
           clear c26
           have H' := aM H
           clear H
           obtain ⟨hcz36_0, hcz36_1, hcz36_2, hcz36_3, hcz36_4, hcz36_5, hcz36_6, hcz36_7, hfz36_0, hfz36_1, hfz36_2, hfz36_3, hfz36_4, hfz36_5, hfz36_6, hfz36_7⟩ := bx8z BK258.out
           go_wp2
           go_meet
           case rel => exact ⟨_, (false), (by first|rfl|(simp; done)|(simp [*]; done)), H', ⟨by have := HJ4.out; have := HJ13.out; first|omega|exact Nat.le_refl _⟩, ⟨by (with_reducible repeat (first|refine bN ?_ _|refine bD ?_|refine bA ?_ _)); exact BK258.out⟩, ⟨by repeat (first|(with_reducible first|exact HB.out|apply lA|apply lN|apply lD|refine lS ?_ GE258.out)|exact HB.out)⟩⟩
         ·rw [if_neg c25] at H
          have c25b0 : (a0_0 == 1) = false := beq_eq_false_iff_ne.mpr c25
          have c25b1 : (a0_0 != 1) = true := bne_iff_ne.mpr c25
          have HC37 := aM H
          clear H
          go_upto_if 87 with (fail)
          go_cut [87] (fun v87 wc => ∃ (kq : Nat) (x87_36 : Bool), v87 = .bool x87_36 ∧ Aside0 (emenderref09_Check.j2 kq x3_13 x87_36 a0_0 a0_1 a0_2 a0_3 a0_4 a0_5 l0_6 a0_7 = some r) ∧ Aside0 (kq ≤ kj13) ∧ Aside0 (wc.heap[gb258]? = some (.cells #[.int .i64 a0_0, .int .i64 a0_1, .int .i64 a0_2, .int .i64 a0_3, .int .i64 a0_4, .int .i64 a0_5, (.slice A0_6 l0_6.length c0_6), .int .i64 a0_7] 24 (0, 0))) ∧ Aside0 (Below w.heap.size w wc))
          case first =>
           have H := HC37.out
           clear HC37
           by_cases c38 : a0_0 = 2
           ·rw [if_pos c38] at H
            have c38b0 : (a0_0 == 2) = true := beq_iff_eq.mpr c38
            have c38b1 : (a0_0 != 2) = false := bne_eq_false_iff_eq.mpr c38
            clear c38
            (first|rw [c38b0]|(simp only [i64_w, i32_w]; rw [c38b0])|skip)
            have H' := aM H
            clear H
            go_wp2
            go_meet
            case rel => exact ⟨_, ((a0_0 == 2)), (by first|rfl|(simp; done)|(simp [*]; done)), H', ⟨by have := HJ4.out; have := HJ13.out; first|omega|exact Nat.le_refl _⟩, ⟨by (with_reducible repeat (first|refine bN ?_ _|refine bD ?_|refine bA ?_ _)); exact BK258.out⟩, ⟨by repeat (first|(with_reducible first|exact HB.out|apply lA|apply lN|apply lD|refine lS ?_ GE258.out)|exact HB.out)⟩⟩
           ·rw [if_neg c38] at H
            have c38b0 : (a0_0 == 2) = false := beq_eq_false_iff_ne.mpr c38
            have c38b1 : (a0_0 != 2) = true := bne_iff_ne.mpr c38
            (first|rw [c38b0]|(simp only [i64_w, i32_w]; rw [c38b0])|skip)
            have H' := aM H
            clear H
            go_wp2
            go_meet
            case rel => exact ⟨_, ((a0_0 == 3)), (by first|rfl|(simp; done)|(simp [*]; done)), H', ⟨by have := HJ4.out; have := HJ13.out; first|omega|exact Nat.le_refl _⟩, ⟨by (with_reducible repeat (first|refine bN ?_ _|refine bD ?_|refine bA ?_ _)); exact BK258.out⟩, ⟨by repeat (first|(with_reducible first|exact HB.out|apply lA|apply lN|apply lD|refine lS ?_ GE258.out)|exact HB.out)⟩⟩
          case rest =>
           clear HC37
           obtain ⟨kq, x87_36, rfl, HA, HJ36, BK258, HB⟩ := hcut
           cases kq with
          |zero => exact absurd HA.out (by simp [emenderref09_Check.j2])
          |succ kj36 =>
            have H := HA.out
            clear HA
            simp only [emenderref09_Check.j2] at H
            by_cases c39 : x87_36 = true
            ·subst c39
             have H1 : (if x3_13 = true then (if a0_1 < a0_2 then (if (l0_6.length : Int) = 0 then (if a0_7 = 1 then (emenderref09_Check.j3 kj36 true a0_0 a0_1 a0_2 a0_3 a0_4 a0_5 l0_6 a0_7) else (if a0_7 = 2 then (emenderref09_Check.j3 kj36 true a0_0 a0_1 a0_2 a0_3 a0_4 a0_5 l0_6 a0_7) else (emenderref09_Check.j3 kj36 (a0_7 == 4) a0_0 a0_1 a0_2 a0_3 a0_4 a0_5 l0_6 a0_7))) else (emenderref09_Check.j3 kj36 false a0_0 a0_1 a0_2 a0_3 a0_4 a0_5 l0_6 a0_7)) else (emenderref09_Check.j3 kj36 false a0_0 a0_1 a0_2 a0_3 a0_4 a0_5 l0_6 a0_7)) else (emenderref09_Check.j3 kj36 false a0_0 a0_1 a0_2 a0_3 a0_4 a0_5 l0_6 a0_7)) = some r := by rw [if_pos rfl] at H; exact H
             clear H
             have H := H1
             clear H1
             by_cases c40 : x3_13 = true
             ·subst c40
              have H1 : (if a0_1 < a0_2 then (if (l0_6.length : Int) = 0 then (if a0_7 = 1 then (emenderref09_Check.j3 kj36 true a0_0 a0_1 a0_2 a0_3 a0_4 a0_5 l0_6 a0_7) else (if a0_7 = 2 then (emenderref09_Check.j3 kj36 true a0_0 a0_1 a0_2 a0_3 a0_4 a0_5 l0_6 a0_7) else (emenderref09_Check.j3 kj36 (a0_7 == 4) a0_0 a0_1 a0_2 a0_3 a0_4 a0_5 l0_6 a0_7))) else (emenderref09_Check.j3 kj36 false a0_0 a0_1 a0_2 a0_3 a0_4 a0_5 l0_6 a0_7)) else (emenderref09_Check.j3 kj36 false a0_0 a0_1 a0_2 a0_3 a0_4 a0_5 l0_6 a0_7)) = some r := by rw [if_pos rfl] at H; exact H
              clear H
              have H := H1
              clear H1
              by_cases c41 : a0_1 < a0_2
              ·rw [if_pos c41] at H
               have c41b0 : decide (a0_1 < a0_2) = true := decide_eq_true c41
               clear c41
               by_cases c42 : (l0_6.length : Int) = 0
               ·rw [if_pos c42] at H
                have c42b0 : ((l0_6.length : Int) == 0) = true := beq_iff_eq.mpr c42
                have c42b1 : ((l0_6.length : Int) != 0) = false := bne_eq_false_iff_eq.mpr c42
                clear c42
                by_cases c43 : a0_7 = 1
                ·rw [if_pos c43] at H
                 have c43b0 : (a0_7 == 1) = true := beq_iff_eq.mpr c43
                 have c43b1 : (a0_7 != 1) = false := bne_eq_false_iff_eq.mpr c43
                 clear c43
                 have H' := aM H
                 clear H
                 obtain ⟨hcz44_0, hcz44_1, hcz44_2, hcz44_3, hcz44_4, hcz44_5, hcz44_6, hcz44_7, hfz44_0, hfz44_1, hfz44_2, hfz44_3, hfz44_4, hfz44_5, hfz44_6, hfz44_7⟩ := bx8z BK258.out
                 go_wp2
                 go_meet
                 case rel => exact ⟨_, (true), (by first|rfl|(simp; done)|(simp [*]; done)), H', ⟨by have := HJ4.out; have := HJ13.out; have := HJ36.out; first|omega|exact Nat.le_refl _⟩, ⟨by (with_reducible repeat (first|refine bN ?_ _|refine bD ?_|refine bA ?_ _)); exact BK258.out⟩, ⟨by repeat (first|(with_reducible first|exact HB.out|apply lA|apply lN|apply lD|refine lS ?_ GE258.out)|exact HB.out)⟩⟩
                ·rw [if_neg c43] at H
                 have c43b0 : (a0_7 == 1) = false := beq_eq_false_iff_ne.mpr c43
                 have c43b1 : (a0_7 != 1) = true := bne_iff_ne.mpr c43
                 by_cases c45 : a0_7 = 2
                 ·rw [if_pos c45] at H
                  have c45b0 : (a0_7 == 2) = true := beq_iff_eq.mpr c45
                  have c45b1 : (a0_7 != 2) = false := bne_eq_false_iff_eq.mpr c45
                  clear c45
                  have H' := aM H
                  clear H
                  obtain ⟨hcz46_0, hcz46_1, hcz46_2, hcz46_3, hcz46_4, hcz46_5, hcz46_6, hcz46_7, hfz46_0, hfz46_1, hfz46_2, hfz46_3, hfz46_4, hfz46_5, hfz46_6, hfz46_7⟩ := bx8z BK258.out
                  go_wp2
                  go_meet
                  case rel => exact ⟨_, (true), (by first|rfl|(simp; done)|(simp [*]; done)), H', ⟨by have := HJ4.out; have := HJ13.out; have := HJ36.out; first|omega|exact Nat.le_refl _⟩, ⟨by (with_reducible repeat (first|refine bN ?_ _|refine bD ?_|refine bA ?_ _)); exact BK258.out⟩, ⟨by repeat (first|(with_reducible first|exact HB.out|apply lA|apply lN|apply lD|refine lS ?_ GE258.out)|exact HB.out)⟩⟩
                 ·rw [if_neg c45] at H
                  have c45b0 : (a0_7 == 2) = false := beq_eq_false_iff_ne.mpr c45
                  have c45b1 : (a0_7 != 2) = true := bne_iff_ne.mpr c45
                  have H' := aM H
                  clear H
                  obtain ⟨hcz47_0, hcz47_1, hcz47_2, hcz47_3, hcz47_4, hcz47_5, hcz47_6, hcz47_7, hfz47_0, hfz47_1, hfz47_2, hfz47_3, hfz47_4, hfz47_5, hfz47_6, hfz47_7⟩ := bx8z BK258.out
                  go_wp2
                  go_meet
                  case rel => exact ⟨_, ((a0_7 == 4)), (by first|rfl|(simp; done)|(simp [*]; done)), H', ⟨by have := HJ4.out; have := HJ13.out; have := HJ36.out; first|omega|exact Nat.le_refl _⟩, ⟨by (with_reducible repeat (first|refine bN ?_ _|refine bD ?_|refine bA ?_ _)); exact BK258.out⟩, ⟨by repeat (first|(with_reducible first|exact HB.out|apply lA|apply lN|apply lD|refine lS ?_ GE258.out)|exact HB.out)⟩⟩
               ·rw [if_neg c42] at H
                have c42b0 : ((l0_6.length : Int) == 0) = false := beq_eq_false_iff_ne.mpr c42
                have c42b1 : ((l0_6.length : Int) != 0) = true := bne_iff_ne.mpr c42
                have c42b2 : ¬ (l0_6 = []) := fun h_ => c42 (by rw [h_]; rfl)
                have H' := aM H
                clear H
                obtain ⟨hcz48_0, hcz48_1, hcz48_2, hcz48_3, hcz48_4, hcz48_5, hcz48_6, hcz48_7, hfz48_0, hfz48_1, hfz48_2, hfz48_3, hfz48_4, hfz48_5, hfz48_6, hfz48_7⟩ := bx8z BK258.out
                go_wp2
                go_meet
                case rel => exact ⟨_, (false), (by first|rfl|(simp; done)|(simp [*]; done)), H', ⟨by have := HJ4.out; have := HJ13.out; have := HJ36.out; first|omega|exact Nat.le_refl _⟩, ⟨by (with_reducible repeat (first|refine bN ?_ _|refine bD ?_|refine bA ?_ _)); exact BK258.out⟩, ⟨by repeat (first|(with_reducible first|exact HB.out|apply lA|apply lN|apply lD|refine lS ?_ GE258.out)|exact HB.out)⟩⟩
              ·rw [if_neg c41] at H
               have c41b0 : decide (a0_1 < a0_2) = false := decide_eq_false c41
               clear c41
               have H' := aM H
               clear H
               obtain ⟨hcz49_0, hcz49_1, hcz49_2, hcz49_3, hcz49_4, hcz49_5, hcz49_6, hcz49_7, hfz49_0, hfz49_1, hfz49_2, hfz49_3, hfz49_4, hfz49_5, hfz49_6, hfz49_7⟩ := bx8z BK258.out
               go_wp2
               go_meet
               case rel => exact ⟨_, (false), (by first|rfl|(simp; done)|(simp [*]; done)), H', ⟨by have := HJ4.out; have := HJ13.out; have := HJ36.out; first|omega|exact Nat.le_refl _⟩, ⟨by (with_reducible repeat (first|refine bN ?_ _|refine bD ?_|refine bA ?_ _)); exact BK258.out⟩, ⟨by repeat (first|(with_reducible first|exact HB.out|apply lA|apply lN|apply lD|refine lS ?_ GE258.out)|exact HB.out)⟩⟩
             ·replace c40 := Bool.eq_false_iff.mpr c40
              subst c40
              have H1 : (emenderref09_Check.j3 kj36 false a0_0 a0_1 a0_2 a0_3 a0_4 a0_5 l0_6 a0_7) = some r := by rw [if_neg (show ¬ (false = true) by decide)] at H; exact H
              clear H
              have H := H1
              clear H1
              have H' := aM H
              clear H
              go_wp2
              go_meet
              case rel => exact ⟨_, (false), (by first|rfl|(simp; done)|(simp [*]; done)), H', ⟨by have := HJ4.out; have := HJ13.out; have := HJ36.out; first|omega|exact Nat.le_refl _⟩, ⟨by (with_reducible repeat (first|refine bN ?_ _|refine bD ?_|refine bA ?_ _)); exact BK258.out⟩, ⟨by repeat (first|(with_reducible first|exact HB.out|apply lA|apply lN|apply lD|refine lS ?_ GE258.out)|exact HB.out)⟩⟩
            ·replace c39 := Bool.eq_false_iff.mpr c39
             subst c39
             have H1 : (emenderref09_Check.j3 kj36 false a0_0 a0_1 a0_2 a0_3 a0_4 a0_5 l0_6 a0_7) = some r := by rw [if_neg (show ¬ (false = true) by decide)] at H; exact H
             clear H
             have H := H1
             clear H1
             have H' := aM H
             clear H
             go_wp2
             go_meet
             case rel => exact ⟨_, (false), (by first|rfl|(simp; done)|(simp [*]; done)), H', ⟨by have := HJ4.out; have := HJ13.out; have := HJ36.out; first|omega|exact Nat.le_refl _⟩, ⟨by (with_reducible repeat (first|refine bN ?_ _|refine bD ?_|refine bA ?_ _)); exact BK258.out⟩, ⟨by repeat (first|(with_reducible first|exact HB.out|apply lA|apply lN|apply lD|refine lS ?_ GE258.out)|exact HB.out)⟩⟩
       case rest =>
        clear HC20
        obtain ⟨kq, x4_19, rfl, HA, HJ19, BK258, HB⟩ := hcut
        cases kq with
       |zero => exact absurd HA.out (by simp [emenderref09_Check.j3])
       |succ kj19 =>
         have H := HA.out
         clear HA
         simp only [emenderref09_Check.j3] at H
         have H' := aM H
         clear H
         go_wp2
         go_loopg [4, 5] kj19 (fun kq v4 v5 w' => ∃ (x4_4 : Bool) (x5_4 : Int), v4 = .bool x4_4 ∧ v5 = .int .i64 x5_4 ∧ Aside0 (emenderref09_Check.l0 kq x4_4 x5_4 a0_0 a0_1 a0_2 a0_3 a0_4 a0_5 l0_6 a0_7 = some r) ∧ Aside0 (kq ≤ kj19) ∧ Aside0 (w'.heap[gb258]? = some (.cells #[.int .i64 a0_0, .int .i64 a0_1, .int .i64 a0_2, .int .i64 a0_3, .int .i64 a0_4, .int .i64 a0_5, (.slice A0_6 l0_6.length c0_6), .int .i64 a0_7] 24 (0, 0))) ∧ Aside0 (Below w.heap.size w w'))
         case atStart => exact ⟨(x4_19), (0), (by first|rfl|(simp; done)|(simp [*]; done)), (by first|rfl|(simp; done)|(simp [*]; done)), H', ⟨Nat.le_refl _⟩, ⟨by (with_reducible repeat (first|refine bN ?_ _|refine bD ?_|refine bA ?_ _)); exact BK258.out⟩, ⟨by repeat (first|(with_reducible first|exact HB.out|apply lA|apply lN|apply lD|refine lS ?_ GE258.out)|exact HB.out)⟩⟩
         case round =>
          clear H'
          obtain ⟨x4_4, x5_4, rfl, rfl, HA, HK4, BK258, HB⟩ := hrel
          cases gk with
         |zero => exact absurd HA.out (by simp [emenderref09_Check.l0])
         |succ k4 =>
           have H := HA.out
           clear HA
           simp only [emenderref09_Check.l0] at H
           by_cases c50 : x5_4 < (l0_6.length : Int)
           ·rw [if_pos c50] at H
            have c50b0 : decide (x5_4 < (l0_6.length : Int)) = true := decide_eq_true c50
            clear c50
            by_cases c51 : x4_4 = true
            ·subst c51
             have H1 : (if 0 ≤ x5_4 then ((emenderref04_Right.f k4 ((rd_T57 l0_6 x5_4).f0) ((rd_T57 l0_6 x5_4).f1) ((rd_T57 l0_6 x5_4).f2) ((rd_T57 l0_6 x5_4).f3)).bind fun t260 => (emenderref09_Check.l0 k4 t260 (wrap64 (x5_4 + 1)) a0_0 a0_1 a0_2 a0_3 a0_4 a0_5 l0_6 a0_7)) else (none)) = some r := by rw [if_pos rfl] at H; exact H
             clear H
             have H := H1
             clear H1
             replace H := ifS H; obtain ⟨c52, H⟩ := H
             have c52b0 : decide (0 ≤ x5_4) = true := decide_eq_true c52
             clear c52
             replace H := Option.bind_eq_some_iff.mp H
             obtain ⟨t260, A530, H⟩ := H
             replace H : (emenderref09_Check.l0 k4 t260 (wrap64 (x5_4 + 1)) a0_0 a0_1 a0_2 a0_3 a0_4 a0_5 l0_6 a0_7) = some r := H
             have A53 := aM A530
             clear A530
             have H' := aM H
             clear H
             obtain ⟨hcz54_0, hcz54_1, hcz54_2, hcz54_3, hcz54_4, hcz54_5, hcz54_6, hcz54_7, hfz54_0, hfz54_1, hfz54_2, hfz54_3, hfz54_4, hfz54_5, hfz54_6, hfz54_7⟩ := bx8z BK258.out
             have p259 : 0 ≤ (x5_4 : Int) := of_decide_eq_true (by assumption)
             have q259 : x5_4 < (l0_6.length : Int) := of_decide_eq_true (by assumption)
             obtain ⟨ad259, e259, hx259_0, hx259_1, hx259_2, hx259_3⟩ := at_T57 HR0_6.out x5_4 p259 q259
             cases e259
             replace hx259_0 := cB HB.out hx259_0
             replace hx259_1 := cB HB.out hx259_1
             replace hx259_2 := cB HB.out hx259_2
             replace hx259_3 := cB HB.out hx259_3
             replace p259 := eq_true p259
             replace q259 := eq_true q259
             go_wp2_with (first|(go_at_call 39; (with_reducible refine (emenderref04_Right.calls k4 ((rd_T57 l0_6 x5_4).f0) ((rd_T57 l0_6 x5_4).f1) ((rd_T57 l0_6 x5_4).f2) ((rd_T57 l0_6 x5_4).f3) t260 _ A53.out).mono ?_); rintro e w55 ⟨rfl, hb⟩; replace BK258 := aM (blk_below (by (with_reducible repeat (first|refine bN ?_ _|refine bD ?_|refine bA ?_ _)); exact BK258.out) hb); replace HB := aM (below_step (by repeat (first|(with_reducible first|exact HB.out|apply lA|apply lN|apply lD|refine lS ?_ GE258.out)|exact HB.out)) hb); (try clear hb); (try clear hb2); (try clear hk); (try clear hi)))
             go_roundg k4
             case measure => have := HJ4.out; have := HJ13.out; have := HJ19.out; have := HK4.out; omega
             case rel => exact ⟨(t260), (wrap64 (x5_4 + 1)), (by first|rfl|(simp; done)|(simp [*]; done)), (by first|rfl|(simp; done)|(simp [*]; done)), H', ⟨by have := HJ4.out; have := HJ13.out; have := HJ19.out; have := HK4.out; omega⟩, ⟨by (with_reducible repeat (first|refine bN ?_ _|refine bD ?_|refine bA ?_ _)); exact BK258.out⟩, ⟨by repeat (first|(with_reducible first|exact HB.out|apply lA|apply lN|apply lD|refine lS ?_ GE258.out)|exact HB.out)⟩⟩
            ·replace c51 := Bool.eq_false_iff.mpr c51
             subst c51
             have H1 : (emenderref09_Check.l0 k4 false (wrap64 (x5_4 + 1)) a0_0 a0_1 a0_2 a0_3 a0_4 a0_5 l0_6 a0_7) = some r := by rw [if_neg (show ¬ (false = true) by decide)] at H; exact H
             clear H
             have H := H1
             clear H1
             have H' := aM H
             clear H
             obtain ⟨hcz56_0, hcz56_1, hcz56_2, hcz56_3, hcz56_4, hcz56_5, hcz56_6, hcz56_7, hfz56_0, hfz56_1, hfz56_2, hfz56_3, hfz56_4, hfz56_5, hfz56_6, hfz56_7⟩ := bx8z BK258.out
             go_wp2
             go_roundg k4
             case measure => have := HJ4.out; have := HJ13.out; have := HJ19.out; have := HK4.out; omega
             case rel => exact ⟨(false), (wrap64 (x5_4 + 1)), (by first|rfl|(simp; done)|(simp [*]; done)), (by first|rfl|(simp; done)|(simp [*]; done)), H', ⟨by have := HJ4.out; have := HJ13.out; have := HJ19.out; have := HK4.out; omega⟩, ⟨by (with_reducible repeat (first|refine bN ?_ _|refine bD ?_|refine bA ?_ _)); exact BK258.out⟩, ⟨by repeat (first|(with_reducible first|exact HB.out|apply lA|apply lN|apply lD|refine lS ?_ GE258.out)|exact HB.out)⟩⟩
           ·rw [if_neg c50] at H
            have c50b0 : decide (x5_4 < (l0_6.length : Int)) = false := decide_eq_false c50
            clear c50
            by_cases c57 : x4_4 = true
            ·subst c57
             have H1 : (some 0) = some r := by rw [if_pos rfl] at H; exact H
             clear H
             have H := H1
             clear H1
             obtain rfl := Option.some.inj H
             obtain ⟨hcz58_0, hcz58_1, hcz58_2, hcz58_3, hcz58_4, hcz58_5, hcz58_6, hcz58_7, hfz58_0, hfz58_1, hfz58_2, hfz58_3, hfz58_4, hfz58_5, hfz58_6, hfz58_7⟩ := bx8z BK258.out
             go_wp2
             go_ret
             exact ⟨by first|rfl|(simp [errW_none, errW_some] <;> rfl)|(simp [*, errW_none, errW_some] <;> rfl), by repeat (first|(with_reducible first|exact HB.out|apply lA|apply lN|apply lD|refine lS ?_ GE258.out)|exact HB.out)⟩
            ·replace c57 := Bool.eq_false_iff.mpr c57
             subst c57
             have H1 : (some 1) = some r := by rw [if_neg (show ¬ (false = true) by decide)] at H; exact H
             clear H
             have H := H1
             clear H1
             obtain rfl := Option.some.inj H
             obtain ⟨hcz59_0, hcz59_1, hcz59_2, hcz59_3, hcz59_4, hcz59_5, hcz59_6, hcz59_7, hfz59_0, hfz59_1, hfz59_2, hfz59_3, hfz59_4, hfz59_5, hfz59_6, hfz59_7⟩ := bx8z BK258.out
             go_wp2
             go_ret
             exact ⟨by first|rfl|(simp [errW_none, errW_some] <;> rfl)|(simp [*, errW_none, errW_some] <;> rfl), by repeat (first|(with_reducible first|exact HB.out|apply lA|apply lN|apply lD|refine lS ?_ GE258.out)|exact HB.out)⟩

end Go.Proofs.Ytlngjgcodknpiaa.PSm
