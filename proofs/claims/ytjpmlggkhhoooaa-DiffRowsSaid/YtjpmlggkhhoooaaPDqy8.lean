-- Written for this claim by a program (printed texts under one roof).
import Derived.Test.YtjpmlggkhhoooaaPDqx0
import Derived.Test.YtjpmlggkhhoooaaPDqy0
import Derived.Test.YtjpmlggkhhoooaaPDqy2
import Derived.Test.YtjpmlggkhhoooaaPDqy3
import Derived.Test.YtjpmlggkhhoooaaPDqy7
-- Written for this claim by a program (the kit's print, with hand-made contracts for what it does not take).
namespace Go.Proofs.Ytjpmlggkhhoooaa.PDq
open Go.RowKit Go.Proofs.YtjpmlggkhhoooaaW.PrintWords Go.Proofs.YtjpmlggkhhoooaaW.PrintLast Go.Proofs.YtjpmlggkhhoooaaW.PrintMore
attribute [local go_sem] max2_int min2_int max_two min_two max_three min_three max_four min_four   -- for this text's walks alone
set_option linter.unusedVariables false
set_option linter.unusedSimpArgs false

mutual
def emenderlaw23_DiffRows.j0 : Nat → List (S64) → List (S64) → Bool → Option (Bool)
|0, _, _, _ => none
|k + 1, x0, x1, x21 => if x21 = true then ((emenderlaw23_awake.f k).bind fun t452 => (some t452)) else ((diff_Rows.f x0 x1).bind fun bt453 => ((emenderref23_Rows.f k x0 x1).bind fun bt457 => ((diff_Patch.f k x0 x1).bind fun bt461 => ((emenderref23_Patch.f k x0 x1).bind fun bt473 => (if (bt453.1.length : Int) = (bt457.1.length : Int) then (if bt453.2 = bt457.2 then ((emenderlaw23_twin.f k bt461.1 bt461.2.1 bt461.2.2.1 bt461.2.2.2.1 bt461.2.2.2.2.1 bt461.2.2.2.2.2.1 bt461.2.2.2.2.2.2.1 bt461.2.2.2.2.2.2.2.1 bt473.1 bt473.2.1 bt473.2.2.1 bt473.2.2.2.1 bt473.2.2.2.2.1 bt473.2.2.2.2.2.1 bt473.2.2.2.2.2.2.1 bt473.2.2.2.2.2.2.2.1).bind fun t485 => (if t485 = true then (emenderlaw23_DiffRows.j1 k bt453.1 bt457.1 (bt461.2.2.2.2.2.2.2.2 != bt473.2.2.2.2.2.2.2.2)) else (emenderlaw23_DiffRows.j1 k bt453.1 bt457.1 true))) else (emenderlaw23_DiffRows.j1 k bt453.1 bt457.1 true)) else (emenderlaw23_DiffRows.j1 k bt453.1 bt457.1 true))))))
def emenderlaw23_DiffRows.j1 : Nat → List (S55) → List (S62) → Bool → Option (Bool)
|0, _, _, _ => none
|k + 1, x5, x7, x67 => if x67 = true then (none) else (emenderlaw23_DiffRows.l0 k x5 x7 0)
def emenderlaw23_DiffRows.l0 : Nat → List (S55) → List (S62) → Int → Option (Bool)
|0, _, _, _ => none
|k + 1, x5, x7, x13 => if x13 < (x5.length : Int) then (if 0 ≤ x13 then (if x13 < (x7.length : Int) then (if ((rd_T55 x5 x13).f0) = ((rd_T62 x7 x13).f0) then (if ((rd_T55 x5 x13).f1) = ((rd_T62 x7 x13).f1) then (if ((rd_T55 x5 x13).f2) = ((rd_T62 x7 x13).f2) then (emenderlaw23_DiffRows.l0 k x5 x7 (wrap64 (x13 + 1))) else (none)) else (none)) else (none)) else (none)) else (none)) else ((emenderlaw23_awake.f k).bind fun t492 => (some t492))
end
def emenderlaw23_DiffRows.f (k : Nat) (l0 : List (S64)) (l1 : List (S64)) : Option (Bool) := if (l0.length : Int) > 200 then (emenderlaw23_DiffRows.j0 k l0 l1 true) else (emenderlaw23_DiffRows.j0 k l0 l1 (decide ((l1.length : Int) > 200)))
theorem emenderlaw23_DiffRows.mono_l : ∀ k, (∀ y0 y1 y2, LeO (emenderlaw23_DiffRows.j0 k y0 y1 y2) (emenderlaw23_DiffRows.j0 (k + 1) y0 y1 y2)) ∧ (∀ y0 y1 y2, LeO (emenderlaw23_DiffRows.j1 k y0 y1 y2) (emenderlaw23_DiffRows.j1 (k + 1) y0 y1 y2)) ∧ (∀ y0 y1 y2, LeO (emenderlaw23_DiffRows.l0 k y0 y1 y2) (emenderlaw23_DiffRows.l0 (k + 1) y0 y1 y2))
|0 => ⟨fun _ _ _ r h => by simp [emenderlaw23_DiffRows.j0] at h, fun _ _ _ r h => by simp [emenderlaw23_DiffRows.j1] at h, fun _ _ _ r h => by simp [emenderlaw23_DiffRows.l0] at h⟩
|k + 1 => by
  obtain ⟨ih0, ih1, ih2⟩ := emenderlaw23_DiffRows.mono_l k
  refine ⟨?_, ?_, ?_⟩
  ·intro y0 y1 y2
   unfold emenderlaw23_DiffRows.j0
   repeat' first
  |(with_reducible exact ih0 _ _ _)
  |(with_reducible exact ih1 _ _ _)
  |(with_reducible exact ih2 _ _ _)
  |(with_reducible exact diff_Patch.mono _ _ _)
  |(with_reducible exact emenderlaw23_awake.mono _)
  |(with_reducible exact emenderlaw23_twin.mono _ _ _ _ _ _ _ _ _ _ _ _ _ _ _ _ _)
  |(with_reducible exact emenderref23_Patch.mono _ _ _)
  |(with_reducible exact emenderref23_Rows.mono _ _ _)
  |(with_reducible exact LeO.refl _)
  |(with_reducible exact LeO.none _)
  |(with_reducible refine LeO.ite ?_ ?_)
  |(with_reducible refine LeO.bind ?_ (fun _ => ?_))
  |exact ih0 _ _ _
  |exact ih1 _ _ _
  |exact ih2 _ _ _
  |exact diff_Patch.mono _ _ _
  |exact emenderlaw23_awake.mono _
  |exact emenderlaw23_twin.mono _ _ _ _ _ _ _ _ _ _ _ _ _ _ _ _ _
  |exact emenderref23_Patch.mono _ _ _
  |exact emenderref23_Rows.mono _ _ _
  |exact LeO.none _
  |refine LeO.ite ?_ ?_
  |refine LeO.bind ?_ (fun _ => ?_)
  ·intro y0 y1 y2
   unfold emenderlaw23_DiffRows.j1
   repeat' first
  |(with_reducible exact ih0 _ _ _)
  |(with_reducible exact ih1 _ _ _)
  |(with_reducible exact ih2 _ _ _)
  |(with_reducible exact diff_Patch.mono _ _ _)
  |(with_reducible exact emenderlaw23_awake.mono _)
  |(with_reducible exact emenderlaw23_twin.mono _ _ _ _ _ _ _ _ _ _ _ _ _ _ _ _ _)
  |(with_reducible exact emenderref23_Patch.mono _ _ _)
  |(with_reducible exact emenderref23_Rows.mono _ _ _)
  |(with_reducible exact LeO.refl _)
  |(with_reducible exact LeO.none _)
  |(with_reducible refine LeO.ite ?_ ?_)
  |(with_reducible refine LeO.bind ?_ (fun _ => ?_))
  |exact ih0 _ _ _
  |exact ih1 _ _ _
  |exact ih2 _ _ _
  |exact diff_Patch.mono _ _ _
  |exact emenderlaw23_awake.mono _
  |exact emenderlaw23_twin.mono _ _ _ _ _ _ _ _ _ _ _ _ _ _ _ _ _
  |exact emenderref23_Patch.mono _ _ _
  |exact emenderref23_Rows.mono _ _ _
  |exact LeO.none _
  |refine LeO.ite ?_ ?_
  |refine LeO.bind ?_ (fun _ => ?_)
  ·intro y0 y1 y2
   unfold emenderlaw23_DiffRows.l0
   repeat' first
  |(with_reducible exact ih0 _ _ _)
  |(with_reducible exact ih1 _ _ _)
  |(with_reducible exact ih2 _ _ _)
  |(with_reducible exact diff_Patch.mono _ _ _)
  |(with_reducible exact emenderlaw23_awake.mono _)
  |(with_reducible exact emenderlaw23_twin.mono _ _ _ _ _ _ _ _ _ _ _ _ _ _ _ _ _)
  |(with_reducible exact emenderref23_Patch.mono _ _ _)
  |(with_reducible exact emenderref23_Rows.mono _ _ _)
  |(with_reducible exact LeO.refl _)
  |(with_reducible exact LeO.none _)
  |(with_reducible refine LeO.ite ?_ ?_)
  |(with_reducible refine LeO.bind ?_ (fun _ => ?_))
  |exact ih0 _ _ _
  |exact ih1 _ _ _
  |exact ih2 _ _ _
  |exact diff_Patch.mono _ _ _
  |exact emenderlaw23_awake.mono _
  |exact emenderlaw23_twin.mono _ _ _ _ _ _ _ _ _ _ _ _ _ _ _ _ _
  |exact emenderref23_Patch.mono _ _ _
  |exact emenderref23_Rows.mono _ _ _
  |exact LeO.none _
  |refine LeO.ite ?_ ?_
  |refine LeO.bind ?_ (fun _ => ?_)
theorem emenderlaw23_DiffRows.mono : ∀ a0 a1 k, LeO (emenderlaw23_DiffRows.f k a0 a1) (emenderlaw23_DiffRows.f (k + 1) a0 a1) := by
 intro a0 a1 k
 obtain ⟨ih0, ih1, ih2⟩ := emenderlaw23_DiffRows.mono_l k
 unfold emenderlaw23_DiffRows.f
 repeat' first
  |(with_reducible exact ih0 _ _ _)
  |(with_reducible exact ih1 _ _ _)
  |(with_reducible exact ih2 _ _ _)
  |(with_reducible exact diff_Patch.mono _ _ _)
  |(with_reducible exact emenderlaw23_awake.mono _)
  |(with_reducible exact emenderlaw23_twin.mono _ _ _ _ _ _ _ _ _ _ _ _ _ _ _ _ _)
  |(with_reducible exact emenderref23_Patch.mono _ _ _)
  |(with_reducible exact emenderref23_Rows.mono _ _ _)
  |(with_reducible exact LeO.refl _)
  |(with_reducible exact LeO.none _)
  |(with_reducible refine LeO.ite ?_ ?_)
  |(with_reducible refine LeO.bind ?_ (fun _ => ?_))
  |exact ih0 _ _ _
  |exact ih1 _ _ _
  |exact ih2 _ _ _
  |exact diff_Patch.mono _ _ _
  |exact emenderlaw23_awake.mono _
  |exact emenderlaw23_twin.mono _ _ _ _ _ _ _ _ _ _ _ _ _ _ _ _ _
  |exact emenderref23_Patch.mono _ _ _
  |exact emenderref23_Rows.mono _ _ _
  |exact LeO.none _
  |refine LeO.ite ?_ ?_
  |refine LeO.bind ?_ (fun _ => ?_)
set_option maxHeartbeats 8000000 in
set_option maxRecDepth 100000 in
theorem emenderlaw23_DiffRows.calls (k : Nat) (A0 : Option Addr) (c0 : Nat) (l0 : List (S64)) (A1 : Option Addr) (c1 : Nat) (l1 : List (S64)) (r : Bool) (w : World) (hr0 : Kd.C k64 w A0 l0.length l0) (hc0 : l0.length ≤ c0) (hr1 : Kd.C k64 w A1 l1.length l1) (hc1 : l1.length ≤ c1) (h : emenderlaw23_DiffRows.f k l0 l1 = some r) :
  Calls Try.prog 7 #[.slice A0 l0.length c0, .slice A1 l1.length c1] w fun e w' => e = .returned (.bool r) ∧ Below w.heap.size w w' := by
 have hu43 := Try.underlying43
 have HR0 := aM hr0
 have HC0 := aM hc0
 clear hr0 hc0
 have HR1 := aM hr1
 have HC1 := aM hc1
 clear hr1 hc1
 have HB := aM (Below.refl w.heap.size w)
 have H : (if (l0.length : Int) > 200 then (emenderlaw23_DiffRows.j0 k l0 l1 true) else (emenderlaw23_DiffRows.j0 k l0 l1 (decide ((l1.length : Int) > 200)))) = some r := h
 clear h
 have HC3 := aM H
 clear H
 go_enter Try.func7, Try.ntmps7
 go_upto_region 1 with (fail)
 repeat (go_quiet (fail); go_upto_region 1 with (fail))
 go_cut [21] (fun v21 wc => ∃ (kq : Nat) (x21_2 : Bool), v21 = .bool x21_2 ∧ Aside0 (emenderlaw23_DiffRows.j0 kq l0 l1 x21_2 = some r) ∧ Aside0 (kq ≤ k) ∧ Aside0 (Below w.heap.size w wc))
 case first =>
  have H := HC3.out
  clear HC3
  by_cases c4 : (l0.length : Int) > 200
  ·rw [if_pos c4] at H
   have c4b0 : decide (200 < (l0.length : Int)) = true := decide_eq_true c4
   have c4b1 : decide (200 < l0.length) = true := decide_eq_true (by omega)
   clear c4
   (first|rw [c4b0]|(simp only [i64_w, i32_w]; rw [c4b0])|skip)
   have H' := aM H
   clear H
   go_wp2
   repeat (go_quiet (fail); try go_wp2)
   go_meet
   case rel => exact ⟨_, (true), (by first|rfl|(simp; done)|(simp [*]; done)), H', ⟨by first|omega|exact Nat.le_refl _⟩, ⟨by repeat (first|(with_reducible first|exact HB.out|apply lA|apply lN|apply lD)|exact HB.out)⟩⟩
  ·rw [if_neg c4] at H
   have c4b0 : decide (200 < (l0.length : Int)) = false := decide_eq_false c4
   have c4b1 : decide (200 < l0.length) = false := decide_eq_false (by omega)
   clear c4
   (first|rw [c4b0]|(simp only [i64_w, i32_w]; rw [c4b0])|skip)
   have H' := aM H
   clear H
   go_wp2
   repeat (go_quiet (fail); try go_wp2)
   go_meet
   case rel => exact ⟨_, (decide ((l1.length : Int) > 200)), (by first|rfl|(simp; done)|(simp [*]; done)), H', ⟨by first|omega|exact Nat.le_refl _⟩, ⟨by repeat (first|(with_reducible first|exact HB.out|apply lA|apply lN|apply lD)|exact HB.out)⟩⟩
 case rest =>
  clear HC3
  obtain ⟨kq, x21_2, rfl, HA, HJ2, HB⟩ := hcut
  cases kq with
 |zero => exact absurd HA.out (by simp [emenderlaw23_DiffRows.j0])
 |succ kj2 =>
   have H := HA.out
   clear HA
   simp only [emenderlaw23_DiffRows.j0] at H
   by_cases c5 : x21_2 = true
   ·subst c5
    have H1 : ((emenderlaw23_awake.f kj2).bind fun t452 => (some t452)) = some r := by rw [if_pos rfl] at H; exact H
    clear H
    have H := H1
    clear H1
    replace H := Option.bind_eq_some_iff.mp H
    obtain ⟨t452, A60, H⟩ := H
    replace H : (some t452) = some r := H
    have A6 := aM A60
    clear A60
    obtain rfl := Option.some.inj H
    go_wp2_with (first|(go_at_call 8; (with_reducible refine (emenderlaw23_awake.calls kj2  t452 _ A6.out).mono ?_); rintro e w7 ⟨rfl, hb⟩; replace HB := aM (below_step (by repeat (first|(with_reducible first|exact HB.out|apply lA|apply lN|apply lD)|exact HB.out)) hb); (try clear hb); (try clear hb2); (try clear hk); (try clear hi)))
    repeat (go_quiet (first|(go_at_call 8; (with_reducible refine (emenderlaw23_awake.calls kj2  t452 _ A6.out).mono ?_); rintro e w7 ⟨rfl, hb⟩; replace HB := aM (below_step (by repeat (first|(with_reducible first|exact HB.out|apply lA|apply lN|apply lD)|exact HB.out)) hb); (try clear hb); (try clear hb2); (try clear hk); (try clear hi))); try go_wp2_with (first|(go_at_call 8; (with_reducible refine (emenderlaw23_awake.calls kj2  t452 _ A6.out).mono ?_); rintro e w7 ⟨rfl, hb⟩; replace HB := aM (below_step (by repeat (first|(with_reducible first|exact HB.out|apply lA|apply lN|apply lD)|exact HB.out)) hb); (try clear hb); (try clear hb2); (try clear hk); (try clear hi))))
    go_ret
    exact ⟨by first|rfl|(simp [errW_none, errW_some] <;> rfl)|(simp [*, errW_none, errW_some] <;> rfl), by repeat (first|(with_reducible first|exact HB.out|apply lA|apply lN|apply lD)|exact HB.out)⟩
   ·replace c5 := Bool.eq_false_iff.mpr c5
    subst c5
    have H1 : ((diff_Rows.f l0 l1).bind fun bt453 => ((emenderref23_Rows.f kj2 l0 l1).bind fun bt457 => ((diff_Patch.f kj2 l0 l1).bind fun bt461 => ((emenderref23_Patch.f kj2 l0 l1).bind fun bt473 => (if (bt453.1.length : Int) = (bt457.1.length : Int) then (if bt453.2 = bt457.2 then ((emenderlaw23_twin.f kj2 bt461.1 bt461.2.1 bt461.2.2.1 bt461.2.2.2.1 bt461.2.2.2.2.1 bt461.2.2.2.2.2.1 bt461.2.2.2.2.2.2.1 bt461.2.2.2.2.2.2.2.1 bt473.1 bt473.2.1 bt473.2.2.1 bt473.2.2.2.1 bt473.2.2.2.2.1 bt473.2.2.2.2.2.1 bt473.2.2.2.2.2.2.1 bt473.2.2.2.2.2.2.2.1).bind fun t485 => (if t485 = true then (emenderlaw23_DiffRows.j1 kj2 bt453.1 bt457.1 (bt461.2.2.2.2.2.2.2.2 != bt473.2.2.2.2.2.2.2.2)) else (emenderlaw23_DiffRows.j1 kj2 bt453.1 bt457.1 true))) else (emenderlaw23_DiffRows.j1 kj2 bt453.1 bt457.1 true)) else (emenderlaw23_DiffRows.j1 kj2 bt453.1 bt457.1 true)))))) = some r := by rw [if_neg (show ¬ (false = true) by decide)] at H; exact H
    clear H
    have H := H1
    clear H1
    replace H := Option.bind_eq_some_iff.mp H
    obtain ⟨⟨t453, t454⟩, A80, H⟩ := H
    replace H : ((emenderref23_Rows.f kj2 l0 l1).bind fun bt457 => ((diff_Patch.f kj2 l0 l1).bind fun bt461 => ((emenderref23_Patch.f kj2 l0 l1).bind fun bt473 => (if (t453.length : Int) = (bt457.1.length : Int) then (if t454 = bt457.2 then ((emenderlaw23_twin.f kj2 bt461.1 bt461.2.1 bt461.2.2.1 bt461.2.2.2.1 bt461.2.2.2.2.1 bt461.2.2.2.2.2.1 bt461.2.2.2.2.2.2.1 bt461.2.2.2.2.2.2.2.1 bt473.1 bt473.2.1 bt473.2.2.1 bt473.2.2.2.1 bt473.2.2.2.2.1 bt473.2.2.2.2.2.1 bt473.2.2.2.2.2.2.1 bt473.2.2.2.2.2.2.2.1).bind fun t485 => (if t485 = true then (emenderlaw23_DiffRows.j1 kj2 t453 bt457.1 (bt461.2.2.2.2.2.2.2.2 != bt473.2.2.2.2.2.2.2.2)) else (emenderlaw23_DiffRows.j1 kj2 t453 bt457.1 true))) else (emenderlaw23_DiffRows.j1 kj2 t453 bt457.1 true)) else (emenderlaw23_DiffRows.j1 kj2 t453 bt457.1 true))))) = some r := H
    have A8 := aM A80
    clear A80
    replace H := Option.bind_eq_some_iff.mp H
    obtain ⟨⟨t457, t458⟩, A90, H⟩ := H
    replace H : ((diff_Patch.f kj2 l0 l1).bind fun bt461 => ((emenderref23_Patch.f kj2 l0 l1).bind fun bt473 => (if (t453.length : Int) = (t457.length : Int) then (if t454 = t458 then ((emenderlaw23_twin.f kj2 bt461.1 bt461.2.1 bt461.2.2.1 bt461.2.2.2.1 bt461.2.2.2.2.1 bt461.2.2.2.2.2.1 bt461.2.2.2.2.2.2.1 bt461.2.2.2.2.2.2.2.1 bt473.1 bt473.2.1 bt473.2.2.1 bt473.2.2.2.1 bt473.2.2.2.2.1 bt473.2.2.2.2.2.1 bt473.2.2.2.2.2.2.1 bt473.2.2.2.2.2.2.2.1).bind fun t485 => (if t485 = true then (emenderlaw23_DiffRows.j1 kj2 t453 t457 (bt461.2.2.2.2.2.2.2.2 != bt473.2.2.2.2.2.2.2.2)) else (emenderlaw23_DiffRows.j1 kj2 t453 t457 true))) else (emenderlaw23_DiffRows.j1 kj2 t453 t457 true)) else (emenderlaw23_DiffRows.j1 kj2 t453 t457 true)))) = some r := H
    have A9 := aM A90
    clear A90
    replace H := Option.bind_eq_some_iff.mp H
    obtain ⟨⟨t461, t462, t463, t464, t465, t466, t467, t470, t471⟩, A100, H⟩ := H
    replace H : ((emenderref23_Patch.f kj2 l0 l1).bind fun bt473 => (if (t453.length : Int) = (t457.length : Int) then (if t454 = t458 then ((emenderlaw23_twin.f kj2 t461 t462 t463 t464 t465 t466 t467 t470 bt473.1 bt473.2.1 bt473.2.2.1 bt473.2.2.2.1 bt473.2.2.2.2.1 bt473.2.2.2.2.2.1 bt473.2.2.2.2.2.2.1 bt473.2.2.2.2.2.2.2.1).bind fun t485 => (if t485 = true then (emenderlaw23_DiffRows.j1 kj2 t453 t457 (t471 != bt473.2.2.2.2.2.2.2.2)) else (emenderlaw23_DiffRows.j1 kj2 t453 t457 true))) else (emenderlaw23_DiffRows.j1 kj2 t453 t457 true)) else (emenderlaw23_DiffRows.j1 kj2 t453 t457 true))) = some r := H
    have A10 := aM A100
    clear A100
    replace H := Option.bind_eq_some_iff.mp H
    obtain ⟨⟨t473, t474, t475, t476, t477, t478, t479, t482, t483⟩, A110, H⟩ := H
    replace H : (if (t453.length : Int) = (t457.length : Int) then (if t454 = t458 then ((emenderlaw23_twin.f kj2 t461 t462 t463 t464 t465 t466 t467 t470 t473 t474 t475 t476 t477 t478 t479 t482).bind fun t485 => (if t485 = true then (emenderlaw23_DiffRows.j1 kj2 t453 t457 (t471 != t483)) else (emenderlaw23_DiffRows.j1 kj2 t453 t457 true))) else (emenderlaw23_DiffRows.j1 kj2 t453 t457 true)) else (emenderlaw23_DiffRows.j1 kj2 t453 t457 true)) = some r := H
    have A11 := aM A110
    clear A110
    have HC12 := aM H
    clear H
    go_upto_region 7 with (first|(go_at_call 21; (with_reducible refine (diff_Rows.calls _ _ l0 _ _ l1 t453 t454 _ ?side1 ?side2 ?side3 ?side4 A8.out).mono ?_); (case side1 => repeat (first|exact (Kd.C_below HR0.out HB.out)|(with_reducible refine Kd.C_alloc ?_ _)|(with_reducible refine Kd.C_drewN ?_ _)|(with_reducible refine Kd.C_drew ?_))); (case side2 => exact HC0.out); (case side3 => repeat (first|exact (Kd.C_below HR1.out HB.out)|(with_reducible refine Kd.C_alloc ?_ _)|(with_reducible refine Kd.C_drewN ?_ _)|(with_reducible refine Kd.C_drew ?_))); (case side4 => exact HC1.out); rintro e w13 ⟨v455, rfl, ho0, hb⟩; replace HO456 := aM (Kd.R_lower ho0 (below_size (by repeat (first|(with_reducible first|exact HB.out|apply lA|apply lN|apply lD)|exact HB.out)))); replace HB := aM (below_step (by repeat (first|(with_reducible first|exact HB.out|apply lA|apply lN|apply lD)|exact HB.out)) hb); (try clear hb); (try clear hb2); (try clear hk); (try clear hi); (try clear ho0))|(go_at_call 24; (with_reducible refine (emenderref23_Rows.calls kj2 _ _ l0 _ _ l1 t457 t458 _ ?side1 ?side2 ?side3 ?side4 A9.out).mono ?_); (case side1 => repeat (first|exact (Kd.C_below HR0.out HB.out)|(with_reducible refine Kd.C_alloc ?_ _)|(with_reducible refine Kd.C_drewN ?_ _)|(with_reducible refine Kd.C_drew ?_))); (case side2 => exact HC0.out); (case side3 => repeat (first|exact (Kd.C_below HR1.out HB.out)|(with_reducible refine Kd.C_alloc ?_ _)|(with_reducible refine Kd.C_drewN ?_ _)|(with_reducible refine Kd.C_drew ?_))); (case side4 => exact HC1.out); rintro e w14 ⟨v459, rfl, ho0, hb⟩; replace HO456 := aM (Kd.R_below (by (with_reducible repeat (first|apply Kd.R_alloc|apply Kd.R_drewN|apply Kd.R_drew)); exact HO456.out) hb); replace HO460 := aM (Kd.R_lower ho0 (below_size (by repeat (first|(with_reducible first|exact HB.out|apply lA|apply lN|apply lD)|exact HB.out)))); replace HB := aM (below_step (by repeat (first|(with_reducible first|exact HB.out|apply lA|apply lN|apply lD)|exact HB.out)) hb); (try clear hb); (try clear hb2); (try clear hk); (try clear hi); (try clear ho0))|(go_at_call 18; (with_reducible refine (diff_Patch.calls kj2 _ _ l0 _ _ l1 t461 t462 t463 t464 t465 t466 t467 t470 t471 _ ?side1 ?side2 ?side3 ?side4 A10.out).mono ?_); (case side1 => repeat (first|exact (Kd.C_below HR0.out HB.out)|(with_reducible refine Kd.C_alloc ?_ _)|(with_reducible refine Kd.C_drewN ?_ _)|(with_reducible refine Kd.C_drew ?_))); (case side2 => exact HC0.out); (case side3 => repeat (first|exact (Kd.C_below HR1.out HB.out)|(with_reducible refine Kd.C_alloc ?_ _)|(with_reducible refine Kd.C_drewN ?_ _)|(with_reducible refine Kd.C_drew ?_))); (case side4 => exact HC1.out); rintro e w15 ⟨v468, rfl, ho0, hb⟩; replace HO456 := aM (Kd.R_below (by (with_reducible repeat (first|apply Kd.R_alloc|apply Kd.R_drewN|apply Kd.R_drew)); exact HO456.out) hb); replace HO460 := aM (Kd.R_below (by (with_reducible repeat (first|apply Kd.R_alloc|apply Kd.R_drewN|apply Kd.R_drew)); exact HO460.out) hb); replace HO469 := aM (Kd.R_lower ho0 (below_size (by repeat (first|(with_reducible first|exact HB.out|apply lA|apply lN|apply lD)|exact HB.out)))); replace HB := aM (below_step (by repeat (first|(with_reducible first|exact HB.out|apply lA|apply lN|apply lD)|exact HB.out)) hb); (try clear hb); (try clear hb2); (try clear hk); (try clear hi); (try clear ho0))|((with_reducible refine gate_dst (N := 9) rfl ?_); (try (refine gate_guard (by rfl) ?_; dsimp only)); refine box_event ?hg (N := 9) ?hd (cs := #[.int .i64 0, .int .i64 0, .int .i64 0, .int .i64 0, .int .i64 0, .int .i64 0, .slice none 0 0, .int .i64 0]) (t := 43) ?hr ?_; (case hd => rfl); (case hg => rfl); (case hr => first|(go_simp; done)|(go_simp; rfl)); intro gb472 hg w16 hbox hb; replace HO456 := aM (Kd.R_below (by (with_reducible repeat (first|apply Kd.R_alloc|apply Kd.R_drewN|apply Kd.R_drew)); exact HO456.out) hb); replace HO460 := aM (Kd.R_below (by (with_reducible repeat (first|apply Kd.R_alloc|apply Kd.R_drewN|apply Kd.R_drew)); exact HO460.out) hb); replace HO469 := aM (Kd.R_below (by (with_reducible repeat (first|apply Kd.R_alloc|apply Kd.R_drewN|apply Kd.R_drew)); exact HO469.out) hb); replace BK472 := aM (hbox); replace GW472 := aM ((by rw [hg]; exact (below_size (by repeat (first|(with_reducible first|exact HB.out|apply lA|apply lN|apply lD)|exact HB.out))) : w.heap.size ≤ gb472)); replace GE472 := aM ((by rw [hg]; exact (below_size (by repeat (first|(with_reducible first|exact HB.out|apply lA|apply lN|apply lD)|exact HB.out))) : w.heap.size ≤ gb472)); replace HB := aM (below_step (by repeat (first|(with_reducible first|exact HB.out|apply lA|apply lN|apply lD)|exact HB.out)) hb); clear hb hbox hg; obtain ⟨hcz17_0, hcz17_1, hcz17_2, hcz17_3, hcz17_4, hcz17_5, hcz17_6, hcz17_7, hfz17_0, hfz17_1, hfz17_2, hfz17_3, hfz17_4, hfz17_5, hfz17_6, hfz17_7⟩ := bx8z BK472.out; obtain ⟨Ao18, co18, eo18⟩ := Kd.R_slice HO469.out; subst eo18)|(go_at_call 25; (with_reducible refine (emenderref23_Patch.calls kj2 _ _ l0 _ _ l1 t473 t474 t475 t476 t477 t478 t479 t482 t483 _ ?side1 ?side2 ?side3 ?side4 A11.out).mono ?_); (case side1 => exact Kd.C_below HR0.out (by repeat (first|(with_reducible first|exact HB.out|apply lA|apply lN|apply lD|refine lS ?_ GE472.out)|exact HB.out))); (case side2 => exact HC0.out); (case side3 => exact Kd.C_below HR1.out (by repeat (first|(with_reducible first|exact HB.out|apply lA|apply lN|apply lD|refine lS ?_ GE472.out)|exact HB.out))); (case side4 => exact HC1.out); rintro e w19 ⟨v480, rfl, ho0, hb⟩; replace HO456 := aM (Kd.R_below (by (with_reducible repeat (first|apply Kd.R_alloc|apply Kd.R_drewN|apply Kd.R_drew)); exact (Kd.R_mono (Kd.Rf8 (Kd.R_types HO456.out BK472.out (by decide)) (fun _ hk => hk.2)) (fun _ h_ => h_.1))) hb); replace HO460 := aM (Kd.R_below (by (with_reducible repeat (first|apply Kd.R_alloc|apply Kd.R_drewN|apply Kd.R_drew)); exact (Kd.R_mono (Kd.Rf8 (Kd.R_types HO460.out BK472.out (by decide)) (fun _ hk => hk.2)) (fun _ h_ => h_.1))) hb); replace HO481 := aM (Kd.R_lower (Kd.R_new' ho0 (Kd.R_lt (by (with_reducible repeat (first|apply Kd.R_alloc|apply Kd.R_drewN|apply Kd.R_drew)); exact (Kd.R_mono (Kd.Rf8 (Kd.R_types HO469.out BK472.out (by decide)) (fun _ hk => hk.2)) (fun _ h_ => h_.1))))) (below_size (by repeat (first|(with_reducible first|exact HB.out|apply lA|apply lN|apply lD|refine lS ?_ GE472.out)|exact HB.out)))); replace HO469 := aM (Kd.R_elder' (by (with_reducible repeat (first|apply Kd.R_alloc|apply Kd.R_drewN|apply Kd.R_drew)); exact (Kd.R_mono (Kd.Rf8 (Kd.R_types HO469.out BK472.out (by decide)) (fun _ hk => hk.2)) (fun _ h_ => h_.1))) (Kd.R_base ho0) hb); replace BK472 := aM (blk_below (g := gb472) (o := .cells #[.int .i64 t461, .int .i64 t462, .int .i64 t463, .int .i64 t464, .int .i64 t465, .int .i64 t466, .slice Ao18 t467.length co18, .int .i64 t470] 43 (0, 0)) (by (with_reducible repeat (first|refine bN ?_ _|refine bD ?_|refine bA ?_ _)); apply put8; (with_reducible repeat (first|refine bN ?_ _|refine bD ?_|refine bA ?_ _)); exact BK472.out) hb); replace HB := aM (below_step (by repeat (first|(with_reducible first|exact HB.out|apply lA|apply lN|apply lD|refine lS ?_ GE472.out)|exact HB.out)) hb); (try clear hb); (try clear hb2); (try clear hk); (try clear hi); (try clear ho0))|((with_reducible refine gate_dst (N := 11) rfl ?_); (try (refine gate_guard (by rfl) ?_; dsimp only)); refine box_event ?hg (N := 11) ?hd (cs := #[.int .i64 0, .int .i64 0, .int .i64 0, .int .i64 0, .int .i64 0, .int .i64 0, .slice none 0 0, .int .i64 0]) (t := 43) ?hr ?_; (case hd => rfl); (case hg => rfl); (case hr => first|(go_simp; done)|(go_simp; rfl)); intro gb484 hg w20 hbox hb; replace HO456 := aM (Kd.R_below (by (with_reducible repeat (first|apply Kd.R_alloc|apply Kd.R_drewN|apply Kd.R_drew)); exact HO456.out) hb); replace HO460 := aM (Kd.R_below (by (with_reducible repeat (first|apply Kd.R_alloc|apply Kd.R_drewN|apply Kd.R_drew)); exact HO460.out) hb); replace HO469 := aM (Kd.R_below (by (with_reducible repeat (first|apply Kd.R_alloc|apply Kd.R_drewN|apply Kd.R_drew)); exact HO469.out) hb); replace HO481 := aM (Kd.R_below (by (with_reducible repeat (first|apply Kd.R_alloc|apply Kd.R_drewN|apply Kd.R_drew)); exact HO481.out) hb); replace BK484 := aM (hbox); replace GW484 := aM ((by rw [hg]; exact (below_size (by repeat (first|(with_reducible first|exact HB.out|apply lA|apply lN|apply lD|refine lS ?_ GE472.out)|exact HB.out))) : w.heap.size ≤ gb484)); replace GE484 := aM ((by rw [hg]; exact (below_size (by repeat (first|(with_reducible first|exact HB.out|apply lA|apply lN|apply lD|refine lS ?_ GE472.out)|exact HB.out))) : w.heap.size ≤ gb484)); replace HB := aM (below_step (by repeat (first|(with_reducible first|exact HB.out|apply lA|apply lN|apply lD|refine lS ?_ GE472.out)|exact HB.out)) hb); replace NB472_484 := aM ((by rw [hg]; exact Nat.ne_of_lt (blk_lt (g := gb472) (o := .cells #[.int .i64 t461, .int .i64 t462, .int .i64 t463, .int .i64 t464, .int .i64 t465, .int .i64 t466, .slice Ao18 t467.length co18, .int .i64 t470] 43 (0, 0)) (by (with_reducible repeat (first|refine bN ?_ _|refine bD ?_|refine bA ?_ _)); exact BK472.out)) : gb472 ≠ gb484)); replace NB484_472 := aM ((by rw [hg]; exact Nat.ne_of_gt (blk_lt (g := gb472) (o := .cells #[.int .i64 t461, .int .i64 t462, .int .i64 t463, .int .i64 t464, .int .i64 t465, .int .i64 t466, .slice Ao18 t467.length co18, .int .i64 t470] 43 (0, 0)) (by (with_reducible repeat (first|refine bN ?_ _|refine bD ?_|refine bA ?_ _)); exact BK472.out)) : gb484 ≠ gb472)); replace BK472 := aM (blk_below (by (with_reducible repeat (first|refine bN ?_ _|refine bD ?_|refine bA ?_ _)); exact BK472.out) hb); clear hb hbox hg; have hnb21 := NB484_472.out; have hnc21 := NB472_484.out; obtain ⟨hcz22_0, hcz22_1, hcz22_2, hcz22_3, hcz22_4, hcz22_5, hcz22_6, hcz22_7, hfz22_0, hfz22_1, hfz22_2, hfz22_3, hfz22_4, hfz22_5, hfz22_6, hfz22_7⟩ := bx8z BK484.out; obtain ⟨Ao23, co23, eo23⟩ := Kd.R_slice HO481.out; subst eo23))
    repeat (go_quiet (first|(go_at_call 21; (with_reducible refine (diff_Rows.calls _ _ l0 _ _ l1 t453 t454 _ ?side1 ?side2 ?side3 ?side4 A8.out).mono ?_); (case side1 => repeat (first|exact (Kd.C_below HR0.out HB.out)|(with_reducible refine Kd.C_alloc ?_ _)|(with_reducible refine Kd.C_drewN ?_ _)|(with_reducible refine Kd.C_drew ?_))); (case side2 => exact HC0.out); (case side3 => repeat (first|exact (Kd.C_below HR1.out HB.out)|(with_reducible refine Kd.C_alloc ?_ _)|(with_reducible refine Kd.C_drewN ?_ _)|(with_reducible refine Kd.C_drew ?_))); (case side4 => exact HC1.out); rintro e w13 ⟨v455, rfl, ho0, hb⟩; replace HO456 := aM (Kd.R_lower ho0 (below_size (by repeat (first|(with_reducible first|exact HB.out|apply lA|apply lN|apply lD)|exact HB.out)))); replace HB := aM (below_step (by repeat (first|(with_reducible first|exact HB.out|apply lA|apply lN|apply lD)|exact HB.out)) hb); (try clear hb); (try clear hb2); (try clear hk); (try clear hi); (try clear ho0))|(go_at_call 24; (with_reducible refine (emenderref23_Rows.calls kj2 _ _ l0 _ _ l1 t457 t458 _ ?side1 ?side2 ?side3 ?side4 A9.out).mono ?_); (case side1 => repeat (first|exact (Kd.C_below HR0.out HB.out)|(with_reducible refine Kd.C_alloc ?_ _)|(with_reducible refine Kd.C_drewN ?_ _)|(with_reducible refine Kd.C_drew ?_))); (case side2 => exact HC0.out); (case side3 => repeat (first|exact (Kd.C_below HR1.out HB.out)|(with_reducible refine Kd.C_alloc ?_ _)|(with_reducible refine Kd.C_drewN ?_ _)|(with_reducible refine Kd.C_drew ?_))); (case side4 => exact HC1.out); rintro e w14 ⟨v459, rfl, ho0, hb⟩; replace HO456 := aM (Kd.R_below (by (with_reducible repeat (first|apply Kd.R_alloc|apply Kd.R_drewN|apply Kd.R_drew)); exact HO456.out) hb); replace HO460 := aM (Kd.R_lower ho0 (below_size (by repeat (first|(with_reducible first|exact HB.out|apply lA|apply lN|apply lD)|exact HB.out)))); replace HB := aM (below_step (by repeat (first|(with_reducible first|exact HB.out|apply lA|apply lN|apply lD)|exact HB.out)) hb); (try clear hb); (try clear hb2); (try clear hk); (try clear hi); (try clear ho0))|(go_at_call 18; (with_reducible refine (diff_Patch.calls kj2 _ _ l0 _ _ l1 t461 t462 t463 t464 t465 t466 t467 t470 t471 _ ?side1 ?side2 ?side3 ?side4 A10.out).mono ?_); (case side1 => repeat (first|exact (Kd.C_below HR0.out HB.out)|(with_reducible refine Kd.C_alloc ?_ _)|(with_reducible refine Kd.C_drewN ?_ _)|(with_reducible refine Kd.C_drew ?_))); (case side2 => exact HC0.out); (case side3 => repeat (first|exact (Kd.C_below HR1.out HB.out)|(with_reducible refine Kd.C_alloc ?_ _)|(with_reducible refine Kd.C_drewN ?_ _)|(with_reducible refine Kd.C_drew ?_))); (case side4 => exact HC1.out); rintro e w15 ⟨v468, rfl, ho0, hb⟩; replace HO456 := aM (Kd.R_below (by (with_reducible repeat (first|apply Kd.R_alloc|apply Kd.R_drewN|apply Kd.R_drew)); exact HO456.out) hb); replace HO460 := aM (Kd.R_below (by (with_reducible repeat (first|apply Kd.R_alloc|apply Kd.R_drewN|apply Kd.R_drew)); exact HO460.out) hb); replace HO469 := aM (Kd.R_lower ho0 (below_size (by repeat (first|(with_reducible first|exact HB.out|apply lA|apply lN|apply lD)|exact HB.out)))); replace HB := aM (below_step (by repeat (first|(with_reducible first|exact HB.out|apply lA|apply lN|apply lD)|exact HB.out)) hb); (try clear hb); (try clear hb2); (try clear hk); (try clear hi); (try clear ho0))|((with_reducible refine gate_dst (N := 9) rfl ?_); (try (refine gate_guard (by rfl) ?_; dsimp only)); refine box_event ?hg (N := 9) ?hd (cs := #[.int .i64 0, .int .i64 0, .int .i64 0, .int .i64 0, .int .i64 0, .int .i64 0, .slice none 0 0, .int .i64 0]) (t := 43) ?hr ?_; (case hd => rfl); (case hg => rfl); (case hr => first|(go_simp; done)|(go_simp; rfl)); intro gb472 hg w16 hbox hb; replace HO456 := aM (Kd.R_below (by (with_reducible repeat (first|apply Kd.R_alloc|apply Kd.R_drewN|apply Kd.R_drew)); exact HO456.out) hb); replace HO460 := aM (Kd.R_below (by (with_reducible repeat (first|apply Kd.R_alloc|apply Kd.R_drewN|apply Kd.R_drew)); exact HO460.out) hb); replace HO469 := aM (Kd.R_below (by (with_reducible repeat (first|apply Kd.R_alloc|apply Kd.R_drewN|apply Kd.R_drew)); exact HO469.out) hb); replace BK472 := aM (hbox); replace GW472 := aM ((by rw [hg]; exact (below_size (by repeat (first|(with_reducible first|exact HB.out|apply lA|apply lN|apply lD)|exact HB.out))) : w.heap.size ≤ gb472)); replace GE472 := aM ((by rw [hg]; exact (below_size (by repeat (first|(with_reducible first|exact HB.out|apply lA|apply lN|apply lD)|exact HB.out))) : w.heap.size ≤ gb472)); replace HB := aM (below_step (by repeat (first|(with_reducible first|exact HB.out|apply lA|apply lN|apply lD)|exact HB.out)) hb); clear hb hbox hg; obtain ⟨hcz17_0, hcz17_1, hcz17_2, hcz17_3, hcz17_4, hcz17_5, hcz17_6, hcz17_7, hfz17_0, hfz17_1, hfz17_2, hfz17_3, hfz17_4, hfz17_5, hfz17_6, hfz17_7⟩ := bx8z BK472.out; obtain ⟨Ao18, co18, eo18⟩ := Kd.R_slice HO469.out; subst eo18)|(go_at_call 25; (with_reducible refine (emenderref23_Patch.calls kj2 _ _ l0 _ _ l1 t473 t474 t475 t476 t477 t478 t479 t482 t483 _ ?side1 ?side2 ?side3 ?side4 A11.out).mono ?_); (case side1 => exact Kd.C_below HR0.out (by repeat (first|(with_reducible first|exact HB.out|apply lA|apply lN|apply lD|refine lS ?_ GE472.out)|exact HB.out))); (case side2 => exact HC0.out); (case side3 => exact Kd.C_below HR1.out (by repeat (first|(with_reducible first|exact HB.out|apply lA|apply lN|apply lD|refine lS ?_ GE472.out)|exact HB.out))); (case side4 => exact HC1.out); rintro e w19 ⟨v480, rfl, ho0, hb⟩; replace HO456 := aM (Kd.R_below (by (with_reducible repeat (first|apply Kd.R_alloc|apply Kd.R_drewN|apply Kd.R_drew)); exact (Kd.R_mono (Kd.Rf8 (Kd.R_types HO456.out BK472.out (by decide)) (fun _ hk => hk.2)) (fun _ h_ => h_.1))) hb); replace HO460 := aM (Kd.R_below (by (with_reducible repeat (first|apply Kd.R_alloc|apply Kd.R_drewN|apply Kd.R_drew)); exact (Kd.R_mono (Kd.Rf8 (Kd.R_types HO460.out BK472.out (by decide)) (fun _ hk => hk.2)) (fun _ h_ => h_.1))) hb); replace HO481 := aM (Kd.R_lower (Kd.R_new' ho0 (Kd.R_lt (by (with_reducible repeat (first|apply Kd.R_alloc|apply Kd.R_drewN|apply Kd.R_drew)); exact (Kd.R_mono (Kd.Rf8 (Kd.R_types HO469.out BK472.out (by decide)) (fun _ hk => hk.2)) (fun _ h_ => h_.1))))) (below_size (by repeat (first|(with_reducible first|exact HB.out|apply lA|apply lN|apply lD|refine lS ?_ GE472.out)|exact HB.out)))); replace HO469 := aM (Kd.R_elder' (by (with_reducible repeat (first|apply Kd.R_alloc|apply Kd.R_drewN|apply Kd.R_drew)); exact (Kd.R_mono (Kd.Rf8 (Kd.R_types HO469.out BK472.out (by decide)) (fun _ hk => hk.2)) (fun _ h_ => h_.1))) (Kd.R_base ho0) hb); replace BK472 := aM (blk_below (g := gb472) (o := .cells #[.int .i64 t461, .int .i64 t462, .int .i64 t463, .int .i64 t464, .int .i64 t465, .int .i64 t466, .slice Ao18 t467.length co18, .int .i64 t470] 43 (0, 0)) (by (with_reducible repeat (first|refine bN ?_ _|refine bD ?_|refine bA ?_ _)); apply put8; (with_reducible repeat (first|refine bN ?_ _|refine bD ?_|refine bA ?_ _)); exact BK472.out) hb); replace HB := aM (below_step (by repeat (first|(with_reducible first|exact HB.out|apply lA|apply lN|apply lD|refine lS ?_ GE472.out)|exact HB.out)) hb); (try clear hb); (try clear hb2); (try clear hk); (try clear hi); (try clear ho0))|((with_reducible refine gate_dst (N := 11) rfl ?_); (try (refine gate_guard (by rfl) ?_; dsimp only)); refine box_event ?hg (N := 11) ?hd (cs := #[.int .i64 0, .int .i64 0, .int .i64 0, .int .i64 0, .int .i64 0, .int .i64 0, .slice none 0 0, .int .i64 0]) (t := 43) ?hr ?_; (case hd => rfl); (case hg => rfl); (case hr => first|(go_simp; done)|(go_simp; rfl)); intro gb484 hg w20 hbox hb; replace HO456 := aM (Kd.R_below (by (with_reducible repeat (first|apply Kd.R_alloc|apply Kd.R_drewN|apply Kd.R_drew)); exact HO456.out) hb); replace HO460 := aM (Kd.R_below (by (with_reducible repeat (first|apply Kd.R_alloc|apply Kd.R_drewN|apply Kd.R_drew)); exact HO460.out) hb); replace HO469 := aM (Kd.R_below (by (with_reducible repeat (first|apply Kd.R_alloc|apply Kd.R_drewN|apply Kd.R_drew)); exact HO469.out) hb); replace HO481 := aM (Kd.R_below (by (with_reducible repeat (first|apply Kd.R_alloc|apply Kd.R_drewN|apply Kd.R_drew)); exact HO481.out) hb); replace BK484 := aM (hbox); replace GW484 := aM ((by rw [hg]; exact (below_size (by repeat (first|(with_reducible first|exact HB.out|apply lA|apply lN|apply lD|refine lS ?_ GE472.out)|exact HB.out))) : w.heap.size ≤ gb484)); replace GE484 := aM ((by rw [hg]; exact (below_size (by repeat (first|(with_reducible first|exact HB.out|apply lA|apply lN|apply lD|refine lS ?_ GE472.out)|exact HB.out))) : w.heap.size ≤ gb484)); replace HB := aM (below_step (by repeat (first|(with_reducible first|exact HB.out|apply lA|apply lN|apply lD|refine lS ?_ GE472.out)|exact HB.out)) hb); replace NB472_484 := aM ((by rw [hg]; exact Nat.ne_of_lt (blk_lt (g := gb472) (o := .cells #[.int .i64 t461, .int .i64 t462, .int .i64 t463, .int .i64 t464, .int .i64 t465, .int .i64 t466, .slice Ao18 t467.length co18, .int .i64 t470] 43 (0, 0)) (by (with_reducible repeat (first|refine bN ?_ _|refine bD ?_|refine bA ?_ _)); exact BK472.out)) : gb472 ≠ gb484)); replace NB484_472 := aM ((by rw [hg]; exact Nat.ne_of_gt (blk_lt (g := gb472) (o := .cells #[.int .i64 t461, .int .i64 t462, .int .i64 t463, .int .i64 t464, .int .i64 t465, .int .i64 t466, .slice Ao18 t467.length co18, .int .i64 t470] 43 (0, 0)) (by (with_reducible repeat (first|refine bN ?_ _|refine bD ?_|refine bA ?_ _)); exact BK472.out)) : gb484 ≠ gb472)); replace BK472 := aM (blk_below (by (with_reducible repeat (first|refine bN ?_ _|refine bD ?_|refine bA ?_ _)); exact BK472.out) hb); clear hb hbox hg; have hnb21 := NB484_472.out; have hnc21 := NB472_484.out; obtain ⟨hcz22_0, hcz22_1, hcz22_2, hcz22_3, hcz22_4, hcz22_5, hcz22_6, hcz22_7, hfz22_0, hfz22_1, hfz22_2, hfz22_3, hfz22_4, hfz22_5, hfz22_6, hfz22_7⟩ := bx8z BK484.out; obtain ⟨Ao23, co23, eo23⟩ := Kd.R_slice HO481.out; subst eo23)); go_upto_region 7 with (first|(go_at_call 21; (with_reducible refine (diff_Rows.calls _ _ l0 _ _ l1 t453 t454 _ ?side1 ?side2 ?side3 ?side4 A8.out).mono ?_); (case side1 => repeat (first|exact (Kd.C_below HR0.out HB.out)|(with_reducible refine Kd.C_alloc ?_ _)|(with_reducible refine Kd.C_drewN ?_ _)|(with_reducible refine Kd.C_drew ?_))); (case side2 => exact HC0.out); (case side3 => repeat (first|exact (Kd.C_below HR1.out HB.out)|(with_reducible refine Kd.C_alloc ?_ _)|(with_reducible refine Kd.C_drewN ?_ _)|(with_reducible refine Kd.C_drew ?_))); (case side4 => exact HC1.out); rintro e w13 ⟨v455, rfl, ho0, hb⟩; replace HO456 := aM (Kd.R_lower ho0 (below_size (by repeat (first|(with_reducible first|exact HB.out|apply lA|apply lN|apply lD)|exact HB.out)))); replace HB := aM (below_step (by repeat (first|(with_reducible first|exact HB.out|apply lA|apply lN|apply lD)|exact HB.out)) hb); (try clear hb); (try clear hb2); (try clear hk); (try clear hi); (try clear ho0))|(go_at_call 24; (with_reducible refine (emenderref23_Rows.calls kj2 _ _ l0 _ _ l1 t457 t458 _ ?side1 ?side2 ?side3 ?side4 A9.out).mono ?_); (case side1 => repeat (first|exact (Kd.C_below HR0.out HB.out)|(with_reducible refine Kd.C_alloc ?_ _)|(with_reducible refine Kd.C_drewN ?_ _)|(with_reducible refine Kd.C_drew ?_))); (case side2 => exact HC0.out); (case side3 => repeat (first|exact (Kd.C_below HR1.out HB.out)|(with_reducible refine Kd.C_alloc ?_ _)|(with_reducible refine Kd.C_drewN ?_ _)|(with_reducible refine Kd.C_drew ?_))); (case side4 => exact HC1.out); rintro e w14 ⟨v459, rfl, ho0, hb⟩; replace HO456 := aM (Kd.R_below (by (with_reducible repeat (first|apply Kd.R_alloc|apply Kd.R_drewN|apply Kd.R_drew)); exact HO456.out) hb); replace HO460 := aM (Kd.R_lower ho0 (below_size (by repeat (first|(with_reducible first|exact HB.out|apply lA|apply lN|apply lD)|exact HB.out)))); replace HB := aM (below_step (by repeat (first|(with_reducible first|exact HB.out|apply lA|apply lN|apply lD)|exact HB.out)) hb); (try clear hb); (try clear hb2); (try clear hk); (try clear hi); (try clear ho0))|(go_at_call 18; (with_reducible refine (diff_Patch.calls kj2 _ _ l0 _ _ l1 t461 t462 t463 t464 t465 t466 t467 t470 t471 _ ?side1 ?side2 ?side3 ?side4 A10.out).mono ?_); (case side1 => repeat (first|exact (Kd.C_below HR0.out HB.out)|(with_reducible refine Kd.C_alloc ?_ _)|(with_reducible refine Kd.C_drewN ?_ _)|(with_reducible refine Kd.C_drew ?_))); (case side2 => exact HC0.out); (case side3 => repeat (first|exact (Kd.C_below HR1.out HB.out)|(with_reducible refine Kd.C_alloc ?_ _)|(with_reducible refine Kd.C_drewN ?_ _)|(with_reducible refine Kd.C_drew ?_))); (case side4 => exact HC1.out); rintro e w15 ⟨v468, rfl, ho0, hb⟩; replace HO456 := aM (Kd.R_below (by (with_reducible repeat (first|apply Kd.R_alloc|apply Kd.R_drewN|apply Kd.R_drew)); exact HO456.out) hb); replace HO460 := aM (Kd.R_below (by (with_reducible repeat (first|apply Kd.R_alloc|apply Kd.R_drewN|apply Kd.R_drew)); exact HO460.out) hb); replace HO469 := aM (Kd.R_lower ho0 (below_size (by repeat (first|(with_reducible first|exact HB.out|apply lA|apply lN|apply lD)|exact HB.out)))); replace HB := aM (below_step (by repeat (first|(with_reducible first|exact HB.out|apply lA|apply lN|apply lD)|exact HB.out)) hb); (try clear hb); (try clear hb2); (try clear hk); (try clear hi); (try clear ho0))|((with_reducible refine gate_dst (N := 9) rfl ?_); (try (refine gate_guard (by rfl) ?_; dsimp only)); refine box_event ?hg (N := 9) ?hd (cs := #[.int .i64 0, .int .i64 0, .int .i64 0, .int .i64 0, .int .i64 0, .int .i64 0, .slice none 0 0, .int .i64 0]) (t := 43) ?hr ?_; (case hd => rfl); (case hg => rfl); (case hr => first|(go_simp; done)|(go_simp; rfl)); intro gb472 hg w16 hbox hb; replace HO456 := aM (Kd.R_below (by (with_reducible repeat (first|apply Kd.R_alloc|apply Kd.R_drewN|apply Kd.R_drew)); exact HO456.out) hb); replace HO460 := aM (Kd.R_below (by (with_reducible repeat (first|apply Kd.R_alloc|apply Kd.R_drewN|apply Kd.R_drew)); exact HO460.out) hb); replace HO469 := aM (Kd.R_below (by (with_reducible repeat (first|apply Kd.R_alloc|apply Kd.R_drewN|apply Kd.R_drew)); exact HO469.out) hb); replace BK472 := aM (hbox); replace GW472 := aM ((by rw [hg]; exact (below_size (by repeat (first|(with_reducible first|exact HB.out|apply lA|apply lN|apply lD)|exact HB.out))) : w.heap.size ≤ gb472)); replace GE472 := aM ((by rw [hg]; exact (below_size (by repeat (first|(with_reducible first|exact HB.out|apply lA|apply lN|apply lD)|exact HB.out))) : w.heap.size ≤ gb472)); replace HB := aM (below_step (by repeat (first|(with_reducible first|exact HB.out|apply lA|apply lN|apply lD)|exact HB.out)) hb); clear hb hbox hg; obtain ⟨hcz17_0, hcz17_1, hcz17_2, hcz17_3, hcz17_4, hcz17_5, hcz17_6, hcz17_7, hfz17_0, hfz17_1, hfz17_2, hfz17_3, hfz17_4, hfz17_5, hfz17_6, hfz17_7⟩ := bx8z BK472.out; obtain ⟨Ao18, co18, eo18⟩ := Kd.R_slice HO469.out; subst eo18)|(go_at_call 25; (with_reducible refine (emenderref23_Patch.calls kj2 _ _ l0 _ _ l1 t473 t474 t475 t476 t477 t478 t479 t482 t483 _ ?side1 ?side2 ?side3 ?side4 A11.out).mono ?_); (case side1 => exact Kd.C_below HR0.out (by repeat (first|(with_reducible first|exact HB.out|apply lA|apply lN|apply lD|refine lS ?_ GE472.out)|exact HB.out))); (case side2 => exact HC0.out); (case side3 => exact Kd.C_below HR1.out (by repeat (first|(with_reducible first|exact HB.out|apply lA|apply lN|apply lD|refine lS ?_ GE472.out)|exact HB.out))); (case side4 => exact HC1.out); rintro e w19 ⟨v480, rfl, ho0, hb⟩; replace HO456 := aM (Kd.R_below (by (with_reducible repeat (first|apply Kd.R_alloc|apply Kd.R_drewN|apply Kd.R_drew)); exact (Kd.R_mono (Kd.Rf8 (Kd.R_types HO456.out BK472.out (by decide)) (fun _ hk => hk.2)) (fun _ h_ => h_.1))) hb); replace HO460 := aM (Kd.R_below (by (with_reducible repeat (first|apply Kd.R_alloc|apply Kd.R_drewN|apply Kd.R_drew)); exact (Kd.R_mono (Kd.Rf8 (Kd.R_types HO460.out BK472.out (by decide)) (fun _ hk => hk.2)) (fun _ h_ => h_.1))) hb); replace HO481 := aM (Kd.R_lower (Kd.R_new' ho0 (Kd.R_lt (by (with_reducible repeat (first|apply Kd.R_alloc|apply Kd.R_drewN|apply Kd.R_drew)); exact (Kd.R_mono (Kd.Rf8 (Kd.R_types HO469.out BK472.out (by decide)) (fun _ hk => hk.2)) (fun _ h_ => h_.1))))) (below_size (by repeat (first|(with_reducible first|exact HB.out|apply lA|apply lN|apply lD|refine lS ?_ GE472.out)|exact HB.out)))); replace HO469 := aM (Kd.R_elder' (by (with_reducible repeat (first|apply Kd.R_alloc|apply Kd.R_drewN|apply Kd.R_drew)); exact (Kd.R_mono (Kd.Rf8 (Kd.R_types HO469.out BK472.out (by decide)) (fun _ hk => hk.2)) (fun _ h_ => h_.1))) (Kd.R_base ho0) hb); replace BK472 := aM (blk_below (g := gb472) (o := .cells #[.int .i64 t461, .int .i64 t462, .int .i64 t463, .int .i64 t464, .int .i64 t465, .int .i64 t466, .slice Ao18 t467.length co18, .int .i64 t470] 43 (0, 0)) (by (with_reducible repeat (first|refine bN ?_ _|refine bD ?_|refine bA ?_ _)); apply put8; (with_reducible repeat (first|refine bN ?_ _|refine bD ?_|refine bA ?_ _)); exact BK472.out) hb); replace HB := aM (below_step (by repeat (first|(with_reducible first|exact HB.out|apply lA|apply lN|apply lD|refine lS ?_ GE472.out)|exact HB.out)) hb); (try clear hb); (try clear hb2); (try clear hk); (try clear hi); (try clear ho0))|((with_reducible refine gate_dst (N := 11) rfl ?_); (try (refine gate_guard (by rfl) ?_; dsimp only)); refine box_event ?hg (N := 11) ?hd (cs := #[.int .i64 0, .int .i64 0, .int .i64 0, .int .i64 0, .int .i64 0, .int .i64 0, .slice none 0 0, .int .i64 0]) (t := 43) ?hr ?_; (case hd => rfl); (case hg => rfl); (case hr => first|(go_simp; done)|(go_simp; rfl)); intro gb484 hg w20 hbox hb; replace HO456 := aM (Kd.R_below (by (with_reducible repeat (first|apply Kd.R_alloc|apply Kd.R_drewN|apply Kd.R_drew)); exact HO456.out) hb); replace HO460 := aM (Kd.R_below (by (with_reducible repeat (first|apply Kd.R_alloc|apply Kd.R_drewN|apply Kd.R_drew)); exact HO460.out) hb); replace HO469 := aM (Kd.R_below (by (with_reducible repeat (first|apply Kd.R_alloc|apply Kd.R_drewN|apply Kd.R_drew)); exact HO469.out) hb); replace HO481 := aM (Kd.R_below (by (with_reducible repeat (first|apply Kd.R_alloc|apply Kd.R_drewN|apply Kd.R_drew)); exact HO481.out) hb); replace BK484 := aM (hbox); replace GW484 := aM ((by rw [hg]; exact (below_size (by repeat (first|(with_reducible first|exact HB.out|apply lA|apply lN|apply lD|refine lS ?_ GE472.out)|exact HB.out))) : w.heap.size ≤ gb484)); replace GE484 := aM ((by rw [hg]; exact (below_size (by repeat (first|(with_reducible first|exact HB.out|apply lA|apply lN|apply lD|refine lS ?_ GE472.out)|exact HB.out))) : w.heap.size ≤ gb484)); replace HB := aM (below_step (by repeat (first|(with_reducible first|exact HB.out|apply lA|apply lN|apply lD|refine lS ?_ GE472.out)|exact HB.out)) hb); replace NB472_484 := aM ((by rw [hg]; exact Nat.ne_of_lt (blk_lt (g := gb472) (o := .cells #[.int .i64 t461, .int .i64 t462, .int .i64 t463, .int .i64 t464, .int .i64 t465, .int .i64 t466, .slice Ao18 t467.length co18, .int .i64 t470] 43 (0, 0)) (by (with_reducible repeat (first|refine bN ?_ _|refine bD ?_|refine bA ?_ _)); exact BK472.out)) : gb472 ≠ gb484)); replace NB484_472 := aM ((by rw [hg]; exact Nat.ne_of_gt (blk_lt (g := gb472) (o := .cells #[.int .i64 t461, .int .i64 t462, .int .i64 t463, .int .i64 t464, .int .i64 t465, .int .i64 t466, .slice Ao18 t467.length co18, .int .i64 t470] 43 (0, 0)) (by (with_reducible repeat (first|refine bN ?_ _|refine bD ?_|refine bA ?_ _)); exact BK472.out)) : gb484 ≠ gb472)); replace BK472 := aM (blk_below (by (with_reducible repeat (first|refine bN ?_ _|refine bD ?_|refine bA ?_ _)); exact BK472.out) hb); clear hb hbox hg; have hnb21 := NB484_472.out; have hnc21 := NB472_484.out; obtain ⟨hcz22_0, hcz22_1, hcz22_2, hcz22_3, hcz22_4, hcz22_5, hcz22_6, hcz22_7, hfz22_0, hfz22_1, hfz22_2, hfz22_3, hfz22_4, hfz22_5, hfz22_6, hfz22_7⟩ := bx8z BK484.out; obtain ⟨Ao23, co23, eo23⟩ := Kd.R_slice HO481.out; subst eo23)))
    (try simp only [Act.put, List.setIfInBounds_toArray, List.set_cons_zero, List.set_cons_succ])
    go_cut [67] (fun v67 wc => ∃ (kq : Nat) (x67_11 : Bool), v67 = .bool x67_11 ∧ Aside0 (emenderlaw23_DiffRows.j1 kq t453 t457 x67_11 = some r) ∧ Aside0 (kq ≤ kj2) ∧ Aside0 (Kd.R k55 55 wc w.heap.size (fun _ => True) v455 t453) ∧ Aside0 (Kd.R k62 62 wc w.heap.size (fun _ => True) v459 t457) ∧ Aside0 (Kd.R k64 64 wc w.heap.size (fun k_ => some k_ ≠ ((.slice Ao23 t479.length co23) : Value).ownBlock) (.slice Ao18 t467.length co18) t467) ∧ Aside0 (Kd.R k64 64 wc w.heap.size (fun k_ => some k_ ≠ ((.slice Ao18 t467.length co18) : Value).ownBlock) (.slice Ao23 t479.length co23) t479) ∧ Aside0 (wc.heap[gb472]? = some (.cells #[.int .i64 t461, .int .i64 t462, .int .i64 t463, .int .i64 t464, .int .i64 t465, .int .i64 t466, (.slice Ao18 t467.length co18), .int .i64 t470] 43 (0, 0))) ∧ Aside0 (wc.heap[gb484]? = some (.cells #[.int .i64 t473, .int .i64 t474, .int .i64 t475, .int .i64 t476, .int .i64 t477, .int .i64 t478, (.slice Ao23 t479.length co23), .int .i64 t482] 43 (0, 0))) ∧ Aside0 (Below w.heap.size w wc))
    case first =>
     have H := HC12.out
     clear HC12
     by_cases c24 : (t453.length : Int) = (t457.length : Int)
     ·rw [if_pos c24] at H
      have c24b0 : ((t453.length : Int) == (t457.length : Int)) = true := beq_iff_eq.mpr c24
      have c24b1 : ((t453.length : Int) != (t457.length : Int)) = false := bne_eq_false_iff_eq.mpr c24
      have c24b2 : (t453.length == t457.length) = true := by first|simpa using c24|(simp at c24 ⊢; omega)
      clear c24
      (first|rw [c24b0]|(simp only [i64_w, i32_w]; rw [c24b0])|skip)
      by_cases c25 : t454 = t458
      ·rw [if_pos c25] at H
       have c25b0 : (t454 == t458) = true := beq_iff_eq.mpr c25
       have c25b1 : (t454 != t458) = false := bne_eq_false_iff_eq.mpr c25
       clear c25
       replace H := Option.bind_eq_some_iff.mp H
       obtain ⟨t485, A260, H⟩ := H
       replace H : (if t485 = true then (emenderlaw23_DiffRows.j1 kj2 t453 t457 (t471 != t483)) else (emenderlaw23_DiffRows.j1 kj2 t453 t457 true)) = some r := H
       have A26 := aM A260
       clear A260
       by_cases c27 : t485 = true
       ·subst c27
        have H1 : (emenderlaw23_DiffRows.j1 kj2 t453 t457 (t471 != t483)) = some r := by rw [if_pos rfl] at H; exact H
        clear H
        have H := H1
        clear H1
        have H' := aM H
        clear H
        obtain ⟨Ao28, co28, eo28⟩ := Kd.R_slice HO456.out
        subst eo28
        obtain ⟨Ao29, co29, eo29⟩ := Kd.R_slice HO460.out
        subst eo29
        have hnb30 := NB472_484.out
        have hnc30 := NB484_472.out
        obtain ⟨hcz31_0, hcz31_1, hcz31_2, hcz31_3, hcz31_4, hcz31_5, hcz31_6, hcz31_7, hfz31_0, hfz31_1, hfz31_2, hfz31_3, hfz31_4, hfz31_5, hfz31_6, hfz31_7⟩ := bx8z BK472.out
        obtain ⟨hcz32_0, hcz32_1, hcz32_2, hcz32_3, hcz32_4, hcz32_5, hcz32_6, hcz32_7, hfz32_0, hfz32_1, hfz32_2, hfz32_3, hfz32_4, hfz32_5, hfz32_6, hfz32_7⟩ := bx8z BK484.out
        go_wp2_with (first|(go_at_call 19; (with_reducible refine (emenderlaw23_twin.calls kj2 t461 t462 t463 t464 t465 t466 _ _ t467 t470 t473 t474 t475 t476 t477 t478 _ _ t479 t482 true _ ?side1 ?side2 ?side3 ?side4 A26.out).mono ?_); (case side1 => refine (Kd.R_reads' (e := 64) (base := w.heap.size) (ok := fun k_ => (True ∧ some k_ ≠ (.slice Ao23 t479.length co23 : Value).ownBlock)) (n := t467.length) (c := co18) ?_).2.2; exact (by (with_reducible repeat (first|apply Kd.R_alloc|apply Kd.R_drewN|apply Kd.R_drew)); exact (Kd.R_mono (Kd.Rf8 (Kd.R_types HO469.out BK484.out (by decide)) (fun _ hk => hk.2)) (fun _ h_ => h_.1)))); (case side2 => exact (Kd.R_reads' HO469.out).2.1); (case side3 => refine (Kd.R_reads' (e := 64) (base := w.heap.size) (ok := fun k_ => (True ∧ some k_ ≠ (.slice Ao18 t467.length co18 : Value).ownBlock)) (n := t479.length) (c := co23) ?_).2.2; exact (by (with_reducible repeat (first|apply Kd.R_alloc|apply Kd.R_drewN|apply Kd.R_drew)); exact (Kd.R_mono (Kd.Rf8 (Kd.R_types HO481.out BK484.out (by decide)) (fun _ hk => hk.2)) (fun _ h_ => h_.1)))); (case side4 => exact (Kd.R_reads' HO481.out).2.1); rintro e w33 ⟨rfl, hb⟩; replace HO456 := aM (Kd.R_below (by (with_reducible repeat (first|apply Kd.R_alloc|apply Kd.R_drewN|apply Kd.R_drew)); exact (Kd.R_mono (Kd.Rf8 (Kd.R_types HO456.out BK484.out (by decide)) (fun _ hk => hk.2)) (fun _ h_ => h_.1))) hb); replace HO460 := aM (Kd.R_below (by (with_reducible repeat (first|apply Kd.R_alloc|apply Kd.R_drewN|apply Kd.R_drew)); exact (Kd.R_mono (Kd.Rf8 (Kd.R_types HO460.out BK484.out (by decide)) (fun _ hk => hk.2)) (fun _ h_ => h_.1))) hb); replace HO469 := aM (Kd.R_below (by (with_reducible repeat (first|apply Kd.R_alloc|apply Kd.R_drewN|apply Kd.R_drew)); exact (Kd.R_mono (Kd.Rf8 (Kd.R_types HO469.out BK484.out (by decide)) (fun _ hk => hk.2)) (fun _ h_ => h_.1))) hb); replace HO481 := aM (Kd.R_below (by (with_reducible repeat (first|apply Kd.R_alloc|apply Kd.R_drewN|apply Kd.R_drew)); exact (Kd.R_mono (Kd.Rf8 (Kd.R_types HO481.out BK484.out (by decide)) (fun _ hk => hk.2)) (fun _ h_ => h_.1))) hb); replace BK472 := aM (blk_below (g := gb472) (o := .cells #[.int .i64 t461, .int .i64 t462, .int .i64 t463, .int .i64 t464, .int .i64 t465, .int .i64 t466, .slice Ao18 t467.length co18, .int .i64 t470] 43 (0, 0)) (by (with_reducible repeat (first|refine bN ?_ _|refine bD ?_|refine bA ?_ _)); refine far8 ?_ NB472_484.out; (with_reducible repeat (first|refine bN ?_ _|refine bD ?_|refine bA ?_ _)); exact BK472.out) hb); replace BK484 := aM (blk_below (g := gb484) (o := .cells #[.int .i64 t473, .int .i64 t474, .int .i64 t475, .int .i64 t476, .int .i64 t477, .int .i64 t478, .slice Ao23 t479.length co23, .int .i64 t482] 43 (0, 0)) (by (with_reducible repeat (first|refine bN ?_ _|refine bD ?_|refine bA ?_ _)); apply put8; (with_reducible repeat (first|refine bN ?_ _|refine bD ?_|refine bA ?_ _)); exact BK484.out) hb); replace HB := aM (below_step (by repeat (first|(with_reducible first|exact HB.out|apply lA|apply lN|apply lD|refine lS ?_ GE472.out|refine lS ?_ GE484.out)|exact HB.out)) hb); (try clear hb); (try clear hb2); (try clear hk); (try clear hi)))
        repeat (go_quiet (first|(go_at_call 19; (with_reducible refine (emenderlaw23_twin.calls kj2 t461 t462 t463 t464 t465 t466 _ _ t467 t470 t473 t474 t475 t476 t477 t478 _ _ t479 t482 true _ ?side1 ?side2 ?side3 ?side4 A26.out).mono ?_); (case side1 => refine (Kd.R_reads' (e := 64) (base := w.heap.size) (ok := fun k_ => (True ∧ some k_ ≠ (.slice Ao23 t479.length co23 : Value).ownBlock)) (n := t467.length) (c := co18) ?_).2.2; exact (by (with_reducible repeat (first|apply Kd.R_alloc|apply Kd.R_drewN|apply Kd.R_drew)); exact (Kd.R_mono (Kd.Rf8 (Kd.R_types HO469.out BK484.out (by decide)) (fun _ hk => hk.2)) (fun _ h_ => h_.1)))); (case side2 => exact (Kd.R_reads' HO469.out).2.1); (case side3 => refine (Kd.R_reads' (e := 64) (base := w.heap.size) (ok := fun k_ => (True ∧ some k_ ≠ (.slice Ao18 t467.length co18 : Value).ownBlock)) (n := t479.length) (c := co23) ?_).2.2; exact (by (with_reducible repeat (first|apply Kd.R_alloc|apply Kd.R_drewN|apply Kd.R_drew)); exact (Kd.R_mono (Kd.Rf8 (Kd.R_types HO481.out BK484.out (by decide)) (fun _ hk => hk.2)) (fun _ h_ => h_.1)))); (case side4 => exact (Kd.R_reads' HO481.out).2.1); rintro e w33 ⟨rfl, hb⟩; replace HO456 := aM (Kd.R_below (by (with_reducible repeat (first|apply Kd.R_alloc|apply Kd.R_drewN|apply Kd.R_drew)); exact (Kd.R_mono (Kd.Rf8 (Kd.R_types HO456.out BK484.out (by decide)) (fun _ hk => hk.2)) (fun _ h_ => h_.1))) hb); replace HO460 := aM (Kd.R_below (by (with_reducible repeat (first|apply Kd.R_alloc|apply Kd.R_drewN|apply Kd.R_drew)); exact (Kd.R_mono (Kd.Rf8 (Kd.R_types HO460.out BK484.out (by decide)) (fun _ hk => hk.2)) (fun _ h_ => h_.1))) hb); replace HO469 := aM (Kd.R_below (by (with_reducible repeat (first|apply Kd.R_alloc|apply Kd.R_drewN|apply Kd.R_drew)); exact (Kd.R_mono (Kd.Rf8 (Kd.R_types HO469.out BK484.out (by decide)) (fun _ hk => hk.2)) (fun _ h_ => h_.1))) hb); replace HO481 := aM (Kd.R_below (by (with_reducible repeat (first|apply Kd.R_alloc|apply Kd.R_drewN|apply Kd.R_drew)); exact (Kd.R_mono (Kd.Rf8 (Kd.R_types HO481.out BK484.out (by decide)) (fun _ hk => hk.2)) (fun _ h_ => h_.1))) hb); replace BK472 := aM (blk_below (g := gb472) (o := .cells #[.int .i64 t461, .int .i64 t462, .int .i64 t463, .int .i64 t464, .int .i64 t465, .int .i64 t466, .slice Ao18 t467.length co18, .int .i64 t470] 43 (0, 0)) (by (with_reducible repeat (first|refine bN ?_ _|refine bD ?_|refine bA ?_ _)); refine far8 ?_ NB472_484.out; (with_reducible repeat (first|refine bN ?_ _|refine bD ?_|refine bA ?_ _)); exact BK472.out) hb); replace BK484 := aM (blk_below (g := gb484) (o := .cells #[.int .i64 t473, .int .i64 t474, .int .i64 t475, .int .i64 t476, .int .i64 t477, .int .i64 t478, .slice Ao23 t479.length co23, .int .i64 t482] 43 (0, 0)) (by (with_reducible repeat (first|refine bN ?_ _|refine bD ?_|refine bA ?_ _)); apply put8; (with_reducible repeat (first|refine bN ?_ _|refine bD ?_|refine bA ?_ _)); exact BK484.out) hb); replace HB := aM (below_step (by repeat (first|(with_reducible first|exact HB.out|apply lA|apply lN|apply lD|refine lS ?_ GE472.out|refine lS ?_ GE484.out)|exact HB.out)) hb); (try clear hb); (try clear hb2); (try clear hk); (try clear hi))); try go_wp2_with (first|(go_at_call 19; (with_reducible refine (emenderlaw23_twin.calls kj2 t461 t462 t463 t464 t465 t466 _ _ t467 t470 t473 t474 t475 t476 t477 t478 _ _ t479 t482 true _ ?side1 ?side2 ?side3 ?side4 A26.out).mono ?_); (case side1 => refine (Kd.R_reads' (e := 64) (base := w.heap.size) (ok := fun k_ => (True ∧ some k_ ≠ (.slice Ao23 t479.length co23 : Value).ownBlock)) (n := t467.length) (c := co18) ?_).2.2; exact (by (with_reducible repeat (first|apply Kd.R_alloc|apply Kd.R_drewN|apply Kd.R_drew)); exact (Kd.R_mono (Kd.Rf8 (Kd.R_types HO469.out BK484.out (by decide)) (fun _ hk => hk.2)) (fun _ h_ => h_.1)))); (case side2 => exact (Kd.R_reads' HO469.out).2.1); (case side3 => refine (Kd.R_reads' (e := 64) (base := w.heap.size) (ok := fun k_ => (True ∧ some k_ ≠ (.slice Ao18 t467.length co18 : Value).ownBlock)) (n := t479.length) (c := co23) ?_).2.2; exact (by (with_reducible repeat (first|apply Kd.R_alloc|apply Kd.R_drewN|apply Kd.R_drew)); exact (Kd.R_mono (Kd.Rf8 (Kd.R_types HO481.out BK484.out (by decide)) (fun _ hk => hk.2)) (fun _ h_ => h_.1)))); (case side4 => exact (Kd.R_reads' HO481.out).2.1); rintro e w33 ⟨rfl, hb⟩; replace HO456 := aM (Kd.R_below (by (with_reducible repeat (first|apply Kd.R_alloc|apply Kd.R_drewN|apply Kd.R_drew)); exact (Kd.R_mono (Kd.Rf8 (Kd.R_types HO456.out BK484.out (by decide)) (fun _ hk => hk.2)) (fun _ h_ => h_.1))) hb); replace HO460 := aM (Kd.R_below (by (with_reducible repeat (first|apply Kd.R_alloc|apply Kd.R_drewN|apply Kd.R_drew)); exact (Kd.R_mono (Kd.Rf8 (Kd.R_types HO460.out BK484.out (by decide)) (fun _ hk => hk.2)) (fun _ h_ => h_.1))) hb); replace HO469 := aM (Kd.R_below (by (with_reducible repeat (first|apply Kd.R_alloc|apply Kd.R_drewN|apply Kd.R_drew)); exact (Kd.R_mono (Kd.Rf8 (Kd.R_types HO469.out BK484.out (by decide)) (fun _ hk => hk.2)) (fun _ h_ => h_.1))) hb); replace HO481 := aM (Kd.R_below (by (with_reducible repeat (first|apply Kd.R_alloc|apply Kd.R_drewN|apply Kd.R_drew)); exact (Kd.R_mono (Kd.Rf8 (Kd.R_types HO481.out BK484.out (by decide)) (fun _ hk => hk.2)) (fun _ h_ => h_.1))) hb); replace BK472 := aM (blk_below (g := gb472) (o := .cells #[.int .i64 t461, .int .i64 t462, .int .i64 t463, .int .i64 t464, .int .i64 t465, .int .i64 t466, .slice Ao18 t467.length co18, .int .i64 t470] 43 (0, 0)) (by (with_reducible repeat (first|refine bN ?_ _|refine bD ?_|refine bA ?_ _)); refine far8 ?_ NB472_484.out; (with_reducible repeat (first|refine bN ?_ _|refine bD ?_|refine bA ?_ _)); exact BK472.out) hb); replace BK484 := aM (blk_below (g := gb484) (o := .cells #[.int .i64 t473, .int .i64 t474, .int .i64 t475, .int .i64 t476, .int .i64 t477, .int .i64 t478, .slice Ao23 t479.length co23, .int .i64 t482] 43 (0, 0)) (by (with_reducible repeat (first|refine bN ?_ _|refine bD ?_|refine bA ?_ _)); apply put8; (with_reducible repeat (first|refine bN ?_ _|refine bD ?_|refine bA ?_ _)); exact BK484.out) hb); replace HB := aM (below_step (by repeat (first|(with_reducible first|exact HB.out|apply lA|apply lN|apply lD|refine lS ?_ GE472.out|refine lS ?_ GE484.out)|exact HB.out)) hb); (try clear hb); (try clear hb2); (try clear hk); (try clear hi))))
        go_meet
        case rel => exact ⟨_, ((t471 != t483)), (by first|rfl|(simp; done)|(simp [*]; done)), H', ⟨by have := HJ2.out; first|omega|exact Nat.le_refl _⟩, ⟨by (with_reducible repeat (first|apply Kd.R_alloc|apply Kd.R_drewN|apply Kd.R_drew)); exact HO456.out⟩, ⟨by (with_reducible repeat (first|apply Kd.R_alloc|apply Kd.R_drewN|apply Kd.R_drew)); exact HO460.out⟩, ⟨by (with_reducible repeat (first|apply Kd.R_alloc|apply Kd.R_drewN|apply Kd.R_drew)); exact Kd.R_mono HO469.out (fun _ hk => hk.2)⟩, ⟨by (with_reducible repeat (first|apply Kd.R_alloc|apply Kd.R_drewN|apply Kd.R_drew)); exact Kd.R_mono HO481.out (fun _ hk => hk.2)⟩, ⟨by (with_reducible repeat (first|refine bN ?_ _|refine bD ?_|refine bA ?_ _)); exact BK472.out⟩, ⟨by (with_reducible repeat (first|refine bN ?_ _|refine bD ?_|refine bA ?_ _)); exact BK484.out⟩, ⟨by repeat (first|(with_reducible first|exact HB.out|apply lA|apply lN|apply lD|refine lS ?_ GE472.out|refine lS ?_ GE484.out)|exact HB.out)⟩⟩
       ·replace c27 := Bool.eq_false_iff.mpr c27
        subst c27
        have H1 : (emenderlaw23_DiffRows.j1 kj2 t453 t457 true) = some r := by rw [if_neg (show ¬ (false = true) by decide)] at H; exact H
        clear H
        have H := H1
        clear H1
        have H' := aM H
        clear H
        obtain ⟨Ao34, co34, eo34⟩ := Kd.R_slice HO456.out
        subst eo34
        obtain ⟨Ao35, co35, eo35⟩ := Kd.R_slice HO460.out
        subst eo35
        have hnb36 := NB472_484.out
        have hnc36 := NB484_472.out
        obtain ⟨hcz37_0, hcz37_1, hcz37_2, hcz37_3, hcz37_4, hcz37_5, hcz37_6, hcz37_7, hfz37_0, hfz37_1, hfz37_2, hfz37_3, hfz37_4, hfz37_5, hfz37_6, hfz37_7⟩ := bx8z BK472.out
        obtain ⟨hcz38_0, hcz38_1, hcz38_2, hcz38_3, hcz38_4, hcz38_5, hcz38_6, hcz38_7, hfz38_0, hfz38_1, hfz38_2, hfz38_3, hfz38_4, hfz38_5, hfz38_6, hfz38_7⟩ := bx8z BK484.out
        go_wp2_with (first|(go_at_call 19; (with_reducible refine (emenderlaw23_twin.calls kj2 t461 t462 t463 t464 t465 t466 _ _ t467 t470 t473 t474 t475 t476 t477 t478 _ _ t479 t482 false _ ?side1 ?side2 ?side3 ?side4 A26.out).mono ?_); (case side1 => refine (Kd.R_reads' (e := 64) (base := w.heap.size) (ok := fun k_ => (True ∧ some k_ ≠ (.slice Ao23 t479.length co23 : Value).ownBlock)) (n := t467.length) (c := co18) ?_).2.2; exact (by (with_reducible repeat (first|apply Kd.R_alloc|apply Kd.R_drewN|apply Kd.R_drew)); exact (Kd.R_mono (Kd.Rf8 (Kd.R_types HO469.out BK484.out (by decide)) (fun _ hk => hk.2)) (fun _ h_ => h_.1)))); (case side2 => exact (Kd.R_reads' HO469.out).2.1); (case side3 => refine (Kd.R_reads' (e := 64) (base := w.heap.size) (ok := fun k_ => (True ∧ some k_ ≠ (.slice Ao18 t467.length co18 : Value).ownBlock)) (n := t479.length) (c := co23) ?_).2.2; exact (by (with_reducible repeat (first|apply Kd.R_alloc|apply Kd.R_drewN|apply Kd.R_drew)); exact (Kd.R_mono (Kd.Rf8 (Kd.R_types HO481.out BK484.out (by decide)) (fun _ hk => hk.2)) (fun _ h_ => h_.1)))); (case side4 => exact (Kd.R_reads' HO481.out).2.1); rintro e w39 ⟨rfl, hb⟩; replace HO456 := aM (Kd.R_below (by (with_reducible repeat (first|apply Kd.R_alloc|apply Kd.R_drewN|apply Kd.R_drew)); exact (Kd.R_mono (Kd.Rf8 (Kd.R_types HO456.out BK484.out (by decide)) (fun _ hk => hk.2)) (fun _ h_ => h_.1))) hb); replace HO460 := aM (Kd.R_below (by (with_reducible repeat (first|apply Kd.R_alloc|apply Kd.R_drewN|apply Kd.R_drew)); exact (Kd.R_mono (Kd.Rf8 (Kd.R_types HO460.out BK484.out (by decide)) (fun _ hk => hk.2)) (fun _ h_ => h_.1))) hb); replace HO469 := aM (Kd.R_below (by (with_reducible repeat (first|apply Kd.R_alloc|apply Kd.R_drewN|apply Kd.R_drew)); exact (Kd.R_mono (Kd.Rf8 (Kd.R_types HO469.out BK484.out (by decide)) (fun _ hk => hk.2)) (fun _ h_ => h_.1))) hb); replace HO481 := aM (Kd.R_below (by (with_reducible repeat (first|apply Kd.R_alloc|apply Kd.R_drewN|apply Kd.R_drew)); exact (Kd.R_mono (Kd.Rf8 (Kd.R_types HO481.out BK484.out (by decide)) (fun _ hk => hk.2)) (fun _ h_ => h_.1))) hb); replace BK472 := aM (blk_below (g := gb472) (o := .cells #[.int .i64 t461, .int .i64 t462, .int .i64 t463, .int .i64 t464, .int .i64 t465, .int .i64 t466, .slice Ao18 t467.length co18, .int .i64 t470] 43 (0, 0)) (by (with_reducible repeat (first|refine bN ?_ _|refine bD ?_|refine bA ?_ _)); refine far8 ?_ NB472_484.out; (with_reducible repeat (first|refine bN ?_ _|refine bD ?_|refine bA ?_ _)); exact BK472.out) hb); replace BK484 := aM (blk_below (g := gb484) (o := .cells #[.int .i64 t473, .int .i64 t474, .int .i64 t475, .int .i64 t476, .int .i64 t477, .int .i64 t478, .slice Ao23 t479.length co23, .int .i64 t482] 43 (0, 0)) (by (with_reducible repeat (first|refine bN ?_ _|refine bD ?_|refine bA ?_ _)); apply put8; (with_reducible repeat (first|refine bN ?_ _|refine bD ?_|refine bA ?_ _)); exact BK484.out) hb); replace HB := aM (below_step (by repeat (first|(with_reducible first|exact HB.out|apply lA|apply lN|apply lD|refine lS ?_ GE472.out|refine lS ?_ GE484.out)|exact HB.out)) hb); (try clear hb); (try clear hb2); (try clear hk); (try clear hi)))
        repeat (go_quiet (first|(go_at_call 19; (with_reducible refine (emenderlaw23_twin.calls kj2 t461 t462 t463 t464 t465 t466 _ _ t467 t470 t473 t474 t475 t476 t477 t478 _ _ t479 t482 false _ ?side1 ?side2 ?side3 ?side4 A26.out).mono ?_); (case side1 => refine (Kd.R_reads' (e := 64) (base := w.heap.size) (ok := fun k_ => (True ∧ some k_ ≠ (.slice Ao23 t479.length co23 : Value).ownBlock)) (n := t467.length) (c := co18) ?_).2.2; exact (by (with_reducible repeat (first|apply Kd.R_alloc|apply Kd.R_drewN|apply Kd.R_drew)); exact (Kd.R_mono (Kd.Rf8 (Kd.R_types HO469.out BK484.out (by decide)) (fun _ hk => hk.2)) (fun _ h_ => h_.1)))); (case side2 => exact (Kd.R_reads' HO469.out).2.1); (case side3 => refine (Kd.R_reads' (e := 64) (base := w.heap.size) (ok := fun k_ => (True ∧ some k_ ≠ (.slice Ao18 t467.length co18 : Value).ownBlock)) (n := t479.length) (c := co23) ?_).2.2; exact (by (with_reducible repeat (first|apply Kd.R_alloc|apply Kd.R_drewN|apply Kd.R_drew)); exact (Kd.R_mono (Kd.Rf8 (Kd.R_types HO481.out BK484.out (by decide)) (fun _ hk => hk.2)) (fun _ h_ => h_.1)))); (case side4 => exact (Kd.R_reads' HO481.out).2.1); rintro e w39 ⟨rfl, hb⟩; replace HO456 := aM (Kd.R_below (by (with_reducible repeat (first|apply Kd.R_alloc|apply Kd.R_drewN|apply Kd.R_drew)); exact (Kd.R_mono (Kd.Rf8 (Kd.R_types HO456.out BK484.out (by decide)) (fun _ hk => hk.2)) (fun _ h_ => h_.1))) hb); replace HO460 := aM (Kd.R_below (by (with_reducible repeat (first|apply Kd.R_alloc|apply Kd.R_drewN|apply Kd.R_drew)); exact (Kd.R_mono (Kd.Rf8 (Kd.R_types HO460.out BK484.out (by decide)) (fun _ hk => hk.2)) (fun _ h_ => h_.1))) hb); replace HO469 := aM (Kd.R_below (by (with_reducible repeat (first|apply Kd.R_alloc|apply Kd.R_drewN|apply Kd.R_drew)); exact (Kd.R_mono (Kd.Rf8 (Kd.R_types HO469.out BK484.out (by decide)) (fun _ hk => hk.2)) (fun _ h_ => h_.1))) hb); replace HO481 := aM (Kd.R_below (by (with_reducible repeat (first|apply Kd.R_alloc|apply Kd.R_drewN|apply Kd.R_drew)); exact (Kd.R_mono (Kd.Rf8 (Kd.R_types HO481.out BK484.out (by decide)) (fun _ hk => hk.2)) (fun _ h_ => h_.1))) hb); replace BK472 := aM (blk_below (g := gb472) (o := .cells #[.int .i64 t461, .int .i64 t462, .int .i64 t463, .int .i64 t464, .int .i64 t465, .int .i64 t466, .slice Ao18 t467.length co18, .int .i64 t470] 43 (0, 0)) (by (with_reducible repeat (first|refine bN ?_ _|refine bD ?_|refine bA ?_ _)); refine far8 ?_ NB472_484.out; (with_reducible repeat (first|refine bN ?_ _|refine bD ?_|refine bA ?_ _)); exact BK472.out) hb); replace BK484 := aM (blk_below (g := gb484) (o := .cells #[.int .i64 t473, .int .i64 t474, .int .i64 t475, .int .i64 t476, .int .i64 t477, .int .i64 t478, .slice Ao23 t479.length co23, .int .i64 t482] 43 (0, 0)) (by (with_reducible repeat (first|refine bN ?_ _|refine bD ?_|refine bA ?_ _)); apply put8; (with_reducible repeat (first|refine bN ?_ _|refine bD ?_|refine bA ?_ _)); exact BK484.out) hb); replace HB := aM (below_step (by repeat (first|(with_reducible first|exact HB.out|apply lA|apply lN|apply lD|refine lS ?_ GE472.out|refine lS ?_ GE484.out)|exact HB.out)) hb); (try clear hb); (try clear hb2); (try clear hk); (try clear hi))); try go_wp2_with (first|(go_at_call 19; (with_reducible refine (emenderlaw23_twin.calls kj2 t461 t462 t463 t464 t465 t466 _ _ t467 t470 t473 t474 t475 t476 t477 t478 _ _ t479 t482 false _ ?side1 ?side2 ?side3 ?side4 A26.out).mono ?_); (case side1 => refine (Kd.R_reads' (e := 64) (base := w.heap.size) (ok := fun k_ => (True ∧ some k_ ≠ (.slice Ao23 t479.length co23 : Value).ownBlock)) (n := t467.length) (c := co18) ?_).2.2; exact (by (with_reducible repeat (first|apply Kd.R_alloc|apply Kd.R_drewN|apply Kd.R_drew)); exact (Kd.R_mono (Kd.Rf8 (Kd.R_types HO469.out BK484.out (by decide)) (fun _ hk => hk.2)) (fun _ h_ => h_.1)))); (case side2 => exact (Kd.R_reads' HO469.out).2.1); (case side3 => refine (Kd.R_reads' (e := 64) (base := w.heap.size) (ok := fun k_ => (True ∧ some k_ ≠ (.slice Ao18 t467.length co18 : Value).ownBlock)) (n := t479.length) (c := co23) ?_).2.2; exact (by (with_reducible repeat (first|apply Kd.R_alloc|apply Kd.R_drewN|apply Kd.R_drew)); exact (Kd.R_mono (Kd.Rf8 (Kd.R_types HO481.out BK484.out (by decide)) (fun _ hk => hk.2)) (fun _ h_ => h_.1)))); (case side4 => exact (Kd.R_reads' HO481.out).2.1); rintro e w39 ⟨rfl, hb⟩; replace HO456 := aM (Kd.R_below (by (with_reducible repeat (first|apply Kd.R_alloc|apply Kd.R_drewN|apply Kd.R_drew)); exact (Kd.R_mono (Kd.Rf8 (Kd.R_types HO456.out BK484.out (by decide)) (fun _ hk => hk.2)) (fun _ h_ => h_.1))) hb); replace HO460 := aM (Kd.R_below (by (with_reducible repeat (first|apply Kd.R_alloc|apply Kd.R_drewN|apply Kd.R_drew)); exact (Kd.R_mono (Kd.Rf8 (Kd.R_types HO460.out BK484.out (by decide)) (fun _ hk => hk.2)) (fun _ h_ => h_.1))) hb); replace HO469 := aM (Kd.R_below (by (with_reducible repeat (first|apply Kd.R_alloc|apply Kd.R_drewN|apply Kd.R_drew)); exact (Kd.R_mono (Kd.Rf8 (Kd.R_types HO469.out BK484.out (by decide)) (fun _ hk => hk.2)) (fun _ h_ => h_.1))) hb); replace HO481 := aM (Kd.R_below (by (with_reducible repeat (first|apply Kd.R_alloc|apply Kd.R_drewN|apply Kd.R_drew)); exact (Kd.R_mono (Kd.Rf8 (Kd.R_types HO481.out BK484.out (by decide)) (fun _ hk => hk.2)) (fun _ h_ => h_.1))) hb); replace BK472 := aM (blk_below (g := gb472) (o := .cells #[.int .i64 t461, .int .i64 t462, .int .i64 t463, .int .i64 t464, .int .i64 t465, .int .i64 t466, .slice Ao18 t467.length co18, .int .i64 t470] 43 (0, 0)) (by (with_reducible repeat (first|refine bN ?_ _|refine bD ?_|refine bA ?_ _)); refine far8 ?_ NB472_484.out; (with_reducible repeat (first|refine bN ?_ _|refine bD ?_|refine bA ?_ _)); exact BK472.out) hb); replace BK484 := aM (blk_below (g := gb484) (o := .cells #[.int .i64 t473, .int .i64 t474, .int .i64 t475, .int .i64 t476, .int .i64 t477, .int .i64 t478, .slice Ao23 t479.length co23, .int .i64 t482] 43 (0, 0)) (by (with_reducible repeat (first|refine bN ?_ _|refine bD ?_|refine bA ?_ _)); apply put8; (with_reducible repeat (first|refine bN ?_ _|refine bD ?_|refine bA ?_ _)); exact BK484.out) hb); replace HB := aM (below_step (by repeat (first|(with_reducible first|exact HB.out|apply lA|apply lN|apply lD|refine lS ?_ GE472.out|refine lS ?_ GE484.out)|exact HB.out)) hb); (try clear hb); (try clear hb2); (try clear hk); (try clear hi))))
        go_meet
        case rel => exact ⟨_, (true), (by first|rfl|(simp; done)|(simp [*]; done)), H', ⟨by have := HJ2.out; first|omega|exact Nat.le_refl _⟩, ⟨by (with_reducible repeat (first|apply Kd.R_alloc|apply Kd.R_drewN|apply Kd.R_drew)); exact HO456.out⟩, ⟨by (with_reducible repeat (first|apply Kd.R_alloc|apply Kd.R_drewN|apply Kd.R_drew)); exact HO460.out⟩, ⟨by (with_reducible repeat (first|apply Kd.R_alloc|apply Kd.R_drewN|apply Kd.R_drew)); exact Kd.R_mono HO469.out (fun _ hk => hk.2)⟩, ⟨by (with_reducible repeat (first|apply Kd.R_alloc|apply Kd.R_drewN|apply Kd.R_drew)); exact Kd.R_mono HO481.out (fun _ hk => hk.2)⟩, ⟨by (with_reducible repeat (first|refine bN ?_ _|refine bD ?_|refine bA ?_ _)); exact BK472.out⟩, ⟨by (with_reducible repeat (first|refine bN ?_ _|refine bD ?_|refine bA ?_ _)); exact BK484.out⟩, ⟨by repeat (first|(with_reducible first|exact HB.out|apply lA|apply lN|apply lD|refine lS ?_ GE472.out|refine lS ?_ GE484.out)|exact HB.out)⟩⟩
      ·rw [if_neg c25] at H
       have c25b0 : (t454 == t458) = false := beq_eq_false_iff_ne.mpr c25
       have c25b1 : (t454 != t458) = true := bne_iff_ne.mpr c25
       have H' := aM H
       clear H
       obtain ⟨Ao40, co40, eo40⟩ := Kd.R_slice HO456.out
       subst eo40
       obtain ⟨Ao41, co41, eo41⟩ := Kd.R_slice HO460.out
       subst eo41
       go_wp2
       repeat (go_quiet (fail); try go_wp2)
       go_meet
       case rel => exact ⟨_, (true), (by first|rfl|(simp; done)|(simp [*]; done)), H', ⟨by have := HJ2.out; first|omega|exact Nat.le_refl _⟩, ⟨by (with_reducible repeat (first|apply Kd.R_alloc|apply Kd.R_drewN|apply Kd.R_drew)); exact Kd.R_mono (Kd.Rf8 (Kd.R_types HO456.out BK484.out (by decide)) (fun _ hk => hk.2)) (fun _ hk => trivial)⟩, ⟨by (with_reducible repeat (first|apply Kd.R_alloc|apply Kd.R_drewN|apply Kd.R_drew)); exact Kd.R_mono (Kd.Rf8 (Kd.R_types HO460.out BK484.out (by decide)) (fun _ hk => hk.2)) (fun _ hk => trivial)⟩, ⟨by (with_reducible repeat (first|apply Kd.R_alloc|apply Kd.R_drewN|apply Kd.R_drew)); exact Kd.R_mono (Kd.Rf8 (Kd.R_types HO469.out BK484.out (by decide)) (fun _ hk => hk.2)) (fun _ hk => hk.1.2)⟩, ⟨by (with_reducible repeat (first|apply Kd.R_alloc|apply Kd.R_drewN|apply Kd.R_drew)); exact Kd.R_mono (Kd.Rf8 (Kd.R_types HO481.out BK484.out (by decide)) (fun _ hk => hk.2)) (fun _ hk => hk.1.2)⟩, ⟨by (with_reducible repeat (first|refine bN ?_ _|refine bD ?_|refine bA ?_ _)); refine far8 ?_ NB472_484.out; (with_reducible repeat (first|refine bN ?_ _|refine bD ?_|refine bA ?_ _)); exact BK472.out⟩, ⟨by (with_reducible repeat (first|refine bN ?_ _|refine bD ?_|refine bA ?_ _)); apply put8; (with_reducible repeat (first|refine bN ?_ _|refine bD ?_|refine bA ?_ _)); exact BK484.out⟩, ⟨by repeat (first|(with_reducible first|exact HB.out|apply lA|apply lN|apply lD|refine lS ?_ GE472.out|refine lS ?_ GE484.out)|exact HB.out)⟩⟩
     ·rw [if_neg c24] at H
      have c24b0 : ((t453.length : Int) == (t457.length : Int)) = false := beq_eq_false_iff_ne.mpr c24
      have c24b1 : ((t453.length : Int) != (t457.length : Int)) = true := bne_iff_ne.mpr c24
      have c24b2 : (t453.length == t457.length) = false := by first|simpa using c24|(simp at c24 ⊢; omega)
      (first|rw [c24b0]|(simp only [i64_w, i32_w]; rw [c24b0])|skip)
      have H' := aM H
      clear H
      obtain ⟨Ao42, co42, eo42⟩ := Kd.R_slice HO456.out
      subst eo42
      obtain ⟨Ao43, co43, eo43⟩ := Kd.R_slice HO460.out
      subst eo43
      go_wp2
      repeat (go_quiet (fail); try go_wp2)
      go_meet
      case rel => exact ⟨_, (true), (by first|rfl|(simp; done)|(simp [*]; done)), H', ⟨by have := HJ2.out; first|omega|exact Nat.le_refl _⟩, ⟨by (with_reducible repeat (first|apply Kd.R_alloc|apply Kd.R_drewN|apply Kd.R_drew)); exact Kd.R_mono (Kd.Rf8 (Kd.R_types HO456.out BK484.out (by decide)) (fun _ hk => hk.2)) (fun _ hk => trivial)⟩, ⟨by (with_reducible repeat (first|apply Kd.R_alloc|apply Kd.R_drewN|apply Kd.R_drew)); exact Kd.R_mono (Kd.Rf8 (Kd.R_types HO460.out BK484.out (by decide)) (fun _ hk => hk.2)) (fun _ hk => trivial)⟩, ⟨by (with_reducible repeat (first|apply Kd.R_alloc|apply Kd.R_drewN|apply Kd.R_drew)); exact Kd.R_mono (Kd.Rf8 (Kd.R_types HO469.out BK484.out (by decide)) (fun _ hk => hk.2)) (fun _ hk => hk.1.2)⟩, ⟨by (with_reducible repeat (first|apply Kd.R_alloc|apply Kd.R_drewN|apply Kd.R_drew)); exact Kd.R_mono (Kd.Rf8 (Kd.R_types HO481.out BK484.out (by decide)) (fun _ hk => hk.2)) (fun _ hk => hk.1.2)⟩, ⟨by (with_reducible repeat (first|refine bN ?_ _|refine bD ?_|refine bA ?_ _)); refine far8 ?_ NB472_484.out; (with_reducible repeat (first|refine bN ?_ _|refine bD ?_|refine bA ?_ _)); exact BK472.out⟩, ⟨by (with_reducible repeat (first|refine bN ?_ _|refine bD ?_|refine bA ?_ _)); apply put8; (with_reducible repeat (first|refine bN ?_ _|refine bD ?_|refine bA ?_ _)); exact BK484.out⟩, ⟨by repeat (first|(with_reducible first|exact HB.out|apply lA|apply lN|apply lD|refine lS ?_ GE472.out|refine lS ?_ GE484.out)|exact HB.out)⟩⟩
    case rest =>
     clear HC12
     obtain ⟨kq, x67_11, rfl, HA, HJ11, HO_5, HO_7, HO_473006, HO_485006, BK472, BK484, HB⟩ := hcut
     cases kq with
    |zero => exact absurd HA.out (by simp [emenderlaw23_DiffRows.j1])
    |succ kj11 =>
      have H := HA.out
      clear HA
      simp only [emenderlaw23_DiffRows.j1] at H
      by_cases c44 : x67_11 = true
      ·subst c44
       have H1 : (none) = some r := by rw [if_pos rfl] at H; exact H
       clear H
       have H := H1
       clear H1
       exact absurd H (by simp)
      ·replace c44 := Bool.eq_false_iff.mpr c44
       subst c44
       have H1 : (emenderlaw23_DiffRows.l0 kj11 t453 t457 0) = some r := by rw [if_neg (show ¬ (false = true) by decide)] at H; exact H
       clear H
       have H := H1
       clear H1
       have H' := aM H
       clear H
       go_wp2
       repeat (go_quiet (fail); try go_wp2)
       go_loopg [13] kj11 (fun kq v13 w' => ∃ (x13_3 : Int), v13 = .int .i64 x13_3 ∧ Aside0 (emenderlaw23_DiffRows.l0 kq t453 t457 x13_3 = some r) ∧ Aside0 (kq ≤ kj11) ∧ Aside0 (Kd.R k55 55 w' w.heap.size (fun _ => True) v455 t453) ∧ Aside0 (Kd.R k62 62 w' w.heap.size (fun _ => True) v459 t457) ∧ Aside0 (Kd.R k64 64 w' w.heap.size (fun k_ => some k_ ≠ ((.slice Ao23 t479.length co23) : Value).ownBlock) (.slice Ao18 t467.length co18) t467) ∧ Aside0 (Kd.R k64 64 w' w.heap.size (fun k_ => some k_ ≠ ((.slice Ao18 t467.length co18) : Value).ownBlock) (.slice Ao23 t479.length co23) t479) ∧ Aside0 (w'.heap[gb472]? = some (.cells #[.int .i64 t461, .int .i64 t462, .int .i64 t463, .int .i64 t464, .int .i64 t465, .int .i64 t466, (.slice Ao18 t467.length co18), .int .i64 t470] 43 (0, 0))) ∧ Aside0 (w'.heap[gb484]? = some (.cells #[.int .i64 t473, .int .i64 t474, .int .i64 t475, .int .i64 t476, .int .i64 t477, .int .i64 t478, (.slice Ao23 t479.length co23), .int .i64 t482] 43 (0, 0))) ∧ Aside0 (Below w.heap.size w w'))
       case atStart => exact ⟨(0), (by first|rfl|(simp; done)|(simp [*]; done)), H', ⟨Nat.le_refl _⟩, ⟨by (with_reducible repeat (first|apply Kd.R_alloc|apply Kd.R_drewN|apply Kd.R_drew)); exact HO_5.out⟩, ⟨by (with_reducible repeat (first|apply Kd.R_alloc|apply Kd.R_drewN|apply Kd.R_drew)); exact HO_7.out⟩, ⟨by (with_reducible repeat (first|apply Kd.R_alloc|apply Kd.R_drewN|apply Kd.R_drew)); exact HO_473006.out⟩, ⟨by (with_reducible repeat (first|apply Kd.R_alloc|apply Kd.R_drewN|apply Kd.R_drew)); exact HO_485006.out⟩, ⟨by (with_reducible repeat (first|refine bN ?_ _|refine bD ?_|refine bA ?_ _)); exact BK472.out⟩, ⟨by (with_reducible repeat (first|refine bN ?_ _|refine bD ?_|refine bA ?_ _)); exact BK484.out⟩, ⟨by repeat (first|(with_reducible first|exact HB.out|apply lA|apply lN|apply lD|refine lS ?_ GE472.out|refine lS ?_ GE484.out)|exact HB.out)⟩⟩
       case round =>
        clear H'
        obtain ⟨x13_3, rfl, HA, HK3, HO_5, HO_7, HO_473006, HO_485006, BK472, BK484, HB⟩ := hrel
        cases gk with
       |zero => exact absurd HA.out (by simp [emenderlaw23_DiffRows.l0])
       |succ k3 =>
         have H := HA.out
         clear HA
         simp only [emenderlaw23_DiffRows.l0] at H
         by_cases c45 : x13_3 < (t453.length : Int)
         ·rw [if_pos c45] at H
          have c45b0 : decide (x13_3 < (t453.length : Int)) = true := decide_eq_true c45
          clear c45
          replace H := ifS H; obtain ⟨c46, H⟩ := H
          have c46b0 : decide (0 ≤ x13_3) = true := decide_eq_true c46
          clear c46
          replace H := ifS H; obtain ⟨c47, H⟩ := H
          have c47b0 : decide (x13_3 < (t457.length : Int)) = true := decide_eq_true c47
          clear c47
          replace H := ifS H; obtain ⟨c48, H⟩ := H
          have c48b0 : (((rd_T55 t453 x13_3).f0) == ((rd_T62 t457 x13_3).f0)) = true := beq_iff_eq.mpr c48
          have c48b1 : (((rd_T55 t453 x13_3).f0) != ((rd_T62 t457 x13_3).f0)) = false := bne_eq_false_iff_eq.mpr c48
          clear c48
          replace H := ifS H; obtain ⟨c49, H⟩ := H
          have c49b0 : (((rd_T55 t453 x13_3).f1) == ((rd_T62 t457 x13_3).f1)) = true := beq_iff_eq.mpr c49
          have c49b1 : (((rd_T55 t453 x13_3).f1) != ((rd_T62 t457 x13_3).f1)) = false := bne_eq_false_iff_eq.mpr c49
          clear c49
          replace H := ifS H; obtain ⟨c50, H⟩ := H
          have c50b0 : (((rd_T55 t453 x13_3).f2) == ((rd_T62 t457 x13_3).f2)) = true := beq_iff_eq.mpr c50
          have c50b1 : (((rd_T55 t453 x13_3).f2) != ((rd_T62 t457 x13_3).f2)) = false := bne_eq_false_iff_eq.mpr c50
          clear c50
          have H' := aM H
          clear H
          obtain ⟨Ao51, co51, eo51⟩ := Kd.R_slice HO_5.out
          subst eo51
          have p486 : 0 ≤ (x13_3 : Int) := of_decide_eq_true (by first|(with_reducible assumption)|assumption)
          have q486 : x13_3 < (t453.length : Int) := of_decide_eq_true (by first|(with_reducible assumption)|assumption)
          obtain ⟨ad486, e486, hx486_0, hx486_1, hx486_2⟩ := at_T55 (Kd.R_reads' HO_5.out).2.2 x13_3 p486 q486
          cases e486
          replace p486 := eq_true p486
          replace q486 := eq_true q486
          obtain ⟨Ao52, co52, eo52⟩ := Kd.R_slice HO_7.out
          subst eo52
          have p487 : 0 ≤ (x13_3 : Int) := of_decide_eq_true (by first|(with_reducible assumption)|assumption)
          have q487 : x13_3 < (t457.length : Int) := of_decide_eq_true (by first|(with_reducible assumption)|assumption)
          obtain ⟨ad487, e487, hx487_0, hx487_1, hx487_2⟩ := at_T62 (Kd.R_reads' HO_7.out).2.2 x13_3 p487 q487
          cases e487
          replace p487 := eq_true p487
          replace q487 := eq_true q487
          have p488 : 0 ≤ (x13_3 : Int) := of_decide_eq_true (by first|(with_reducible assumption)|assumption)
          have q488 : x13_3 < (t453.length : Int) := of_decide_eq_true (by first|(with_reducible assumption)|assumption)
          obtain ⟨ad488, e488, hx488_0, hx488_1, hx488_2⟩ := at_T55 (Kd.R_reads' HO_5.out).2.2 x13_3 p488 q488
          obtain rfl : ad486 = ad488 := (by injection e488)
          replace p488 := eq_true p488
          replace q488 := eq_true q488
          have p489 : 0 ≤ (x13_3 : Int) := of_decide_eq_true (by first|(with_reducible assumption)|assumption)
          have q489 : x13_3 < (t457.length : Int) := of_decide_eq_true (by first|(with_reducible assumption)|assumption)
          obtain ⟨ad489, e489, hx489_0, hx489_1, hx489_2⟩ := at_T62 (Kd.R_reads' HO_7.out).2.2 x13_3 p489 q489
          obtain rfl : ad487 = ad489 := (by injection e489)
          replace p489 := eq_true p489
          replace q489 := eq_true q489
          have p490 : 0 ≤ (x13_3 : Int) := of_decide_eq_true (by first|(with_reducible assumption)|assumption)
          have q490 : x13_3 < (t453.length : Int) := of_decide_eq_true (by first|(with_reducible assumption)|assumption)
          obtain ⟨ad490, e490, hx490_0, hx490_1, hx490_2⟩ := at_T55 (Kd.R_reads' HO_5.out).2.2 x13_3 p490 q490
          obtain rfl : ad486 = ad490 := (by injection e490)
          replace p490 := eq_true p490
          replace q490 := eq_true q490
          have p491 : 0 ≤ (x13_3 : Int) := of_decide_eq_true (by first|(with_reducible assumption)|assumption)
          have q491 : x13_3 < (t457.length : Int) := of_decide_eq_true (by first|(with_reducible assumption)|assumption)
          obtain ⟨ad491, e491, hx491_0, hx491_1, hx491_2⟩ := at_T62 (Kd.R_reads' HO_7.out).2.2 x13_3 p491 q491
          obtain rfl : ad487 = ad491 := (by injection e491)
          replace p491 := eq_true p491
          replace q491 := eq_true q491
          go_wp2
          repeat (go_quiet (fail); try go_wp2)
          go_roundg k3
          case measure => have := HJ2.out; have := HJ11.out; have := HK3.out; omega
          case rel => exact ⟨(wrap64 (x13_3 + 1)), (by first|rfl|(simp; done)|(simp [*]; done)), H', ⟨by have := HJ2.out; have := HJ11.out; have := HK3.out; omega⟩, ⟨by (with_reducible repeat (first|apply Kd.R_alloc|apply Kd.R_drewN|apply Kd.R_drew)); exact HO_5.out⟩, ⟨by (with_reducible repeat (first|apply Kd.R_alloc|apply Kd.R_drewN|apply Kd.R_drew)); exact HO_7.out⟩, ⟨by (with_reducible repeat (first|apply Kd.R_alloc|apply Kd.R_drewN|apply Kd.R_drew)); exact HO_473006.out⟩, ⟨by (with_reducible repeat (first|apply Kd.R_alloc|apply Kd.R_drewN|apply Kd.R_drew)); exact HO_485006.out⟩, ⟨by (with_reducible repeat (first|refine bN ?_ _|refine bD ?_|refine bA ?_ _)); exact BK472.out⟩, ⟨by (with_reducible repeat (first|refine bN ?_ _|refine bD ?_|refine bA ?_ _)); exact BK484.out⟩, ⟨by repeat (first|(with_reducible first|exact HB.out|apply lA|apply lN|apply lD|refine lS ?_ GE472.out|refine lS ?_ GE484.out)|exact HB.out)⟩⟩
         ·rw [if_neg c45] at H
          have c45b0 : decide (x13_3 < (t453.length : Int)) = false := decide_eq_false c45
          clear c45
          replace H := Option.bind_eq_some_iff.mp H
          obtain ⟨t492, A530, H⟩ := H
          replace H : (some t492) = some r := H
          have A53 := aM A530
          clear A530
          obtain rfl := Option.some.inj H
          obtain ⟨Ao54, co54, eo54⟩ := Kd.R_slice HO_5.out
          subst eo54
          go_wp2_with (first|(go_at_call 8; (with_reducible refine (emenderlaw23_awake.calls k3  t492 _ A53.out).mono ?_); rintro e w55 ⟨rfl, hb⟩; replace HO_5 := aM (Kd.R_below (by (with_reducible repeat (first|apply Kd.R_alloc|apply Kd.R_drewN|apply Kd.R_drew)); exact HO_5.out) hb); replace HO_7 := aM (Kd.R_below (by (with_reducible repeat (first|apply Kd.R_alloc|apply Kd.R_drewN|apply Kd.R_drew)); exact HO_7.out) hb); replace HO_473006 := aM (Kd.R_below (by (with_reducible repeat (first|apply Kd.R_alloc|apply Kd.R_drewN|apply Kd.R_drew)); exact HO_473006.out) hb); replace HO_485006 := aM (Kd.R_below (by (with_reducible repeat (first|apply Kd.R_alloc|apply Kd.R_drewN|apply Kd.R_drew)); exact HO_485006.out) hb); replace BK472 := aM (blk_below (by (with_reducible repeat (first|refine bN ?_ _|refine bD ?_|refine bA ?_ _)); exact BK472.out) hb); replace BK484 := aM (blk_below (by (with_reducible repeat (first|refine bN ?_ _|refine bD ?_|refine bA ?_ _)); exact BK484.out) hb); replace HB := aM (below_step (by repeat (first|(with_reducible first|exact HB.out|apply lA|apply lN|apply lD|refine lS ?_ GE472.out|refine lS ?_ GE484.out)|exact HB.out)) hb); (try clear hb); (try clear hb2); (try clear hk); (try clear hi)))
          repeat (go_quiet (first|(go_at_call 8; (with_reducible refine (emenderlaw23_awake.calls k3  t492 _ A53.out).mono ?_); rintro e w55 ⟨rfl, hb⟩; replace HO_5 := aM (Kd.R_below (by (with_reducible repeat (first|apply Kd.R_alloc|apply Kd.R_drewN|apply Kd.R_drew)); exact HO_5.out) hb); replace HO_7 := aM (Kd.R_below (by (with_reducible repeat (first|apply Kd.R_alloc|apply Kd.R_drewN|apply Kd.R_drew)); exact HO_7.out) hb); replace HO_473006 := aM (Kd.R_below (by (with_reducible repeat (first|apply Kd.R_alloc|apply Kd.R_drewN|apply Kd.R_drew)); exact HO_473006.out) hb); replace HO_485006 := aM (Kd.R_below (by (with_reducible repeat (first|apply Kd.R_alloc|apply Kd.R_drewN|apply Kd.R_drew)); exact HO_485006.out) hb); replace BK472 := aM (blk_below (by (with_reducible repeat (first|refine bN ?_ _|refine bD ?_|refine bA ?_ _)); exact BK472.out) hb); replace BK484 := aM (blk_below (by (with_reducible repeat (first|refine bN ?_ _|refine bD ?_|refine bA ?_ _)); exact BK484.out) hb); replace HB := aM (below_step (by repeat (first|(with_reducible first|exact HB.out|apply lA|apply lN|apply lD|refine lS ?_ GE472.out|refine lS ?_ GE484.out)|exact HB.out)) hb); (try clear hb); (try clear hb2); (try clear hk); (try clear hi))); try go_wp2_with (first|(go_at_call 8; (with_reducible refine (emenderlaw23_awake.calls k3  t492 _ A53.out).mono ?_); rintro e w55 ⟨rfl, hb⟩; replace HO_5 := aM (Kd.R_below (by (with_reducible repeat (first|apply Kd.R_alloc|apply Kd.R_drewN|apply Kd.R_drew)); exact HO_5.out) hb); replace HO_7 := aM (Kd.R_below (by (with_reducible repeat (first|apply Kd.R_alloc|apply Kd.R_drewN|apply Kd.R_drew)); exact HO_7.out) hb); replace HO_473006 := aM (Kd.R_below (by (with_reducible repeat (first|apply Kd.R_alloc|apply Kd.R_drewN|apply Kd.R_drew)); exact HO_473006.out) hb); replace HO_485006 := aM (Kd.R_below (by (with_reducible repeat (first|apply Kd.R_alloc|apply Kd.R_drewN|apply Kd.R_drew)); exact HO_485006.out) hb); replace BK472 := aM (blk_below (by (with_reducible repeat (first|refine bN ?_ _|refine bD ?_|refine bA ?_ _)); exact BK472.out) hb); replace BK484 := aM (blk_below (by (with_reducible repeat (first|refine bN ?_ _|refine bD ?_|refine bA ?_ _)); exact BK484.out) hb); replace HB := aM (below_step (by repeat (first|(with_reducible first|exact HB.out|apply lA|apply lN|apply lD|refine lS ?_ GE472.out|refine lS ?_ GE484.out)|exact HB.out)) hb); (try clear hb); (try clear hb2); (try clear hk); (try clear hi))))
          go_ret
          exact ⟨by first|rfl|(simp [errW_none, errW_some] <;> rfl)|(simp [*, errW_none, errW_some] <;> rfl), by repeat (first|(with_reducible first|exact HB.out|apply lA|apply lN|apply lD|refine lS ?_ GE472.out|refine lS ?_ GE484.out)|exact HB.out)⟩

end Go.Proofs.Ytjpmlggkhhoooaa.PDq
