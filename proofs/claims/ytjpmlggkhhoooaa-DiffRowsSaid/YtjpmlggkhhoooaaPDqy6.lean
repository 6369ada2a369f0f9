-- Written for this claim by a program (printed texts under one roof).
import Derived.Test.YtjpmlggkhhoooaaPDqx0
import Derived.Test.YtjpmlggkhhoooaaPDqy5
import Derived.Test.YtjpmlggkhhoooaaPDqy0
-- Written for this claim by a program (the kit's print, with hand-made contracts for what it does not take).
namespace Go.Proofs.Ytjpmlggkhhoooaa.PDq
open Go.RowKit Go.Proofs.YtjpmlggkhhoooaaW.PrintWords Go.Proofs.YtjpmlggkhhoooaaW.PrintLast Go.Proofs.YtjpmlggkhhoooaaW.PrintMore
attribute [local go_sem] max2_int min2_int max_two min_two max_three min_three max_four min_four   -- for this text's walks alone
set_option linter.unusedVariables false
set_option linter.unusedSimpArgs false

mutual
def emenderref04_Kids.j0 : Nat → List (S64) → Int → List Int → Bool → Option (List Int)
|0, _, _, _, _ => none
|k + 1, x0, x1, x5, x26 => if x26 = true then (some ([] : List Int)) else (emenderref04_Kids.l0 k x0 x1 x5 (wrap64 (x1 + 1)))
def emenderref04_Kids.l0 : Nat → List (S64) → Int → List Int → Int → Option (List Int)
|0, _, _, _, _ => none
|k + 1, x0, x1, x5, x6 => if x6 < (x0.length : Int) then (if 0 ≤ x6 then (if ((rd_T64 x0 x6).f0) = 2 then ((emenderref04_Around.f k x0 x6).bind fun t359 => (if t359 = x1 then (emenderref04_Kids.j2 k x0 x1 x5 x6 (decide (x1 ≥ 0))) else (emenderref04_Kids.j2 k x0 x1 x5 x6 false))) else (emenderref04_Kids.j2 k x0 x1 x5 x6 false)) else (none)) else (some x5)
def emenderref04_Kids.j2 : Nat → List (S64) → Int → List Int → Int → Bool → Option (List Int)
|0, _, _, _, _, _ => none
|k + 1, x0, x1, x5, x6, x51 => if x51 = true then (some x5) else (if 0 ≤ x6 then (if x6 < (x0.length : Int) then (if ((rd_T64 x0 x6).f0) = 2 then (emenderref04_Kids.l0 k x0 x1 x5 (wrap64 (x6 + 1))) else (if ((rd_T64 x0 x6).f0) ≥ 0 then (if ((rd_T64 x0 x6).f0) ≤ 3 then ((emenderref04_Around.f k x0 x6).bind fun t363 => (if t363 = x1 then (if x5.length < 17592186044416 then (emenderref04_Kids.l0 k x0 x1 (x5 ++ [x6]) (wrap64 (x6 + 1))) else (none)) else (emenderref04_Kids.l0 k x0 x1 x5 (wrap64 (x6 + 1))))) else (emenderref04_Kids.l0 k x0 x1 x5 (wrap64 (x6 + 1)))) else (emenderref04_Kids.l0 k x0 x1 x5 (wrap64 (x6 + 1))))) else (none)) else (none))
end
def emenderref04_Kids.f (k : Nat) (l0 : List (S64)) (a1 : Int) : Option (List Int) := if a1 < (-1) then (emenderref04_Kids.j0 k l0 a1 ([] : List Int) true) else (if a1 ≥ (l0.length : Int) then (emenderref04_Kids.j0 k l0 a1 ([] : List Int) true) else (if a1 ≥ 0 then (if 0 ≤ a1 then (if a1 < (l0.length : Int) then (emenderref04_Kids.j0 k l0 a1 ([] : List Int) (((rd_T64 l0 a1).f0) != 1)) else (none)) else (none)) else (emenderref04_Kids.j0 k l0 a1 ([] : List Int) false)))
theorem emenderref04_Kids.mono_l : ∀ k, (∀ y0 y1 y2 y3, LeO (emenderref04_Kids.j0 k y0 y1 y2 y3) (emenderref04_Kids.j0 (k + 1) y0 y1 y2 y3)) ∧ (∀ y0 y1 y2 y3, LeO (emenderref04_Kids.l0 k y0 y1 y2 y3) (emenderref04_Kids.l0 (k + 1) y0 y1 y2 y3)) ∧ (∀ y0 y1 y2 y3 y4, LeO (emenderref04_Kids.j2 k y0 y1 y2 y3 y4) (emenderref04_Kids.j2 (k + 1) y0 y1 y2 y3 y4))
|0 => ⟨fun _ _ _ _ r h => by simp [emenderref04_Kids.j0] at h, fun _ _ _ _ r h => by simp [emenderref04_Kids.l0] at h, fun _ _ _ _ _ r h => by simp [emenderref04_Kids.j2] at h⟩
|k + 1 => by
  obtain ⟨ih0, ih1, ih2⟩ := emenderref04_Kids.mono_l k
  refine ⟨?_, ?_, ?_⟩
  ·intro y0 y1 y2 y3
   unfold emenderref04_Kids.j0
   repeat' first
  |(with_reducible exact ih0 _ _ _ _)
  |(with_reducible exact ih1 _ _ _ _)
  |(with_reducible exact ih2 _ _ _ _ _)
  |(with_reducible exact emenderref04_Around.mono _ _ _)
  |(with_reducible exact LeO.refl _)
  |(with_reducible exact LeO.none _)
  |(with_reducible refine LeO.ite ?_ ?_)
  |(with_reducible refine LeO.bind ?_ (fun _ => ?_))
  |exact ih0 _ _ _ _
  |exact ih1 _ _ _ _
  |exact ih2 _ _ _ _ _
  |exact emenderref04_Around.mono _ _ _
  |exact LeO.none _
  |refine LeO.ite ?_ ?_
  |refine LeO.bind ?_ (fun _ => ?_)
  ·intro y0 y1 y2 y3
   unfold emenderref04_Kids.l0
   repeat' first
  |(with_reducible exact ih0 _ _ _ _)
  |(with_reducible exact ih1 _ _ _ _)
  |(with_reducible exact ih2 _ _ _ _ _)
  |(with_reducible exact emenderref04_Around.mono _ _ _)
  |(with_reducible exact LeO.refl _)
  |(with_reducible exact LeO.none _)
  |(with_reducible refine LeO.ite ?_ ?_)
  |(with_reducible refine LeO.bind ?_ (fun _ => ?_))
  |exact ih0 _ _ _ _
  |exact ih1 _ _ _ _
  |exact ih2 _ _ _ _ _
  |exact emenderref04_Around.mono _ _ _
  |exact LeO.none _
  |refine LeO.ite ?_ ?_
  |refine LeO.bind ?_ (fun _ => ?_)
  ·intro y0 y1 y2 y3 y4
   unfold emenderref04_Kids.j2
   repeat' first
  |(with_reducible exact ih0 _ _ _ _)
  |(with_reducible exact ih1 _ _ _ _)
  |(with_reducible exact ih2 _ _ _ _ _)
  |(with_reducible exact emenderref04_Around.mono _ _ _)
  |(with_reducible exact LeO.refl _)
  |(with_reducible exact LeO.none _)
  |(with_reducible refine LeO.ite ?_ ?_)
  |(with_reducible refine LeO.bind ?_ (fun _ => ?_))
  |exact ih0 _ _ _ _
  |exact ih1 _ _ _ _
  |exact ih2 _ _ _ _ _
  |exact emenderref04_Around.mono _ _ _
  |exact LeO.none _
  |refine LeO.ite ?_ ?_
  |refine LeO.bind ?_ (fun _ => ?_)
theorem emenderref04_Kids.mono : ∀ a0 a1 k, LeO (emenderref04_Kids.f k a0 a1) (emenderref04_Kids.f (k + 1) a0 a1) := by
 intro a0 a1 k
 obtain ⟨ih0, ih1, ih2⟩ := emenderref04_Kids.mono_l k
 unfold emenderref04_Kids.f
 repeat' first
  |(with_reducible exact ih0 _ _ _ _)
  |(with_reducible exact ih1 _ _ _ _)
  |(with_reducible exact ih2 _ _ _ _ _)
  |(with_reducible exact emenderref04_Around.mono _ _ _)
  |(with_reducible exact LeO.refl _)
  |(with_reducible exact LeO.none _)
  |(with_reducible refine LeO.ite ?_ ?_)
  |(with_reducible refine LeO.bind ?_ (fun _ => ?_))
  |exact ih0 _ _ _ _
  |exact ih1 _ _ _ _
  |exact ih2 _ _ _ _ _
  |exact emenderref04_Around.mono _ _ _
  |exact LeO.none _
  |refine LeO.ite ?_ ?_
  |refine LeO.bind ?_ (fun _ => ?_)
set_option maxHeartbeats 8000000 in
set_option maxRecDepth 100000 in
theorem emenderref04_Kids.calls (k : Nat) (A0 : Option Addr) (c0 : Nat) (l0 : List (S64)) (a1 : Int) (r : List Int) (w : World) (hr0 : Kd.C k64 w A0 l0.length l0) (hc0 : l0.length ≤ c0) (h : emenderref04_Kids.f k l0 a1 = some r) :
  Calls Try.prog 46 #[.slice A0 l0.length c0, .int .i64 a1] w fun e w' => ∃ v0_ : Value, e = .returned (v0_) ∧ Kd.R (Kd.int .i64) 3 w' w.heap.size (fun _ => True) v0_ r ∧ Below w.heap.size w w' := by
 have HR0 := aM hr0
 have HC0 := aM hc0
 clear hr0 hc0
 have HB := aM (Below.refl w.heap.size w)
 have H : (if a1 < (-1) then (emenderref04_Kids.j0 k l0 a1 ([] : List Int) true) else (if a1 ≥ (l0.length : Int) then (emenderref04_Kids.j0 k l0 a1 ([] : List Int) true) else (if a1 ≥ 0 then (if 0 ≤ a1 then (if a1 < (l0.length : Int) then (emenderref04_Kids.j0 k l0 a1 ([] : List Int) (((rd_T64 l0 a1).f0) != 1)) else (none)) else (none)) else (emenderref04_Kids.j0 k l0 a1 ([] : List Int) false)))) = some r := h
 clear h
 have HC3 := aM H
 clear H
 go_enter Try.func46, Try.ntmps46
 go_upto_region 2 with (fail)
 go_cut [26] (fun v26 wc => ∃ (kq : Nat) (x26_2 : Bool), v26 = .bool x26_2 ∧ Aside0 (emenderref04_Kids.j0 kq l0 a1 ([] : List Int) x26_2 = some r) ∧ Aside0 (kq ≤ k) ∧ Aside0 (Kd.R (Kd.int .i64) 3 wc w.heap.size (fun _ => True) (.slice none 0 0) ([] : List Int)) ∧ Aside0 (Below w.heap.size w wc))
 case first =>
  have H := HC3.out
  clear HC3
  by_cases c4 : a1 < (-1)
  ·rw [if_pos c4] at H
   have c4b0 : decide (a1 < (-1)) = true := decide_eq_true c4
   clear c4
   (first|rw [c4b0]|(simp only [i64_w, i32_w]; rw [c4b0])|skip)
   have H' := aM H
   clear H
   go_wp2
   go_meet
   case rel => exact ⟨_, (true), (by first|rfl|(simp; done)|(simp [*]; done)), H', ⟨by first|omega|exact Nat.le_refl _⟩, ⟨by first|exact Kd.R_nil _ _ _ _ _|exact Kd.N_nil _ _ _ _ _|exact Kd.V_nil _ _ _ _ _|exact Kd.Q_nil _ _ _ _ _|exact Kd.S_nil _ _ _ _ _⟩, ⟨by repeat (first|(with_reducible first|exact HB.out|apply lA|apply lN|apply lD)|exact HB.out)⟩⟩
  ·rw [if_neg c4] at H
   have c4b0 : decide (a1 < (-1)) = false := decide_eq_false c4
   clear c4
   (first|rw [c4b0]|(simp only [i64_w, i32_w]; rw [c4b0])|skip)
   by_cases c5 : a1 ≥ (l0.length : Int)
   ·rw [if_pos c5] at H
    have c5b0 : decide ((l0.length : Int) ≤ a1) = true := decide_eq_true c5
    clear c5
    have H' := aM H
    clear H
    go_wp2
    go_meet
    case rel => exact ⟨_, (true), (by first|rfl|(simp; done)|(simp [*]; done)), H', ⟨by first|omega|exact Nat.le_refl _⟩, ⟨by first|exact Kd.R_nil _ _ _ _ _|exact Kd.N_nil _ _ _ _ _|exact Kd.V_nil _ _ _ _ _|exact Kd.Q_nil _ _ _ _ _|exact Kd.S_nil _ _ _ _ _⟩, ⟨by repeat (first|(with_reducible first|exact HB.out|apply lA|apply lN|apply lD)|exact HB.out)⟩⟩
   ·rw [if_neg c5] at H
    have c5b0 : decide ((l0.length : Int) ≤ a1) = false := decide_eq_false c5
    clear c5
    by_cases c6 : a1 ≥ 0
    ·rw [if_pos c6] at H
     have c6b0 : decide (0 ≤ a1) = true := decide_eq_true c6
     clear c6
     replace H := ifS H; obtain ⟨c7, H⟩ := H
     have c7b0 : decide (0 ≤ a1) = true := decide_eq_true c7
     clear c7
     replace H := ifS H; obtain ⟨c8, H⟩ := H
     have c8b0 : decide (a1 < (l0.length : Int)) = true := decide_eq_true c8
     clear c8
     have H' := aM H
     clear H
     have p357 : 0 ≤ (a1 : Int) := of_decide_eq_true (by first|(with_reducible assumption)|assumption)
     have q357 : a1 < (l0.length : Int) := of_decide_eq_true (by first|(with_reducible assumption)|assumption)
     obtain ⟨ad357, e357, hx357_0, hx357_1, hx357_2, hx357_3⟩ := at_T64 HR0.out a1 p357 q357
     cases e357
     replace hx357_0 := cB HB.out hx357_0
     replace hx357_1 := cB HB.out hx357_1
     replace hx357_2 := cB HB.out hx357_2
     replace hx357_3 := cB HB.out hx357_3
     replace p357 := eq_true p357
     replace q357 := eq_true q357
     go_wp2
     go_meet
     case rel => exact ⟨_, ((((rd_T64 l0 a1).f0) != 1)), (by first|rfl|(simp; done)|(simp [*]; done)), H', ⟨by first|omega|exact Nat.le_refl _⟩, ⟨by first|exact Kd.R_nil _ _ _ _ _|exact Kd.N_nil _ _ _ _ _|exact Kd.V_nil _ _ _ _ _|exact Kd.Q_nil _ _ _ _ _|exact Kd.S_nil _ _ _ _ _⟩, ⟨by repeat (first|(with_reducible first|exact HB.out|apply lA|apply lN|apply lD)|exact HB.out)⟩⟩
    ·rw [if_neg c6] at H
     have c6b0 : decide (0 ≤ a1) = false := decide_eq_false c6
     clear c6
     have H' := aM H
     clear H
     go_wp2
     go_meet
     case rel => exact ⟨_, (false), (by first|rfl|(simp; done)|(simp [*]; done)), H', ⟨by first|omega|exact Nat.le_refl _⟩, ⟨by first|exact Kd.R_nil _ _ _ _ _|exact Kd.N_nil _ _ _ _ _|exact Kd.V_nil _ _ _ _ _|exact Kd.Q_nil _ _ _ _ _|exact Kd.S_nil _ _ _ _ _⟩, ⟨by repeat (first|(with_reducible first|exact HB.out|apply lA|apply lN|apply lD)|exact HB.out)⟩⟩
 case rest =>
  clear HC3
  obtain ⟨kq, x26_2, rfl, HA, HJ2, HO_5, HB⟩ := hcut
  cases kq with
 |zero => exact absurd HA.out (by simp [emenderref04_Kids.j0])
 |succ kj2 =>
   have H := HA.out
   clear HA
   simp only [emenderref04_Kids.j0] at H
   by_cases c9 : x26_2 = true
   ·subst c9
    have H1 : (some ([] : List Int)) = some r := by rw [if_pos rfl] at H; exact H
    clear H
    have H := H1
    clear H1
    obtain rfl := Option.some.inj H
    go_wp2
    go_ret
    exact ⟨_, by first|rfl|(simp [errW_none, errW_some] <;> rfl)|(simp [*, errW_none, errW_some] <;> rfl), by first|exact Kd.R_nil _ _ _ _ _|exact Kd.N_nil _ _ _ _ _|exact Kd.V_nil _ _ _ _ _|exact Kd.Q_nil _ _ _ _ _|exact Kd.S_nil _ _ _ _ _, by repeat (first|(with_reducible first|exact HB.out|apply lA|apply lN|apply lD)|exact HB.out)⟩
   ·replace c9 := Bool.eq_false_iff.mpr c9
    subst c9
    have H1 : (emenderref04_Kids.l0 kj2 l0 a1 ([] : List Int) (wrap64 (a1 + 1))) = some r := by rw [if_neg (show ¬ (false = true) by decide)] at H; exact H
    clear H
    have H := H1
    clear H1
    have H' := aM H
    clear H
    go_wp2
    go_loopg [5, 6] kj2 (fun kq v5 v6 w' => ∃ (x5_2 : List Int) (x6_2 : Int), v6 = .int .i64 x6_2 ∧ Aside0 (emenderref04_Kids.l0 kq l0 a1 x5_2 x6_2 = some r) ∧ Aside0 (kq ≤ kj2) ∧ Aside0 (Kd.R (Kd.int .i64) 3 w' w.heap.size (fun _ => True) v5 x5_2) ∧ Aside0 (Below w.heap.size w w'))
    case atStart => exact ⟨(([] : List Int)), (wrap64 (a1 + 1)), (by first|rfl|(simp; done)|(simp [*]; done)), H', ⟨Nat.le_refl _⟩, ⟨by (with_reducible repeat (first|apply Kd.R_alloc|apply Kd.R_drewN|apply Kd.R_drew)); exact HO_5.out⟩, ⟨by repeat (first|(with_reducible first|exact HB.out|apply lA|apply lN|apply lD)|exact HB.out)⟩⟩
    case round =>
     clear H'
     obtain ⟨x5_2, x6_2, rfl, HA, HK2, HO_5, HB⟩ := hrel
     cases gk with
    |zero => exact absurd HA.out (by simp [emenderref04_Kids.l0])
    |succ k2 =>
      have H := HA.out
      clear HA
      simp only [emenderref04_Kids.l0] at H
      by_cases c10 : x6_2 < (l0.length : Int)
      ·rw [if_pos c10] at H
       have c10b0 : decide (x6_2 < (l0.length : Int)) = true := decide_eq_true c10
       clear c10
       have HC11 := aM H
       clear H
       go_upto_region 7 with (fail)
       go_cut [51] (fun v51 wc => ∃ (kq : Nat) (x51_10 : Bool), v51 = .bool x51_10 ∧ Aside0 (emenderref04_Kids.j2 kq l0 a1 x5_2 x6_2 x51_10 = some r) ∧ Aside0 (kq ≤ k2) ∧ Aside0 (Kd.R (Kd.int .i64) 3 wc w.heap.size (fun _ => True) u5 x5_2) ∧ Aside0 (Below w.heap.size w wc))
       case first =>
        have H := HC11.out
        clear HC11
        replace H := ifS H; obtain ⟨c12, H⟩ := H
        have c12b0 : decide (0 ≤ x6_2) = true := decide_eq_true c12
        clear c12
        (first|rw [c12b0]|(simp only [i64_w, i32_w]; rw [c12b0])|skip)
        by_cases c13 : ((rd_T64 l0 x6_2).f0) = 2
        ·rw [if_pos c13] at H
         have c13b0 : (((rd_T64 l0 x6_2).f0) == 2) = true := beq_iff_eq.mpr c13
         have c13b1 : (((rd_T64 l0 x6_2).f0) != 2) = false := bne_eq_false_iff_eq.mpr c13
         clear c13
         replace H := Option.bind_eq_some_iff.mp H
         obtain ⟨t359, A140, H⟩ := H
         replace H : (if t359 = a1 then (emenderref04_Kids.j2 k2 l0 a1 x5_2 x6_2 (decide (a1 ≥ 0))) else (emenderref04_Kids.j2 k2 l0 a1 x5_2 x6_2 false)) = some r := H
         have A14 := aM A140
         clear A140
         by_cases c15 : t359 = a1
         ·rw [if_pos c15] at H
          have c15b0 : (t359 == a1) = true := beq_iff_eq.mpr c15
          have c15b1 : (t359 != a1) = false := bne_eq_false_iff_eq.mpr c15
          clear c15
          have H' := aM H
          clear H
          have p358 : 0 ≤ (x6_2 : Int) := of_decide_eq_true (by first|(with_reducible assumption)|assumption)
          have q358 : x6_2 < (l0.length : Int) := of_decide_eq_true (by first|(with_reducible assumption)|assumption)
          obtain ⟨ad358, e358, hx358_0, hx358_1, hx358_2, hx358_3⟩ := at_T64 HR0.out x6_2 p358 q358
          cases e358
          replace hx358_0 := cB HB.out hx358_0
          replace hx358_1 := cB HB.out hx358_1
          replace hx358_2 := cB HB.out hx358_2
          replace hx358_3 := cB HB.out hx358_3
          replace p358 := eq_true p358
          replace q358 := eq_true q358
          go_wp2_with (first|(go_at_call 58; (with_reducible refine (emenderref04_Around.calls k2 _ _ l0 x6_2 t359 _ ?side1 ?side2 A14.out).mono ?_); (case side1 => repeat (first|exact (Kd.C_below HR0.out HB.out)|(with_reducible refine Kd.C_alloc ?_ _)|(with_reducible refine Kd.C_drewN ?_ _)|(with_reducible refine Kd.C_drew ?_))); (case side2 => exact HC0.out); rintro e w16 ⟨rfl, hb⟩; replace HO_5 := aM (Kd.R_below (by (with_reducible repeat (first|apply Kd.R_alloc|apply Kd.R_drewN|apply Kd.R_drew)); exact HO_5.out) hb); replace HB := aM (below_step (by repeat (first|(with_reducible first|exact HB.out|apply lA|apply lN|apply lD)|exact HB.out)) hb); (try clear hb); (try clear hb2); (try clear hk); (try clear hi)))
          go_meet
          case rel => exact ⟨_, (decide (a1 ≥ 0)), (by first|rfl|(simp; done)|(simp [*]; done)), H', ⟨by have := HJ2.out; have := HK2.out; first|omega|exact Nat.le_refl _⟩, ⟨by (with_reducible repeat (first|apply Kd.R_alloc|apply Kd.R_drewN|apply Kd.R_drew)); exact HO_5.out⟩, ⟨by repeat (first|(with_reducible first|exact HB.out|apply lA|apply lN|apply lD)|exact HB.out)⟩⟩
         ·rw [if_neg c15] at H
          have c15b0 : (t359 == a1) = false := beq_eq_false_iff_ne.mpr c15
          have c15b1 : (t359 != a1) = true := bne_iff_ne.mpr c15
          have H' := aM H
          clear H
          have p358 : 0 ≤ (x6_2 : Int) := of_decide_eq_true (by first|(with_reducible assumption)|assumption)
          have q358 : x6_2 < (l0.length : Int) := of_decide_eq_true (by first|(with_reducible assumption)|assumption)
          obtain ⟨ad358, e358, hx358_0, hx358_1, hx358_2, hx358_3⟩ := at_T64 HR0.out x6_2 p358 q358
          cases e358
          replace hx358_0 := cB HB.out hx358_0
          replace hx358_1 := cB HB.out hx358_1
          replace hx358_2 := cB HB.out hx358_2
          replace hx358_3 := cB HB.out hx358_3
          replace p358 := eq_true p358
          replace q358 := eq_true q358
          go_wp2_with (first|(go_at_call 58; (with_reducible refine (emenderref04_Around.calls k2 _ _ l0 x6_2 t359 _ ?side1 ?side2 A14.out).mono ?_); (case side1 => repeat (first|exact (Kd.C_below HR0.out HB.out)|(with_reducible refine Kd.C_alloc ?_ _)|(with_reducible refine Kd.C_drewN ?_ _)|(with_reducible refine Kd.C_drew ?_))); (case side2 => exact HC0.out); rintro e w17 ⟨rfl, hb⟩; replace HO_5 := aM (Kd.R_below (by (with_reducible repeat (first|apply Kd.R_alloc|apply Kd.R_drewN|apply Kd.R_drew)); exact HO_5.out) hb); replace HB := aM (below_step (by repeat (first|(with_reducible first|exact HB.out|apply lA|apply lN|apply lD)|exact HB.out)) hb); (try clear hb); (try clear hb2); (try clear hk); (try clear hi)))
          go_meet
          case rel => exact ⟨_, (false), (by first|rfl|(simp; done)|(simp [*]; done)), H', ⟨by have := HJ2.out; have := HK2.out; first|omega|exact Nat.le_refl _⟩, ⟨by (with_reducible repeat (first|apply Kd.R_alloc|apply Kd.R_drewN|apply Kd.R_drew)); exact HO_5.out⟩, ⟨by repeat (first|(with_reducible first|exact HB.out|apply lA|apply lN|apply lD)|exact HB.out)⟩⟩
        ·rw [if_neg c13] at H
         have c13b0 : (((rd_T64 l0 x6_2).f0) == 2) = false := beq_eq_false_iff_ne.mpr c13
         have c13b1 : (((rd_T64 l0 x6_2).f0) != 2) = true := bne_iff_ne.mpr c13
         have H' := aM H
         clear H
         have p358 : 0 ≤ (x6_2 : Int) := of_decide_eq_true (by first|(with_reducible assumption)|assumption)
         have q358 : x6_2 < (l0.length : Int) := of_decide_eq_true (by first|(with_reducible assumption)|assumption)
         obtain ⟨ad358, e358, hx358_0, hx358_1, hx358_2, hx358_3⟩ := at_T64 HR0.out x6_2 p358 q358
         cases e358
         replace hx358_0 := cB HB.out hx358_0
         replace hx358_1 := cB HB.out hx358_1
         replace hx358_2 := cB HB.out hx358_2
         replace hx358_3 := cB HB.out hx358_3
         replace p358 := eq_true p358
         replace q358 := eq_true q358
         go_wp2
         go_meet
         case rel => exact ⟨_, (false), (by first|rfl|(simp; done)|(simp [*]; done)), H', ⟨by have := HJ2.out; have := HK2.out; first|omega|exact Nat.le_refl _⟩, ⟨by (with_reducible repeat (first|apply Kd.R_alloc|apply Kd.R_drewN|apply Kd.R_drew)); exact HO_5.out⟩, ⟨by repeat (first|(with_reducible first|exact HB.out|apply lA|apply lN|apply lD)|exact HB.out)⟩⟩
       case rest =>
        clear HC11
        obtain ⟨kq, x51_10, rfl, HA, HJ10, HO_5, HB⟩ := hcut
        cases kq with
       |zero => exact absurd HA.out (by simp [emenderref04_Kids.j2])
       |succ kj10 =>
         have H := HA.out
         clear HA
         simp only [emenderref04_Kids.j2] at H
         by_cases c18 : x51_10 = true
         ·subst c18
          have H1 : (some x5_2) = some r := by rw [if_pos rfl] at H; exact H
          clear H
          have H := H1
          clear H1
          obtain rfl := Option.some.inj H
          go_wp2
          go_ret
          exact ⟨_, by first|rfl|(simp [errW_none, errW_some] <;> rfl)|(simp [*, errW_none, errW_some] <;> rfl), by (with_reducible repeat (first|apply Kd.R_alloc|apply Kd.R_drewN|apply Kd.R_drew)); exact HO_5.out, by repeat (first|(with_reducible first|exact HB.out|apply lA|apply lN|apply lD)|exact HB.out)⟩
         ·replace c18 := Bool.eq_false_iff.mpr c18
          subst c18
          have H1 : (if 0 ≤ x6_2 then (if x6_2 < (l0.length : Int) then (if ((rd_T64 l0 x6_2).f0) = 2 then (emenderref04_Kids.l0 kj10 l0 a1 x5_2 (wrap64 (x6_2 + 1))) else (if ((rd_T64 l0 x6_2).f0) ≥ 0 then (if ((rd_T64 l0 x6_2).f0) ≤ 3 then ((emenderref04_Around.f kj10 l0 x6_2).bind fun t363 => (if t363 = a1 then (if x5_2.length < 17592186044416 then (emenderref04_Kids.l0 kj10 l0 a1 (x5_2 ++ [x6_2]) (wrap64 (x6_2 + 1))) else (none)) else (emenderref04_Kids.l0 kj10 l0 a1 x5_2 (wrap64 (x6_2 + 1))))) else (emenderref04_Kids.l0 kj10 l0 a1 x5_2 (wrap64 (x6_2 + 1)))) else (emenderref04_Kids.l0 kj10 l0 a1 x5_2 (wrap64 (x6_2 + 1))))) else (none)) else (none)) = some r := by rw [if_neg (show ¬ (false = true) by decide)] at H; exact H
          clear H
          have H := H1
          clear H1
          replace H := ifS H; obtain ⟨c19, H⟩ := H
          have c19b0 : decide (0 ≤ x6_2) = true := decide_eq_true c19
          clear c19
          replace H := ifS H; obtain ⟨c20, H⟩ := H
          have c20b0 : decide (x6_2 < (l0.length : Int)) = true := decide_eq_true c20
          clear c20
          by_cases c21 : ((rd_T64 l0 x6_2).f0) = 2
          ·rw [if_pos c21] at H
           have c21b0 : (((rd_T64 l0 x6_2).f0) == 2) = true := beq_iff_eq.mpr c21
           have c21b1 : (((rd_T64 l0 x6_2).f0) != 2) = false := bne_eq_false_iff_eq.mpr c21
           clear c21
           have H' := aM H
           clear H
           have p360 : 0 ≤ (x6_2 : Int) := of_decide_eq_true (by first|(with_reducible assumption)|assumption)
           have q360 : x6_2 < (l0.length : Int) := of_decide_eq_true (by first|(with_reducible assumption)|assumption)
           obtain ⟨ad360, e360, hx360_0, hx360_1, hx360_2, hx360_3⟩ := at_T64 HR0.out x6_2 p360 q360
           cases e360
           replace hx360_0 := cB HB.out hx360_0
           replace hx360_1 := cB HB.out hx360_1
           replace hx360_2 := cB HB.out hx360_2
           replace hx360_3 := cB HB.out hx360_3
           replace p360 := eq_true p360
           replace q360 := eq_true q360
           go_wp2
           go_roundg kj10
           case measure => have := HJ2.out; have := HK2.out; have := HJ10.out; omega
           case rel => exact ⟨(x5_2), (wrap64 (x6_2 + 1)), (by first|rfl|(simp; done)|(simp [*]; done)), H', ⟨by have := HJ2.out; have := HK2.out; have := HJ10.out; omega⟩, ⟨by (with_reducible repeat (first|apply Kd.R_alloc|apply Kd.R_drewN|apply Kd.R_drew)); exact HO_5.out⟩, ⟨by repeat (first|(with_reducible first|exact HB.out|apply lA|apply lN|apply lD)|exact HB.out)⟩⟩
          ·rw [if_neg c21] at H
           have c21b0 : (((rd_T64 l0 x6_2).f0) == 2) = false := beq_eq_false_iff_ne.mpr c21
           have c21b1 : (((rd_T64 l0 x6_2).f0) != 2) = true := bne_iff_ne.mpr c21
           by_cases c22 : ((rd_T64 l0 x6_2).f0) ≥ 0
           ·rw [if_pos c22] at H
            have c22b0 : decide (0 ≤ ((rd_T64 l0 x6_2).f0)) = true := decide_eq_true c22
            clear c22
            by_cases c23 : ((rd_T64 l0 x6_2).f0) ≤ 3
            ·rw [if_pos c23] at H
             have c23b0 : decide (((rd_T64 l0 x6_2).f0) ≤ 3) = true := decide_eq_true c23
             clear c23
             replace H := Option.bind_eq_some_iff.mp H
             obtain ⟨t363, A240, H⟩ := H
             replace H : (if t363 = a1 then (if x5_2.length < 17592186044416 then (emenderref04_Kids.l0 kj10 l0 a1 (x5_2 ++ [x6_2]) (wrap64 (x6_2 + 1))) else (none)) else (emenderref04_Kids.l0 kj10 l0 a1 x5_2 (wrap64 (x6_2 + 1)))) = some r := H
             have A24 := aM A240
             clear A240
             by_cases c25 : t363 = a1
             ·rw [if_pos c25] at H
              have c25b0 : (t363 == a1) = true := beq_iff_eq.mpr c25
              have c25b1 : (t363 != a1) = false := bne_eq_false_iff_eq.mpr c25
              clear c25
              replace H := ifS H; obtain ⟨c26, H⟩ := H
              have LMc26 := aM c26
              clear c26
              obtain ⟨y364, hy364⟩ : ∃ y_ : List Int, y_ = (x5_2 ++ [x6_2]) := ⟨_, rfl⟩
              replace H : (emenderref04_Kids.l0 kj10 l0 a1 y364 (wrap64 (x6_2 + 1))) = some r := by first|(rw [hy364]; with_reducible exact H)|(have H2_ := (Option.bind_some _ _).symm.trans H; rw [hy364]; with_reducible exact H2_)|(have H2_ := (Option.bind_some _ _).symm.trans H; with_reducible exact H2_)|with_reducible exact H|(rw [hy364]; exact H)|exact H
              have Ny364 := aM hy364
              clear hy364
              have H' := aM H
              clear H
              have p360 : 0 ≤ (x6_2 : Int) := of_decide_eq_true (by first|(with_reducible assumption)|assumption)
              have q360 : x6_2 < (l0.length : Int) := of_decide_eq_true (by first|(with_reducible assumption)|assumption)
              obtain ⟨ad360, e360, hx360_0, hx360_1, hx360_2, hx360_3⟩ := at_T64 HR0.out x6_2 p360 q360
              cases e360
              replace hx360_0 := cB HB.out hx360_0
              replace hx360_1 := cB HB.out hx360_1
              replace hx360_2 := cB HB.out hx360_2
              replace hx360_3 := cB HB.out hx360_3
              replace p360 := eq_true p360
              replace q360 := eq_true q360
              have p361 : 0 ≤ (x6_2 : Int) := of_decide_eq_true (by first|(with_reducible assumption)|assumption)
              have q361 : x6_2 < (l0.length : Int) := of_decide_eq_true (by first|(with_reducible assumption)|assumption)
              obtain ⟨ad361, e361, hx361_0, hx361_1, hx361_2, hx361_3⟩ := at_T64 HR0.out x6_2 p361 q361
              obtain rfl : ad360 = ad361 := (by injection e361)
              replace hx361_0 := cB HB.out hx361_0
              replace hx361_1 := cB HB.out hx361_1
              replace hx361_2 := cB HB.out hx361_2
              replace hx361_3 := cB HB.out hx361_3
              replace p361 := eq_true p361
              replace q361 := eq_true q361
              have p362 : 0 ≤ (x6_2 : Int) := of_decide_eq_true (by first|(with_reducible assumption)|assumption)
              have q362 : x6_2 < (l0.length : Int) := of_decide_eq_true (by first|(with_reducible assumption)|assumption)
              obtain ⟨ad362, e362, hx362_0, hx362_1, hx362_2, hx362_3⟩ := at_T64 HR0.out x6_2 p362 q362
              obtain rfl : ad360 = ad362 := (by injection e362)
              replace hx362_0 := cB HB.out hx362_0
              replace hx362_1 := cB HB.out hx362_1
              replace hx362_2 := cB HB.out hx362_2
              replace hx362_3 := cB HB.out hx362_3
              replace p362 := eq_true p362
              replace q362 := eq_true q362
              go_wp2_with (first|(go_at_call 58; (with_reducible refine (emenderref04_Around.calls kj10 _ _ l0 x6_2 t363 _ ?side1 ?side2 A24.out).mono ?_); (case side1 => repeat (first|exact (Kd.C_below HR0.out HB.out)|(with_reducible refine Kd.C_alloc ?_ _)|(with_reducible refine Kd.C_drewN ?_ _)|(with_reducible refine Kd.C_drew ?_))); (case side2 => exact HC0.out); rintro e w27 ⟨rfl, hb⟩; replace HO_5 := aM (Kd.R_below (by (with_reducible repeat (first|apply Kd.R_alloc|apply Kd.R_drewN|apply Kd.R_drew)); exact HO_5.out) hb); replace HB := aM (below_step (by repeat (first|(with_reducible first|exact HB.out|apply lA|apply lN|apply lD)|exact HB.out)) hb); (try clear hb); (try clear hb2); (try clear hk); (try clear hi))|((with_reducible refine gate_builtin (b := .append) (xs := #[.tmp 82, .tmp 84]) rfl ?_); (try (refine gate_guard (by rfl) ?_; dsimp only)); at_builtin; refine Kd.R_append (Kd.int .i64) (w0 := w) w.heap.size rfl (.tmp 82) (.tmp 84) 52 3 (.int .i64 0) 8 rfl Try.underlying52 info3 rfl (by decide) (by omega) u5 x5_2 x6_2 [.int .i64 x6_2] (fun _ => True) (fun _ => False) rfl rfl ?aP (fun _ hk => hk.elim) ?aF ?aO ?aB ?aS ?aL ?_; (case aP => exact rfl); (case aB => exact (by repeat (first|(with_reducible first|exact HB.out|apply lA|apply lN|apply lD)|exact HB.out))); (case aF => exact (fun _ _ => trivial)); (case aO => exact (by (with_reducible repeat (first|apply Kd.R_alloc|apply Kd.R_drewN|apply Kd.R_drew)); exact HO_5.out)); (case aS => exact (below_size (by repeat (first|(with_reducible first|exact HB.out|apply lA|apply lN|apply lD)|exact HB.out)))); (case aL => have := LMc26.out; omega); intro v365 w28 ho hb hg hat; rw [← Ny364.out] at ho; have n0_ := aM (hb); have n1_ := aM (ho); clear HB; clear HO_5; have HB := n0_; have HO366 := n1_; clear n0_ n1_; clear ho hb hg hat))
              go_roundg kj10
              case measure => have := HJ2.out; have := HK2.out; have := HJ10.out; omega
              case rel => exact ⟨(y364), (wrap64 (x6_2 + 1)), (by first|rfl|(simp; done)|(simp [*]; done)), H', ⟨by have := HJ2.out; have := HK2.out; have := HJ10.out; omega⟩, ⟨by (with_reducible repeat (first|apply Kd.R_alloc|apply Kd.R_drewN|apply Kd.R_drew)); exact HO366.out⟩, ⟨by repeat (first|(with_reducible first|exact HB.out|apply lA|apply lN|apply lD)|exact HB.out)⟩⟩
             ·rw [if_neg c25] at H
              have c25b0 : (t363 == a1) = false := beq_eq_false_iff_ne.mpr c25
              have c25b1 : (t363 != a1) = true := bne_iff_ne.mpr c25
              have H' := aM H
              clear H
              have p360 : 0 ≤ (x6_2 : Int) := of_decide_eq_true (by first|(with_reducible assumption)|assumption)
              have q360 : x6_2 < (l0.length : Int) := of_decide_eq_true (by first|(with_reducible assumption)|assumption)
              obtain ⟨ad360, e360, hx360_0, hx360_1, hx360_2, hx360_3⟩ := at_T64 HR0.out x6_2 p360 q360
              cases e360
              replace hx360_0 := cB HB.out hx360_0
              replace hx360_1 := cB HB.out hx360_1
              replace hx360_2 := cB HB.out hx360_2
              replace hx360_3 := cB HB.out hx360_3
              replace p360 := eq_true p360
              replace q360 := eq_true q360
              have p361 : 0 ≤ (x6_2 : Int) := of_decide_eq_true (by first|(with_reducible assumption)|assumption)
              have q361 : x6_2 < (l0.length : Int) := of_decide_eq_true (by first|(with_reducible assumption)|assumption)
              obtain ⟨ad361, e361, hx361_0, hx361_1, hx361_2, hx361_3⟩ := at_T64 HR0.out x6_2 p361 q361
              obtain rfl : ad360 = ad361 := (by injection e361)
              replace hx361_0 := cB HB.out hx361_0
              replace hx361_1 := cB HB.out hx361_1
              replace hx361_2 := cB HB.out hx361_2
              replace hx361_3 := cB HB.out hx361_3
              replace p361 := eq_true p361
              replace q361 := eq_true q361
              have p362 : 0 ≤ (x6_2 : Int) := of_decide_eq_true (by first|(with_reducible assumption)|assumption)
              have q362 : x6_2 < (l0.length : Int) := of_decide_eq_true (by first|(with_reducible assumption)|assumption)
              obtain ⟨ad362, e362, hx362_0, hx362_1, hx362_2, hx362_3⟩ := at_T64 HR0.out x6_2 p362 q362
              obtain rfl : ad360 = ad362 := (by injection e362)
              replace hx362_0 := cB HB.out hx362_0
              replace hx362_1 := cB HB.out hx362_1
              replace hx362_2 := cB HB.out hx362_2
              replace hx362_3 := cB HB.out hx362_3
              replace p362 := eq_true p362
              replace q362 := eq_true q362
              go_wp2_with (first|(go_at_call 58; (with_reducible refine (emenderref04_Around.calls kj10 _ _ l0 x6_2 t363 _ ?side1 ?side2 A24.out).mono ?_); (case side1 => repeat (first|exact (Kd.C_below HR0.out HB.out)|(with_reducible refine Kd.C_alloc ?_ _)|(with_reducible refine Kd.C_drewN ?_ _)|(with_reducible refine Kd.C_drew ?_))); (case side2 => exact HC0.out); rintro e w29 ⟨rfl, hb⟩; replace HO_5 := aM (Kd.R_below (by (with_reducible repeat (first|apply Kd.R_alloc|apply Kd.R_drewN|apply Kd.R_drew)); exact HO_5.out) hb); replace HB := aM (below_step (by repeat (first|(with_reducible first|exact HB.out|apply lA|apply lN|apply lD)|exact HB.out)) hb); (try clear hb); (try clear hb2); (try clear hk); (try clear hi)))
              go_roundg kj10
              case measure => have := HJ2.out; have := HK2.out; have := HJ10.out; omega
              case rel => exact ⟨(x5_2), (wrap64 (x6_2 + 1)), (by first|rfl|(simp; done)|(simp [*]; done)), H', ⟨by have := HJ2.out; have := HK2.out; have := HJ10.out; omega⟩, ⟨by (with_reducible repeat (first|apply Kd.R_alloc|apply Kd.R_drewN|apply Kd.R_drew)); exact HO_5.out⟩, ⟨by repeat (first|(with_reducible first|exact HB.out|apply lA|apply lN|apply lD)|exact HB.out)⟩⟩
            ·rw [if_neg c23] at H
             have c23b0 : decide (((rd_T64 l0 x6_2).f0) ≤ 3) = false := decide_eq_false c23
             clear c23
             have H' := aM H
             clear H
             have p360 : 0 ≤ (x6_2 : Int) := of_decide_eq_true (by first|(with_reducible assumption)|assumption)
             have q360 : x6_2 < (l0.length : Int) := of_decide_eq_true (by first|(with_reducible assumption)|assumption)
             obtain ⟨ad360, e360, hx360_0, hx360_1, hx360_2, hx360_3⟩ := at_T64 HR0.out x6_2 p360 q360
             cases e360
             replace hx360_0 := cB HB.out hx360_0
             replace hx360_1 := cB HB.out hx360_1
             replace hx360_2 := cB HB.out hx360_2
             replace hx360_3 := cB HB.out hx360_3
             replace p360 := eq_true p360
             replace q360 := eq_true q360
             have p361 : 0 ≤ (x6_2 : Int) := of_decide_eq_true (by first|(with_reducible assumption)|assumption)
             have q361 : x6_2 < (l0.length : Int) := of_decide_eq_true (by first|(with_reducible assumption)|assumption)
             obtain ⟨ad361, e361, hx361_0, hx361_1, hx361_2, hx361_3⟩ := at_T64 HR0.out x6_2 p361 q361
             obtain rfl : ad360 = ad361 := (by injection e361)
             replace hx361_0 := cB HB.out hx361_0
             replace hx361_1 := cB HB.out hx361_1
             replace hx361_2 := cB HB.out hx361_2
             replace hx361_3 := cB HB.out hx361_3
             replace p361 := eq_true p361
             replace q361 := eq_true q361
             have p362 : 0 ≤ (x6_2 : Int) := of_decide_eq_true (by first|(with_reducible assumption)|assumption)
             have q362 : x6_2 < (l0.length : Int) := of_decide_eq_true (by first|(with_reducible assumption)|assumption)
             obtain ⟨ad362, e362, hx362_0, hx362_1, hx362_2, hx362_3⟩ := at_T64 HR0.out x6_2 p362 q362
             obtain rfl : ad360 = ad362 := (by injection e362)
             replace hx362_0 := cB HB.out hx362_0
             replace hx362_1 := cB HB.out hx362_1
             replace hx362_2 := cB HB.out hx362_2
             replace hx362_3 := cB HB.out hx362_3
             replace p362 := eq_true p362
             replace q362 := eq_true q362
             go_wp2
             go_roundg kj10
             case measure => have := HJ2.out; have := HK2.out; have := HJ10.out; omega
             case rel => exact ⟨(x5_2), (wrap64 (x6_2 + 1)), (by first|rfl|(simp; done)|(simp [*]; done)), H', ⟨by have := HJ2.out; have := HK2.out; have := HJ10.out; omega⟩, ⟨by (with_reducible repeat (first|apply Kd.R_alloc|apply Kd.R_drewN|apply Kd.R_drew)); exact HO_5.out⟩, ⟨by repeat (first|(with_reducible first|exact HB.out|apply lA|apply lN|apply lD)|exact HB.out)⟩⟩
           ·rw [if_neg c22] at H
            have c22b0 : decide (0 ≤ ((rd_T64 l0 x6_2).f0)) = false := decide_eq_false c22
            clear c22
            have H' := aM H
            clear H
            have p360 : 0 ≤ (x6_2 : Int) := of_decide_eq_true (by first|(with_reducible assumption)|assumption)
            have q360 : x6_2 < (l0.length : Int) := of_decide_eq_true (by first|(with_reducible assumption)|assumption)
            obtain ⟨ad360, e360, hx360_0, hx360_1, hx360_2, hx360_3⟩ := at_T64 HR0.out x6_2 p360 q360
            cases e360
            replace hx360_0 := cB HB.out hx360_0
            replace hx360_1 := cB HB.out hx360_1
            replace hx360_2 := cB HB.out hx360_2
            replace hx360_3 := cB HB.out hx360_3
            replace p360 := eq_true p360
            replace q360 := eq_true q360
            have p361 : 0 ≤ (x6_2 : Int) := of_decide_eq_true (by first|(with_reducible assumption)|assumption)
            have q361 : x6_2 < (l0.length : Int) := of_decide_eq_true (by first|(with_reducible assumption)|assumption)
            obtain ⟨ad361, e361, hx361_0, hx361_1, hx361_2, hx361_3⟩ := at_T64 HR0.out x6_2 p361 q361
            obtain rfl : ad360 = ad361 := (by injection e361)
            replace hx361_0 := cB HB.out hx361_0
            replace hx361_1 := cB HB.out hx361_1
            replace hx361_2 := cB HB.out hx361_2
            replace hx361_3 := cB HB.out hx361_3
            replace p361 := eq_true p361
            replace q361 := eq_true q361
            go_wp2
            go_roundg kj10
            case measure => have := HJ2.out; have := HK2.out; have := HJ10.out; omega
            case rel => exact ⟨(x5_2), (wrap64 (x6_2 + 1)), (by first|rfl|(simp; done)|(simp [*]; done)), H', ⟨by have := HJ2.out; have := HK2.out; have := HJ10.out; omega⟩, ⟨by (with_reducible repeat (first|apply Kd.R_alloc|apply Kd.R_drewN|apply Kd.R_drew)); exact HO_5.out⟩, ⟨by repeat (first|(with_reducible first|exact HB.out|apply lA|apply lN|apply lD)|exact HB.out)⟩⟩
      ·rw [if_neg c10] at H
       have c10b0 : decide (x6_2 < (l0.length : Int)) = false := decide_eq_false c10
       clear c10
       obtain rfl := Option.some.inj H
       go_wp2
       go_ret
       exact ⟨_, by first|rfl|(simp [errW_none, errW_some] <;> rfl)|(simp [*, errW_none, errW_some] <;> rfl), by (with_reducible repeat (first|apply Kd.R_alloc|apply Kd.R_drewN|apply Kd.R_drew)); exact HO_5.out, by repeat (first|(with_reducible first|exact HB.out|apply lA|apply lN|apply lD)|exact HB.out)⟩

end Go.Proofs.Ytjpmlggkhhoooaa.PDq
-- Written for this claim by a program (the kit's print, with hand-made contracts for what it does not take).
namespace Go.Proofs.Ytjpmlggkhhoooaa.PDq
open Go.RowKit Go.Proofs.YtjpmlggkhhoooaaW.PrintWords Go.Proofs.YtjpmlggkhhoooaaW.PrintLast Go.Proofs.YtjpmlggkhhoooaaW.PrintMore
attribute [local go_sem] max2_int min2_int max_two min_two max_three min_three max_four min_four   -- for this text's walks alone
set_option linter.unusedVariables false
set_option linter.unusedSimpArgs false

mutual
def emenderref04_Partner.j0 : Nat → List (S64) → Int → Bool → Option (Int)
|0, _, _, _ => none
|k + 1, x0, x1, x13 => if x13 = true then (some (-1)) else (if 0 ≤ x1 then (if x1 < (x0.length : Int) then (if ((rd_T64 x0 x1).f0) = 2 then ((emenderref04_Around.f k x0 x1).bind fun t368 => (some t368)) else (if ((rd_T64 x0 x1).f0) = 1 then (emenderref04_Partner.l0 k x0 x1 (wrap64 (x1 + 1))) else (some (-1)))) else (none)) else (none))
def emenderref04_Partner.l0 : Nat → List (S64) → Int → Int → Option (Int)
|0, _, _, _ => none
|k + 1, x0, x1, x5 => if x5 < (x0.length : Int) then (if 0 ≤ x5 then (if ((rd_T64 x0 x5).f0) = 2 then ((emenderref04_Around.f k x0 x5).bind fun t371 => (if t371 = x1 then (some x5) else (emenderref04_Partner.l0 k x0 x1 (wrap64 (x5 + 1))))) else (emenderref04_Partner.l0 k x0 x1 (wrap64 (x5 + 1)))) else (none)) else (some (-1))
end
def emenderref04_Partner.f (k : Nat) (l0 : List (S64)) (a1 : Int) : Option (Int) := if a1 < 0 then (emenderref04_Partner.j0 k l0 a1 true) else (emenderref04_Partner.j0 k l0 a1 (decide (a1 ≥ (l0.length : Int))))
theorem emenderref04_Partner.mono_l : ∀ k, (∀ y0 y1 y2, LeO (emenderref04_Partner.j0 k y0 y1 y2) (emenderref04_Partner.j0 (k + 1) y0 y1 y2)) ∧ (∀ y0 y1 y2, LeO (emenderref04_Partner.l0 k y0 y1 y2) (emenderref04_Partner.l0 (k + 1) y0 y1 y2))
|0 => ⟨fun _ _ _ r h => by simp [emenderref04_Partner.j0] at h, fun _ _ _ r h => by simp [emenderref04_Partner.l0] at h⟩
|k + 1 => by
  obtain ⟨ih0, ih1⟩ := emenderref04_Partner.mono_l k
  refine ⟨?_, ?_⟩
  ·intro y0 y1 y2
   unfold emenderref04_Partner.j0
   repeat' first
  |(with_reducible exact ih0 _ _ _)
  |(with_reducible exact ih1 _ _ _)
  |(with_reducible exact emenderref04_Around.mono _ _ _)
  |(with_reducible exact LeO.refl _)
  |(with_reducible exact LeO.none _)
  |(with_reducible refine LeO.ite ?_ ?_)
  |(with_reducible refine LeO.bind ?_ (fun _ => ?_))
  |exact ih0 _ _ _
  |exact ih1 _ _ _
  |exact emenderref04_Around.mono _ _ _
  |exact LeO.none _
  |refine LeO.ite ?_ ?_
  |refine LeO.bind ?_ (fun _ => ?_)
  ·intro y0 y1 y2
   unfold emenderref04_Partner.l0
   repeat' first
  |(with_reducible exact ih0 _ _ _)
  |(with_reducible exact ih1 _ _ _)
  |(with_reducible exact emenderref04_Around.mono _ _ _)
  |(with_reducible exact LeO.refl _)
  |(with_reducible exact LeO.none _)
  |(with_reducible refine LeO.ite ?_ ?_)
  |(with_reducible refine LeO.bind ?_ (fun _ => ?_))
  |exact ih0 _ _ _
  |exact ih1 _ _ _
  |exact emenderref04_Around.mono _ _ _
  |exact LeO.none _
  |refine LeO.ite ?_ ?_
  |refine LeO.bind ?_ (fun _ => ?_)
theorem emenderref04_Partner.mono : ∀ a0 a1 k, LeO (emenderref04_Partner.f k a0 a1) (emenderref04_Partner.f (k + 1) a0 a1) := by
 intro a0 a1 k
 obtain ⟨ih0, ih1⟩ := emenderref04_Partner.mono_l k
 unfold emenderref04_Partner.f
 repeat' first
  |(with_reducible exact ih0 _ _ _)
  |(with_reducible exact ih1 _ _ _)
  |(with_reducible exact emenderref04_Around.mono _ _ _)
  |(with_reducible exact LeO.refl _)
  |(with_reducible exact LeO.none _)
  |(with_reducible refine LeO.ite ?_ ?_)
  |(with_reducible refine LeO.bind ?_ (fun _ => ?_))
  |exact ih0 _ _ _
  |exact ih1 _ _ _
  |exact emenderref04_Around.mono _ _ _
  |exact LeO.none _
  |refine LeO.ite ?_ ?_
  |refine LeO.bind ?_ (fun _ => ?_)
set_option maxHeartbeats 8000000 in
set_option maxRecDepth 100000 in
theorem emenderref04_Partner.calls (k : Nat) (A0 : Option Addr) (c0 : Nat) (l0 : List (S64)) (a1 : Int) (r : Int) (w : World) (hr0 : Kd.C k64 w A0 l0.length l0) (hc0 : l0.length ≤ c0) (h : emenderref04_Partner.f k l0 a1 = some r) :
  Calls Try.prog 57 #[.slice A0 l0.length c0, .int .i64 a1] w fun e w' => e = .returned (.int .i64 r) ∧ Below w.heap.size w w' := by
 have HR0 := aM hr0
 have HC0 := aM hc0
 clear hr0 hc0
 have HB := aM (Below.refl w.heap.size w)
 have H : (if a1 < 0 then (emenderref04_Partner.j0 k l0 a1 true) else (emenderref04_Partner.j0 k l0 a1 (decide (a1 ≥ (l0.length : Int))))) = some r := h
 clear h
 have HC3 := aM H
 clear H
 go_enter Try.func57, Try.ntmps57
 go_upto_region 1 with (fail)
 go_cut [13] (fun v13 wc => ∃ (kq : Nat) (x13_2 : Bool), v13 = .bool x13_2 ∧ Aside0 (emenderref04_Partner.j0 kq l0 a1 x13_2 = some r) ∧ Aside0 (kq ≤ k) ∧ Aside0 (Below w.heap.size w wc))
 case first =>
  have H := HC3.out
  clear HC3
  by_cases c4 : a1 < 0
  ·rw [if_pos c4] at H
   have c4b0 : decide (a1 < 0) = true := decide_eq_true c4
   clear c4
   (first|rw [c4b0]|(simp only [i64_w, i32_w]; rw [c4b0])|skip)
   have H' := aM H
   clear H
   go_wp2
   go_meet
   case rel => exact ⟨_, (true), (by first|rfl|(simp; done)|(simp [*]; done)), H', ⟨by first|omega|exact Nat.le_refl _⟩, ⟨by repeat (first|(with_reducible first|exact HB.out|apply lA|apply lN|apply lD)|exact HB.out)⟩⟩
  ·rw [if_neg c4] at H
   have c4b0 : decide (a1 < 0) = false := decide_eq_false c4
   clear c4
   (first|rw [c4b0]|(simp only [i64_w, i32_w]; rw [c4b0])|skip)
   have H' := aM H
   clear H
   go_wp2
   go_meet
   case rel => exact ⟨_, (decide (a1 ≥ (l0.length : Int))), (by first|rfl|(simp; done)|(simp [*]; done)), H', ⟨by first|omega|exact Nat.le_refl _⟩, ⟨by repeat (first|(with_reducible first|exact HB.out|apply lA|apply lN|apply lD)|exact HB.out)⟩⟩
 case rest =>
  clear HC3
  obtain ⟨kq, x13_2, rfl, HA, HJ2, HB⟩ := hcut
  cases kq with
 |zero => exact absurd HA.out (by simp [emenderref04_Partner.j0])
 |succ kj2 =>
   have H := HA.out
   clear HA
   simp only [emenderref04_Partner.j0] at H
   by_cases c5 : x13_2 = true
   ·subst c5
    have H1 : (some (-1)) = some r := by rw [if_pos rfl] at H; exact H
    clear H
    have H := H1
    clear H1
    obtain rfl := Option.some.inj H
    go_wp2
    go_ret
    exact ⟨by first|rfl|(simp [errW_none, errW_some] <;> rfl)|(simp [*, errW_none, errW_some] <;> rfl), by repeat (first|(with_reducible first|exact HB.out|apply lA|apply lN|apply lD)|exact HB.out)⟩
   ·replace c5 := Bool.eq_false_iff.mpr c5
    subst c5
    have H1 : (if 0 ≤ a1 then (if a1 < (l0.length : Int) then (if ((rd_T64 l0 a1).f0) = 2 then ((emenderref04_Around.f kj2 l0 a1).bind fun t368 => (some t368)) else (if ((rd_T64 l0 a1).f0) = 1 then (emenderref04_Partner.l0 kj2 l0 a1 (wrap64 (a1 + 1))) else (some (-1)))) else (none)) else (none)) = some r := by rw [if_neg (show ¬ (false = true) by decide)] at H; exact H
    clear H
    have H := H1
    clear H1
    replace H := ifS H; obtain ⟨c6, H⟩ := H
    have c6b0 : decide (0 ≤ a1) = true := decide_eq_true c6
    clear c6
    replace H := ifS H; obtain ⟨c7, H⟩ := H
    have c7b0 : decide (a1 < (l0.length : Int)) = true := decide_eq_true c7
    clear c7
    by_cases c8 : ((rd_T64 l0 a1).f0) = 2
    ·rw [if_pos c8] at H
     have c8b0 : (((rd_T64 l0 a1).f0) == 2) = true := beq_iff_eq.mpr c8
     have c8b1 : (((rd_T64 l0 a1).f0) != 2) = false := bne_eq_false_iff_eq.mpr c8
     clear c8
     replace H := Option.bind_eq_some_iff.mp H
     obtain ⟨t368, A90, H⟩ := H
     replace H : (some t368) = some r := H
     have A9 := aM A90
     clear A90
     obtain rfl := Option.some.inj H
     have p367 : 0 ≤ (a1 : Int) := of_decide_eq_true (by first|(with_reducible assumption)|assumption)
     have q367 : a1 < (l0.length : Int) := of_decide_eq_true (by first|(with_reducible assumption)|assumption)
     obtain ⟨ad367, e367, hx367_0, hx367_1, hx367_2, hx367_3⟩ := at_T64 HR0.out a1 p367 q367
     cases e367
     replace hx367_0 := cB HB.out hx367_0
     replace hx367_1 := cB HB.out hx367_1
     replace hx367_2 := cB HB.out hx367_2
     replace hx367_3 := cB HB.out hx367_3
     replace p367 := eq_true p367
     replace q367 := eq_true q367
     go_wp2_with (first|((with_reducible refine gate_callee (f := 58) rfl ?_); refine goesL_ (some 22) rfl rfl Try.func58 (by kernel_rfl) rfl #[.slice (some ad367) l0.length c0, .int .i64 a1] rfl (by (try simp only [List.map_toArray, List.map_cons, List.map_nil]); first|done|rfl|(simp only [List.length_drop, List.length_take]; rfl)) ?_; (with_reducible refine (emenderref04_Around.calls kj2 _ _ l0 a1 t368 _ ?side1 ?side2 A9.out).mono ?_); (case side1 => repeat (first|exact (Kd.C_below HR0.out HB.out)|(with_reducible refine Kd.C_alloc ?_ _)|(with_reducible refine Kd.C_drewN ?_ _)|(with_reducible refine Kd.C_drew ?_))); (case side2 => exact HC0.out); rintro e w10 ⟨rfl, hb⟩; refine ⟨_, rfl, ?_⟩; replace HB := aM (below_step (by repeat (first|(with_reducible first|exact HB.out|apply lA|apply lN|apply lD)|exact HB.out)) hb); (try clear hb); (try clear hb2); (try clear hk); (try clear hi)))
     go_ret
     exact ⟨by first|rfl|(simp [errW_none, errW_some] <;> rfl)|(simp [*, errW_none, errW_some] <;> rfl), by repeat (first|(with_reducible first|exact HB.out|apply lA|apply lN|apply lD)|exact HB.out)⟩
    ·rw [if_neg c8] at H
     have c8b0 : (((rd_T64 l0 a1).f0) == 2) = false := beq_eq_false_iff_ne.mpr c8
     have c8b1 : (((rd_T64 l0 a1).f0) != 2) = true := bne_iff_ne.mpr c8
     by_cases c11 : ((rd_T64 l0 a1).f0) = 1
     ·rw [if_pos c11] at H
      have c11b0 : (((rd_T64 l0 a1).f0) == 1) = true := beq_iff_eq.mpr c11
      have c11b1 : (((rd_T64 l0 a1).f0) != 1) = false := bne_eq_false_iff_eq.mpr c11
      clear c11
      have H' := aM H
      clear H
      have p367 : 0 ≤ (a1 : Int) := of_decide_eq_true (by first|(with_reducible assumption)|assumption)
      have q367 : a1 < (l0.length : Int) := of_decide_eq_true (by first|(with_reducible assumption)|assumption)
      obtain ⟨ad367, e367, hx367_0, hx367_1, hx367_2, hx367_3⟩ := at_T64 HR0.out a1 p367 q367
      cases e367
      replace hx367_0 := cB HB.out hx367_0
      replace hx367_1 := cB HB.out hx367_1
      replace hx367_2 := cB HB.out hx367_2
      replace hx367_3 := cB HB.out hx367_3
      replace p367 := eq_true p367
      replace q367 := eq_true q367
      have p369 : 0 ≤ (a1 : Int) := of_decide_eq_true (by first|(with_reducible assumption)|assumption)
      have q369 : a1 < (l0.length : Int) := of_decide_eq_true (by first|(with_reducible assumption)|assumption)
      obtain ⟨ad369, e369, hx369_0, hx369_1, hx369_2, hx369_3⟩ := at_T64 HR0.out a1 p369 q369
      obtain rfl : ad367 = ad369 := (by injection e369)
      replace hx369_0 := cB HB.out hx369_0
      replace hx369_1 := cB HB.out hx369_1
      replace hx369_2 := cB HB.out hx369_2
      replace hx369_3 := cB HB.out hx369_3
      replace p369 := eq_true p369
      replace q369 := eq_true q369
      go_wp2
      go_loopg [5] kj2 (fun kq v5 w' => ∃ (x5_2 : Int), v5 = .int .i64 x5_2 ∧ Aside0 (emenderref04_Partner.l0 kq l0 a1 x5_2 = some r) ∧ Aside0 (kq ≤ kj2) ∧ Aside0 (Below w.heap.size w w'))
      case atStart => exact ⟨(wrap64 (a1 + 1)), (by first|rfl|(simp; done)|(simp [*]; done)), H', ⟨Nat.le_refl _⟩, ⟨by repeat (first|(with_reducible first|exact HB.out|apply lA|apply lN|apply lD)|exact HB.out)⟩⟩
      case round =>
       clear H'
       obtain ⟨x5_2, rfl, HA, HK2, HB⟩ := hrel
       cases gk with
      |zero => exact absurd HA.out (by simp [emenderref04_Partner.l0])
      |succ k2 =>
        have H := HA.out
        clear HA
        simp only [emenderref04_Partner.l0] at H
        by_cases c12 : x5_2 < (l0.length : Int)
        ·rw [if_pos c12] at H
         have c12b0 : decide (x5_2 < (l0.length : Int)) = true := decide_eq_true c12
         clear c12
         replace H := ifS H; obtain ⟨c13, H⟩ := H
         have c13b0 : decide (0 ≤ x5_2) = true := decide_eq_true c13
         clear c13
         by_cases c14 : ((rd_T64 l0 x5_2).f0) = 2
         ·rw [if_pos c14] at H
          have c14b0 : (((rd_T64 l0 x5_2).f0) == 2) = true := beq_iff_eq.mpr c14
          have c14b1 : (((rd_T64 l0 x5_2).f0) != 2) = false := bne_eq_false_iff_eq.mpr c14
          clear c14
          replace H := Option.bind_eq_some_iff.mp H
          obtain ⟨t371, A150, H⟩ := H
          replace H : (if t371 = a1 then (some x5_2) else (emenderref04_Partner.l0 k2 l0 a1 (wrap64 (x5_2 + 1)))) = some r := H
          have A15 := aM A150
          clear A150
          by_cases c16 : t371 = a1
          ·rw [if_pos c16] at H
           have c16b0 : (t371 == a1) = true := beq_iff_eq.mpr c16
           have c16b1 : (t371 != a1) = false := bne_eq_false_iff_eq.mpr c16
           clear c16
           obtain rfl := Option.some.inj H
           have p370 : 0 ≤ (x5_2 : Int) := of_decide_eq_true (by first|(with_reducible assumption)|assumption)
           have q370 : x5_2 < (l0.length : Int) := of_decide_eq_true (by first|(with_reducible assumption)|assumption)
           obtain ⟨ad370, e370, hx370_0, hx370_1, hx370_2, hx370_3⟩ := at_T64 HR0.out x5_2 p370 q370
           obtain rfl : ad367 = ad370 := (by injection e370)
           replace hx370_0 := cB HB.out hx370_0
           replace hx370_1 := cB HB.out hx370_1
           replace hx370_2 := cB HB.out hx370_2
           replace hx370_3 := cB HB.out hx370_3
           replace p370 := eq_true p370
           replace q370 := eq_true q370
           go_wp2_with (first|(go_at_call 58; (with_reducible refine (emenderref04_Around.calls k2 _ _ l0 x5_2 t371 _ ?side1 ?side2 A15.out).mono ?_); (case side1 => repeat (first|exact (Kd.C_below HR0.out HB.out)|(with_reducible refine Kd.C_alloc ?_ _)|(with_reducible refine Kd.C_drewN ?_ _)|(with_reducible refine Kd.C_drew ?_))); (case side2 => exact HC0.out); rintro e w17 ⟨rfl, hb⟩; replace HB := aM (below_step (by repeat (first|(with_reducible first|exact HB.out|apply lA|apply lN|apply lD)|exact HB.out)) hb); (try clear hb); (try clear hb2); (try clear hk); (try clear hi)))
           go_ret
           exact ⟨by first|rfl|(simp [errW_none, errW_some] <;> rfl)|(simp [*, errW_none, errW_some] <;> rfl), by repeat (first|(with_reducible first|exact HB.out|apply lA|apply lN|apply lD)|exact HB.out)⟩
          ·rw [if_neg c16] at H
           have c16b0 : (t371 == a1) = false := beq_eq_false_iff_ne.mpr c16
           have c16b1 : (t371 != a1) = true := bne_iff_ne.mpr c16
           have H' := aM H
           clear H
           have p370 : 0 ≤ (x5_2 : Int) := of_decide_eq_true (by first|(with_reducible assumption)|assumption)
           have q370 : x5_2 < (l0.length : Int) := of_decide_eq_true (by first|(with_reducible assumption)|assumption)
           obtain ⟨ad370, e370, hx370_0, hx370_1, hx370_2, hx370_3⟩ := at_T64 HR0.out x5_2 p370 q370
           obtain rfl : ad367 = ad370 := (by injection e370)
           replace hx370_0 := cB HB.out hx370_0
           replace hx370_1 := cB HB.out hx370_1
           replace hx370_2 := cB HB.out hx370_2
           replace hx370_3 := cB HB.out hx370_3
           replace p370 := eq_true p370
           replace q370 := eq_true q370
           go_wp2_with (first|(go_at_call 58; (with_reducible refine (emenderref04_Around.calls k2 _ _ l0 x5_2 t371 _ ?side1 ?side2 A15.out).mono ?_); (case side1 => repeat (first|exact (Kd.C_below HR0.out HB.out)|(with_reducible refine Kd.C_alloc ?_ _)|(with_reducible refine Kd.C_drewN ?_ _)|(with_reducible refine Kd.C_drew ?_))); (case side2 => exact HC0.out); rintro e w18 ⟨rfl, hb⟩; replace HB := aM (below_step (by repeat (first|(with_reducible first|exact HB.out|apply lA|apply lN|apply lD)|exact HB.out)) hb); (try clear hb); (try clear hb2); (try clear hk); (try clear hi)))
           go_roundg k2
           case measure => have := HJ2.out; have := HK2.out; omega
           case rel => exact ⟨(wrap64 (x5_2 + 1)), (by first|rfl|(simp; done)|(simp [*]; done)), H', ⟨by have := HJ2.out; have := HK2.out; omega⟩, ⟨by repeat (first|(with_reducible first|exact HB.out|apply lA|apply lN|apply lD)|exact HB.out)⟩⟩
         ·rw [if_neg c14] at H
          have c14b0 : (((rd_T64 l0 x5_2).f0) == 2) = false := beq_eq_false_iff_ne.mpr c14
          have c14b1 : (((rd_T64 l0 x5_2).f0) != 2) = true := bne_iff_ne.mpr c14
          have H' := aM H
          clear H
          have p370 : 0 ≤ (x5_2 : Int) := of_decide_eq_true (by first|(with_reducible assumption)|assumption)
          have q370 : x5_2 < (l0.length : Int) := of_decide_eq_true (by first|(with_reducible assumption)|assumption)
          obtain ⟨ad370, e370, hx370_0, hx370_1, hx370_2, hx370_3⟩ := at_T64 HR0.out x5_2 p370 q370
          obtain rfl : ad367 = ad370 := (by injection e370)
          replace hx370_0 := cB HB.out hx370_0
          replace hx370_1 := cB HB.out hx370_1
          replace hx370_2 := cB HB.out hx370_2
          replace hx370_3 := cB HB.out hx370_3
          replace p370 := eq_true p370
          replace q370 := eq_true q370
          go_wp2
          go_roundg k2
          case measure => have := HJ2.out; have := HK2.out; omega
          case rel => exact ⟨(wrap64 (x5_2 + 1)), (by first|rfl|(simp; done)|(simp [*]; done)), H', ⟨by have := HJ2.out; have := HK2.out; omega⟩, ⟨by repeat (first|(with_reducible first|exact HB.out|apply lA|apply lN|apply lD)|exact HB.out)⟩⟩
        ·rw [if_neg c12] at H
         have c12b0 : decide (x5_2 < (l0.length : Int)) = false := decide_eq_false c12
         clear c12
         obtain rfl := Option.some.inj H
         go_wp2
         go_ret
         exact ⟨by first|rfl|(simp [errW_none, errW_some] <;> rfl)|(simp [*, errW_none, errW_some] <;> rfl), by repeat (first|(with_reducible first|exact HB.out|apply lA|apply lN|apply lD)|exact HB.out)⟩
     ·rw [if_neg c11] at H
      have c11b0 : (((rd_T64 l0 a1).f0) == 1) = false := beq_eq_false_iff_ne.mpr c11
      have c11b1 : (((rd_T64 l0 a1).f0) != 1) = true := bne_iff_ne.mpr c11
      obtain rfl := Option.some.inj H
      have p367 : 0 ≤ (a1 : Int) := of_decide_eq_true (by first|(with_reducible assumption)|assumption)
      have q367 : a1 < (l0.length : Int) := of_decide_eq_true (by first|(with_reducible assumption)|assumption)
      obtain ⟨ad367, e367, hx367_0, hx367_1, hx367_2, hx367_3⟩ := at_T64 HR0.out a1 p367 q367
      cases e367
      replace hx367_0 := cB HB.out hx367_0
      replace hx367_1 := cB HB.out hx367_1
      replace hx367_2 := cB HB.out hx367_2
      replace hx367_3 := cB HB.out hx367_3
      replace p367 := eq_true p367
      replace q367 := eq_true q367
      have p369 : 0 ≤ (a1 : Int) := of_decide_eq_true (by first|(with_reducible assumption)|assumption)
      have q369 : a1 < (l0.length : Int) := of_decide_eq_true (by first|(with_reducible assumption)|assumption)
      obtain ⟨ad369, e369, hx369_0, hx369_1, hx369_2, hx369_3⟩ := at_T64 HR0.out a1 p369 q369
      obtain rfl : ad367 = ad369 := (by injection e369)
      replace hx369_0 := cB HB.out hx369_0
      replace hx369_1 := cB HB.out hx369_1
      replace hx369_2 := cB HB.out hx369_2
      replace hx369_3 := cB HB.out hx369_3
      replace p369 := eq_true p369
      replace q369 := eq_true q369
      go_wp2
      go_ret
      exact ⟨by first|rfl|(simp [errW_none, errW_some] <;> rfl)|(simp [*, errW_none, errW_some] <;> rfl), by repeat (first|(with_reducible first|exact HB.out|apply lA|apply lN|apply lD)|exact HB.out)⟩

end Go.Proofs.Ytjpmlggkhhoooaa.PDq
-- Written for this claim by a program (the kit's print, with hand-made contracts for what it does not take).
namespace Go.Proofs.Ytjpmlggkhhoooaa.PDq
open Go.RowKit Go.Proofs.YtjpmlggkhhoooaaW.PrintWords Go.Proofs.YtjpmlggkhhoooaaW.PrintLast Go.Proofs.YtjpmlggkhhoooaaW.PrintMore
attribute [local go_sem] max2_int min2_int max_two min_two max_three min_three max_four min_four   -- for this text's walks alone
set_option linter.unusedVariables false
set_option linter.unusedSimpArgs false

def emenderref23_blocks.l0 : Nat → List (S64) → List Int → List (List (S64)) → Int → Option ((List (List (S64))))
|0, _, _, _, _ => none
|k + 1, x0, x3, x4, x5 => if x5 < (x3.length : Int) then (if 0 ≤ x5 then ((emenderref04_Partner.f k x0 (rd x3 x5)).bind fun t377 => (if 0 ≤ (rd x3 x5) then (if (rd x3 x5) ≤ (wrap64 ((mx t377 (rd x3 x5)) + 1)) then (if (wrap64 ((mx t377 (rd x3 x5)) + 1)) ≤ (x0.length : Int) then (if x4.length < 5864062014805 then (emenderref23_blocks.l0 k x0 x3 (x4 ++ [((x0.take ((wrap64 ((mx t377 (rd x3 x5)) + 1)) : Int).toNat).drop ((rd x3 x5) : Int).toNat)]) (wrap64 (x5 + 1))) else (none)) else (none)) else (none)) else (none))) else (none)) else (some x4)
def emenderref23_blocks.f (k : Nat) (l0 : List (S64)) : Option ((List (List (S64)))) := (emenderref04_Kids.f k l0 (-1)).bind fun t372 => (emenderref23_blocks.l0 k l0 t372 ([] : List (List (S64))) 0)
theorem emenderref23_blocks.mono_l : ∀ k, (∀ y0 y1 y2 y3, LeO (emenderref23_blocks.l0 k y0 y1 y2 y3) (emenderref23_blocks.l0 (k + 1) y0 y1 y2 y3))
|0 => fun _ _ _ _ r h => by simp [emenderref23_blocks.l0] at h
|k + 1 => by
  have ih0 := emenderref23_blocks.mono_l k
  ·intro y0 y1 y2 y3
   unfold emenderref23_blocks.l0
   repeat' first
  |(with_reducible exact ih0 _ _ _ _)
  |(with_reducible exact emenderref04_Kids.mono _ _ _)
  |(with_reducible exact emenderref04_Partner.mono _ _ _)
  |(with_reducible exact LeO.refl _)
  |(with_reducible exact LeO.none _)
  |(with_reducible refine LeO.ite ?_ ?_)
  |(with_reducible refine LeO.bind ?_ (fun _ => ?_))
  |exact ih0 _ _ _ _
  |exact emenderref04_Kids.mono _ _ _
  |exact emenderref04_Partner.mono _ _ _
  |exact LeO.none _
  |refine LeO.ite ?_ ?_
  |refine LeO.bind ?_ (fun _ => ?_)
theorem emenderref23_blocks.mono : ∀ a0 k, LeO (emenderref23_blocks.f k a0) (emenderref23_blocks.f (k + 1) a0) := by
 intro a0 k
 have ih0 := emenderref23_blocks.mono_l k
 unfold emenderref23_blocks.f
 repeat' first
  |(with_reducible exact ih0 _ _ _ _)
  |(with_reducible exact emenderref04_Kids.mono _ _ _)
  |(with_reducible exact emenderref04_Partner.mono _ _ _)
  |(with_reducible exact LeO.refl _)
  |(with_reducible exact LeO.none _)
  |(with_reducible refine LeO.ite ?_ ?_)
  |(with_reducible refine LeO.bind ?_ (fun _ => ?_))
  |exact ih0 _ _ _ _
  |exact emenderref04_Kids.mono _ _ _
  |exact emenderref04_Partner.mono _ _ _
  |exact LeO.none _
  |refine LeO.ite ?_ ?_
  |refine LeO.bind ?_ (fun _ => ?_)
def emenderref23_blocks.T6 : Bool × List (List Nat × List Nat) := (true, [([], []), ([], []), ([], []), ([], []), ([2, 3], [2, 3]), ([4], [4]), ([], []), ([], []), ([], []), ([7, 8], [7, 8]), ([9], [9]), ([6, 10], [6, 10]), ([], []), ([], []), ([12, 13], [12, 13]), ([14], [14]), ([11, 15], [11, 15]), ([16], [16]), ([1, 5, 17], [1, 5, 17]), ([18], [18]), ([0, 19, 11], [0, 19]), ([20, 20, 0, 1, 2, 3, 4, 5, 6, 7, 8, 9, 10, 11, 12, 13, 14, 15, 16, 17, 18, 19, 20], [0, 20])])
def emenderref23_blocks.B6 : List Nat := [0, 0, 0, 0, 12, 28, 0, 0, 0, 384, 896, 1984, 0, 0, 12288, 28672, 65472, 131008, 262142, 524286, 1048575, 2097151]
theorem emenderref23_blocks.tab6 : rtab .any (opsOf Try.f45 6) = emenderref23_blocks.T6 := by kernel_rfl
theorem emenderref23_blocks.bits6 : waitsOk emenderref23_blocks.T6.2 emenderref23_blocks.B6 = true := by kernel_rfl
set_option maxHeartbeats 8000000 in
set_option maxRecDepth 100000 in
theorem emenderref23_blocks.calls (k : Nat) (P0_ : Nat → Prop) (A0 : Option Addr) (c0 : Nat) (l0 : List (S64)) (r : List (List (S64))) (w : World) (hs0 : Kd.V k64 64 w w.heap.size (fun k_ => P0_ k_) (.slice A0 l0.length c0) l0) (h : emenderref23_blocks.f k l0 = some r) :
  Calls Try.prog 45 #[.slice A0 l0.length c0] w fun e w' => ∃ v0_ : Value, e = .returned (v0_) ∧ Kd.N (Kd.slice 64 k64) 22 w' w.heap.size (fun k_ => (P0_ k_ ∨ w.heap.size ≤ k_)) v0_ r ∧ Below w.heap.size w w' := by
 have HO0 := aM (show Kd.V k64 64 w w.heap.size (fun k_ => (P0_ k_ ∨ w.heap.size ≤ k_)) (.slice A0 l0.length c0) l0 from Kd.V_mono hs0 (fun k_ hk => .inl hk))
 have HB := aM (Below.refl w.heap.size w)
 have H : ((emenderref04_Kids.f k l0 (-1)).bind fun t372 => (emenderref23_blocks.l0 k l0 t372 ([] : List (List (S64))) 0)) = some r := h
 clear h
 replace H := Option.bind_eq_some_iff.mp H
 obtain ⟨t372, A20, H⟩ := H
 replace H : (emenderref23_blocks.l0 k l0 t372 ([] : List (List (S64))) 0) = some r := H
 have A2 := aM A20
 clear A20
 have H' := aM H
 clear H
 go_enter Try.func45, Try.ntmps45
 go_wp2_with (first|((with_reducible refine gate_callee (f := 46) rfl ?_); refine goesL_ (some 7) rfl rfl Try.func46 (by kernel_rfl) rfl #[.slice A0 l0.length c0, .int .i64 (-1)] rfl (by (try simp only [List.map_toArray, List.map_cons, List.map_nil]); first|done|rfl|(simp only [List.length_drop, List.length_take]; rfl)) ?_; (with_reducible refine (emenderref04_Kids.calls k _ _ l0 (-1) t372 _ ?side1 ?side2 A2.out).mono ?_); (case side1 => repeat (first|exact (Kd.V_reads' HO0.out).2.2|(with_reducible refine Kd.C_alloc ?_ _)|(with_reducible refine Kd.C_drewN ?_ _)|(with_reducible refine Kd.C_drew ?_))); (case side2 => exact (Kd.V_reads' HO0.out).2.1); rintro e w3 ⟨v373, rfl, ho0, hb⟩; refine ⟨_, rfl, ?_⟩; replace HO0 := aM (Kd.V_elder' (by (with_reducible repeat (first|apply Kd.V_alloc|apply Kd.V_drewN|apply Kd.V_drew)); exact HO0.out) (Kd.R_base ho0) hb); replace HO374 := aM (Kd.R_lower (Kd.R_newM (M := fun k_ => (w.heap.size ≤ k_)) ho0 (below_size (by repeat (first|(with_reducible first|exact HB.out|apply lA|apply lN|apply lD)|exact HB.out))) (fun k_ h_ => h_)) (below_size (by repeat (first|(with_reducible first|exact HB.out|apply lA|apply lN|apply lD)|exact HB.out)))); replace HB := aM (below_step (by repeat (first|(with_reducible first|exact HB.out|apply lA|apply lN|apply lD)|exact HB.out)) hb); (try clear hb); (try clear hb2); (try clear hk); (try clear hi); (try clear ho0)))
 go_loopg [4, 5] k (fun kq v4 v5 w' => ∃ (x4_1 : List (List (S64))) (x5_1 : Int), v5 = .int .i64 x5_1 ∧ Aside0 (emenderref23_blocks.l0 kq l0 t372 x4_1 x5_1 = some r) ∧ Aside0 (kq ≤ k) ∧ Aside0 (Kd.V k64 64 w' w.heap.size (fun k_ => (P0_ k_ ∨ w.heap.size ≤ k_) ∧ some k_ ≠ (v373 : Value).ownBlock ∧ some k_ ≠ (v4 : Value).ownBlock) (.slice A0 l0.length c0) l0) ∧ Aside0 (Kd.R (Kd.int .i64) 3 w' w.heap.size (fun k_ => (w.heap.size ≤ k_)) v373 t372) ∧ Aside0 (Kd.N (Kd.slice 64 k64) 22 w' w.heap.size (fun k_ => (P0_ k_ ∨ w.heap.size ≤ k_) ∧ some k_ ≠ (v373 : Value).ownBlock) v4 x4_1) ∧ Aside0 (Below w.heap.size w w'))
 case atStart => exact ⟨(([] : List (List (S64)))), (0), (by first|rfl|(simp; done)|(simp [*]; done)), H', ⟨Nat.le_refl _⟩, ⟨by (with_reducible repeat (first|apply Kd.V_alloc|apply Kd.V_drewN|apply Kd.V_drew)); exact Kd.V_mono HO0.out (fun _ hk => ⟨hk.1, ⟨hk.2, (by simp [Value.ownBlock])⟩⟩)⟩, ⟨by (with_reducible repeat (first|apply Kd.R_alloc|apply Kd.R_drewN|apply Kd.R_drew)); exact Kd.R_mono HO374.out (fun _ hk => hk.1)⟩, ⟨by first|exact Kd.S_nil _ _ _ _ _|exact Kd.N_nil _ _ _ _ _|exact Kd.V_nil _ _ _ _ _|exact Kd.Q_nil _ _ _ _ _|exact Kd.R_nil _ _ _ _ _⟩, ⟨by repeat (first|(with_reducible first|exact HB.out|apply lA|apply lN|apply lD)|exact HB.out)⟩⟩
 case round =>
  clear H'
  obtain ⟨x4_1, x5_1, rfl, HA, HK1, HO_0, HO_3, HO_4, HB⟩ := hrel
  cases gk with
 |zero => exact absurd HA.out (by simp [emenderref23_blocks.l0])
 |succ k1 =>
   have H := HA.out
   clear HA
   simp only [emenderref23_blocks.l0] at H
   by_cases c4 : x5_1 < (t372.length : Int)
   ·rw [if_pos c4] at H
    have c4b0 : decide (x5_1 < (t372.length : Int)) = true := decide_eq_true c4
    clear c4
    replace H := ifS H; obtain ⟨c5, H⟩ := H
    have c5b0 : decide (0 ≤ x5_1) = true := decide_eq_true c5
    clear c5
    replace H := Option.bind_eq_some_iff.mp H
    obtain ⟨t377, A60, H⟩ := H
    replace H : (if 0 ≤ (rd t372 x5_1) then (if (rd t372 x5_1) ≤ (wrap64 ((mx t377 (rd t372 x5_1)) + 1)) then (if (wrap64 ((mx t377 (rd t372 x5_1)) + 1)) ≤ (l0.length : Int) then (if x4_1.length < 5864062014805 then (emenderref23_blocks.l0 k1 l0 t372 (x4_1 ++ [((l0.take ((wrap64 ((mx t377 (rd t372 x5_1)) + 1)) : Int).toNat).drop ((rd t372 x5_1) : Int).toNat)]) (wrap64 (x5_1 + 1))) else (none)) else (none)) else (none)) else (none)) = some r := H
    have A6 := aM A60
    clear A60
    obtain ⟨ji7, hji7⟩ : ∃ j_ : Int, (mx t377 (rd t372 x5_1)) = j_ := ⟨_, rfl⟩
    replace H : (if 0 ≤ (rd t372 x5_1) then (if (rd t372 x5_1) ≤ (wrap64 ((ji7) + 1)) then (if (wrap64 ((ji7) + 1)) ≤ (l0.length : Int) then (if x4_1.length < 5864062014805 then (emenderref23_blocks.l0 k1 l0 t372 (x4_1 ++ [((l0.take ((wrap64 ((ji7) + 1)) : Int).toNat).drop ((rd t372 x5_1) : Int).toNat)]) (wrap64 (x5_1 + 1))) else (none)) else (none)) else (none)) else (none)) = some r := by first|(rw [hji7] at H; exact H)|(simp only [hji7] at H ⊢; exact H)
    (try rw [hji7] at A6)
    have hji7_ : (if t377 < (rd t372 x5_1) then (rd t372 x5_1) else t377) = ji7 := hji7
    replace H := ifS H; obtain ⟨c8, H⟩ := H
    have c8b0 := eq_true c8
    have c8b1 : decide (0 ≤ (rd t372 x5_1)) = true := decide_eq_true c8
    clear c8
    replace H := ifS H; obtain ⟨c9, H⟩ := H
    have c9b0 := eq_true c9
    have c9b1 : decide ((rd t372 x5_1) ≤ (wrap64 ((ji7) + 1))) = true := decide_eq_true c9
    replace H := ifS H; obtain ⟨c10, H⟩ := H
    have c10b0 := eq_true c10
    have c10b1 : decide ((wrap64 ((ji7) + 1)) ≤ (l0.length : Int)) = true := decide_eq_true c10
    obtain ⟨y379, hy379⟩ : ∃ y_ : List (S64), y_ = ((l0.take ((wrap64 ((ji7) + 1)) : Int).toNat).drop ((rd t372 x5_1) : Int).toNat) := ⟨_, rfl⟩
    replace H : (if x4_1.length < 5864062014805 then (emenderref23_blocks.l0 k1 l0 t372 (x4_1 ++ [y379]) (wrap64 (x5_1 + 1))) else (none)) = some r := by first|(rw [hy379]; with_reducible exact H)|(have H2_ := (Option.bind_some _ _).symm.trans H; rw [hy379]; with_reducible exact H2_)|(have H2_ := (Option.bind_some _ _).symm.trans H; with_reducible exact H2_)|with_reducible exact H|(rw [hy379]; exact H)|exact H
    have Ny379 := aM hy379
    clear hy379
    replace H := ifS H; obtain ⟨c11, H⟩ := H
    have LMc11 := aM c11
    clear c11
    obtain ⟨y384, hy384⟩ : ∃ y_ : List (List (S64)), y_ = (x4_1 ++ [y379]) := ⟨_, rfl⟩
    replace H : (emenderref23_blocks.l0 k1 l0 t372 y384 (wrap64 (x5_1 + 1))) = some r := by first|(rw [hy384]; with_reducible exact H)|(have H2_ := (Option.bind_some _ _).symm.trans H; rw [hy384]; with_reducible exact H2_)|(have H2_ := (Option.bind_some _ _).symm.trans H; with_reducible exact H2_)|with_reducible exact H|(rw [hy384]; exact H)|exact H
    have Ny384 := aM hy384
    clear hy384
    have H' := aM H
    clear H
    obtain ⟨Ao12, co12, eo12⟩ := Kd.R_slice HO_3.out
    subst eo12
    try go_wp2
    have n0_ := aM (Kd.V_drew HO_0.out)
    have n1_ := aM (Kd.R_drew HO_3.out)
    have n2_ := aM (Kd.N_drew HO_4.out)
    have n3_ := aM (lD HB.out)
    clear HO_0
    clear HO_3
    clear HO_4
    clear HB
    have HO_0 := n0_
    have HO_3 := n1_
    have HO_4 := n2_
    have HB := n3_
    clear n0_ n1_ n2_ n3_
    have p375 : 0 ≤ (x5_1 : Int) := of_decide_eq_true (by first|(with_reducible assumption)|assumption)
    have q375 : x5_1 < (t372.length : Int) := of_decide_eq_true (by first|(with_reducible assumption)|assumption)
    obtain ⟨ad375, e375, hx375_0⟩ := Kd.at_int (Kd.R_reads' HO_3.out).2.2 x5_1 p375 q375
    cases e375
    replace p375 := eq_true p375
    replace q375 := eq_true q375
    have p376 : 0 ≤ (x5_1 : Int) := of_decide_eq_true (by first|(with_reducible assumption)|assumption)
    have q376 : x5_1 < (t372.length : Int) := of_decide_eq_true (by first|(with_reducible assumption)|assumption)
    obtain ⟨ad376, e376, hx376_0⟩ := Kd.at_int (Kd.R_reads' HO_3.out).2.2 x5_1 p376 q376
    obtain rfl : ad375 = ad376 := (by injection e376)
    replace p376 := eq_true p376
    replace q376 := eq_true q376
    have p378 : 0 ≤ (x5_1 : Int) := of_decide_eq_true (by first|(with_reducible assumption)|assumption)
    have q378 : x5_1 < (t372.length : Int) := of_decide_eq_true (by first|(with_reducible assumption)|assumption)
    obtain ⟨ad378, e378, hx378_0⟩ := Kd.at_int (Kd.R_reads' HO_3.out).2.2 x5_1 p378 q378
    obtain rfl : ad375 = ad378 := (by injection e378)
    replace p378 := eq_true p378
    replace q378 := eq_true q378
    refine start_ (n := 22) (S := fun w' => w'.cell? (ad375.add (x5_1).toNat) = some (.int .i64 (rd t372 x5_1)) ∧ w'.cell? (ad375.add (x5_1).toNat) = some (.int .i64 (rd t372 x5_1)) ∧ w'.cell? (ad375.add (x5_1).toNat) = some (.int .i64 (rd t372 x5_1))) (ds := [19, 20]) #[false, false, false, false, false, false, false, false, false, false, false, false, false, false, false, false, false, false, false, false, false, false] (by kernel_rfl) rfl rfl ⟨hx375_0, hx376_0, hx378_0⟩ (fun hHeld => ?_); refine with_tabW emenderref23_blocks.tab6 emenderref23_blocks.bits6 (fun HT_ HW_ => ?_)
    generalize wr.drew = w13 at HO_0 HO_3 HO_4 HB hx375_0 hx376_0 hx378_0 hHeld ⊢
    refine pure_ (i := 0) (N := some 14) (v := ?_) (a' := ?_) #[true, false, false, false, false, false, false, false, false, false, false, false, false, false, false, false, false, false, false, false, false, false] rfl rfl (any_of HT_.out (by kernel_rfl)) (fun _ _ _ h => h) (Or.inl ⟨by rfl, ?_⟩) ?_ ?_
    rotate_left
    ·intro w'
     go_simp
     with_reducible rfl
    rotate_left
    ·simp only [Act.put, List.setIfInBounds_toArray, List.set_cons_zero, List.set_cons_succ, i64_w, i32_w]
     rfl
    refine pure_ (i := 1) (N := some 15) (v := ?_) (a' := ?_) #[true, true, false, false, false, false, false, false, false, false, false, false, false, false, false, false, false, false, false, false, false, false] rfl rfl (any_of HT_.out (by kernel_rfl)) (fun _ _ _ h => h) (Or.inl ⟨by rfl, ?_⟩) ?_ ?_
    rotate_left
    ·intro w'
     go_simp
     with_reducible rfl
    rotate_left
    ·simp only [Act.put, List.setIfInBounds_toArray, List.set_cons_zero, List.set_cons_succ, i64_w, i32_w]
     rfl
    refine pure_ (i := 2) (N := some 16) (v := ?_) (a' := ?_) #[true, true, true, false, false, false, false, false, false, false, false, false, false, false, false, false, false, false, false, false, false, false] rfl rfl (any_of HT_.out (by kernel_rfl)) (fun _ _ _ h => h) (Or.inl ⟨by rfl, ?_⟩) ?_ ?_
    rotate_left
    ·intro w'
     go_simp
     with_reducible rfl
    rotate_left
    ·simp only [Act.put, List.setIfInBounds_toArray, List.set_cons_zero, List.set_cons_succ, i64_w, i32_w]
     rfl
    refine pure_ (i := 3) (N := some 17) (v := ?_) (a' := ?_) #[true, true, true, true, false, false, false, false, false, false, false, false, false, false, false, false, false, false, false, false, false, false] rfl rfl (any_of HT_.out (by kernel_rfl)) (fun _ _ _ h => h) (Or.inl ⟨by rfl, ?_⟩) ?_ ?_
    rotate_left
    ·intro w'
     go_simp
     with_reducible rfl
    rotate_left
    ·simp only [Act.put, List.setIfInBounds_toArray, List.set_cons_zero, List.set_cons_succ, i64_w, i32_w]
     rfl
    refine pure_ (i := 4) (N := some 18) (v := ?_) (a' := ?_) #[true, true, true, true, true, false, false, false, false, false, false, false, false, false, false, false, false, false, false, false, false, false] rfl rfl (any_of HT_.out (by kernel_rfl)) (fun _ _ _ h => h) (Or.inl ⟨by rfl, ?_⟩) ?_ ?_
    rotate_left
    ·intro w'
     go_simp
     with_reducible rfl
    rotate_left
    ·simp only [Act.put, List.setIfInBounds_toArray, List.set_cons_zero, List.set_cons_succ, i64_w, i32_w]
     rfl
    refine pure_ (i := 6) (N := some 20) (v := ?_) (a' := ?_) #[true, true, true, true, true, false, true, false, false, false, false, false, false, false, false, false, false, false, false, false, false, false] rfl rfl (any_of HT_.out (by kernel_rfl)) (fun _ _ _ h => h) (Or.inl ⟨by rfl, ?_⟩) ?_ ?_
    rotate_left
    ·intro w'
     go_simp
     with_reducible rfl
    rotate_left
    ·simp only [Act.put, List.setIfInBounds_toArray, List.set_cons_zero, List.set_cons_succ, i64_w, i32_w]
     rfl
    refine pure_ (i := 7) (N := some 21) (v := ?_) (a' := ?_) #[true, true, true, true, true, false, true, true, false, false, false, false, false, false, false, false, false, false, false, false, false, false] rfl rfl (any_of HT_.out (by kernel_rfl)) (fun _ _ _ h => h) (Or.inl ⟨by rfl, ?_⟩) ?_ ?_
    rotate_left
    ·intro w'
     go_simp
     with_reducible rfl
    rotate_left
    ·simp only [Act.put, List.setIfInBounds_toArray, List.set_cons_zero, List.set_cons_succ, i64_w, i32_w]
     rfl
    refine pure_ (i := 8) (N := some 22) (v := ?_) (a' := ?_) #[true, true, true, true, true, false, true, true, true, false, false, false, false, false, false, false, false, false, false, false, false, false] rfl rfl (any_of HT_.out (by kernel_rfl)) (fun _ _ _ h => h) (Or.inl ⟨by rfl, ?_⟩) ?_ ?_
    rotate_left
    ·intro w'
     go_simp
     with_reducible rfl
    rotate_left
    ·simp only [Act.put, List.setIfInBounds_toArray, List.set_cons_zero, List.set_cons_succ, i64_w, i32_w]
     rfl
    refine pure_ (i := 9) (N := some 23) (v := ?_) (a' := ?_) #[true, true, true, true, true, false, true, true, true, true, false, false, false, false, false, false, false, false, false, false, false, false] rfl rfl (any_of HT_.out (by kernel_rfl)) (fun _ _ _ h => h) (Or.inl ⟨by rfl, ?_⟩) ?_ ?_
    rotate_left
    ·intro w'
     go_simp
     with_reducible rfl
    rotate_left
    ·simp only [Act.put, List.setIfInBounds_toArray, List.set_cons_zero, List.set_cons_succ, i64_w, i32_w]
     rfl
    refine pure_ (i := 12) (N := some 26) (v := ?_) (a' := ?_) #[true, true, true, true, true, false, true, true, true, true, false, false, true, false, false, false, false, false, false, false, false, false] rfl rfl (any_of HT_.out (by kernel_rfl)) (fun _ _ _ h => h) (Or.inl ⟨by rfl, ?_⟩) ?_ ?_
    rotate_left
    ·intro w'
     go_simp
     with_reducible rfl
    rotate_left
    ·simp only [Act.put, List.setIfInBounds_toArray, List.set_cons_zero, List.set_cons_succ, i64_w, i32_w]
     rfl
    refine pure_ (i := 13) (N := some 27) (v := ?_) (a' := ?_) #[true, true, true, true, true, false, true, true, true, true, false, false, true, true, false, false, false, false, false, false, false, false] rfl rfl (any_of HT_.out (by kernel_rfl)) (fun _ _ _ h => h) (Or.inl ⟨by rfl, ?_⟩) ?_ ?_
    rotate_left
    ·intro w'
     go_simp
     with_reducible rfl
    rotate_left
    ·simp only [Act.put, List.setIfInBounds_toArray, List.set_cons_zero, List.set_cons_succ, i64_w, i32_w]
     rfl
    refine pure_ (i := 14) (N := some 28) (v := ?_) (a' := ?_) #[true, true, true, true, true, false, true, true, true, true, false, false, true, true, true, false, false, false, false, false, false, false] rfl rfl (any_of HT_.out (by kernel_rfl)) (fun _ _ _ h => h) (Or.inl ⟨by rfl, ?_⟩) ?_ ?_
    rotate_left
    ·intro w'
     go_simp
     with_reducible rfl
    rotate_left
    ·simp only [Act.put, List.setIfInBounds_toArray, List.set_cons_zero, List.set_cons_succ, i64_w, i32_w]
     rfl
    refine take_ (i := 5) (N := some 19) (v := ?_) (a' := ?_) #[true, true, true, true, true, true, true, true, true, true, false, false, true, true, true, false, false, false, false, false, false, false] rfl rfl (take_ofW HT_.out HW_.out (by kernel_rfl)) (fun _ _ _ h => h) (Or.inl ⟨by rfl, ?_⟩) hHeld ?_ ?_
    rotate_left
    ·rintro w' ⟨s0, s1, s2⟩
     go_simp
     with_reducible rfl
    rotate_left
    ·simp only [Act.put, List.setIfInBounds_toArray, List.set_cons_zero, List.set_cons_succ, i64_w, i32_w]
     rfl
    refine take_ (i := 10) (N := some 24) (v := ?_) (a' := ?_) #[true, true, true, true, true, true, true, true, true, true, true, false, true, true, true, false, false, false, false, false, false, false] rfl rfl (take_ofW HT_.out HW_.out (by kernel_rfl)) (fun _ _ _ h => h) (Or.inl ⟨by rfl, ?_⟩) hHeld ?_ ?_
    rotate_left
    ·rintro w' ⟨s0, s1, s2⟩
     go_simp
     with_reducible rfl
    rotate_left
    ·simp only [Act.put, List.setIfInBounds_toArray, List.set_cons_zero, List.set_cons_succ, i64_w, i32_w]
     rfl
    refine take_ (i := 15) (N := some 29) (v := ?_) (a' := ?_) #[true, true, true, true, true, true, true, true, true, true, true, false, true, true, true, true, false, false, false, false, false, false] rfl rfl (take_ofW HT_.out HW_.out (by kernel_rfl)) (fun _ _ _ h => h) (Or.inl ⟨by rfl, ?_⟩) hHeld ?_ ?_
    rotate_left
    ·rintro w' ⟨s0, s1, s2⟩
     go_simp
     with_reducible rfl
    rotate_left
    ·simp only [Act.put, List.setIfInBounds_toArray, List.set_cons_zero, List.set_cons_succ, i64_w, i32_w]
     rfl
    refine one_ (i := 11) (N := some 25) #[true, true, true, true, true, true, true, true, true, true, true, true, true, true, true, true, false, false, false, false, false, false] rfl rfl (one_of HT_.out (by kernel_rfl)) (by decide) (fun K hK => ?_)
    refine goes_ Try.func57 (by kernel_rfl) rfl #[.slice A0 l0.length c0, .int .i64 (rd t372 x5_1)] (by rfl) rfl rfl (by (try simp only [List.map_toArray, List.map_cons, List.map_nil]); first|done|rfl|(simp only [List.length_drop, List.length_take]; rfl)) ?_
    with_reducible refine (emenderref04_Partner.calls k1 _ _ l0 (rd t372 x5_1) t377 _ ?side1 ?side2 A6.out).mono ?_
    (case side1 => repeat (first|exact (Kd.V_reads' HO_0.out).2.2|(with_reducible refine Kd.C_alloc ?_ _)|(with_reducible refine Kd.C_drewN ?_ _)|(with_reducible refine Kd.C_drew ?_)))
    (case side2 => exact (Kd.V_reads' HO_0.out).2.1)
    rintro e w14 ⟨rfl, hb⟩
    have HS0_ := (hb.cell (World.block_lt_of_cell? _ _ (hHeld.1))).trans (hHeld.1)
    have HS1_ := (hb.cell (World.block_lt_of_cell? _ _ (hHeld.2.1))).trans (hHeld.2.1)
    have HS2_ := (hb.cell (World.block_lt_of_cell? _ _ (hHeld.2.2))).trans (hHeld.2.2)
    refine ⟨_, rfl, ?_⟩
    have n0_ := aM (Kd.V_below (by (with_reducible repeat (first|apply Kd.V_alloc|apply Kd.V_drewN|apply Kd.V_drew)); exact HO_0.out) hb)
    have n1_ := aM (Kd.R_below (by (with_reducible repeat (first|apply Kd.R_alloc|apply Kd.R_drewN|apply Kd.R_drew)); exact HO_3.out) hb)
    have n2_ := aM (Kd.N_below (by (with_reducible repeat (first|apply Kd.N_alloc|apply Kd.N_drewN|apply Kd.N_drew)); exact HO_4.out) hb)
    have n3_ := aM (below_step (by repeat (first|(with_reducible first|exact HB.out|apply lA|apply lN|apply lD)|exact HB.out)) hb)
    clear HO_0
    clear HO_3
    clear HO_4
    clear HB
    have HO_0 := n0_
    have HO_3 := n1_
    have HO_4 := n2_
    have HB := n3_
    clear n0_ n1_ n2_ n3_
    have q15 : ((wrap64 ((ji7) + 1)) : Int) ≤ ((l0.length : Int) : Int) := of_decide_eq_true (by first|(with_reducible assumption)|assumption)
    obtain ⟨i015, hi015, _, hsz15, _⟩ := info_parts info64
    have hroom15 : l0.length ≤ c0 := (Kd.V_reads' HO_0.out).2.1
    have hC15 : Kd.F k64 _ _ A0 l0.length l0 := (Kd.V_at (base := w.heap.size) HO_0.out).2.2
    have ql15 : ((rd t372 x5_1) : Int) ≤ ((wrap64 ((ji7) + 1)) : Int) := of_decide_eq_true (by first|(with_reducible assumption)|assumption)
    have q015 : (0 : Int) ≤ ((rd t372 x5_1) : Int) := of_decide_eq_true (by first|(with_reducible assumption)|assumption)
    have hcut15 := cut_mid (P := Try.prog) 22 64 .i64 .i64 Try.underlying22 hi015 4 hsz15 A0 l0.length c0 (rd t372 x5_1) (wrap64 ((ji7) + 1)) q015 ql15 q15 hroom15
    have hr15 := Kd.F_mid (lo := ((rd t372 x5_1) : Int).toNat) (hi := ((wrap64 ((ji7) + 1)) : Int).toNat) (c := c0) hC15 (by omega) (by omega) hroom15
    obtain ⟨A15, hA15⟩ : ∃ A1, A1 = (if c0 = ((rd t372 x5_1) : Int).toNat then A0 else (A0 : Option Addr).map (·.add (((rd t372 x5_1) : Int).toNat * 4))) := ⟨_, rfl⟩
    obtain ⟨c15, hc15⟩ : ∃ c1, c1 = c0 - ((rd t372 x5_1) : Int).toNat := ⟨_, rfl⟩
    have hy15 : y379.length = ((wrap64 ((ji7) + 1)) : Int).toNat - ((rd t372 x5_1) : Int).toNat := (by rw [Ny379.out, List.length_drop, List.length_take] <;> omega)
    rw [show ((l0).take ((wrap64 ((ji7) + 1)) : Int).toNat).drop ((rd t372 x5_1) : Int).toNat = y379 from Ny379.out.symm] at hr15
    replace hr15 : Kd.F k64 _ _ A15 y379.length y379 := (by rw [hA15]; exact hr15)
    rw [← hy15, ← hA15, ← hc15] at hcut15
    have HO383 := aM (show Kd.V k64 64 _ w.heap.size _ (.slice A15 y379.length c15) y379 from Kd.V_mk (by rw [hy15, hc15]; exact Nat.sub_le_sub_right (Nat.le_trans (by omega) hroom15) _) hr15)
    have HC383 := aM (show y379.length ≤ c15 from by rw [hy15, hc15]; exact Nat.sub_le_sub_right (Nat.le_trans (by omega) hroom15) _)
    clear hr15 hC15 hroom15 hi015 hsz15 hc15
    have KY15 := aM hy15
    have KA15 := aM hA15
    clear hy15 hA15
    replace q15 := eq_true q15
    refine hK.out _ _ ⟨HS0_, HS1_, HS2_⟩ (fun hHeld => ?_)
    clear hK K
    refine norm_ (a' := ?_) ?_ ?_
    rotate_left
    ·show Act.put _ (some 25) _ = _
     simp only [Act.put, List.setIfInBounds_toArray, List.set_cons_zero, List.set_cons_succ, i64_w, i32_w]
     rfl
    refine pure_ (i := 16) (N := some 30) (v := ?_) (a' := ?_) #[true, true, true, true, true, true, true, true, true, true, true, true, true, true, true, true, true, false, false, false, false, false] rfl rfl (any_of HT_.out (by kernel_rfl)) (fun _ _ _ h => h) (Or.inl ⟨by rfl, ?_⟩) ?_ ?_
    rotate_left
    ·intro w'
     go_simp
     with_reducible rfl
    rotate_left
    ·simp only [Act.put, List.setIfInBounds_toArray, List.set_cons_zero, List.set_cons_succ, i64_w, i32_w]
     rfl
    refine pure_ (i := 17) (N := some 31) (v := ?_) (a' := ?_) #[true, true, true, true, true, true, true, true, true, true, true, true, true, true, true, true, true, true, false, false, false, false] rfl rfl (any_of HT_.out (by kernel_rfl)) (fun _ _ _ h => h) (Or.inl ⟨by rfl, ?_⟩) ?_ ?_
    rotate_left
    ·intro w'
     go_simp
     with_reducible rfl
    rotate_left
    ·simp only [Act.put, List.setIfInBounds_toArray, List.set_cons_zero, List.set_cons_succ, i64_w, i32_w]
     rfl
    refine pure_ (i := 18) (N := some 32) (v := ?_) (a' := ?_) #[true, true, true, true, true, true, true, true, true, true, true, true, true, true, true, true, true, true, true, false, false, false] rfl rfl (any_of HT_.out (by kernel_rfl)) (fun _ _ _ h => h) (Or.inl ⟨by rfl, ?_⟩) ?_ ?_
    rotate_left
    ·intro w'
     go_simp
     with_reducible rfl
    rotate_left
    ·simp only [Act.put, List.setIfInBounds_toArray, List.set_cons_zero, List.set_cons_succ, i64_w, i32_w]
     rfl
    refine last_ (i := 19) (N := some 33) #[true, true, true, true, true, true, true, true, true, true, true, true, true, true, true, true, true, true, true, true, false, false] rfl rfl (one_of HT_.out (by kernel_rfl)) (by decide) (fun K hK => ?_)
    refine value_ (w1 := ?_) (v := ?_) (by rfl) rfl ?_ ?_
    rotate_left 2
    ·go_simp
     constructor
     ·rfl
     ·rfl
    refine hK.out _ _ ?_
    clear hK K
    refine norm_ (a' := ?_) ?_ ?_
    rotate_left
    ·show Act.put _ (some 33) _ = _
     simp only [Act.put, List.setIfInBounds_toArray, List.set_cons_zero, List.set_cons_succ, i64_w, i32_w]
     rfl
    refine last_ (i := 20) (N := some 34) #[true, true, true, true, true, true, true, true, true, true, true, true, true, true, true, true, true, true, true, true, true, false] rfl rfl (one_of HT_.out (by kernel_rfl)) (by decide) (fun K hK => ?_)
    refine Kd.N_append_step (Kd.slice 64 k64) (w0 := w) w.heap.size (by rfl) (.tmp 14) (.tmp 33) 87 22 (.slice none 0 0) 24 rfl Try.underlying87 info22 rfl (by decide) (by omega) u4 x4_1 y379 [.slice A15 y379.length c15] (fun k_ => (P0_ k_ ∨ w.heap.size ≤ k_) ∧ some k_ ≠ (.slice (some ad375) t372.length co12 : Value).ownBlock) (fun k_ => ((fun k_ => (P0_ k_ ∨ w.heap.size ≤ k_) ∧ some k_ ≠ (.slice (some ad375) t372.length co12 : Value).ownBlock)) k_ ∧ some k_ ≠ (u4 : Value).ownBlock) rfl rfl ?aP (fun _ hk => hk) ?aF ?aO ?aB ?aS ?aL ?_
    (case aP => exact (Kd.FK_slice_mk (Kd.V_reads' (Kd.V_mono (ok' := (fun k_ => ((fun k_ => (P0_ k_ ∨ w.heap.size ≤ k_) ∧ some k_ ≠ (.slice (some ad375) t372.length co12 : Value).ownBlock)) k_ ∧ some k_ ≠ (u4 : Value).ownBlock)) (HO383.out) (fun k_ hk => ⟨⟨hk.1, hk.2.1⟩, hk.2.2⟩))).2.1 (Kd.V_F (Kd.V_mono (ok' := (fun k_ => ((fun k_ => (P0_ k_ ∨ w.heap.size ≤ k_) ∧ some k_ ≠ (.slice (some ad375) t372.length co12 : Value).ownBlock)) k_ ∧ some k_ ≠ (u4 : Value).ownBlock)) (HO383.out) (fun k_ hk => ⟨⟨hk.1, hk.2.1⟩, hk.2.2⟩)))))
    (case aB => exact (by repeat (first|(with_reducible first|exact HB.out|apply lA|apply lN|apply lD)|exact HB.out)))
    (case aF => exact (fun k_ hk => ⟨(.inr (Nat.le_trans (below_size (by repeat (first|(with_reducible first|exact HB.out|apply lA|apply lN|apply lD)|exact HB.out))) hk)), Kd.fresh' (Kd.R_lt (by (with_reducible repeat (first|apply Kd.R_alloc|apply Kd.R_drewN|apply Kd.R_drew)); exact HO_3.out)) k_ hk⟩))
    (case aO => exact (by (with_reducible repeat (first|apply Kd.N_alloc|apply Kd.N_drewN|apply Kd.N_drew)); exact HO_4.out))
    (case aS => exact (below_size (by repeat (first|(with_reducible first|exact HB.out|apply lA|apply lN|apply lD)|exact HB.out))))
    (case aL => have := LMc11.out; omega)
    intro v385 w16 ho hb hg hat
    rw [← Ny384.out] at ho
    have n0_ := aM (Kd.V_afterv (ok := (fun k_ => (P0_ k_ ∨ w.heap.size ≤ k_) ∧ some k_ ≠ (.slice (some ad375) t372.length co12 : Value).ownBlock)) (by (with_reducible repeat (first|apply Kd.V_alloc|apply Kd.V_drewN|apply Kd.V_drew)); exact Kd.V_mono HO_0.out (fun _ hk => ⟨⟨hk.1, hk.2.1⟩, hk.2.2⟩)) hg hat)
    have n1_ := aM (Kd.R_over' (by (with_reducible repeat (first|apply Kd.R_alloc|apply Kd.R_drewN|apply Kd.R_drew)); exact HO_3.out) (Kd.N_typed (by (with_reducible repeat (first|apply Kd.N_alloc|apply Kd.N_drewN|apply Kd.N_drew)); exact HO_4.out)) (by decide) hg)
    have n2_ := aM (Kd.V_afterv (ok := (fun k_ => (P0_ k_ ∨ w.heap.size ≤ k_) ∧ some k_ ≠ (.slice (some ad375) t372.length co12 : Value).ownBlock)) (by (with_reducible repeat (first|apply Kd.V_alloc|apply Kd.V_drewN|apply Kd.V_drew)); exact Kd.V_mono HO383.out (fun _ hk => ⟨⟨hk.1, hk.2.1⟩, hk.2.2⟩)) hg hat)
    have n3_ := aM (hb)
    have n4_ := aM (ho)
    clear HO_0
    clear HO_3
    clear HO383
    clear HB
    clear HO_4
    have HO_0 := n0_
    have HO_3 := n1_
    have HO383 := n2_
    have HB := n3_
    have HO386 := n4_
    clear n0_ n1_ n2_ n3_ n4_
    clear ho hb hg hat
    refine hK.out _ _ ?_
    clear hK K
    refine norm_ (a' := ?_) ?_ ?_
    rotate_left
    ·show Act.put _ (some 34) _ = _
     simp only [Act.put, List.setIfInBounds_toArray, List.set_cons_zero, List.set_cons_succ, i64_w, i32_w]
     rfl
    refine pure_ (i := 21) (N := some 4) (v := ?_) (a' := ?_) #[true, true, true, true, true, true, true, true, true, true, true, true, true, true, true, true, true, true, true, true, true, true] rfl rfl (any_of HT_.out (by kernel_rfl)) (fun _ _ _ h => h) (Or.inl ⟨by rfl, ?_⟩) ?_ ?_
    rotate_left
    ·intro w'
     go_simp
     with_reducible rfl
    rotate_left
    ·simp only [Act.put, List.setIfInBounds_toArray, List.set_cons_zero, List.set_cons_succ, i64_w, i32_w]
     rfl
    refine done_ (done_of HT_.out (by kernel_rfl)) ?_
    try go_wp2
    go_roundg k1
    case measure => have := HK1.out; omega
    case rel => exact ⟨(y384), (wrap64 (x5_1 + 1)), (by first|rfl|(simp; done)|(simp [*]; done)), H', ⟨by have := HK1.out; omega⟩, ⟨by (with_reducible repeat (first|apply Kd.V_alloc|apply Kd.V_drewN|apply Kd.V_drew)); exact Kd.V_mono HO_0.out (fun _ hk => ⟨hk.1.1, ⟨hk.1.2, hk.2⟩⟩)⟩, ⟨by (with_reducible repeat (first|apply Kd.R_alloc|apply Kd.R_drewN|apply Kd.R_drew)); exact HO_3.out⟩, ⟨by (with_reducible repeat (first|apply Kd.N_alloc|apply Kd.N_drewN|apply Kd.N_drew)); exact HO386.out⟩, ⟨by repeat (first|(with_reducible first|exact HB.out|apply lA|apply lN|apply lD)|exact HB.out)⟩⟩
   ·rw [if_neg c4] at H
    have c4b0 : decide (x5_1 < (t372.length : Int)) = false := decide_eq_false c4
    clear c4
    obtain rfl := Option.some.inj H
    obtain ⟨Ao17, co17, eo17⟩ := Kd.R_slice HO_3.out
    subst eo17
    go_wp2
    go_ret
    exact ⟨_, by first|rfl|(simp [errW_none, errW_some] <;> rfl)|(simp [*, errW_none, errW_some] <;> rfl), by (with_reducible repeat (first|apply Kd.N_alloc|apply Kd.N_drewN|apply Kd.N_drew)); exact Kd.N_mono HO_4.out (fun _ hk => hk.1), by repeat (first|(with_reducible first|exact HB.out|apply lA|apply lN|apply lD)|exact HB.out)⟩

end Go.Proofs.Ytjpmlggkhhoooaa.PDq
-- Written for this claim by a program (the kit's print, with hand-made contracts for what it does not take).
namespace Go.Proofs.Ytjpmlggkhhoooaa.PDq
open Go.RowKit Go.Proofs.YtjpmlggkhhoooaaW.PrintWords Go.Proofs.YtjpmlggkhhoooaaW.PrintLast Go.Proofs.YtjpmlggkhhoooaaW.PrintMore
attribute [local go_sem] max2_int min2_int max_two min_two max_three min_three max_four min_four   -- for this text's walks alone
set_option linter.unusedVariables false
set_option linter.unusedSimpArgs false

attribute [local go_sem high] eqA64
def emenderref04_Same.l0 : Nat → List (S64) → List (S64) → Int → Option (Bool)
|0, _, _, _ => none
|k + 1, x0, x1, x5 => if x5 < (x0.length : Int) then (if 0 ≤ x5 then (if x5 < (x1.length : Int) then (if (!(((rd_T64 x0 x5).f0) == ((rd_T64 x1 x5).f0)) || (!(((rd_T64 x0 x5).f1) == ((rd_T64 x1 x5).f1)) || (!(((rd_T64 x0 x5).f2) == ((rd_T64 x1 x5).f2)) || (!(((rd_T64 x0 x5).f3) == ((rd_T64 x1 x5).f3)))))) = true then (some false) else (emenderref04_Same.l0 k x0 x1 (wrap64 (x5 + 1)))) else (none)) else (none)) else (some true)
def emenderref04_Same.f (k : Nat) (l0 : List (S64)) (l1 : List (S64)) : Option (Bool) := if (l0.length : Int) = (l1.length : Int) then (emenderref04_Same.l0 k l0 l1 0) else (some false)
theorem emenderref04_Same.mono_l : ∀ k, (∀ y0 y1 y2, LeO (emenderref04_Same.l0 k y0 y1 y2) (emenderref04_Same.l0 (k + 1) y0 y1 y2))
|0 => fun _ _ _ r h => by simp [emenderref04_Same.l0] at h
|k + 1 => by
  have ih0 := emenderref04_Same.mono_l k
  ·intro y0 y1 y2
   unfold emenderref04_Same.l0
   repeat' first
  |(with_reducible exact ih0 _ _ _)
  |(with_reducible exact LeO.refl _)
  |(with_reducible exact LeO.none _)
  |(with_reducible refine LeO.ite ?_ ?_)
  |(with_reducible refine LeO.bind ?_ (fun _ => ?_))
  |exact ih0 _ _ _
  |exact LeO.none _
  |refine LeO.ite ?_ ?_
  |refine LeO.bind ?_ (fun _ => ?_)
theorem emenderref04_Same.mono : ∀ a0 a1 k, LeO (emenderref04_Same.f k a0 a1) (emenderref04_Same.f (k + 1) a0 a1) := by
 intro a0 a1 k
 have ih0 := emenderref04_Same.mono_l k
 unfold emenderref04_Same.f
 repeat' first
  |(with_reducible exact ih0 _ _ _)
  |(with_reducible exact LeO.refl _)
  |(with_reducible exact LeO.none _)
  |(with_reducible refine LeO.ite ?_ ?_)
  |(with_reducible refine LeO.bind ?_ (fun _ => ?_))
  |exact ih0 _ _ _
  |exact LeO.none _
  |refine LeO.ite ?_ ?_
  |refine LeO.bind ?_ (fun _ => ?_)
set_option maxHeartbeats 8000000 in
set_option maxRecDepth 100000 in
theorem emenderref04_Same.calls (k : Nat) (A0 : Option Addr) (c0 : Nat) (l0 : List (S64)) (A1 : Option Addr) (c1 : Nat) (l1 : List (S64)) (r : Bool) (w : World) (hr0 : Kd.C k64 w A0 l0.length l0) (hc0 : l0.length ≤ c0) (hr1 : Kd.C k64 w A1 l1.length l1) (hc1 : l1.length ≤ c1) (h : emenderref04_Same.f k l0 l1 = some r) :
  Calls Try.prog 47 #[.slice A0 l0.length c0, .slice A1 l1.length c1] w fun e w' => e = .returned (.bool r) ∧ Drawn0 w w' := by
 have hu64 := Try.underlying64
 have HR0 := aM hr0
 have HC0 := aM hc0
 clear hr0 hc0
 have HR1 := aM hr1
 have HC1 := aM hc1
 clear hr1 hc1
 have H : (if (l0.length : Int) = (l1.length : Int) then (emenderref04_Same.l0 k l0 l1 0) else (some false)) = some r := h
 clear h
 by_cases c3 : (l0.length : Int) = (l1.length : Int)
 ·rw [if_pos c3] at H
  have c3b0 : ((l0.length : Int) == (l1.length : Int)) = true := beq_iff_eq.mpr c3
  have c3b1 : ((l0.length : Int) != (l1.length : Int)) = false := bne_eq_false_iff_eq.mpr c3
  have c3b2 : (l0.length == l1.length) = true := by first|simpa using c3|(simp at c3 ⊢; omega)
  clear c3
  have H' := aM H
  clear H
  go_enter Try.func47, Try.ntmps47
  go_wp2
  repeat (go_quiet (fail); try go_wp2)
  go_loopg [5] k (fun kq v5 w' => ∃ (x5_1 : Int), v5 = .int .i64 x5_1 ∧ Aside0 (emenderref04_Same.l0 kq l0 l1 x5_1 = some r) ∧ Aside0 (kq ≤ k) ∧ Drawn0 w w')
  case atStart => exact ⟨(0), (by first|rfl|(simp; done)|(simp [*]; done)), H', ⟨Nat.le_refl _⟩, by repeat (first|exact Drawn0.refl _|apply Drawn0.step)⟩
  case round =>
   clear H'
   obtain ⟨x5_1, rfl, HA, HK1, ⟨m1, rfl⟩⟩ := hrel
   cases gk with
  |zero => exact absurd HA.out (by simp [emenderref04_Same.l0])
  |succ k1 =>
    have H := HA.out
    clear HA
    simp only [emenderref04_Same.l0] at H
    by_cases c4 : x5_1 < (l0.length : Int)
    ·rw [if_pos c4] at H
     have c4b0 : decide (x5_1 < (l0.length : Int)) = true := decide_eq_true c4
     clear c4
     replace H := ifS H; obtain ⟨c5, H⟩ := H
     have c5b0 : decide (0 ≤ x5_1) = true := decide_eq_true c5
     clear c5
     replace H := ifS H; obtain ⟨c6, H⟩ := H
     have c6b0 : decide (x5_1 < (l1.length : Int)) = true := decide_eq_true c6
     clear c6
     by_cases c7 : (!(((rd_T64 l0 x5_1).f0) == ((rd_T64 l1 x5_1).f0)) || (!(((rd_T64 l0 x5_1).f1) == ((rd_T64 l1 x5_1).f1)) || (!(((rd_T64 l0 x5_1).f2) == ((rd_T64 l1 x5_1).f2)) || (!(((rd_T64 l0 x5_1).f3) == ((rd_T64 l1 x5_1).f3)))))) = true
     ·rw [if_pos c7] at H
      have c7b0 : (!(((rd_T64 l0 x5_1).f0) == ((rd_T64 l1 x5_1).f0)) || (!(((rd_T64 l0 x5_1).f1) == ((rd_T64 l1 x5_1).f1)) || (!(((rd_T64 l0 x5_1).f2) == ((rd_T64 l1 x5_1).f2)) || (!(((rd_T64 l0 x5_1).f3) == ((rd_T64 l1 x5_1).f3)))))) = true := c7
      clear c7
      obtain rfl := Option.some.inj H
      have p387 : 0 ≤ (x5_1 : Int) := of_decide_eq_true (by first|(with_reducible assumption)|assumption)
      have q387 : x5_1 < (l0.length : Int) := of_decide_eq_true (by first|(with_reducible assumption)|assumption)
      obtain ⟨ad387, e387, hx387_0, hx387_1, hx387_2, hx387_3⟩ := at_T64 HR0.out x5_1 p387 q387
      cases e387
      replace p387 := eq_true p387
      replace q387 := eq_true q387
      have p388 : 0 ≤ (x5_1 : Int) := of_decide_eq_true (by first|(with_reducible assumption)|assumption)
      have q388 : x5_1 < (l1.length : Int) := of_decide_eq_true (by first|(with_reducible assumption)|assumption)
      obtain ⟨ad388, e388, hx388_0, hx388_1, hx388_2, hx388_3⟩ := at_T64 HR1.out x5_1 p388 q388
      cases e388
      replace p388 := eq_true p388
      replace q388 := eq_true q388
      go_wp2
      repeat (go_quiet (fail); try go_wp2)
      go_ret
      exact ⟨by first|rfl|(simp; done)|(simp [*]; done), by repeat (first|exact Drawn0.refl _|apply Drawn0.step)⟩
     ·rw [if_neg c7] at H
      have c7b0 : (!(((rd_T64 l0 x5_1).f0) == ((rd_T64 l1 x5_1).f0)) || (!(((rd_T64 l0 x5_1).f1) == ((rd_T64 l1 x5_1).f1)) || (!(((rd_T64 l0 x5_1).f2) == ((rd_T64 l1 x5_1).f2)) || (!(((rd_T64 l0 x5_1).f3) == ((rd_T64 l1 x5_1).f3)))))) = false := by simpa using c7
      clear c7
      have H' := aM H
      clear H
      have p387 : 0 ≤ (x5_1 : Int) := of_decide_eq_true (by first|(with_reducible assumption)|assumption)
      have q387 : x5_1 < (l0.length : Int) := of_decide_eq_true (by first|(with_reducible assumption)|assumption)
      obtain ⟨ad387, e387, hx387_0, hx387_1, hx387_2, hx387_3⟩ := at_T64 HR0.out x5_1 p387 q387
      cases e387
      replace p387 := eq_true p387
      replace q387 := eq_true q387
      have p388 : 0 ≤ (x5_1 : Int) := of_decide_eq_true (by first|(with_reducible assumption)|assumption)
      have q388 : x5_1 < (l1.length : Int) := of_decide_eq_true (by first|(with_reducible assumption)|assumption)
      obtain ⟨ad388, e388, hx388_0, hx388_1, hx388_2, hx388_3⟩ := at_T64 HR1.out x5_1 p388 q388
      cases e388
      replace p388 := eq_true p388
      replace q388 := eq_true q388
      go_wp2
      repeat (go_quiet (fail); try go_wp2)
      go_roundg k1
      case measure => have := HK1.out; omega
      case rel => exact ⟨(wrap64 (x5_1 + 1)), (by first|rfl|(simp; done)|(simp [*]; done)), H', ⟨by have := HK1.out; omega⟩, by repeat (first|exact Drawn0.refl _|apply Drawn0.step)⟩
    ·rw [if_neg c4] at H
     have c4b0 : decide (x5_1 < (l0.length : Int)) = false := decide_eq_false c4
     clear c4
     obtain rfl := Option.some.inj H
     go_wp2
     repeat (go_quiet (fail); try go_wp2)
     go_ret
     exact ⟨by first|rfl|(simp; done)|(simp [*]; done), by repeat (first|exact Drawn0.refl _|apply Drawn0.step)⟩
 ·rw [if_neg c3] at H
  have c3b0 : ((l0.length : Int) == (l1.length : Int)) = false := beq_eq_false_iff_ne.mpr c3
  have c3b1 : ((l0.length : Int) != (l1.length : Int)) = true := bne_iff_ne.mpr c3
  have c3b2 : (l0.length == l1.length) = false := by first|simpa using c3|(simp at c3 ⊢; omega)
  obtain rfl := Option.some.inj H
  go_enter Try.func47, Try.ntmps47
  go_wp2
  repeat (go_quiet (fail); try go_wp2)
  go_ret
  exact ⟨by first|rfl|(simp; done)|(simp [*]; done), by repeat (first|exact Drawn0.refl _|apply Drawn0.step)⟩

end Go.Proofs.Ytjpmlggkhhoooaa.PDq
