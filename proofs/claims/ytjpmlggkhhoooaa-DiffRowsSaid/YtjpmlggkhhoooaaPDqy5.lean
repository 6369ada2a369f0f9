-- Written for this claim by a program (printed texts under one roof).
import Derived.Test.YtjpmlggkhhoooaaPDqx0
import Derived.Test.YtjpmlggkhhoooaaPDqy4
-- Written for this claim by a program (the kit's print, with hand-made contracts for what it does not take).
namespace Go.Proofs.Ytjpmlggkhhoooaa.PDq
open Go.RowKit Go.Proofs.YtjpmlggkhhoooaaW.PrintWords Go.Proofs.YtjpmlggkhhoooaaW.PrintLast Go.Proofs.YtjpmlggkhhoooaaW.PrintMore
attribute [local go_sem] max2_int min2_int max_two min_two max_three min_three max_four min_four   -- for this text's walks alone
set_option linter.unusedVariables false
set_option linter.unusedSimpArgs false

mutual
def emenderref23_pairs.l0 : Nat → List (List Bool) → Int → Int → List (List Int) → List (S76) → Int → Int → Option ((List (S76)))
|0, _, _, _, _, _, _, _ => none
|k + 1, x0, x1, x2, x7, x8, x9, x10 => if 0 ≤ x9 then (if x9 < (x7.length : Int) then (if 0 ≤ x10 then (if x10 < ((rd_L10 x7 x9).length : Int) then (if (rd (rd_L10 x7 x9) x10) > 0 then (emenderref23_pairs.l1 k x0 x1 x2 x7 x8 x9 x10 x9 x10 false) else (some x8)) else (none)) else (none)) else (none)) else (none)
def emenderref23_pairs.l1 : Nat → List (List Bool) → Int → Int → List (List Int) → List (S76) → Int → Int → Int → Int → Bool → Option ((List (S76)))
|0, _, _, _, _, _, _, _, _, _, _ => none
|k + 1, x0, x1, x2, x7, x8, x9, x10, x11, x12, x13 => if x11 < x1 then (emenderref23_pairs.j2 k x0 x1 x2 x7 x8 x9 x10 x11 x12 x13 (!x13)) else (emenderref23_pairs.j2 k x0 x1 x2 x7 x8 x9 x10 x11 x12 x13 false)
def emenderref23_pairs.j2 : Nat → List (List Bool) → Int → Int → List (List Int) → List (S76) → Int → Int → Int → Int → Bool → Bool → Option ((List (S76)))
|0, _, _, _, _, _, _, _, _, _, _, _ => none
|k + 1, x0, x1, x2, x7, x8, x9, x10, x11, x12, x13, x35 => if x35 = true then (emenderref23_pairs.l2 k x0 x1 x2 x7 x8 x9 x10 x11 x10 x13) else (if x8.length < 8796093022208 then (emenderref23_pairs.l0 k x0 x1 x2 x7 (x8 ++ [(⟨wrap64 (x11 - 1), wrap64 (x12 - 1)⟩ : S76)]) x11 x12) else (none))
def emenderref23_pairs.l2 : Nat → List (List Bool) → Int → Int → List (List Int) → List (S76) → Int → Int → Int → Int → Bool → Option ((List (S76)))
|0, _, _, _, _, _, _, _, _, _, _ => none
|k + 1, x0, x1, x2, x7, x8, x9, x10, x11, x12, x13 => if x12 < x2 then (if x13 = true then (emenderref23_pairs.l1 k x0 x1 x2 x7 x8 x9 x10 (wrap64 (x11 + 1)) x12 x13) else (if 0 ≤ x11 then (if x11 < (x0.length : Int) then (if 0 ≤ x12 then (if x12 < ((rd_L12 x0 x11).length : Int) then (if rdOf false (rd_L12 x0 x11) x12 = true then (if 0 ≤ (wrap64 (x11 + 1)) then (if (wrap64 (x11 + 1)) < (x7.length : Int) then (if 0 ≤ (wrap64 (x12 + 1)) then (if (wrap64 (x12 + 1)) < ((rd_L10 x7 (wrap64 (x11 + 1))).length : Int) then (if 0 ≤ x9 then (if x9 < (x7.length : Int) then (if 0 ≤ x10 then (if x10 < ((rd_L10 x7 x9).length : Int) then (emenderref23_pairs.l2 k x0 x1 x2 x7 x8 x9 x10 x11 (wrap64 (x12 + 1)) ((wrap64 (1 + (rd (rd_L10 x7 (wrap64 (x11 + 1))) (wrap64 (x12 + 1))))) == (rd (rd_L10 x7 x9) x10))) else (none)) else (none)) else (none)) else (none)) else (none)) else (none)) else (none)) else (none)) else (emenderref23_pairs.l2 k x0 x1 x2 x7 x8 x9 x10 x11 (wrap64 (x12 + 1)) false)) else (none)) else (none)) else (none)) else (none))) else (emenderref23_pairs.l1 k x0 x1 x2 x7 x8 x9 x10 (wrap64 (x11 + 1)) x12 x13)
end
def emenderref23_pairs.f (k : Nat) (l0 : List (List Bool)) (a1 : Int) (a2 : Int) : Option ((List (S76))) := (emenderref23_table.f k l0 a1 a2).bind fun t315 => (emenderref23_pairs.l0 k l0 a1 a2 t315 ([] : List (S76)) 0 0)
theorem emenderref23_pairs.mono_l : ∀ k, (∀ y0 y1 y2 y3 y4 y5 y6, LeO (emenderref23_pairs.l0 k y0 y1 y2 y3 y4 y5 y6) (emenderref23_pairs.l0 (k + 1) y0 y1 y2 y3 y4 y5 y6)) ∧ (∀ y0 y1 y2 y3 y4 y5 y6 y7 y8 y9, LeO (emenderref23_pairs.l1 k y0 y1 y2 y3 y4 y5 y6 y7 y8 y9) (emenderref23_pairs.l1 (k + 1) y0 y1 y2 y3 y4 y5 y6 y7 y8 y9)) ∧ (∀ y0 y1 y2 y3 y4 y5 y6 y7 y8 y9 y10, LeO (emenderref23_pairs.j2 k y0 y1 y2 y3 y4 y5 y6 y7 y8 y9 y10) (emenderref23_pairs.j2 (k + 1) y0 y1 y2 y3 y4 y5 y6 y7 y8 y9 y10)) ∧ (∀ y0 y1 y2 y3 y4 y5 y6 y7 y8 y9, LeO (emenderref23_pairs.l2 k y0 y1 y2 y3 y4 y5 y6 y7 y8 y9) (emenderref23_pairs.l2 (k + 1) y0 y1 y2 y3 y4 y5 y6 y7 y8 y9))
|0 => ⟨fun _ _ _ _ _ _ _ r h => by simp [emenderref23_pairs.l0] at h, fun _ _ _ _ _ _ _ _ _ _ r h => by simp [emenderref23_pairs.l1] at h, fun _ _ _ _ _ _ _ _ _ _ _ r h => by simp [emenderref23_pairs.j2] at h, fun _ _ _ _ _ _ _ _ _ _ r h => by simp [emenderref23_pairs.l2] at h⟩
|k + 1 => by
  obtain ⟨ih0, ih1, ih2, ih3⟩ := emenderref23_pairs.mono_l k
  refine ⟨?_, ?_, ?_, ?_⟩
  ·intro y0 y1 y2 y3 y4 y5 y6
   unfold emenderref23_pairs.l0
   repeat' first
  |(with_reducible exact ih0 _ _ _ _ _ _ _)
  |(with_reducible exact ih1 _ _ _ _ _ _ _ _ _ _)
  |(with_reducible exact ih2 _ _ _ _ _ _ _ _ _ _ _)
  |(with_reducible exact ih3 _ _ _ _ _ _ _ _ _ _)
  |(with_reducible exact emenderref23_table.mono _ _ _ _)
  |(with_reducible exact LeO.refl _)
  |(with_reducible exact LeO.none _)
  |(with_reducible refine LeO.ite ?_ ?_)
  |(with_reducible refine LeO.bind ?_ (fun _ => ?_))
  |exact ih0 _ _ _ _ _ _ _
  |exact ih1 _ _ _ _ _ _ _ _ _ _
  |exact ih2 _ _ _ _ _ _ _ _ _ _ _
  |exact ih3 _ _ _ _ _ _ _ _ _ _
  |exact emenderref23_table.mono _ _ _ _
  |exact LeO.none _
  |refine LeO.ite ?_ ?_
  |refine LeO.bind ?_ (fun _ => ?_)
  ·intro y0 y1 y2 y3 y4 y5 y6 y7 y8 y9
   unfold emenderref23_pairs.l1
   repeat' first
  |(with_reducible exact ih0 _ _ _ _ _ _ _)
  |(with_reducible exact ih1 _ _ _ _ _ _ _ _ _ _)
  |(with_reducible exact ih2 _ _ _ _ _ _ _ _ _ _ _)
  |(with_reducible exact ih3 _ _ _ _ _ _ _ _ _ _)
  |(with_reducible exact emenderref23_table.mono _ _ _ _)
  |(with_reducible exact LeO.refl _)
  |(with_reducible exact LeO.none _)
  |(with_reducible refine LeO.ite ?_ ?_)
  |(with_reducible refine LeO.bind ?_ (fun _ => ?_))
  |exact ih0 _ _ _ _ _ _ _
  |exact ih1 _ _ _ _ _ _ _ _ _ _
  |exact ih2 _ _ _ _ _ _ _ _ _ _ _
  |exact ih3 _ _ _ _ _ _ _ _ _ _
  |exact emenderref23_table.mono _ _ _ _
  |exact LeO.none _
  |refine LeO.ite ?_ ?_
  |refine LeO.bind ?_ (fun _ => ?_)
  ·intro y0 y1 y2 y3 y4 y5 y6 y7 y8 y9 y10
   unfold emenderref23_pairs.j2
   repeat' first
  |(with_reducible exact ih0 _ _ _ _ _ _ _)
  |(with_reducible exact ih1 _ _ _ _ _ _ _ _ _ _)
  |(with_reducible exact ih2 _ _ _ _ _ _ _ _ _ _ _)
  |(with_reducible exact ih3 _ _ _ _ _ _ _ _ _ _)
  |(with_reducible exact emenderref23_table.mono _ _ _ _)
  |(with_reducible exact LeO.refl _)
  |(with_reducible exact LeO.none _)
  |(with_reducible refine LeO.ite ?_ ?_)
  |(with_reducible refine LeO.bind ?_ (fun _ => ?_))
  |exact ih0 _ _ _ _ _ _ _
  |exact ih1 _ _ _ _ _ _ _ _ _ _
  |exact ih2 _ _ _ _ _ _ _ _ _ _ _
  |exact ih3 _ _ _ _ _ _ _ _ _ _
  |exact emenderref23_table.mono _ _ _ _
  |exact LeO.none _
  |refine LeO.ite ?_ ?_
  |refine LeO.bind ?_ (fun _ => ?_)
  ·intro y0 y1 y2 y3 y4 y5 y6 y7 y8 y9
   unfold emenderref23_pairs.l2
   repeat' first
  |(with_reducible exact ih0 _ _ _ _ _ _ _)
  |(with_reducible exact ih1 _ _ _ _ _ _ _ _ _ _)
  |(with_reducible exact ih2 _ _ _ _ _ _ _ _ _ _ _)
  |(with_reducible exact ih3 _ _ _ _ _ _ _ _ _ _)
  |(with_reducible exact emenderref23_table.mono _ _ _ _)
  |(with_reducible exact LeO.refl _)
  |(with_reducible exact LeO.none _)
  |(with_reducible refine LeO.ite ?_ ?_)
  |(with_reducible refine LeO.bind ?_ (fun _ => ?_))
  |exact ih0 _ _ _ _ _ _ _
  |exact ih1 _ _ _ _ _ _ _ _ _ _
  |exact ih2 _ _ _ _ _ _ _ _ _ _ _
  |exact ih3 _ _ _ _ _ _ _ _ _ _
  |exact emenderref23_table.mono _ _ _ _
  |exact LeO.none _
  |refine LeO.ite ?_ ?_
  |refine LeO.bind ?_ (fun _ => ?_)
theorem emenderref23_pairs.mono : ∀ a0 a1 a2 k, LeO (emenderref23_pairs.f k a0 a1 a2) (emenderref23_pairs.f (k + 1) a0 a1 a2) := by
 intro a0 a1 a2 k
 obtain ⟨ih0, ih1, ih2, ih3⟩ := emenderref23_pairs.mono_l k
 unfold emenderref23_pairs.f
 repeat' first
  |(with_reducible exact ih0 _ _ _ _ _ _ _)
  |(with_reducible exact ih1 _ _ _ _ _ _ _ _ _ _)
  |(with_reducible exact ih2 _ _ _ _ _ _ _ _ _ _ _)
  |(with_reducible exact ih3 _ _ _ _ _ _ _ _ _ _)
  |(with_reducible exact emenderref23_table.mono _ _ _ _)
  |(with_reducible exact LeO.refl _)
  |(with_reducible exact LeO.none _)
  |(with_reducible refine LeO.ite ?_ ?_)
  |(with_reducible refine LeO.bind ?_ (fun _ => ?_))
  |exact ih0 _ _ _ _ _ _ _
  |exact ih1 _ _ _ _ _ _ _ _ _ _
  |exact ih2 _ _ _ _ _ _ _ _ _ _ _
  |exact ih3 _ _ _ _ _ _ _ _ _ _
  |exact emenderref23_table.mono _ _ _ _
  |exact LeO.none _
  |refine LeO.ite ?_ ?_
  |refine LeO.bind ?_ (fun _ => ?_)
set_option maxHeartbeats 8000000 in
set_option maxRecDepth 100000 in
theorem emenderref23_pairs.calls (k : Nat) (A0 : Option Addr) (c0 : Nat) (l0 : List (List Bool)) (a1 : Int) (a2 : Int) (r : List (S76)) (w : World) (hr0 : Kd.C (Kd.slice 4 Kd.bool) w A0 l0.length l0) (hc0 : l0.length ≤ c0) (h : emenderref23_pairs.f k l0 a1 a2 = some r) :
  Calls Try.prog 32 #[.slice A0 l0.length c0, .int .i64 a1, .int .i64 a2] w fun e w' => ∃ v0_ : Value, e = .returned (v0_) ∧ Kd.R k76 76 w' w.heap.size (fun _ => True) v0_ r ∧ Below w.heap.size w w' := by
 have hu76 := Try.underlying76
 have HR0 := aM hr0
 have HC0 := aM hc0
 clear hr0 hc0
 have HB := aM (Below.refl w.heap.size w)
 have H : ((emenderref23_table.f k l0 a1 a2).bind fun t315 => (emenderref23_pairs.l0 k l0 a1 a2 t315 ([] : List (S76)) 0 0)) = some r := h
 clear h
 replace H := Option.bind_eq_some_iff.mp H
 obtain ⟨t315, A40, H⟩ := H
 replace H : (emenderref23_pairs.l0 k l0 a1 a2 t315 ([] : List (S76)) 0 0) = some r := H
 have A4 := aM A40
 clear A40
 have H' := aM H
 clear H
 go_enter Try.func32, Try.ntmps32
 go_wp2_with (first|(go_at_call 49; (with_reducible refine (emenderref23_table.calls k _ _ l0 a1 a2 t315 _ ?side1 ?side2 A4.out).mono ?_); (case side1 => repeat (first|exact HR0.out|(with_reducible refine Kd.C_alloc ?_ _)|(with_reducible refine Kd.C_drewN ?_ _)|(with_reducible refine Kd.C_drew ?_))); (case side2 => exact HC0.out); rintro e w5 ⟨v316, rfl, ho0, hb⟩; replace HO317 := aM (Kd.S_lower ho0 (below_size (by repeat (first|(with_reducible first|exact HB.out|apply lA|apply lN|apply lD)|exact HB.out)))); replace HB := aM (below_step (by repeat (first|(with_reducible first|exact HB.out|apply lA|apply lN|apply lD)|exact HB.out)) hb); (try clear hb); (try clear hb2); (try clear hk); (try clear hi); (try clear ho0)))
 repeat (go_quiet (first|(go_at_call 49; (with_reducible refine (emenderref23_table.calls k _ _ l0 a1 a2 t315 _ ?side1 ?side2 A4.out).mono ?_); (case side1 => repeat (first|exact HR0.out|(with_reducible refine Kd.C_alloc ?_ _)|(with_reducible refine Kd.C_drewN ?_ _)|(with_reducible refine Kd.C_drew ?_))); (case side2 => exact HC0.out); rintro e w5 ⟨v316, rfl, ho0, hb⟩; replace HO317 := aM (Kd.S_lower ho0 (below_size (by repeat (first|(with_reducible first|exact HB.out|apply lA|apply lN|apply lD)|exact HB.out)))); replace HB := aM (below_step (by repeat (first|(with_reducible first|exact HB.out|apply lA|apply lN|apply lD)|exact HB.out)) hb); (try clear hb); (try clear hb2); (try clear hk); (try clear hi); (try clear ho0))); try go_wp2_with (first|(go_at_call 49; (with_reducible refine (emenderref23_table.calls k _ _ l0 a1 a2 t315 _ ?side1 ?side2 A4.out).mono ?_); (case side1 => repeat (first|exact HR0.out|(with_reducible refine Kd.C_alloc ?_ _)|(with_reducible refine Kd.C_drewN ?_ _)|(with_reducible refine Kd.C_drew ?_))); (case side2 => exact HC0.out); rintro e w5 ⟨v316, rfl, ho0, hb⟩; replace HO317 := aM (Kd.S_lower ho0 (below_size (by repeat (first|(with_reducible first|exact HB.out|apply lA|apply lN|apply lD)|exact HB.out)))); replace HB := aM (below_step (by repeat (first|(with_reducible first|exact HB.out|apply lA|apply lN|apply lD)|exact HB.out)) hb); (try clear hb); (try clear hb2); (try clear hk); (try clear hi); (try clear ho0))))
 go_loopg [8, 9, 10] k (fun kq v8 v9 v10 w' => ∃ (x8_1 : List (S76)) (x9_1 : Int) (x10_1 : Int), v9 = .int .i64 x9_1 ∧ v10 = .int .i64 x10_1 ∧ Aside0 (emenderref23_pairs.l0 kq l0 a1 a2 t315 x8_1 x9_1 x10_1 = some r) ∧ Aside0 (kq ≤ k) ∧ Aside0 (Kd.S (Kd.slice 3 (Kd.int .i64)) 52 w' w.heap.size (fun _ => True) v316 t315) ∧ Aside0 (Kd.R k76 76 w' w.heap.size (fun _ => True) v8 x8_1) ∧ Aside0 (Below w.heap.size w w'))
 case atStart => exact ⟨(([] : List (S76))), (0), (0), (by first|rfl|(simp; done)|(simp [*]; done)), (by first|rfl|(simp; done)|(simp [*]; done)), H', ⟨Nat.le_refl _⟩, ⟨by (with_reducible repeat (first|apply Kd.S_alloc|apply Kd.S_drewN|apply Kd.S_drew)); exact HO317.out⟩, ⟨by first|exact Kd.R_nil _ _ _ _ _|exact Kd.N_nil _ _ _ _ _|exact Kd.V_nil _ _ _ _ _|exact Kd.Q_nil _ _ _ _ _|exact Kd.S_nil _ _ _ _ _⟩, ⟨by repeat (first|(with_reducible first|exact HB.out|apply lA|apply lN|apply lD)|exact HB.out)⟩⟩
 case round =>
  clear H'
  obtain ⟨x8_1, x9_1, x10_1, rfl, rfl, HA, HK1, HO_7, HO_8, HB⟩ := hrel
  cases gk with
 |zero => exact absurd HA.out (by simp [emenderref23_pairs.l0])
 |succ k1 =>
   have H := HA.out
   clear HA
   simp only [emenderref23_pairs.l0] at H
   replace H := ifS H; obtain ⟨c6, H⟩ := H
   have c6b0 : decide (0 ≤ x9_1) = true := decide_eq_true c6
   clear c6
   replace H := ifS H; obtain ⟨c7, H⟩ := H
   have c7b0 : decide (x9_1 < (t315.length : Int)) = true := decide_eq_true c7
   clear c7
   replace H := ifS H; obtain ⟨c8, H⟩ := H
   have c8b0 : decide (0 ≤ x10_1) = true := decide_eq_true c8
   clear c8
   replace H := ifS H; obtain ⟨c9, H⟩ := H
   have c9b0 : decide (x10_1 < ((rd_L10 t315 x9_1).length : Int)) = true := decide_eq_true c9
   clear c9
   by_cases c10 : (rd (rd_L10 t315 x9_1) x10_1) > 0
   ·rw [if_pos c10] at H
    have c10b0 : decide (0 < (rd (rd_L10 t315 x9_1) x10_1)) = true := decide_eq_true c10
    clear c10
    have H' := aM H
    clear H
    obtain ⟨Ao11, co11, eo11⟩ := Kd.S_slice HO_7.out
    subst eo11
    have p318 : 0 ≤ (x9_1 : Int) := of_decide_eq_true (by first|(with_reducible assumption)|assumption)
    have q318 : x9_1 < (t315.length : Int) := of_decide_eq_true (by first|(with_reducible assumption)|assumption)
    obtain ⟨ad318, A318_0, c318_0, e318, hx318_0, hl318_0, hi318_0⟩ := at_L10 (Kd.S_reads' HO_7.out).2.2 x9_1 p318 q318
    cases e318
    obtain ⟨ce318, hce318, hMe318, hcc318⟩ := Kd.S_get HO_7.out [] x9_1 p318 (by first|exact q318|exact of_decide_eq_true (by first|(with_reducible assumption)|assumption)|(have e_ := (Kd.S_reads' HO_7.out).1; omega))
    obtain ⟨ve318_0, rfl, ge318_0⟩ := hMe318
    have hv318_0 := hcc318 0 _ rfl
    rw [Nat.add_zero, show ((Kd.slice 3 (Kd.int .i64))).sz = 1 from rfl, Nat.mul_one] at hv318_0
    replace hv318_0 := Option.some.inj (hv318_0.symm.trans hx318_0)
    rw [hv318_0] at ge318_0
    have HL318_0 := aM (show Kd.R (Kd.int .i64) 3 _ _ _ _ (rd_L10 t315 x9_1) from ge318_0)
    clear hv318_0 ge318_0
    clear hcc318 hce318
    have HR318_0 := aM hi318_0
    have HC318_0 := aM hl318_0
    clear hi318_0 hl318_0
    replace p318 := eq_true p318
    replace q318 := eq_true q318
    have p319 : 0 ≤ (x10_1 : Int) := of_decide_eq_true (by first|(with_reducible assumption)|assumption)
    have q319 : x10_1 < ((rd_L10 t315 x9_1).length : Int) := of_decide_eq_true (by first|(with_reducible assumption)|assumption)
    obtain ⟨ad319, e319, hx319_0⟩ := Kd.at_int (by repeat (first|(with_reducible exact HR318_0.out)|(with_reducible refine Kd.C_alloc ?_ _)|(with_reducible refine Kd.C_drewN ?_ _)|(with_reducible refine Kd.C_drew ?_)|exact HR318_0.out)) x10_1 p319 q319
    cases e319
    replace p319 := eq_true p319
    replace q319 := eq_true q319
    go_wp2
    repeat (go_quiet (fail); try go_wp2)
    go_loopg [11, 12, 13] k1 (fun kq v11 v12 v13 w' => ∃ (x11_2 : Int) (x12_2 : Int) (x13_2 : Bool), v11 = .int .i64 x11_2 ∧ v12 = .int .i64 x12_2 ∧ v13 = .bool x13_2 ∧ Aside0 (emenderref23_pairs.l1 kq l0 a1 a2 t315 x8_1 x9_1 x10_1 x11_2 x12_2 x13_2 = some r) ∧ Aside0 (kq ≤ k1) ∧ Aside0 (Kd.S (Kd.slice 3 (Kd.int .i64)) 52 w' w.heap.size (fun _ => True) (.slice (some ad318) t315.length co11) t315) ∧ Aside0 (Kd.R k76 76 w' w.heap.size (fun _ => True) u8 x8_1) ∧ Aside0 (Kd.C (Kd.int .i64) w' (some ad319) (rd_L10 t315 x9_1).length (rd_L10 t315 x9_1)) ∧ Aside0 (Below w.heap.size w w'))
    case atStart => exact ⟨(x9_1), (x10_1), (false), (by first|rfl|(simp; done)|(simp [*]; done)), (by first|rfl|(simp; done)|(simp [*]; done)), (by first|rfl|(simp; done)|(simp [*]; done)), H', ⟨Nat.le_refl _⟩, ⟨by (with_reducible repeat (first|apply Kd.S_alloc|apply Kd.S_drewN|apply Kd.S_drew)); exact HO_7.out⟩, ⟨by (with_reducible repeat (first|apply Kd.R_alloc|apply Kd.R_drewN|apply Kd.R_drew)); exact HO_8.out⟩, ⟨by repeat (first|(with_reducible exact HR318_0.out)|(with_reducible refine Kd.C_alloc ?_ _)|(with_reducible refine Kd.C_drewN ?_ _)|(with_reducible refine Kd.C_drew ?_)|exact HR318_0.out)⟩, ⟨by repeat (first|(with_reducible first|exact HB.out|apply lA|apply lN|apply lD)|exact HB.out)⟩⟩
    case round =>
     clear H'
     obtain ⟨x11_2, x12_2, x13_2, rfl, rfl, rfl, HA, HK2, HO_7, HO_8, HR318_0, HB⟩ := hrel
     cases gk with
    |zero => exact absurd HA.out (by simp [emenderref23_pairs.l1])
    |succ k2 =>
      have H := HA.out
      clear HA
      simp only [emenderref23_pairs.l1] at H
      have HC12 := aM H
      clear H
      go_upto_region 10 with (fail)
      repeat (go_quiet (fail); go_upto_region 10 with (fail))
      go_cut [35] (fun v35 wc => ∃ (kq : Nat) (x35_11 : Bool), v35 = .bool x35_11 ∧ Aside0 (emenderref23_pairs.j2 kq l0 a1 a2 t315 x8_1 x9_1 x10_1 x11_2 x12_2 x13_2 x35_11 = some r) ∧ Aside0 (kq ≤ k2) ∧ Aside0 (Kd.S (Kd.slice 3 (Kd.int .i64)) 52 wc w.heap.size (fun _ => True) (.slice (some ad318) t315.length co11) t315) ∧ Aside0 (Kd.R k76 76 wc w.heap.size (fun _ => True) u8 x8_1) ∧ Aside0 (Kd.C (Kd.int .i64) wc (some ad319) (rd_L10 t315 x9_1).length (rd_L10 t315 x9_1)) ∧ Aside0 (Below w.heap.size w wc))
      case first =>
       have H := HC12.out
       clear HC12
       by_cases c13 : x11_2 < a1
       ·rw [if_pos c13] at H
        have c13b0 : decide (x11_2 < a1) = true := decide_eq_true c13
        clear c13
        (first|rw [c13b0]|(simp only [i64_w, i32_w]; rw [c13b0])|skip)
        have H' := aM H
        clear H
        go_wp2
        repeat (go_quiet (fail); try go_wp2)
        go_meet
        case rel => exact ⟨_, (!x13_2), (by first|rfl|(simp; done)|(simp [*]; done)), H', ⟨by have := HK1.out; have := HK2.out; first|omega|exact Nat.le_refl _⟩, ⟨by (with_reducible repeat (first|apply Kd.S_alloc|apply Kd.S_drewN|apply Kd.S_drew)); exact HO_7.out⟩, ⟨by (with_reducible repeat (first|apply Kd.R_alloc|apply Kd.R_drewN|apply Kd.R_drew)); exact HO_8.out⟩, ⟨by repeat (first|(with_reducible exact HR318_0.out)|(with_reducible refine Kd.C_alloc ?_ _)|(with_reducible refine Kd.C_drewN ?_ _)|(with_reducible refine Kd.C_drew ?_)|exact HR318_0.out)⟩, ⟨by repeat (first|(with_reducible first|exact HB.out|apply lA|apply lN|apply lD)|exact HB.out)⟩⟩
       ·rw [if_neg c13] at H
        have c13b0 : decide (x11_2 < a1) = false := decide_eq_false c13
        clear c13
        (first|rw [c13b0]|(simp only [i64_w, i32_w]; rw [c13b0])|skip)
        have H' := aM H
        clear H
        go_wp2
        repeat (go_quiet (fail); try go_wp2)
        go_meet
        case rel => exact ⟨_, (false), (by first|rfl|(simp; done)|(simp [*]; done)), H', ⟨by have := HK1.out; have := HK2.out; first|omega|exact Nat.le_refl _⟩, ⟨by (with_reducible repeat (first|apply Kd.S_alloc|apply Kd.S_drewN|apply Kd.S_drew)); exact HO_7.out⟩, ⟨by (with_reducible repeat (first|apply Kd.R_alloc|apply Kd.R_drewN|apply Kd.R_drew)); exact HO_8.out⟩, ⟨by repeat (first|(with_reducible exact HR318_0.out)|(with_reducible refine Kd.C_alloc ?_ _)|(with_reducible refine Kd.C_drewN ?_ _)|(with_reducible refine Kd.C_drew ?_)|exact HR318_0.out)⟩, ⟨by repeat (first|(with_reducible first|exact HB.out|apply lA|apply lN|apply lD)|exact HB.out)⟩⟩
      case rest =>
       clear HC12
       obtain ⟨kq, x35_11, rfl, HA, HJ11, HO_7, HO_8, HR318_0, HB⟩ := hcut
       cases kq with
      |zero => exact absurd HA.out (by simp [emenderref23_pairs.j2])
      |succ kj11 =>
        have H := HA.out
        clear HA
        simp only [emenderref23_pairs.j2] at H
        by_cases c14 : x35_11 = true
        ·subst c14
         have H1 : (emenderref23_pairs.l2 kj11 l0 a1 a2 t315 x8_1 x9_1 x10_1 x11_2 x10_1 x13_2) = some r := by rw [if_pos rfl] at H; exact H
         clear H
         have H := H1
         clear H1
         have H' := aM H
         clear H
         go_wp2
         repeat (go_quiet (fail); try go_wp2)
         go_loopg [12, 13] kj11 (fun kq v12 v13 w' => ∃ (x12_4 : Int) (x13_4 : Bool), v12 = .int .i64 x12_4 ∧ v13 = .bool x13_4 ∧ Aside0 (emenderref23_pairs.l2 kq l0 a1 a2 t315 x8_1 x9_1 x10_1 x11_2 x12_4 x13_4 = some r) ∧ Aside0 (kq ≤ kj11) ∧ Aside0 (Kd.S (Kd.slice 3 (Kd.int .i64)) 52 w' w.heap.size (fun _ => True) (.slice (some ad318) t315.length co11) t315) ∧ Aside0 (Kd.R k76 76 w' w.heap.size (fun _ => True) u8 x8_1) ∧ Aside0 (Kd.C (Kd.int .i64) w' (some ad319) (rd_L10 t315 x9_1).length (rd_L10 t315 x9_1)) ∧ Aside0 (Below w.heap.size w w'))
         case atStart => exact ⟨(x10_1), (x13_2), (by first|rfl|(simp; done)|(simp [*]; done)), (by first|rfl|(simp; done)|(simp [*]; done)), H', ⟨Nat.le_refl _⟩, ⟨by (with_reducible repeat (first|apply Kd.S_alloc|apply Kd.S_drewN|apply Kd.S_drew)); exact HO_7.out⟩, ⟨by (with_reducible repeat (first|apply Kd.R_alloc|apply Kd.R_drewN|apply Kd.R_drew)); exact HO_8.out⟩, ⟨by repeat (first|(with_reducible exact HR318_0.out)|(with_reducible refine Kd.C_alloc ?_ _)|(with_reducible refine Kd.C_drewN ?_ _)|(with_reducible refine Kd.C_drew ?_)|exact HR318_0.out)⟩, ⟨by repeat (first|(with_reducible first|exact HB.out|apply lA|apply lN|apply lD)|exact HB.out)⟩⟩
         case round =>
          clear H'
          obtain ⟨x12_4, x13_4, rfl, rfl, HA, HK4, HO_7, HO_8, HR318_0, HB⟩ := hrel
          cases gk with
         |zero => exact absurd HA.out (by simp [emenderref23_pairs.l2])
         |succ k4 =>
           have H := HA.out
           clear HA
           simp only [emenderref23_pairs.l2] at H
           by_cases c15 : x12_4 < a2
           ·rw [if_pos c15] at H
            have c15b0 : decide (x12_4 < a2) = true := decide_eq_true c15
            clear c15
            by_cases c16 : x13_4 = true
            ·subst c16
             have H1 : (emenderref23_pairs.l1 k4 l0 a1 a2 t315 x8_1 x9_1 x10_1 (wrap64 (x11_2 + 1)) x12_4 true) = some r := by rw [if_pos rfl] at H; exact H
             clear H
             have H := H1
             clear H1
             have H' := aM H
             clear H
             go_wp2
             repeat (go_quiet (fail); try go_wp2)
             go_roundg k4
             case measure => have := HK1.out; have := HK2.out; have := HJ11.out; have := HK4.out; omega
             case rel => exact ⟨(wrap64 (x11_2 + 1)), (x12_4), (true), (by first|rfl|(simp; done)|(simp [*]; done)), (by first|rfl|(simp; done)|(simp [*]; done)), (by first|rfl|(simp; done)|(simp [*]; done)), H', ⟨by have := HK1.out; have := HK2.out; have := HJ11.out; have := HK4.out; omega⟩, ⟨by (with_reducible repeat (first|apply Kd.S_alloc|apply Kd.S_drewN|apply Kd.S_drew)); exact HO_7.out⟩, ⟨by (with_reducible repeat (first|apply Kd.R_alloc|apply Kd.R_drewN|apply Kd.R_drew)); exact HO_8.out⟩, ⟨by repeat (first|(with_reducible exact HR318_0.out)|(with_reducible refine Kd.C_alloc ?_ _)|(with_reducible refine Kd.C_drewN ?_ _)|(with_reducible refine Kd.C_drew ?_)|exact HR318_0.out)⟩, ⟨by repeat (first|(with_reducible first|exact HB.out|apply lA|apply lN|apply lD)|exact HB.out)⟩⟩
            ·replace c16 := Bool.eq_false_iff.mpr c16
             subst c16
             have H1 : (if 0 ≤ x11_2 then (if x11_2 < (l0.length : Int) then (if 0 ≤ x12_4 then (if x12_4 < ((rd_L12 l0 x11_2).length : Int) then (if rdOf false (rd_L12 l0 x11_2) x12_4 = true then (if 0 ≤ (wrap64 (x11_2 + 1)) then (if (wrap64 (x11_2 + 1)) < (t315.length : Int) then (if 0 ≤ (wrap64 (x12_4 + 1)) then (if (wrap64 (x12_4 + 1)) < ((rd_L10 t315 (wrap64 (x11_2 + 1))).length : Int) then (if 0 ≤ x9_1 then (if x9_1 < (t315.length : Int) then (if 0 ≤ x10_1 then (if x10_1 < ((rd_L10 t315 x9_1).length : Int) then (emenderref23_pairs.l2 k4 l0 a1 a2 t315 x8_1 x9_1 x10_1 x11_2 (wrap64 (x12_4 + 1)) ((wrap64 (1 + (rd (rd_L10 t315 (wrap64 (x11_2 + 1))) (wrap64 (x12_4 + 1))))) == (rd (rd_L10 t315 x9_1) x10_1))) else (none)) else (none)) else (none)) else (none)) else (none)) else (none)) else (none)) else (none)) else (emenderref23_pairs.l2 k4 l0 a1 a2 t315 x8_1 x9_1 x10_1 x11_2 (wrap64 (x12_4 + 1)) false)) else (none)) else (none)) else (none)) else (none)) = some r := by rw [if_neg (show ¬ (false = true) by decide)] at H; exact H
             clear H
             have H := H1
             clear H1
             replace H := ifS H; obtain ⟨c17, H⟩ := H
             have c17b0 : decide (0 ≤ x11_2) = true := decide_eq_true c17
             clear c17
             replace H := ifS H; obtain ⟨c18, H⟩ := H
             have c18b0 : decide (x11_2 < (l0.length : Int)) = true := decide_eq_true c18
             clear c18
             replace H := ifS H; obtain ⟨c19, H⟩ := H
             have c19b0 : decide (0 ≤ x12_4) = true := decide_eq_true c19
             clear c19
             replace H := ifS H; obtain ⟨c20, H⟩ := H
             have c20b0 : decide (x12_4 < ((rd_L12 l0 x11_2).length : Int)) = true := decide_eq_true c20
             clear c20
             obtain ⟨bq21, hbq21⟩ : ∃ b_ : Bool, b_ = (rdOf false (rd_L12 l0 x11_2) x12_4) := ⟨_, rfl⟩
             replace H : (if bq21 = true then (if 0 ≤ (wrap64 (x11_2 + 1)) then (if (wrap64 (x11_2 + 1)) < (t315.length : Int) then (if 0 ≤ (wrap64 (x12_4 + 1)) then (if (wrap64 (x12_4 + 1)) < ((rd_L10 t315 (wrap64 (x11_2 + 1))).length : Int) then (if 0 ≤ x9_1 then (if x9_1 < (t315.length : Int) then (if 0 ≤ x10_1 then (if x10_1 < ((rd_L10 t315 x9_1).length : Int) then (emenderref23_pairs.l2 k4 l0 a1 a2 t315 x8_1 x9_1 x10_1 x11_2 (wrap64 (x12_4 + 1)) ((wrap64 (1 + (rd (rd_L10 t315 (wrap64 (x11_2 + 1))) (wrap64 (x12_4 + 1))))) == (rd (rd_L10 t315 x9_1) x10_1))) else (none)) else (none)) else (none)) else (none)) else (none)) else (none)) else (none)) else (none)) else (emenderref23_pairs.l2 k4 l0 a1 a2 t315 x8_1 x9_1 x10_1 x11_2 (wrap64 (x12_4 + 1)) false)) = some r := by rw [← hbq21] at H; exact H
             have Nbq21 := aM hbq21
             clear hbq21
             by_cases c22 : bq21 = true
             ·subst c22
              have H1 : (if 0 ≤ (wrap64 (x11_2 + 1)) then (if (wrap64 (x11_2 + 1)) < (t315.length : Int) then (if 0 ≤ (wrap64 (x12_4 + 1)) then (if (wrap64 (x12_4 + 1)) < ((rd_L10 t315 (wrap64 (x11_2 + 1))).length : Int) then (if 0 ≤ x9_1 then (if x9_1 < (t315.length : Int) then (if 0 ≤ x10_1 then (if x10_1 < ((rd_L10 t315 x9_1).length : Int) then (emenderref23_pairs.l2 k4 l0 a1 a2 t315 x8_1 x9_1 x10_1 x11_2 (wrap64 (x12_4 + 1)) ((wrap64 (1 + (rd (rd_L10 t315 (wrap64 (x11_2 + 1))) (wrap64 (x12_4 + 1))))) == (rd (rd_L10 t315 x9_1) x10_1))) else (none)) else (none)) else (none)) else (none)) else (none)) else (none)) else (none)) else (none)) = some r := by rw [if_pos rfl] at H; exact H
              clear H
              have H := H1
              clear H1
              obtain ⟨ji23, hji23⟩ : ∃ j_ : Int, (wrap64 (x11_2 + 1)) = j_ := ⟨_, rfl⟩
              replace H : (if 0 ≤ (ji23) then (if (ji23) < (t315.length : Int) then (if 0 ≤ (wrap64 (x12_4 + 1)) then (if (wrap64 (x12_4 + 1)) < ((rd_L10 t315 (ji23)).length : Int) then (if 0 ≤ x9_1 then (if x9_1 < (t315.length : Int) then (if 0 ≤ x10_1 then (if x10_1 < ((rd_L10 t315 x9_1).length : Int) then (emenderref23_pairs.l2 k4 l0 a1 a2 t315 x8_1 x9_1 x10_1 x11_2 (wrap64 (x12_4 + 1)) ((wrap64 (1 + (rd (rd_L10 t315 (ji23)) (wrap64 (x12_4 + 1))))) == (rd (rd_L10 t315 x9_1) x10_1))) else (none)) else (none)) else (none)) else (none)) else (none)) else (none)) else (none)) else (none)) = some r := by first|(rw [hji23] at H; exact H)|(simp only [hji23] at H ⊢; exact H)
              have hji23w : (IntKind.i64.wrap (x11_2 + 1)) = ji23 := (i64_w _).trans hji23
              replace H := ifS H; obtain ⟨c24, H⟩ := H
              have c24b0 : decide (0 ≤ (ji23)) = true := decide_eq_true c24
              clear c24
              replace H := ifS H; obtain ⟨c25, H⟩ := H
              have c25b0 : decide ((ji23) < (t315.length : Int)) = true := decide_eq_true c25
              clear c25
              obtain ⟨ji26, hji26⟩ : ∃ j_ : Int, (wrap64 (x12_4 + 1)) = j_ := ⟨_, rfl⟩
              replace H : (if 0 ≤ (ji26) then (if (ji26) < ((rd_L10 t315 (ji23)).length : Int) then (if 0 ≤ x9_1 then (if x9_1 < (t315.length : Int) then (if 0 ≤ x10_1 then (if x10_1 < ((rd_L10 t315 x9_1).length : Int) then (emenderref23_pairs.l2 k4 l0 a1 a2 t315 x8_1 x9_1 x10_1 x11_2 ji26 ((wrap64 (1 + (rd (rd_L10 t315 (ji23)) (ji26)))) == (rd (rd_L10 t315 x9_1) x10_1))) else (none)) else (none)) else (none)) else (none)) else (none)) else (none)) = some r := by first|(rw [hji26] at H; exact H)|(simp only [hji26] at H ⊢; exact H)
              have hji26w : (IntKind.i64.wrap (x12_4 + 1)) = ji26 := (i64_w _).trans hji26
              replace H := ifS H; obtain ⟨c27, H⟩ := H
              have c27b0 : decide (0 ≤ (ji26)) = true := decide_eq_true c27
              clear c27
              replace H := ifS H; obtain ⟨c28, H⟩ := H
              have c28b0 : decide ((ji26) < ((rd_L10 t315 (ji23)).length : Int)) = true := decide_eq_true c28
              clear c28
              replace H := ifS H; obtain ⟨c29, H⟩ := H
              have c29b0 : decide (0 ≤ x9_1) = true := decide_eq_true c29
              clear c29
              replace H := ifS H; obtain ⟨c30, H⟩ := H
              have c30b0 : decide (x9_1 < (t315.length : Int)) = true := decide_eq_true c30
              clear c30
              replace H := ifS H; obtain ⟨c31, H⟩ := H
              have c31b0 : decide (0 ≤ x10_1) = true := decide_eq_true c31
              clear c31
              replace H := ifS H; obtain ⟨c32, H⟩ := H
              have c32b0 : decide (x10_1 < ((rd_L10 t315 x9_1).length : Int)) = true := decide_eq_true c32
              clear c32
              have H' := aM H
              clear H
              have p323 : 0 ≤ (x11_2 : Int) := of_decide_eq_true (by first|(with_reducible assumption)|assumption)
              have q323 : x11_2 < (l0.length : Int) := of_decide_eq_true (by first|(with_reducible assumption)|assumption)
              obtain ⟨ad323, A323_0, c323_0, e323, hx323_0, hl323_0, hi323_0⟩ := at_L12 HR0.out x11_2 p323 q323
              cases e323
              replace hx323_0 := cB HB.out hx323_0
              have HR323_0 := aM hi323_0
              have HC323_0 := aM hl323_0
              clear hi323_0 hl323_0
              replace p323 := eq_true p323
              replace q323 := eq_true q323
              have p324 : 0 ≤ (x12_4 : Int) := of_decide_eq_true (by first|(with_reducible assumption)|assumption)
              have q324 : x12_4 < ((rd_L12 l0 x11_2).length : Int) := of_decide_eq_true (by first|(with_reducible assumption)|assumption)
              obtain ⟨ad324, e324, hx324_0⟩ := Kd.at_bool HR323_0.out x12_4 p324 q324
              (try rw [← Nbq21.out] at hx324_0)
              cases e324
              replace hx324_0 := cB HB.out hx324_0
              replace p324 := eq_true p324
              replace q324 := eq_true q324
              have p325 : 0 ≤ ((ji23) : Int) := of_decide_eq_true (by first|(with_reducible assumption)|assumption)
              have q325 : (ji23) < (t315.length : Int) := of_decide_eq_true (by first|(with_reducible assumption)|assumption)
              obtain ⟨ad325, A325_0, c325_0, e325, hx325_0, hl325_0, hi325_0⟩ := at_L10 (Kd.S_reads' HO_7.out).2.2 (ji23) p325 q325
              obtain rfl : ad318 = ad325 := (by injection e325)
              obtain ⟨ce325, hce325, hMe325, hcc325⟩ := Kd.S_get HO_7.out [] (ji23) p325 (by first|exact q325|exact of_decide_eq_true (by first|(with_reducible assumption)|assumption)|(have e_ := (Kd.S_reads' HO_7.out).1; omega))
              obtain ⟨ve325_0, rfl, ge325_0⟩ := hMe325
              have hv325_0 := hcc325 0 _ rfl
              rw [Nat.add_zero, show ((Kd.slice 3 (Kd.int .i64))).sz = 1 from rfl, Nat.mul_one] at hv325_0
              replace hv325_0 := Option.some.inj (hv325_0.symm.trans hx325_0)
              rw [hv325_0] at ge325_0
              have HL325_0 := aM (show Kd.R (Kd.int .i64) 3 _ _ _ _ (rd_L10 t315 (ji23)) from ge325_0)
              clear hv325_0 ge325_0
              clear hcc325 hce325
              have HR325_0 := aM hi325_0
              have HC325_0 := aM hl325_0
              clear hi325_0 hl325_0
              replace p325 := eq_true p325
              replace q325 := eq_true q325
              have p326 : 0 ≤ ((ji26) : Int) := of_decide_eq_true (by first|(with_reducible assumption)|assumption)
              have q326 : (ji26) < ((rd_L10 t315 (ji23)).length : Int) := of_decide_eq_true (by first|(with_reducible assumption)|assumption)
              obtain ⟨ad326, e326, hx326_0⟩ := Kd.at_int (by repeat (first|(with_reducible exact HR325_0.out)|(with_reducible refine Kd.C_alloc ?_ _)|(with_reducible refine Kd.C_drewN ?_ _)|(with_reducible refine Kd.C_drew ?_)|exact HR325_0.out)) (ji26) p326 q326
              cases e326
              replace p326 := eq_true p326
              replace q326 := eq_true q326
              have p327 : 0 ≤ (x9_1 : Int) := of_decide_eq_true (by first|(with_reducible assumption)|assumption)
              have q327 : x9_1 < (t315.length : Int) := of_decide_eq_true (by first|(with_reducible assumption)|assumption)
              obtain ⟨ad327, A327_0, c327_0, e327, hx327_0, hl327_0, hi327_0⟩ := at_L10 (Kd.S_reads' HO_7.out).2.2 x9_1 p327 q327
              obtain rfl : ad318 = ad327 := (by injection e327)
              obtain ⟨ce327, hce327, hMe327, hcc327⟩ := Kd.S_get HO_7.out [] x9_1 p327 (by first|exact q327|exact of_decide_eq_true (by first|(with_reducible assumption)|assumption)|(have e_ := (Kd.S_reads' HO_7.out).1; omega))
              obtain ⟨ve327_0, rfl, ge327_0⟩ := hMe327
              have hv327_0 := hcc327 0 _ rfl
              rw [Nat.add_zero, show ((Kd.slice 3 (Kd.int .i64))).sz = 1 from rfl, Nat.mul_one] at hv327_0
              replace hv327_0 := Option.some.inj (hv327_0.symm.trans hx327_0)
              rw [hv327_0] at ge327_0
              have HL327_0 := aM (show Kd.R (Kd.int .i64) 3 _ _ _ _ (rd_L10 t315 x9_1) from ge327_0)
              clear hv327_0 ge327_0
              clear hcc327 hce327
              have HR327_0 := aM hi327_0
              have HC327_0 := aM hl327_0
              clear hi327_0 hl327_0
              replace p327 := eq_true p327
              replace q327 := eq_true q327
              have p328 : 0 ≤ (x10_1 : Int) := of_decide_eq_true (by first|(with_reducible assumption)|assumption)
              have q328 : x10_1 < ((rd_L10 t315 x9_1).length : Int) := of_decide_eq_true (by first|(with_reducible assumption)|assumption)
              obtain ⟨ad328, e328, hx328_0⟩ := Kd.at_int (by repeat (first|(with_reducible exact HR327_0.out)|(with_reducible refine Kd.C_alloc ?_ _)|(with_reducible refine Kd.C_drewN ?_ _)|(with_reducible refine Kd.C_drew ?_)|exact HR327_0.out)) x10_1 p328 q328
              cases e328
              replace p328 := eq_true p328
              replace q328 := eq_true q328
              go_wp2
              repeat (go_quiet (fail); try go_wp2)
              go_roundg k4
              case measure => have := HK1.out; have := HK2.out; have := HJ11.out; have := HK4.out; omega
              case rel => exact ⟨(ji26), (((wrap64 (1 + (rd (rd_L10 t315 (ji23)) (ji26)))) == (rd (rd_L10 t315 x9_1) x10_1))), (by first|rfl|(simp; done)|(simp only [← hji26] <;> (first|rfl|simp))|(simp [*]; done)), (by first|rfl|(simp; done)|(simp only [← hji23, ← hji26] <;> (first|rfl|simp))|(simp [*]; done)), H', ⟨by have := HK1.out; have := HK2.out; have := HJ11.out; have := HK4.out; omega⟩, ⟨by (with_reducible repeat (first|apply Kd.S_alloc|apply Kd.S_drewN|apply Kd.S_drew)); exact HO_7.out⟩, ⟨by (with_reducible repeat (first|apply Kd.R_alloc|apply Kd.R_drewN|apply Kd.R_drew)); exact HO_8.out⟩, ⟨by repeat (first|(with_reducible exact HR318_0.out)|(with_reducible refine Kd.C_alloc ?_ _)|(with_reducible refine Kd.C_drewN ?_ _)|(with_reducible refine Kd.C_drew ?_)|exact HR318_0.out)⟩, ⟨by repeat (first|(with_reducible first|exact HB.out|apply lA|apply lN|apply lD)|exact HB.out)⟩⟩
             ·replace c22 := Bool.eq_false_iff.mpr c22
              subst c22
              have H1 : (emenderref23_pairs.l2 k4 l0 a1 a2 t315 x8_1 x9_1 x10_1 x11_2 (wrap64 (x12_4 + 1)) false) = some r := by rw [if_neg (show ¬ (false = true) by decide)] at H; exact H
              clear H
              have H := H1
              clear H1
              have H' := aM H
              clear H
              have p323 : 0 ≤ (x11_2 : Int) := of_decide_eq_true (by first|(with_reducible assumption)|assumption)
              have q323 : x11_2 < (l0.length : Int) := of_decide_eq_true (by first|(with_reducible assumption)|assumption)
              obtain ⟨ad323, A323_0, c323_0, e323, hx323_0, hl323_0, hi323_0⟩ := at_L12 HR0.out x11_2 p323 q323
              cases e323
              replace hx323_0 := cB HB.out hx323_0
              have HR323_0 := aM hi323_0
              have HC323_0 := aM hl323_0
              clear hi323_0 hl323_0
              replace p323 := eq_true p323
              replace q323 := eq_true q323
              have p324 : 0 ≤ (x12_4 : Int) := of_decide_eq_true (by first|(with_reducible assumption)|assumption)
              have q324 : x12_4 < ((rd_L12 l0 x11_2).length : Int) := of_decide_eq_true (by first|(with_reducible assumption)|assumption)
              obtain ⟨ad324, e324, hx324_0⟩ := Kd.at_bool HR323_0.out x12_4 p324 q324
              (try rw [← Nbq21.out] at hx324_0)
              cases e324
              replace hx324_0 := cB HB.out hx324_0
              replace p324 := eq_true p324
              replace q324 := eq_true q324
              go_wp2
              repeat (go_quiet (fail); try go_wp2)
              go_roundg k4
              case measure => have := HK1.out; have := HK2.out; have := HJ11.out; have := HK4.out; omega
              case rel => exact ⟨(wrap64 (x12_4 + 1)), (false), (by first|rfl|(simp; done)|(simp [*]; done)), (by first|rfl|(simp; done)|(simp [*]; done)), H', ⟨by have := HK1.out; have := HK2.out; have := HJ11.out; have := HK4.out; omega⟩, ⟨by (with_reducible repeat (first|apply Kd.S_alloc|apply Kd.S_drewN|apply Kd.S_drew)); exact HO_7.out⟩, ⟨by (with_reducible repeat (first|apply Kd.R_alloc|apply Kd.R_drewN|apply Kd.R_drew)); exact HO_8.out⟩, ⟨by repeat (first|(with_reducible exact HR318_0.out)|(with_reducible refine Kd.C_alloc ?_ _)|(with_reducible refine Kd.C_drewN ?_ _)|(with_reducible refine Kd.C_drew ?_)|exact HR318_0.out)⟩, ⟨by repeat (first|(with_reducible first|exact HB.out|apply lA|apply lN|apply lD)|exact HB.out)⟩⟩
           ·rw [if_neg c15] at H
            have c15b0 : decide (x12_4 < a2) = false := decide_eq_false c15
            clear c15
            have H' := aM H
            clear H
            go_wp2
            repeat (go_quiet (fail); try go_wp2)
            go_roundg k4
            case measure => have := HK1.out; have := HK2.out; have := HJ11.out; have := HK4.out; omega
            case rel => exact ⟨(wrap64 (x11_2 + 1)), (x12_4), (x13_4), (by first|rfl|(simp; done)|(simp [*]; done)), (by first|rfl|(simp; done)|(simp [*]; done)), (by first|rfl|(simp; done)|(simp [*]; done)), H', ⟨by have := HK1.out; have := HK2.out; have := HJ11.out; have := HK4.out; omega⟩, ⟨by (with_reducible repeat (first|apply Kd.S_alloc|apply Kd.S_drewN|apply Kd.S_drew)); exact HO_7.out⟩, ⟨by (with_reducible repeat (first|apply Kd.R_alloc|apply Kd.R_drewN|apply Kd.R_drew)); exact HO_8.out⟩, ⟨by repeat (first|(with_reducible exact HR318_0.out)|(with_reducible refine Kd.C_alloc ?_ _)|(with_reducible refine Kd.C_drewN ?_ _)|(with_reducible refine Kd.C_drew ?_)|exact HR318_0.out)⟩, ⟨by repeat (first|(with_reducible first|exact HB.out|apply lA|apply lN|apply lD)|exact HB.out)⟩⟩
        ·replace c14 := Bool.eq_false_iff.mpr c14
         subst c14
         have H1 : (if x8_1.length < 8796093022208 then (emenderref23_pairs.l0 kj11 l0 a1 a2 t315 (x8_1 ++ [(⟨wrap64 (x11_2 - 1), wrap64 (x12_2 - 1)⟩ : S76)]) x11_2 x12_2) else (none)) = some r := by rw [if_neg (show ¬ (false = true) by decide)] at H; exact H
         clear H
         have H := H1
         clear H1
         replace H := ifS H; obtain ⟨c33, H⟩ := H
         have LMc33 := aM c33
         clear c33
         obtain ⟨y320, hy320⟩ : ∃ y_ : List (S76), y_ = (x8_1 ++ [(⟨wrap64 (x11_2 - 1), wrap64 (x12_2 - 1)⟩ : S76)]) := ⟨_, rfl⟩
         replace H : (emenderref23_pairs.l0 kj11 l0 a1 a2 t315 y320 x11_2 x12_2) = some r := by first|(rw [hy320]; with_reducible exact H)|(have H2_ := (Option.bind_some _ _).symm.trans H; rw [hy320]; with_reducible exact H2_)|(have H2_ := (Option.bind_some _ _).symm.trans H; with_reducible exact H2_)|with_reducible exact H|(rw [hy320]; exact H)|exact H
         have Ny320 := aM hy320
         clear hy320
         have H' := aM H
         clear H
         go_wp2_with (first|((with_reducible refine gate_builtin (b := .append) (xs := #[.tmp 75, .tmp 81]) rfl ?_); at_builtin; refine Kd.R_append k76 (w0 := w) w.heap.size rfl (.tmp 75) (.tmp 81) 26 76 (.agg #[(.int .i64 0), (.int .i64 0)]) 16 rfl Try.underlying26 info76 rfl (by decide) (by omega) u8 x8_1 (⟨wrap64 (x11_2 - 1), wrap64 (x12_2 - 1)⟩ : S76) [.int .i64 (wrap64 (x11_2 - 1)), .int .i64 (wrap64 (x12_2 - 1))] (fun _ => True) (fun _ => False) rfl rfl ?aP (fun _ hk => hk.elim) ?aF ?aO ?aB ?aS ?aL ?_; (case aP => exact k76_mkM _ _ _ (⟨wrap64 (x11_2 - 1), wrap64 (x12_2 - 1)⟩ : S76)); (case aB => exact (by repeat (first|(with_reducible first|exact HB.out|apply lA|apply lN|apply lD)|exact HB.out))); (case aF => exact (fun _ _ => trivial)); (case aO => exact (by (with_reducible repeat (first|apply Kd.R_alloc|apply Kd.R_drewN|apply Kd.R_drew)); exact HO_8.out)); (case aS => exact (below_size (by repeat (first|(with_reducible first|exact HB.out|apply lA|apply lN|apply lD)|exact HB.out)))); (case aL => have := LMc33.out; omega); intro v321 w34 ho hb hg hat; rw [← Ny320.out] at ho; have n0_ := aM (Kd.S_over' (by (with_reducible repeat (first|apply Kd.S_alloc|apply Kd.S_drewN|apply Kd.S_drew)); exact HO_7.out) (Kd.R_typed (by (with_reducible repeat (first|apply Kd.R_alloc|apply Kd.R_drewN|apply Kd.R_drew)); exact HO_8.out)) (by decide) hg); have n1_ := aM (hb); have n2_ := aM (ho); clear HO_7; clear HB; clear HO_8; have HO_7 := n0_; have HB := n1_; have HO322 := n2_; clear n0_ n1_ n2_; clear ho hb hg hat))
         repeat (go_quiet (first|((with_reducible refine gate_builtin (b := .append) (xs := #[.tmp 75, .tmp 81]) rfl ?_); at_builtin; refine Kd.R_append k76 (w0 := w) w.heap.size rfl (.tmp 75) (.tmp 81) 26 76 (.agg #[(.int .i64 0), (.int .i64 0)]) 16 rfl Try.underlying26 info76 rfl (by decide) (by omega) u8 x8_1 (⟨wrap64 (x11_2 - 1), wrap64 (x12_2 - 1)⟩ : S76) [.int .i64 (wrap64 (x11_2 - 1)), .int .i64 (wrap64 (x12_2 - 1))] (fun _ => True) (fun _ => False) rfl rfl ?aP (fun _ hk => hk.elim) ?aF ?aO ?aB ?aS ?aL ?_; (case aP => exact k76_mkM _ _ _ (⟨wrap64 (x11_2 - 1), wrap64 (x12_2 - 1)⟩ : S76)); (case aB => exact (by repeat (first|(with_reducible first|exact HB.out|apply lA|apply lN|apply lD)|exact HB.out))); (case aF => exact (fun _ _ => trivial)); (case aO => exact (by (with_reducible repeat (first|apply Kd.R_alloc|apply Kd.R_drewN|apply Kd.R_drew)); exact HO_8.out)); (case aS => exact (below_size (by repeat (first|(with_reducible first|exact HB.out|apply lA|apply lN|apply lD)|exact HB.out)))); (case aL => have := LMc33.out; omega); intro v321 w34 ho hb hg hat; rw [← Ny320.out] at ho; have n0_ := aM (Kd.S_over' (by (with_reducible repeat (first|apply Kd.S_alloc|apply Kd.S_drewN|apply Kd.S_drew)); exact HO_7.out) (Kd.R_typed (by (with_reducible repeat (first|apply Kd.R_alloc|apply Kd.R_drewN|apply Kd.R_drew)); exact HO_8.out)) (by decide) hg); have n1_ := aM (hb); have n2_ := aM (ho); clear HO_7; clear HB; clear HO_8; have HO_7 := n0_; have HB := n1_; have HO322 := n2_; clear n0_ n1_ n2_; clear ho hb hg hat)); try go_wp2_with (first|((with_reducible refine gate_builtin (b := .append) (xs := #[.tmp 75, .tmp 81]) rfl ?_); at_builtin; refine Kd.R_append k76 (w0 := w) w.heap.size rfl (.tmp 75) (.tmp 81) 26 76 (.agg #[(.int .i64 0), (.int .i64 0)]) 16 rfl Try.underlying26 info76 rfl (by decide) (by omega) u8 x8_1 (⟨wrap64 (x11_2 - 1), wrap64 (x12_2 - 1)⟩ : S76) [.int .i64 (wrap64 (x11_2 - 1)), .int .i64 (wrap64 (x12_2 - 1))] (fun _ => True) (fun _ => False) rfl rfl ?aP (fun _ hk => hk.elim) ?aF ?aO ?aB ?aS ?aL ?_; (case aP => exact k76_mkM _ _ _ (⟨wrap64 (x11_2 - 1), wrap64 (x12_2 - 1)⟩ : S76)); (case aB => exact (by repeat (first|(with_reducible first|exact HB.out|apply lA|apply lN|apply lD)|exact HB.out))); (case aF => exact (fun _ _ => trivial)); (case aO => exact (by (with_reducible repeat (first|apply Kd.R_alloc|apply Kd.R_drewN|apply Kd.R_drew)); exact HO_8.out)); (case aS => exact (below_size (by repeat (first|(with_reducible first|exact HB.out|apply lA|apply lN|apply lD)|exact HB.out)))); (case aL => have := LMc33.out; omega); intro v321 w34 ho hb hg hat; rw [← Ny320.out] at ho; have n0_ := aM (Kd.S_over' (by (with_reducible repeat (first|apply Kd.S_alloc|apply Kd.S_drewN|apply Kd.S_drew)); exact HO_7.out) (Kd.R_typed (by (with_reducible repeat (first|apply Kd.R_alloc|apply Kd.R_drewN|apply Kd.R_drew)); exact HO_8.out)) (by decide) hg); have n1_ := aM (hb); have n2_ := aM (ho); clear HO_7; clear HB; clear HO_8; have HO_7 := n0_; have HB := n1_; have HO322 := n2_; clear n0_ n1_ n2_; clear ho hb hg hat)))
         go_roundg kj11
         case measure => have := HK1.out; have := HK2.out; have := HJ11.out; omega
         case rel => exact ⟨(y320), (x11_2), (x12_2), (by first|rfl|(simp; done)|(simp [*]; done)), (by first|rfl|(simp; done)|(simp [*]; done)), H', ⟨by have := HK1.out; have := HK2.out; have := HJ11.out; omega⟩, ⟨by (with_reducible repeat (first|apply Kd.S_alloc|apply Kd.S_drewN|apply Kd.S_drew)); exact HO_7.out⟩, ⟨by (with_reducible repeat (first|apply Kd.R_alloc|apply Kd.R_drewN|apply Kd.R_drew)); exact HO322.out⟩, ⟨by repeat (first|(with_reducible first|exact HB.out|apply lA|apply lN|apply lD)|exact HB.out)⟩⟩
   ·rw [if_neg c10] at H
    have c10b0 : decide (0 < (rd (rd_L10 t315 x9_1) x10_1)) = false := decide_eq_false c10
    clear c10
    obtain rfl := Option.some.inj H
    obtain ⟨Ao35, co35, eo35⟩ := Kd.S_slice HO_7.out
    subst eo35
    have p318 : 0 ≤ (x9_1 : Int) := of_decide_eq_true (by first|(with_reducible assumption)|assumption)
    have q318 : x9_1 < (t315.length : Int) := of_decide_eq_true (by first|(with_reducible assumption)|assumption)
    obtain ⟨ad318, A318_0, c318_0, e318, hx318_0, hl318_0, hi318_0⟩ := at_L10 (Kd.S_reads' HO_7.out).2.2 x9_1 p318 q318
    cases e318
    obtain ⟨ce318, hce318, hMe318, hcc318⟩ := Kd.S_get HO_7.out [] x9_1 p318 (by first|exact q318|exact of_decide_eq_true (by first|(with_reducible assumption)|assumption)|(have e_ := (Kd.S_reads' HO_7.out).1; omega))
    obtain ⟨ve318_0, rfl, ge318_0⟩ := hMe318
    have hv318_0 := hcc318 0 _ rfl
    rw [Nat.add_zero, show ((Kd.slice 3 (Kd.int .i64))).sz = 1 from rfl, Nat.mul_one] at hv318_0
    replace hv318_0 := Option.some.inj (hv318_0.symm.trans hx318_0)
    rw [hv318_0] at ge318_0
    have HL318_0 := aM (show Kd.R (Kd.int .i64) 3 _ _ _ _ (rd_L10 t315 x9_1) from ge318_0)
    clear hv318_0 ge318_0
    clear hcc318 hce318
    have HR318_0 := aM hi318_0
    have HC318_0 := aM hl318_0
    clear hi318_0 hl318_0
    replace p318 := eq_true p318
    replace q318 := eq_true q318
    have p319 : 0 ≤ (x10_1 : Int) := of_decide_eq_true (by first|(with_reducible assumption)|assumption)
    have q319 : x10_1 < ((rd_L10 t315 x9_1).length : Int) := of_decide_eq_true (by first|(with_reducible assumption)|assumption)
    obtain ⟨ad319, e319, hx319_0⟩ := Kd.at_int (by repeat (first|(with_reducible exact HR318_0.out)|(with_reducible refine Kd.C_alloc ?_ _)|(with_reducible refine Kd.C_drewN ?_ _)|(with_reducible refine Kd.C_drew ?_)|exact HR318_0.out)) x10_1 p319 q319
    cases e319
    replace p319 := eq_true p319
    replace q319 := eq_true q319
    go_wp2
    repeat (go_quiet (fail); try go_wp2)
    go_ret
    exact ⟨_, by first|rfl|(simp [errW_none, errW_some] <;> rfl)|(simp [*, errW_none, errW_some] <;> rfl), by (with_reducible repeat (first|apply Kd.R_alloc|apply Kd.R_drewN|apply Kd.R_drew)); exact HO_8.out, by repeat (first|(with_reducible first|exact HB.out|apply lA|apply lN|apply lD)|exact HB.out)⟩

end Go.Proofs.Ytjpmlggkhhoooaa.PDq
-- Written for this claim by a program (the kit's print, with hand-made contracts for what it does not take).
namespace Go.Proofs.Ytjpmlggkhhoooaa.PDq
open Go.RowKit Go.Proofs.YtjpmlggkhhoooaaW.PrintWords Go.Proofs.YtjpmlggkhhoooaaW.PrintLast Go.Proofs.YtjpmlggkhhoooaaW.PrintMore
attribute [local go_sem] max2_int min2_int max_two min_two max_three min_three max_four min_four   -- for this text's walks alone
set_option linter.unusedVariables false
set_option linter.unusedSimpArgs false

def emenderref04_Point.f (a0 : Int) : Option (Bool) := if a0 ≥ 0 then (if a0 ≤ 1114111 then (if a0 < 55296 then (some true) else (some (decide (a0 > 57343)))) else (some false)) else (some false)
set_option maxHeartbeats 8000000 in
set_option maxRecDepth 100000 in
theorem emenderref04_Point.calls (a0 : Int) (r : Bool) (w : World) (h : emenderref04_Point.f a0 = some r) :
  Calls Try.prog 65 #[.int .i64 a0] w fun e w' => e = .returned (.bool r) ∧ Drawn0 w w' := by
 have H : (if a0 ≥ 0 then (if a0 ≤ 1114111 then (if a0 < 55296 then (some true) else (some (decide (a0 > 57343)))) else (some false)) else (some false)) = some r := h
 clear h
 by_cases c2 : a0 ≥ 0
 ·rw [if_pos c2] at H
  have c2b0 : decide (0 ≤ a0) = true := decide_eq_true c2
  clear c2
  by_cases c3 : a0 ≤ 1114111
  ·rw [if_pos c3] at H
   have c3b0 : decide (a0 ≤ 1114111) = true := decide_eq_true c3
   clear c3
   by_cases c4 : a0 < 55296
   ·rw [if_pos c4] at H
    have c4b0 : decide (a0 < 55296) = true := decide_eq_true c4
    clear c4
    obtain rfl := Option.some.inj H
    go_enter Try.func65, Try.ntmps65
    go_wp2
    go_ret
    exact ⟨by first|rfl|(simp; done)|(simp [*]; done), by repeat (first|exact Drawn0.refl _|apply Drawn0.step)⟩
   ·rw [if_neg c4] at H
    have c4b0 : decide (a0 < 55296) = false := decide_eq_false c4
    clear c4
    obtain rfl := Option.some.inj H
    go_enter Try.func65, Try.ntmps65
    go_wp2
    go_ret
    exact ⟨by first|rfl|(simp; done)|(simp [*]; done), by repeat (first|exact Drawn0.refl _|apply Drawn0.step)⟩
  ·rw [if_neg c3] at H
   have c3b0 : decide (a0 ≤ 1114111) = false := decide_eq_false c3
   clear c3
   obtain rfl := Option.some.inj H
   go_enter Try.func65, Try.ntmps65
   go_wp2
   go_ret
   exact ⟨by first|rfl|(simp; done)|(simp [*]; done), by repeat (first|exact Drawn0.refl _|apply Drawn0.step)⟩
 ·rw [if_neg c2] at H
  have c2b0 : decide (0 ≤ a0) = false := decide_eq_false c2
  clear c2
  obtain rfl := Option.some.inj H
  go_enter Try.func65, Try.ntmps65
  go_wp2
  go_ret
  exact ⟨by first|rfl|(simp; done)|(simp [*]; done), by repeat (first|exact Drawn0.refl _|apply Drawn0.step)⟩

def emenderref03_Right.f (a0 : Int) : Option (Bool) := if a0 ≥ 0 then (some (decide (a0 ≤ 4))) else (some false)
set_option maxHeartbeats 8000000 in
set_option maxRecDepth 100000 in
theorem emenderref03_Right.calls (a0 : Int) (r : Bool) (w : World) (h : emenderref03_Right.f a0 = some r) :
  Calls Try.prog 66 #[.int .i64 a0] w fun e w' => e = .returned (.bool r) ∧ Drawn0 w w' := by
 have H : (if a0 ≥ 0 then (some (decide (a0 ≤ 4))) else (some false)) = some r := h
 clear h
 by_cases c2 : a0 ≥ 0
 ·rw [if_pos c2] at H
  have c2b0 : decide (0 ≤ a0) = true := decide_eq_true c2
  clear c2
  obtain rfl := Option.some.inj H
  go_enter Try.func66, Try.ntmps66
  go_wp2
  go_ret
  exact ⟨by first|rfl|(simp; done)|(simp [*]; done), by repeat (first|exact Drawn0.refl _|apply Drawn0.step)⟩
 ·rw [if_neg c2] at H
  have c2b0 : decide (0 ≤ a0) = false := decide_eq_false c2
  clear c2
  obtain rfl := Option.some.inj H
  go_enter Try.func66, Try.ntmps66
  go_wp2
  go_ret
  exact ⟨by first|rfl|(simp; done)|(simp [*]; done), by repeat (first|exact Drawn0.refl _|apply Drawn0.step)⟩

end Go.Proofs.Ytjpmlggkhhoooaa.PDq
-- Written for this claim by a program (the kit's print, with hand-made contracts for what it does not take).
namespace Go.Proofs.Ytjpmlggkhhoooaa.PDq
open Go.RowKit Go.Proofs.YtjpmlggkhhoooaaW.PrintWords Go.Proofs.YtjpmlggkhhoooaaW.PrintLast Go.Proofs.YtjpmlggkhhoooaaW.PrintMore
attribute [local go_sem] max2_int min2_int max_two min_two max_three min_three max_four min_four   -- for this text's walks alone
set_option linter.unusedVariables false
set_option linter.unusedSimpArgs false

def emenderref04_Right.j0 : Nat → Int → Bool → Int → Int → Int → Int → Option (Bool)
|0, _, _, _, _, _, _ => none
|k + 1, x4, x20, x330000, x330001, x330002, x330003 => if x20 = true then (if x330001 ≥ 1 then (if x330001 < 16 then (if x330002 ≥ 0 then (if x330002 ≤ 15 then (some (x330003 == 0)) else (some false)) else (some false)) else (some false)) else (some false)) else (if x4 = 2 then (if x330001 = 0 then (if x330002 = 0 then (some (x330003 == 0)) else (some false)) else (some false)) else (some false))
def emenderref04_Right.f (k : Nat) (a0_0 : Int) (a0_1 : Int) (a0_2 : Int) (a0_3 : Int) : Option (Bool) := if a0_0 = 0 then (if a0_1 = 0 then ((emenderref04_Point.f a0_2).bind fun t330 => (if t330 = true then ((emenderref03_Right.f a0_3).bind fun t331 => (some t331)) else (some false))) else (some false)) else (if a0_0 = 1 then (emenderref04_Right.j0 k a0_0 (a0_0 == 1) a0_0 a0_1 a0_2 a0_3) else (emenderref04_Right.j0 k a0_0 (a0_0 == 3) a0_0 a0_1 a0_2 a0_3))
theorem emenderref04_Right.mono_l : ∀ k, (∀ y0 y1 y2 y3 y4 y5, LeO (emenderref04_Right.j0 k y0 y1 y2 y3 y4 y5) (emenderref04_Right.j0 (k + 1) y0 y1 y2 y3 y4 y5))
|0 => fun _ _ _ _ _ _ r h => by simp [emenderref04_Right.j0] at h
|k + 1 => by
  have ih0 := emenderref04_Right.mono_l k
  ·intro y0 y1 y2 y3 y4 y5
   unfold emenderref04_Right.j0
   repeat' first
  |(with_reducible exact ih0 _ _ _ _ _ _)
  |(with_reducible exact LeO.refl _)
  |(with_reducible exact LeO.none _)
  |(with_reducible refine LeO.ite ?_ ?_)
  |(with_reducible refine LeO.bind ?_ (fun _ => ?_))
  |exact ih0 _ _ _ _ _ _
  |exact LeO.none _
  |refine LeO.ite ?_ ?_
  |refine LeO.bind ?_ (fun _ => ?_)
theorem emenderref04_Right.mono : ∀ a0 a1 a2 a3 k, LeO (emenderref04_Right.f k a0 a1 a2 a3) (emenderref04_Right.f (k + 1) a0 a1 a2 a3) := by
 intro a0 a1 a2 a3 k
 have ih0 := emenderref04_Right.mono_l k
 unfold emenderref04_Right.f
 repeat' first
  |(with_reducible exact ih0 _ _ _ _ _ _)
  |(with_reducible exact LeO.refl _)
  |(with_reducible exact LeO.none _)
  |(with_reducible refine LeO.ite ?_ ?_)
  |(with_reducible refine LeO.bind ?_ (fun _ => ?_))
  |exact ih0 _ _ _ _ _ _
  |exact LeO.none _
  |refine LeO.ite ?_ ?_
  |refine LeO.bind ?_ (fun _ => ?_)
set_option maxHeartbeats 8000000 in
set_option maxRecDepth 100000 in
theorem emenderref04_Right.calls (k : Nat) (a0_0 : Int) (a0_1 : Int) (a0_2 : Int) (a0_3 : Int) (r : Bool) (w : World) (h : emenderref04_Right.f k a0_0 a0_1 a0_2 a0_3 = some r) :
  Calls Try.prog 62 #[.agg #[.int .i64 a0_0, .int .i64 a0_1, .int .i64 a0_2, .int .i64 a0_3]] w fun e w' => e = .returned (.bool r) ∧ Below w.heap.size w w' := by
 have hu64 := Try.underlying64
 have HB := aM (Below.refl w.heap.size w)
 have H : (if a0_0 = 0 then (if a0_1 = 0 then ((emenderref04_Point.f a0_2).bind fun t330 => (if t330 = true then ((emenderref03_Right.f a0_3).bind fun t331 => (some t331)) else (some false))) else (some false)) else (if a0_0 = 1 then (emenderref04_Right.j0 k a0_0 (a0_0 == 1) a0_0 a0_1 a0_2 a0_3) else (emenderref04_Right.j0 k a0_0 (a0_0 == 3) a0_0 a0_1 a0_2 a0_3))) = some r := h
 clear h
 by_cases c2 : a0_0 = 0
 ·rw [if_pos c2] at H
  have c2b0 : (a0_0 == 0) = true := beq_iff_eq.mpr c2
  have c2b1 : (a0_0 != 0) = false := bne_eq_false_iff_eq.mpr c2
  clear c2
  by_cases c3 : a0_1 = 0
  ·rw [if_pos c3] at H
   have c3b0 : (a0_1 == 0) = true := beq_iff_eq.mpr c3
   have c3b1 : (a0_1 != 0) = false := bne_eq_false_iff_eq.mpr c3
   clear c3
   replace H := Option.bind_eq_some_iff.mp H
   obtain ⟨t330, A40, H⟩ := H
   replace H : (if t330 = true then ((emenderref03_Right.f a0_3).bind fun t331 => (some t331)) else (some false)) = some r := H
   have A4 := aM A40
   clear A40
   by_cases c5 : t330 = true
   ·subst c5
    have H1 : ((emenderref03_Right.f a0_3).bind fun t331 => (some t331)) = some r := by rw [if_pos rfl] at H; exact H
    clear H
    have H := H1
    clear H1
    replace H := Option.bind_eq_some_iff.mp H
    obtain ⟨t331, A60, H⟩ := H
    replace H : (some t331) = some r := H
    have A6 := aM A60
    clear A60
    obtain rfl := Option.some.inj H
    go_enter Try.func62, Try.ntmps62
    go_wp2_with (first|((with_reducible refine gate_dst (N := 1) rfl ?_); refine box_event ?hg (N := 1) ?hd (cs := #[.int .i64 a0_0, .int .i64 a0_1, .int .i64 a0_2, .int .i64 a0_3]) (t := 64) ?hr ?_; (case hd => rfl); (case hg => rfl); (case hr => first|(go_simp; done)|(go_simp; rfl)); intro gb329 hg w7 hbox hb; have hB_ := (by repeat (first|(with_reducible first|exact HB.out|apply lA|apply lN|apply lD)|exact HB.out) : Below w.heap.size w _); replace HB := aM (below_step hB_ hb); replace BK329 := aM (hbox); replace GW329 := aM ((bsz hg hB_)); replace GE329 := aM ((bsz hg hB_)); clear hb hbox hg hB_; obtain ⟨hcz8_0, hcz8_1, hcz8_2, hcz8_3, hfz8_0, hfz8_1, hfz8_2, hfz8_3⟩ := bx4z BK329.out)|(go_at_call 65; (with_reducible refine (emenderref04_Point.calls a0_2 true _ A4.out).mono ?_); rintro e w' ⟨rfl, ⟨nd, rfl⟩⟩)|(go_at_call 66; (with_reducible refine (emenderref03_Right.calls a0_3 t331 _ A6.out).mono ?_); rintro e w' ⟨rfl, ⟨nd, rfl⟩⟩))
    go_ret
    exact ⟨by first|rfl|(simp [errW_none, errW_some] <;> rfl)|(simp [*, errW_none, errW_some] <;> rfl), by repeat (first|(with_reducible first|exact HB.out|apply lA|apply lN|apply lD|refine lS ?_ GE329.out)|exact HB.out)⟩
   ·replace c5 := Bool.eq_false_iff.mpr c5
    subst c5
    have H1 : (some false) = some r := by rw [if_neg (show ¬ (false = true) by decide)] at H; exact H
    clear H
    have H := H1
    clear H1
    obtain rfl := Option.some.inj H
    go_enter Try.func62, Try.ntmps62
    go_wp2_with (first|((with_reducible refine gate_dst (N := 1) rfl ?_); refine box_event ?hg (N := 1) ?hd (cs := #[.int .i64 a0_0, .int .i64 a0_1, .int .i64 a0_2, .int .i64 a0_3]) (t := 64) ?hr ?_; (case hd => rfl); (case hg => rfl); (case hr => first|(go_simp; done)|(go_simp; rfl)); intro gb329 hg w9 hbox hb; have hB_ := (by repeat (first|(with_reducible first|exact HB.out|apply lA|apply lN|apply lD)|exact HB.out) : Below w.heap.size w _); replace HB := aM (below_step hB_ hb); replace BK329 := aM (hbox); replace GW329 := aM ((bsz hg hB_)); replace GE329 := aM ((bsz hg hB_)); clear hb hbox hg hB_; obtain ⟨hcz10_0, hcz10_1, hcz10_2, hcz10_3, hfz10_0, hfz10_1, hfz10_2, hfz10_3⟩ := bx4z BK329.out)|(go_at_call 65; (with_reducible refine (emenderref04_Point.calls a0_2 false _ A4.out).mono ?_); rintro e w' ⟨rfl, ⟨nd, rfl⟩⟩))
    go_ret
    exact ⟨by first|rfl|(simp [errW_none, errW_some] <;> rfl)|(simp [*, errW_none, errW_some] <;> rfl), by repeat (first|(with_reducible first|exact HB.out|apply lA|apply lN|apply lD|refine lS ?_ GE329.out)|exact HB.out)⟩
  ·rw [if_neg c3] at H
   have c3b0 : (a0_1 == 0) = false := beq_eq_false_iff_ne.mpr c3
   have c3b1 : (a0_1 != 0) = true := bne_iff_ne.mpr c3
   obtain rfl := Option.some.inj H
   go_enter Try.func62, Try.ntmps62
   go_wp2_with (first|((with_reducible refine gate_dst (N := 1) rfl ?_); refine box_event ?hg (N := 1) ?hd (cs := #[.int .i64 a0_0, .int .i64 a0_1, .int .i64 a0_2, .int .i64 a0_3]) (t := 64) ?hr ?_; (case hd => rfl); (case hg => rfl); (case hr => first|(go_simp; done)|(go_simp; rfl)); intro gb329 hg w11 hbox hb; have hB_ := (by repeat (first|(with_reducible first|exact HB.out|apply lA|apply lN|apply lD)|exact HB.out) : Below w.heap.size w _); replace HB := aM (below_step hB_ hb); replace BK329 := aM (hbox); replace GW329 := aM ((bsz hg hB_)); replace GE329 := aM ((bsz hg hB_)); clear hb hbox hg hB_; obtain ⟨hcz12_0, hcz12_1, hcz12_2, hcz12_3, hfz12_0, hfz12_1, hfz12_2, hfz12_3⟩ := bx4z BK329.out))
   go_ret
   exact ⟨by first|rfl|(simp [errW_none, errW_some] <;> rfl)|(simp [*, errW_none, errW_some] <;> rfl), by repeat (first|(with_reducible first|exact HB.out|apply lA|apply lN|apply lD|refine lS ?_ GE329.out)|exact HB.out)⟩
 ·rw [if_neg c2] at H
  have c2b0 : (a0_0 == 0) = false := beq_eq_false_iff_ne.mpr c2
  have c2b1 : (a0_0 != 0) = true := bne_iff_ne.mpr c2
  have HC13 := aM H
  clear H
  go_enter Try.func62, Try.ntmps62
  go_upto_if 20 with (first|((with_reducible refine gate_dst (N := 1) rfl ?_); refine box_event ?hg (N := 1) ?hd (cs := #[.int .i64 a0_0, .int .i64 a0_1, .int .i64 a0_2, .int .i64 a0_3]) (t := 64) ?hr ?_; (case hd => rfl); (case hg => rfl); (case hr => first|(go_simp; done)|(go_simp; rfl)); intro gb329 hg w14 hbox hb; have hB_ := (by repeat (first|(with_reducible first|exact HB.out|apply lA|apply lN|apply lD)|exact HB.out) : Below w.heap.size w _); replace HB := aM (below_step hB_ hb); replace BK329 := aM (hbox); replace GW329 := aM ((bsz hg hB_)); replace GE329 := aM ((bsz hg hB_)); clear hb hbox hg hB_; obtain ⟨hcz15_0, hcz15_1, hcz15_2, hcz15_3, hfz15_0, hfz15_1, hfz15_2, hfz15_3⟩ := bx4z BK329.out))
  (try simp only [Act.put, List.setIfInBounds_toArray, List.set_cons_zero, List.set_cons_succ])
  go_cut [20] (fun v20 wc => ∃ (kq : Nat) (x20_12 : Bool), v20 = .bool x20_12 ∧ Aside0 (emenderref04_Right.j0 kq a0_0 x20_12 a0_0 a0_1 a0_2 a0_3 = some r) ∧ Aside0 (kq ≤ k) ∧ Aside0 (wc.heap[gb329]? = some (.cells #[.int .i64 a0_0, .int .i64 a0_1, .int .i64 a0_2, .int .i64 a0_3] 64 (0, 0))) ∧ Aside0 (Below w.heap.size w wc))
  case first =>
   have H := HC13.out
   clear HC13
   by_cases c16 : a0_0 = 1
   ·rw [if_pos c16] at H
    have c16b0 : (a0_0 == 1) = true := beq_iff_eq.mpr c16
    have c16b1 : (a0_0 != 1) = false := bne_eq_false_iff_eq.mpr c16
    clear c16
    (first|rw [c16b0]|(simp only [i64_w, i32_w]; rw [c16b0])|skip)
    have H' := aM H
    clear H
    go_wp2
    go_meet
    case rel => exact ⟨_, ((a0_0 == 1)), (by first|rfl|(simp; done)|(simp [*]; done)), H', ⟨by first|omega|exact Nat.le_refl _⟩, ⟨by (with_reducible repeat (first|refine bN ?_ _|refine bD ?_|refine bA ?_ _)); exact BK329.out⟩, ⟨by repeat (first|(with_reducible first|exact HB.out|apply lA|apply lN|apply lD|refine lS ?_ GE329.out)|exact HB.out)⟩⟩
   ·rw [if_neg c16] at H
    have c16b0 : (a0_0 == 1) = false := beq_eq_false_iff_ne.mpr c16
    have c16b1 : (a0_0 != 1) = true := bne_iff_ne.mpr c16
    (first|rw [c16b0]|(simp only [i64_w, i32_w]; rw [c16b0])|skip)
    have H' := aM H
    clear H
    go_wp2
    go_meet
    case rel => exact ⟨_, ((a0_0 == 3)), (by first|rfl|(simp; done)|(simp [*]; done)), H', ⟨by first|omega|exact Nat.le_refl _⟩, ⟨by (with_reducible repeat (first|refine bN ?_ _|refine bD ?_|refine bA ?_ _)); exact BK329.out⟩, ⟨by repeat (first|(with_reducible first|exact HB.out|apply lA|apply lN|apply lD|refine lS ?_ GE329.out)|exact HB.out)⟩⟩
  case rest =>
   clear HC13
   obtain ⟨kq, x20_12, rfl, HA, HJ12, BK329, HB⟩ := hcut
   cases kq with
  |zero => exact absurd HA.out (by simp [emenderref04_Right.j0])
  |succ kj12 =>
    have H := HA.out
    clear HA
    simp only [emenderref04_Right.j0] at H
    by_cases c17 : x20_12 = true
    ·subst c17
     have H1 : (if a0_1 ≥ 1 then (if a0_1 < 16 then (if a0_2 ≥ 0 then (if a0_2 ≤ 15 then (some (a0_3 == 0)) else (some false)) else (some false)) else (some false)) else (some false)) = some r := by rw [if_pos rfl] at H; exact H
     clear H
     have H := H1
     clear H1
     by_cases c18 : a0_1 ≥ 1
     ·rw [if_pos c18] at H
      have c18b0 : decide (1 ≤ a0_1) = true := decide_eq_true c18
      clear c18
      by_cases c19 : a0_1 < 16
      ·rw [if_pos c19] at H
       have c19b0 : decide (a0_1 < 16) = true := decide_eq_true c19
       clear c19
       by_cases c20 : a0_2 ≥ 0
       ·rw [if_pos c20] at H
        have c20b0 : decide (0 ≤ a0_2) = true := decide_eq_true c20
        clear c20
        by_cases c21 : a0_2 ≤ 15
        ·rw [if_pos c21] at H
         have c21b0 : decide (a0_2 ≤ 15) = true := decide_eq_true c21
         clear c21
         obtain rfl := Option.some.inj H
         obtain ⟨hcz22_0, hcz22_1, hcz22_2, hcz22_3, hfz22_0, hfz22_1, hfz22_2, hfz22_3⟩ := bx4z BK329.out
         go_wp2
         go_ret
         exact ⟨by first|rfl|(simp [errW_none, errW_some] <;> rfl)|(simp [*, errW_none, errW_some] <;> rfl), by repeat (first|(with_reducible first|exact HB.out|apply lA|apply lN|apply lD|refine lS ?_ GE329.out)|exact HB.out)⟩
        ·rw [if_neg c21] at H
         have c21b0 : decide (a0_2 ≤ 15) = false := decide_eq_false c21
         clear c21
         obtain rfl := Option.some.inj H
         obtain ⟨hcz23_0, hcz23_1, hcz23_2, hcz23_3, hfz23_0, hfz23_1, hfz23_2, hfz23_3⟩ := bx4z BK329.out
         go_wp2
         go_ret
         exact ⟨by first|rfl|(simp [errW_none, errW_some] <;> rfl)|(simp [*, errW_none, errW_some] <;> rfl), by repeat (first|(with_reducible first|exact HB.out|apply lA|apply lN|apply lD|refine lS ?_ GE329.out)|exact HB.out)⟩
       ·rw [if_neg c20] at H
        have c20b0 : decide (0 ≤ a0_2) = false := decide_eq_false c20
        clear c20
        obtain rfl := Option.some.inj H
        obtain ⟨hcz24_0, hcz24_1, hcz24_2, hcz24_3, hfz24_0, hfz24_1, hfz24_2, hfz24_3⟩ := bx4z BK329.out
        go_wp2
        go_ret
        exact ⟨by first|rfl|(simp [errW_none, errW_some] <;> rfl)|(simp [*, errW_none, errW_some] <;> rfl), by repeat (first|(with_reducible first|exact HB.out|apply lA|apply lN|apply lD|refine lS ?_ GE329.out)|exact HB.out)⟩
      ·rw [if_neg c19] at H
       have c19b0 : decide (a0_1 < 16) = false := decide_eq_false c19
       clear c19
       obtain rfl := Option.some.inj H
       obtain ⟨hcz25_0, hcz25_1, hcz25_2, hcz25_3, hfz25_0, hfz25_1, hfz25_2, hfz25_3⟩ := bx4z BK329.out
       go_wp2
       go_ret
       exact ⟨by first|rfl|(simp [errW_none, errW_some] <;> rfl)|(simp [*, errW_none, errW_some] <;> rfl), by repeat (first|(with_reducible first|exact HB.out|apply lA|apply lN|apply lD|refine lS ?_ GE329.out)|exact HB.out)⟩
     ·rw [if_neg c18] at H
      have c18b0 : decide (1 ≤ a0_1) = false := decide_eq_false c18
      clear c18
      obtain rfl := Option.some.inj H
      obtain ⟨hcz26_0, hcz26_1, hcz26_2, hcz26_3, hfz26_0, hfz26_1, hfz26_2, hfz26_3⟩ := bx4z BK329.out
      go_wp2
      go_ret
      exact ⟨by first|rfl|(simp [errW_none, errW_some] <;> rfl)|(simp [*, errW_none, errW_some] <;> rfl), by repeat (first|(with_reducible first|exact HB.out|apply lA|apply lN|apply lD|refine lS ?_ GE329.out)|exact HB.out)⟩
    ·replace c17 := Bool.eq_false_iff.mpr c17
     subst c17
     have H1 : (if a0_0 = 2 then (if a0_1 = 0 then (if a0_2 = 0 then (some (a0_3 == 0)) else (some false)) else (some false)) else (some false)) = some r := by rw [if_neg (show ¬ (false = true) by decide)] at H; exact H
     clear H
     have H := H1
     clear H1
     by_cases c27 : a0_0 = 2
     ·rw [if_pos c27] at H
      have c27b0 : (a0_0 == 2) = true := beq_iff_eq.mpr c27
      have c27b1 : (a0_0 != 2) = false := bne_eq_false_iff_eq.mpr c27
      clear c27
      by_cases c28 : a0_1 = 0
      ·rw [if_pos c28] at H
       have c28b0 : (a0_1 == 0) = true := beq_iff_eq.mpr c28
       have c28b1 : (a0_1 != 0) = false := bne_eq_false_iff_eq.mpr c28
       clear c28
       by_cases c29 : a0_2 = 0
       ·rw [if_pos c29] at H
        have c29b0 : (a0_2 == 0) = true := beq_iff_eq.mpr c29
        have c29b1 : (a0_2 != 0) = false := bne_eq_false_iff_eq.mpr c29
        clear c29
        obtain rfl := Option.some.inj H
        obtain ⟨hcz30_0, hcz30_1, hcz30_2, hcz30_3, hfz30_0, hfz30_1, hfz30_2, hfz30_3⟩ := bx4z BK329.out
        go_wp2
        go_ret
        exact ⟨by first|rfl|(simp [errW_none, errW_some] <;> rfl)|(simp [*, errW_none, errW_some] <;> rfl), by repeat (first|(with_reducible first|exact HB.out|apply lA|apply lN|apply lD|refine lS ?_ GE329.out)|exact HB.out)⟩
       ·rw [if_neg c29] at H
        have c29b0 : (a0_2 == 0) = false := beq_eq_false_iff_ne.mpr c29
        have c29b1 : (a0_2 != 0) = true := bne_iff_ne.mpr c29
        obtain rfl := Option.some.inj H
        obtain ⟨hcz31_0, hcz31_1, hcz31_2, hcz31_3, hfz31_0, hfz31_1, hfz31_2, hfz31_3⟩ := bx4z BK329.out
        go_wp2
        go_ret
        exact ⟨by first|rfl|(simp [errW_none, errW_some] <;> rfl)|(simp [*, errW_none, errW_some] <;> rfl), by repeat (first|(with_reducible first|exact HB.out|apply lA|apply lN|apply lD|refine lS ?_ GE329.out)|exact HB.out)⟩
      ·rw [if_neg c28] at H
       have c28b0 : (a0_1 == 0) = false := beq_eq_false_iff_ne.mpr c28
       have c28b1 : (a0_1 != 0) = true := bne_iff_ne.mpr c28
       obtain rfl := Option.some.inj H
       obtain ⟨hcz32_0, hcz32_1, hcz32_2, hcz32_3, hfz32_0, hfz32_1, hfz32_2, hfz32_3⟩ := bx4z BK329.out
       go_wp2
       go_ret
       exact ⟨by first|rfl|(simp [errW_none, errW_some] <;> rfl)|(simp [*, errW_none, errW_some] <;> rfl), by repeat (first|(with_reducible first|exact HB.out|apply lA|apply lN|apply lD|refine lS ?_ GE329.out)|exact HB.out)⟩
     ·rw [if_neg c27] at H
      have c27b0 : (a0_0 == 2) = false := beq_eq_false_iff_ne.mpr c27
      have c27b1 : (a0_0 != 2) = true := bne_iff_ne.mpr c27
      obtain rfl := Option.some.inj H
      go_wp2
      go_ret
      exact ⟨by first|rfl|(simp [errW_none, errW_some] <;> rfl)|(simp [*, errW_none, errW_some] <;> rfl), by repeat (first|(with_reducible first|exact HB.out|apply lA|apply lN|apply lD|refine lS ?_ GE329.out)|exact HB.out)⟩

end Go.Proofs.Ytjpmlggkhhoooaa.PDq
-- Written for this claim by a program (the kit's print, with hand-made contracts for what it does not take).
namespace Go.Proofs.Ytjpmlggkhhoooaa.PDq
open Go.RowKit Go.Proofs.YtjpmlggkhhoooaaW.PrintWords Go.Proofs.YtjpmlggkhhoooaaW.PrintLast Go.Proofs.YtjpmlggkhhoooaaW.PrintMore
attribute [local go_sem] max2_int min2_int max_two min_two max_three min_three max_four min_four   -- for this text's walks alone
set_option linter.unusedVariables false
set_option linter.unusedSimpArgs false

mutual
def emenderref04_Check.l0 : Nat → List (S64) → Int → Int → Option (Int × Int)
|0, _, _, _ => none
|k + 1, x0, x4, x5 => if x5 < (x0.length : Int) then (if 0 ≤ x5 then ((emenderref04_Right.f k ((rd_T64 x0 x5).f0) ((rd_T64 x0 x5).f1) ((rd_T64 x0 x5).f2) ((rd_T64 x0 x5).f3)).bind fun t333 => (if t333 = true then (if ((rd_T64 x0 x5).f0) = 2 then (emenderref04_Check.j1 k x0 x4 x5 (x4 == 0)) else (emenderref04_Check.j1 k x0 x4 x5 false)) else (emenderref04_Check.j1 k x0 x4 x5 true))) else (none)) else (if x4 > 0 then (some ((x0.length : Int), 3)) else (some ((x0.length : Int), 0)))
def emenderref04_Check.j1 : Nat → List (S64) → Int → Int → Bool → Option (Int × Int)
|0, _, _, _, _ => none
|k + 1, x0, x4, x5, x32 => if x32 = true then (some (x5, 4)) else (if 0 ≤ x5 then (if x5 < (x0.length : Int) then (if ((rd_T64 x0 x5).f0) = 1 then (emenderref04_Check.j2 k x0 (wrap64 (x4 + 1)) x5) else (emenderref04_Check.j2 k x0 x4 x5)) else (none)) else (none))
def emenderref04_Check.j2 : Nat → List (S64) → Int → Int → Option (Int × Int)
|0, _, _, _ => none
|k + 1, x0, x4, x5 => if 0 ≤ x5 then (if x5 < (x0.length : Int) then (if ((rd_T64 x0 x5).f0) = 2 then (if (wrap64 (x4 - 1)) > 32 then (some (x5, 8)) else (emenderref04_Check.l0 k x0 (wrap64 (x4 - 1)) (wrap64 (x5 + 1)))) else (if x4 > 32 then (some (x5, 8)) else (emenderref04_Check.l0 k x0 x4 (wrap64 (x5 + 1))))) else (none)) else (none)
end
def emenderref04_Check.f (k : Nat) (l0 : List (S64)) : Option (Int × Int) := if (l0.length : Int) > 2048 then (some (0, 2)) else (emenderref04_Check.l0 k l0 0 0)
theorem emenderref04_Check.mono_l : ∀ k, (∀ y0 y1 y2, LeO (emenderref04_Check.l0 k y0 y1 y2) (emenderref04_Check.l0 (k + 1) y0 y1 y2)) ∧ (∀ y0 y1 y2 y3, LeO (emenderref04_Check.j1 k y0 y1 y2 y3) (emenderref04_Check.j1 (k + 1) y0 y1 y2 y3)) ∧ (∀ y0 y1 y2, LeO (emenderref04_Check.j2 k y0 y1 y2) (emenderref04_Check.j2 (k + 1) y0 y1 y2))
|0 => ⟨fun _ _ _ r h => by simp [emenderref04_Check.l0] at h, fun _ _ _ _ r h => by simp [emenderref04_Check.j1] at h, fun _ _ _ r h => by simp [emenderref04_Check.j2] at h⟩
|k + 1 => by
  obtain ⟨ih0, ih1, ih2⟩ := emenderref04_Check.mono_l k
  refine ⟨?_, ?_, ?_⟩
  ·intro y0 y1 y2
   unfold emenderref04_Check.l0
   repeat' first
  |(with_reducible exact ih0 _ _ _)
  |(with_reducible exact ih1 _ _ _ _)
  |(with_reducible exact ih2 _ _ _)
  |(with_reducible exact emenderref04_Right.mono _ _ _ _ _)
  |(with_reducible exact LeO.refl _)
  |(with_reducible exact LeO.none _)
  |(with_reducible refine LeO.ite ?_ ?_)
  |(with_reducible refine LeO.bind ?_ (fun _ => ?_))
  |exact ih0 _ _ _
  |exact ih1 _ _ _ _
  |exact ih2 _ _ _
  |exact emenderref04_Right.mono _ _ _ _ _
  |exact LeO.none _
  |refine LeO.ite ?_ ?_
  |refine LeO.bind ?_ (fun _ => ?_)
  ·intro y0 y1 y2 y3
   unfold emenderref04_Check.j1
   repeat' first
  |(with_reducible exact ih0 _ _ _)
  |(with_reducible exact ih1 _ _ _ _)
  |(with_reducible exact ih2 _ _ _)
  |(with_reducible exact emenderref04_Right.mono _ _ _ _ _)
  |(with_reducible exact LeO.refl _)
  |(with_reducible exact LeO.none _)
  |(with_reducible refine LeO.ite ?_ ?_)
  |(with_reducible refine LeO.bind ?_ (fun _ => ?_))
  |exact ih0 _ _ _
  |exact ih1 _ _ _ _
  |exact ih2 _ _ _
  |exact emenderref04_Right.mono _ _ _ _ _
  |exact LeO.none _
  |refine LeO.ite ?_ ?_
  |refine LeO.bind ?_ (fun _ => ?_)
  ·intro y0 y1 y2
   unfold emenderref04_Check.j2
   repeat' first
  |(with_reducible exact ih0 _ _ _)
  |(with_reducible exact ih1 _ _ _ _)
  |(with_reducible exact ih2 _ _ _)
  |(with_reducible exact emenderref04_Right.mono _ _ _ _ _)
  |(with_reducible exact LeO.refl _)
  |(with_reducible exact LeO.none _)
  |(with_reducible refine LeO.ite ?_ ?_)
  |(with_reducible refine LeO.bind ?_ (fun _ => ?_))
  |exact ih0 _ _ _
  |exact ih1 _ _ _ _
  |exact ih2 _ _ _
  |exact emenderref04_Right.mono _ _ _ _ _
  |exact LeO.none _
  |refine LeO.ite ?_ ?_
  |refine LeO.bind ?_ (fun _ => ?_)
theorem emenderref04_Check.mono : ∀ a0 k, LeO (emenderref04_Check.f k a0) (emenderref04_Check.f (k + 1) a0) := by
 intro a0 k
 obtain ⟨ih0, ih1, ih2⟩ := emenderref04_Check.mono_l k
 unfold emenderref04_Check.f
 repeat' first
  |(with_reducible exact ih0 _ _ _)
  |(with_reducible exact ih1 _ _ _ _)
  |(with_reducible exact ih2 _ _ _)
  |(with_reducible exact emenderref04_Right.mono _ _ _ _ _)
  |(with_reducible exact LeO.refl _)
  |(with_reducible exact LeO.none _)
  |(with_reducible refine LeO.ite ?_ ?_)
  |(with_reducible refine LeO.bind ?_ (fun _ => ?_))
  |exact ih0 _ _ _
  |exact ih1 _ _ _ _
  |exact ih2 _ _ _
  |exact emenderref04_Right.mono _ _ _ _ _
  |exact LeO.none _
  |refine LeO.ite ?_ ?_
  |refine LeO.bind ?_ (fun _ => ?_)
set_option maxHeartbeats 8000000 in
set_option maxRecDepth 100000 in
theorem emenderref04_Check.calls (k : Nat) (A0 : Option Addr) (c0 : Nat) (l0 : List (S64)) (r1 : Int) (r2 : Int) (w : World) (hr0 : Kd.C k64 w A0 l0.length l0) (hc0 : l0.length ≤ c0) (h : emenderref04_Check.f k l0 = some (r1, r2)) :
  Calls Try.prog 56 #[.slice A0 l0.length c0] w fun e w' => e = .returned (.tuple #[.int .i64 r1, .int .i64 r2]) ∧ Below w.heap.size w w' := by
 have hu64 := Try.underlying64
 have HR0 := aM hr0
 have HC0 := aM hc0
 clear hr0 hc0
 have HB := aM (Below.refl w.heap.size w)
 have H : (if (l0.length : Int) > 2048 then (some (0, 2)) else (emenderref04_Check.l0 k l0 0 0)) = some (r1, r2) := h
 clear h
 by_cases c2 : (l0.length : Int) > 2048
 ·rw [if_pos c2] at H
  have c2b0 : decide (2048 < (l0.length : Int)) = true := decide_eq_true c2
  have c2b1 : decide (2048 < l0.length) = true := decide_eq_true (by omega)
  clear c2
  simp only [Option.some.injEq, Prod.mk.injEq] at H
  obtain ⟨rfl, rfl⟩ := H
  go_enter Try.func56, Try.ntmps56
  go_wp2
  go_ret2
  exact ⟨by first|rfl|(simp [errW_none, errW_some] <;> rfl)|(simp [*, errW_none, errW_some] <;> rfl), by repeat (first|(with_reducible first|exact HB.out|apply lA|apply lN|apply lD)|exact HB.out)⟩
 ·rw [if_neg c2] at H
  have c2b0 : decide (2048 < (l0.length : Int)) = false := decide_eq_false c2
  have c2b1 : decide (2048 < l0.length) = false := decide_eq_false (by omega)
  clear c2
  have H' := aM H
  clear H
  go_enter Try.func56, Try.ntmps56
  go_wp2
  go_loopg [4, 5] k (fun kq v4 v5 w' => ∃ (x4_1 : Int) (x5_1 : Int), v4 = .int .i64 x4_1 ∧ v5 = .int .i64 x5_1 ∧ Aside0 (emenderref04_Check.l0 kq l0 x4_1 x5_1 = some (r1, r2)) ∧ Aside0 (kq ≤ k) ∧ Aside0 (Below w.heap.size w w'))
  case atStart => exact ⟨(0), (0), (by first|rfl|(simp; done)|(simp [*]; done)), (by first|rfl|(simp; done)|(simp [*]; done)), H', ⟨Nat.le_refl _⟩, ⟨by repeat (first|(with_reducible first|exact HB.out|apply lA|apply lN|apply lD)|exact HB.out)⟩⟩
  case round =>
   clear H'
   obtain ⟨x4_1, x5_1, rfl, rfl, HA, HK1, HB⟩ := hrel
   cases gk with
  |zero => exact absurd HA.out (by simp [emenderref04_Check.l0])
  |succ k1 =>
    have H := HA.out
    clear HA
    simp only [emenderref04_Check.l0] at H
    by_cases c3 : x5_1 < (l0.length : Int)
    ·rw [if_pos c3] at H
     have c3b0 : decide (x5_1 < (l0.length : Int)) = true := decide_eq_true c3
     clear c3
     have HC4 := aM H
     clear H
     go_upto_region 7 with (fail)
     go_cut [32] (fun v32 wc => ∃ (kq : Nat) (x32_3 : Bool), v32 = .bool x32_3 ∧ Aside0 (emenderref04_Check.j1 kq l0 x4_1 x5_1 x32_3 = some (r1, r2)) ∧ Aside0 (kq ≤ k1) ∧ Aside0 (Below w.heap.size w wc))
     case first =>
      have H := HC4.out
      clear HC4
      replace H := ifS H; obtain ⟨c5, H⟩ := H
      have c5b0 : decide (0 ≤ x5_1) = true := decide_eq_true c5
      clear c5
      (first|rw [c5b0]|(simp only [i64_w, i32_w]; rw [c5b0])|skip)
      replace H := Option.bind_eq_some_iff.mp H
      obtain ⟨t333, A60, H⟩ := H
      replace H : (if t333 = true then (if ((rd_T64 l0 x5_1).f0) = 2 then (emenderref04_Check.j1 k1 l0 x4_1 x5_1 (x4_1 == 0)) else (emenderref04_Check.j1 k1 l0 x4_1 x5_1 false)) else (emenderref04_Check.j1 k1 l0 x4_1 x5_1 true)) = some (r1, r2) := H
      have A6 := aM A60
      clear A60
      by_cases c7 : t333 = true
      ·subst c7
       have H1 : (if ((rd_T64 l0 x5_1).f0) = 2 then (emenderref04_Check.j1 k1 l0 x4_1 x5_1 (x4_1 == 0)) else (emenderref04_Check.j1 k1 l0 x4_1 x5_1 false)) = some (r1, r2) := by rw [if_pos rfl] at H; exact H
       clear H
       have H := H1
       clear H1
       by_cases c8 : ((rd_T64 l0 x5_1).f0) = 2
       ·rw [if_pos c8] at H
        have c8b0 : (((rd_T64 l0 x5_1).f0) == 2) = true := beq_iff_eq.mpr c8
        have c8b1 : (((rd_T64 l0 x5_1).f0) != 2) = false := bne_eq_false_iff_eq.mpr c8
        clear c8
        have H' := aM H
        clear H
        have p332 : 0 ≤ (x5_1 : Int) := of_decide_eq_true (by first|(with_reducible assumption)|assumption)
        have q332 : x5_1 < (l0.length : Int) := of_decide_eq_true (by first|(with_reducible assumption)|assumption)
        obtain ⟨ad332, e332, hx332_0, hx332_1, hx332_2, hx332_3⟩ := at_T64 HR0.out x5_1 p332 q332
        cases e332
        replace hx332_0 := cB HB.out hx332_0
        replace hx332_1 := cB HB.out hx332_1
        replace hx332_2 := cB HB.out hx332_2
        replace hx332_3 := cB HB.out hx332_3
        replace p332 := eq_true p332
        replace q332 := eq_true q332
        go_wp2_with (first|((with_reducible refine gate_callee (f := 62) rfl ?_); refine goesL_ (some 19) rfl rfl Try.func62 (by kernel_rfl) rfl #[.agg #[.int .i64 ((rd_T64 l0 x5_1).f0), .int .i64 ((rd_T64 l0 x5_1).f1), .int .i64 ((rd_T64 l0 x5_1).f2), .int .i64 ((rd_T64 l0 x5_1).f3)]] rfl (by (try simp only [List.map_toArray, List.map_cons, List.map_nil]); first|done|rfl|(simp only [List.length_drop, List.length_take]; rfl)) ?_; (with_reducible refine (emenderref04_Right.calls k1 ((rd_T64 l0 x5_1).f0) ((rd_T64 l0 x5_1).f1) ((rd_T64 l0 x5_1).f2) ((rd_T64 l0 x5_1).f3) true _ A6.out).mono ?_); rintro e w9 ⟨rfl, hb⟩; refine ⟨_, rfl, ?_⟩; replace HB := aM (below_step (by repeat (first|(with_reducible first|exact HB.out|apply lA|apply lN|apply lD)|exact HB.out)) hb); (try clear hb); (try clear hb2); (try clear hk); (try clear hi); have p334 : 0 ≤ (x5_1 : Int) := of_decide_eq_true (by first|(with_reducible assumption)|assumption); have q334 : x5_1 < (l0.length : Int) := of_decide_eq_true (by first|(with_reducible assumption)|assumption); obtain ⟨ad334, e334, hx334_0, hx334_1, hx334_2, hx334_3⟩ := at_T64 HR0.out x5_1 p334 q334; obtain rfl : ad332 = ad334 := (by injection e334); replace hx334_0 := cB HB.out hx334_0; replace hx334_1 := cB HB.out hx334_1; replace hx334_2 := cB HB.out hx334_2; replace hx334_3 := cB HB.out hx334_3; replace p334 := eq_true p334; replace q334 := eq_true q334))
        go_meet
        case rel => exact ⟨_, ((x4_1 == 0)), (by first|rfl|(simp; done)|(simp [*]; done)), H', ⟨by have := HK1.out; first|omega|exact Nat.le_refl _⟩, ⟨by repeat (first|(with_reducible first|exact HB.out|apply lA|apply lN|apply lD)|exact HB.out)⟩⟩
       ·rw [if_neg c8] at H
        have c8b0 : (((rd_T64 l0 x5_1).f0) == 2) = false := beq_eq_false_iff_ne.mpr c8
        have c8b1 : (((rd_T64 l0 x5_1).f0) != 2) = true := bne_iff_ne.mpr c8
        have H' := aM H
        clear H
        have p332 : 0 ≤ (x5_1 : Int) := of_decide_eq_true (by first|(with_reducible assumption)|assumption)
        have q332 : x5_1 < (l0.length : Int) := of_decide_eq_true (by first|(with_reducible assumption)|assumption)
        obtain ⟨ad332, e332, hx332_0, hx332_1, hx332_2, hx332_3⟩ := at_T64 HR0.out x5_1 p332 q332
        cases e332
        replace hx332_0 := cB HB.out hx332_0
        replace hx332_1 := cB HB.out hx332_1
        replace hx332_2 := cB HB.out hx332_2
        replace hx332_3 := cB HB.out hx332_3
        replace p332 := eq_true p332
        replace q332 := eq_true q332
        go_wp2_with (first|((with_reducible refine gate_callee (f := 62) rfl ?_); refine goesL_ (some 19) rfl rfl Try.func62 (by kernel_rfl) rfl #[.agg #[.int .i64 ((rd_T64 l0 x5_1).f0), .int .i64 ((rd_T64 l0 x5_1).f1), .int .i64 ((rd_T64 l0 x5_1).f2), .int .i64 ((rd_T64 l0 x5_1).f3)]] rfl (by (try simp only [List.map_toArray, List.map_cons, List.map_nil]); first|done|rfl|(simp only [List.length_drop, List.length_take]; rfl)) ?_; (with_reducible refine (emenderref04_Right.calls k1 ((rd_T64 l0 x5_1).f0) ((rd_T64 l0 x5_1).f1) ((rd_T64 l0 x5_1).f2) ((rd_T64 l0 x5_1).f3) true _ A6.out).mono ?_); rintro e w10 ⟨rfl, hb⟩; refine ⟨_, rfl, ?_⟩; replace HB := aM (below_step (by repeat (first|(with_reducible first|exact HB.out|apply lA|apply lN|apply lD)|exact HB.out)) hb); (try clear hb); (try clear hb2); (try clear hk); (try clear hi); have p334 : 0 ≤ (x5_1 : Int) := of_decide_eq_true (by first|(with_reducible assumption)|assumption); have q334 : x5_1 < (l0.length : Int) := of_decide_eq_true (by first|(with_reducible assumption)|assumption); obtain ⟨ad334, e334, hx334_0, hx334_1, hx334_2, hx334_3⟩ := at_T64 HR0.out x5_1 p334 q334; obtain rfl : ad332 = ad334 := (by injection e334); replace hx334_0 := cB HB.out hx334_0; replace hx334_1 := cB HB.out hx334_1; replace hx334_2 := cB HB.out hx334_2; replace hx334_3 := cB HB.out hx334_3; replace p334 := eq_true p334; replace q334 := eq_true q334))
        go_meet
        case rel => exact ⟨_, (false), (by first|rfl|(simp; done)|(simp [*]; done)), H', ⟨by have := HK1.out; first|omega|exact Nat.le_refl _⟩, ⟨by repeat (first|(with_reducible first|exact HB.out|apply lA|apply lN|apply lD)|exact HB.out)⟩⟩
      ·replace c7 := Bool.eq_false_iff.mpr c7
       subst c7
       have H1 : (emenderref04_Check.j1 k1 l0 x4_1 x5_1 true) = some (r1, r2) := by rw [if_neg (show ¬ (false = true) by decide)] at H; exact H
       clear H
       have H := H1
       clear H1
       have H' := aM H
       clear H
       have p332 : 0 ≤ (x5_1 : Int) := of_decide_eq_true (by first|(with_reducible assumption)|assumption)
       have q332 : x5_1 < (l0.length : Int) := of_decide_eq_true (by first|(with_reducible assumption)|assumption)
       obtain ⟨ad332, e332, hx332_0, hx332_1, hx332_2, hx332_3⟩ := at_T64 HR0.out x5_1 p332 q332
       cases e332
       replace hx332_0 := cB HB.out hx332_0
       replace hx332_1 := cB HB.out hx332_1
       replace hx332_2 := cB HB.out hx332_2
       replace hx332_3 := cB HB.out hx332_3
       replace p332 := eq_true p332
       replace q332 := eq_true q332
       go_wp2_with (first|((with_reducible refine gate_callee (f := 62) rfl ?_); refine goesL_ (some 19) rfl rfl Try.func62 (by kernel_rfl) rfl #[.agg #[.int .i64 ((rd_T64 l0 x5_1).f0), .int .i64 ((rd_T64 l0 x5_1).f1), .int .i64 ((rd_T64 l0 x5_1).f2), .int .i64 ((rd_T64 l0 x5_1).f3)]] rfl (by (try simp only [List.map_toArray, List.map_cons, List.map_nil]); first|done|rfl|(simp only [List.length_drop, List.length_take]; rfl)) ?_; (with_reducible refine (emenderref04_Right.calls k1 ((rd_T64 l0 x5_1).f0) ((rd_T64 l0 x5_1).f1) ((rd_T64 l0 x5_1).f2) ((rd_T64 l0 x5_1).f3) false _ A6.out).mono ?_); rintro e w11 ⟨rfl, hb⟩; refine ⟨_, rfl, ?_⟩; replace HB := aM (below_step (by repeat (first|(with_reducible first|exact HB.out|apply lA|apply lN|apply lD)|exact HB.out)) hb); (try clear hb); (try clear hb2); (try clear hk); (try clear hi)))
       go_meet
       case rel => exact ⟨_, (true), (by first|rfl|(simp; done)|(simp [*]; done)), H', ⟨by have := HK1.out; first|omega|exact Nat.le_refl _⟩, ⟨by repeat (first|(with_reducible first|exact HB.out|apply lA|apply lN|apply lD)|exact HB.out)⟩⟩
     case rest =>
      clear HC4
      obtain ⟨kq, x32_3, rfl, HA, HJ3, HB⟩ := hcut
      cases kq with
     |zero => exact absurd HA.out (by simp [emenderref04_Check.j1])
     |succ kj3 =>
       have H := HA.out
       clear HA
       simp only [emenderref04_Check.j1] at H
       by_cases c12 : x32_3 = true
       ·subst c12
        have H1 : (some (x5_1, 4)) = some (r1, r2) := by rw [if_pos rfl] at H; exact H
        clear H
        have H := H1
        clear H1
        simp only [Option.some.injEq, Prod.mk.injEq] at H
        obtain ⟨rfl, rfl⟩ := H
        go_wp2
        go_ret2
        exact ⟨by first|rfl|(simp [errW_none, errW_some] <;> rfl)|(simp [*, errW_none, errW_some] <;> rfl), by repeat (first|(with_reducible first|exact HB.out|apply lA|apply lN|apply lD)|exact HB.out)⟩
       ·replace c12 := Bool.eq_false_iff.mpr c12
        subst c12
        have H1 : (if 0 ≤ x5_1 then (if x5_1 < (l0.length : Int) then (if ((rd_T64 l0 x5_1).f0) = 1 then (emenderref04_Check.j2 kj3 l0 (wrap64 (x4_1 + 1)) x5_1) else (emenderref04_Check.j2 kj3 l0 x4_1 x5_1)) else (none)) else (none)) = some (r1, r2) := by rw [if_neg (show ¬ (false = true) by decide)] at H; exact H
        clear H
        have H := H1
        clear H1
        replace H := ifS H; obtain ⟨c13, H⟩ := H
        have c13b0 : decide (0 ≤ x5_1) = true := decide_eq_true c13
        clear c13
        replace H := ifS H; obtain ⟨c14, H⟩ := H
        have c14b0 : decide (x5_1 < (l0.length : Int)) = true := decide_eq_true c14
        clear c14
        have HC15 := aM H
        clear H
        have p335 : 0 ≤ (x5_1 : Int) := of_decide_eq_true (by first|(with_reducible assumption)|assumption)
        have q335 : x5_1 < (l0.length : Int) := of_decide_eq_true (by first|(with_reducible assumption)|assumption)
        obtain ⟨ad335, e335, hx335_0, hx335_1, hx335_2, hx335_3⟩ := at_T64 HR0.out x5_1 p335 q335
        cases e335
        replace hx335_0 := cB HB.out hx335_0
        replace hx335_1 := cB HB.out hx335_1
        replace hx335_2 := cB HB.out hx335_2
        replace hx335_3 := cB HB.out hx335_3
        replace p335 := eq_true p335
        replace q335 := eq_true q335
        go_upto_if 39 with (fail)
        go_cut [4] (fun v4 wc => ∃ (kq : Nat) (x4_14 : Int), v4 = .int .i64 x4_14 ∧ Aside0 (emenderref04_Check.j2 kq l0 x4_14 x5_1 = some (r1, r2)) ∧ Aside0 (kq ≤ kj3) ∧ Aside0 (Below w.heap.size w wc))
        case first =>
         have H := HC15.out
         clear HC15
         by_cases c16 : ((rd_T64 l0 x5_1).f0) = 1
         ·rw [if_pos c16] at H
          have c16b0 : (((rd_T64 l0 x5_1).f0) == 1) = true := beq_iff_eq.mpr c16
          have c16b1 : (((rd_T64 l0 x5_1).f0) != 1) = false := bne_eq_false_iff_eq.mpr c16
          clear c16
          (first|rw [c16b0]|(simp only [i64_w, i32_w]; rw [c16b0])|skip)
          have H' := aM H
          clear H
          go_wp2
          go_meet
          case rel => exact ⟨_, (wrap64 (x4_1 + 1)), (by first|rfl|(simp; done)|(simp [*]; done)), H', ⟨by have := HK1.out; have := HJ3.out; first|omega|exact Nat.le_refl _⟩, ⟨by repeat (first|(with_reducible first|exact HB.out|apply lA|apply lN|apply lD)|exact HB.out)⟩⟩
         ·rw [if_neg c16] at H
          have c16b0 : (((rd_T64 l0 x5_1).f0) == 1) = false := beq_eq_false_iff_ne.mpr c16
          have c16b1 : (((rd_T64 l0 x5_1).f0) != 1) = true := bne_iff_ne.mpr c16
          (first|rw [c16b0]|(simp only [i64_w, i32_w]; rw [c16b0])|skip)
          have H' := aM H
          clear H
          go_wp2
          go_meet
          case rel => exact ⟨_, (x4_1), (by first|rfl|(simp; done)|(simp [*]; done)), H', ⟨by have := HK1.out; have := HJ3.out; first|omega|exact Nat.le_refl _⟩, ⟨by repeat (first|(with_reducible first|exact HB.out|apply lA|apply lN|apply lD)|exact HB.out)⟩⟩
        case rest =>
         clear HC15
         obtain ⟨kq, x4_14, rfl, HA, HJ14, HB⟩ := hcut
         cases kq with
        |zero => exact absurd HA.out (by simp [emenderref04_Check.j2])
        |succ kj14 =>
          have H := HA.out
          clear HA
          simp only [emenderref04_Check.j2] at H
          replace H := ifS H; obtain ⟨c17, H⟩ := H
          have c17b0 : decide (0 ≤ x5_1) = true := decide_eq_true c17
          clear c17
          replace H := ifS H; obtain ⟨c18, H⟩ := H
          have c18b0 : decide (x5_1 < (l0.length : Int)) = true := decide_eq_true c18
          clear c18
          by_cases c19 : ((rd_T64 l0 x5_1).f0) = 2
          ·rw [if_pos c19] at H
           have c19b0 : (((rd_T64 l0 x5_1).f0) == 2) = true := beq_iff_eq.mpr c19
           have c19b1 : (((rd_T64 l0 x5_1).f0) != 2) = false := bne_eq_false_iff_eq.mpr c19
           clear c19
           by_cases c20 : (wrap64 (x4_14 - 1)) > 32
           ·rw [if_pos c20] at H
            have c20b0 : decide (32 < (wrap64 (x4_14 - 1))) = true := decide_eq_true c20
            clear c20
            simp only [Option.some.injEq, Prod.mk.injEq] at H
            obtain ⟨rfl, rfl⟩ := H
            have p336 : 0 ≤ (x5_1 : Int) := of_decide_eq_true (by first|(with_reducible assumption)|assumption)
            have q336 : x5_1 < (l0.length : Int) := of_decide_eq_true (by first|(with_reducible assumption)|assumption)
            obtain ⟨ad336, e336, hx336_0, hx336_1, hx336_2, hx336_3⟩ := at_T64 HR0.out x5_1 p336 q336
            obtain rfl : ad335 = ad336 := (by injection e336)
            replace hx336_0 := cB HB.out hx336_0
            replace hx336_1 := cB HB.out hx336_1
            replace hx336_2 := cB HB.out hx336_2
            replace hx336_3 := cB HB.out hx336_3
            replace p336 := eq_true p336
            replace q336 := eq_true q336
            go_wp2
            go_ret2
            exact ⟨by first|rfl|(simp [errW_none, errW_some] <;> rfl)|(simp [*, errW_none, errW_some] <;> rfl), by repeat (first|(with_reducible first|exact HB.out|apply lA|apply lN|apply lD)|exact HB.out)⟩
           ·rw [if_neg c20] at H
            have c20b0 : decide (32 < (wrap64 (x4_14 - 1))) = false := decide_eq_false c20
            clear c20
            have H' := aM H
            clear H
            have p336 : 0 ≤ (x5_1 : Int) := of_decide_eq_true (by first|(with_reducible assumption)|assumption)
            have q336 : x5_1 < (l0.length : Int) := of_decide_eq_true (by first|(with_reducible assumption)|assumption)
            obtain ⟨ad336, e336, hx336_0, hx336_1, hx336_2, hx336_3⟩ := at_T64 HR0.out x5_1 p336 q336
            obtain rfl : ad335 = ad336 := (by injection e336)
            replace hx336_0 := cB HB.out hx336_0
            replace hx336_1 := cB HB.out hx336_1
            replace hx336_2 := cB HB.out hx336_2
            replace hx336_3 := cB HB.out hx336_3
            replace p336 := eq_true p336
            replace q336 := eq_true q336
            go_wp2
            go_roundg kj14
            case measure => have := HK1.out; have := HJ3.out; have := HJ14.out; omega
            case rel => exact ⟨(wrap64 (x4_14 - 1)), (wrap64 (x5_1 + 1)), (by first|rfl|(simp; done)|(simp [*]; done)), (by first|rfl|(simp; done)|(simp [*]; done)), H', ⟨by have := HK1.out; have := HJ3.out; have := HJ14.out; omega⟩, ⟨by repeat (first|(with_reducible first|exact HB.out|apply lA|apply lN|apply lD)|exact HB.out)⟩⟩
          ·rw [if_neg c19] at H
           have c19b0 : (((rd_T64 l0 x5_1).f0) == 2) = false := beq_eq_false_iff_ne.mpr c19
           have c19b1 : (((rd_T64 l0 x5_1).f0) != 2) = true := bne_iff_ne.mpr c19
           by_cases c21 : x4_14 > 32
           ·rw [if_pos c21] at H
            have c21b0 : decide (32 < x4_14) = true := decide_eq_true c21
            clear c21
            simp only [Option.some.injEq, Prod.mk.injEq] at H
            obtain ⟨rfl, rfl⟩ := H
            have p336 : 0 ≤ (x5_1 : Int) := of_decide_eq_true (by first|(with_reducible assumption)|assumption)
            have q336 : x5_1 < (l0.length : Int) := of_decide_eq_true (by first|(with_reducible assumption)|assumption)
            obtain ⟨ad336, e336, hx336_0, hx336_1, hx336_2, hx336_3⟩ := at_T64 HR0.out x5_1 p336 q336
            obtain rfl : ad335 = ad336 := (by injection e336)
            replace hx336_0 := cB HB.out hx336_0
            replace hx336_1 := cB HB.out hx336_1
            replace hx336_2 := cB HB.out hx336_2
            replace hx336_3 := cB HB.out hx336_3
            replace p336 := eq_true p336
            replace q336 := eq_true q336
            go_wp2
            go_ret2
            exact ⟨by first|rfl|(simp [errW_none, errW_some] <;> rfl)|(simp [*, errW_none, errW_some] <;> rfl), by repeat (first|(with_reducible first|exact HB.out|apply lA|apply lN|apply lD)|exact HB.out)⟩
           ·rw [if_neg c21] at H
            have c21b0 : decide (32 < x4_14) = false := decide_eq_false c21
            clear c21
            have H' := aM H
            clear H
            have p336 : 0 ≤ (x5_1 : Int) := of_decide_eq_true (by first|(with_reducible assumption)|assumption)
            have q336 : x5_1 < (l0.length : Int) := of_decide_eq_true (by first|(with_reducible assumption)|assumption)
            obtain ⟨ad336, e336, hx336_0, hx336_1, hx336_2, hx336_3⟩ := at_T64 HR0.out x5_1 p336 q336
            obtain rfl : ad335 = ad336 := (by injection e336)
            replace hx336_0 := cB HB.out hx336_0
            replace hx336_1 := cB HB.out hx336_1
            replace hx336_2 := cB HB.out hx336_2
            replace hx336_3 := cB HB.out hx336_3
            replace p336 := eq_true p336
            replace q336 := eq_true q336
            go_wp2
            go_roundg kj14
            case measure => have := HK1.out; have := HJ3.out; have := HJ14.out; omega
            case rel => exact ⟨(x4_14), (wrap64 (x5_1 + 1)), (by first|rfl|(simp; done)|(simp [*]; done)), (by first|rfl|(simp; done)|(simp [*]; done)), H', ⟨by have := HK1.out; have := HJ3.out; have := HJ14.out; omega⟩, ⟨by repeat (first|(with_reducible first|exact HB.out|apply lA|apply lN|apply lD)|exact HB.out)⟩⟩
    ·rw [if_neg c3] at H
     have c3b0 : decide (x5_1 < (l0.length : Int)) = false := decide_eq_false c3
     clear c3
     by_cases c22 : x4_1 > 0
     ·rw [if_pos c22] at H
      have c22b0 : decide (0 < x4_1) = true := decide_eq_true c22
      clear c22
      simp only [Option.some.injEq, Prod.mk.injEq] at H
      obtain ⟨rfl, rfl⟩ := H
      go_wp2
      go_ret2
      exact ⟨by first|rfl|(simp [errW_none, errW_some] <;> rfl)|(simp [*, errW_none, errW_some] <;> rfl), by repeat (first|(with_reducible first|exact HB.out|apply lA|apply lN|apply lD)|exact HB.out)⟩
     ·rw [if_neg c22] at H
      have c22b0 : decide (0 < x4_1) = false := decide_eq_false c22
      clear c22
      simp only [Option.some.injEq, Prod.mk.injEq] at H
      obtain ⟨rfl, rfl⟩ := H
      go_wp2
      go_ret2
      exact ⟨by first|rfl|(simp [errW_none, errW_some] <;> rfl)|(simp [*, errW_none, errW_some] <;> rfl), by repeat (first|(with_reducible first|exact HB.out|apply lA|apply lN|apply lD)|exact HB.out)⟩

end Go.Proofs.Ytjpmlggkhhoooaa.PDq
-- Written for this claim by a program (the kit's print, with hand-made contracts for what it does not take).
namespace Go.Proofs.Ytjpmlggkhhoooaa.PDq
open Go.RowKit Go.Proofs.YtjpmlggkhhoooaaW.PrintWords Go.Proofs.YtjpmlggkhhoooaaW.PrintLast Go.Proofs.YtjpmlggkhhoooaaW.PrintMore
attribute [local go_sem] max2_int min2_int max_two min_two max_three min_three max_four min_four   -- for this text's walks alone
set_option linter.unusedVariables false
set_option linter.unusedSimpArgs false

def emenderref23_both.f (k : Nat) (l0 : List (S64)) (l1 : List (S64)) : Option (Int) := (emenderref04_Check.f k l0).bind fun bt337 => (if bt337.2 = 0 then ((emenderref04_Check.f k l1).bind fun bt339 => (some bt339.2)) else (some bt337.2))
theorem emenderref23_both.mono : ∀ a0 a1 k, LeO (emenderref23_both.f k a0 a1) (emenderref23_both.f (k + 1) a0 a1) := by
 intro a0 a1 k
 unfold emenderref23_both.f
 repeat' first
  |(with_reducible exact emenderref04_Check.mono _ _)
  |(with_reducible exact LeO.refl _)
  |(with_reducible exact LeO.none _)
  |(with_reducible refine LeO.ite ?_ ?_)
  |(with_reducible refine LeO.bind ?_ (fun _ => ?_))
  |exact emenderref04_Check.mono _ _
  |exact LeO.none _
  |refine LeO.ite ?_ ?_
  |refine LeO.bind ?_ (fun _ => ?_)
set_option maxHeartbeats 8000000 in
set_option maxRecDepth 100000 in
theorem emenderref23_both.calls (k : Nat) (A0 : Option Addr) (c0 : Nat) (l0 : List (S64)) (A1 : Option Addr) (c1 : Nat) (l1 : List (S64)) (r : Int) (w : World) (hr0 : Kd.C k64 w A0 l0.length l0) (hc0 : l0.length ≤ c0) (hr1 : Kd.C k64 w A1 l1.length l1) (hc1 : l1.length ≤ c1) (h : emenderref23_both.f k l0 l1 = some r) :
  Calls Try.prog 44 #[.slice A0 l0.length c0, .slice A1 l1.length c1] w fun e w' => e = .returned (.int .i64 r) ∧ Below w.heap.size w w' := by
 have HR0 := aM hr0
 have HC0 := aM hc0
 clear hr0 hc0
 have HR1 := aM hr1
 have HC1 := aM hc1
 clear hr1 hc1
 have HB := aM (Below.refl w.heap.size w)
 have H : ((emenderref04_Check.f k l0).bind fun bt337 => (if bt337.2 = 0 then ((emenderref04_Check.f k l1).bind fun bt339 => (some bt339.2)) else (some bt337.2))) = some r := h
 clear h
 replace H := Option.bind_eq_some_iff.mp H
 obtain ⟨⟨t337, t338⟩, A30, H⟩ := H
 replace H : (if t338 = 0 then ((emenderref04_Check.f k l1).bind fun bt339 => (some bt339.2)) else (some t338)) = some r := H
 have A3 := aM A30
 clear A30
 by_cases c4 : t338 = 0
 ·rw [if_pos c4] at H
  have c4b0 : (t338 == 0) = true := beq_iff_eq.mpr c4
  have c4b1 : (t338 != 0) = false := bne_eq_false_iff_eq.mpr c4
  clear c4
  replace H := Option.bind_eq_some_iff.mp H
  obtain ⟨⟨t339, t340⟩, A50, H⟩ := H
  replace H : (some t340) = some r := H
  have A5 := aM A50
  clear A50
  obtain rfl := Option.some.inj H
  go_enter Try.func44, Try.ntmps44
  go_wp2_with (first|((with_reducible refine gate_callee (f := 56) rfl ?_); refine goesL_ (some 9) rfl rfl Try.func56 (by kernel_rfl) rfl #[.slice A0 l0.length c0] rfl (by (try simp only [List.map_toArray, List.map_cons, List.map_nil]); first|done|rfl|(simp only [List.length_drop, List.length_take]; rfl)) ?_; (with_reducible refine (emenderref04_Check.calls k _ _ l0 t337 t338 _ ?side1 ?side2 A3.out).mono ?_); (case side1 => repeat (first|exact HR0.out|(with_reducible refine Kd.C_alloc ?_ _)|(with_reducible refine Kd.C_drewN ?_ _)|(with_reducible refine Kd.C_drew ?_))); (case side2 => exact HC0.out); rintro e w6 ⟨rfl, hb⟩; refine ⟨_, rfl, ?_⟩; replace HB := aM (below_step (by repeat (first|(with_reducible first|exact HB.out|apply lA|apply lN|apply lD)|exact HB.out)) hb); (try clear hb); (try clear hb2); (try clear hk); (try clear hi))|((with_reducible refine gate_callee (f := 56) rfl ?_); refine goesL_ (some 16) rfl rfl Try.func56 (by kernel_rfl) rfl #[.slice A1 l1.length c1] rfl (by (try simp only [List.map_toArray, List.map_cons, List.map_nil]); first|done|rfl|(simp only [List.length_drop, List.length_take]; rfl)) ?_; (with_reducible refine (emenderref04_Check.calls k _ _ l1 t339 t340 _ ?side1 ?side2 A5.out).mono ?_); (case side1 => repeat (first|exact (Kd.C_below HR1.out HB.out)|(with_reducible refine Kd.C_alloc ?_ _)|(with_reducible refine Kd.C_drewN ?_ _)|(with_reducible refine Kd.C_drew ?_))); (case side2 => exact HC1.out); rintro e w7 ⟨rfl, hb⟩; refine ⟨_, rfl, ?_⟩; replace HB := aM (below_step (by repeat (first|(with_reducible first|exact HB.out|apply lA|apply lN|apply lD)|exact HB.out)) hb); (try clear hb); (try clear hb2); (try clear hk); (try clear hi)))
  go_ret
  exact ⟨by first|rfl|(simp [errW_none, errW_some] <;> rfl)|(simp [*, errW_none, errW_some] <;> rfl), by repeat (first|(with_reducible first|exact HB.out|apply lA|apply lN|apply lD)|exact HB.out)⟩
 ·rw [if_neg c4] at H
  have c4b0 : (t338 == 0) = false := beq_eq_false_iff_ne.mpr c4
  have c4b1 : (t338 != 0) = true := bne_iff_ne.mpr c4
  obtain rfl := Option.some.inj H
  go_enter Try.func44, Try.ntmps44
  go_wp2_with (first|((with_reducible refine gate_callee (f := 56) rfl ?_); refine goesL_ (some 9) rfl rfl Try.func56 (by kernel_rfl) rfl #[.slice A0 l0.length c0] rfl (by (try simp only [List.map_toArray, List.map_cons, List.map_nil]); first|done|rfl|(simp only [List.length_drop, List.length_take]; rfl)) ?_; (with_reducible refine (emenderref04_Check.calls k _ _ l0 t337 t338 _ ?side1 ?side2 A3.out).mono ?_); (case side1 => repeat (first|exact HR0.out|(with_reducible refine Kd.C_alloc ?_ _)|(with_reducible refine Kd.C_drewN ?_ _)|(with_reducible refine Kd.C_drew ?_))); (case side2 => exact HC0.out); rintro e w8 ⟨rfl, hb⟩; refine ⟨_, rfl, ?_⟩; replace HB := aM (below_step (by repeat (first|(with_reducible first|exact HB.out|apply lA|apply lN|apply lD)|exact HB.out)) hb); (try clear hb); (try clear hb2); (try clear hk); (try clear hi)))
  go_ret
  exact ⟨by first|rfl|(simp [errW_none, errW_some] <;> rfl)|(simp [*, errW_none, errW_some] <;> rfl), by repeat (first|(with_reducible first|exact HB.out|apply lA|apply lN|apply lD)|exact HB.out)⟩

end Go.Proofs.Ytjpmlggkhhoooaa.PDq
-- Written for this claim by a program (the kit's print, with hand-made contracts for what it does not take).
namespace Go.Proofs.Ytjpmlggkhhoooaa.PDq
open Go.RowKit Go.Proofs.YtjpmlggkhhoooaaW.PrintWords Go.Proofs.YtjpmlggkhhoooaaW.PrintLast Go.Proofs.YtjpmlggkhhoooaaW.PrintMore
attribute [local go_sem] max2_int min2_int max_two min_two max_three min_three max_four min_four   -- for this text's walks alone
set_option linter.unusedVariables false
set_option linter.unusedSimpArgs false

mutual
def emenderref04_open.l0 : Nat → List (S64) → Int → List Int → Int → Option (List Int)
|0, _, _, _, _ => none
|k + 1, x0, x1, x5, x6 => if x6 < x1 then (if x6 < (x0.length : Int) then (emenderref04_open.j1 k x0 x1 x5 x6 (decide (x1 ≤ (x0.length : Int)))) else (emenderref04_open.j1 k x0 x1 x5 x6 false)) else (emenderref04_open.j1 k x0 x1 x5 x6 false)
def emenderref04_open.j1 : Nat → List (S64) → Int → List Int → Int → Bool → Option (List Int)
|0, _, _, _, _, _ => none
|k + 1, x0, x1, x5, x6, x21 => if x21 = true then (if 0 ≤ x6 then (if x6 < (x0.length : Int) then (if ((rd_T64 x0 x6).f0) = 1 then (if x5.length < 17592186044416 then ((some (x5 ++ [x6] : List Int)).bind fun y342 => (if ((rd_T64 x0 x6).f0) = 2 then (if (y342.length : Int) > 0 then (if 0 ≤ (wrap64 ((y342.length : Int) - 1)) then (if (wrap64 ((y342.length : Int) - 1)) ≤ (y342.length : Int) then (emenderref04_open.l0 k x0 x1 (y342.take ((wrap64 ((y342.length : Int) - 1)) : Int).toNat) (wrap64 (x6 + 1))) else (none)) else (none)) else (emenderref04_open.l0 k x0 x1 y342 (wrap64 (x6 + 1)))) else (emenderref04_open.l0 k x0 x1 y342 (wrap64 (x6 + 1))))) else (none)) else (if ((rd_T64 x0 x6).f0) = 2 then (if (x5.length : Int) > 0 then (if 0 ≤ (wrap64 ((x5.length : Int) - 1)) then (if (wrap64 ((x5.length : Int) - 1)) ≤ (x5.length : Int) then (emenderref04_open.l0 k x0 x1 (x5.take ((wrap64 ((x5.length : Int) - 1)) : Int).toNat) (wrap64 (x6 + 1))) else (none)) else (none)) else (emenderref04_open.l0 k x0 x1 x5 (wrap64 (x6 + 1)))) else (emenderref04_open.l0 k x0 x1 x5 (wrap64 (x6 + 1))))) else (none)) else (none)) else (some x5)
end
def emenderref04_open.f (k : Nat) (l0 : List (S64)) (a1 : Int) : Option (List Int) := emenderref04_open.l0 k l0 a1 ([] : List Int) 0
theorem emenderref04_open.mono_l : ∀ k, (∀ y0 y1 y2 y3, LeO (emenderref04_open.l0 k y0 y1 y2 y3) (emenderref04_open.l0 (k + 1) y0 y1 y2 y3)) ∧ (∀ y0 y1 y2 y3 y4, LeO (emenderref04_open.j1 k y0 y1 y2 y3 y4) (emenderref04_open.j1 (k + 1) y0 y1 y2 y3 y4))
|0 => ⟨fun _ _ _ _ r h => by simp [emenderref04_open.l0] at h, fun _ _ _ _ _ r h => by simp [emenderref04_open.j1] at h⟩
|k + 1 => by
  obtain ⟨ih0, ih1⟩ := emenderref04_open.mono_l k
  refine ⟨?_, ?_⟩
  ·intro y0 y1 y2 y3
   unfold emenderref04_open.l0
   repeat' first
  |(with_reducible exact ih0 _ _ _ _)
  |(with_reducible exact ih1 _ _ _ _ _)
  |(with_reducible exact LeO.refl _)
  |(with_reducible exact LeO.none _)
  |(with_reducible refine LeO.ite ?_ ?_)
  |(with_reducible refine LeO.bind ?_ (fun _ => ?_))
  |exact ih0 _ _ _ _
  |exact ih1 _ _ _ _ _
  |exact LeO.none _
  |refine LeO.ite ?_ ?_
  |refine LeO.bind ?_ (fun _ => ?_)
  ·intro y0 y1 y2 y3 y4
   unfold emenderref04_open.j1
   repeat' first
  |(with_reducible exact ih0 _ _ _ _)
  |(with_reducible exact ih1 _ _ _ _ _)
  |(with_reducible exact LeO.refl _)
  |(with_reducible exact LeO.none _)
  |(with_reducible refine LeO.ite ?_ ?_)
  |(with_reducible refine LeO.bind ?_ (fun _ => ?_))
  |exact ih0 _ _ _ _
  |exact ih1 _ _ _ _ _
  |exact LeO.none _
  |refine LeO.ite ?_ ?_
  |refine LeO.bind ?_ (fun _ => ?_)
theorem emenderref04_open.mono : ∀ a0 a1 k, LeO (emenderref04_open.f k a0 a1) (emenderref04_open.f (k + 1) a0 a1) := by
 intro a0 a1 k
 obtain ⟨ih0, ih1⟩ := emenderref04_open.mono_l k
 unfold emenderref04_open.f
 repeat' first
  |(with_reducible exact ih0 _ _ _ _)
  |(with_reducible exact ih1 _ _ _ _ _)
  |(with_reducible exact LeO.refl _)
  |(with_reducible exact LeO.none _)
  |(with_reducible refine LeO.ite ?_ ?_)
  |(with_reducible refine LeO.bind ?_ (fun _ => ?_))
  |exact ih0 _ _ _ _
  |exact ih1 _ _ _ _ _
  |exact LeO.none _
  |refine LeO.ite ?_ ?_
  |refine LeO.bind ?_ (fun _ => ?_)
set_option maxHeartbeats 8000000 in
set_option maxRecDepth 100000 in
theorem emenderref04_open.calls (k : Nat) (A0 : Option Addr) (c0 : Nat) (l0 : List (S64)) (a1 : Int) (r : List Int) (w : World) (hr0 : Kd.C k64 w A0 l0.length l0) (hc0 : l0.length ≤ c0) (h : emenderref04_open.f k l0 a1 = some r) :
  Calls Try.prog 63 #[.slice A0 l0.length c0, .int .i64 a1] w fun e w' => ∃ v0_ : Value, e = .returned (v0_) ∧ Kd.R (Kd.int .i64) 3 w' w.heap.size (fun _ => True) v0_ r ∧ Below w.heap.size w w' := by
 have HR0 := aM hr0
 have HC0 := aM hc0
 clear hr0 hc0
 have HB := aM (Below.refl w.heap.size w)
 have H : (emenderref04_open.l0 k l0 a1 ([] : List Int) 0) = some r := h
 clear h
 have H' := aM H
 clear H
 go_enter Try.func63, Try.ntmps63
 go_wp2
 go_loopg [5, 6] k (fun kq v5 v6 w' => ∃ (x5_1 : List Int) (x6_1 : Int), v6 = .int .i64 x6_1 ∧ Aside0 (emenderref04_open.l0 kq l0 a1 x5_1 x6_1 = some r) ∧ Aside0 (kq ≤ k) ∧ Aside0 (Kd.R (Kd.int .i64) 3 w' w.heap.size (fun _ => True) v5 x5_1) ∧ Aside0 (Below w.heap.size w w'))
 case atStart => exact ⟨(([] : List Int)), (0), (by first|rfl|(simp; done)|(simp [*]; done)), H', ⟨Nat.le_refl _⟩, ⟨by first|exact Kd.R_nil _ _ _ _ _|exact Kd.N_nil _ _ _ _ _|exact Kd.V_nil _ _ _ _ _|exact Kd.Q_nil _ _ _ _ _|exact Kd.S_nil _ _ _ _ _⟩, ⟨by repeat (first|(with_reducible first|exact HB.out|apply lA|apply lN|apply lD)|exact HB.out)⟩⟩
 case round =>
  clear H'
  obtain ⟨x5_1, x6_1, rfl, HA, HK1, HO_5, HB⟩ := hrel
  cases gk with
 |zero => exact absurd HA.out (by simp [emenderref04_open.l0])
 |succ k1 =>
   have H := HA.out
   clear HA
   simp only [emenderref04_open.l0] at H
   have HC3 := aM H
   clear H
   go_upto_region 3 with (fail)
   go_cut [21] (fun v21 wc => ∃ (kq : Nat) (x21_2 : Bool), v21 = .bool x21_2 ∧ Aside0 (emenderref04_open.j1 kq l0 a1 x5_1 x6_1 x21_2 = some r) ∧ Aside0 (kq ≤ k1) ∧ Aside0 (Kd.R (Kd.int .i64) 3 wc w.heap.size (fun _ => True) u5 x5_1) ∧ Aside0 (Below w.heap.size w wc))
   case first =>
    have H := HC3.out
    clear HC3
    by_cases c4 : x6_1 < a1
    ·rw [if_pos c4] at H
     have c4b0 : decide (x6_1 < a1) = true := decide_eq_true c4
     clear c4
     (first|rw [c4b0]|(simp only [i64_w, i32_w]; rw [c4b0])|skip)
     by_cases c5 : x6_1 < (l0.length : Int)
     ·rw [if_pos c5] at H
      have c5b0 : decide (x6_1 < (l0.length : Int)) = true := decide_eq_true c5
      clear c5
      have H' := aM H
      clear H
      go_wp2
      go_meet
      case rel => exact ⟨_, (decide (a1 ≤ (l0.length : Int))), (by first|rfl|(simp; done)|(simp [*]; done)), H', ⟨by have := HK1.out; first|omega|exact Nat.le_refl _⟩, ⟨by (with_reducible repeat (first|apply Kd.R_alloc|apply Kd.R_drewN|apply Kd.R_drew)); exact HO_5.out⟩, ⟨by repeat (first|(with_reducible first|exact HB.out|apply lA|apply lN|apply lD)|exact HB.out)⟩⟩
     ·rw [if_neg c5] at H
      have c5b0 : decide (x6_1 < (l0.length : Int)) = false := decide_eq_false c5
      clear c5
      have H' := aM H
      clear H
      go_wp2
      go_meet
      case rel => exact ⟨_, (false), (by first|rfl|(simp; done)|(simp [*]; done)), H', ⟨by have := HK1.out; first|omega|exact Nat.le_refl _⟩, ⟨by (with_reducible repeat (first|apply Kd.R_alloc|apply Kd.R_drewN|apply Kd.R_drew)); exact HO_5.out⟩, ⟨by repeat (first|(with_reducible first|exact HB.out|apply lA|apply lN|apply lD)|exact HB.out)⟩⟩
    ·rw [if_neg c4] at H
     have c4b0 : decide (x6_1 < a1) = false := decide_eq_false c4
     clear c4
     (first|rw [c4b0]|(simp only [i64_w, i32_w]; rw [c4b0])|skip)
     have H' := aM H
     clear H
     go_wp2
     go_meet
     case rel => exact ⟨_, (false), (by first|rfl|(simp; done)|(simp [*]; done)), H', ⟨by have := HK1.out; first|omega|exact Nat.le_refl _⟩, ⟨by (with_reducible repeat (first|apply Kd.R_alloc|apply Kd.R_drewN|apply Kd.R_drew)); exact HO_5.out⟩, ⟨by repeat (first|(with_reducible first|exact HB.out|apply lA|apply lN|apply lD)|exact HB.out)⟩⟩
   case rest =>
    clear HC3
    obtain ⟨kq, x21_2, rfl, HA, HJ2, HO_5, HB⟩ := hcut
    cases kq with
   |zero => exact absurd HA.out (by simp [emenderref04_open.j1])
   |succ kj2 =>
     have H := HA.out
     clear HA
     simp only [emenderref04_open.j1] at H
     by_cases c6 : x21_2 = true
     ·subst c6
      have H1 : (if 0 ≤ x6_1 then (if x6_1 < (l0.length : Int) then (if ((rd_T64 l0 x6_1).f0) = 1 then (if x5_1.length < 17592186044416 then ((some (x5_1 ++ [x6_1] : List Int)).bind fun y342 => (if ((rd_T64 l0 x6_1).f0) = 2 then (if (y342.length : Int) > 0 then (if 0 ≤ (wrap64 ((y342.length : Int) - 1)) then (if (wrap64 ((y342.length : Int) - 1)) ≤ (y342.length : Int) then (emenderref04_open.l0 kj2 l0 a1 (y342.take ((wrap64 ((y342.length : Int) - 1)) : Int).toNat) (wrap64 (x6_1 + 1))) else (none)) else (none)) else (emenderref04_open.l0 kj2 l0 a1 y342 (wrap64 (x6_1 + 1)))) else (emenderref04_open.l0 kj2 l0 a1 y342 (wrap64 (x6_1 + 1))))) else (none)) else (if ((rd_T64 l0 x6_1).f0) = 2 then (if (x5_1.length : Int) > 0 then (if 0 ≤ (wrap64 ((x5_1.length : Int) - 1)) then (if (wrap64 ((x5_1.length : Int) - 1)) ≤ (x5_1.length : Int) then (emenderref04_open.l0 kj2 l0 a1 (x5_1.take ((wrap64 ((x5_1.length : Int) - 1)) : Int).toNat) (wrap64 (x6_1 + 1))) else (none)) else (none)) else (emenderref04_open.l0 kj2 l0 a1 x5_1 (wrap64 (x6_1 + 1)))) else (emenderref04_open.l0 kj2 l0 a1 x5_1 (wrap64 (x6_1 + 1))))) else (none)) else (none)) = some r := by rw [if_pos rfl] at H; exact H
      clear H
      have H := H1
      clear H1
      replace H := ifS H; obtain ⟨c7, H⟩ := H
      have c7b0 : decide (0 ≤ x6_1) = true := decide_eq_true c7
      clear c7
      replace H := ifS H; obtain ⟨c8, H⟩ := H
      have c8b0 : decide (x6_1 < (l0.length : Int)) = true := decide_eq_true c8
      clear c8
      by_cases c9 : ((rd_T64 l0 x6_1).f0) = 1
      ·rw [if_pos c9] at H
       have c9b0 : (((rd_T64 l0 x6_1).f0) == 1) = true := beq_iff_eq.mpr c9
       have c9b1 : (((rd_T64 l0 x6_1).f0) != 1) = false := bne_eq_false_iff_eq.mpr c9
       clear c9
       replace H := ifS H; obtain ⟨c10, H⟩ := H
       have LMc10 := aM c10
       clear c10
       obtain ⟨y342, hy342⟩ : ∃ y_ : List Int, y_ = (x5_1 ++ [x6_1]) := ⟨_, rfl⟩
       replace H : (if ((rd_T64 l0 x6_1).f0) = 2 then (if (y342.length : Int) > 0 then (if 0 ≤ (wrap64 ((y342.length : Int) - 1)) then (if (wrap64 ((y342.length : Int) - 1)) ≤ (y342.length : Int) then (emenderref04_open.l0 kj2 l0 a1 (y342.take ((wrap64 ((y342.length : Int) - 1)) : Int).toNat) (wrap64 (x6_1 + 1))) else (none)) else (none)) else (emenderref04_open.l0 kj2 l0 a1 y342 (wrap64 (x6_1 + 1)))) else (emenderref04_open.l0 kj2 l0 a1 y342 (wrap64 (x6_1 + 1)))) = some r := by first|(rw [hy342]; with_reducible exact H)|(have H2_ := (Option.bind_some _ _).symm.trans H; rw [hy342]; with_reducible exact H2_)|(have H2_ := (Option.bind_some _ _).symm.trans H; with_reducible exact H2_)|with_reducible exact H|(rw [hy342]; exact H)|exact H
       have Ny342 := aM hy342
       clear hy342
       by_cases c11 : ((rd_T64 l0 x6_1).f0) = 2
       ·rw [if_pos c11] at H
        have c11b0 : (((rd_T64 l0 x6_1).f0) == 2) = true := beq_iff_eq.mpr c11
        have c11b1 : (((rd_T64 l0 x6_1).f0) != 2) = false := bne_eq_false_iff_eq.mpr c11
        clear c11
        by_cases c12 : (y342.length : Int) > 0
        ·rw [if_pos c12] at H
         have c12b0 : decide (0 < (y342.length : Int)) = true := decide_eq_true c12
         have c12b1 : decide (0 < y342.length) = true := decide_eq_true (by omega)
         clear c12
         obtain ⟨ji13, hji13⟩ : ∃ j_ : Int, (wrap64 ((y342.length : Int) - 1)) = j_ := ⟨_, rfl⟩
         replace H : (if 0 ≤ (ji13) then (if (ji13) ≤ (y342.length : Int) then (emenderref04_open.l0 kj2 l0 a1 (y342.take ((ji13) : Int).toNat) (wrap64 (x6_1 + 1))) else (none)) else (none)) = some r := by first|(rw [hji13] at H; exact H)|(simp only [hji13] at H ⊢; exact H)
         have hji13w : (IntKind.i64.wrap ((y342.length : Int) - 1)) = ji13 := (i64_w _).trans hji13
         replace H := ifS H; obtain ⟨c14, H⟩ := H
         have c14b0 := eq_true c14
         have c14b1 : decide (0 ≤ (ji13)) = true := decide_eq_true c14
         clear c14
         replace H := ifS H; obtain ⟨c15, H⟩ := H
         have c15b0 := eq_true c15
         have c15b1 : decide ((ji13) ≤ (y342.length : Int)) = true := decide_eq_true c15
         clear c15
         obtain ⟨y346, hy346⟩ : ∃ y_ : List Int, y_ = (y342.take ((ji13) : Int).toNat) := ⟨_, rfl⟩
         replace H : (emenderref04_open.l0 kj2 l0 a1 y346 (wrap64 (x6_1 + 1))) = some r := by first|(rw [hy346]; with_reducible exact H)|(have H2_ := (Option.bind_some _ _).symm.trans H; rw [hy346]; with_reducible exact H2_)|(have H2_ := (Option.bind_some _ _).symm.trans H; with_reducible exact H2_)|with_reducible exact H|(rw [hy346]; exact H)|exact H
         have Ny346 := aM hy346
         clear hy346
         have H' := aM H
         clear H
         have p341 : 0 ≤ (x6_1 : Int) := of_decide_eq_true (by first|(with_reducible assumption)|assumption)
         have q341 : x6_1 < (l0.length : Int) := of_decide_eq_true (by first|(with_reducible assumption)|assumption)
         obtain ⟨ad341, e341, hx341_0, hx341_1, hx341_2, hx341_3⟩ := at_T64 HR0.out x6_1 p341 q341
         cases e341
         replace hx341_0 := cB HB.out hx341_0
         replace hx341_1 := cB HB.out hx341_1
         replace hx341_2 := cB HB.out hx341_2
         replace hx341_3 := cB HB.out hx341_3
         replace p341 := eq_true p341
         replace q341 := eq_true q341
         go_wp2_with (first|((with_reducible refine gate_builtin (b := .append) (xs := #[.tmp 30, .tmp 32]) rfl ?_); (try (refine gate_guard (by rfl) ?_; dsimp only)); at_builtin; refine Kd.R_append (Kd.int .i64) (w0 := w) w.heap.size rfl (.tmp 30) (.tmp 32) 52 3 (.int .i64 0) 8 rfl Try.underlying52 info3 rfl (by decide) (by omega) u5 x5_1 x6_1 [.int .i64 x6_1] (fun _ => True) (fun _ => False) rfl rfl ?aP (fun _ hk => hk.elim) ?aF ?aO ?aB ?aS ?aL ?_; (case aP => exact rfl); (case aB => exact (by repeat (first|(with_reducible first|exact HB.out|apply lA|apply lN|apply lD)|exact HB.out))); (case aF => exact (fun _ _ => trivial)); (case aO => exact (by (with_reducible repeat (first|apply Kd.R_alloc|apply Kd.R_drewN|apply Kd.R_drew)); exact HO_5.out)); (case aS => exact (below_size (by repeat (first|(with_reducible first|exact HB.out|apply lA|apply lN|apply lD)|exact HB.out)))); (case aL => have := LMc10.out; omega); intro v343 w16 ho hb hg hat; rw [← Ny342.out] at ho; have n0_ := aM (hb); have n1_ := aM (ho); clear HB; clear HO_5; have HB := n0_; have HO344 := n1_; clear n0_ n1_; clear ho hb hg hat; have p345 : 0 ≤ (x6_1 : Int) := of_decide_eq_true (by first|(with_reducible assumption)|assumption); have q345 : x6_1 < (l0.length : Int) := of_decide_eq_true (by first|(with_reducible assumption)|assumption); obtain ⟨ad345, e345, hx345_0, hx345_1, hx345_2, hx345_3⟩ := at_T64 HR0.out x6_1 p345 q345; obtain rfl : ad341 = ad345 := (by injection e345); replace hx345_0 := cB HB.out hx345_0; replace hx345_1 := cB HB.out hx345_1; replace hx345_2 := cB HB.out hx345_2; replace hx345_3 := cB HB.out hx345_3; replace p345 := eq_true p345; replace q345 := eq_true q345; obtain ⟨Ao17, co17, eo17⟩ := Kd.R_slice HO344.out; subst eo17; have q18 : ((ji13) : Int) ≤ ((y342.length : Int) : Int) := of_decide_eq_true (by first|(with_reducible assumption)|assumption); obtain ⟨i018, hi018, _, hsz18, _⟩ := info_parts info3; have hcut18 := cut_to (P := Try.prog) 52 3 .i64 Try.underlying52 hi018 Ao17 y342.length co17 (ji13) (of_decide_eq_true (by first|(with_reducible assumption)|assumption)) q18 (Kd.R_reads' HO344.out).2.1; have hr18 := Kd.R_take (m := ((ji13) : Int).toNat) HO344.out (by omega); have hy18 : y346.length = ((ji13) : Int).toNat := (by rw [Ny346.out, List.length_take]; omega); rw [← Ny346.out] at hr18; rw [← hy18] at hr18 hcut18; clear hy18 hi018 hsz18 HO344; have HO348 := aM hr18; clear hr18; replace q18 := eq_true q18))
         go_roundg kj2
         case measure => have := HK1.out; have := HJ2.out; omega
         case rel => exact ⟨(y346), (wrap64 (x6_1 + 1)), (by first|rfl|(simp; done)|(simp [*]; done)), H', ⟨by have := HK1.out; have := HJ2.out; omega⟩, ⟨by (with_reducible repeat (first|apply Kd.R_alloc|apply Kd.R_drewN|apply Kd.R_drew)); exact HO348.out⟩, ⟨by repeat (first|(with_reducible first|exact HB.out|apply lA|apply lN|apply lD)|exact HB.out)⟩⟩
        ·rw [if_neg c12] at H
         have c12b0 : decide (0 < (y342.length : Int)) = false := decide_eq_false c12
         have c12b1 : decide (0 < y342.length) = false := decide_eq_false (by omega)
         clear c12
         have H' := aM H
         clear H
         have p341 : 0 ≤ (x6_1 : Int) := of_decide_eq_true (by first|(with_reducible assumption)|assumption)
         have q341 : x6_1 < (l0.length : Int) := of_decide_eq_true (by first|(with_reducible assumption)|assumption)
         obtain ⟨ad341, e341, hx341_0, hx341_1, hx341_2, hx341_3⟩ := at_T64 HR0.out x6_1 p341 q341
         cases e341
         replace hx341_0 := cB HB.out hx341_0
         replace hx341_1 := cB HB.out hx341_1
         replace hx341_2 := cB HB.out hx341_2
         replace hx341_3 := cB HB.out hx341_3
         replace p341 := eq_true p341
         replace q341 := eq_true q341
         go_wp2_with (first|((with_reducible refine gate_builtin (b := .append) (xs := #[.tmp 30, .tmp 32]) rfl ?_); (try (refine gate_guard (by rfl) ?_; dsimp only)); at_builtin; refine Kd.R_append (Kd.int .i64) (w0 := w) w.heap.size rfl (.tmp 30) (.tmp 32) 52 3 (.int .i64 0) 8 rfl Try.underlying52 info3 rfl (by decide) (by omega) u5 x5_1 x6_1 [.int .i64 x6_1] (fun _ => True) (fun _ => False) rfl rfl ?aP (fun _ hk => hk.elim) ?aF ?aO ?aB ?aS ?aL ?_; (case aP => exact rfl); (case aB => exact (by repeat (first|(with_reducible first|exact HB.out|apply lA|apply lN|apply lD)|exact HB.out))); (case aF => exact (fun _ _ => trivial)); (case aO => exact (by (with_reducible repeat (first|apply Kd.R_alloc|apply Kd.R_drewN|apply Kd.R_drew)); exact HO_5.out)); (case aS => exact (below_size (by repeat (first|(with_reducible first|exact HB.out|apply lA|apply lN|apply lD)|exact HB.out)))); (case aL => have := LMc10.out; omega); intro v343 w19 ho hb hg hat; rw [← Ny342.out] at ho; have n0_ := aM (hb); have n1_ := aM (ho); clear HB; clear HO_5; have HB := n0_; have HO344 := n1_; clear n0_ n1_; clear ho hb hg hat; have p345 : 0 ≤ (x6_1 : Int) := of_decide_eq_true (by first|(with_reducible assumption)|assumption); have q345 : x6_1 < (l0.length : Int) := of_decide_eq_true (by first|(with_reducible assumption)|assumption); obtain ⟨ad345, e345, hx345_0, hx345_1, hx345_2, hx345_3⟩ := at_T64 HR0.out x6_1 p345 q345; obtain rfl : ad341 = ad345 := (by injection e345); replace hx345_0 := cB HB.out hx345_0; replace hx345_1 := cB HB.out hx345_1; replace hx345_2 := cB HB.out hx345_2; replace hx345_3 := cB HB.out hx345_3; replace p345 := eq_true p345; replace q345 := eq_true q345; obtain ⟨Ao20, co20, eo20⟩ := Kd.R_slice HO344.out; subst eo20))
         go_roundg kj2
         case measure => have := HK1.out; have := HJ2.out; omega
         case rel => exact ⟨(y342), (wrap64 (x6_1 + 1)), (by first|rfl|(simp; done)|(simp [*]; done)), H', ⟨by have := HK1.out; have := HJ2.out; omega⟩, ⟨by (with_reducible repeat (first|apply Kd.R_alloc|apply Kd.R_drewN|apply Kd.R_drew)); exact HO344.out⟩, ⟨by repeat (first|(with_reducible first|exact HB.out|apply lA|apply lN|apply lD)|exact HB.out)⟩⟩
       ·rw [if_neg c11] at H
        have c11b0 : (((rd_T64 l0 x6_1).f0) == 2) = false := beq_eq_false_iff_ne.mpr c11
        have c11b1 : (((rd_T64 l0 x6_1).f0) != 2) = true := bne_iff_ne.mpr c11
        have H' := aM H
        clear H
        have p341 : 0 ≤ (x6_1 : Int) := of_decide_eq_true (by first|(with_reducible assumption)|assumption)
        have q341 : x6_1 < (l0.length : Int) := of_decide_eq_true (by first|(with_reducible assumption)|assumption)
        obtain ⟨ad341, e341, hx341_0, hx341_1, hx341_2, hx341_3⟩ := at_T64 HR0.out x6_1 p341 q341
        cases e341
        replace hx341_0 := cB HB.out hx341_0
        replace hx341_1 := cB HB.out hx341_1
        replace hx341_2 := cB HB.out hx341_2
        replace hx341_3 := cB HB.out hx341_3
        replace p341 := eq_true p341
        replace q341 := eq_true q341
        go_wp2_with (first|((with_reducible refine gate_builtin (b := .append) (xs := #[.tmp 30, .tmp 32]) rfl ?_); (try (refine gate_guard (by rfl) ?_; dsimp only)); at_builtin; refine Kd.R_append (Kd.int .i64) (w0 := w) w.heap.size rfl (.tmp 30) (.tmp 32) 52 3 (.int .i64 0) 8 rfl Try.underlying52 info3 rfl (by decide) (by omega) u5 x5_1 x6_1 [.int .i64 x6_1] (fun _ => True) (fun _ => False) rfl rfl ?aP (fun _ hk => hk.elim) ?aF ?aO ?aB ?aS ?aL ?_; (case aP => exact rfl); (case aB => exact (by repeat (first|(with_reducible first|exact HB.out|apply lA|apply lN|apply lD)|exact HB.out))); (case aF => exact (fun _ _ => trivial)); (case aO => exact (by (with_reducible repeat (first|apply Kd.R_alloc|apply Kd.R_drewN|apply Kd.R_drew)); exact HO_5.out)); (case aS => exact (below_size (by repeat (first|(with_reducible first|exact HB.out|apply lA|apply lN|apply lD)|exact HB.out)))); (case aL => have := LMc10.out; omega); intro v343 w21 ho hb hg hat; rw [← Ny342.out] at ho; have n0_ := aM (hb); have n1_ := aM (ho); clear HB; clear HO_5; have HB := n0_; have HO344 := n1_; clear n0_ n1_; clear ho hb hg hat; have p345 : 0 ≤ (x6_1 : Int) := of_decide_eq_true (by first|(with_reducible assumption)|assumption); have q345 : x6_1 < (l0.length : Int) := of_decide_eq_true (by first|(with_reducible assumption)|assumption); obtain ⟨ad345, e345, hx345_0, hx345_1, hx345_2, hx345_3⟩ := at_T64 HR0.out x6_1 p345 q345; obtain rfl : ad341 = ad345 := (by injection e345); replace hx345_0 := cB HB.out hx345_0; replace hx345_1 := cB HB.out hx345_1; replace hx345_2 := cB HB.out hx345_2; replace hx345_3 := cB HB.out hx345_3; replace p345 := eq_true p345; replace q345 := eq_true q345))
        go_roundg kj2
        case measure => have := HK1.out; have := HJ2.out; omega
        case rel => exact ⟨(y342), (wrap64 (x6_1 + 1)), (by first|rfl|(simp; done)|(simp [*]; done)), H', ⟨by have := HK1.out; have := HJ2.out; omega⟩, ⟨by (with_reducible repeat (first|apply Kd.R_alloc|apply Kd.R_drewN|apply Kd.R_drew)); exact HO344.out⟩, ⟨by repeat (first|(with_reducible first|exact HB.out|apply lA|apply lN|apply lD)|exact HB.out)⟩⟩
      ·rw [if_neg c9] at H
       have c9b0 : (((rd_T64 l0 x6_1).f0) == 1) = false := beq_eq_false_iff_ne.mpr c9
       have c9b1 : (((rd_T64 l0 x6_1).f0) != 1) = true := bne_iff_ne.mpr c9
       by_cases c22 : ((rd_T64 l0 x6_1).f0) = 2
       ·rw [if_pos c22] at H
        have c22b0 : (((rd_T64 l0 x6_1).f0) == 2) = true := beq_iff_eq.mpr c22
        have c22b1 : (((rd_T64 l0 x6_1).f0) != 2) = false := bne_eq_false_iff_eq.mpr c22
        clear c22
        by_cases c23 : (x5_1.length : Int) > 0
        ·rw [if_pos c23] at H
         have c23b0 : decide (0 < (x5_1.length : Int)) = true := decide_eq_true c23
         have c23b1 : decide (0 < x5_1.length) = true := decide_eq_true (by omega)
         clear c23
         obtain ⟨ji24, hji24⟩ : ∃ j_ : Int, (wrap64 ((x5_1.length : Int) - 1)) = j_ := ⟨_, rfl⟩
         replace H : (if 0 ≤ (ji24) then (if (ji24) ≤ (x5_1.length : Int) then (emenderref04_open.l0 kj2 l0 a1 (x5_1.take ((ji24) : Int).toNat) (wrap64 (x6_1 + 1))) else (none)) else (none)) = some r := by first|(rw [hji24] at H; exact H)|(simp only [hji24] at H ⊢; exact H)
         have hji24w : (IntKind.i64.wrap ((x5_1.length : Int) - 1)) = ji24 := (i64_w _).trans hji24
         replace H := ifS H; obtain ⟨c25, H⟩ := H
         have c25b0 := eq_true c25
         have c25b1 : decide (0 ≤ (ji24)) = true := decide_eq_true c25
         clear c25
         replace H := ifS H; obtain ⟨c26, H⟩ := H
         have c26b0 := eq_true c26
         have c26b1 : decide ((ji24) ≤ (x5_1.length : Int)) = true := decide_eq_true c26
         clear c26
         obtain ⟨y350, hy350⟩ : ∃ y_ : List Int, y_ = (x5_1.take ((ji24) : Int).toNat) := ⟨_, rfl⟩
         replace H : (emenderref04_open.l0 kj2 l0 a1 y350 (wrap64 (x6_1 + 1))) = some r := by first|(rw [hy350]; with_reducible exact H)|(have H2_ := (Option.bind_some _ _).symm.trans H; rw [hy350]; with_reducible exact H2_)|(have H2_ := (Option.bind_some _ _).symm.trans H; with_reducible exact H2_)|with_reducible exact H|(rw [hy350]; exact H)|exact H
         have Ny350 := aM hy350
         clear hy350
         have H' := aM H
         clear H
         have p341 : 0 ≤ (x6_1 : Int) := of_decide_eq_true (by first|(with_reducible assumption)|assumption)
         have q341 : x6_1 < (l0.length : Int) := of_decide_eq_true (by first|(with_reducible assumption)|assumption)
         obtain ⟨ad341, e341, hx341_0, hx341_1, hx341_2, hx341_3⟩ := at_T64 HR0.out x6_1 p341 q341
         cases e341
         replace hx341_0 := cB HB.out hx341_0
         replace hx341_1 := cB HB.out hx341_1
         replace hx341_2 := cB HB.out hx341_2
         replace hx341_3 := cB HB.out hx341_3
         replace p341 := eq_true p341
         replace q341 := eq_true q341
         have p349 : 0 ≤ (x6_1 : Int) := of_decide_eq_true (by first|(with_reducible assumption)|assumption)
         have q349 : x6_1 < (l0.length : Int) := of_decide_eq_true (by first|(with_reducible assumption)|assumption)
         obtain ⟨ad349, e349, hx349_0, hx349_1, hx349_2, hx349_3⟩ := at_T64 HR0.out x6_1 p349 q349
         obtain rfl : ad341 = ad349 := (by injection e349)
         replace hx349_0 := cB HB.out hx349_0
         replace hx349_1 := cB HB.out hx349_1
         replace hx349_2 := cB HB.out hx349_2
         replace hx349_3 := cB HB.out hx349_3
         replace p349 := eq_true p349
         replace q349 := eq_true q349
         obtain ⟨Ao27, co27, eo27⟩ := Kd.R_slice HO_5.out
         subst eo27
         have q28 : ((ji24) : Int) ≤ ((x5_1.length : Int) : Int) := of_decide_eq_true (by first|(with_reducible assumption)|assumption)
         obtain ⟨i028, hi028, _, hsz28, _⟩ := info_parts info3
         have hcut28 := cut_to (P := Try.prog) 52 3 .i64 Try.underlying52 hi028 Ao27 x5_1.length co27 (ji24) (of_decide_eq_true (by first|(with_reducible assumption)|assumption)) q28 (Kd.R_reads' HO_5.out).2.1
         have hr28 := Kd.R_take (m := ((ji24) : Int).toNat) HO_5.out (by omega)
         have hy28 : y350.length = ((ji24) : Int).toNat := (by rw [Ny350.out, List.length_take]; omega)
         rw [← Ny350.out] at hr28
         rw [← hy28] at hr28 hcut28
         clear hy28 hi028 hsz28 HO_5
         have HO352 := aM hr28
         clear hr28
         replace q28 := eq_true q28
         go_wp2
         go_roundg kj2
         case measure => have := HK1.out; have := HJ2.out; omega
         case rel => exact ⟨(y350), (wrap64 (x6_1 + 1)), (by first|rfl|(simp; done)|(simp [*]; done)), H', ⟨by have := HK1.out; have := HJ2.out; omega⟩, ⟨by (with_reducible repeat (first|apply Kd.R_alloc|apply Kd.R_drewN|apply Kd.R_drew)); exact HO352.out⟩, ⟨by repeat (first|(with_reducible first|exact HB.out|apply lA|apply lN|apply lD)|exact HB.out)⟩⟩
        ·rw [if_neg c23] at H
         have c23b0 : decide (0 < (x5_1.length : Int)) = false := decide_eq_false c23
         have c23b1 : decide (0 < x5_1.length) = false := decide_eq_false (by omega)
         clear c23
         have H' := aM H
         clear H
         have p341 : 0 ≤ (x6_1 : Int) := of_decide_eq_true (by first|(with_reducible assumption)|assumption)
         have q341 : x6_1 < (l0.length : Int) := of_decide_eq_true (by first|(with_reducible assumption)|assumption)
         obtain ⟨ad341, e341, hx341_0, hx341_1, hx341_2, hx341_3⟩ := at_T64 HR0.out x6_1 p341 q341
         cases e341
         replace hx341_0 := cB HB.out hx341_0
         replace hx341_1 := cB HB.out hx341_1
         replace hx341_2 := cB HB.out hx341_2
         replace hx341_3 := cB HB.out hx341_3
         replace p341 := eq_true p341
         replace q341 := eq_true q341
         have p349 : 0 ≤ (x6_1 : Int) := of_decide_eq_true (by first|(with_reducible assumption)|assumption)
         have q349 : x6_1 < (l0.length : Int) := of_decide_eq_true (by first|(with_reducible assumption)|assumption)
         obtain ⟨ad349, e349, hx349_0, hx349_1, hx349_2, hx349_3⟩ := at_T64 HR0.out x6_1 p349 q349
         obtain rfl : ad341 = ad349 := (by injection e349)
         replace hx349_0 := cB HB.out hx349_0
         replace hx349_1 := cB HB.out hx349_1
         replace hx349_2 := cB HB.out hx349_2
         replace hx349_3 := cB HB.out hx349_3
         replace p349 := eq_true p349
         replace q349 := eq_true q349
         obtain ⟨Ao29, co29, eo29⟩ := Kd.R_slice HO_5.out
         subst eo29
         go_wp2
         go_roundg kj2
         case measure => have := HK1.out; have := HJ2.out; omega
         case rel => exact ⟨(x5_1), (wrap64 (x6_1 + 1)), (by first|rfl|(simp; done)|(simp [*]; done)), H', ⟨by have := HK1.out; have := HJ2.out; omega⟩, ⟨by (with_reducible repeat (first|apply Kd.R_alloc|apply Kd.R_drewN|apply Kd.R_drew)); exact HO_5.out⟩, ⟨by repeat (first|(with_reducible first|exact HB.out|apply lA|apply lN|apply lD)|exact HB.out)⟩⟩
       ·rw [if_neg c22] at H
        have c22b0 : (((rd_T64 l0 x6_1).f0) == 2) = false := beq_eq_false_iff_ne.mpr c22
        have c22b1 : (((rd_T64 l0 x6_1).f0) != 2) = true := bne_iff_ne.mpr c22
        have H' := aM H
        clear H
        have p341 : 0 ≤ (x6_1 : Int) := of_decide_eq_true (by first|(with_reducible assumption)|assumption)
        have q341 : x6_1 < (l0.length : Int) := of_decide_eq_true (by first|(with_reducible assumption)|assumption)
        obtain ⟨ad341, e341, hx341_0, hx341_1, hx341_2, hx341_3⟩ := at_T64 HR0.out x6_1 p341 q341
        cases e341
        replace hx341_0 := cB HB.out hx341_0
        replace hx341_1 := cB HB.out hx341_1
        replace hx341_2 := cB HB.out hx341_2
        replace hx341_3 := cB HB.out hx341_3
        replace p341 := eq_true p341
        replace q341 := eq_true q341
        have p349 : 0 ≤ (x6_1 : Int) := of_decide_eq_true (by first|(with_reducible assumption)|assumption)
        have q349 : x6_1 < (l0.length : Int) := of_decide_eq_true (by first|(with_reducible assumption)|assumption)
        obtain ⟨ad349, e349, hx349_0, hx349_1, hx349_2, hx349_3⟩ := at_T64 HR0.out x6_1 p349 q349
        obtain rfl : ad341 = ad349 := (by injection e349)
        replace hx349_0 := cB HB.out hx349_0
        replace hx349_1 := cB HB.out hx349_1
        replace hx349_2 := cB HB.out hx349_2
        replace hx349_3 := cB HB.out hx349_3
        replace p349 := eq_true p349
        replace q349 := eq_true q349
        go_wp2
        go_roundg kj2
        case measure => have := HK1.out; have := HJ2.out; omega
        case rel => exact ⟨(x5_1), (wrap64 (x6_1 + 1)), (by first|rfl|(simp; done)|(simp [*]; done)), H', ⟨by have := HK1.out; have := HJ2.out; omega⟩, ⟨by (with_reducible repeat (first|apply Kd.R_alloc|apply Kd.R_drewN|apply Kd.R_drew)); exact HO_5.out⟩, ⟨by repeat (first|(with_reducible first|exact HB.out|apply lA|apply lN|apply lD)|exact HB.out)⟩⟩
     ·replace c6 := Bool.eq_false_iff.mpr c6
      subst c6
      have H1 : (some x5_1) = some r := by rw [if_neg (show ¬ (false = true) by decide)] at H; exact H
      clear H
      have H := H1
      clear H1
      obtain rfl := Option.some.inj H
      go_wp2
      go_ret
      exact ⟨_, by first|rfl|(simp [errW_none, errW_some] <;> rfl)|(simp [*, errW_none, errW_some] <;> rfl), by (with_reducible repeat (first|apply Kd.R_alloc|apply Kd.R_drewN|apply Kd.R_drew)); exact HO_5.out, by repeat (first|(with_reducible first|exact HB.out|apply lA|apply lN|apply lD)|exact HB.out)⟩

end Go.Proofs.Ytjpmlggkhhoooaa.PDq
-- Written for this claim by a program (the kit's print, with hand-made contracts for what it does not take).
namespace Go.Proofs.Ytjpmlggkhhoooaa.PDq
open Go.RowKit Go.Proofs.YtjpmlggkhhoooaaW.PrintWords Go.Proofs.YtjpmlggkhhoooaaW.PrintLast Go.Proofs.YtjpmlggkhhoooaaW.PrintMore
attribute [local go_sem] max2_int min2_int max_two min_two max_three min_three max_four min_four   -- for this text's walks alone
set_option linter.unusedVariables false
set_option linter.unusedSimpArgs false

def emenderref04_Around.f (k : Nat) (l0 : List (S64)) (a1 : Int) : Option (Int) := (emenderref04_open.f k l0 a1).bind fun t353 => (if (t353.length : Int) = 0 then (some (-1)) else (if 0 ≤ (wrap64 ((t353.length : Int) - 1)) then (if (wrap64 ((t353.length : Int) - 1)) < (t353.length : Int) then (some (rd t353 (wrap64 ((t353.length : Int) - 1)))) else (none)) else (none)))
theorem emenderref04_Around.mono : ∀ a0 a1 k, LeO (emenderref04_Around.f k a0 a1) (emenderref04_Around.f (k + 1) a0 a1) := by
 intro a0 a1 k
 unfold emenderref04_Around.f
 repeat' first
  |(with_reducible exact emenderref04_open.mono _ _ _)
  |(with_reducible exact LeO.refl _)
  |(with_reducible exact LeO.none _)
  |(with_reducible refine LeO.ite ?_ ?_)
  |(with_reducible refine LeO.bind ?_ (fun _ => ?_))
  |exact emenderref04_open.mono _ _ _
  |exact LeO.none _
  |refine LeO.ite ?_ ?_
  |refine LeO.bind ?_ (fun _ => ?_)
set_option maxHeartbeats 8000000 in
set_option maxRecDepth 100000 in
theorem emenderref04_Around.calls (k : Nat) (A0 : Option Addr) (c0 : Nat) (l0 : List (S64)) (a1 : Int) (r : Int) (w : World) (hr0 : Kd.C k64 w A0 l0.length l0) (hc0 : l0.length ≤ c0) (h : emenderref04_Around.f k l0 a1 = some r) :
  Calls Try.prog 58 #[.slice A0 l0.length c0, .int .i64 a1] w fun e w' => e = .returned (.int .i64 r) ∧ Below w.heap.size w w' := by
 have HR0 := aM hr0
 have HC0 := aM hc0
 clear hr0 hc0
 have HB := aM (Below.refl w.heap.size w)
 have H : ((emenderref04_open.f k l0 a1).bind fun t353 => (if (t353.length : Int) = 0 then (some (-1)) else (if 0 ≤ (wrap64 ((t353.length : Int) - 1)) then (if (wrap64 ((t353.length : Int) - 1)) < (t353.length : Int) then (some (rd t353 (wrap64 ((t353.length : Int) - 1)))) else (none)) else (none)))) = some r := h
 clear h
 replace H := Option.bind_eq_some_iff.mp H
 obtain ⟨t353, A30, H⟩ := H
 replace H : (if (t353.length : Int) = 0 then (some (-1)) else (if 0 ≤ (wrap64 ((t353.length : Int) - 1)) then (if (wrap64 ((t353.length : Int) - 1)) < (t353.length : Int) then (some (rd t353 (wrap64 ((t353.length : Int) - 1)))) else (none)) else (none))) = some r := H
 have A3 := aM A30
 clear A30
 by_cases c4 : (t353.length : Int) = 0
 ·rw [if_pos c4] at H
  have c4b0 : ((t353.length : Int) == 0) = true := beq_iff_eq.mpr c4
  have c4b1 : ((t353.length : Int) != 0) = false := bne_eq_false_iff_eq.mpr c4
  clear c4
  obtain rfl := Option.some.inj H
  go_enter Try.func58, Try.ntmps58
  go_wp2_with (first|((with_reducible refine gate_callee (f := 63) rfl ?_); refine goesL_ (some 8) rfl rfl Try.func63 (by kernel_rfl) rfl #[.slice A0 l0.length c0, .int .i64 a1] rfl (by (try simp only [List.map_toArray, List.map_cons, List.map_nil]); first|done|rfl|(simp only [List.length_drop, List.length_take]; rfl)) ?_; (with_reducible refine (emenderref04_open.calls k _ _ l0 a1 t353 _ ?side1 ?side2 A3.out).mono ?_); (case side1 => repeat (first|exact HR0.out|(with_reducible refine Kd.C_alloc ?_ _)|(with_reducible refine Kd.C_drewN ?_ _)|(with_reducible refine Kd.C_drew ?_))); (case side2 => exact HC0.out); rintro e w5 ⟨v354, rfl, ho0, hb⟩; refine ⟨_, rfl, ?_⟩; replace HO355 := aM (Kd.R_lower ho0 (below_size (by repeat (first|(with_reducible first|exact HB.out|apply lA|apply lN|apply lD)|exact HB.out)))); replace HB := aM (below_step (by repeat (first|(with_reducible first|exact HB.out|apply lA|apply lN|apply lD)|exact HB.out)) hb); (try clear hb); (try clear hb2); (try clear hk); (try clear hi); (try clear ho0); obtain ⟨Ao6, co6, eo6⟩ := Kd.R_slice HO355.out; subst eo6))
  go_ret
  exact ⟨by first|rfl|(simp [errW_none, errW_some] <;> rfl)|(simp [*, errW_none, errW_some] <;> rfl), by repeat (first|(with_reducible first|exact HB.out|apply lA|apply lN|apply lD)|exact HB.out)⟩
 ·rw [if_neg c4] at H
  have c4b0 : ((t353.length : Int) == 0) = false := beq_eq_false_iff_ne.mpr c4
  have c4b1 : ((t353.length : Int) != 0) = true := bne_iff_ne.mpr c4
  have c4b2 : ¬ (t353 = []) := fun h_ => c4 (by rw [h_]; rfl)
  obtain ⟨ji7, hji7⟩ : ∃ j_ : Int, (wrap64 ((t353.length : Int) - 1)) = j_ := ⟨_, rfl⟩
  replace H : (if 0 ≤ (ji7) then (if (ji7) < (t353.length : Int) then (some (rd t353 (ji7))) else (none)) else (none)) = some r := by first|(rw [hji7] at H; exact H)|(simp only [hji7] at H ⊢; exact H)
  (try rw [hji7] at A3)
  have hji7w : (IntKind.i64.wrap ((t353.length : Int) - 1)) = ji7 := (i64_w _).trans hji7
  replace H := ifS H; obtain ⟨c8, H⟩ := H
  have c8b0 : decide (0 ≤ (ji7)) = true := decide_eq_true c8
  clear c8
  replace H := ifS H; obtain ⟨c9, H⟩ := H
  have c9b0 : decide ((ji7) < (t353.length : Int)) = true := decide_eq_true c9
  clear c9
  obtain rfl := Option.some.inj H
  go_enter Try.func58, Try.ntmps58
  go_wp2_with (first|((with_reducible refine gate_callee (f := 63) rfl ?_); refine goesL_ (some 8) rfl rfl Try.func63 (by kernel_rfl) rfl #[.slice A0 l0.length c0, .int .i64 a1] rfl (by (try simp only [List.map_toArray, List.map_cons, List.map_nil]); first|done|rfl|(simp only [List.length_drop, List.length_take]; rfl)) ?_; (with_reducible refine (emenderref04_open.calls k _ _ l0 a1 t353 _ ?side1 ?side2 A3.out).mono ?_); (case side1 => repeat (first|exact HR0.out|(with_reducible refine Kd.C_alloc ?_ _)|(with_reducible refine Kd.C_drewN ?_ _)|(with_reducible refine Kd.C_drew ?_))); (case side2 => exact HC0.out); rintro e w10 ⟨v354, rfl, ho0, hb⟩; refine ⟨_, rfl, ?_⟩; replace HO355 := aM (Kd.R_lower ho0 (below_size (by repeat (first|(with_reducible first|exact HB.out|apply lA|apply lN|apply lD)|exact HB.out)))); replace HB := aM (below_step (by repeat (first|(with_reducible first|exact HB.out|apply lA|apply lN|apply lD)|exact HB.out)) hb); (try clear hb); (try clear hb2); (try clear hk); (try clear hi); (try clear ho0); obtain ⟨Ao11, co11, eo11⟩ := Kd.R_slice HO355.out; subst eo11; have p356 : 0 ≤ ((ji7) : Int) := of_decide_eq_true (by first|(with_reducible assumption)|assumption); have q356 : (ji7) < (t353.length : Int) := of_decide_eq_true (by first|(with_reducible assumption)|assumption); obtain ⟨ad356, e356, hx356_0⟩ := Kd.at_int (Kd.R_reads' HO355.out).2.2 (ji7) p356 q356; cases e356; replace p356 := eq_true p356; replace q356 := eq_true q356))
  go_ret
  exact ⟨by first|rfl|(simp [errW_none, errW_some] <;> rfl)|(simp only [← hji7]; first|rfl|(simp [errW_none, errW_some] <;> rfl))|(simp [*, errW_none, errW_some] <;> rfl), by repeat (first|(with_reducible first|exact HB.out|apply lA|apply lN|apply lD)|exact HB.out)⟩

end Go.Proofs.Ytjpmlggkhhoooaa.PDq
