-- Written for this claim by a program (printed texts under one roof).
import Derived.Test.YtfcfomconcoimaaDoorPFax0
namespace Go.Proofs.YtfcfomconcoimaaDoor.PFa
open Go.RowKit Go.Proofs.YtfcfomconcoimaaDoorW.PrintWords Go.Proofs.YtfcfomconcoimaaDoorW.PrintLast Go.Proofs.YtfcfomconcoimaaDoorW.PrintMore
attribute [local go_sem] max2_int min2_int max_two min_two max_three min_three max_four min_four
set_option linter.unusedVariables false
set_option linter.unusedSimpArgs false
theorem eqA48 (d : Nat) (w : World) (x0 y0 : Int) (x1 y1 : Int) (x2 y2 : Int) (x3 y3 : Int) :
  (Op.equalIn (d + 2) 48 (.agg #[.int .i64 x0, .int .i64 x1, .int .i64 x2, .int .i64 x3]) (.agg #[.int .i64 y0, .int .i64 y1, .int .i64 y2, .int .i64 y3])).run Tryd.prog w = .ok (x0 == y0 && (x1 == y1 && (x2 == y2 && (x3 == y3)))) w := by
 refine eqA_of Tryd.underlying48 (by kernel_rfl) ?_
 refine eqf_cons (by rfl) (by go_simp; rfl) (by go_simp; rfl) (by go_simp) ?_
 refine eqf_cons (by rfl) (by go_simp; rfl) (by go_simp; rfl) (by go_simp) ?_
 refine eqf_cons (by rfl) (by go_simp; rfl) (by go_simp; rfl) (by go_simp) ?_
 exact eqf_last (by rfl) (by go_simp; rfl) (by go_simp; rfl) (by go_simp)
attribute [local go_sem high] eqA48
def mark_Right.f (a0 : Int) : Option (Bool) := if a0 ≥ 0 then (some (decide (a0 ≤ 4))) else (some false)
set_option maxHeartbeats 8000000 in
set_option maxRecDepth 100000 in
theorem mark_Right.calls (a0 : Int) (r : Bool) (w : World) (h : mark_Right.f a0 = some r) :
  Calls Tryd.prog 37 #[.int .i64 a0] w fun e w' => e = .returned (.bool r) ∧ Drawn0 w w' := by
 have H : (if a0 ≥ 0 then (some (decide (a0 ≤ 4))) else (some false)) = some r := h
 clear h
 by_cases c2 : a0 ≥ 0
 ·rw [if_pos c2] at H
  have c2b0 : decide (0 ≤ a0) = true := decide_eq_true c2
  clear c2
  obtain rfl := Option.some.inj H
  go_enter Tryd.func37, Tryd.ntmps37
  go_wp2
  go_ret
  exact ⟨by first|rfl|(simp; done)|(simp [*]; done), by repeat (first|exact Drawn0.refl _|apply Drawn0.step)⟩
 ·rw [if_neg c2] at H
  have c2b0 : decide (0 ≤ a0) = false := decide_eq_false c2
  clear c2
  obtain rfl := Option.some.inj H
  go_enter Tryd.func37, Tryd.ntmps37
  go_wp2
  go_ret
  exact ⟨by first|rfl|(simp; done)|(simp [*]; done), by repeat (first|exact Drawn0.refl _|apply Drawn0.step)⟩
def flat_Right.f (a0_0 : Int) (a0_1 : Int) (a0_2 : Int) (a0_3 : Int) : Option (Bool) := if a0_0 = 0 then (if a0_1 = 0 then (if a0_2 ≥ 0 then (if a0_2 ≤ 1114111 then (if (a0_2 / 2048) = 27 then (some false) else ((mark_Right.f a0_3).bind fun t102 => (some t102))) else (some false)) else (some false)) else (some false)) else (if a0_0 = 2 then (some (a0_0 == 2 && (a0_1 == 0 && (a0_2 == 0 && (a0_3 == 0))))) else (if a0_0 = 1 then (if a0_1 > 0 then (if a0_1 < 16 then (if a0_2 ≥ 0 then (if a0_2 < 16 then (some (a0_3 == 0)) else (some false)) else (some false)) else (some false)) else (some false)) else (if a0_0 = 3 then (if a0_1 > 0 then (if a0_1 < 16 then (if a0_2 ≥ 0 then (if a0_2 < 16 then (some (a0_3 == 0)) else (some false)) else (some false)) else (some false)) else (some false)) else (some false))))
set_option maxHeartbeats 8000000 in
set_option maxRecDepth 100000 in
theorem flat_Right.calls (a0_0 : Int) (a0_1 : Int) (a0_2 : Int) (a0_3 : Int) (r : Bool) (w : World) (h : flat_Right.f a0_0 a0_1 a0_2 a0_3 = some r) :
  Calls Tryd.prog 21 #[.agg #[.int .i64 a0_0, .int .i64 a0_1, .int .i64 a0_2, .int .i64 a0_3]] w fun e w' => e = .returned (.bool r) ∧ Below w.heap.size w w' := by
 have hu48 := Tryd.underlying48
 have HB := aM (Below.refl w.heap.size w)
 have H : (if a0_0 = 0 then (if a0_1 = 0 then (if a0_2 ≥ 0 then (if a0_2 ≤ 1114111 then (if (a0_2 / 2048) = 27 then (some false) else ((mark_Right.f a0_3).bind fun t102 => (some t102))) else (some false)) else (some false)) else (some false)) else (if a0_0 = 2 then (some (a0_0 == 2 && (a0_1 == 0 && (a0_2 == 0 && (a0_3 == 0))))) else (if a0_0 = 1 then (if a0_1 > 0 then (if a0_1 < 16 then (if a0_2 ≥ 0 then (if a0_2 < 16 then (some (a0_3 == 0)) else (some false)) else (some false)) else (some false)) else (some false)) else (if a0_0 = 3 then (if a0_1 > 0 then (if a0_1 < 16 then (if a0_2 ≥ 0 then (if a0_2 < 16 then (some (a0_3 == 0)) else (some false)) else (some false)) else (some false)) else (some false)) else (some false))))) = some r := h
 clear h
 by_cases c2 : a0_0 = 0
 ·rw [if_pos c2] at H
  have c2b0 : (a0_0 == 0) = true := beq_iff_eq.mpr c2
  have c2b1 : (a0_0 != 0) = false := bne_eq_false_iff_eq.mpr c2
  clear c2
  by_cases c3 : a0_1 = 0
  ·rw [if_pos c3] at H
   have c3b0 : (a0_1 == 0) = true := beq_iff_eq.mpr c3
   have c3b1 : (a0_1 != 0) = false := bne_eq_false_iff_eq.mpr c3
   clear c3
   by_cases c4 : a0_2 ≥ 0
   ·rw [if_pos c4] at H
    have c4b0 : decide (0 ≤ a0_2) = true := decide_eq_true c4
    clear c4
    by_cases c5 : a0_2 ≤ 1114111
    ·rw [if_pos c5] at H
     have c5b0 : decide (a0_2 ≤ 1114111) = true := decide_eq_true c5
     clear c5
     by_cases c6 : (a0_2 / 2048) = 27
     ·rw [if_pos c6] at H
      have c6b0 : ((a0_2 / 2048) == 27) = true := beq_iff_eq.mpr c6
      have c6b1 : ((a0_2 / 2048) != 27) = false := bne_eq_false_iff_eq.mpr c6
      clear c6
      obtain rfl := Option.some.inj H
      go_enter Tryd.func21, Tryd.ntmps21
      go_wp2_with (first|((with_reducible refine gate_dst (N := 1) rfl ?_); refine box_event ?hg (N := 1) ?hd (cs := #[.int .i64 a0_0, .int .i64 a0_1, .int .i64 a0_2, .int .i64 a0_3]) (t := 48) ?hr ?_; (case hd => rfl); (case hg => rfl); (case hr => first|(go_simp; done)|(go_simp; rfl)); intro gb101 hg w7 hbox hb; have hB_ := (by repeat (first|(with_reducible first|exact HB.out|apply lA|apply lN|apply lD)|exact HB.out) : Below w.heap.size w _); replace HB := aM (below_step hB_ hb); replace BK101 := aM (hbox); replace GW101 := aM ((bsz hg hB_)); replace GE101 := aM ((bsz hg hB_)); clear hb hbox hg hB_; obtain ⟨hcz8_0, hcz8_1, hcz8_2, hcz8_3, hfz8_0, hfz8_1, hfz8_2, hfz8_3⟩ := bx4z BK101.out))
      go_ret
      exact ⟨by first|rfl|(simp [errW_none, errW_some] <;> rfl)|(simp [*, errW_none, errW_some] <;> rfl), by repeat (first|(with_reducible first|exact HB.out|apply lA|apply lN|apply lD|refine lS ?_ GE101.out)|exact HB.out)⟩
     ·rw [if_neg c6] at H
      have c6b0 : ((a0_2 / 2048) == 27) = false := beq_eq_false_iff_ne.mpr c6
      have c6b1 : ((a0_2 / 2048) != 27) = true := bne_iff_ne.mpr c6
      replace H := Option.bind_eq_some_iff.mp H
      obtain ⟨t102, A90, H⟩ := H
      replace H : (some t102) = some r := H
      have A9 := aM A90
      clear A90
      obtain rfl := Option.some.inj H
      go_enter Tryd.func21, Tryd.ntmps21
      go_wp2_with (first|((with_reducible refine gate_dst (N := 1) rfl ?_); refine box_event ?hg (N := 1) ?hd (cs := #[.int .i64 a0_0, .int .i64 a0_1, .int .i64 a0_2, .int .i64 a0_3]) (t := 48) ?hr ?_; (case hd => rfl); (case hg => rfl); (case hr => first|(go_simp; done)|(go_simp; rfl)); intro gb101 hg w10 hbox hb; have hB_ := (by repeat (first|(with_reducible first|exact HB.out|apply lA|apply lN|apply lD)|exact HB.out) : Below w.heap.size w _); replace HB := aM (below_step hB_ hb); replace BK101 := aM (hbox); replace GW101 := aM ((bsz hg hB_)); replace GE101 := aM ((bsz hg hB_)); clear hb hbox hg hB_; obtain ⟨hcz11_0, hcz11_1, hcz11_2, hcz11_3, hfz11_0, hfz11_1, hfz11_2, hfz11_3⟩ := bx4z BK101.out)|(go_at_call 37; (with_reducible refine (mark_Right.calls a0_3 t102 _ A9.out).mono ?_); rintro e w' ⟨rfl, ⟨nd, rfl⟩⟩))
      go_ret
      exact ⟨by first|rfl|(simp [errW_none, errW_some] <;> rfl)|(simp [*, errW_none, errW_some] <;> rfl), by repeat (first|(with_reducible first|exact HB.out|apply lA|apply lN|apply lD|refine lS ?_ GE101.out)|exact HB.out)⟩
    ·rw [if_neg c5] at H
     have c5b0 : decide (a0_2 ≤ 1114111) = false := decide_eq_false c5
     clear c5
     obtain rfl := Option.some.inj H
     go_enter Tryd.func21, Tryd.ntmps21
     go_wp2_with (first|((with_reducible refine gate_dst (N := 1) rfl ?_); refine box_event ?hg (N := 1) ?hd (cs := #[.int .i64 a0_0, .int .i64 a0_1, .int .i64 a0_2, .int .i64 a0_3]) (t := 48) ?hr ?_; (case hd => rfl); (case hg => rfl); (case hr => first|(go_simp; done)|(go_simp; rfl)); intro gb101 hg w12 hbox hb; have hB_ := (by repeat (first|(with_reducible first|exact HB.out|apply lA|apply lN|apply lD)|exact HB.out) : Below w.heap.size w _); replace HB := aM (below_step hB_ hb); replace BK101 := aM (hbox); replace GW101 := aM ((bsz hg hB_)); replace GE101 := aM ((bsz hg hB_)); clear hb hbox hg hB_; obtain ⟨hcz13_0, hcz13_1, hcz13_2, hcz13_3, hfz13_0, hfz13_1, hfz13_2, hfz13_3⟩ := bx4z BK101.out))
     go_ret
     exact ⟨by first|rfl|(simp [errW_none, errW_some] <;> rfl)|(simp [*, errW_none, errW_some] <;> rfl), by repeat (first|(with_reducible first|exact HB.out|apply lA|apply lN|apply lD|refine lS ?_ GE101.out)|exact HB.out)⟩
   ·rw [if_neg c4] at H
    have c4b0 : decide (0 ≤ a0_2) = false := decide_eq_false c4
    clear c4
    obtain rfl := Option.some.inj H
    go_enter Tryd.func21, Tryd.ntmps21
    go_wp2_with (first|((with_reducible refine gate_dst (N := 1) rfl ?_); refine box_event ?hg (N := 1) ?hd (cs := #[.int .i64 a0_0, .int .i64 a0_1, .int .i64 a0_2, .int .i64 a0_3]) (t := 48) ?hr ?_; (case hd => rfl); (case hg => rfl); (case hr => first|(go_simp; done)|(go_simp; rfl)); intro gb101 hg w14 hbox hb; have hB_ := (by repeat (first|(with_reducible first|exact HB.out|apply lA|apply lN|apply lD)|exact HB.out) : Below w.heap.size w _); replace HB := aM (below_step hB_ hb); replace BK101 := aM (hbox); replace GW101 := aM ((bsz hg hB_)); replace GE101 := aM ((bsz hg hB_)); clear hb hbox hg hB_; obtain ⟨hcz15_0, hcz15_1, hcz15_2, hcz15_3, hfz15_0, hfz15_1, hfz15_2, hfz15_3⟩ := bx4z BK101.out))
    go_ret
    exact ⟨by first|rfl|(simp [errW_none, errW_some] <;> rfl)|(simp [*, errW_none, errW_some] <;> rfl), by repeat (first|(with_reducible first|exact HB.out|apply lA|apply lN|apply lD|refine lS ?_ GE101.out)|exact HB.out)⟩
  ·rw [if_neg c3] at H
   have c3b0 : (a0_1 == 0) = false := beq_eq_false_iff_ne.mpr c3
   have c3b1 : (a0_1 != 0) = true := bne_iff_ne.mpr c3
   obtain rfl := Option.some.inj H
   go_enter Tryd.func21, Tryd.ntmps21
   go_wp2_with (first|((with_reducible refine gate_dst (N := 1) rfl ?_); refine box_event ?hg (N := 1) ?hd (cs := #[.int .i64 a0_0, .int .i64 a0_1, .int .i64 a0_2, .int .i64 a0_3]) (t := 48) ?hr ?_; (case hd => rfl); (case hg => rfl); (case hr => first|(go_simp; done)|(go_simp; rfl)); intro gb101 hg w16 hbox hb; have hB_ := (by repeat (first|(with_reducible first|exact HB.out|apply lA|apply lN|apply lD)|exact HB.out) : Below w.heap.size w _); replace HB := aM (below_step hB_ hb); replace BK101 := aM (hbox); replace GW101 := aM ((bsz hg hB_)); replace GE101 := aM ((bsz hg hB_)); clear hb hbox hg hB_; obtain ⟨hcz17_0, hcz17_1, hcz17_2, hcz17_3, hfz17_0, hfz17_1, hfz17_2, hfz17_3⟩ := bx4z BK101.out))
   go_ret
   exact ⟨by first|rfl|(simp [errW_none, errW_some] <;> rfl)|(simp [*, errW_none, errW_some] <;> rfl), by repeat (first|(with_reducible first|exact HB.out|apply lA|apply lN|apply lD|refine lS ?_ GE101.out)|exact HB.out)⟩
 ·rw [if_neg c2] at H
  have c2b0 : (a0_0 == 0) = false := beq_eq_false_iff_ne.mpr c2
  have c2b1 : (a0_0 != 0) = true := bne_iff_ne.mpr c2
  by_cases c18 : a0_0 = 2
  ·rw [if_pos c18] at H
   have c18b0 : (a0_0 == 2) = true := beq_iff_eq.mpr c18
   have c18b1 : (a0_0 != 2) = false := bne_eq_false_iff_eq.mpr c18
   clear c18
   obtain rfl := Option.some.inj H
   go_enter Tryd.func21, Tryd.ntmps21
   go_wp2_with (first|((with_reducible refine gate_dst (N := 1) rfl ?_); refine box_event ?hg (N := 1) ?hd (cs := #[.int .i64 a0_0, .int .i64 a0_1, .int .i64 a0_2, .int .i64 a0_3]) (t := 48) ?hr ?_; (case hd => rfl); (case hg => rfl); (case hr => first|(go_simp; done)|(go_simp; rfl)); intro gb101 hg w19 hbox hb; have hB_ := (by repeat (first|(with_reducible first|exact HB.out|apply lA|apply lN|apply lD)|exact HB.out) : Below w.heap.size w _); replace HB := aM (below_step hB_ hb); replace BK101 := aM (hbox); replace GW101 := aM ((bsz hg hB_)); replace GE101 := aM ((bsz hg hB_)); clear hb hbox hg hB_; obtain ⟨hcz20_0, hcz20_1, hcz20_2, hcz20_3, hfz20_0, hfz20_1, hfz20_2, hfz20_3⟩ := bx4z BK101.out))
   go_ret
   exact ⟨by first|rfl|(simp [errW_none, errW_some] <;> rfl)|(simp [*, errW_none, errW_some] <;> rfl), by repeat (first|(with_reducible first|exact HB.out|apply lA|apply lN|apply lD|refine lS ?_ GE101.out)|exact HB.out)⟩
  ·rw [if_neg c18] at H
   have c18b0 : (a0_0 == 2) = false := beq_eq_false_iff_ne.mpr c18
   have c18b1 : (a0_0 != 2) = true := bne_iff_ne.mpr c18
   by_cases c21 : a0_0 = 1
   ·rw [if_pos c21] at H
    have c21b0 : (a0_0 == 1) = true := beq_iff_eq.mpr c21
    have c21b1 : (a0_0 != 1) = false := bne_eq_false_iff_eq.mpr c21
    clear c21
    by_cases c22 : a0_1 > 0
    ·rw [if_pos c22] at H
     have c22b0 : decide (0 < a0_1) = true := decide_eq_true c22
     clear c22
     by_cases c23 : a0_1 < 16
     ·rw [if_pos c23] at H
      have c23b0 : decide (a0_1 < 16) = true := decide_eq_true c23
      clear c23
      by_cases c24 : a0_2 ≥ 0
      ·rw [if_pos c24] at H
       have c24b0 : decide (0 ≤ a0_2) = true := decide_eq_true c24
       clear c24
       by_cases c25 : a0_2 < 16
       ·rw [if_pos c25] at H
        have c25b0 : decide (a0_2 < 16) = true := decide_eq_true c25
        clear c25
        obtain rfl := Option.some.inj H
        go_enter Tryd.func21, Tryd.ntmps21
        go_wp2_with (first|((with_reducible refine gate_dst (N := 1) rfl ?_); refine box_event ?hg (N := 1) ?hd (cs := #[.int .i64 a0_0, .int .i64 a0_1, .int .i64 a0_2, .int .i64 a0_3]) (t := 48) ?hr ?_; (case hd => rfl); (case hg => rfl); (case hr => first|(go_simp; done)|(go_simp; rfl)); intro gb101 hg w26 hbox hb; have hB_ := (by repeat (first|(with_reducible first|exact HB.out|apply lA|apply lN|apply lD)|exact HB.out) : Below w.heap.size w _); replace HB := aM (below_step hB_ hb); replace BK101 := aM (hbox); replace GW101 := aM ((bsz hg hB_)); replace GE101 := aM ((bsz hg hB_)); clear hb hbox hg hB_; obtain ⟨hcz27_0, hcz27_1, hcz27_2, hcz27_3, hfz27_0, hfz27_1, hfz27_2, hfz27_3⟩ := bx4z BK101.out))
        go_ret
        exact ⟨by first|rfl|(simp [errW_none, errW_some] <;> rfl)|(simp [*, errW_none, errW_some] <;> rfl), by repeat (first|(with_reducible first|exact HB.out|apply lA|apply lN|apply lD|refine lS ?_ GE101.out)|exact HB.out)⟩
       ·rw [if_neg c25] at H
        have c25b0 : decide (a0_2 < 16) = false := decide_eq_false c25
        clear c25
        obtain rfl := Option.some.inj H
        go_enter Tryd.func21, Tryd.ntmps21
        go_wp2_with (first|((with_reducible refine gate_dst (N := 1) rfl ?_); refine box_event ?hg (N := 1) ?hd (cs := #[.int .i64 a0_0, .int .i64 a0_1, .int .i64 a0_2, .int .i64 a0_3]) (t := 48) ?hr ?_; (case hd => rfl); (case hg => rfl); (case hr => first|(go_simp; done)|(go_simp; rfl)); intro gb101 hg w28 hbox hb; have hB_ := (by repeat (first|(with_reducible first|exact HB.out|apply lA|apply lN|apply lD)|exact HB.out) : Below w.heap.size w _); replace HB := aM (below_step hB_ hb); replace BK101 := aM (hbox); replace GW101 := aM ((bsz hg hB_)); replace GE101 := aM ((bsz hg hB_)); clear hb hbox hg hB_; obtain ⟨hcz29_0, hcz29_1, hcz29_2, hcz29_3, hfz29_0, hfz29_1, hfz29_2, hfz29_3⟩ := bx4z BK101.out))
        go_ret
        exact ⟨by first|rfl|(simp [errW_none, errW_some] <;> rfl)|(simp [*, errW_none, errW_some] <;> rfl), by repeat (first|(with_reducible first|exact HB.out|apply lA|apply lN|apply lD|refine lS ?_ GE101.out)|exact HB.out)⟩
      ·rw [if_neg c24] at H
       have c24b0 : decide (0 ≤ a0_2) = false := decide_eq_false c24
       clear c24
       obtain rfl := Option.some.inj H
       go_enter Tryd.func21, Tryd.ntmps21
       go_wp2_with (first|((with_reducible refine gate_dst (N := 1) rfl ?_); refine box_event ?hg (N := 1) ?hd (cs := #[.int .i64 a0_0, .int .i64 a0_1, .int .i64 a0_2, .int .i64 a0_3]) (t := 48) ?hr ?_; (case hd => rfl); (case hg => rfl); (case hr => first|(go_simp; done)|(go_simp; rfl)); intro gb101 hg w30 hbox hb; have hB_ := (by repeat (first|(with_reducible first|exact HB.out|apply lA|apply lN|apply lD)|exact HB.out) : Below w.heap.size w _); replace HB := aM (below_step hB_ hb); replace BK101 := aM (hbox); replace GW101 := aM ((bsz hg hB_)); replace GE101 := aM ((bsz hg hB_)); clear hb hbox hg hB_; obtain ⟨hcz31_0, hcz31_1, hcz31_2, hcz31_3, hfz31_0, hfz31_1, hfz31_2, hfz31_3⟩ := bx4z BK101.out))
       go_ret
       exact ⟨by first|rfl|(simp [errW_none, errW_some] <;> rfl)|(simp [*, errW_none, errW_some] <;> rfl), by repeat (first|(with_reducible first|exact HB.out|apply lA|apply lN|apply lD|refine lS ?_ GE101.out)|exact HB.out)⟩
     ·rw [if_neg c23] at H
      have c23b0 : decide (a0_1 < 16) = false := decide_eq_false c23
      clear c23
      obtain rfl := Option.some.inj H
      go_enter Tryd.func21, Tryd.ntmps21
      go_wp2_with (first|((with_reducible refine gate_dst (N := 1) rfl ?_); refine box_event ?hg (N := 1) ?hd (cs := #[.int .i64 a0_0, .int .i64 a0_1, .int .i64 a0_2, .int .i64 a0_3]) (t := 48) ?hr ?_; (case hd => rfl); (case hg => rfl); (case hr => first|(go_simp; done)|(go_simp; rfl)); intro gb101 hg w32 hbox hb; have hB_ := (by repeat (first|(with_reducible first|exact HB.out|apply lA|apply lN|apply lD)|exact HB.out) : Below w.heap.size w _); replace HB := aM (below_step hB_ hb); replace BK101 := aM (hbox); replace GW101 := aM ((bsz hg hB_)); replace GE101 := aM ((bsz hg hB_)); clear hb hbox hg hB_; obtain ⟨hcz33_0, hcz33_1, hcz33_2, hcz33_3, hfz33_0, hfz33_1, hfz33_2, hfz33_3⟩ := bx4z BK101.out))
      go_ret
      exact ⟨by first|rfl|(simp [errW_none, errW_some] <;> rfl)|(simp [*, errW_none, errW_some] <;> rfl), by repeat (first|(with_reducible first|exact HB.out|apply lA|apply lN|apply lD|refine lS ?_ GE101.out)|exact HB.out)⟩
    ·rw [if_neg c22] at H
     have c22b0 : decide (0 < a0_1) = false := decide_eq_false c22
     clear c22
     obtain rfl := Option.some.inj H
     go_enter Tryd.func21, Tryd.ntmps21
     go_wp2_with (first|((with_reducible refine gate_dst (N := 1) rfl ?_); refine box_event ?hg (N := 1) ?hd (cs := #[.int .i64 a0_0, .int .i64 a0_1, .int .i64 a0_2, .int .i64 a0_3]) (t := 48) ?hr ?_; (case hd => rfl); (case hg => rfl); (case hr => first|(go_simp; done)|(go_simp; rfl)); intro gb101 hg w34 hbox hb; have hB_ := (by repeat (first|(with_reducible first|exact HB.out|apply lA|apply lN|apply lD)|exact HB.out) : Below w.heap.size w _); replace HB := aM (below_step hB_ hb); replace BK101 := aM (hbox); replace GW101 := aM ((bsz hg hB_)); replace GE101 := aM ((bsz hg hB_)); clear hb hbox hg hB_; obtain ⟨hcz35_0, hcz35_1, hcz35_2, hcz35_3, hfz35_0, hfz35_1, hfz35_2, hfz35_3⟩ := bx4z BK101.out))
     go_ret
     exact ⟨by first|rfl|(simp [errW_none, errW_some] <;> rfl)|(simp [*, errW_none, errW_some] <;> rfl), by repeat (first|(with_reducible first|exact HB.out|apply lA|apply lN|apply lD|refine lS ?_ GE101.out)|exact HB.out)⟩
   ·rw [if_neg c21] at H
    have c21b0 : (a0_0 == 1) = false := beq_eq_false_iff_ne.mpr c21
    have c21b1 : (a0_0 != 1) = true := bne_iff_ne.mpr c21
    by_cases c36 : a0_0 = 3
    ·rw [if_pos c36] at H
     have c36b0 : (a0_0 == 3) = true := beq_iff_eq.mpr c36
     have c36b1 : (a0_0 != 3) = false := bne_eq_false_iff_eq.mpr c36
     clear c36
     by_cases c37 : a0_1 > 0
     ·rw [if_pos c37] at H
      have c37b0 : decide (0 < a0_1) = true := decide_eq_true c37
      clear c37
      by_cases c38 : a0_1 < 16
      ·rw [if_pos c38] at H
       have c38b0 : decide (a0_1 < 16) = true := decide_eq_true c38
       clear c38
       by_cases c39 : a0_2 ≥ 0
       ·rw [if_pos c39] at H
        have c39b0 : decide (0 ≤ a0_2) = true := decide_eq_true c39
        clear c39
        by_cases c40 : a0_2 < 16
        ·rw [if_pos c40] at H
         have c40b0 : decide (a0_2 < 16) = true := decide_eq_true c40
         clear c40
         obtain rfl := Option.some.inj H
         go_enter Tryd.func21, Tryd.ntmps21
         go_wp2_with (first|((with_reducible refine gate_dst (N := 1) rfl ?_); refine box_event ?hg (N := 1) ?hd (cs := #[.int .i64 a0_0, .int .i64 a0_1, .int .i64 a0_2, .int .i64 a0_3]) (t := 48) ?hr ?_; (case hd => rfl); (case hg => rfl); (case hr => first|(go_simp; done)|(go_simp; rfl)); intro gb101 hg w41 hbox hb; have hB_ := (by repeat (first|(with_reducible first|exact HB.out|apply lA|apply lN|apply lD)|exact HB.out) : Below w.heap.size w _); replace HB := aM (below_step hB_ hb); replace BK101 := aM (hbox); replace GW101 := aM ((bsz hg hB_)); replace GE101 := aM ((bsz hg hB_)); clear hb hbox hg hB_; obtain ⟨hcz42_0, hcz42_1, hcz42_2, hcz42_3, hfz42_0, hfz42_1, hfz42_2, hfz42_3⟩ := bx4z BK101.out))
         go_ret
         exact ⟨by first|rfl|(simp [errW_none, errW_some] <;> rfl)|(simp [*, errW_none, errW_some] <;> rfl), by repeat (first|(with_reducible first|exact HB.out|apply lA|apply lN|apply lD|refine lS ?_ GE101.out)|exact HB.out)⟩
        ·rw [if_neg c40] at H
         have c40b0 : decide (a0_2 < 16) = false := decide_eq_false c40
         clear c40
         obtain rfl := Option.some.inj H
         go_enter Tryd.func21, Tryd.ntmps21
         go_wp2_with (first|((with_reducible refine gate_dst (N := 1) rfl ?_); refine box_event ?hg (N := 1) ?hd (cs := #[.int .i64 a0_0, .int .i64 a0_1, .int .i64 a0_2, .int .i64 a0_3]) (t := 48) ?hr ?_; (case hd => rfl); (case hg => rfl); (case hr => first|(go_simp; done)|(go_simp; rfl)); intro gb101 hg w43 hbox hb; have hB_ := (by repeat (first|(with_reducible first|exact HB.out|apply lA|apply lN|apply lD)|exact HB.out) : Below w.heap.size w _); replace HB := aM (below_step hB_ hb); replace BK101 := aM (hbox); replace GW101 := aM ((bsz hg hB_)); replace GE101 := aM ((bsz hg hB_)); clear hb hbox hg hB_; obtain ⟨hcz44_0, hcz44_1, hcz44_2, hcz44_3, hfz44_0, hfz44_1, hfz44_2, hfz44_3⟩ := bx4z BK101.out))
         go_ret
         exact ⟨by first|rfl|(simp [errW_none, errW_some] <;> rfl)|(simp [*, errW_none, errW_some] <;> rfl), by repeat (first|(with_reducible first|exact HB.out|apply lA|apply lN|apply lD|refine lS ?_ GE101.out)|exact HB.out)⟩
       ·rw [if_neg c39] at H
        have c39b0 : decide (0 ≤ a0_2) = false := decide_eq_false c39
        clear c39
        obtain rfl := Option.some.inj H
        go_enter Tryd.func21, Tryd.ntmps21
        go_wp2_with (first|((with_reducible refine gate_dst (N := 1) rfl ?_); refine box_event ?hg (N := 1) ?hd (cs := #[.int .i64 a0_0, .int .i64 a0_1, .int .i64 a0_2, .int .i64 a0_3]) (t := 48) ?hr ?_; (case hd => rfl); (case hg => rfl); (case hr => first|(go_simp; done)|(go_simp; rfl)); intro gb101 hg w45 hbox hb; have hB_ := (by repeat (first|(with_reducible first|exact HB.out|apply lA|apply lN|apply lD)|exact HB.out) : Below w.heap.size w _); replace HB := aM (below_step hB_ hb); replace BK101 := aM (hbox); replace GW101 := aM ((bsz hg hB_)); replace GE101 := aM ((bsz hg hB_)); clear hb hbox hg hB_; obtain ⟨hcz46_0, hcz46_1, hcz46_2, hcz46_3, hfz46_0, hfz46_1, hfz46_2, hfz46_3⟩ := bx4z BK101.out))
        go_ret
        exact ⟨by first|rfl|(simp [errW_none, errW_some] <;> rfl)|(simp [*, errW_none, errW_some] <;> rfl), by repeat (first|(with_reducible first|exact HB.out|apply lA|apply lN|apply lD|refine lS ?_ GE101.out)|exact HB.out)⟩
      ·rw [if_neg c38] at H
       have c38b0 : decide (a0_1 < 16) = false := decide_eq_false c38
       clear c38
       obtain rfl := Option.some.inj H
       go_enter Tryd.func21, Tryd.ntmps21
       go_wp2_with (first|((with_reducible refine gate_dst (N := 1) rfl ?_); refine box_event ?hg (N := 1) ?hd (cs := #[.int .i64 a0_0, .int .i64 a0_1, .int .i64 a0_2, .int .i64 a0_3]) (t := 48) ?hr ?_; (case hd => rfl); (case hg => rfl); (case hr => first|(go_simp; done)|(go_simp; rfl)); intro gb101 hg w47 hbox hb; have hB_ := (by repeat (first|(with_reducible first|exact HB.out|apply lA|apply lN|apply lD)|exact HB.out) : Below w.heap.size w _); replace HB := aM (below_step hB_ hb); replace BK101 := aM (hbox); replace GW101 := aM ((bsz hg hB_)); replace GE101 := aM ((bsz hg hB_)); clear hb hbox hg hB_; obtain ⟨hcz48_0, hcz48_1, hcz48_2, hcz48_3, hfz48_0, hfz48_1, hfz48_2, hfz48_3⟩ := bx4z BK101.out))
       go_ret
       exact ⟨by first|rfl|(simp [errW_none, errW_some] <;> rfl)|(simp [*, errW_none, errW_some] <;> rfl), by repeat (first|(with_reducible first|exact HB.out|apply lA|apply lN|apply lD|refine lS ?_ GE101.out)|exact HB.out)⟩
     ·rw [if_neg c37] at H
      have c37b0 : decide (0 < a0_1) = false := decide_eq_false c37
      clear c37
      obtain rfl := Option.some.inj H
      go_enter Tryd.func21, Tryd.ntmps21
      go_wp2_with (first|((with_reducible refine gate_dst (N := 1) rfl ?_); refine box_event ?hg (N := 1) ?hd (cs := #[.int .i64 a0_0, .int .i64 a0_1, .int .i64 a0_2, .int .i64 a0_3]) (t := 48) ?hr ?_; (case hd => rfl); (case hg => rfl); (case hr => first|(go_simp; done)|(go_simp; rfl)); intro gb101 hg w49 hbox hb; have hB_ := (by repeat (first|(with_reducible first|exact HB.out|apply lA|apply lN|apply lD)|exact HB.out) : Below w.heap.size w _); replace HB := aM (below_step hB_ hb); replace BK101 := aM (hbox); replace GW101 := aM ((bsz hg hB_)); replace GE101 := aM ((bsz hg hB_)); clear hb hbox hg hB_; obtain ⟨hcz50_0, hcz50_1, hcz50_2, hcz50_3, hfz50_0, hfz50_1, hfz50_2, hfz50_3⟩ := bx4z BK101.out))
      go_ret
      exact ⟨by first|rfl|(simp [errW_none, errW_some] <;> rfl)|(simp [*, errW_none, errW_some] <;> rfl), by repeat (first|(with_reducible first|exact HB.out|apply lA|apply lN|apply lD|refine lS ?_ GE101.out)|exact HB.out)⟩
    ·rw [if_neg c36] at H
     have c36b0 : (a0_0 == 3) = false := beq_eq_false_iff_ne.mpr c36
     have c36b1 : (a0_0 != 3) = true := bne_iff_ne.mpr c36
     obtain rfl := Option.some.inj H
     go_enter Tryd.func21, Tryd.ntmps21
     go_wp2_with (first|((with_reducible refine gate_dst (N := 1) rfl ?_); refine box_event ?hg (N := 1) ?hd (cs := #[.int .i64 a0_0, .int .i64 a0_1, .int .i64 a0_2, .int .i64 a0_3]) (t := 48) ?hr ?_; (case hd => rfl); (case hg => rfl); (case hr => first|(go_simp; done)|(go_simp; rfl)); intro gb101 hg w51 hbox hb; have hB_ := (by repeat (first|(with_reducible first|exact HB.out|apply lA|apply lN|apply lD)|exact HB.out) : Below w.heap.size w _); replace HB := aM (below_step hB_ hb); replace BK101 := aM (hbox); replace GW101 := aM ((bsz hg hB_)); replace GE101 := aM ((bsz hg hB_)); clear hb hbox hg hB_; obtain ⟨hcz52_0, hcz52_1, hcz52_2, hcz52_3, hfz52_0, hfz52_1, hfz52_2, hfz52_3⟩ := bx4z BK101.out))
     go_ret
     exact ⟨by first|rfl|(simp [errW_none, errW_some] <;> rfl)|(simp [*, errW_none, errW_some] <;> rfl), by repeat (first|(with_reducible first|exact HB.out|apply lA|apply lN|apply lD|refine lS ?_ GE101.out)|exact HB.out)⟩
def flat_Check.l0 : List S48 → Int → Int → Option (Int × Int)
|[], n, i => if n > 0 then some (i, 3) else some (i, 0)
|t :: ts, n, i => (flat_Right.f t.f0 t.f1 t.f2 t.f3).bind fun b => if b = true then (if t.f0 = 2 then (if n = 0 then some (i, 4) else flat_Check.l0 ts (n - 1) (i + 1)) else if t.f0 = 1 then (if n = 32 then some (i, 8) else flat_Check.l0 ts (n + 1) (i + 1)) else flat_Check.l0 ts n (i + 1)) else some (i, 4)
def flat_Check.f (l0 : List S48) : Option (Int × Int) := if (l0.length : Int) > 2048 then some (0, 2) else flat_Check.l0 l0 0 0
/-- The array of what is open: it is written, never read. -/
def flat_Check.Arr (W : World) (g : Nat) : Prop := ∃ cs : Array Value, cs.size = 32 ∧ (∀ v ∈ cs, v.oneCell' = true) ∧ W.heap[g]? = some (.cells cs 72 (0, 0))
theorem flat_Check.arr_below {W W1 : World} {g : Nat} (h : flat_Check.Arr W g) (hb : Below W.heap.size W W1) : flat_Check.Arr W1 g := by
 obtain ⟨cs, h1, h2, h3⟩ := h
 exact ⟨cs, h1, h2, blk_below h3 hb⟩
theorem flat_Check.arr_far {W : World} {g b j : Nat} (h : flat_Check.Arr W g) (hne : g ≠ b) (u : Value) : flat_Check.Arr (W.setCell ⟨b, j, none⟩ u) g := by
 obtain ⟨cs, h1, h2, h3⟩ := h
 exact ⟨cs, h1, h2, bF h3 hne u⟩
theorem flat_Check.arr_drewN {W : World} {g : Nat} (h : flat_Check.Arr W g) (m : Nat) : flat_Check.Arr (W.drewN m) g := h
theorem flat_Check.arr_drew {W : World} {g : Nat} (h : flat_Check.Arr W g) : flat_Check.Arr W.drew g := h
theorem flat_Check.arr_set {W : World} {g : Nat} (h : flat_Check.Arr W g) (j : Nat) (x : Int) : flat_Check.Arr (W.setCell ⟨g, j, none⟩ (.int .i64 x)) g := by
 obtain ⟨cs, h1, h2, h3⟩ := h
 refine ⟨cs.setIfInBounds j (.int .i64 x), by simpa using h1, ?_, by simpa using blk_set h3 j (.int .i64 x)⟩
 intro v hv
 rcases Array.mem_or_eq_of_mem_setIfInBounds hv with hv|hv
 ·exact h2 v hv
 ·subst hv
  rfl
theorem flat_Check.arr_cell {W : World} {g : Nat} (h : flat_Check.Arr W g) (j : Nat) (hj : j < 32) : (∃ v, W.cell? ⟨g, j, none⟩ = some v ∧ v.oneCell' = true) ∧ W.frozen? ⟨g, j, none⟩ = false := by
 obtain ⟨cs, h1, h2, h3⟩ := h
 refine ⟨⟨cs[j]'(by omega), ?_, h2 _ (Array.getElem_mem _)⟩, blk_frozen h3 j⟩
 rw [blk_cell h3 j]
 exact Array.getElem?_eq_getElem _
theorem flat_Check.step (l0 : List S48) (n i : Int) (hi : i.toNat < l0.length) : flat_Check.l0 (l0.drop i.toNat) n i = (flat_Right.f (rd_T48 l0 i).f0 (rd_T48 l0 i).f1 (rd_T48 l0 i).f2 (rd_T48 l0 i).f3).bind fun b => if b = true then (if (rd_T48 l0 i).f0 = 2 then (if n = 0 then some (i, 4) else flat_Check.l0 (l0.drop (i.toNat + 1)) (n - 1) (i + 1)) else if (rd_T48 l0 i).f0 = 1 then (if n = 32 then some (i, 8) else flat_Check.l0 (l0.drop (i.toNat + 1)) (n + 1) (i + 1)) else flat_Check.l0 (l0.drop (i.toNat + 1)) n (i + 1)) else some (i, 4) := by
 have e : rd_T48 l0 i = l0[i.toNat] := by simp [rd_T48, List.getD_eq_getElem?_getD, List.getElem?_eq_getElem hi]
 rw [List.drop_eq_getElem_cons hi, e]
 rfl
set_option maxHeartbeats 8000000 in
set_option maxRecDepth 100000 in
theorem flat_Check.calls (A0 : Option Addr) (c0 : Nat) (l0 : List S48) (r1 : Int) (r2 : Int) (w : World) (hr0 : Kd.C k48 w A0 l0.length l0) (hc0 : l0.length ≤ c0) (h : flat_Check.f l0 = some (r1, r2)) :
  Calls Tryd.prog 10 #[.slice A0 l0.length c0] w fun e w' => e = .returned (.tuple #[.int .i64 r1, .int .i64 r2]) ∧ Below w.heap.size w w' := by
 have hu_ := Tryd.underlying48
 have hu2_ := Tryd.underlying72
 have HR0 := aM hr0
 have HC0 := aM hc0
 clear hr0 hc0
 have HB := aM (Below.refl w.heap.size w)
 unfold flat_Check.f at h
 by_cases c2 : (l0.length : Int) > 2048
 ·rw [if_pos c2] at h
  have c2b0 : decide (2048 < (l0.length : Int)) = true := decide_eq_true c2
  have c2b1 : decide (2048 < l0.length) = true := decide_eq_true (by omega)
  clear c2
  simp only [Option.some.injEq, Prod.mk.injEq] at h
  obtain ⟨rfl, rfl⟩ := h
  go_enter Tryd.func10, Tryd.ntmps10
  go_wp2
  go_ret2
  exact ⟨rfl, HB.out⟩
 ·rw [if_neg c2] at h
  have c2b0 : decide (2048 < (l0.length : Int)) = false := decide_eq_false c2
  have c2b1 : decide (2048 < l0.length) = false := decide_eq_false (by omega)
  have HL := aM (show l0.length ≤ 2048 from by omega)
  clear c2
  have H' := aM h
  clear h
  go_enter Tryd.func10, Tryd.ntmps10
  go_wp2_with (first|((with_reducible refine gate_dst (N := 4) rfl ?_); refine box_event ?hg (N := 4) ?hd (cs := Array.replicate 32 (.int .i64 0)) (t := 72) ?hr ?_; (case hd => rfl); (case hg => rfl); (case hr => first|(go_simp; done)|(go_simp; rfl)); intro gA hg w3 hbox hb; have n0_ := aM (below_step (by repeat (first|(with_reducible first|exact HB.out|apply lA|apply lN|apply lD)|exact HB.out)) hb); have GA := aM ((by rw [hg]; exact (below_size (by repeat (first|(with_reducible first|exact HB.out|apply lA|apply lN|apply lD)|exact HB.out)))) : w.heap.size ≤ gA); have HAR := aM (show flat_Check.Arr w3 gA from ⟨_, by simp, by simp [Value.oneCell'], hbox⟩); clear HB; have HB := n0_; clear n0_ hb hbox hg))
  go_loopg [5, 13] l0.length (fun kq v5 v13 w' => ∃ (n i : Int), v5 = .int .i64 n ∧ v13 = .int .i64 i ∧ Aside0 (0 ≤ i ∧ i + kq = l0.length) ∧ Aside0 (0 ≤ n ∧ n ≤ 32) ∧ Aside0 (flat_Check.l0 (l0.drop i.toNat) n i = some (r1, r2)) ∧ Aside0 (flat_Check.Arr w' gA) ∧ Aside0 (Below w.heap.size w w'))
  case atStart => exact ⟨0, 0, rfl, rfl, ⟨by omega⟩, ⟨by omega⟩, H', HAR, HB⟩
  case round =>
   clear H' HAR HB c2b0 c2b1
   obtain ⟨n, i, rfl, rfl, HI, HN, HA, HAR, HB⟩ := hrel
   have hI := HI.out
   have hN := HN.out
   have h := HA.out
   have hL := HL.out
   clear HI HN HA HL
   by_cases c3 : i < (l0.length : Int)
   ·have c3b : decide (i < (l0.length : Int)) = true := decide_eq_true c3
    have c3c : decide (0 ≤ i) = true := decide_eq_true hI.1
    rw [flat_Check.step l0 n i (by omega)] at h
    obtain ⟨tb, A60, h⟩ := Option.bind_eq_some_iff.mp h
    have A6 := aM A60
    clear A60
    obtain ⟨ad, e_, hx0, hx1, hx2, hx3⟩ := at_T48 HR0.out i hI.1 c3
    cases e_
    replace hx0 := cB HB.out hx0
    replace hx1 := cB HB.out hx1
    replace hx2 := cB HB.out hx2
    replace hx3 := cB HB.out hx3
    have HI := aM hI
    have HN := aM hN
    have C3 := aM c3
    have p1 := eq_true hI.1
    have q1 := eq_true c3
    have wi : wrap64 (i + 1) = i + 1 := by unfold wrap64; omega
    have wn : wrap64 (n + 1) = n + 1 := by unfold wrap64; omega
    have wm : 0 < n → wrap64 (n - 1) = n - 1 := by intro _; unfold wrap64; omega
    have WI := aM wi
    have WN := aM wn
    have WM := aM wm
    clear wi wn wm
    have T1 := aM (show (i + 1).toNat = i.toNat + 1 from by omega)
    clear hI hN c3 hL
    cases tb with
   |false =>
     rw [if_neg (by decide)] at h
     simp only [Option.some.injEq, Prod.mk.injEq] at h
     obtain ⟨rfl, rfl⟩ := h
     go_wp2_with (first|((with_reducible refine gate_dst (N := 7) rfl ?_); refine box_event ?hg (N := 7) ?hd (cs := #[.int .i64 0, .int .i64 0, .int .i64 0, .int .i64 0]) (t := 48) ?hr ?_; (case hd => rfl); (case hg => rfl); (case hr => first|(go_simp; done)|(go_simp; rfl)); intro gb hg w8 hbox hb; have hB_ := (by repeat (first|(with_reducible first|exact HB.out|apply lA|apply lN|apply lD)|exact HB.out) : Below w.heap.size w _); have n0_ := aM (below_step hB_ hb); have n2_ := aM ((bsz hg hB_) : w.heap.size ≤ gb); have n3_ := aM (flat_Check.arr_below HAR.out hb); clear HB HAR; have HB := n0_; have BK := aM hbox; have GE := n2_; have HAR := n3_; have HNE := aM (show gA ≠ gb from by obtain ⟨_, _, _, ha_⟩ := HAR.out; exact blk_ne ha_ BK.out (by decide)); clear n0_ n2_ n3_; clear hb hbox hg hB_; have hcz_0 : w8.cell? ⟨gb, 0, none⟩ = some (.int .i64 0) := (blk_cell BK.out 0).trans rfl; have hcz_1 : w8.cell? ⟨gb, 1, none⟩ = some (.int .i64 0) := (blk_cell BK.out 1).trans rfl; have hcz_2 : w8.cell? ⟨gb, 2, none⟩ = some (.int .i64 0) := (blk_cell BK.out 2).trans rfl; have hcz_3 : w8.cell? ⟨gb, 3, none⟩ = some (.int .i64 0) := (blk_cell BK.out 3).trans rfl; have hfz_0 := blk_frozen BK.out 0; have hfz_1 := blk_frozen BK.out 1; have hfz_2 := blk_frozen BK.out 2; have hfz_3 := blk_frozen BK.out 3))
     refine (flat_Right.calls (rd_T48 l0 i).f0 (rd_T48 l0 i).f1 (rd_T48 l0 i).f2 (rd_T48 l0 i).f3 _ _ A6.out).mono ?_
     rintro e w10 ⟨rfl, hb⟩
     have n0_ := aM (blk_below (g := gb) (o := .cells #[.int .i64 (rd_T48 l0 i).f0, .int .i64 (rd_T48 l0 i).f1, .int .i64 (rd_T48 l0 i).f2, .int .i64 (rd_T48 l0 i).f3] 48 (0, 0)) (by (with_reducible repeat (first|refine bN ?_ _|refine bD ?_|refine bA ?_ _)); apply put4; (with_reducible repeat (first|refine bN ?_ _|refine bD ?_|refine bA ?_ _)); exact BK.out) hb)
     have n1_ := aM (below_step (by repeat (first|(with_reducible first|exact HB.out|apply lA|apply lN|apply lD|refine lS ?_ GE.out)|exact HB.out)) hb)
     have n2_ := aM (flat_Check.arr_below (by repeat (with_reducible first|exact HAR.out|refine flat_Check.arr_drewN ?_ _|refine flat_Check.arr_drew ?_|refine flat_Check.arr_far ?_ HNE.out _)) hb)
     clear BK HB HAR
     have BK := n0_
     have HB := n1_
     have HAR := n2_
     clear n0_ n1_ n2_ hb
     clear hcz_0 hcz_1 hcz_2 hcz_3 hfz_0 hfz_1 hfz_2 hfz_3
     have hcy_0 : w10.cell? ⟨gb, 0, none⟩ = some (.int .i64 (rd_T48 l0 i).f0) := (blk_cell BK.out 0).trans rfl
     have hcy_1 : w10.cell? ⟨gb, 1, none⟩ = some (.int .i64 (rd_T48 l0 i).f1) := (blk_cell BK.out 1).trans rfl
     have hcy_2 : w10.cell? ⟨gb, 2, none⟩ = some (.int .i64 (rd_T48 l0 i).f2) := (blk_cell BK.out 2).trans rfl
     have hcy_3 : w10.cell? ⟨gb, 3, none⟩ = some (.int .i64 (rd_T48 l0 i).f3) := (blk_cell BK.out 3).trans rfl
     go_wp2
     go_ret2
     exact ⟨rfl, (by repeat (first|(with_reducible first|exact HB.out|apply lA|apply lN|apply lD|refine lS ?_ GE.out)|exact HB.out))⟩
   |true =>
     rw [if_pos rfl] at h
     by_cases c4 : (rd_T48 l0 i).f0 = 2
     ·rw [if_pos c4] at h
      have c4b0 : ((rd_T48 l0 i).f0 == 2) = true := beq_iff_eq.mpr c4
      have c4b1 : ((rd_T48 l0 i).f0 == 1) = false := beq_eq_false_iff_ne.mpr (by omega)
      clear c4
      by_cases c5 : n = 0
      ·rw [if_pos c5] at h
       have c5b0 : (n == 0) = true := beq_iff_eq.mpr c5
       clear c5
       simp only [Option.some.injEq, Prod.mk.injEq] at h
       obtain ⟨rfl, rfl⟩ := h
       go_wp2_with (first|((with_reducible refine gate_dst (N := 7) rfl ?_); refine box_event ?hg (N := 7) ?hd (cs := #[.int .i64 0, .int .i64 0, .int .i64 0, .int .i64 0]) (t := 48) ?hr ?_; (case hd => rfl); (case hg => rfl); (case hr => first|(go_simp; done)|(go_simp; rfl)); intro gb hg w8 hbox hb; have hB_ := (by repeat (first|(with_reducible first|exact HB.out|apply lA|apply lN|apply lD)|exact HB.out) : Below w.heap.size w _); have n0_ := aM (below_step hB_ hb); have n2_ := aM ((bsz hg hB_) : w.heap.size ≤ gb); have n3_ := aM (flat_Check.arr_below HAR.out hb); clear HB HAR; have HB := n0_; have BK := aM hbox; have GE := n2_; have HAR := n3_; have HNE := aM (show gA ≠ gb from by obtain ⟨_, _, _, ha_⟩ := HAR.out; exact blk_ne ha_ BK.out (by decide)); clear n0_ n2_ n3_; clear hb hbox hg hB_; have hcz_0 : w8.cell? ⟨gb, 0, none⟩ = some (.int .i64 0) := (blk_cell BK.out 0).trans rfl; have hcz_1 : w8.cell? ⟨gb, 1, none⟩ = some (.int .i64 0) := (blk_cell BK.out 1).trans rfl; have hcz_2 : w8.cell? ⟨gb, 2, none⟩ = some (.int .i64 0) := (blk_cell BK.out 2).trans rfl; have hcz_3 : w8.cell? ⟨gb, 3, none⟩ = some (.int .i64 0) := (blk_cell BK.out 3).trans rfl; have hfz_0 := blk_frozen BK.out 0; have hfz_1 := blk_frozen BK.out 1; have hfz_2 := blk_frozen BK.out 2; have hfz_3 := blk_frozen BK.out 3))
       refine (flat_Right.calls (rd_T48 l0 i).f0 (rd_T48 l0 i).f1 (rd_T48 l0 i).f2 (rd_T48 l0 i).f3 _ _ A6.out).mono ?_
       rintro e w10 ⟨rfl, hb⟩
       have n0_ := aM (blk_below (g := gb) (o := .cells #[.int .i64 (rd_T48 l0 i).f0, .int .i64 (rd_T48 l0 i).f1, .int .i64 (rd_T48 l0 i).f2, .int .i64 (rd_T48 l0 i).f3] 48 (0, 0)) (by (with_reducible repeat (first|refine bN ?_ _|refine bD ?_|refine bA ?_ _)); apply put4; (with_reducible repeat (first|refine bN ?_ _|refine bD ?_|refine bA ?_ _)); exact BK.out) hb)
       have n1_ := aM (below_step (by repeat (first|(with_reducible first|exact HB.out|apply lA|apply lN|apply lD|refine lS ?_ GE.out)|exact HB.out)) hb)
       have n2_ := aM (flat_Check.arr_below (by repeat (with_reducible first|exact HAR.out|refine flat_Check.arr_drewN ?_ _|refine flat_Check.arr_drew ?_|refine flat_Check.arr_far ?_ HNE.out _)) hb)
       clear BK HB HAR
       have BK := n0_
       have HB := n1_
       have HAR := n2_
       clear n0_ n1_ n2_ hb
       clear hcz_0 hcz_1 hcz_2 hcz_3 hfz_0 hfz_1 hfz_2 hfz_3
       have hcy_0 : w10.cell? ⟨gb, 0, none⟩ = some (.int .i64 (rd_T48 l0 i).f0) := (blk_cell BK.out 0).trans rfl
       have hcy_1 : w10.cell? ⟨gb, 1, none⟩ = some (.int .i64 (rd_T48 l0 i).f1) := (blk_cell BK.out 1).trans rfl
       have hcy_2 : w10.cell? ⟨gb, 2, none⟩ = some (.int .i64 (rd_T48 l0 i).f2) := (blk_cell BK.out 2).trans rfl
       have hcy_3 : w10.cell? ⟨gb, 3, none⟩ = some (.int .i64 (rd_T48 l0 i).f3) := (blk_cell BK.out 3).trans rfl
       go_wp2
       go_ret2
       exact ⟨rfl, (by repeat (first|(with_reducible first|exact HB.out|apply lA|apply lN|apply lD|refine lS ?_ GE.out)|exact HB.out))⟩
      ·rw [if_neg c5] at h
       have c5b0 : (n == 0) = false := beq_eq_false_iff_ne.mpr c5
       have C5 := aM c5
       have wm := WM.out (by have := HN.out; omega)
       clear c5
       have H' := aM h
       clear h
       go_wp2_with (first|((with_reducible refine gate_dst (N := 7) rfl ?_); refine box_event ?hg (N := 7) ?hd (cs := #[.int .i64 0, .int .i64 0, .int .i64 0, .int .i64 0]) (t := 48) ?hr ?_; (case hd => rfl); (case hg => rfl); (case hr => first|(go_simp; done)|(go_simp; rfl)); intro gb hg w8 hbox hb; have hB_ := (by repeat (first|(with_reducible first|exact HB.out|apply lA|apply lN|apply lD)|exact HB.out) : Below w.heap.size w _); have n0_ := aM (below_step hB_ hb); have n2_ := aM ((bsz hg hB_) : w.heap.size ≤ gb); have n3_ := aM (flat_Check.arr_below HAR.out hb); clear HB HAR; have HB := n0_; have BK := aM hbox; have GE := n2_; have HAR := n3_; have HNE := aM (show gA ≠ gb from by obtain ⟨_, _, _, ha_⟩ := HAR.out; exact blk_ne ha_ BK.out (by decide)); clear n0_ n2_ n3_; clear hb hbox hg hB_; have hcz_0 : w8.cell? ⟨gb, 0, none⟩ = some (.int .i64 0) := (blk_cell BK.out 0).trans rfl; have hcz_1 : w8.cell? ⟨gb, 1, none⟩ = some (.int .i64 0) := (blk_cell BK.out 1).trans rfl; have hcz_2 : w8.cell? ⟨gb, 2, none⟩ = some (.int .i64 0) := (blk_cell BK.out 2).trans rfl; have hcz_3 : w8.cell? ⟨gb, 3, none⟩ = some (.int .i64 0) := (blk_cell BK.out 3).trans rfl; have hfz_0 := blk_frozen BK.out 0; have hfz_1 := blk_frozen BK.out 1; have hfz_2 := blk_frozen BK.out 2; have hfz_3 := blk_frozen BK.out 3))
       refine (flat_Right.calls (rd_T48 l0 i).f0 (rd_T48 l0 i).f1 (rd_T48 l0 i).f2 (rd_T48 l0 i).f3 _ _ A6.out).mono ?_
       rintro e w10 ⟨rfl, hb⟩
       have n0_ := aM (blk_below (g := gb) (o := .cells #[.int .i64 (rd_T48 l0 i).f0, .int .i64 (rd_T48 l0 i).f1, .int .i64 (rd_T48 l0 i).f2, .int .i64 (rd_T48 l0 i).f3] 48 (0, 0)) (by (with_reducible repeat (first|refine bN ?_ _|refine bD ?_|refine bA ?_ _)); apply put4; (with_reducible repeat (first|refine bN ?_ _|refine bD ?_|refine bA ?_ _)); exact BK.out) hb)
       have n1_ := aM (below_step (by repeat (first|(with_reducible first|exact HB.out|apply lA|apply lN|apply lD|refine lS ?_ GE.out)|exact HB.out)) hb)
       have n2_ := aM (flat_Check.arr_below (by repeat (with_reducible first|exact HAR.out|refine flat_Check.arr_drewN ?_ _|refine flat_Check.arr_drew ?_|refine flat_Check.arr_far ?_ HNE.out _)) hb)
       clear BK HB HAR
       have BK := n0_
       have HB := n1_
       have HAR := n2_
       clear n0_ n1_ n2_ hb
       clear hcz_0 hcz_1 hcz_2 hcz_3 hfz_0 hfz_1 hfz_2 hfz_3
       have hcy_0 : w10.cell? ⟨gb, 0, none⟩ = some (.int .i64 (rd_T48 l0 i).f0) := (blk_cell BK.out 0).trans rfl
       have hcy_1 : w10.cell? ⟨gb, 1, none⟩ = some (.int .i64 (rd_T48 l0 i).f1) := (blk_cell BK.out 1).trans rfl
       have hcy_2 : w10.cell? ⟨gb, 2, none⟩ = some (.int .i64 (rd_T48 l0 i).f2) := (blk_cell BK.out 2).trans rfl
       have hcy_3 : w10.cell? ⟨gb, 3, none⟩ = some (.int .i64 (rd_T48 l0 i).f3) := (blk_cell BK.out 3).trans rfl
       go_wp2
       go_roundg (gk - 1)
       case measure => have := HI.out; have := C3.out; omega
       case rel => exact ⟨n - 1, i + 1, by first|rfl|(rw [WN.out]; done)|go_num, by first|rfl|(rw [WI.out]; done)|go_num, ⟨by have := HI.out; have := C3.out; omega⟩, ⟨by have := HN.out; have := C5.out; omega⟩, ⟨by rw [T1.out]; exact H'.out⟩, ⟨(by repeat (with_reducible first|exact HAR.out|refine flat_Check.arr_drewN ?_ _|refine flat_Check.arr_drew ?_|refine flat_Check.arr_far ?_ HNE.out _|refine flat_Check.arr_set ?_ _ _))⟩, ⟨(by repeat (first|(with_reducible first|exact HB.out|apply lA|apply lN|apply lD|refine lS ?_ GE.out|refine lS ?_ GA.out)|exact HB.out))⟩⟩
     ·rw [if_neg c4] at h
      have c4b0 : ((rd_T48 l0 i).f0 == 2) = false := beq_eq_false_iff_ne.mpr c4
      clear c4
      by_cases c6 : (rd_T48 l0 i).f0 = 1
      ·rw [if_pos c6] at h
       have c6b0 : ((rd_T48 l0 i).f0 == 1) = true := beq_iff_eq.mpr c6
       clear c6
       by_cases c7 : n = 32
       ·rw [if_pos c7] at h
        have c7b0 : (n == 32) = true := beq_iff_eq.mpr c7
        clear c7
        simp only [Option.some.injEq, Prod.mk.injEq] at h
        obtain ⟨rfl, rfl⟩ := h
        go_wp2_with (first|((with_reducible refine gate_dst (N := 7) rfl ?_); refine box_event ?hg (N := 7) ?hd (cs := #[.int .i64 0, .int .i64 0, .int .i64 0, .int .i64 0]) (t := 48) ?hr ?_; (case hd => rfl); (case hg => rfl); (case hr => first|(go_simp; done)|(go_simp; rfl)); intro gb hg w8 hbox hb; have hB_ := (by repeat (first|(with_reducible first|exact HB.out|apply lA|apply lN|apply lD)|exact HB.out) : Below w.heap.size w _); have n0_ := aM (below_step hB_ hb); have n2_ := aM ((bsz hg hB_) : w.heap.size ≤ gb); have n3_ := aM (flat_Check.arr_below HAR.out hb); clear HB HAR; have HB := n0_; have BK := aM hbox; have GE := n2_; have HAR := n3_; have HNE := aM (show gA ≠ gb from by obtain ⟨_, _, _, ha_⟩ := HAR.out; exact blk_ne ha_ BK.out (by decide)); clear n0_ n2_ n3_; clear hb hbox hg hB_; have hcz_0 : w8.cell? ⟨gb, 0, none⟩ = some (.int .i64 0) := (blk_cell BK.out 0).trans rfl; have hcz_1 : w8.cell? ⟨gb, 1, none⟩ = some (.int .i64 0) := (blk_cell BK.out 1).trans rfl; have hcz_2 : w8.cell? ⟨gb, 2, none⟩ = some (.int .i64 0) := (blk_cell BK.out 2).trans rfl; have hcz_3 : w8.cell? ⟨gb, 3, none⟩ = some (.int .i64 0) := (blk_cell BK.out 3).trans rfl; have hfz_0 := blk_frozen BK.out 0; have hfz_1 := blk_frozen BK.out 1; have hfz_2 := blk_frozen BK.out 2; have hfz_3 := blk_frozen BK.out 3))
        refine (flat_Right.calls (rd_T48 l0 i).f0 (rd_T48 l0 i).f1 (rd_T48 l0 i).f2 (rd_T48 l0 i).f3 _ _ A6.out).mono ?_
        rintro e w10 ⟨rfl, hb⟩
        have n0_ := aM (blk_below (g := gb) (o := .cells #[.int .i64 (rd_T48 l0 i).f0, .int .i64 (rd_T48 l0 i).f1, .int .i64 (rd_T48 l0 i).f2, .int .i64 (rd_T48 l0 i).f3] 48 (0, 0)) (by (with_reducible repeat (first|refine bN ?_ _|refine bD ?_|refine bA ?_ _)); apply put4; (with_reducible repeat (first|refine bN ?_ _|refine bD ?_|refine bA ?_ _)); exact BK.out) hb)
        have n1_ := aM (below_step (by repeat (first|(with_reducible first|exact HB.out|apply lA|apply lN|apply lD|refine lS ?_ GE.out)|exact HB.out)) hb)
        have n2_ := aM (flat_Check.arr_below (by repeat (with_reducible first|exact HAR.out|refine flat_Check.arr_drewN ?_ _|refine flat_Check.arr_drew ?_|refine flat_Check.arr_far ?_ HNE.out _)) hb)
        clear BK HB HAR
        have BK := n0_
        have HB := n1_
        have HAR := n2_
        clear n0_ n1_ n2_ hb
        clear hcz_0 hcz_1 hcz_2 hcz_3 hfz_0 hfz_1 hfz_2 hfz_3
        have hcy_0 : w10.cell? ⟨gb, 0, none⟩ = some (.int .i64 (rd_T48 l0 i).f0) := (blk_cell BK.out 0).trans rfl
        have hcy_1 : w10.cell? ⟨gb, 1, none⟩ = some (.int .i64 (rd_T48 l0 i).f1) := (blk_cell BK.out 1).trans rfl
        have hcy_2 : w10.cell? ⟨gb, 2, none⟩ = some (.int .i64 (rd_T48 l0 i).f2) := (blk_cell BK.out 2).trans rfl
        have hcy_3 : w10.cell? ⟨gb, 3, none⟩ = some (.int .i64 (rd_T48 l0 i).f3) := (blk_cell BK.out 3).trans rfl
        go_wp2
        go_ret2
        exact ⟨rfl, (by repeat (first|(with_reducible first|exact HB.out|apply lA|apply lN|apply lD|refine lS ?_ GE.out)|exact HB.out))⟩
       ·rw [if_neg c7] at h
        have c7b0 : (n == 32) = false := beq_eq_false_iff_ne.mpr c7
        have C7 := aM c7
        have q7 : n < 32 := by have := HN.out; omega
        have q8 : 0 ≤ n := HN.out.1
        have wn := WN.out
        clear c7
        have H' := aM h
        clear h
        go_wp2_with (first|((with_reducible refine gate_dst (N := 7) rfl ?_); refine box_event ?hg (N := 7) ?hd (cs := #[.int .i64 0, .int .i64 0, .int .i64 0, .int .i64 0]) (t := 48) ?hr ?_; (case hd => rfl); (case hg => rfl); (case hr => first|(go_simp; done)|(go_simp; rfl)); intro gb hg w8 hbox hb; have hB_ := (by repeat (first|(with_reducible first|exact HB.out|apply lA|apply lN|apply lD)|exact HB.out) : Below w.heap.size w _); have n0_ := aM (below_step hB_ hb); have n2_ := aM ((bsz hg hB_) : w.heap.size ≤ gb); have n3_ := aM (flat_Check.arr_below HAR.out hb); clear HB HAR; have HB := n0_; have BK := aM hbox; have GE := n2_; have HAR := n3_; have HNE := aM (show gA ≠ gb from by obtain ⟨_, _, _, ha_⟩ := HAR.out; exact blk_ne ha_ BK.out (by decide)); clear n0_ n2_ n3_; clear hb hbox hg hB_; have hcz_0 : w8.cell? ⟨gb, 0, none⟩ = some (.int .i64 0) := (blk_cell BK.out 0).trans rfl; have hcz_1 : w8.cell? ⟨gb, 1, none⟩ = some (.int .i64 0) := (blk_cell BK.out 1).trans rfl; have hcz_2 : w8.cell? ⟨gb, 2, none⟩ = some (.int .i64 0) := (blk_cell BK.out 2).trans rfl; have hcz_3 : w8.cell? ⟨gb, 3, none⟩ = some (.int .i64 0) := (blk_cell BK.out 3).trans rfl; have hfz_0 := blk_frozen BK.out 0; have hfz_1 := blk_frozen BK.out 1; have hfz_2 := blk_frozen BK.out 2; have hfz_3 := blk_frozen BK.out 3))
        refine (flat_Right.calls (rd_T48 l0 i).f0 (rd_T48 l0 i).f1 (rd_T48 l0 i).f2 (rd_T48 l0 i).f3 _ _ A6.out).mono ?_
        rintro e w10 ⟨rfl, hb⟩
        have n0_ := aM (blk_below (g := gb) (o := .cells #[.int .i64 (rd_T48 l0 i).f0, .int .i64 (rd_T48 l0 i).f1, .int .i64 (rd_T48 l0 i).f2, .int .i64 (rd_T48 l0 i).f3] 48 (0, 0)) (by (with_reducible repeat (first|refine bN ?_ _|refine bD ?_|refine bA ?_ _)); apply put4; (with_reducible repeat (first|refine bN ?_ _|refine bD ?_|refine bA ?_ _)); exact BK.out) hb)
        have n1_ := aM (below_step (by repeat (first|(with_reducible first|exact HB.out|apply lA|apply lN|apply lD|refine lS ?_ GE.out)|exact HB.out)) hb)
        have n2_ := aM (flat_Check.arr_below (by repeat (with_reducible first|exact HAR.out|refine flat_Check.arr_drewN ?_ _|refine flat_Check.arr_drew ?_|refine flat_Check.arr_far ?_ HNE.out _)) hb)
        clear BK HB HAR
        have BK := n0_
        have HB := n1_
        have HAR := n2_
        clear n0_ n1_ n2_ hb
        clear hcz_0 hcz_1 hcz_2 hcz_3 hfz_0 hfz_1 hfz_2 hfz_3
        have hcy_0 : w10.cell? ⟨gb, 0, none⟩ = some (.int .i64 (rd_T48 l0 i).f0) := (blk_cell BK.out 0).trans rfl
        have hcy_1 : w10.cell? ⟨gb, 1, none⟩ = some (.int .i64 (rd_T48 l0 i).f1) := (blk_cell BK.out 1).trans rfl
        have hcy_2 : w10.cell? ⟨gb, 2, none⟩ = some (.int .i64 (rd_T48 l0 i).f2) := (blk_cell BK.out 2).trans rfl
        have hcy_3 : w10.cell? ⟨gb, 3, none⟩ = some (.int .i64 (rd_T48 l0 i).f3) := (blk_cell BK.out 3).trans rfl
        obtain ⟨⟨va, hva, ho1⟩, hvf⟩ := flat_Check.arr_cell HAR.out n.toNat (by omega)
        go_wp2
        go_roundg (gk - 1)
        case measure => have := HI.out; have := C3.out; omega
        case rel => exact ⟨n + 1, i + 1, by first|rfl|(rw [WN.out]; done)|go_num, by first|rfl|(rw [WI.out]; done)|go_num, ⟨by have := HI.out; have := C3.out; omega⟩, ⟨by have := HN.out; have := C7.out; omega⟩, ⟨by rw [T1.out]; exact H'.out⟩, ⟨(by repeat (with_reducible first|exact HAR.out|refine flat_Check.arr_drewN ?_ _|refine flat_Check.arr_drew ?_|refine flat_Check.arr_far ?_ HNE.out _|refine flat_Check.arr_set ?_ _ _))⟩, ⟨(by repeat (first|(with_reducible first|exact HB.out|apply lA|apply lN|apply lD|refine lS ?_ GE.out|refine lS ?_ GA.out)|exact HB.out))⟩⟩
      ·rw [if_neg c6] at h
       have c6b0 : ((rd_T48 l0 i).f0 == 1) = false := beq_eq_false_iff_ne.mpr c6
       clear c6
       have H' := aM h
       clear h
       go_wp2_with (first|((with_reducible refine gate_dst (N := 7) rfl ?_); refine box_event ?hg (N := 7) ?hd (cs := #[.int .i64 0, .int .i64 0, .int .i64 0, .int .i64 0]) (t := 48) ?hr ?_; (case hd => rfl); (case hg => rfl); (case hr => first|(go_simp; done)|(go_simp; rfl)); intro gb hg w8 hbox hb; have hB_ := (by repeat (first|(with_reducible first|exact HB.out|apply lA|apply lN|apply lD)|exact HB.out) : Below w.heap.size w _); have n0_ := aM (below_step hB_ hb); have n2_ := aM ((bsz hg hB_) : w.heap.size ≤ gb); have n3_ := aM (flat_Check.arr_below HAR.out hb); clear HB HAR; have HB := n0_; have BK := aM hbox; have GE := n2_; have HAR := n3_; have HNE := aM (show gA ≠ gb from by obtain ⟨_, _, _, ha_⟩ := HAR.out; exact blk_ne ha_ BK.out (by decide)); clear n0_ n2_ n3_; clear hb hbox hg hB_; have hcz_0 : w8.cell? ⟨gb, 0, none⟩ = some (.int .i64 0) := (blk_cell BK.out 0).trans rfl; have hcz_1 : w8.cell? ⟨gb, 1, none⟩ = some (.int .i64 0) := (blk_cell BK.out 1).trans rfl; have hcz_2 : w8.cell? ⟨gb, 2, none⟩ = some (.int .i64 0) := (blk_cell BK.out 2).trans rfl; have hcz_3 : w8.cell? ⟨gb, 3, none⟩ = some (.int .i64 0) := (blk_cell BK.out 3).trans rfl; have hfz_0 := blk_frozen BK.out 0; have hfz_1 := blk_frozen BK.out 1; have hfz_2 := blk_frozen BK.out 2; have hfz_3 := blk_frozen BK.out 3))
       refine (flat_Right.calls (rd_T48 l0 i).f0 (rd_T48 l0 i).f1 (rd_T48 l0 i).f2 (rd_T48 l0 i).f3 _ _ A6.out).mono ?_
       rintro e w10 ⟨rfl, hb⟩
       have n0_ := aM (blk_below (g := gb) (o := .cells #[.int .i64 (rd_T48 l0 i).f0, .int .i64 (rd_T48 l0 i).f1, .int .i64 (rd_T48 l0 i).f2, .int .i64 (rd_T48 l0 i).f3] 48 (0, 0)) (by (with_reducible repeat (first|refine bN ?_ _|refine bD ?_|refine bA ?_ _)); apply put4; (with_reducible repeat (first|refine bN ?_ _|refine bD ?_|refine bA ?_ _)); exact BK.out) hb)
       have n1_ := aM (below_step (by repeat (first|(with_reducible first|exact HB.out|apply lA|apply lN|apply lD|refine lS ?_ GE.out)|exact HB.out)) hb)
       have n2_ := aM (flat_Check.arr_below (by repeat (with_reducible first|exact HAR.out|refine flat_Check.arr_drewN ?_ _|refine flat_Check.arr_drew ?_|refine flat_Check.arr_far ?_ HNE.out _)) hb)
       clear BK HB HAR
       have BK := n0_
       have HB := n1_
       have HAR := n2_
       clear n0_ n1_ n2_ hb
       clear hcz_0 hcz_1 hcz_2 hcz_3 hfz_0 hfz_1 hfz_2 hfz_3
       have hcy_0 : w10.cell? ⟨gb, 0, none⟩ = some (.int .i64 (rd_T48 l0 i).f0) := (blk_cell BK.out 0).trans rfl
       have hcy_1 : w10.cell? ⟨gb, 1, none⟩ = some (.int .i64 (rd_T48 l0 i).f1) := (blk_cell BK.out 1).trans rfl
       have hcy_2 : w10.cell? ⟨gb, 2, none⟩ = some (.int .i64 (rd_T48 l0 i).f2) := (blk_cell BK.out 2).trans rfl
       have hcy_3 : w10.cell? ⟨gb, 3, none⟩ = some (.int .i64 (rd_T48 l0 i).f3) := (blk_cell BK.out 3).trans rfl
       go_wp2
       go_roundg (gk - 1)
       case measure => have := HI.out; have := C3.out; omega
       case rel => exact ⟨n, i + 1, by first|rfl|(rw [WN.out]; done)|go_num, by first|rfl|(rw [WI.out]; done)|go_num, ⟨by have := HI.out; have := C3.out; omega⟩, ⟨by have := HN.out; omega⟩, ⟨by rw [T1.out]; exact H'.out⟩, ⟨(by repeat (with_reducible first|exact HAR.out|refine flat_Check.arr_drewN ?_ _|refine flat_Check.arr_drew ?_|refine flat_Check.arr_far ?_ HNE.out _|refine flat_Check.arr_set ?_ _ _))⟩, ⟨(by repeat (first|(with_reducible first|exact HB.out|apply lA|apply lN|apply lD|refine lS ?_ GE.out|refine lS ?_ GA.out)|exact HB.out))⟩⟩
   ·have c3b : decide (i < (l0.length : Int)) = false := decide_eq_false c3
    rw [List.drop_eq_nil_of_le (by omega)] at h
    obtain rfl : i = (l0.length : Int) := by omega
    unfold flat_Check.l0 at h
    by_cases c9 : n > 0
    ·rw [if_pos c9] at h
     have c9b : decide (0 < n) = true := decide_eq_true c9
     simp only [Option.some.injEq, Prod.mk.injEq] at h
     obtain ⟨rfl, rfl⟩ := h
     clear hI hN hL c3 c9
     go_wp2
     go_ret2
     exact ⟨rfl, HB.out⟩
    ·rw [if_neg c9] at h
     have c9b : decide (0 < n) = false := decide_eq_false c9
     simp only [Option.some.injEq, Prod.mk.injEq] at h
     obtain ⟨rfl, rfl⟩ := h
     clear hI hN hL c3 c9
     go_wp2
     go_ret2
     exact ⟨rfl, HB.out⟩
theorem FindIn.calls {l n : Nat} {P : Program} {f : FuncId} {args : Array Value} {w : World} {R : Ending → World → Prop} (h : Calls P f args w R) : CallsIn (Fence.wide.inRound l) n P f args w R :=
 show CallsIn Fence.wide n P f args w R from callsIn_wide.2 h
def FindIn.noDefer (L : List Oper) : Bool := L.all fun o => match o.op with|.defer _ => false|_ => true
theorem FindIn.noDefer_cons {o : Oper} {L : List Oper} (h : FindIn.noDefer (o :: L) = true) : (∀ c, o.op ≠ .defer c) ∧ FindIn.noDefer L = true := by
 unfold FindIn.noDefer at h ⊢
 rw [List.all_cons, Bool.and_eq_true] at h
 exact ⟨fun c e => by simp [e] at h, h.2⟩
theorem FindIn.list {l n : Nat} {P : Program} {ops : Array Oper} {Q : Exit → Act → World → Prop} (hQ : ¬ LetsOut Q) : ∀ (L : List Oper) (a : Act) (w : World), FindIn.noDefer L = true → wpList P ops Q L a w → wpListIn (Fence.wide.inRound l) n P ops Q L a w
|[], a, w, _, h => h
|o :: L, a, w, hn, h => by
  obtain ⟨hd, hn⟩ := FindIn.noDefer_cons hn
  have ih := fun a w => FindIn.list (l := l) (n := n) (P := P) (ops := ops) hQ L a w hn
  simp only [wpList] at h
  simp only [wpListIn]
  by_cases hw : Region.wanted o (yielded ops a.tmps) = true
  ·rw [if_pos hw] at h ⊢
   rcases h with h|⟨_, h⟩
   ·refine ⟨fun _ _ => trivial, ?_⟩
    rw [Oper.semAt_plain (Fence.wide.inRound l) _ _ hd]
    unfold Oper.wp at h
    generalize (execOp a.eval o).run P w = r at h
    have hdep : (Fence.wide.inRound l).depth.isSome = true → 1 ≤ n := fun h => by simp [Fence.wide, Fence.inRound] at h
    cases r with
   |ok x w' =>
     cases x with
    |value v => exact ih _ _ h
    |skip => exact ih _ _ h
    |defer d => exact ih _ _ h
    |enter f args =>
      refine ⟨hdep, FindIn.calls (Calls.mono h fun e w'' hh => ?_)⟩
      cases e with
     |returned v => exact ih _ _ hh
     |panicked c => exact hh
     |outgrown => exact hh
    |row r args => exact ⟨hdep, fun c cs _ => let ⟨v, w'', r, s⟩ := h c cs; ⟨v, w'', ih _ _ r, stepsIn_wide.2 s⟩⟩
    |_ => exact h.elim
   |halt x w' =>
     cases x with
    |panic v => exact h
    |_ => exact h.elim
   ·exact (hQ h).elim
  ·rw [if_neg hw] at h ⊢
   exact ⟨fun _ _ => trivial, ih _ _ h⟩
theorem FindIn.region {l n id : Nat} {P : Program} {L : List Oper} {Q : Exit → Act → World → Prop} {a : Act} {w : World} (hQ : ¬ LetsOut Q) (hn : FindIn.noDefer L = true) (h : wpList P L.toArray Q L a w) : (Code.region id L.toArray false).wpIn (Fence.wide.inRound l) n P Q a w :=
 wpIn_region_lit (FindIn.list hQ L a w hn h)
def FindRec (fn : FuncId) (tmps : Array Value) (ps : Array Tmp) (assign body : Code) (D : Nat) (st : LoopState) : Loop := { state := st, pending := none, fn, tmps, params := ps, assign, body, defers := D }
theorem FindRange.rule {n : Nat} {P : Program} {g : Operand} {ps : Array Tmp} {assign body : Code} {Q : Exit → Act → World → Prop} {a : Act} {w : World} {gf : Nat} {lb : Array Value} (h1 : 1 ≤ n) (hg : a.eval g = .func (.func gf) #[] lb) (eg : ∀ args w, (callFunc gf args).run P w = .ok (.enter gf args) w)
  (h : ∀ fn, Calls P gf (#[.func (.yield (w.heap.size + 1)) #[] #[]] ++ lb) ((w.alloc (.deferred (some []))).alloc (.loop (FindRec fn a.tmps ps assign body w.heap.size .ready))) fun e W2 => (∃ v, e = .returned v) ∧ W2.heap[w.heap.size + 1]? = some (.loop (FindRec fn a.tmps ps assign body w.heap.size .ready)) ∧
   ∀ o', Q .normal { a with defers := { target := .collected w.heap.size, args := #[] } :: a.defers } (W2.putObj (w.heap.size + 1) o')) :
  (Code.rangeFunc g ps assign body).wpIn Fence.wide n P Q a w := by
 refine wpIn_rangeFunc ?_
 intro fn hfn
 have hf := h fn
 have he := run_enterLoop_outer (P := P) (w := w) fn a.tmps ps assign body
 obtain ⟨W1, hW1⟩ : ∃ W1, (w.alloc (.deferred (some []))).alloc (.loop (FindRec fn a.tmps ps assign body w.heap.size .ready)) = W1 := ⟨_, rfl⟩
 rw [hW1] at hf
 refine ⟨w.heap.size + 1, [{ target := .collected w.heap.size, args := #[] }], W1, { target := .fn (.func gf) lb, args := #[.func (.yield (w.heap.size + 1)) #[] #[]] }, W1, gf,
  #[.func (.yield (w.heap.size + 1)) #[] #[]] ++ lb, W1, ?_, ?_, ?_, ?_, fun _ => h1, ?_⟩
 ·rw [← hW1]; exact he
 ·simp only [resolve, hg]
  simp [go_sem]
 ·intro f' hf'
  trivial
 ·simp [invoke, go_sem, eg]
 ·refine (callsIn_wide.2 hf).mono ?_
  rintro e W2 ⟨⟨v, rfl⟩, hl, hq⟩
  exact ⟨none, _, run_endLoop (P := P) hl (by simp [FindRec]), hq _⟩
theorem FindRange.yield {m l D : Nat} {P : Program} {fn : FuncId} {tmps : Array Value} {ps : Array Tmp} {assign body : Code} {args : Array Value} {W : World} {R : World → Prop} (hl : W.heap[l]? = some (.loop (FindRec fn tmps ps assign body D .ready))) (hs : args.size = ps.size)
  (h : assign.wpIn (Fence.wide.inRound l) m P (Exit.then (fun a₁ w₁ => w₁.heap[l]? = some (.loop (FindRec fn tmps ps assign body D .ready)) ∧
   body.wpIn (Fence.wide.inRound l) m P (fun e _ w₂ => e = .normal ∧ w₂.heap[l]? = some (.loop (FindRec fn tmps ps assign body D .busy)) ∧ R (w₂.putObj l (.loop (FindRec fn tmps ps assign body D .ready)))) a₁ (w₁.putObj l (.loop (FindRec fn tmps ps assign body D .busy)))) (fun _ _ _ => False))
   { tmps := (ps.zip args).foldl (fun t (p, v) => t.setIfInBounds p v) tmps, defers := [] } W) :
  YieldAt Fence.wide m P l args W fun e W' => e = .returned (.bool true) ∧ R W' := by
 refine ⟨fn, _, assign, body, run_yield (P := P) (args := args) hl hs, roundIn_of_wpIn trivial (wpIn_mono h ?_)⟩
 rintro e a₁ w₁ hq
 cases e with
|normal =>
  obtain ⟨hl1, hb⟩ := hq
  refine ⟨_, run_beginRound hl1 rfl, wpIn_mono hb ?_⟩
  rintro e a₂ w₂ ⟨rfl, hl2, hR⟩
  exact ⟨_, _, run_endRound (P := P) none hl2, rfl, hR⟩
|exit id => exact hq.elim
|goto t => exact hq.elim
|ret => exact hq.elim
|panic c => exact hq.elim
|outgrown => exact hq.elim
def find_runs.go : List S48 → Int → Int → List Int → List (Int × List Int)
|[], _, a, p => if p.length = 0 then [] else [(a, p)]
|t :: ts, i, a, p =>
  if t.f0 = 0 then find_runs.go ts (i + 1) (if p.length = 0 then i else a) (p ++ [t.f2])
  else if p.length = 0 then find_runs.go ts (i + 1) 0 [] else (a, p) :: find_runs.go ts (i + 1) 0 []
def find_runs.f (l : List S48) : List (Int × List Int) := find_runs.go l 0 0 []
def find_runs.sum (l : List (Int × List Int)) : Nat := (l.map fun x => x.2.length).sum
theorem find_runs.sum_snoc (l : List (Int × List Int)) (x : Int × List Int) : find_runs.sum (l ++ [x]) = find_runs.sum l + x.2.length := by simp [find_runs.sum]
/-- What the iterator may turn: rows of numbers and its own run, from B on. -/
structure FindIt (B : Nat) (A A' : World) : Prop where
 below : Below B A A'
 same : ∀ (k : Nat) (o : Obj), A.heap[k]? = some o → (∀ cs t fr, o = .cells cs t fr → t ≠ 61 ∧ t ≠ 3) → A'.heap[k]? = some o
theorem FindIt.refl (B : Nat) (A : World) : FindIt B A A := ⟨Below.refl _ _, fun _ _ h _ => h⟩
theorem FindIt.trans {B : Nat} {a b c : World} (h : FindIt B a b) (k : FindIt B b c) : FindIt B a c := ⟨h.below.trans k.below, fun j o hj ho => k.same j o (h.same j o hj ho) ho⟩
theorem FindIt.alloc {B : Nat} {A : World} (hB : B ≤ A.heap.size) (o : Obj) : FindIt B A (A.alloc o) := ⟨(Below.refl _ _).alloc hB o, fun k o' h _ => bA h o⟩
theorem FindIt.set {B g j : Nat} {A : World} {cs : Array Value} {t : TypeId} (hB : B ≤ g) (hg : A.heap[g]? = some (.cells cs t (0, 0))) (ht : t = 61 ∨ t = 3) (u : Value) : FindIt B A (A.setCell ⟨g, j, none⟩ u) :=
 ⟨(Below.refl _ _).setCell (p := ⟨g, j, none⟩) hB u, fun k o h ho => (Below.heap_setCell A ⟨g, j, none⟩ u k (fun e => by
  have e : k = g := e
  subst e
  rw [hg] at h
  obtain rfl := Option.some.inj h
  have hh := ho _ _ _ rfl
  exact ht.elim hh.1 hh.2)).trans h⟩
theorem FindIt.grown {B : Nat} {A A' : World} {v : Value} {xs : List Int} (hr : Kd.R (Kd.int .i64) 3 A B (fun _ => True) v xs) (hB : B ≤ A.heap.size) (hg : A.grownBy A' v.ownBlock) : FindIt B A A' :=
 ⟨(Below.refl _ _).grown hg hB (fun k e => Kd.R_base hr k e), fun k o h ho => blk_grown h hg (fun e => by
  obtain ⟨cs, hc⟩ := Kd.R_typed hr k e.symm
  rw [hc] at h
  obtain rfl := Option.some.inj h
  exact (ho _ _ _ rfl).2 rfl)⟩
/-- What a round may not turn: runs. -/
structure FindCon (A A' : World) : Prop where
 size : A.heap.size ≤ A'.heap.size
 same : ∀ (k : Nat) (cs : Array Value), A.heap[k]? = some (.cells cs 61 (0, 0)) → A'.heap[k]? = some (.cells cs 61 (0, 0))
structure find_runs.I (J : List (Int × List Int) → World → Prop) (B rg : Nat) (zs : List S48) (pre : List (Int × List Int)) (i : Nat) (a : Int) (acc : List Int) (v : Value) (X : World) : Prop where
 box : X.heap[rg]? = some (.cells #[.int .i64 a, v] 61 (0, 0))
 row : Kd.R (Kd.int .i64) 3 X B (fun _ => True) v acc
 j : J pre X
 go : pre ++ find_runs.go (zs.drop i) (i : Int) a acc = find_runs.f zs
 lo : i ≤ zs.length
 at_ : acc.length ≠ 0 → 0 ≤ a ∧ a + (acc.length : Int) = (i : Int)
 sum : find_runs.sum pre + acc.length ≤ i
 base : B ≤ rg
 size : B ≤ X.heap.size
set_option maxHeartbeats 8000000 in
set_option maxRecDepth 100000 in
/-- The iterator: for whatever round that keeps its word. -/
theorem find_runs.it (m L Bs : Nat) (A0 : Option Addr) (c0 : Nat) (zs : List S48) (w W : World) (hr0 : Kd.C k48 w A0 zs.length zs) (hBs : W.cell? ⟨Bs, 0, none⟩ = some (.slice A0 zs.length c0)) (hz : zs.length ≤ 1000000)
  (J : List (Int × List Int) → World → Prop) (hJk : ∀ pre A A', J pre A → FindIt W.heap.size A A' → J pre A') (hJb : ∀ pre A, J pre A → Below w.heap.size w A)
  (hY : ∀ pre a p v W1, J pre W1 → Kd.R (Kd.int .i64) 3 W1 W.heap.size (fun _ => True) v p → 0 ≤ a → a + (p.length : Int) ≤ (zs.length : Int) → 0 < p.length → find_runs.sum pre + p.length ≤ zs.length →
   YieldAt Fence.wide m Tryd.prog L #[.agg #[.int .i64 a, v]] W1 fun e W' => e = .returned (.bool true) ∧ (J (pre ++ [(a, p)]) W' ∧ FindCon W1 W'))
  (h0 : J [] W) :
  Calls Tryd.prog 36 #[.func (.yield L) #[] #[], .pointer (some ⟨Bs, 0, none⟩)] W fun e W' => (∃ v, e = .returned v) ∧ J (find_runs.f zs) W' := by
 have hu48 := Tryd.underlying48
 have hu61 := Tryd.underlying61
 have HR := aM hr0
 have HZ := aM hz
 have HJK := aM hJk
 have HJB := aM hJb
 have HY := aM hY
 have z61 := blk_new W (.cells #[.int .i64 0, .slice none 0 0] 61)
 have hBs1 : (W.alloc (.cells #[.int .i64 0, .slice none 0 0] 61)).cell? ⟨Bs, 0, none⟩ = some (.slice A0 zs.length c0) := cell_grown (World.grownBy_alloc W (.cells #[.int .i64 0, .slice none 0 0] 61) none) hBs (by simp)
 have I0 := aM (show find_runs.I J W.heap.size W.heap.size zs [] 0 0 [] (.slice none 0 0) (W.alloc (.cells #[.int .i64 0, .slice none 0 0] 61)) from
  ⟨z61, Kd.R_nil _ _ _ _ _, hJk _ _ _ h0 (FindIt.alloc (Nat.le_refl _) _), by rw [List.nil_append]; rfl, Nat.zero_le _, fun h => absurd rfl h, Nat.zero_le _, Nat.le_refl _, by simp⟩)
 clear hr0 hz hJk hJb hY h0 z61 hBs
 go_enter Tryd.func36, Tryd.ntmps36
 go_upto_region 1 with (fail)
 generalize W.alloc (.cells #[.int .i64 0, .slice none 0 0] 61) = W1 at *
 generalize W.heap.size = rg at *
 go_wp2
 go_loopg [4, 5, 8] (zs.length + 1) (fun kq v4 v5 v8 wr => ∃ (i : Nat) (a : Int) (acc : List Int) (v : Value) (pre : List (Int × List Int)), v8 = .int .i64 (i : Int) ∧ Aside0 (find_runs.I J rg rg zs pre i a acc v wr) ∧ Aside0 (zs.length + 1 ≤ i + kq))
 case atStart => exact ⟨0, 0, [], _, [], rfl, I0, ⟨by omega⟩⟩
 case round =>
  clear I0 hBs1
  obtain ⟨i, a, acc, v, pre, rfl, HI, HK⟩ := hrel
  have hn := HZ.out
  have hk := HK.out
  obtain ⟨f, rfl⟩ : ∃ f, gk = f + 1 := ⟨gk - 1, by have := HI.out.lo; omega⟩
  obtain ⟨A, c, hv⟩ := Kd.R_slice HI.out.row
  subst hv
  by_cases c5 : i < zs.length
  ·have c5b : decide ((i : Int) < (zs.length : Int)) = true := decide_eq_true (by omega)
   have hbel := HJB.out _ _ HI.out.j
   obtain ⟨ad, eA, e0, e1, e2, e3⟩ := at_T48 (Kd.C_below HR.out hbel) (i : Int) (by omega) (by omega)
   subst eA
   rw [Int.toNat_natCast] at e0 e1 e2 e3
   have hrd : rd_T48 zs (i : Int) = zs[i] := by simp [rd_T48, List.getD_eq_getElem?_getD, List.getElem?_eq_getElem c5]
   have hgo := HI.out.go
   rw [List.drop_eq_getElem_cons c5, ← hrd] at hgo
   obtain ⟨t, ht⟩ : ∃ t, t = rd_T48 zs (i : Int) := ⟨_, rfl⟩
   rw [← ht] at hgo e0 e1 e2 e3
   have it0 : (0 : Int) ≤ (i : Int) := by omega
   have it1 : (i : Int) < (zs.length : Int) := by omega
   have WI := aM (show wrap64 ((i : Int) + 1) = ((i + 1 : Nat) : Int) from by unfold wrap64; omega)
   have C5 := aM c5
   have HGO := aM hgo
   clear hgo hrd ht c5 hbel hn hk
   go_upto_region 4 with (fail)
   have BX := aM (bA HI.out.box (.cells #[.int .i64 t.f0, .int .i64 t.f1, .int .i64 t.f2, .int .i64 t.f3] 48))
   have RX := aM (Kd.R_alloc HI.out.row (.cells #[.int .i64 t.f0, .int .i64 t.f1, .int .i64 t.f2, .int .i64 t.f3] 48))
   have JX := aM (HJK.out _ _ _ HI.out.j (FindIt.alloc HI.out.size (.cells #[.int .i64 t.f0, .int .i64 t.f1, .int .i64 t.f2, .int .i64 t.f3] 48)))
   have YX := aM (blk_new wr (.cells #[.int .i64 t.f0, .int .i64 t.f1, .int .i64 t.f2, .int .i64 t.f3] 48))
   have NX := aM (show i ≤ zs.length ∧ (acc.length ≠ 0 → 0 ≤ a ∧ a + (acc.length : Int) = (i : Int)) ∧ find_runs.sum pre + acc.length ≤ i ∧ rg ≤ rg ∧ rg ≤ (wr.alloc (.cells #[.int .i64 t.f0, .int .i64 t.f1, .int .i64 t.f2, .int .i64 t.f3] 48)).heap.size from ⟨HI.out.lo, HI.out.at_, HI.out.sum, Nat.le_refl _, by have := HI.out.size; simp; omega⟩)
   clear HI e0 e1 e2 e3
   generalize wr.alloc (.cells #[.int .i64 t.f0, .int .i64 t.f1, .int .i64 t.f2, .int .i64 t.f3] 48) = X at *
   generalize wr.heap.size = tb at *
   have y0 : X.cell? ⟨tb, 0, none⟩ = some (.int .i64 t.f0) := (blk_cell YX.out 0).trans rfl
   by_cases c0 : t.f0 = 0
   ·have c0b : (t.f0 == 0) = true := beq_iff_eq.mpr c0
    have s1 : X.cell? ⟨rg, 1, none⟩ = some (.slice A acc.length c) := (blk_cell BX.out 1).trans rfl
    by_cases ca : acc.length = 0
    ·have cab : ((acc.length : Int) == 0) = true := beq_iff_eq.mpr (by omega)
     have GO1 := aM (show pre ++ find_runs.go (zs.drop (i + 1)) ((i + 1 : Nat) : Int) (i : Int) (acc ++ [t.f2]) = find_runs.f zs from by have h := HGO.out; rw [find_runs.go, if_pos c0, if_pos ca] at h; rw [show ((i + 1 : Nat) : Int) = (i : Int) + 1 from by omega]; exact h)
     have s0 : X.cell? ⟨rg, 0, none⟩ = some (.int .i64 a) := (blk_cell BX.out 0).trans rfl
     have f0 := blk_frozen BX.out 0
     have CA := aM ca
     clear HGO c0 ca
     go_upto_region 7 with (fail)
     have NE : tb ≠ rg := blk_ne YX.out BX.out (by decide)
     have BX1 := aM (blk_put BX.out 0 (.int .i64 (i : Int)) rfl)
     have RX1 := aM (Kd.R_set RX.out BX.out (show ∀ q : Nat, q ∈ ([3] : List Nat) → q ≠ 61 by decide) 0 (.int .i64 (i : Int)))
     have JX1 := aM (HJK.out _ _ _ JX.out (FindIt.set (j := 0) (Nat.le_refl rg) BX.out (.inl rfl) (.int .i64 (i : Int))))
     have YX1 := aM (bF (p := ⟨rg, 0, none⟩) YX.out NE (.int .i64 (i : Int)))
     have NX1 := aM (show i ≤ zs.length ∧ (acc.length ≠ 0 → 0 ≤ (i : Int) ∧ (i : Int) + (acc.length : Int) = (i : Int)) ∧ find_runs.sum pre + acc.length ≤ i ∧ rg ≤ rg ∧ rg ≤ (X.setCell ⟨rg, 0, none⟩ (.int .i64 (i : Int))).heap.size from ⟨NX.out.1, fun h => absurd CA.out h, NX.out.2.2.1, NX.out.2.2.2.1, by simpa using NX.out.2.2.2.2⟩)
     clear s0 s1 f0 y0 BX RX JX YX NX NE
     generalize X.setCell ⟨rg, 0, none⟩ (.int .i64 (i : Int)) = X1 at *
     have s1 : X1.cell? ⟨rg, 1, none⟩ = some (.slice A acc.length c) := (blk_cell BX1.out 1).trans rfl
     have y2 : X1.cell? ⟨tb, 2, none⟩ = some (.int .i64 t.f2) := (blk_cell YX1.out 2).trans rfl
     go_wp2_with (first|(at_builtin; refine Kd.R_append (Kd.int .i64) (w0 := X1) rg rfl (.tmp 23) (.tmp 26) 50 3 (.int .i64 0) 8 rfl Tryd.underlying50 info3 rfl (by decide) (by decide) (.slice A acc.length c) acc t.f2 [.int .i64 t.f2] (fun _ => True) (fun _ => False) rfl rfl rfl (fun _ h => h.elim) (fun _ _ => trivial) RX1.out (Below.refl _ _) NX1.out.2.2.2.2 (by have := NX1.out; have := C5.out; have := HZ.out; omega) ?_; intro v1 w8 ho hb hg hat; obtain ⟨A8, c8, hv8⟩ := Kd.R_slice ho; obtain ⟨n8, hn8⟩ : ∃ n, n = (acc ++ [t.f2]).length := ⟨_, rfl⟩; rw [← hn8] at hv8; subst hv8; have R8 := aM ho; have B8 := aM (blk_grown BX1.out hg (Kd.R_ne RX1.out BX1.out (by decide))); have J8 := aM (HJK.out _ _ _ JX1.out (FindIt.grown RX1.out NX1.out.2.2.2.2 hg)); have S8 := aM (Nat.le_trans NX1.out.2.2.2.2 hb.size); have hco : w8.cell? ⟨rg, 1, none⟩ = some (.slice A acc.length c) := (blk_cell B8.out 1).trans rfl; have hfo := blk_frozen B8.out 1; clear ho hb hg hat hn8))
     go_roundg f
     case measure => omega
     case rel => exact ⟨i + 1, (i : Int), acc ++ [t.f2], _, pre, by rw [WI.out], ⟨blk_put B8.out 1 _ rfl, Kd.R_set R8.out B8.out (show ∀ q : Nat, q ∈ ([3] : List Nat) → q ≠ 61 by decide) 1 _, HJK.out _ _ _ J8.out (FindIt.set NX1.out.2.2.2.1 B8.out (.inl rfl) _), GO1.out, C5.out, fun _ => by have := CA.out; rw [List.length_append, List.length_singleton]; omega, by have := NX1.out.2.2.1; rw [List.length_append, List.length_singleton]; omega, NX1.out.2.2.2.1, by simpa using S8.out⟩, ⟨by have := HK.out; omega⟩⟩
    ·have cab : ((acc.length : Int) == 0) = false := beq_eq_false_iff_ne.mpr (by omega)
     have GO1 := aM (show pre ++ find_runs.go (zs.drop (i + 1)) ((i + 1 : Nat) : Int) a (acc ++ [t.f2]) = find_runs.f zs from by have h := HGO.out; rw [find_runs.go, if_pos c0, if_neg ca] at h; rw [show ((i + 1 : Nat) : Int) = (i : Int) + 1 from by omega]; exact h)
     have CA := aM ca
     clear HGO c0 ca
     go_upto_region 7 with (fail)
     clear s1 y0
     have s1 : X.cell? ⟨rg, 1, none⟩ = some (.slice A acc.length c) := (blk_cell BX.out 1).trans rfl
     have y2 : X.cell? ⟨tb, 2, none⟩ = some (.int .i64 t.f2) := (blk_cell YX.out 2).trans rfl
     go_wp2_with (first|(at_builtin; refine Kd.R_append (Kd.int .i64) (w0 := X) rg rfl (.tmp 23) (.tmp 26) 50 3 (.int .i64 0) 8 rfl Tryd.underlying50 info3 rfl (by decide) (by decide) (.slice A acc.length c) acc t.f2 [.int .i64 t.f2] (fun _ => True) (fun _ => False) rfl rfl rfl (fun _ h => h.elim) (fun _ _ => trivial) RX.out (Below.refl _ _) NX.out.2.2.2.2 (by have := NX.out; have := C5.out; have := HZ.out; omega) ?_; intro v1 w8 ho hb hg hat; obtain ⟨A8, c8, hv8⟩ := Kd.R_slice ho; obtain ⟨n8, hn8⟩ : ∃ n, n = (acc ++ [t.f2]).length := ⟨_, rfl⟩; rw [← hn8] at hv8; subst hv8; have R8 := aM ho; have B8 := aM (blk_grown BX.out hg (Kd.R_ne RX.out BX.out (by decide))); have J8 := aM (HJK.out _ _ _ JX.out (FindIt.grown RX.out NX.out.2.2.2.2 hg)); have S8 := aM (Nat.le_trans NX.out.2.2.2.2 hb.size); have hco : w8.cell? ⟨rg, 1, none⟩ = some (.slice A acc.length c) := (blk_cell B8.out 1).trans rfl; have hfo := blk_frozen B8.out 1; clear ho hb hg hat hn8))
     go_roundg f
     case measure => omega
     case rel => exact ⟨i + 1, a, acc ++ [t.f2], _, pre, by rw [WI.out], ⟨blk_put B8.out 1 _ rfl, Kd.R_set R8.out B8.out (show ∀ q : Nat, q ∈ ([3] : List Nat) → q ≠ 61 by decide) 1 _, HJK.out _ _ _ J8.out (FindIt.set NX.out.2.2.2.1 B8.out (.inl rfl) _), GO1.out, C5.out, fun _ => by have := NX.out.2.1 CA.out; rw [List.length_append, List.length_singleton]; omega, by have := NX.out.2.2.1; rw [List.length_append, List.length_singleton]; omega, NX.out.2.2.2.1, by simpa using S8.out⟩, ⟨by have := HK.out; omega⟩⟩
   ·have c0b : (t.f0 == 0) = false := beq_eq_false_iff_ne.mpr c0
    have s1 : X.cell? ⟨rg, 1, none⟩ = some (.slice A acc.length c) := (blk_cell BX.out 1).trans rfl
    by_cases ca : acc.length = 0
    ·have ca1 : decide ((0 : Int) < (acc.length : Int)) = false := decide_eq_false (by omega)
     have ca2 : decide (0 < acc.length) = false := decide_eq_false (by omega)
     have GO1 := aM (show pre ++ find_runs.go (zs.drop (i + 1)) ((i + 1 : Nat) : Int) 0 [] = find_runs.f zs from by have h := HGO.out; rw [find_runs.go, if_neg c0, if_pos ca] at h; rw [show ((i + 1 : Nat) : Int) = (i : Int) + 1 from by omega]; exact h)
     have SM := aM (show find_runs.sum pre ≤ i from by have := NX.out.2.2.1; omega)
     have SX := aM NX.out.2.2.2.2
     clear HGO c0 ca s1
     have s0 : X.cell? ⟨rg, 0, none⟩ = some (.int .i64 a) := (blk_cell BX.out 0).trans rfl
     have s1 : X.cell? ⟨rg, 1, none⟩ = some (.slice A acc.length c) := (blk_cell BX.out 1).trans rfl
     have f0 := blk_frozen BX.out 0
     have f1 := blk_frozen BX.out 1
     go_wp2
     go_roundg f
     case measure => omega
     case rel => exact ⟨i + 1, 0, [], _, pre, by rw [WI.out], ⟨blk_put (blk_put BX.out 0 _ rfl) 1 _ rfl, Kd.R_nil _ _ _ _ _, HJK.out _ _ _ (HJK.out _ _ _ JX.out (FindIt.set NX.out.2.2.2.1 BX.out (.inl rfl) _)) (FindIt.set NX.out.2.2.2.1 (blk_put BX.out 0 _ rfl) (.inl rfl) _), GO1.out, C5.out, fun h => absurd rfl h, by have := NX.out.2.2.1; have := SM.out; simp only [List.length_nil]; omega, NX.out.2.2.2.1, by simpa using SX.out⟩, ⟨by have := HK.out; omega⟩⟩
    ·have ca1 : decide ((0 : Int) < (acc.length : Int)) = true := decide_eq_true (by omega)
     have ca2 : decide (0 < acc.length) = true := decide_eq_true (by omega)
     have GO1 := aM (show (pre ++ [(a, acc)]) ++ find_runs.go (zs.drop (i + 1)) ((i + 1 : Nat) : Int) 0 [] = find_runs.f zs from by have h := HGO.out; rw [find_runs.go, if_neg c0, if_neg ca] at h; rw [show ((i + 1 : Nat) : Int) = (i : Int) + 1 from by omega, List.append_assoc]; exact h)
     have hyy := HY.out pre a acc (.slice A acc.length c) X JX.out RX.out (NX.out.2.1 ca).1 (by have := (NX.out.2.1 ca).2; have := C5.out; omega) (by omega) (by have := NX.out.2.2.1; have := C5.out; omega)
     obtain ⟨fn, tmps, assign, body, hyi, hyr⟩ := hyy
     have HRD := aM hyr
     have s0 : X.cell? ⟨rg, 0, none⟩ = some (.int .i64 a) := (blk_cell BX.out 0).trans rfl
     clear HGO c0 ca hyr
     go_upto_region 8 with (fail)
     refine (wpIn_wide (n := m + 1)).1 ?_
     gi_wp2
     refine HRD.out.mono ?_
     rintro e X3 ⟨rfl, hj3, hk3⟩
     have BX3 := aM (hk3.same _ _ BX.out)
     have JX3 := aM hj3
     have SX := aM (Nat.le_trans NX.out.2.2.2.2 hk3.size)
     have SM := aM (show find_runs.sum (pre ++ [(a, acc)]) ≤ i from by rw [find_runs.sum_snoc]; exact NX.out.2.2.1)
     clear hj3 hk3 s0 s1 hyi y0 BX RX JX YX
     have s0 : X3.cell? ⟨rg, 0, none⟩ = some (.int .i64 a) := (blk_cell BX3.out 0).trans rfl
     have s1 : X3.cell? ⟨rg, 1, none⟩ = some (.slice A acc.length c) := (blk_cell BX3.out 1).trans rfl
     have f0 := blk_frozen BX3.out 0
     have f1 := blk_frozen BX3.out 1
     gi_wp2
     go_wp2
     go_roundg f
     case measure => omega
     case rel => exact ⟨i + 1, 0, [], _, (pre ++ [(a, acc)]), by rw [WI.out], ⟨blk_put (blk_put BX3.out 0 _ rfl) 1 _ rfl, Kd.R_nil _ _ _ _ _, HJK.out _ _ _ (HJK.out _ _ _ JX3.out (FindIt.set NX.out.2.2.2.1 BX3.out (.inl rfl) _)) (FindIt.set NX.out.2.2.2.1 (blk_put BX3.out 0 _ rfl) (.inl rfl) _), GO1.out, C5.out, fun h => absurd rfl h, by have := NX.out.2.2.1; have := SM.out; simp only [List.length_nil]; omega, NX.out.2.2.2.1, by simpa using SX.out⟩, ⟨by have := HK.out; omega⟩⟩
  ·have ei : i = zs.length := by have := HI.out.lo; omega
   have c5b : decide ((i : Int) < (zs.length : Int)) = false := decide_eq_false (by omega)
   have c5c : decide (i < zs.length) = false := decide_eq_false (by omega)
   have hgo := HI.out.go
   rw [ei, List.drop_length, find_runs.go] at hgo
   have BX := aM HI.out.box
   have RX := aM HI.out.row
   have JX := aM HI.out.j
   have NX := aM (And.intro HI.out.at_ (And.intro HI.out.sum ei))
   have s1 : wr.cell? ⟨rg, 1, none⟩ = some (.slice A acc.length c) := (blk_cell BX.out 1).trans rfl
   clear HI ei c5 hn hk
   by_cases ca : acc.length = 0
   ·have ca1 : decide ((0 : Int) < (acc.length : Int)) = false := decide_eq_false (by omega)
    have ca2 : decide (0 < acc.length) = false := decide_eq_false (by omega)
    rw [if_pos ca, List.append_nil] at hgo
    have GO1 := aM hgo
    clear hgo ca
    go_wp2
    go_end0
    exact ⟨⟨_, rfl⟩, by rw [← GO1.out]; exact JX.out⟩
   ·have ca1 : decide ((0 : Int) < (acc.length : Int)) = true := decide_eq_true (by omega)
    have ca2 : decide (0 < acc.length) = true := decide_eq_true (by omega)
    rw [if_neg ca] at hgo
    have GO1 := aM hgo
    have hyy := HY.out pre a acc (.slice A acc.length c) wr JX.out RX.out (NX.out.1 ca).1 (by have := (NX.out.1 ca).2; have := NX.out.2.2; omega) (by omega) (by have := NX.out.2; omega)
    obtain ⟨fn, tmps, assign, body, hyi, hyr⟩ := hyy
    have HRD := aM hyr
    have s0 : wr.cell? ⟨rg, 0, none⟩ = some (.int .i64 a) := (blk_cell BX.out 0).trans rfl
    clear hgo ca hyr
    go_upto_region 12 with (fail)
    refine (wpIn_wide (n := m + 1)).1 ?_
    gi_wp2
    refine HRD.out.mono ?_
    rintro e X3 ⟨rfl, hj3, hk3⟩
    have JX3 := aM hj3
    clear hj3 hk3 s0 s1 hyi BX RX JX
    gi_wp2
    go_wp2
    go_end0
    exact ⟨⟨_, rfl⟩, by rw [← GO1.out]; exact JX3.out⟩
theorem u8_below {g3 g4 : Nat} {w W : World} (h : Lib.Utf8Tabs g3 g4 w) (hb : Below w.heap.size w W) : Lib.Utf8Tabs g3 g4 W :=
 ⟨fun c hc => (hb.cell (World.block_lt_of_cell? w _ (h.1 c hc))).trans (h.1 c hc), fun i hi => ⟨(hb.cell (World.block_lt_of_cell? w _ (h.2 i hi).1)).trans (h.2 i hi).1, (hb.cell (World.block_lt_of_cell? w _ (h.2 i hi).2)).trans (h.2 i hi).2⟩⟩
theorem iter_R {α : Type} {d : Kd α} {e : Nat} {W : World} {base : Nat} {ok : Nat → Prop} {v : Value} {xs : List α} (h : d.R e W base ok v xs) {k : Nat} {s : ByteArray} {pos : Nat} (hk : W.heap[k]? = some (.stringIter s pos)) (pos' : Nat) : d.R e (W.iterAt k s pos') base ok v xs := by
 refine Kd.R_mono (Kd.R_grown (Kd.R_bound h) (row := some k) ⟨rfl, rfl, rfl, by rw [Lib.iterAt_size]; exact Nat.le_refl _, fun i _ hne => Lib.iterAt_other W k i s pos' (fun e => hne (by rw [e]))⟩ ?_) (fun _ h => h.1)
 rintro j ⟨_, _, _, q, _, cells, hc⟩ e
 injection e with e
 subst e
 rw [hk] at hc
 cases hc
/-- A string's code point at a place. -/
def rune (s : ByteArray) (i : Nat) : Int := ((Utf8.decode s i).1 : Int)
def width (s : ByteArray) (i : Nat) : Nat := (Utf8.decode s i).2
theorem width_pos (s : ByteArray) (i : Nat) (h : i < s.size) : 1 ≤ width s i ∧ i + width s i ≤ s.size := by
 unfold width
 rw [Lib.decode_at]
 unfold Lib.decodeN
 repeat' split
 all_goals (dsimp only; omega)
theorem rune_le (s : ByteArray) (i : Nat) : 0 ≤ rune s i ∧ rune s i ≤ 1114111 := by
 unfold rune
 rw [Lib.decode_at]
 have h0 := (s.get! i).toNat_lt
 unfold Lib.decodeN
 repeat' split
 all_goals (dsimp only; omega)
def find_points.scan (s : ByteArray) : Nat → Nat → List Int
|0, _ => []
|f + 1, i => if i < s.size then rune s i :: find_points.scan s f (i + width s i) else []
def find_points.f (s : ByteArray) : Option (List Int × Int) := if s.size > 1000 then some ([], 2) else if Lib.validD s.data.toList = true then some (find_points.scan s s.size 0, 0) else some ([], 4)
theorem find_points.scan_len (s : ByteArray) : ∀ (f i : Nat), (find_points.scan s f i).length ≤ s.size - i
|0, i => Nat.zero_le _
|f + 1, i => by
  rw [find_points.scan]
  by_cases h : i < s.size
  ·rw [if_pos h]
   have := find_points.scan_len s f (i + width s i)
   have := width_pos s i h
   simp only [List.length_cons]
   omega
  ·rw [if_neg h]
   exact Nat.zero_le _
theorem find_points.len {s : ByteArray} {p : List Int} {e : Int} (h : find_points.f s = some (p, e)) : p.length ≤ 1000 := by
 unfold find_points.f at h
 split at h
 ·obtain ⟨rfl, rfl⟩ := Prod.mk.inj (Option.some.inj h)
  exact Nat.zero_le _
 ·split at h
  ·obtain ⟨rfl, rfl⟩ := Prod.mk.inj (Option.some.inj h)
   have := find_points.scan_len s s.size 0
   omega
  ·obtain ⟨rfl, rfl⟩ := Prod.mk.inj (Option.some.inj h)
   exact Nat.zero_le _
structure find_points.P1 (s : ByteArray) (w : World) (W0 : World) (v : Value) (pos fuel : Nat) (acc : List Int) (full : List Int) (wr : World) : Prop where
 it : wr.heap[W0.heap.size]? = some (.stringIter s pos)
 row : Kd.R (Kd.int .i64) 3 wr w.heap.size (fun _ => True) v acc
 below : Below w.heap.size w wr
 rest : full = acc ++ find_points.scan s fuel pos
 fuel : s.size ≤ pos + fuel
 le : pos ≤ s.size
 len : acc.length ≤ pos
set_option maxHeartbeats 16000000 in
set_option maxRecDepth 100000 in
theorem find_points.calls (a0 : ByteArray) (r1 : List Int) (r2 : Int) (w : World) (h : find_points.f a0 = some (r1, r2)) (hT_ : Lib.Utf8Tabs 0 1 w := by first|exact u8_below HU8_.out (by repeat (first|(with_reducible first|exact HB.out|apply lA|apply lN|apply lD)|exact HB.out))|exact u8_below HT_.out (by repeat (first|(with_reducible first|exact HB.out|apply lA|apply lN|apply lD)|exact HB.out))) :
  Calls Tryd.prog 17 #[.string a0] w fun e w' => ∃ v0_ : Value, e = .returned (.tuple #[v0_, .int .i64 r2]) ∧ Kd.R (Kd.int .i64) 3 w' w.heap.size (fun _ => True) v0_ r1 ∧ Below w.heap.size w w' := by
 have HT := aM hT_
 clear hT_
 unfold find_points.f at h
 by_cases hl : a0.size > 1000
 ·rw [if_pos hl] at h
  obtain ⟨rfl, rfl⟩ := Prod.mk.inj (Option.some.inj h)
  have b1 : decide ((1000 : Int) < (a0.size : Int)) = true := decide_eq_true (by omega)
  have b2 : decide (1000 < a0.size) = true := decide_eq_true hl
  clear hl h
  go_enter Tryd.func17, Tryd.ntmps17
  go_wp2
  go_ret2
  exact ⟨_, rfl, Kd.R_nil _ _ _ _ _, Below.refl _ _⟩
 rw [if_neg hl] at h
 have HL := aM (show a0.size ≤ 1000 by omega)
 have b1 : decide ((1000 : Int) < (a0.size : Int)) = false := decide_eq_false (by omega)
 have b2 : decide (1000 < a0.size) = false := decide_eq_false hl
 have cV : Calls Tryd.prog 30 #[.string a0] w _ := Any.utf8_ValidString Tryd.laysValid a0 w (by have := HL.out; omega) HT.out
 have CV := aM cV
 clear cV hl HT
 generalize Lib.validD a0.data.toList = V at *
 cases V with
|false =>
  rw [if_neg (by decide)] at h
  obtain ⟨rfl, rfl⟩ := Prod.mk.inj (Option.some.inj h)
  clear h
  go_enter Tryd.func17, Tryd.ntmps17
  go_wp2_with (go_at_call 30; refine CV.out.mono ?_; rintro e w1 ⟨rfl, hb⟩; have HB := aM hb; clear hb)
  go_ret2
  exact ⟨_, rfl, Kd.R_nil _ _ _ _ _, HB.out⟩
|true =>
  rw [if_pos rfl] at h
  obtain ⟨hfull, rfl⟩ := Prod.mk.inj (Option.some.inj h)
  obtain ⟨full, hf⟩ : ∃ x, x = find_points.scan a0 a0.size 0 := ⟨_, rfl⟩
  rw [← hf] at hfull
  subst hfull
  have HF := aM hf
  clear h hf
  go_enter Tryd.func17, Tryd.ntmps17
  go_wp2_with (go_at_call 30; refine CV.out.mono ?_; rintro e w1 ⟨rfl, hb⟩; have HB := aM hb; clear hb)
  go_loopw [4, 6] (fun v4 v6 wr => ∃ (pos fuel : Nat) (acc : List Int), Aside0 (find_points.P1 a0 w w1 v4 pos fuel acc full wr)) (fun _ _ wr => a0.size - wr.iterPos w1.heap.size)
  case atStart =>
   refine ⟨0, a0.size, [], ⟨⟨World.iter_heap w1 a0 0, Kd.R_nil _ _ _ _ _, HB.out.alloc HB.out.size _, ?_, by omega, Nat.zero_le _, Nat.zero_le _⟩⟩⟩
   rw [List.nil_append]
   exact HF.out
  case round =>
   clear HF b1 b2
   obtain ⟨pos, fuel, acc, HP⟩ := hrel
   by_cases hp : pos < a0.size
   ·have hnx : ∀ ty, (Instr.next (.pointer (some ⟨w1.heap.size, 0, none⟩)) true ty).run Tryd.prog wr = .ok (.tuple #[.bool true, .int .i64 pos, .int .i32 (rune a0 pos)]) (wr.iterAt w1.heap.size a0 (pos + width a0 pos)) := fun ty => Lib.run_next_any_at wr w1.heap.size a0 pos ty HP.out.it hp
    obtain ⟨wp1, wp2⟩ := width_pos a0 pos hp
    have it2 := Lib.iterAt_heap wr w1.heap.size a0 pos (pos + width a0 pos) HP.out.it
    have bl2 := Lib.below_iterAt HP.out.below (k := w1.heap.size) HB.out.size a0 (pos + width a0 pos)
    have rw2 := iter_R HP.out.row HP.out.it (pos + width a0 pos)
    obtain ⟨f, rfl⟩ : ∃ f, fuel = f + 1 := ⟨fuel - 1, by have := HP.out.fuel; omega⟩
    have rest := HP.out.rest
    simp only [find_points.scan] at rest
    rw [if_pos hp] at rest
    have itp : wr.iterPos w1.heap.size = pos := by simp only [World.iterPos, HP.out.it]
    have fu := HP.out.fuel
    have le := HP.out.len
    obtain ⟨n, hn⟩ : ∃ n, n = width a0 pos := ⟨_, rfl⟩
    obtain ⟨c, hc⟩ : ∃ c, c = rune a0 pos := ⟨_, rfl⟩
    have rle := rune_le a0 pos
    rw [← hn, ← hc] at hnx rest
    rw [← hc] at rle
    rw [← hn] at it2 bl2 rw2 wp1 wp2
    clear hn hc HP
    generalize wr.iterAt w1.heap.size a0 (pos + n) = W2 at *
    have I3 := aM it2
    have B3 := aM bl2
    have R3 := aM rw2
    have REST := aM rest
    have WP := aM (And.intro wp1 wp2)
    have ITP := aM itp
    have FU := aM fu
    have LE := aM le
    have WC := aM (show wrap64 c = c from by unfold wrap64; omega)
    clear it2 bl2 rw2 rest wp1 wp2 itp fu le rle
    go_wp2_with (first|(at_builtin; refine Kd.R_append (Kd.int .i64) (w0 := w) w.heap.size rfl (.tmp 20) (.tmp 23) 50 3 (.int .i64 0) 8 rfl Tryd.underlying50 info3 rfl (by decide) (by decide) u4 acc (wrap64 c) [.int .i64 (wrap64 c)] (fun _ => True) (fun _ => False) rfl rfl rfl (fun _ h => h.elim) (fun _ _ => trivial) R3.out B3.out B3.out.size (by have := LE.out; have := HL.out; have := WP.out; omega) ?_; intro v1 w8 ho hb hg hat; rw [WC.out] at ho; have n0_ := aM (show find_points.P1 a0 w w1 v1 (pos + n) f (acc ++ [c]) full w8 from ⟨(hg.block _ (Array.getElem?_eq_some_iff.1 I3.out).1 (fun e_ => by obtain ⟨_, hc_⟩ := Kd.R_typed R3.out _ e_.symm; rw [I3.out] at hc_; cases hc_)).trans I3.out, ho, hb, by rw [REST.out]; simp only [List.append_assoc, List.cons_append, List.nil_append], by have := FU.out; have := WP.out; omega, WP.out.2, by rw [List.length_append, List.length_singleton]; have := LE.out; have := WP.out; omega⟩); clear ho hb hg hat R3 B3 I3))
    go_roundw
    case rel => exact ⟨_, _, _, n0_⟩
    case measure => simp only [World.iterPos, n0_.out.it]; have := ITP.out; simp only [World.iterPos] at this; rw [this]; have := WP.out; omega
   ·have hnx : ∀ ty, (Instr.next (.pointer (some ⟨w1.heap.size, 0, none⟩)) true ty).run Tryd.prog wr = .ok (.tuple #[.bool false]) wr := fun ty => Lib.run_next_end_at wr w1.heap.size a0 pos ty HP.out.it hp
    have hfull : full = acc := by
     rw [HP.out.rest]
     cases fuel with
    |zero => simp [find_points.scan]
    |succ f => simp [find_points.scan, hp]
    have HX := aM hfull
    have HB2 := aM HP.out.below
    have HR := aM HP.out.row
    clear hp hfull HP
    go_wp2
    go_ret2
    exact ⟨_, rfl, by rw [HX.out]; exact HR.out, HB2.out⟩
def find_looked.key (fold : Bool) : Value := if fold = true then .func (.func 33) #[] #[] else .func (.func 31) #[] #[]
def find_looked.edge (whole : Bool) : Value := if whole = true then .func (.func 34) #[] #[] else .func (.func 32) #[] #[]
theorem find_looked.run_store_func {P : Program} {w : World} (a : Addr) (m : Mode) (f : Fn) (xs ys : Array Value) : (store a (.func f xs ys) m).run P w = stored P w a (.func f xs ys) m := run_store P w a _ m rfl
attribute [local go_sem] find_looked.run_store_func
theorem find_looked.res {tmps : Array Value} {W : World} {g : Nat} {v0 v1 v2 : Value} (p6 : tmps.getD 6 undef = .pointer (some ⟨g, 0, none⟩)) (h3 : W.heap[g]? = some (.cells #[v0, v1, v2] 56 (0, 0))) :
  (results Tryd.f18 tmps).run Tryd.prog W = .ok (.agg #[v0, v1, v2]) W := by
 have h1 : tmps[6]?.getD undef = .pointer (some ⟨g, 0, none⟩) := by simpa using p6
 have hc0 : W.cell? ⟨g, 0, none⟩ = some v0 := (blk_cell h3 0).trans rfl
 have hc1 : W.cell? ⟨g, 1, none⟩ = some v1 := (blk_cell h3 1).trans rfl
 have hc2 : W.cell? ⟨g, 2, none⟩ = some v2 := (blk_cell h3 2).trans rfl
 have hr : Tryd.f18.results = #[.cell 6 56] := rfl
 simp [results, hr, h1, asAddr, go_sem, hc0, hc1, hc2]
set_option maxHeartbeats 8000000 in
set_option maxRecDepth 100000 in
theorem find_looked.calls (A : Option Addr) (n c : Nat) (fold whole : Bool) (w : World) :
  Calls Tryd.prog 18 #[.slice A n c, .bool fold, .bool whole] w fun e w' => e = .returned (.agg #[.slice A n c, find_looked.key fold, find_looked.edge whole]) ∧ Below w.heap.size w w' := by
 have hu56 := Tryd.underlying56
 go_enter Tryd.func18, Tryd.ntmps18
 go_upto_region 1 with (fail)
 have z6 := blk_new w (.cells #[.slice none 0 0, .nilFunc, .nilFunc] 56)
 have b6 := lA (Below.refl w.heap.size w) (.cells #[.slice none 0 0, .nilFunc, .nilFunc] 56)
 generalize w.alloc (.cells #[.slice none 0 0, .nilFunc, .nilFunc] 56) = W1 at *
 obtain ⟨g6, hg6⟩ : ∃ g, g = w.heap.size := ⟨_, rfl⟩
 rw [← hg6] at z6 ⊢
 have Q6 := aM z6
 have P6 := aM b6
 have L7 := aM hg6
 clear z6 b6 hg6
 cases fold with
|false =>
  cases whole with
 |false =>
   go_upto_region 2 with (fail)
   have Z6 := aM (bA Q6.out (.cells #[.slice A n c, .func (.func 31) #[] #[], .func (.func 32) #[] #[]] 56))
   have B6 := aM (lA P6.out (.cells #[.slice A n c, .func (.func 31) #[] #[], .func (.func 32) #[] #[]] 56))
   have Z7 := aM (blk_new W1 (.cells #[.slice A n c, .func (.func 31) #[] #[], .func (.func 32) #[] #[]] 56))
   have NE := aM (show g6 ≠ W1.heap.size from fun e => by have := blk_lt Q6.out; omega)
   have G7 := aM (show w.heap.size ≤ W1.heap.size from P6.out.size)
   generalize W1.alloc (.cells #[.slice A n c, .func (.func 31) #[] #[], .func (.func 32) #[] #[]] 56) = W2 at *
   generalize W1.heap.size = g7 at *
   go_upto_region 4 with (fail)
   have ZA := Z7
   have ZB := Z6
   have ZC := B6
   go_upto_region 6 with (fail)
   have YA := ZA
   have YB := ZB
   have YC := ZC
   have d0 : W2.cell? ⟨g7, 0, none⟩ = some (.slice A n c) := (blk_cell YA.out 0).trans rfl
   have d1 : W2.cell? ⟨g7, 1, none⟩ = some (.func (.func 31) #[] #[]) := (blk_cell YA.out 1).trans rfl
   have d2 : W2.cell? ⟨g7, 2, none⟩ = some (.func (.func 32) #[] #[]) := (blk_cell YA.out 2).trans rfl
   have e0 : W2.cell? ⟨g6, 0, none⟩ = some (.slice none 0 0) := (blk_cell YB.out 0).trans rfl
   have e1 : W2.cell? ⟨g6, 1, none⟩ = some (.nilFunc) := (blk_cell YB.out 1).trans rfl
   have e2 : W2.cell? ⟨g6, 2, none⟩ = some (.nilFunc) := (blk_cell YB.out 2).trans rfl
   have h0 := blk_frozen YB.out 0
   have h1 := blk_frozen YB.out 1
   have h2 := blk_frozen YB.out 2
   go_wp2
   have X := blk_put (blk_put (blk_put YB.out 0 (.slice A n c) rfl) 1 (.func (.func 31) #[] #[]) rfl) 2 (.func (.func 32) #[] #[]) rfl
   refine bodyPost_ret (find_looked.res rfl X) rfl ?_
   have lg : w.heap.size ≤ g6 := Nat.le_of_eq L7.out.symm
   exact ⟨rfl, lS (lS (lS YC.out lg) lg) lg⟩
 |true =>
   go_upto_region 2 with (fail)
   have Z6 := aM (bA Q6.out (.cells #[.slice A n c, .func (.func 31) #[] #[], .func (.func 32) #[] #[]] 56))
   have B6 := aM (lA P6.out (.cells #[.slice A n c, .func (.func 31) #[] #[], .func (.func 32) #[] #[]] 56))
   have Z7 := aM (blk_new W1 (.cells #[.slice A n c, .func (.func 31) #[] #[], .func (.func 32) #[] #[]] 56))
   have NE := aM (show g6 ≠ W1.heap.size from fun e => by have := blk_lt Q6.out; omega)
   have G7 := aM (show w.heap.size ≤ W1.heap.size from P6.out.size)
   generalize W1.alloc (.cells #[.slice A n c, .func (.func 31) #[] #[], .func (.func 32) #[] #[]] 56) = W2 at *
   generalize W1.heap.size = g7 at *
   go_upto_region 4 with (fail)
   have ZA := Z7
   have ZB := Z6
   have ZC := B6
   have c2 : W2.cell? ⟨g7, 2, none⟩ = some (.func (.func 32) #[] #[]) := (blk_cell ZA.out 2).trans rfl
   have f2 := blk_frozen ZA.out 2
   go_upto_region 6 with (fail)
   have YA := aM (blk_put ZA.out 2 (.func (.func 34) #[] #[]) rfl)
   have YB := aM (bF (p := ⟨g7, 2, none⟩) ZB.out NE.out (.func (.func 34) #[] #[]))
   have YC := aM (lS (j := 2) ZC.out G7.out (v := .func (.func 34) #[] #[]))
   clear c2 f2
   generalize W2.setCell ⟨g7, 2, none⟩ (.func (.func 34) #[] #[]) = W4 at *
   have d0 : W4.cell? ⟨g7, 0, none⟩ = some (.slice A n c) := (blk_cell YA.out 0).trans rfl
   have d1 : W4.cell? ⟨g7, 1, none⟩ = some (.func (.func 31) #[] #[]) := (blk_cell YA.out 1).trans rfl
   have d2 : W4.cell? ⟨g7, 2, none⟩ = some (.func (.func 34) #[] #[]) := (blk_cell YA.out 2).trans rfl
   have e0 : W4.cell? ⟨g6, 0, none⟩ = some (.slice none 0 0) := (blk_cell YB.out 0).trans rfl
   have e1 : W4.cell? ⟨g6, 1, none⟩ = some (.nilFunc) := (blk_cell YB.out 1).trans rfl
   have e2 : W4.cell? ⟨g6, 2, none⟩ = some (.nilFunc) := (blk_cell YB.out 2).trans rfl
   have h0 := blk_frozen YB.out 0
   have h1 := blk_frozen YB.out 1
   have h2 := blk_frozen YB.out 2
   go_wp2
   have X := blk_put (blk_put (blk_put YB.out 0 (.slice A n c) rfl) 1 (.func (.func 31) #[] #[]) rfl) 2 (.func (.func 34) #[] #[]) rfl
   refine bodyPost_ret (find_looked.res rfl X) rfl ?_
   have lg : w.heap.size ≤ g6 := Nat.le_of_eq L7.out.symm
   exact ⟨rfl, lS (lS (lS YC.out lg) lg) lg⟩
|true =>
  cases whole with
 |false =>
   go_upto_region 2 with (fail)
   have Z6 := aM (bA Q6.out (.cells #[.slice A n c, .func (.func 31) #[] #[], .func (.func 32) #[] #[]] 56))
   have B6 := aM (lA P6.out (.cells #[.slice A n c, .func (.func 31) #[] #[], .func (.func 32) #[] #[]] 56))
   have Z7 := aM (blk_new W1 (.cells #[.slice A n c, .func (.func 31) #[] #[], .func (.func 32) #[] #[]] 56))
   have NE := aM (show g6 ≠ W1.heap.size from fun e => by have := blk_lt Q6.out; omega)
   have G7 := aM (show w.heap.size ≤ W1.heap.size from P6.out.size)
   generalize W1.alloc (.cells #[.slice A n c, .func (.func 31) #[] #[], .func (.func 32) #[] #[]] 56) = W2 at *
   generalize W1.heap.size = g7 at *
   have c1 : W2.cell? ⟨g7, 1, none⟩ = some (.func (.func 31) #[] #[]) := (blk_cell Z7.out 1).trans rfl
   have f1 := blk_frozen Z7.out 1
   go_upto_region 4 with (fail)
   have ZA := aM (blk_put Z7.out 1 (.func (.func 33) #[] #[]) rfl)
   have ZB := aM (bF (p := ⟨g7, 1, none⟩) Z6.out NE.out (.func (.func 33) #[] #[]))
   have ZC := aM (lS (j := 1) B6.out G7.out (v := .func (.func 33) #[] #[]))
   clear c1 f1
   generalize W2.setCell ⟨g7, 1, none⟩ (.func (.func 33) #[] #[]) = W3 at *
   go_upto_region 6 with (fail)
   have YA := ZA
   have YB := ZB
   have YC := ZC
   have d0 : W3.cell? ⟨g7, 0, none⟩ = some (.slice A n c) := (blk_cell YA.out 0).trans rfl
   have d1 : W3.cell? ⟨g7, 1, none⟩ = some (.func (.func 33) #[] #[]) := (blk_cell YA.out 1).trans rfl
   have d2 : W3.cell? ⟨g7, 2, none⟩ = some (.func (.func 32) #[] #[]) := (blk_cell YA.out 2).trans rfl
   have e0 : W3.cell? ⟨g6, 0, none⟩ = some (.slice none 0 0) := (blk_cell YB.out 0).trans rfl
   have e1 : W3.cell? ⟨g6, 1, none⟩ = some (.nilFunc) := (blk_cell YB.out 1).trans rfl
   have e2 : W3.cell? ⟨g6, 2, none⟩ = some (.nilFunc) := (blk_cell YB.out 2).trans rfl
   have h0 := blk_frozen YB.out 0
   have h1 := blk_frozen YB.out 1
   have h2 := blk_frozen YB.out 2
   go_wp2
   have X := blk_put (blk_put (blk_put YB.out 0 (.slice A n c) rfl) 1 (.func (.func 33) #[] #[]) rfl) 2 (.func (.func 32) #[] #[]) rfl
   refine bodyPost_ret (find_looked.res rfl X) rfl ?_
   have lg : w.heap.size ≤ g6 := Nat.le_of_eq L7.out.symm
   exact ⟨rfl, lS (lS (lS YC.out lg) lg) lg⟩
 |true =>
   go_upto_region 2 with (fail)
   have Z6 := aM (bA Q6.out (.cells #[.slice A n c, .func (.func 31) #[] #[], .func (.func 32) #[] #[]] 56))
   have B6 := aM (lA P6.out (.cells #[.slice A n c, .func (.func 31) #[] #[], .func (.func 32) #[] #[]] 56))
   have Z7 := aM (blk_new W1 (.cells #[.slice A n c, .func (.func 31) #[] #[], .func (.func 32) #[] #[]] 56))
   have NE := aM (show g6 ≠ W1.heap.size from fun e => by have := blk_lt Q6.out; omega)
   have G7 := aM (show w.heap.size ≤ W1.heap.size from P6.out.size)
   generalize W1.alloc (.cells #[.slice A n c, .func (.func 31) #[] #[], .func (.func 32) #[] #[]] 56) = W2 at *
   generalize W1.heap.size = g7 at *
   have c1 : W2.cell? ⟨g7, 1, none⟩ = some (.func (.func 31) #[] #[]) := (blk_cell Z7.out 1).trans rfl
   have f1 := blk_frozen Z7.out 1
   go_upto_region 4 with (fail)
   have ZA := aM (blk_put Z7.out 1 (.func (.func 33) #[] #[]) rfl)
   have ZB := aM (bF (p := ⟨g7, 1, none⟩) Z6.out NE.out (.func (.func 33) #[] #[]))
   have ZC := aM (lS (j := 1) B6.out G7.out (v := .func (.func 33) #[] #[]))
   clear c1 f1
   generalize W2.setCell ⟨g7, 1, none⟩ (.func (.func 33) #[] #[]) = W3 at *
   have c2 : W3.cell? ⟨g7, 2, none⟩ = some (.func (.func 32) #[] #[]) := (blk_cell ZA.out 2).trans rfl
   have f2 := blk_frozen ZA.out 2
   go_upto_region 6 with (fail)
   have YA := aM (blk_put ZA.out 2 (.func (.func 34) #[] #[]) rfl)
   have YB := aM (bF (p := ⟨g7, 2, none⟩) ZB.out NE.out (.func (.func 34) #[] #[]))
   have YC := aM (lS (j := 2) ZC.out G7.out (v := .func (.func 34) #[] #[]))
   clear c2 f2
   generalize W3.setCell ⟨g7, 2, none⟩ (.func (.func 34) #[] #[]) = W4 at *
   have d0 : W4.cell? ⟨g7, 0, none⟩ = some (.slice A n c) := (blk_cell YA.out 0).trans rfl
   have d1 : W4.cell? ⟨g7, 1, none⟩ = some (.func (.func 33) #[] #[]) := (blk_cell YA.out 1).trans rfl
   have d2 : W4.cell? ⟨g7, 2, none⟩ = some (.func (.func 34) #[] #[]) := (blk_cell YA.out 2).trans rfl
   have e0 : W4.cell? ⟨g6, 0, none⟩ = some (.slice none 0 0) := (blk_cell YB.out 0).trans rfl
   have e1 : W4.cell? ⟨g6, 1, none⟩ = some (.nilFunc) := (blk_cell YB.out 1).trans rfl
   have e2 : W4.cell? ⟨g6, 2, none⟩ = some (.nilFunc) := (blk_cell YB.out 2).trans rfl
   have h0 := blk_frozen YB.out 0
   have h1 := blk_frozen YB.out 1
   have h2 := blk_frozen YB.out 2
   go_wp2
   have X := blk_put (blk_put (blk_put YB.out 0 (.slice A n c) rfl) 1 (.func (.func 33) #[] #[]) rfl) 2 (.func (.func 34) #[] #[]) rfl
   refine bodyPost_ret (find_looked.res rfl X) rfl ?_
   have lg : w.heap.size ≤ g6 := Nat.le_of_eq L7.out.symm
   exact ⟨rfl, lS (lS (lS YC.out lg) lg) lg⟩
def find_folded.f (a0 : Int) : Option (Int) := if a0 ≥ 65 then (if a0 ≤ 90 then (some (wrap64 (a0 + 32))) else (some a0)) else (some a0)
set_option maxHeartbeats 8000000 in
set_option maxRecDepth 100000 in
theorem find_folded.calls (a0 : Int) (r : Int) (w : World) (h : find_folded.f a0 = some r) :
  Calls Tryd.prog 33 #[.int .i64 a0] w fun e w' => e = .returned (.int .i64 r) ∧ Drawn0 w w' := by
 have H : (if a0 ≥ 65 then (if a0 ≤ 90 then (some (wrap64 (a0 + 32))) else (some a0)) else (some a0)) = some r := h
 clear h
 by_cases c2 : a0 ≥ 65
 ·rw [if_pos c2] at H
  have c2b0 : decide (65 ≤ a0) = true := decide_eq_true c2
  clear c2
  by_cases c3 : a0 ≤ 90
  ·rw [if_pos c3] at H
   have c3b0 : decide (a0 ≤ 90) = true := decide_eq_true c3
   clear c3
   obtain rfl := Option.some.inj H
   go_enter Tryd.func33, Tryd.ntmps33
   go_wp2
   go_ret
   exact ⟨by first|rfl|(simp; done)|(simp [*]; done), by repeat (first|exact Drawn0.refl _|apply Drawn0.step)⟩
  ·rw [if_neg c3] at H
   have c3b0 : decide (a0 ≤ 90) = false := decide_eq_false c3
   clear c3
   obtain rfl := Option.some.inj H
   go_enter Tryd.func33, Tryd.ntmps33
   go_wp2
   go_ret
   exact ⟨by first|rfl|(simp; done)|(simp [*]; done), by repeat (first|exact Drawn0.refl _|apply Drawn0.step)⟩
 ·rw [if_neg c2] at H
  have c2b0 : decide (65 ≤ a0) = false := decide_eq_false c2
  clear c2
  obtain rfl := Option.some.inj H
  go_enter Tryd.func33, Tryd.ntmps33
  go_wp2
  go_ret
  exact ⟨by first|rfl|(simp; done)|(simp [*]; done), by repeat (first|exact Drawn0.refl _|apply Drawn0.step)⟩
def find_letter.f (a0 : Int) : Option (Bool) := if a0 ≥ 48 then (if a0 ≤ 57 then (some true) else (if a0 < 128 then (if (Go.bits .or .i64 a0 32) ≥ 97 then (if (Go.bits .or .i64 a0 32) ≤ 122 then (some true) else (some (decide (a0 ≥ 128)))) else (some (decide (a0 ≥ 128)))) else (some (decide (a0 ≥ 128))))) else (if a0 < 128 then (if (Go.bits .or .i64 a0 32) ≥ 97 then (if (Go.bits .or .i64 a0 32) ≤ 122 then (some true) else (some (decide (a0 ≥ 128)))) else (some (decide (a0 ≥ 128)))) else (some (decide (a0 ≥ 128))))
set_option maxHeartbeats 8000000 in
set_option maxRecDepth 100000 in
theorem find_letter.calls (a0 : Int) (r : Bool) (w : World) (h : find_letter.f a0 = some r) :
  Calls Tryd.prog 35 #[.int .i64 a0] w fun e w' => e = .returned (.bool r) ∧ Drawn0 w w' := by
 have H : (if a0 ≥ 48 then (if a0 ≤ 57 then (some true) else (if a0 < 128 then (if (Go.bits .or .i64 a0 32) ≥ 97 then (if (Go.bits .or .i64 a0 32) ≤ 122 then (some true) else (some (decide (a0 ≥ 128)))) else (some (decide (a0 ≥ 128)))) else (some (decide (a0 ≥ 128))))) else (if a0 < 128 then (if (Go.bits .or .i64 a0 32) ≥ 97 then (if (Go.bits .or .i64 a0 32) ≤ 122 then (some true) else (some (decide (a0 ≥ 128)))) else (some (decide (a0 ≥ 128)))) else (some (decide (a0 ≥ 128))))) = some r := h
 clear h
 by_cases c2 : a0 ≥ 48
 ·rw [if_pos c2] at H
  have c2b0 : decide (48 ≤ a0) = true := decide_eq_true c2
  clear c2
  by_cases c3 : a0 ≤ 57
  ·rw [if_pos c3] at H
   have c3b0 : decide (a0 ≤ 57) = true := decide_eq_true c3
   clear c3
   obtain rfl := Option.some.inj H
   go_enter Tryd.func35, Tryd.ntmps35
   go_wp2
   go_ret
   exact ⟨by first|rfl|(simp; done)|(simp [*]; done), by repeat (first|exact Drawn0.refl _|apply Drawn0.step)⟩
  ·rw [if_neg c3] at H
   have c3b0 : decide (a0 ≤ 57) = false := decide_eq_false c3
   clear c3
   by_cases c4 : a0 < 128
   ·rw [if_pos c4] at H
    have c4b0 : decide (a0 < 128) = true := decide_eq_true c4
    clear c4
    by_cases c5 : (Go.bits .or .i64 a0 32) ≥ 97
    ·rw [if_pos c5] at H
     have c5b0 : decide (97 ≤ (Go.bits .or .i64 a0 32)) = true := decide_eq_true c5
     clear c5
     by_cases c6 : (Go.bits .or .i64 a0 32) ≤ 122
     ·rw [if_pos c6] at H
      have c6b0 : decide ((Go.bits .or .i64 a0 32) ≤ 122) = true := decide_eq_true c6
      clear c6
      obtain rfl := Option.some.inj H
      go_enter Tryd.func35, Tryd.ntmps35
      go_wp2
      go_ret
      exact ⟨by first|rfl|(simp; done)|(simp [*]; done), by repeat (first|exact Drawn0.refl _|apply Drawn0.step)⟩
     ·rw [if_neg c6] at H
      have c6b0 : decide ((Go.bits .or .i64 a0 32) ≤ 122) = false := decide_eq_false c6
      clear c6
      obtain rfl := Option.some.inj H
      go_enter Tryd.func35, Tryd.ntmps35
      go_wp2
      go_ret
      exact ⟨by first|rfl|(simp; done)|(simp [*]; done), by repeat (first|exact Drawn0.refl _|apply Drawn0.step)⟩
    ·rw [if_neg c5] at H
     have c5b0 : decide (97 ≤ (Go.bits .or .i64 a0 32)) = false := decide_eq_false c5
     clear c5
     obtain rfl := Option.some.inj H
     go_enter Tryd.func35, Tryd.ntmps35
     go_wp2
     go_ret
     exact ⟨by first|rfl|(simp; done)|(simp [*]; done), by repeat (first|exact Drawn0.refl _|apply Drawn0.step)⟩
   ·rw [if_neg c4] at H
    have c4b0 : decide (a0 < 128) = false := decide_eq_false c4
    clear c4
    obtain rfl := Option.some.inj H
    go_enter Tryd.func35, Tryd.ntmps35
    go_wp2
    go_ret
    exact ⟨by first|rfl|(simp; done)|(simp [*]; done), by repeat (first|exact Drawn0.refl _|apply Drawn0.step)⟩
 ·rw [if_neg c2] at H
  have c2b0 : decide (48 ≤ a0) = false := decide_eq_false c2
  clear c2
  by_cases c7 : a0 < 128
  ·rw [if_pos c7] at H
   have c7b0 : decide (a0 < 128) = true := decide_eq_true c7
   clear c7
   by_cases c8 : (Go.bits .or .i64 a0 32) ≥ 97
   ·rw [if_pos c8] at H
    have c8b0 : decide (97 ≤ (Go.bits .or .i64 a0 32)) = true := decide_eq_true c8
    clear c8
    by_cases c9 : (Go.bits .or .i64 a0 32) ≤ 122
    ·rw [if_pos c9] at H
     have c9b0 : decide ((Go.bits .or .i64 a0 32) ≤ 122) = true := decide_eq_true c9
     clear c9
     obtain rfl := Option.some.inj H
     go_enter Tryd.func35, Tryd.ntmps35
     go_wp2
     go_ret
     exact ⟨by first|rfl|(simp; done)|(simp [*]; done), by repeat (first|exact Drawn0.refl _|apply Drawn0.step)⟩
    ·rw [if_neg c9] at H
     have c9b0 : decide ((Go.bits .or .i64 a0 32) ≤ 122) = false := decide_eq_false c9
     clear c9
     obtain rfl := Option.some.inj H
     go_enter Tryd.func35, Tryd.ntmps35
     go_wp2
     go_ret
     exact ⟨by first|rfl|(simp; done)|(simp [*]; done), by repeat (first|exact Drawn0.refl _|apply Drawn0.step)⟩
   ·rw [if_neg c8] at H
    have c8b0 : decide (97 ≤ (Go.bits .or .i64 a0 32)) = false := decide_eq_false c8
    clear c8
    obtain rfl := Option.some.inj H
    go_enter Tryd.func35, Tryd.ntmps35
    go_wp2
    go_ret
    exact ⟨by first|rfl|(simp; done)|(simp [*]; done), by repeat (first|exact Drawn0.refl _|apply Drawn0.step)⟩
  ·rw [if_neg c7] at H
   have c7b0 : decide (a0 < 128) = false := decide_eq_false c7
   clear c7
   obtain rfl := Option.some.inj H
   go_enter Tryd.func35, Tryd.ntmps35
   go_wp2
   go_ret
   exact ⟨by first|rfl|(simp; done)|(simp [*]; done), by repeat (first|exact Drawn0.refl _|apply Drawn0.step)⟩
theorem find_fits.goesR {P : Program} {ops : Array Oper} {Q : Exit → Act → World → Prop} {oi : Oper} {N : Option Tmp} {a : Act} {w : World} {K : Act → World → Prop} {f : FuncId} {fn : Func} {ys : Array Operand} {ts : Array TypeId} {x : Operand} (hf : P.funcs[f]? = some fn) (hname : (fn.name == "runtime.NumGoroutine") = false) (hb : fn.body.isSome = true) (args : Array Value)
  (hw : Region.wanted oi (yielded ops a.tmps) = true) (hN : oi.dst = N) (hop : oi.op = .call { callee := .value x, args := ys, argTypes := ts }) (hx : a.eval x = .func (.func f) #[] #[]) (hargs : ys.map a.eval = args)
  (h : Calls P f args w fun e w' => ∃ v, e = .returned v ∧ K (a.put N v) w') : if Region.wanted oi (yielded ops a.tmps) = true then Oper.wp P oi a w K Q else K (a.put N undef) w := by
 refine call_ f args hw hN ?_ h
 have he := enters_ hf hname hb args w
 unfold execOp
 simp [hop, resolve, Deferred.ofValue, invoke, hx, hargs, he]
def find_fits.key (fold : Bool) (c : Int) : Int := if fold = true then (if 65 ≤ c ∧ c ≤ 90 then c + 32 else c) else c
def find_fits.letter (c : Int) : Bool := (find_letter.f c).getD false
theorem find_fits.letter_f (c : Int) : find_letter.f c = some (find_fits.letter c) := by
 have h : ∃ b, find_letter.f c = some b := by
  unfold find_letter.f
  repeat' split
  all_goals exact ⟨_, rfl⟩
 obtain ⟨b, hb⟩ := h
 unfold find_fits.letter
 rw [hb]
 rfl
theorem find_fits.key_calls (c : Int) (w : World) : Calls Tryd.prog 31 #[.int .i64 c] w fun e w' => e = .returned (.int .i64 (find_fits.key false c)) ∧ Below w.heap.size w w' := by
 go_enter Tryd.func31, Tryd.ntmps31
 go_wp2
 go_ret
 exact ⟨rfl, Below.refl _ _⟩
theorem find_fits.low_calls (c : Int) (w : World) : Calls Tryd.prog 33 #[.int .i64 c] w fun e w' => e = .returned (.int .i64 (find_fits.key true c)) ∧ Below w.heap.size w w' := by
 refine (find_folded.calls c (find_fits.key true c) w ?_).mono fun e w' h => ⟨h.1, h.2.below⟩
 unfold find_folded.f find_fits.key
 rw [if_pos rfl]
 by_cases h1 : c ≥ 65
 ·by_cases h2 : c ≤ 90
  ·rw [if_pos h1, if_pos h2, if_pos ⟨h1, h2⟩, show wrap64 (c + 32) = c + 32 from by unfold wrap64; omega]
  ·rw [if_pos h1, if_neg h2, if_neg (fun h => h2 h.2)]
 ·rw [if_neg h1, if_neg (fun h => h1 h.1)]
theorem find_fits.free_calls (A : Option Addr) (n c : Nat) (i : Int) (w : World) : Calls Tryd.prog 32 #[.slice A n c, .int .i64 i] w fun e w' => e = .returned (.bool true) ∧ Below w.heap.size w w' := by
 go_enter Tryd.func32, Tryd.ntmps32
 go_wp2
 go_ret
 exact ⟨rfl, Below.refl _ _⟩
/-- No letter stands there. -/
def find_fits.edge (whole : Bool) (p : List Int) (i : Int) : Bool := !whole || (decide (i < 0) || (decide ((p.length : Int) ≤ i) || !find_fits.letter (rd p i)))
theorem find_fits.edge_calls (A : Option Addr) (c : Nat) (p : List Int) (i : Int) (w : World) (hr : Kd.C (Kd.int .i64) w A p.length p) : Calls Tryd.prog 34 #[.slice A p.length c, .int .i64 i] w fun e w' => e = .returned (.bool (find_fits.edge true p i)) ∧ Below w.heap.size w w' := by
 have HR := aM hr
 clear hr
 have HB := aM (Below.refl w.heap.size w)
 by_cases h1 : i < 0
 ·have h1b : decide (i < 0) = true := decide_eq_true h1
  have E := aM (show find_fits.edge true p i = true from by unfold find_fits.edge; rw [h1b]; rfl)
  clear h1
  go_enter Tryd.func34, Tryd.ntmps34
  go_wp2
  go_ret
  exact ⟨by rw [E.out]; rfl, HB.out⟩
 have h1b : decide (i < 0) = false := decide_eq_false h1
 by_cases h2 : (p.length : Int) ≤ i
 ·have h2b : decide ((p.length : Int) ≤ i) = true := decide_eq_true h2
  have E := aM (show find_fits.edge true p i = true from by unfold find_fits.edge; rw [h1b, h2b]; rfl)
  clear h1 h2
  go_enter Tryd.func34, Tryd.ntmps34
  go_wp2
  go_ret
  exact ⟨by rw [E.out]; rfl, HB.out⟩
 have h2b : decide ((p.length : Int) ≤ i) = false := decide_eq_false h2
 obtain ⟨ad, eA, e0⟩ := Kd.at_int HR.out i (by omega) (by omega)
 subst eA
 have E := aM (show find_fits.edge true p i = !find_fits.letter (rd p i) from by unfold find_fits.edge; rw [h1b, h2b]; rfl)
 have i0 := eq_true (show 0 ≤ i by omega)
 have i1 := eq_true (show i < (p.length : Int) by omega)
 clear h1 h2
 go_enter Tryd.func34, Tryd.ntmps34
 go_wp2_with fail
 refine (find_letter.calls (rd p i) (find_fits.letter (rd p i)) _ (find_fits.letter_f _)).mono ?_
 rintro e w' ⟨rfl, hd⟩
 have HB1 := aM hd.below
 clear hd
 generalize find_fits.letter (rd p i) = b at *
 cases b with
|false =>
  go_wp2
  go_ret
  exact ⟨by rw [E.out]; rfl, HB1.out⟩
|true =>
  go_wp2
  go_ret
  exact ⟨by rw [E.out]; rfl, HB1.out⟩
def find_fits.all (text p : List Int) (fold : Bool) (i : Int) : Nat → Nat → Bool
|0, _ => true
|f + 1, k => if find_fits.key fold (rd p (i + k)) = find_fits.key fold (rd text k) then find_fits.all text p fold i f (k + 1) else false
def find_fits.f (text p : List Int) (fold whole : Bool) (i : Int) : Bool := decide (i + (text.length : Int) ≤ (p.length : Int)) && (find_fits.edge whole p (i - 1) && (find_fits.edge whole p (i + (text.length : Int)) && find_fits.all text p fold i text.length 0))
def find_fits.T7 : Bool × List (List Nat × List Nat) := (true, [([], []), ([0], [0]), ([], []), ([], []), ([], []), ([3, 4], [3, 4]), ([2, 5], [2, 5]), ([6], [6]), ([1, 7], [1, 7]), ([], []), ([9], [9]), ([], []), ([10, 11, 8], [10, 11]), ([8, 12], [8, 12])])
def find_fits.B7 : List Nat := [0, 1, 0, 0, 0, 24, 60, 124, 255, 0, 512, 0, 4095, 8191]
theorem find_fits.tab7 : rtab .any (opsOf Tryd.f20 7) = find_fits.T7 := by kernel_rfl
theorem find_fits.bits7 : waitsOk find_fits.T7.2 find_fits.B7 = true := by kernel_rfl
set_option maxHeartbeats 16000000 in
set_option maxRecDepth 100000 in
theorem find_fits.calls (text p : List Int) (fold whole : Bool) (A B : Option Addr) (c d : Nat) (i : Int) (w : World) (ht : Kd.C (Kd.int .i64) w A text.length text) (hp : Kd.C (Kd.int .i64) w B p.length p) (hi : 0 ≤ i ∧ i ≤ (p.length : Int)) (hb : text.length ≤ 1000000 ∧ p.length ≤ 1000000) :
  Calls Tryd.prog 20 #[.agg #[.slice A text.length c, find_looked.key fold, find_looked.edge whole], .slice B p.length d, .int .i64 i] w fun e w' => e = .returned (.bool (find_fits.f text p fold whole i)) ∧ Below w.heap.size w w' := by
 have hu56 := Tryd.underlying56
 have HT := aM ht
 have HP := aM hp
 have HI := aM (And.intro hi hb)
 clear ht hp hi hb
 cases whole with
|true =>
  cases fold with
 |true =>
   unfold find_looked.key find_looked.edge
   rw [if_pos rfl, if_pos rfl]
   have z := blk_new w (.cells #[.slice A text.length c, .func (.func 33) #[] #[], .func (.func 34) #[] #[]] 56)
   have Z := aM z
   have HB := aM (lA (Below.refl w.heap.size w) (.cells #[.slice A text.length c, .func (.func 33) #[] #[], .func (.func 34) #[] #[]] 56))
   have HT1 := aM (Kd.C_alloc HT.out (.cells #[.slice A text.length c, .func (.func 33) #[] #[], .func (.func 34) #[] #[]] 56))
   have HP1 := aM (Kd.C_alloc HP.out (.cells #[.slice A text.length c, .func (.func 33) #[] #[], .func (.func 34) #[] #[]] 56))
   clear z HT HP
   obtain ⟨en, hen⟩ : ∃ e, e = i + (text.length : Int) := ⟨_, rfl⟩
   have hw : wrap64 (i + (text.length : Int)) = en := by have := HI.out; rw [hen]; unfold wrap64; omega
   have hw2 : wrap64 (i - 1) = i - 1 := by have := HI.out; unfold wrap64; omega
   have HE := aM hen
   clear hen
   go_enter Tryd.func20, Tryd.ntmps20
   go_upto_region 1 with (fail)
   generalize w.alloc (.cells #[.slice A text.length c, .func (.func 33) #[] #[], .func (.func 34) #[] #[]] 56) = W1 at *
   have c0 : W1.cell? ⟨w.heap.size, 0, none⟩ = some (.slice A text.length c) := (blk_cell Z.out 0).trans rfl
   have c2 : W1.cell? ⟨w.heap.size, 2, none⟩ = some (.func (.func 34) #[] #[]) := (blk_cell Z.out 2).trans rfl
   go_upto_region 2 with (fail)
   rw [hw]
   clear hw
   have HW2 := aM hw2
   by_cases h1 : (p.length : Int) < en
   ·have h1b : decide ((p.length : Int) < en) = true := decide_eq_true h1
    have E := aM (show find_fits.f text p true true i = false from by unfold find_fits.f; rw [← HE.out, decide_eq_false (by omega)]; rfl)
    clear h1 hw2
    go_wp2
    go_ret
    exact ⟨by rw [E.out]; rfl, HB.out⟩
   have h1b : decide ((p.length : Int) < en) = false := decide_eq_false h1
   have H1 := aM (show en ≤ (p.length : Int) by omega)
   clear h1
   go_wp2_with fail
   refine (find_fits.edge_calls B d p _ _ HP1.out).mono ?_
   rintro e W2 ⟨rfl, hb⟩
   have HB2 := aM (below_step HB.out hb)
   have Z2 := aM (blk_below Z.out hb)
   have HT2 := aM (Kd.C_below HT1.out hb)
   have HP2 := aM (Kd.C_below HP1.out hb)
   clear hb hw2 c0 c2 Z HT1 HP1 HB
   have c2 : W2.cell? ⟨w.heap.size, 2, none⟩ = some (.func (.func 34) #[] #[]) := (blk_cell Z2.out 2).trans rfl
   rw [HW2.out]
   obtain ⟨b1, hb1⟩ : ∃ b, b = find_fits.edge true p (i - 1) := ⟨_, rfl⟩
   rw [← hb1]
   cases b1 with
  |false =>
    have E := aM (show find_fits.f text p true true i = false from by unfold find_fits.f; rw [← hb1, Bool.false_and, Bool.and_false])
    clear hb1
    go_wp2
    go_ret
    exact ⟨by rw [E.out]; rfl, HB2.out⟩
  |true =>
    have E1 := aM hb1
    clear hb1
    go_wp2_with fail
    refine (find_fits.edge_calls B d p _ _ HP2.out).mono ?_
    rintro e W3 ⟨rfl, hb⟩
    have HB3 := aM (below_step HB2.out hb)
    have Z3 := aM (blk_below Z2.out hb)
    have HT3 := aM (Kd.C_below HT2.out hb)
    have HP3 := aM (Kd.C_below HP2.out hb)
    clear hb c2 Z2 HT2 HP2 HB2
    obtain ⟨b2, hb2⟩ : ∃ b, b = find_fits.edge true p en := ⟨_, rfl⟩
    rw [← hb2]
    cases b2 with
   |false =>
     have E := aM (show find_fits.f text p true true i = false from by unfold find_fits.f; rw [← HE.out, ← hb2, Bool.false_and, Bool.and_false, Bool.and_false])
     clear hb2
     go_wp2
     go_ret
     exact ⟨by rw [E.out]; rfl, HB3.out⟩
   |true =>
     have c0 : W3.cell? ⟨w.heap.size, 0, none⟩ = some (.slice A text.length c) := (blk_cell Z3.out 0).trans rfl
     have E := aM (show find_fits.f text p true true i = find_fits.all text p true i text.length 0 from by unfold find_fits.f; rw [← HE.out, ← hb2, ← E1.out, decide_eq_true H1.out]; rfl)
     have I0 := aM (And.intro HB3.out (And.intro Z3.out (And.intro HT3.out HP3.out)))
     clear hb2 E1 HB3 Z3 HT3 HP3 HW2
     go_wp2
     go_loopg [8, 9, 39] (text.length + 1) (fun kq v8 v9 v39 wr => ∃ (k : Nat), v39 = .int .i64 (k : Int) ∧ Aside0 (Below w.heap.size w wr ∧ wr.heap[w.heap.size]? = some (Obj.cells #[.slice A text.length c, .func (.func 33) #[] #[], .func (.func 34) #[] #[]] 56 (0, 0)) ∧ Kd.C (Kd.int .i64) wr A text.length text ∧ Kd.C (Kd.int .i64) wr B p.length p) ∧ Aside0 (text.length + 1 = k + kq ∧ find_fits.f text p true true i = find_fits.all text p true i (kq - 1) k))
     case atStart => exact ⟨0, rfl, I0, ⟨by omega, E.out⟩⟩
     case round =>
      clear I0 E c0
      obtain ⟨k, rfl, HJ, HK⟩ := hrel
      by_cases c5 : k < text.length
      ·have c5b : decide ((k : Int) < (text.length : Int)) = true := decide_eq_true (by omega)
       have c5c : decide (k < text.length) = true := decide_eq_true c5
       obtain ⟨f, rfl⟩ : ∃ f, gk = f + 2 := ⟨gk - 2, by have := HK.out.1; omega⟩
       have hk := HK.out.2
       rw [show f + 2 - 1 = f + 1 from rfl, find_fits.all] at hk
       obtain ⟨ad, eA, e0⟩ := Kd.at_int HJ.out.2.2.1 (k : Int) (by omega) (by omega)
       obtain ⟨bd, eB, d0⟩ := Kd.at_int HJ.out.2.2.2 (i + (k : Int)) (by have := HI.out; omega) (by have := H1.out; have := HE.out; omega)
       subst eA
       subst eB
       rw [Int.toNat_natCast] at e0
       have c1 : wr.cell? ⟨w.heap.size, 1, none⟩ = some (.func (.func 33) #[] #[]) := (blk_cell HJ.out.2.1 1).trans rfl
       have k0 := eq_true (show (0 : Int) ≤ (k : Int) by omega)
       have k1 := eq_true (show (k : Int) < (text.length : Int) by omega)
       obtain ⟨ik, hik⟩ : ∃ x, x = i + (k : Int) := ⟨_, rfl⟩
       have hw : wrap64 (i + (k : Int)) = ik := by have := HI.out; rw [hik]; unfold wrap64; omega
       have q0 := eq_true (show 0 ≤ ik by have := HI.out; omega)
       have q1 := eq_true (show ik < (p.length : Int) by have := H1.out; have := HE.out; omega)
       rw [← hik] at d0 hk
       have WI := aM (show wrap64 ((k : Int) + 1) = ((k + 1 : Nat) : Int) from by have := HI.out; unfold wrap64; omega)
       obtain ⟨tc, htc⟩ : ∃ x, x = rd text (k : Int) := ⟨_, rfl⟩
       obtain ⟨pc, hpc⟩ : ∃ x, x = rd p ik := ⟨_, rfl⟩
       rw [← htc] at e0 hk
       rw [← hpc] at d0 hk
       have HKK := aM hk
       have C5 := aM c5
       clear htc hpc hk c5 hik
       go_upto_region 7 with (fail)
       refine start_ (n := 14) (S := fun w' => w'.cell? ⟨w.heap.size, 1, none⟩ = some (.func (.func 33) #[] #[]) ∧ w'.cell? (bd.add ik.toNat) = some (.int .i64 pc)) (ds := []) #[false, false, false, false, false, false, false, false, false, false, false, false, false, false] (by kernel_rfl) rfl rfl ⟨c1, d0⟩ (fun hHeld => ?_)
       refine with_tabW find_fits.tab7 find_fits.bits7 (fun HT_ HW_ => ?_)
       have J5 := aM (And.intro (Below.drew HJ.out.1) (And.intro (bD HJ.out.2.1) (And.intro (Kd.C_drew HJ.out.2.2.1) (Kd.C_drew HJ.out.2.2.2))))
       clear HJ c1 d0 e0
       generalize wr.drew = w5 at *
       refine pure_ (i := 0) (N := some 44) (v := ?_) (a' := ?_) #[true, false, false, false, false, false, false, false, false, false, false, false, false, false] rfl rfl (any_of HT_.out (by kernel_rfl)) (fun _ _ _ h => h) (Or.inl ⟨by rfl, ?_⟩) ?_ ?_
       rotate_left
       ·intro w'
        go_simp
        with_reducible rfl
       rotate_left
       ·simp only [Act.put, sA, sZ, sS, i64_w, i32_w]
        rfl
       refine take_ (i := 1) (N := some 45) (v := ?_) (a' := ?_) #[true, true, false, false, false, false, false, false, false, false, false, false, false, false] rfl rfl (take_ofW HT_.out HW_.out (by kernel_rfl)) (fun _ _ _ h => h) (Or.inl ⟨by rfl, ?_⟩) hHeld ?_ ?_
       rotate_left
       ·rintro w' ⟨s0, s1⟩
        go_simp
        with_reducible rfl
       rotate_left
       ·simp only [Act.put, sA, sZ, sS, i64_w, i32_w]
        rfl
       refine pure_ (i := 2) (N := some 46) (v := ?_) (a' := ?_) #[true, true, true, false, false, false, false, false, false, false, false, false, false, false] rfl rfl (any_of HT_.out (by kernel_rfl)) (fun _ _ _ h => h) (Or.inl ⟨by rfl, ?_⟩) ?_ ?_
       rotate_left
       ·intro w'
        go_simp
        with_reducible rfl
       rotate_left
       ·simp only [Act.put, sA, sZ, sS, i64_w, i32_w]
        rfl
       refine pure_ (i := 3) (N := some 47) (v := ?_) (a' := ?_) #[true, true, true, true, false, false, false, false, false, false, false, false, false, false] rfl rfl (any_of HT_.out (by kernel_rfl)) (fun _ _ _ h => h) (Or.inl ⟨by rfl, ?_⟩) ?_ ?_
       rotate_left
       ·intro w'
        go_simp
        with_reducible rfl
       rotate_left
       ·simp only [Act.put, sA, sZ, sS, i64_w, i32_w]
        rfl
       refine pure_ (i := 4) (N := some 48) (v := ?_) (a' := ?_) #[true, true, true, true, true, false, false, false, false, false, false, false, false, false] rfl rfl (any_of HT_.out (by kernel_rfl)) (fun _ _ _ h => h) (Or.inl ⟨by rfl, ?_⟩) ?_ ?_
       rotate_left
       ·intro w'
        go_simp
        with_reducible rfl
       rotate_left
       ·simp only [Act.put, sA, sZ, sS, i64_w, i32_w]
        rfl
       refine pure_ (i := 5) (N := some 49) (v := ?_) (a' := ?_) #[true, true, true, true, true, true, false, false, false, false, false, false, false, false] rfl rfl (any_of HT_.out (by kernel_rfl)) (fun _ _ _ h => h) (Or.inl ⟨by rfl, ?_⟩) ?_ ?_
       rotate_left
       ·intro w'
        go_simp
        with_reducible rfl
       rotate_left
       ·simp only [Act.put, sA, sZ, sS, i64_w, i32_w]
        rfl
       rw [hw]
       refine pure_ (i := 6) (N := some 50) (v := ?_) (a' := ?_) #[true, true, true, true, true, true, true, false, false, false, false, false, false, false] rfl rfl (any_of HT_.out (by kernel_rfl)) (fun _ _ _ h => h) (Or.inl ⟨by rfl, ?_⟩) ?_ ?_
       rotate_left
       ·intro w'
        go_simp
        with_reducible rfl
       rotate_left
       ·simp only [Act.put, sA, sZ, sS, i64_w, i32_w]
        rfl
       refine take_ (i := 7) (N := some 51) (v := ?_) (a' := ?_) #[true, true, true, true, true, true, true, true, false, false, false, false, false, false] rfl rfl (take_ofW HT_.out HW_.out (by kernel_rfl)) (fun _ _ _ h => h) (Or.inl ⟨by rfl, ?_⟩) hHeld ?_ ?_
       rotate_left
       ·rintro w' ⟨s0, s1⟩
        go_simp
        with_reducible rfl
       rotate_left
       ·simp only [Act.put, sA, sZ, sS, i64_w, i32_w]
        rfl
       refine pure_ (i := 9) (N := some 53) (v := ?_) (a' := ?_) #[true, true, true, true, true, true, true, true, false, true, false, false, false, false] rfl rfl (any_of HT_.out (by kernel_rfl)) (fun _ _ _ h => h) (Or.inl ⟨by rfl, ?_⟩) ?_ ?_
       rotate_left
       ·intro w'
        go_simp
        with_reducible rfl
       rotate_left
       ·simp only [Act.put, sA, sZ, sS, i64_w, i32_w]
        rfl
       refine take_ (i := 10) (N := some 54) (v := ?_) (a' := ?_) #[true, true, true, true, true, true, true, true, false, true, true, false, false, false] rfl rfl (take_ofW HT_.out HW_.out (by kernel_rfl)) (fun _ _ _ h => h) (Or.inl ⟨by rfl, ?_⟩) hHeld ?_ ?_
       rotate_left
       ·rintro w' ⟨s0, s1⟩
        go_simp
        with_reducible rfl
       rotate_left
       ·simp only [Act.put, sA, sZ, sS, i64_w, i32_w]
        rfl
       refine pure_ (i := 11) (N := some 55) (v := ?_) (a' := ?_) #[true, true, true, true, true, true, true, true, false, true, true, true, false, false] rfl rfl (any_of HT_.out (by kernel_rfl)) (fun _ _ _ h => h) (Or.inl ⟨by rfl, ?_⟩) ?_ ?_
       rotate_left
       ·intro w'
        go_simp
        with_reducible rfl
       rotate_left
       ·simp only [Act.put, sA, sZ, sS, i64_w, i32_w]
        rfl
       refine one_ (i := 8) (N := some 52) #[true, true, true, true, true, true, true, true, true, true, true, true, false, false] rfl rfl (one_of HT_.out (by kernel_rfl)) (by decide) (fun K hK => ?_)
       refine find_fits.goesR Tryd.func33 (by kernel_rfl) rfl #[.int .i64 pc] (by rfl) rfl rfl rfl (by simp only [List.map_toArray, List.map_cons, List.map_nil]; rfl) ?_
       refine (find_fits.low_calls pc _).mono ?_
       rintro e w6 ⟨rfl, hb⟩
       refine ⟨_, rfl, ?_⟩
       have J6 := aM (And.intro (below_step J5.out.1 hb) (And.intro (blk_below J5.out.2.1 hb) (And.intro (Kd.C_below J5.out.2.2.1 hb) (Kd.C_below J5.out.2.2.2 hb))))
       have keep : ∀ (ad : Addr) (u : Value), w5.cell? ad = some u → w6.cell? ad = some u := fun ad u s => (hb.cell (World.block_lt_of_cell? w5 _ s)).trans s
       refine hK.out _ _ ⟨keep _ _ hHeld.1, keep _ _ hHeld.2⟩ (fun hHeld => ?_)
       clear hK K keep hb J5
       refine norm_ (a' := ?_) ?_ ?_
       rotate_left
       ·show Act.put _ (some 52) _ = _
        simp only [Act.put, sA, sZ, sS, i64_w, i32_w]
        rfl
       refine one_ (i := 12) (N := some 56) #[true, true, true, true, true, true, true, true, true, true, true, true, true, false] rfl rfl (one_of HT_.out (by kernel_rfl)) (by decide) (fun K hK => ?_)
       refine find_fits.goesR Tryd.func33 (by kernel_rfl) rfl #[.int .i64 tc] (by rfl) rfl rfl rfl (by simp only [List.map_toArray, List.map_cons, List.map_nil]; rfl) ?_
       refine (find_fits.low_calls tc _).mono ?_
       rintro e w7 ⟨rfl, hb⟩
       refine ⟨_, rfl, ?_⟩
       have J7 := aM (And.intro (below_step J6.out.1 hb) (And.intro (blk_below J6.out.2.1 hb) (And.intro (Kd.C_below J6.out.2.2.1 hb) (Kd.C_below J6.out.2.2.2 hb))))
       have keep : ∀ (ad : Addr) (u : Value), w6.cell? ad = some u → w7.cell? ad = some u := fun ad u s => (hb.cell (World.block_lt_of_cell? w6 _ s)).trans s
       refine hK.out _ _ ⟨keep _ _ hHeld.1, keep _ _ hHeld.2⟩ (fun hHeld => ?_)
       clear hK K keep hb J6
       refine norm_ (a' := ?_) ?_ ?_
       rotate_left
       ·show Act.put _ (some 56) _ = _
        simp only [Act.put, sA, sZ, sS, i64_w, i32_w]
        rfl
       have hkk := HKK.out
       generalize find_fits.key true pc = kp at *
       generalize find_fits.key true tc = kt at *
       by_cases hq : kp = kt
       ·have hqb : (kp != kt) = false := bne_eq_false_iff_eq.mpr hq
        rw [if_pos hq] at hkk
        have HQ := aM hkk
        clear hkk hq HKK
        refine pure_ (i := 13) (N := some 57) (v := ?_) (a' := ?_) #[true, true, true, true, true, true, true, true, true, true, true, true, true, true] rfl rfl (any_of HT_.out (by kernel_rfl)) (fun _ _ _ h => h) (Or.inl ⟨by rfl, ?_⟩) ?_ ?_
        rotate_left
        ·intro w'
         go_simp
         with_reducible rfl
        rotate_left
        ·simp only [Act.put, sA, sZ, sS, i64_w, i32_w]
         rfl
        refine done_ (done_of HT_.out (by kernel_rfl)) ?_
        go_wp2
        go_roundg (f + 1)
        case measure => omega
        case rel => exact ⟨k + 1, by rw [WI.out], J7, ⟨by have := HK.out.1; omega, HQ.out⟩⟩
       ·have hqb : (kp != kt) = true := bne_iff_ne.mpr hq
        rw [if_neg hq] at hkk
        have HQ := aM hkk
        clear hkk hq HKK
        refine pure_ (i := 13) (N := some 57) (v := ?_) (a' := ?_) #[true, true, true, true, true, true, true, true, true, true, true, true, true, true] rfl rfl (any_of HT_.out (by kernel_rfl)) (fun _ _ _ h => h) (Or.inl ⟨by rfl, ?_⟩) ?_ ?_
        rotate_left
        ·intro w'
         go_simp
         with_reducible rfl
        rotate_left
        ·simp only [Act.put, sA, sZ, sS, i64_w, i32_w]
         rfl
        refine done_ (done_of HT_.out (by kernel_rfl)) ?_
        go_wp2
        go_ret
        exact ⟨by rw [HQ.out]; rfl, J7.out.1⟩
      ·have c5b : decide ((k : Int) < (text.length : Int)) = false := decide_eq_false (by omega)
       have c5c : decide (k < text.length) = false := decide_eq_false c5
       have EE := aM (show find_fits.f text p true true i = true from by have h1 := HK.out.1; have h2 := HK.out.2; rw [h2, show gk - 1 = 0 by omega]; rfl)
       clear c5
       go_wp2
       go_ret
       exact ⟨by rw [EE.out]; rfl, HJ.out.1⟩
 |false =>
   unfold find_looked.key find_looked.edge
   rw [if_neg (by decide), if_pos rfl]
   have z := blk_new w (.cells #[.slice A text.length c, .func (.func 31) #[] #[], .func (.func 34) #[] #[]] 56)
   have Z := aM z
   have HB := aM (lA (Below.refl w.heap.size w) (.cells #[.slice A text.length c, .func (.func 31) #[] #[], .func (.func 34) #[] #[]] 56))
   have HT1 := aM (Kd.C_alloc HT.out (.cells #[.slice A text.length c, .func (.func 31) #[] #[], .func (.func 34) #[] #[]] 56))
   have HP1 := aM (Kd.C_alloc HP.out (.cells #[.slice A text.length c, .func (.func 31) #[] #[], .func (.func 34) #[] #[]] 56))
   clear z HT HP
   obtain ⟨en, hen⟩ : ∃ e, e = i + (text.length : Int) := ⟨_, rfl⟩
   have hw : wrap64 (i + (text.length : Int)) = en := by have := HI.out; rw [hen]; unfold wrap64; omega
   have hw2 : wrap64 (i - 1) = i - 1 := by have := HI.out; unfold wrap64; omega
   have HE := aM hen
   clear hen
   go_enter Tryd.func20, Tryd.ntmps20
   go_upto_region 1 with (fail)
   generalize w.alloc (.cells #[.slice A text.length c, .func (.func 31) #[] #[], .func (.func 34) #[] #[]] 56) = W1 at *
   have c0 : W1.cell? ⟨w.heap.size, 0, none⟩ = some (.slice A text.length c) := (blk_cell Z.out 0).trans rfl
   have c2 : W1.cell? ⟨w.heap.size, 2, none⟩ = some (.func (.func 34) #[] #[]) := (blk_cell Z.out 2).trans rfl
   go_upto_region 2 with (fail)
   rw [hw]
   clear hw
   have HW2 := aM hw2
   by_cases h1 : (p.length : Int) < en
   ·have h1b : decide ((p.length : Int) < en) = true := decide_eq_true h1
    have E := aM (show find_fits.f text p false true i = false from by unfold find_fits.f; rw [← HE.out, decide_eq_false (by omega)]; rfl)
    clear h1 hw2
    go_wp2
    go_ret
    exact ⟨by rw [E.out]; rfl, HB.out⟩
   have h1b : decide ((p.length : Int) < en) = false := decide_eq_false h1
   have H1 := aM (show en ≤ (p.length : Int) by omega)
   clear h1
   go_wp2_with fail
   refine (find_fits.edge_calls B d p _ _ HP1.out).mono ?_
   rintro e W2 ⟨rfl, hb⟩
   have HB2 := aM (below_step HB.out hb)
   have Z2 := aM (blk_below Z.out hb)
   have HT2 := aM (Kd.C_below HT1.out hb)
   have HP2 := aM (Kd.C_below HP1.out hb)
   clear hb hw2 c0 c2 Z HT1 HP1 HB
   have c2 : W2.cell? ⟨w.heap.size, 2, none⟩ = some (.func (.func 34) #[] #[]) := (blk_cell Z2.out 2).trans rfl
   rw [HW2.out]
   obtain ⟨b1, hb1⟩ : ∃ b, b = find_fits.edge true p (i - 1) := ⟨_, rfl⟩
   rw [← hb1]
   cases b1 with
  |false =>
    have E := aM (show find_fits.f text p false true i = false from by unfold find_fits.f; rw [← hb1, Bool.false_and, Bool.and_false])
    clear hb1
    go_wp2
    go_ret
    exact ⟨by rw [E.out]; rfl, HB2.out⟩
  |true =>
    have E1 := aM hb1
    clear hb1
    go_wp2_with fail
    refine (find_fits.edge_calls B d p _ _ HP2.out).mono ?_
    rintro e W3 ⟨rfl, hb⟩
    have HB3 := aM (below_step HB2.out hb)
    have Z3 := aM (blk_below Z2.out hb)
    have HT3 := aM (Kd.C_below HT2.out hb)
    have HP3 := aM (Kd.C_below HP2.out hb)
    clear hb c2 Z2 HT2 HP2 HB2
    obtain ⟨b2, hb2⟩ : ∃ b, b = find_fits.edge true p en := ⟨_, rfl⟩
    rw [← hb2]
    cases b2 with
   |false =>
     have E := aM (show find_fits.f text p false true i = false from by unfold find_fits.f; rw [← HE.out, ← hb2, Bool.false_and, Bool.and_false, Bool.and_false])
     clear hb2
     go_wp2
     go_ret
     exact ⟨by rw [E.out]; rfl, HB3.out⟩
   |true =>
     have c0 : W3.cell? ⟨w.heap.size, 0, none⟩ = some (.slice A text.length c) := (blk_cell Z3.out 0).trans rfl
     have E := aM (show find_fits.f text p false true i = find_fits.all text p false i text.length 0 from by unfold find_fits.f; rw [← HE.out, ← hb2, ← E1.out, decide_eq_true H1.out]; rfl)
     have I0 := aM (And.intro HB3.out (And.intro Z3.out (And.intro HT3.out HP3.out)))
     clear hb2 E1 HB3 Z3 HT3 HP3 HW2
     go_wp2
     go_loopg [8, 9, 39] (text.length + 1) (fun kq v8 v9 v39 wr => ∃ (k : Nat), v39 = .int .i64 (k : Int) ∧ Aside0 (Below w.heap.size w wr ∧ wr.heap[w.heap.size]? = some (Obj.cells #[.slice A text.length c, .func (.func 31) #[] #[], .func (.func 34) #[] #[]] 56 (0, 0)) ∧ Kd.C (Kd.int .i64) wr A text.length text ∧ Kd.C (Kd.int .i64) wr B p.length p) ∧ Aside0 (text.length + 1 = k + kq ∧ find_fits.f text p false true i = find_fits.all text p false i (kq - 1) k))
     case atStart => exact ⟨0, rfl, I0, ⟨by omega, E.out⟩⟩
     case round =>
      clear I0 E c0
      obtain ⟨k, rfl, HJ, HK⟩ := hrel
      by_cases c5 : k < text.length
      ·have c5b : decide ((k : Int) < (text.length : Int)) = true := decide_eq_true (by omega)
       have c5c : decide (k < text.length) = true := decide_eq_true c5
       obtain ⟨f, rfl⟩ : ∃ f, gk = f + 2 := ⟨gk - 2, by have := HK.out.1; omega⟩
       have hk := HK.out.2
       rw [show f + 2 - 1 = f + 1 from rfl, find_fits.all] at hk
       obtain ⟨ad, eA, e0⟩ := Kd.at_int HJ.out.2.2.1 (k : Int) (by omega) (by omega)
       obtain ⟨bd, eB, d0⟩ := Kd.at_int HJ.out.2.2.2 (i + (k : Int)) (by have := HI.out; omega) (by have := H1.out; have := HE.out; omega)
       subst eA
       subst eB
       rw [Int.toNat_natCast] at e0
       have c1 : wr.cell? ⟨w.heap.size, 1, none⟩ = some (.func (.func 31) #[] #[]) := (blk_cell HJ.out.2.1 1).trans rfl
       have k0 := eq_true (show (0 : Int) ≤ (k : Int) by omega)
       have k1 := eq_true (show (k : Int) < (text.length : Int) by omega)
       obtain ⟨ik, hik⟩ : ∃ x, x = i + (k : Int) := ⟨_, rfl⟩
       have hw : wrap64 (i + (k : Int)) = ik := by have := HI.out; rw [hik]; unfold wrap64; omega
       have q0 := eq_true (show 0 ≤ ik by have := HI.out; omega)
       have q1 := eq_true (show ik < (p.length : Int) by have := H1.out; have := HE.out; omega)
       rw [← hik] at d0 hk
       have WI := aM (show wrap64 ((k : Int) + 1) = ((k + 1 : Nat) : Int) from by have := HI.out; unfold wrap64; omega)
       obtain ⟨tc, htc⟩ : ∃ x, x = rd text (k : Int) := ⟨_, rfl⟩
       obtain ⟨pc, hpc⟩ : ∃ x, x = rd p ik := ⟨_, rfl⟩
       rw [← htc] at e0 hk
       rw [← hpc] at d0 hk
       have HKK := aM hk
       have C5 := aM c5
       clear htc hpc hk c5 hik
       go_upto_region 7 with (fail)
       refine start_ (n := 14) (S := fun w' => w'.cell? ⟨w.heap.size, 1, none⟩ = some (.func (.func 31) #[] #[]) ∧ w'.cell? (bd.add ik.toNat) = some (.int .i64 pc)) (ds := []) #[false, false, false, false, false, false, false, false, false, false, false, false, false, false] (by kernel_rfl) rfl rfl ⟨c1, d0⟩ (fun hHeld => ?_)
       refine with_tabW find_fits.tab7 find_fits.bits7 (fun HT_ HW_ => ?_)
       have J5 := aM (And.intro (Below.drew HJ.out.1) (And.intro (bD HJ.out.2.1) (And.intro (Kd.C_drew HJ.out.2.2.1) (Kd.C_drew HJ.out.2.2.2))))
       clear HJ c1 d0 e0
       generalize wr.drew = w5 at *
       refine pure_ (i := 0) (N := some 44) (v := ?_) (a' := ?_) #[true, false, false, false, false, false, false, false, false, false, false, false, false, false] rfl rfl (any_of HT_.out (by kernel_rfl)) (fun _ _ _ h => h) (Or.inl ⟨by rfl, ?_⟩) ?_ ?_
       rotate_left
       ·intro w'
        go_simp
        with_reducible rfl
       rotate_left
       ·simp only [Act.put, sA, sZ, sS, i64_w, i32_w]
        rfl
       refine take_ (i := 1) (N := some 45) (v := ?_) (a' := ?_) #[true, true, false, false, false, false, false, false, false, false, false, false, false, false] rfl rfl (take_ofW HT_.out HW_.out (by kernel_rfl)) (fun _ _ _ h => h) (Or.inl ⟨by rfl, ?_⟩) hHeld ?_ ?_
       rotate_left
       ·rintro w' ⟨s0, s1⟩
        go_simp
        with_reducible rfl
       rotate_left
       ·simp only [Act.put, sA, sZ, sS, i64_w, i32_w]
        rfl
       refine pure_ (i := 2) (N := some 46) (v := ?_) (a' := ?_) #[true, true, true, false, false, false, false, false, false, false, false, false, false, false] rfl rfl (any_of HT_.out (by kernel_rfl)) (fun _ _ _ h => h) (Or.inl ⟨by rfl, ?_⟩) ?_ ?_
       rotate_left
       ·intro w'
        go_simp
        with_reducible rfl
       rotate_left
       ·simp only [Act.put, sA, sZ, sS, i64_w, i32_w]
        rfl
       refine pure_ (i := 3) (N := some 47) (v := ?_) (a' := ?_) #[true, true, true, true, false, false, false, false, false, false, false, false, false, false] rfl rfl (any_of HT_.out (by kernel_rfl)) (fun _ _ _ h => h) (Or.inl ⟨by rfl, ?_⟩) ?_ ?_
       rotate_left
       ·intro w'
        go_simp
        with_reducible rfl
       rotate_left
       ·simp only [Act.put, sA, sZ, sS, i64_w, i32_w]
        rfl
       refine pure_ (i := 4) (N := some 48) (v := ?_) (a' := ?_) #[true, true, true, true, true, false, false, false, false, false, false, false, false, false] rfl rfl (any_of HT_.out (by kernel_rfl)) (fun _ _ _ h => h) (Or.inl ⟨by rfl, ?_⟩) ?_ ?_
       rotate_left
       ·intro w'
        go_simp
        with_reducible rfl
       rotate_left
       ·simp only [Act.put, sA, sZ, sS, i64_w, i32_w]
        rfl
       refine pure_ (i := 5) (N := some 49) (v := ?_) (a' := ?_) #[true, true, true, true, true, true, false, false, false, false, false, false, false, false] rfl rfl (any_of HT_.out (by kernel_rfl)) (fun _ _ _ h => h) (Or.inl ⟨by rfl, ?_⟩) ?_ ?_
       rotate_left
       ·intro w'
        go_simp
        with_reducible rfl
       rotate_left
       ·simp only [Act.put, sA, sZ, sS, i64_w, i32_w]
        rfl
       rw [hw]
       refine pure_ (i := 6) (N := some 50) (v := ?_) (a' := ?_) #[true, true, true, true, true, true, true, false, false, false, false, false, false, false] rfl rfl (any_of HT_.out (by kernel_rfl)) (fun _ _ _ h => h) (Or.inl ⟨by rfl, ?_⟩) ?_ ?_
       rotate_left
       ·intro w'
        go_simp
        with_reducible rfl
       rotate_left
       ·simp only [Act.put, sA, sZ, sS, i64_w, i32_w]
        rfl
       refine take_ (i := 7) (N := some 51) (v := ?_) (a' := ?_) #[true, true, true, true, true, true, true, true, false, false, false, false, false, false] rfl rfl (take_ofW HT_.out HW_.out (by kernel_rfl)) (fun _ _ _ h => h) (Or.inl ⟨by rfl, ?_⟩) hHeld ?_ ?_
       rotate_left
       ·rintro w' ⟨s0, s1⟩
        go_simp
        with_reducible rfl
       rotate_left
       ·simp only [Act.put, sA, sZ, sS, i64_w, i32_w]
        rfl
       refine pure_ (i := 9) (N := some 53) (v := ?_) (a' := ?_) #[true, true, true, true, true, true, true, true, false, true, false, false, false, false] rfl rfl (any_of HT_.out (by kernel_rfl)) (fun _ _ _ h => h) (Or.inl ⟨by rfl, ?_⟩) ?_ ?_
       rotate_left
       ·intro w'
        go_simp
        with_reducible rfl
       rotate_left
       ·simp only [Act.put, sA, sZ, sS, i64_w, i32_w]
        rfl
       refine take_ (i := 10) (N := some 54) (v := ?_) (a' := ?_) #[true, true, true, true, true, true, true, true, false, true, true, false, false, false] rfl rfl (take_ofW HT_.out HW_.out (by kernel_rfl)) (fun _ _ _ h => h) (Or.inl ⟨by rfl, ?_⟩) hHeld ?_ ?_
       rotate_left
       ·rintro w' ⟨s0, s1⟩
        go_simp
        with_reducible rfl
       rotate_left
       ·simp only [Act.put, sA, sZ, sS, i64_w, i32_w]
        rfl
       refine pure_ (i := 11) (N := some 55) (v := ?_) (a' := ?_) #[true, true, true, true, true, true, true, true, false, true, true, true, false, false] rfl rfl (any_of HT_.out (by kernel_rfl)) (fun _ _ _ h => h) (Or.inl ⟨by rfl, ?_⟩) ?_ ?_
       rotate_left
       ·intro w'
        go_simp
        with_reducible rfl
       rotate_left
       ·simp only [Act.put, sA, sZ, sS, i64_w, i32_w]
        rfl
       refine one_ (i := 8) (N := some 52) #[true, true, true, true, true, true, true, true, true, true, true, true, false, false] rfl rfl (one_of HT_.out (by kernel_rfl)) (by decide) (fun K hK => ?_)
       refine find_fits.goesR Tryd.func31 (by kernel_rfl) rfl #[.int .i64 pc] (by rfl) rfl rfl rfl (by simp only [List.map_toArray, List.map_cons, List.map_nil]; rfl) ?_
       refine (find_fits.key_calls pc _).mono ?_
       rintro e w6 ⟨rfl, hb⟩
       refine ⟨_, rfl, ?_⟩
       have J6 := aM (And.intro (below_step J5.out.1 hb) (And.intro (blk_below J5.out.2.1 hb) (And.intro (Kd.C_below J5.out.2.2.1 hb) (Kd.C_below J5.out.2.2.2 hb))))
       have keep : ∀ (ad : Addr) (u : Value), w5.cell? ad = some u → w6.cell? ad = some u := fun ad u s => (hb.cell (World.block_lt_of_cell? w5 _ s)).trans s
       refine hK.out _ _ ⟨keep _ _ hHeld.1, keep _ _ hHeld.2⟩ (fun hHeld => ?_)
       clear hK K keep hb J5
       refine norm_ (a' := ?_) ?_ ?_
       rotate_left
       ·show Act.put _ (some 52) _ = _
        simp only [Act.put, sA, sZ, sS, i64_w, i32_w]
        rfl
       refine one_ (i := 12) (N := some 56) #[true, true, true, true, true, true, true, true, true, true, true, true, true, false] rfl rfl (one_of HT_.out (by kernel_rfl)) (by decide) (fun K hK => ?_)
       refine find_fits.goesR Tryd.func31 (by kernel_rfl) rfl #[.int .i64 tc] (by rfl) rfl rfl rfl (by simp only [List.map_toArray, List.map_cons, List.map_nil]; rfl) ?_
       refine (find_fits.key_calls tc _).mono ?_
       rintro e w7 ⟨rfl, hb⟩
       refine ⟨_, rfl, ?_⟩
       have J7 := aM (And.intro (below_step J6.out.1 hb) (And.intro (blk_below J6.out.2.1 hb) (And.intro (Kd.C_below J6.out.2.2.1 hb) (Kd.C_below J6.out.2.2.2 hb))))
       have keep : ∀ (ad : Addr) (u : Value), w6.cell? ad = some u → w7.cell? ad = some u := fun ad u s => (hb.cell (World.block_lt_of_cell? w6 _ s)).trans s
       refine hK.out _ _ ⟨keep _ _ hHeld.1, keep _ _ hHeld.2⟩ (fun hHeld => ?_)
       clear hK K keep hb J6
       refine norm_ (a' := ?_) ?_ ?_
       rotate_left
       ·show Act.put _ (some 56) _ = _
        simp only [Act.put, sA, sZ, sS, i64_w, i32_w]
        rfl
       have hkk := HKK.out
       generalize find_fits.key false pc = kp at *
       generalize find_fits.key false tc = kt at *
       by_cases hq : kp = kt
       ·have hqb : (kp != kt) = false := bne_eq_false_iff_eq.mpr hq
        rw [if_pos hq] at hkk
        have HQ := aM hkk
        clear hkk hq HKK
        refine pure_ (i := 13) (N := some 57) (v := ?_) (a' := ?_) #[true, true, true, true, true, true, true, true, true, true, true, true, true, true] rfl rfl (any_of HT_.out (by kernel_rfl)) (fun _ _ _ h => h) (Or.inl ⟨by rfl, ?_⟩) ?_ ?_
        rotate_left
        ·intro w'
         go_simp
         with_reducible rfl
        rotate_left
        ·simp only [Act.put, sA, sZ, sS, i64_w, i32_w]
         rfl
        refine done_ (done_of HT_.out (by kernel_rfl)) ?_
        go_wp2
        go_roundg (f + 1)
        case measure => omega
        case rel => exact ⟨k + 1, by rw [WI.out], J7, ⟨by have := HK.out.1; omega, HQ.out⟩⟩
       ·have hqb : (kp != kt) = true := bne_iff_ne.mpr hq
        rw [if_neg hq] at hkk
        have HQ := aM hkk
        clear hkk hq HKK
        refine pure_ (i := 13) (N := some 57) (v := ?_) (a' := ?_) #[true, true, true, true, true, true, true, true, true, true, true, true, true, true] rfl rfl (any_of HT_.out (by kernel_rfl)) (fun _ _ _ h => h) (Or.inl ⟨by rfl, ?_⟩) ?_ ?_
        rotate_left
        ·intro w'
         go_simp
         with_reducible rfl
        rotate_left
        ·simp only [Act.put, sA, sZ, sS, i64_w, i32_w]
         rfl
        refine done_ (done_of HT_.out (by kernel_rfl)) ?_
        go_wp2
        go_ret
        exact ⟨by rw [HQ.out]; rfl, J7.out.1⟩
      ·have c5b : decide ((k : Int) < (text.length : Int)) = false := decide_eq_false (by omega)
       have c5c : decide (k < text.length) = false := decide_eq_false c5
       have EE := aM (show find_fits.f text p false true i = true from by have h1 := HK.out.1; have h2 := HK.out.2; rw [h2, show gk - 1 = 0 by omega]; rfl)
       clear c5
       go_wp2
       go_ret
       exact ⟨by rw [EE.out]; rfl, HJ.out.1⟩
|false =>
  cases fold with
 |true =>
   unfold find_looked.key find_looked.edge
   rw [if_pos rfl, if_neg (by decide)]
   have z := blk_new w (.cells #[.slice A text.length c, .func (.func 33) #[] #[], .func (.func 32) #[] #[]] 56)
   have Z := aM z
   have HB := aM (lA (Below.refl w.heap.size w) (.cells #[.slice A text.length c, .func (.func 33) #[] #[], .func (.func 32) #[] #[]] 56))
   have HT1 := aM (Kd.C_alloc HT.out (.cells #[.slice A text.length c, .func (.func 33) #[] #[], .func (.func 32) #[] #[]] 56))
   have HP1 := aM (Kd.C_alloc HP.out (.cells #[.slice A text.length c, .func (.func 33) #[] #[], .func (.func 32) #[] #[]] 56))
   clear z HT HP
   obtain ⟨en, hen⟩ : ∃ e, e = i + (text.length : Int) := ⟨_, rfl⟩
   have hw : wrap64 (i + (text.length : Int)) = en := by have := HI.out; rw [hen]; unfold wrap64; omega
   have hw2 : wrap64 (i - 1) = i - 1 := by have := HI.out; unfold wrap64; omega
   have HE := aM hen
   clear hen
   go_enter Tryd.func20, Tryd.ntmps20
   go_upto_region 1 with (fail)
   generalize w.alloc (.cells #[.slice A text.length c, .func (.func 33) #[] #[], .func (.func 32) #[] #[]] 56) = W1 at *
   have c0 : W1.cell? ⟨w.heap.size, 0, none⟩ = some (.slice A text.length c) := (blk_cell Z.out 0).trans rfl
   have c2 : W1.cell? ⟨w.heap.size, 2, none⟩ = some (.func (.func 32) #[] #[]) := (blk_cell Z.out 2).trans rfl
   go_upto_region 2 with (fail)
   rw [hw]
   clear hw
   have HW2 := aM hw2
   by_cases h1 : (p.length : Int) < en
   ·have h1b : decide ((p.length : Int) < en) = true := decide_eq_true h1
    have E := aM (show find_fits.f text p true false i = false from by unfold find_fits.f; rw [← HE.out, decide_eq_false (by omega)]; rfl)
    clear h1 hw2
    go_wp2
    go_ret
    exact ⟨by rw [E.out]; rfl, HB.out⟩
   have h1b : decide ((p.length : Int) < en) = false := decide_eq_false h1
   have H1 := aM (show en ≤ (p.length : Int) by omega)
   clear h1
   go_wp2_with fail
   refine (find_fits.free_calls B p.length d _ _).mono ?_
   rintro e W2 ⟨rfl, hb⟩
   have HB2 := aM (below_step HB.out hb)
   have Z2 := aM (blk_below Z.out hb)
   have HT2 := aM (Kd.C_below HT1.out hb)
   have HP2 := aM (Kd.C_below HP1.out hb)
   clear hb hw2 c0 c2 Z HT1 HP1 HB
   have c2 : W2.cell? ⟨w.heap.size, 2, none⟩ = some (.func (.func 32) #[] #[]) := (blk_cell Z2.out 2).trans rfl
   have hb1 : true = find_fits.edge false p (i - 1) := rfl
   have E1 := aM hb1
   clear hb1
   go_wp2_with fail
   refine (find_fits.free_calls B p.length d _ _).mono ?_
   rintro e W3 ⟨rfl, hb⟩
   have HB3 := aM (below_step HB2.out hb)
   have Z3 := aM (blk_below Z2.out hb)
   have HT3 := aM (Kd.C_below HT2.out hb)
   have HP3 := aM (Kd.C_below HP2.out hb)
   clear hb c2 Z2 HT2 HP2 HB2
   have hb2 : true = find_fits.edge false p en := rfl
   have c0 : W3.cell? ⟨w.heap.size, 0, none⟩ = some (.slice A text.length c) := (blk_cell Z3.out 0).trans rfl
   have E := aM (show find_fits.f text p true false i = find_fits.all text p true i text.length 0 from by unfold find_fits.f; rw [← HE.out, ← hb2, ← E1.out, decide_eq_true H1.out]; rfl)
   have I0 := aM (And.intro HB3.out (And.intro Z3.out (And.intro HT3.out HP3.out)))
   clear hb2 E1 HB3 Z3 HT3 HP3 HW2
   go_wp2
   go_loopg [8, 9, 39] (text.length + 1) (fun kq v8 v9 v39 wr => ∃ (k : Nat), v39 = .int .i64 (k : Int) ∧ Aside0 (Below w.heap.size w wr ∧ wr.heap[w.heap.size]? = some (Obj.cells #[.slice A text.length c, .func (.func 33) #[] #[], .func (.func 32) #[] #[]] 56 (0, 0)) ∧ Kd.C (Kd.int .i64) wr A text.length text ∧ Kd.C (Kd.int .i64) wr B p.length p) ∧ Aside0 (text.length + 1 = k + kq ∧ find_fits.f text p true false i = find_fits.all text p true i (kq - 1) k))
   case atStart => exact ⟨0, rfl, I0, ⟨by omega, E.out⟩⟩
   case round =>
    clear I0 E c0
    obtain ⟨k, rfl, HJ, HK⟩ := hrel
    by_cases c5 : k < text.length
    ·have c5b : decide ((k : Int) < (text.length : Int)) = true := decide_eq_true (by omega)
     have c5c : decide (k < text.length) = true := decide_eq_true c5
     obtain ⟨f, rfl⟩ : ∃ f, gk = f + 2 := ⟨gk - 2, by have := HK.out.1; omega⟩
     have hk := HK.out.2
     rw [show f + 2 - 1 = f + 1 from rfl, find_fits.all] at hk
     obtain ⟨ad, eA, e0⟩ := Kd.at_int HJ.out.2.2.1 (k : Int) (by omega) (by omega)
     obtain ⟨bd, eB, d0⟩ := Kd.at_int HJ.out.2.2.2 (i + (k : Int)) (by have := HI.out; omega) (by have := H1.out; have := HE.out; omega)
     subst eA
     subst eB
     rw [Int.toNat_natCast] at e0
     have c1 : wr.cell? ⟨w.heap.size, 1, none⟩ = some (.func (.func 33) #[] #[]) := (blk_cell HJ.out.2.1 1).trans rfl
     have k0 := eq_true (show (0 : Int) ≤ (k : Int) by omega)
     have k1 := eq_true (show (k : Int) < (text.length : Int) by omega)
     obtain ⟨ik, hik⟩ : ∃ x, x = i + (k : Int) := ⟨_, rfl⟩
     have hw : wrap64 (i + (k : Int)) = ik := by have := HI.out; rw [hik]; unfold wrap64; omega
     have q0 := eq_true (show 0 ≤ ik by have := HI.out; omega)
     have q1 := eq_true (show ik < (p.length : Int) by have := H1.out; have := HE.out; omega)
     rw [← hik] at d0 hk
     have WI := aM (show wrap64 ((k : Int) + 1) = ((k + 1 : Nat) : Int) from by have := HI.out; unfold wrap64; omega)
     obtain ⟨tc, htc⟩ : ∃ x, x = rd text (k : Int) := ⟨_, rfl⟩
     obtain ⟨pc, hpc⟩ : ∃ x, x = rd p ik := ⟨_, rfl⟩
     rw [← htc] at e0 hk
     rw [← hpc] at d0 hk
     have HKK := aM hk
     have C5 := aM c5
     clear htc hpc hk c5 hik
     go_upto_region 7 with (fail)
     refine start_ (n := 14) (S := fun w' => w'.cell? ⟨w.heap.size, 1, none⟩ = some (.func (.func 33) #[] #[]) ∧ w'.cell? (bd.add ik.toNat) = some (.int .i64 pc)) (ds := []) #[false, false, false, false, false, false, false, false, false, false, false, false, false, false] (by kernel_rfl) rfl rfl ⟨c1, d0⟩ (fun hHeld => ?_)
     refine with_tabW find_fits.tab7 find_fits.bits7 (fun HT_ HW_ => ?_)
     have J5 := aM (And.intro (Below.drew HJ.out.1) (And.intro (bD HJ.out.2.1) (And.intro (Kd.C_drew HJ.out.2.2.1) (Kd.C_drew HJ.out.2.2.2))))
     clear HJ c1 d0 e0
     generalize wr.drew = w5 at *
     refine pure_ (i := 0) (N := some 44) (v := ?_) (a' := ?_) #[true, false, false, false, false, false, false, false, false, false, false, false, false, false] rfl rfl (any_of HT_.out (by kernel_rfl)) (fun _ _ _ h => h) (Or.inl ⟨by rfl, ?_⟩) ?_ ?_
     rotate_left
     ·intro w'
      go_simp
      with_reducible rfl
     rotate_left
     ·simp only [Act.put, sA, sZ, sS, i64_w, i32_w]
      rfl
     refine take_ (i := 1) (N := some 45) (v := ?_) (a' := ?_) #[true, true, false, false, false, false, false, false, false, false, false, false, false, false] rfl rfl (take_ofW HT_.out HW_.out (by kernel_rfl)) (fun _ _ _ h => h) (Or.inl ⟨by rfl, ?_⟩) hHeld ?_ ?_
     rotate_left
     ·rintro w' ⟨s0, s1⟩
      go_simp
      with_reducible rfl
     rotate_left
     ·simp only [Act.put, sA, sZ, sS, i64_w, i32_w]
      rfl
     refine pure_ (i := 2) (N := some 46) (v := ?_) (a' := ?_) #[true, true, true, false, false, false, false, false, false, false, false, false, false, false] rfl rfl (any_of HT_.out (by kernel_rfl)) (fun _ _ _ h => h) (Or.inl ⟨by rfl, ?_⟩) ?_ ?_
     rotate_left
     ·intro w'
      go_simp
      with_reducible rfl
     rotate_left
     ·simp only [Act.put, sA, sZ, sS, i64_w, i32_w]
      rfl
     refine pure_ (i := 3) (N := some 47) (v := ?_) (a' := ?_) #[true, true, true, true, false, false, false, false, false, false, false, false, false, false] rfl rfl (any_of HT_.out (by kernel_rfl)) (fun _ _ _ h => h) (Or.inl ⟨by rfl, ?_⟩) ?_ ?_
     rotate_left
     ·intro w'
      go_simp
      with_reducible rfl
     rotate_left
     ·simp only [Act.put, sA, sZ, sS, i64_w, i32_w]
      rfl
     refine pure_ (i := 4) (N := some 48) (v := ?_) (a' := ?_) #[true, true, true, true, true, false, false, false, false, false, false, false, false, false] rfl rfl (any_of HT_.out (by kernel_rfl)) (fun _ _ _ h => h) (Or.inl ⟨by rfl, ?_⟩) ?_ ?_
     rotate_left
     ·intro w'
      go_simp
      with_reducible rfl
     rotate_left
     ·simp only [Act.put, sA, sZ, sS, i64_w, i32_w]
      rfl
     refine pure_ (i := 5) (N := some 49) (v := ?_) (a' := ?_) #[true, true, true, true, true, true, false, false, false, false, false, false, false, false] rfl rfl (any_of HT_.out (by kernel_rfl)) (fun _ _ _ h => h) (Or.inl ⟨by rfl, ?_⟩) ?_ ?_
     rotate_left
     ·intro w'
      go_simp
      with_reducible rfl
     rotate_left
     ·simp only [Act.put, sA, sZ, sS, i64_w, i32_w]
      rfl
     rw [hw]
     refine pure_ (i := 6) (N := some 50) (v := ?_) (a' := ?_) #[true, true, true, true, true, true, true, false, false, false, false, false, false, false] rfl rfl (any_of HT_.out (by kernel_rfl)) (fun _ _ _ h => h) (Or.inl ⟨by rfl, ?_⟩) ?_ ?_
     rotate_left
     ·intro w'
      go_simp
      with_reducible rfl
     rotate_left
     ·simp only [Act.put, sA, sZ, sS, i64_w, i32_w]
      rfl
     refine take_ (i := 7) (N := some 51) (v := ?_) (a' := ?_) #[true, true, true, true, true, true, true, true, false, false, false, false, false, false] rfl rfl (take_ofW HT_.out HW_.out (by kernel_rfl)) (fun _ _ _ h => h) (Or.inl ⟨by rfl, ?_⟩) hHeld ?_ ?_
     rotate_left
     ·rintro w' ⟨s0, s1⟩
      go_simp
      with_reducible rfl
     rotate_left
     ·simp only [Act.put, sA, sZ, sS, i64_w, i32_w]
      rfl
     refine pure_ (i := 9) (N := some 53) (v := ?_) (a' := ?_) #[true, true, true, true, true, true, true, true, false, true, false, false, false, false] rfl rfl (any_of HT_.out (by kernel_rfl)) (fun _ _ _ h => h) (Or.inl ⟨by rfl, ?_⟩) ?_ ?_
     rotate_left
     ·intro w'
      go_simp
      with_reducible rfl
     rotate_left
     ·simp only [Act.put, sA, sZ, sS, i64_w, i32_w]
      rfl
     refine take_ (i := 10) (N := some 54) (v := ?_) (a' := ?_) #[true, true, true, true, true, true, true, true, false, true, true, false, false, false] rfl rfl (take_ofW HT_.out HW_.out (by kernel_rfl)) (fun _ _ _ h => h) (Or.inl ⟨by rfl, ?_⟩) hHeld ?_ ?_
     rotate_left
     ·rintro w' ⟨s0, s1⟩
      go_simp
      with_reducible rfl
     rotate_left
     ·simp only [Act.put, sA, sZ, sS, i64_w, i32_w]
      rfl
     refine pure_ (i := 11) (N := some 55) (v := ?_) (a' := ?_) #[true, true, true, true, true, true, true, true, false, true, true, true, false, false] rfl rfl (any_of HT_.out (by kernel_rfl)) (fun _ _ _ h => h) (Or.inl ⟨by rfl, ?_⟩) ?_ ?_
     rotate_left
     ·intro w'
      go_simp
      with_reducible rfl
     rotate_left
     ·simp only [Act.put, sA, sZ, sS, i64_w, i32_w]
      rfl
     refine one_ (i := 8) (N := some 52) #[true, true, true, true, true, true, true, true, true, true, true, true, false, false] rfl rfl (one_of HT_.out (by kernel_rfl)) (by decide) (fun K hK => ?_)
     refine find_fits.goesR Tryd.func33 (by kernel_rfl) rfl #[.int .i64 pc] (by rfl) rfl rfl rfl (by simp only [List.map_toArray, List.map_cons, List.map_nil]; rfl) ?_
     refine (find_fits.low_calls pc _).mono ?_
     rintro e w6 ⟨rfl, hb⟩
     refine ⟨_, rfl, ?_⟩
     have J6 := aM (And.intro (below_step J5.out.1 hb) (And.intro (blk_below J5.out.2.1 hb) (And.intro (Kd.C_below J5.out.2.2.1 hb) (Kd.C_below J5.out.2.2.2 hb))))
     have keep : ∀ (ad : Addr) (u : Value), w5.cell? ad = some u → w6.cell? ad = some u := fun ad u s => (hb.cell (World.block_lt_of_cell? w5 _ s)).trans s
     refine hK.out _ _ ⟨keep _ _ hHeld.1, keep _ _ hHeld.2⟩ (fun hHeld => ?_)
     clear hK K keep hb J5
     refine norm_ (a' := ?_) ?_ ?_
     rotate_left
     ·show Act.put _ (some 52) _ = _
      simp only [Act.put, sA, sZ, sS, i64_w, i32_w]
      rfl
     refine one_ (i := 12) (N := some 56) #[true, true, true, true, true, true, true, true, true, true, true, true, true, false] rfl rfl (one_of HT_.out (by kernel_rfl)) (by decide) (fun K hK => ?_)
     refine find_fits.goesR Tryd.func33 (by kernel_rfl) rfl #[.int .i64 tc] (by rfl) rfl rfl rfl (by simp only [List.map_toArray, List.map_cons, List.map_nil]; rfl) ?_
     refine (find_fits.low_calls tc _).mono ?_
     rintro e w7 ⟨rfl, hb⟩
     refine ⟨_, rfl, ?_⟩
     have J7 := aM (And.intro (below_step J6.out.1 hb) (And.intro (blk_below J6.out.2.1 hb) (And.intro (Kd.C_below J6.out.2.2.1 hb) (Kd.C_below J6.out.2.2.2 hb))))
     have keep : ∀ (ad : Addr) (u : Value), w6.cell? ad = some u → w7.cell? ad = some u := fun ad u s => (hb.cell (World.block_lt_of_cell? w6 _ s)).trans s
     refine hK.out _ _ ⟨keep _ _ hHeld.1, keep _ _ hHeld.2⟩ (fun hHeld => ?_)
     clear hK K keep hb J6
     refine norm_ (a' := ?_) ?_ ?_
     rotate_left
     ·show Act.put _ (some 56) _ = _
      simp only [Act.put, sA, sZ, sS, i64_w, i32_w]
      rfl
     have hkk := HKK.out
     generalize find_fits.key true pc = kp at *
     generalize find_fits.key true tc = kt at *
     by_cases hq : kp = kt
     ·have hqb : (kp != kt) = false := bne_eq_false_iff_eq.mpr hq
      rw [if_pos hq] at hkk
      have HQ := aM hkk
      clear hkk hq HKK
      refine pure_ (i := 13) (N := some 57) (v := ?_) (a' := ?_) #[true, true, true, true, true, true, true, true, true, true, true, true, true, true] rfl rfl (any_of HT_.out (by kernel_rfl)) (fun _ _ _ h => h) (Or.inl ⟨by rfl, ?_⟩) ?_ ?_
      rotate_left
      ·intro w'
       go_simp
       with_reducible rfl
      rotate_left
      ·simp only [Act.put, sA, sZ, sS, i64_w, i32_w]
       rfl
      refine done_ (done_of HT_.out (by kernel_rfl)) ?_
      go_wp2
      go_roundg (f + 1)
      case measure => omega
      case rel => exact ⟨k + 1, by rw [WI.out], J7, ⟨by have := HK.out.1; omega, HQ.out⟩⟩
     ·have hqb : (kp != kt) = true := bne_iff_ne.mpr hq
      rw [if_neg hq] at hkk
      have HQ := aM hkk
      clear hkk hq HKK
      refine pure_ (i := 13) (N := some 57) (v := ?_) (a' := ?_) #[true, true, true, true, true, true, true, true, true, true, true, true, true, true] rfl rfl (any_of HT_.out (by kernel_rfl)) (fun _ _ _ h => h) (Or.inl ⟨by rfl, ?_⟩) ?_ ?_
      rotate_left
      ·intro w'
       go_simp
       with_reducible rfl
      rotate_left
      ·simp only [Act.put, sA, sZ, sS, i64_w, i32_w]
       rfl
      refine done_ (done_of HT_.out (by kernel_rfl)) ?_
      go_wp2
      go_ret
      exact ⟨by rw [HQ.out]; rfl, J7.out.1⟩
    ·have c5b : decide ((k : Int) < (text.length : Int)) = false := decide_eq_false (by omega)
     have c5c : decide (k < text.length) = false := decide_eq_false c5
     have EE := aM (show find_fits.f text p true false i = true from by have h1 := HK.out.1; have h2 := HK.out.2; rw [h2, show gk - 1 = 0 by omega]; rfl)
     clear c5
     go_wp2
     go_ret
     exact ⟨by rw [EE.out]; rfl, HJ.out.1⟩
 |false =>
   unfold find_looked.key find_looked.edge
   rw [if_neg (by decide), if_neg (by decide)]
   have z := blk_new w (.cells #[.slice A text.length c, .func (.func 31) #[] #[], .func (.func 32) #[] #[]] 56)
   have Z := aM z
   have HB := aM (lA (Below.refl w.heap.size w) (.cells #[.slice A text.length c, .func (.func 31) #[] #[], .func (.func 32) #[] #[]] 56))
   have HT1 := aM (Kd.C_alloc HT.out (.cells #[.slice A text.length c, .func (.func 31) #[] #[], .func (.func 32) #[] #[]] 56))
   have HP1 := aM (Kd.C_alloc HP.out (.cells #[.slice A text.length c, .func (.func 31) #[] #[], .func (.func 32) #[] #[]] 56))
   clear z HT HP
   obtain ⟨en, hen⟩ : ∃ e, e = i + (text.length : Int) := ⟨_, rfl⟩
   have hw : wrap64 (i + (text.length : Int)) = en := by have := HI.out; rw [hen]; unfold wrap64; omega
   have hw2 : wrap64 (i - 1) = i - 1 := by have := HI.out; unfold wrap64; omega
   have HE := aM hen
   clear hen
   go_enter Tryd.func20, Tryd.ntmps20
   go_upto_region 1 with (fail)
   generalize w.alloc (.cells #[.slice A text.length c, .func (.func 31) #[] #[], .func (.func 32) #[] #[]] 56) = W1 at *
   have c0 : W1.cell? ⟨w.heap.size, 0, none⟩ = some (.slice A text.length c) := (blk_cell Z.out 0).trans rfl
   have c2 : W1.cell? ⟨w.heap.size, 2, none⟩ = some (.func (.func 32) #[] #[]) := (blk_cell Z.out 2).trans rfl
   go_upto_region 2 with (fail)
   rw [hw]
   clear hw
   have HW2 := aM hw2
   by_cases h1 : (p.length : Int) < en
   ·have h1b : decide ((p.length : Int) < en) = true := decide_eq_true h1
    have E := aM (show find_fits.f text p false false i = false from by unfold find_fits.f; rw [← HE.out, decide_eq_false (by omega)]; rfl)
    clear h1 hw2
    go_wp2
    go_ret
    exact ⟨by rw [E.out]; rfl, HB.out⟩
   have h1b : decide ((p.length : Int) < en) = false := decide_eq_false h1
   have H1 := aM (show en ≤ (p.length : Int) by omega)
   clear h1
   go_wp2_with fail
   refine (find_fits.free_calls B p.length d _ _).mono ?_
   rintro e W2 ⟨rfl, hb⟩
   have HB2 := aM (below_step HB.out hb)
   have Z2 := aM (blk_below Z.out hb)
   have HT2 := aM (Kd.C_below HT1.out hb)
   have HP2 := aM (Kd.C_below HP1.out hb)
   clear hb hw2 c0 c2 Z HT1 HP1 HB
   have c2 : W2.cell? ⟨w.heap.size, 2, none⟩ = some (.func (.func 32) #[] #[]) := (blk_cell Z2.out 2).trans rfl
   have hb1 : true = find_fits.edge false p (i - 1) := rfl
   have E1 := aM hb1
   clear hb1
   go_wp2_with fail
   refine (find_fits.free_calls B p.length d _ _).mono ?_
   rintro e W3 ⟨rfl, hb⟩
   have HB3 := aM (below_step HB2.out hb)
   have Z3 := aM (blk_below Z2.out hb)
   have HT3 := aM (Kd.C_below HT2.out hb)
   have HP3 := aM (Kd.C_below HP2.out hb)
   clear hb c2 Z2 HT2 HP2 HB2
   have hb2 : true = find_fits.edge false p en := rfl
   have c0 : W3.cell? ⟨w.heap.size, 0, none⟩ = some (.slice A text.length c) := (blk_cell Z3.out 0).trans rfl
   have E := aM (show find_fits.f text p false false i = find_fits.all text p false i text.length 0 from by unfold find_fits.f; rw [← HE.out, ← hb2, ← E1.out, decide_eq_true H1.out]; rfl)
   have I0 := aM (And.intro HB3.out (And.intro Z3.out (And.intro HT3.out HP3.out)))
   clear hb2 E1 HB3 Z3 HT3 HP3 HW2
   go_wp2
   go_loopg [8, 9, 39] (text.length + 1) (fun kq v8 v9 v39 wr => ∃ (k : Nat), v39 = .int .i64 (k : Int) ∧ Aside0 (Below w.heap.size w wr ∧ wr.heap[w.heap.size]? = some (Obj.cells #[.slice A text.length c, .func (.func 31) #[] #[], .func (.func 32) #[] #[]] 56 (0, 0)) ∧ Kd.C (Kd.int .i64) wr A text.length text ∧ Kd.C (Kd.int .i64) wr B p.length p) ∧ Aside0 (text.length + 1 = k + kq ∧ find_fits.f text p false false i = find_fits.all text p false i (kq - 1) k))
   case atStart => exact ⟨0, rfl, I0, ⟨by omega, E.out⟩⟩
   case round =>
    clear I0 E c0
    obtain ⟨k, rfl, HJ, HK⟩ := hrel
    by_cases c5 : k < text.length
    ·have c5b : decide ((k : Int) < (text.length : Int)) = true := decide_eq_true (by omega)
     have c5c : decide (k < text.length) = true := decide_eq_true c5
     obtain ⟨f, rfl⟩ : ∃ f, gk = f + 2 := ⟨gk - 2, by have := HK.out.1; omega⟩
     have hk := HK.out.2
     rw [show f + 2 - 1 = f + 1 from rfl, find_fits.all] at hk
     obtain ⟨ad, eA, e0⟩ := Kd.at_int HJ.out.2.2.1 (k : Int) (by omega) (by omega)
     obtain ⟨bd, eB, d0⟩ := Kd.at_int HJ.out.2.2.2 (i + (k : Int)) (by have := HI.out; omega) (by have := H1.out; have := HE.out; omega)
     subst eA
     subst eB
     rw [Int.toNat_natCast] at e0
     have c1 : wr.cell? ⟨w.heap.size, 1, none⟩ = some (.func (.func 31) #[] #[]) := (blk_cell HJ.out.2.1 1).trans rfl
     have k0 := eq_true (show (0 : Int) ≤ (k : Int) by omega)
     have k1 := eq_true (show (k : Int) < (text.length : Int) by omega)
     obtain ⟨ik, hik⟩ : ∃ x, x = i + (k : Int) := ⟨_, rfl⟩
     have hw : wrap64 (i + (k : Int)) = ik := by have := HI.out; rw [hik]; unfold wrap64; omega
     have q0 := eq_true (show 0 ≤ ik by have := HI.out; omega)
     have q1 := eq_true (show ik < (p.length : Int) by have := H1.out; have := HE.out; omega)
     rw [← hik] at d0 hk
     have WI := aM (show wrap64 ((k : Int) + 1) = ((k + 1 : Nat) : Int) from by have := HI.out; unfold wrap64; omega)
     obtain ⟨tc, htc⟩ : ∃ x, x = rd text (k : Int) := ⟨_, rfl⟩
     obtain ⟨pc, hpc⟩ : ∃ x, x = rd p ik := ⟨_, rfl⟩
     rw [← htc] at e0 hk
     rw [← hpc] at d0 hk
     have HKK := aM hk
     have C5 := aM c5
     clear htc hpc hk c5 hik
     go_upto_region 7 with (fail)
     refine start_ (n := 14) (S := fun w' => w'.cell? ⟨w.heap.size, 1, none⟩ = some (.func (.func 31) #[] #[]) ∧ w'.cell? (bd.add ik.toNat) = some (.int .i64 pc)) (ds := []) #[false, false, false, false, false, false, false, false, false, false, false, false, false, false] (by kernel_rfl) rfl rfl ⟨c1, d0⟩ (fun hHeld => ?_)
     refine with_tabW find_fits.tab7 find_fits.bits7 (fun HT_ HW_ => ?_)
     have J5 := aM (And.intro (Below.drew HJ.out.1) (And.intro (bD HJ.out.2.1) (And.intro (Kd.C_drew HJ.out.2.2.1) (Kd.C_drew HJ.out.2.2.2))))
     clear HJ c1 d0 e0
     generalize wr.drew = w5 at *
     refine pure_ (i := 0) (N := some 44) (v := ?_) (a' := ?_) #[true, false, false, false, false, false, false, false, false, false, false, false, false, false] rfl rfl (any_of HT_.out (by kernel_rfl)) (fun _ _ _ h => h) (Or.inl ⟨by rfl, ?_⟩) ?_ ?_
     rotate_left
     ·intro w'
      go_simp
      with_reducible rfl
     rotate_left
     ·simp only [Act.put, sA, sZ, sS, i64_w, i32_w]
      rfl
     refine take_ (i := 1) (N := some 45) (v := ?_) (a' := ?_) #[true, true, false, false, false, false, false, false, false, false, false, false, false, false] rfl rfl (take_ofW HT_.out HW_.out (by kernel_rfl)) (fun _ _ _ h => h) (Or.inl ⟨by rfl, ?_⟩) hHeld ?_ ?_
     rotate_left
     ·rintro w' ⟨s0, s1⟩
      go_simp
      with_reducible rfl
     rotate_left
     ·simp only [Act.put, sA, sZ, sS, i64_w, i32_w]
      rfl
     refine pure_ (i := 2) (N := some 46) (v := ?_) (a' := ?_) #[true, true, true, false, false, false, false, false, false, false, false, false, false, false] rfl rfl (any_of HT_.out (by kernel_rfl)) (fun _ _ _ h => h) (Or.inl ⟨by rfl, ?_⟩) ?_ ?_
     rotate_left
     ·intro w'
      go_simp
      with_reducible rfl
     rotate_left
     ·simp only [Act.put, sA, sZ, sS, i64_w, i32_w]
      rfl
     refine pure_ (i := 3) (N := some 47) (v := ?_) (a' := ?_) #[true, true, true, true, false, false, false, false, false, false, false, false, false, false] rfl rfl (any_of HT_.out (by kernel_rfl)) (fun _ _ _ h => h) (Or.inl ⟨by rfl, ?_⟩) ?_ ?_
     rotate_left
     ·intro w'
      go_simp
      with_reducible rfl
     rotate_left
     ·simp only [Act.put, sA, sZ, sS, i64_w, i32_w]
      rfl
     refine pure_ (i := 4) (N := some 48) (v := ?_) (a' := ?_) #[true, true, true, true, true, false, false, false, false, false, false, false, false, false] rfl rfl (any_of HT_.out (by kernel_rfl)) (fun _ _ _ h => h) (Or.inl ⟨by rfl, ?_⟩) ?_ ?_
     rotate_left
     ·intro w'
      go_simp
      with_reducible rfl
     rotate_left
     ·simp only [Act.put, sA, sZ, sS, i64_w, i32_w]
      rfl
     refine pure_ (i := 5) (N := some 49) (v := ?_) (a' := ?_) #[true, true, true, true, true, true, false, false, false, false, false, false, false, false] rfl rfl (any_of HT_.out (by kernel_rfl)) (fun _ _ _ h => h) (Or.inl ⟨by rfl, ?_⟩) ?_ ?_
     rotate_left
     ·intro w'
      go_simp
      with_reducible rfl
     rotate_left
     ·simp only [Act.put, sA, sZ, sS, i64_w, i32_w]
      rfl
     rw [hw]
     refine pure_ (i := 6) (N := some 50) (v := ?_) (a' := ?_) #[true, true, true, true, true, true, true, false, false, false, false, false, false, false] rfl rfl (any_of HT_.out (by kernel_rfl)) (fun _ _ _ h => h) (Or.inl ⟨by rfl, ?_⟩) ?_ ?_
     rotate_left
     ·intro w'
      go_simp
      with_reducible rfl
     rotate_left
     ·simp only [Act.put, sA, sZ, sS, i64_w, i32_w]
      rfl
     refine take_ (i := 7) (N := some 51) (v := ?_) (a' := ?_) #[true, true, true, true, true, true, true, true, false, false, false, false, false, false] rfl rfl (take_ofW HT_.out HW_.out (by kernel_rfl)) (fun _ _ _ h => h) (Or.inl ⟨by rfl, ?_⟩) hHeld ?_ ?_
     rotate_left
     ·rintro w' ⟨s0, s1⟩
      go_simp
      with_reducible rfl
     rotate_left
     ·simp only [Act.put, sA, sZ, sS, i64_w, i32_w]
      rfl
     refine pure_ (i := 9) (N := some 53) (v := ?_) (a' := ?_) #[true, true, true, true, true, true, true, true, false, true, false, false, false, false] rfl rfl (any_of HT_.out (by kernel_rfl)) (fun _ _ _ h => h) (Or.inl ⟨by rfl, ?_⟩) ?_ ?_
     rotate_left
     ·intro w'
      go_simp
      with_reducible rfl
     rotate_left
     ·simp only [Act.put, sA, sZ, sS, i64_w, i32_w]
      rfl
     refine take_ (i := 10) (N := some 54) (v := ?_) (a' := ?_) #[true, true, true, true, true, true, true, true, false, true, true, false, false, false] rfl rfl (take_ofW HT_.out HW_.out (by kernel_rfl)) (fun _ _ _ h => h) (Or.inl ⟨by rfl, ?_⟩) hHeld ?_ ?_
     rotate_left
     ·rintro w' ⟨s0, s1⟩
      go_simp
      with_reducible rfl
     rotate_left
     ·simp only [Act.put, sA, sZ, sS, i64_w, i32_w]
      rfl
     refine pure_ (i := 11) (N := some 55) (v := ?_) (a' := ?_) #[true, true, true, true, true, true, true, true, false, true, true, true, false, false] rfl rfl (any_of HT_.out (by kernel_rfl)) (fun _ _ _ h => h) (Or.inl ⟨by rfl, ?_⟩) ?_ ?_
     rotate_left
     ·intro w'
      go_simp
      with_reducible rfl
     rotate_left
     ·simp only [Act.put, sA, sZ, sS, i64_w, i32_w]
      rfl
     refine one_ (i := 8) (N := some 52) #[true, true, true, true, true, true, true, true, true, true, true, true, false, false] rfl rfl (one_of HT_.out (by kernel_rfl)) (by decide) (fun K hK => ?_)
     refine find_fits.goesR Tryd.func31 (by kernel_rfl) rfl #[.int .i64 pc] (by rfl) rfl rfl rfl (by simp only [List.map_toArray, List.map_cons, List.map_nil]; rfl) ?_
     refine (find_fits.key_calls pc _).mono ?_
     rintro e w6 ⟨rfl, hb⟩
     refine ⟨_, rfl, ?_⟩
     have J6 := aM (And.intro (below_step J5.out.1 hb) (And.intro (blk_below J5.out.2.1 hb) (And.intro (Kd.C_below J5.out.2.2.1 hb) (Kd.C_below J5.out.2.2.2 hb))))
     have keep : ∀ (ad : Addr) (u : Value), w5.cell? ad = some u → w6.cell? ad = some u := fun ad u s => (hb.cell (World.block_lt_of_cell? w5 _ s)).trans s
     refine hK.out _ _ ⟨keep _ _ hHeld.1, keep _ _ hHeld.2⟩ (fun hHeld => ?_)
     clear hK K keep hb J5
     refine norm_ (a' := ?_) ?_ ?_
     rotate_left
     ·show Act.put _ (some 52) _ = _
      simp only [Act.put, sA, sZ, sS, i64_w, i32_w]
      rfl
     refine one_ (i := 12) (N := some 56) #[true, true, true, true, true, true, true, true, true, true, true, true, true, false] rfl rfl (one_of HT_.out (by kernel_rfl)) (by decide) (fun K hK => ?_)
     refine find_fits.goesR Tryd.func31 (by kernel_rfl) rfl #[.int .i64 tc] (by rfl) rfl rfl rfl (by simp only [List.map_toArray, List.map_cons, List.map_nil]; rfl) ?_
     refine (find_fits.key_calls tc _).mono ?_
     rintro e w7 ⟨rfl, hb⟩
     refine ⟨_, rfl, ?_⟩
     have J7 := aM (And.intro (below_step J6.out.1 hb) (And.intro (blk_below J6.out.2.1 hb) (And.intro (Kd.C_below J6.out.2.2.1 hb) (Kd.C_below J6.out.2.2.2 hb))))
     have keep : ∀ (ad : Addr) (u : Value), w6.cell? ad = some u → w7.cell? ad = some u := fun ad u s => (hb.cell (World.block_lt_of_cell? w6 _ s)).trans s
     refine hK.out _ _ ⟨keep _ _ hHeld.1, keep _ _ hHeld.2⟩ (fun hHeld => ?_)
     clear hK K keep hb J6
     refine norm_ (a' := ?_) ?_ ?_
     rotate_left
     ·show Act.put _ (some 56) _ = _
      simp only [Act.put, sA, sZ, sS, i64_w, i32_w]
      rfl
     have hkk := HKK.out
     generalize find_fits.key false pc = kp at *
     generalize find_fits.key false tc = kt at *
     by_cases hq : kp = kt
     ·have hqb : (kp != kt) = false := bne_eq_false_iff_eq.mpr hq
      rw [if_pos hq] at hkk
      have HQ := aM hkk
      clear hkk hq HKK
      refine pure_ (i := 13) (N := some 57) (v := ?_) (a' := ?_) #[true, true, true, true, true, true, true, true, true, true, true, true, true, true] rfl rfl (any_of HT_.out (by kernel_rfl)) (fun _ _ _ h => h) (Or.inl ⟨by rfl, ?_⟩) ?_ ?_
      rotate_left
      ·intro w'
       go_simp
       with_reducible rfl
      rotate_left
      ·simp only [Act.put, sA, sZ, sS, i64_w, i32_w]
       rfl
      refine done_ (done_of HT_.out (by kernel_rfl)) ?_
      go_wp2
      go_roundg (f + 1)
      case measure => omega
      case rel => exact ⟨k + 1, by rw [WI.out], J7, ⟨by have := HK.out.1; omega, HQ.out⟩⟩
     ·have hqb : (kp != kt) = true := bne_iff_ne.mpr hq
      rw [if_neg hq] at hkk
      have HQ := aM hkk
      clear hkk hq HKK
      refine pure_ (i := 13) (N := some 57) (v := ?_) (a' := ?_) #[true, true, true, true, true, true, true, true, true, true, true, true, true, true] rfl rfl (any_of HT_.out (by kernel_rfl)) (fun _ _ _ h => h) (Or.inl ⟨by rfl, ?_⟩) ?_ ?_
      rotate_left
      ·intro w'
       go_simp
       with_reducible rfl
      rotate_left
      ·simp only [Act.put, sA, sZ, sS, i64_w, i32_w]
       rfl
      refine done_ (done_of HT_.out (by kernel_rfl)) ?_
      go_wp2
      go_ret
      exact ⟨by rw [HQ.out]; rfl, J7.out.1⟩
    ·have c5b : decide ((k : Int) < (text.length : Int)) = false := decide_eq_false (by omega)
     have c5c : decide (k < text.length) = false := decide_eq_false c5
     have EE := aM (show find_fits.f text p false false i = true from by have h1 := HK.out.1; have h2 := HK.out.2; rw [h2, show gk - 1 = 0 by omega]; rfl)
     clear c5
     go_wp2
     go_ret
     exact ⟨by rw [EE.out]; rfl, HJ.out.1⟩
end Go.Proofs.YtfcfomconcoimaaDoor.PFa
