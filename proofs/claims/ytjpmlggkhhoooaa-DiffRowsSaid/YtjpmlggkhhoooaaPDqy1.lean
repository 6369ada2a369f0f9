-- Written for this claim by a program (printed texts under one roof).
import Derived.Test.YtjpmlggkhhoooaaPDqx0
import Derived.Test.YtjpmlggkhhoooaaPDqy0
-- Written for this claim by a program (the kit's print, with hand-made contracts for what it does not take).
namespace Go.Proofs.Ytjpmlggkhhoooaa.PDq
open Go.RowKit Go.Proofs.YtjpmlggkhhoooaaW.PrintWords Go.Proofs.YtjpmlggkhhoooaaW.PrintLast Go.Proofs.YtjpmlggkhhoooaaW.PrintMore
attribute [local go_sem] max2_int min2_int max_two min_two max_three min_three max_four min_four   -- for this text's walks alone
set_option linter.unusedVariables false
set_option linter.unusedSimpArgs false

attribute [local go_sem high] eqA64
def flat_Right.f (a0_0 : Int) (a0_1 : Int) (a0_2 : Int) (a0_3 : Int) : Option (Bool) := if a0_0 = 0 then (if a0_1 = 0 then (if a0_2 ≥ 0 then (if a0_2 ≤ 1114111 then (if (a0_2 / 2048) = 27 then (some false) else ((mark_Right.f a0_3).bind fun t142 => (some t142))) else (some false)) else (some false)) else (some false)) else (if a0_0 = 2 then (some (a0_0 == 2 && (a0_1 == 0 && (a0_2 == 0 && (a0_3 == 0))))) else (if a0_0 = 1 then (if a0_1 > 0 then (if a0_1 < 16 then (if a0_2 ≥ 0 then (if a0_2 < 16 then (some (a0_3 == 0)) else (some false)) else (some false)) else (some false)) else (some false)) else (if a0_0 = 3 then (if a0_1 > 0 then (if a0_1 < 16 then (if a0_2 ≥ 0 then (if a0_2 < 16 then (some (a0_3 == 0)) else (some false)) else (some false)) else (some false)) else (some false)) else (some false))))
set_option maxHeartbeats 8000000 in
set_option maxRecDepth 100000 in
theorem flat_Right.calls (a0_0 : Int) (a0_1 : Int) (a0_2 : Int) (a0_3 : Int) (r : Bool) (w : World) (h : flat_Right.f a0_0 a0_1 a0_2 a0_3 = some r) :
  Calls Try.prog 50 #[.agg #[.int .i64 a0_0, .int .i64 a0_1, .int .i64 a0_2, .int .i64 a0_3]] w fun e w' => e = .returned (.bool r) ∧ Below w.heap.size w w' := by
 have hu64 := Try.underlying64
 have HB := aM (Below.refl w.heap.size w)
 have H : (if a0_0 = 0 then (if a0_1 = 0 then (if a0_2 ≥ 0 then (if a0_2 ≤ 1114111 then (if (a0_2 / 2048) = 27 then (some false) else ((mark_Right.f a0_3).bind fun t142 => (some t142))) else (some false)) else (some false)) else (some false)) else (if a0_0 = 2 then (some (a0_0 == 2 && (a0_1 == 0 && (a0_2 == 0 && (a0_3 == 0))))) else (if a0_0 = 1 then (if a0_1 > 0 then (if a0_1 < 16 then (if a0_2 ≥ 0 then (if a0_2 < 16 then (some (a0_3 == 0)) else (some false)) else (some false)) else (some false)) else (some false)) else (if a0_0 = 3 then (if a0_1 > 0 then (if a0_1 < 16 then (if a0_2 ≥ 0 then (if a0_2 < 16 then (some (a0_3 == 0)) else (some false)) else (some false)) else (some false)) else (some false)) else (some false))))) = some r := h
 clear h
 by_cases c2 : a0_0 = 0
 ·rw [if_pos c2] at H
  have c2b0 : (a0_0 == 0) = true := beq_iff_eq.mpr c2
  have c2b1 : (a0_0 != 0) = false := bne_eq_false_iff_eq.mpr c2
  clear c2
  by_cases c3 : a0_1 = 0
  ·rw [if_pos c3] at H
   have c3b0 : (a0_1 == 0) = true := beq_iff_eq.mpr c3
   have c3b1 : (a0_1 != 0) = false := bne_eq_false_iff_eq.mpr c3
   clear c3
   by_cases c4 : a0_2 ≥ 0
   ·rw [if_pos c4] at H
    have c4b0 : decide (0 ≤ a0_2) = true := decide_eq_true c4
    clear c4
    by_cases c5 : a0_2 ≤ 1114111
    ·rw [if_pos c5] at H
     have c5b0 : decide (a0_2 ≤ 1114111) = true := decide_eq_true c5
     clear c5
     by_cases c6 : (a0_2 / 2048) = 27
     ·rw [if_pos c6] at H
      have c6b0 : ((a0_2 / 2048) == 27) = true := beq_iff_eq.mpr c6
      have c6b1 : ((a0_2 / 2048) != 27) = false := bne_eq_false_iff_eq.mpr c6
      clear c6
      obtain rfl := Option.some.inj H
      go_enter Try.func50, Try.ntmps50
      go_wp2_with (first|((with_reducible refine gate_dst (N := 1) rfl ?_); refine box_event ?hg (N := 1) ?hd (cs := #[.int .i64 a0_0, .int .i64 a0_1, .int .i64 a0_2, .int .i64 a0_3]) (t := 64) ?hr ?_; (case hd => rfl); (case hg => rfl); (case hr => first|(go_simp; done)|(go_simp; rfl)); intro gb141 hg w7 hbox hb; have hB_ := (by repeat (first|(with_reducible first|exact HB.out|apply lA|apply lN|apply lD)|exact HB.out) : Below w.heap.size w _); replace HB := aM (below_step hB_ hb); replace BK141 := aM (hbox); replace GW141 := aM ((bsz hg hB_)); replace GE141 := aM ((bsz hg hB_)); clear hb hbox hg hB_; obtain ⟨hcz8_0, hcz8_1, hcz8_2, hcz8_3, hfz8_0, hfz8_1, hfz8_2, hfz8_3⟩ := bx4z BK141.out))
      go_ret
      exact ⟨by first|rfl|(simp [errW_none, errW_some] <;> rfl)|(simp [*, errW_none, errW_some] <;> rfl), by repeat (first|(with_reducible first|exact HB.out|apply lA|apply lN|apply lD|refine lS ?_ GE141.out)|exact HB.out)⟩
     ·rw [if_neg c6] at H
      have c6b0 : ((a0_2 / 2048) == 27) = false := beq_eq_false_iff_ne.mpr c6
      have c6b1 : ((a0_2 / 2048) != 27) = true := bne_iff_ne.mpr c6
      replace H := Option.bind_eq_some_iff.mp H
      obtain ⟨t142, A90, H⟩ := H
      replace H : (some t142) = some r := H
      have A9 := aM A90
      clear A90
      obtain rfl := Option.some.inj H
      go_enter Try.func50, Try.ntmps50
      go_wp2_with (first|((with_reducible refine gate_dst (N := 1) rfl ?_); refine box_event ?hg (N := 1) ?hd (cs := #[.int .i64 a0_0, .int .i64 a0_1, .int .i64 a0_2, .int .i64 a0_3]) (t := 64) ?hr ?_; (case hd => rfl); (case hg => rfl); (case hr => first|(go_simp; done)|(go_simp; rfl)); intro gb141 hg w10 hbox hb; have hB_ := (by repeat (first|(with_reducible first|exact HB.out|apply lA|apply lN|apply lD)|exact HB.out) : Below w.heap.size w _); replace HB := aM (below_step hB_ hb); replace BK141 := aM (hbox); replace GW141 := aM ((bsz hg hB_)); replace GE141 := aM ((bsz hg hB_)); clear hb hbox hg hB_; obtain ⟨hcz11_0, hcz11_1, hcz11_2, hcz11_3, hfz11_0, hfz11_1, hfz11_2, hfz11_3⟩ := bx4z BK141.out)|(go_at_call 59; (with_reducible refine (mark_Right.calls a0_3 t142 _ A9.out).mono ?_); rintro e w' ⟨rfl, ⟨nd, rfl⟩⟩))
      go_ret
      exact ⟨by first|rfl|(simp [errW_none, errW_some] <;> rfl)|(simp [*, errW_none, errW_some] <;> rfl), by repeat (first|(with_reducible first|exact HB.out|apply lA|apply lN|apply lD|refine lS ?_ GE141.out)|exact HB.out)⟩
    ·rw [if_neg c5] at H
     have c5b0 : decide (a0_2 ≤ 1114111) = false := decide_eq_false c5
     clear c5
     obtain rfl := Option.some.inj H
     go_enter Try.func50, Try.ntmps50
     go_wp2_with (first|((with_reducible refine gate_dst (N := 1) rfl ?_); refine box_event ?hg (N := 1) ?hd (cs := #[.int .i64 a0_0, .int .i64 a0_1, .int .i64 a0_2, .int .i64 a0_3]) (t := 64) ?hr ?_; (case hd => rfl); (case hg => rfl); (case hr => first|(go_simp; done)|(go_simp; rfl)); intro gb141 hg w12 hbox hb; have hB_ := (by repeat (first|(with_reducible first|exact HB.out|apply lA|apply lN|apply lD)|exact HB.out) : Below w.heap.size w _); replace HB := aM (below_step hB_ hb); replace BK141 := aM (hbox); replace GW141 := aM ((bsz hg hB_)); replace GE141 := aM ((bsz hg hB_)); clear hb hbox hg hB_; obtain ⟨hcz13_0, hcz13_1, hcz13_2, hcz13_3, hfz13_0, hfz13_1, hfz13_2, hfz13_3⟩ := bx4z BK141.out))
     go_ret
     exact ⟨by first|rfl|(simp [errW_none, errW_some] <;> rfl)|(simp [*, errW_none, errW_some] <;> rfl), by repeat (first|(with_reducible first|exact HB.out|apply lA|apply lN|apply lD|refine lS ?_ GE141.out)|exact HB.out)⟩
   ·rw [if_neg c4] at H
    have c4b0 : decide (0 ≤ a0_2) = false := decide_eq_false c4
    clear c4
    obtain rfl := Option.some.inj H
    go_enter Try.func50, Try.ntmps50
    go_wp2_with (first|((with_reducible refine gate_dst (N := 1) rfl ?_); refine box_event ?hg (N := 1) ?hd (cs := #[.int .i64 a0_0, .int .i64 a0_1, .int .i64 a0_2, .int .i64 a0_3]) (t := 64) ?hr ?_; (case hd => rfl); (case hg => rfl); (case hr => first|(go_simp; done)|(go_simp; rfl)); intro gb141 hg w14 hbox hb; have hB_ := (by repeat (first|(with_reducible first|exact HB.out|apply lA|apply lN|apply lD)|exact HB.out) : Below w.heap.size w _); replace HB := aM (below_step hB_ hb); replace BK141 := aM (hbox); replace GW141 := aM ((bsz hg hB_)); replace GE141 := aM ((bsz hg hB_)); clear hb hbox hg hB_; obtain ⟨hcz15_0, hcz15_1, hcz15_2, hcz15_3, hfz15_0, hfz15_1, hfz15_2, hfz15_3⟩ := bx4z BK141.out))
    go_ret
    exact ⟨by first|rfl|(simp [errW_none, errW_some] <;> rfl)|(simp [*, errW_none, errW_some] <;> rfl), by repeat (first|(with_reducible first|exact HB.out|apply lA|apply lN|apply lD|refine lS ?_ GE141.out)|exact HB.out)⟩
  ·rw [if_neg c3] at H
   have c3b0 : (a0_1 == 0) = false := beq_eq_false_iff_ne.mpr c3
   have c3b1 : (a0_1 != 0) = true := bne_iff_ne.mpr c3
   obtain rfl := Option.some.inj H
   go_enter Try.func50, Try.ntmps50
   go_wp2_with (first|((with_reducible refine gate_dst (N := 1) rfl ?_); refine box_event ?hg (N := 1) ?hd (cs := #[.int .i64 a0_0, .int .i64 a0_1, .int .i64 a0_2, .int .i64 a0_3]) (t := 64) ?hr ?_; (case hd => rfl); (case hg => rfl); (case hr => first|(go_simp; done)|(go_simp; rfl)); intro gb141 hg w16 hbox hb; have hB_ := (by repeat (first|(with_reducible first|exact HB.out|apply lA|apply lN|apply lD)|exact HB.out) : Below w.heap.size w _); replace HB := aM (below_step hB_ hb); replace BK141 := aM (hbox); replace GW141 := aM ((bsz hg hB_)); replace GE141 := aM ((bsz hg hB_)); clear hb hbox hg hB_; obtain ⟨hcz17_0, hcz17_1, hcz17_2, hcz17_3, hfz17_0, hfz17_1, hfz17_2, hfz17_3⟩ := bx4z BK141.out))
   go_ret
   exact ⟨by first|rfl|(simp [errW_none, errW_some] <;> rfl)|(simp [*, errW_none, errW_some] <;> rfl), by repeat (first|(with_reducible first|exact HB.out|apply lA|apply lN|apply lD|refine lS ?_ GE141.out)|exact HB.out)⟩
 ·rw [if_neg c2] at H
  have c2b0 : (a0_0 == 0) = false := beq_eq_false_iff_ne.mpr c2
  have c2b1 : (a0_0 != 0) = true := bne_iff_ne.mpr c2
  by_cases c18 : a0_0 = 2
  ·rw [if_pos c18] at H
   have c18b0 : (a0_0 == 2) = true := beq_iff_eq.mpr c18
   have c18b1 : (a0_0 != 2) = false := bne_eq_false_iff_eq.mpr c18
   clear c18
   obtain rfl := Option.some.inj H
   go_enter Try.func50, Try.ntmps50
   go_wp2_with (first|((with_reducible refine gate_dst (N := 1) rfl ?_); refine box_event ?hg (N := 1) ?hd (cs := #[.int .i64 a0_0, .int .i64 a0_1, .int .i64 a0_2, .int .i64 a0_3]) (t := 64) ?hr ?_; (case hd => rfl); (case hg => rfl); (case hr => first|(go_simp; done)|(go_simp; rfl)); intro gb141 hg w19 hbox hb; have hB_ := (by repeat (first|(with_reducible first|exact HB.out|apply lA|apply lN|apply lD)|exact HB.out) : Below w.heap.size w _); replace HB := aM (below_step hB_ hb); replace BK141 := aM (hbox); replace GW141 := aM ((bsz hg hB_)); replace GE141 := aM ((bsz hg hB_)); clear hb hbox hg hB_; obtain ⟨hcz20_0, hcz20_1, hcz20_2, hcz20_3, hfz20_0, hfz20_1, hfz20_2, hfz20_3⟩ := bx4z BK141.out))
   go_ret
   exact ⟨by first|rfl|(simp [errW_none, errW_some] <;> rfl)|(simp [*, errW_none, errW_some] <;> rfl), by repeat (first|(with_reducible first|exact HB.out|apply lA|apply lN|apply lD|refine lS ?_ GE141.out)|exact HB.out)⟩
  ·rw [if_neg c18] at H
   have c18b0 : (a0_0 == 2) = false := beq_eq_false_iff_ne.mpr c18
   have c18b1 : (a0_0 != 2) = true := bne_iff_ne.mpr c18
   by_cases c21 : a0_0 = 1
   ·rw [if_pos c21] at H
    have c21b0 : (a0_0 == 1) = true := beq_iff_eq.mpr c21
    have c21b1 : (a0_0 != 1) = false := bne_eq_false_iff_eq.mpr c21
    clear c21
    by_cases c22 : a0_1 > 0
    ·rw [if_pos c22] at H
     have c22b0 : decide (0 < a0_1) = true := decide_eq_true c22
     clear c22
     by_cases c23 : a0_1 < 16
     ·rw [if_pos c23] at H
      have c23b0 : decide (a0_1 < 16) = true := decide_eq_true c23
      clear c23
      by_cases c24 : a0_2 ≥ 0
      ·rw [if_pos c24] at H
       have c24b0 : decide (0 ≤ a0_2) = true := decide_eq_true c24
       clear c24
       by_cases c25 : a0_2 < 16
       ·rw [if_pos c25] at H
        have c25b0 : decide (a0_2 < 16) = true := decide_eq_true c25
        clear c25
        obtain rfl := Option.some.inj H
        go_enter Try.func50, Try.ntmps50
        go_wp2_with (first|((with_reducible refine gate_dst (N := 1) rfl ?_); refine box_event ?hg (N := 1) ?hd (cs := #[.int .i64 a0_0, .int .i64 a0_1, .int .i64 a0_2, .int .i64 a0_3]) (t := 64) ?hr ?_; (case hd => rfl); (case hg => rfl); (case hr => first|(go_simp; done)|(go_simp; rfl)); intro gb141 hg w26 hbox hb; have hB_ := (by repeat (first|(with_reducible first|exact HB.out|apply lA|apply lN|apply lD)|exact HB.out) : Below w.heap.size w _); replace HB := aM (below_step hB_ hb); replace BK141 := aM (hbox); replace GW141 := aM ((bsz hg hB_)); replace GE141 := aM ((bsz hg hB_)); clear hb hbox hg hB_; obtain ⟨hcz27_0, hcz27_1, hcz27_2, hcz27_3, hfz27_0, hfz27_1, hfz27_2, hfz27_3⟩ := bx4z BK141.out))
        go_ret
        exact ⟨by first|rfl|(simp [errW_none, errW_some] <;> rfl)|(simp [*, errW_none, errW_some] <;> rfl), by repeat (first|(with_reducible first|exact HB.out|apply lA|apply lN|apply lD|refine lS ?_ GE141.out)|exact HB.out)⟩
       ·rw [if_neg c25] at H
        have c25b0 : decide (a0_2 < 16) = false := decide_eq_false c25
        clear c25
        obtain rfl := Option.some.inj H
        go_enter Try.func50, Try.ntmps50
        go_wp2_with (first|((with_reducible refine gate_dst (N := 1) rfl ?_); refine box_event ?hg (N := 1) ?hd (cs := #[.int .i64 a0_0, .int .i64 a0_1, .int .i64 a0_2, .int .i64 a0_3]) (t := 64) ?hr ?_; (case hd => rfl); (case hg => rfl); (case hr => first|(go_simp; done)|(go_simp; rfl)); intro gb141 hg w28 hbox hb; have hB_ := (by repeat (first|(with_reducible first|exact HB.out|apply lA|apply lN|apply lD)|exact HB.out) : Below w.heap.size w _); replace HB := aM (below_step hB_ hb); replace BK141 := aM (hbox); replace GW141 := aM ((bsz hg hB_)); replace GE141 := aM ((bsz hg hB_)); clear hb hbox hg hB_; obtain ⟨hcz29_0, hcz29_1, hcz29_2, hcz29_3, hfz29_0, hfz29_1, hfz29_2, hfz29_3⟩ := bx4z BK141.out))
        go_ret
        exact ⟨by first|rfl|(simp [errW_none, errW_some] <;> rfl)|(simp [*, errW_none, errW_some] <;> rfl), by repeat (first|(with_reducible first|exact HB.out|apply lA|apply lN|apply lD|refine lS ?_ GE141.out)|exact HB.out)⟩
      ·rw [if_neg c24] at H
       have c24b0 : decide (0 ≤ a0_2) = false := decide_eq_false c24
       clear c24
       obtain rfl := Option.some.inj H
       go_enter Try.func50, Try.ntmps50
       go_wp2_with (first|((with_reducible refine gate_dst (N := 1) rfl ?_); refine box_event ?hg (N := 1) ?hd (cs := #[.int .i64 a0_0, .int .i64 a0_1, .int .i64 a0_2, .int .i64 a0_3]) (t := 64) ?hr ?_; (case hd => rfl); (case hg => rfl); (case hr => first|(go_simp; done)|(go_simp; rfl)); intro gb141 hg w30 hbox hb; have hB_ := (by repeat (first|(with_reducible first|exact HB.out|apply lA|apply lN|apply lD)|exact HB.out) : Below w.heap.size w _); replace HB := aM (below_step hB_ hb); replace BK141 := aM (hbox); replace GW141 := aM ((bsz hg hB_)); replace GE141 := aM ((bsz hg hB_)); clear hb hbox hg hB_; obtain ⟨hcz31_0, hcz31_1, hcz31_2, hcz31_3, hfz31_0, hfz31_1, hfz31_2, hfz31_3⟩ := bx4z BK141.out))
       go_ret
       exact ⟨by first|rfl|(simp [errW_none, errW_some] <;> rfl)|(simp [*, errW_none, errW_some] <;> rfl), by repeat (first|(with_reducible first|exact HB.out|apply lA|apply lN|apply lD|refine lS ?_ GE141.out)|exact HB.out)⟩
     ·rw [if_neg c23] at H
      have c23b0 : decide (a0_1 < 16) = false := decide_eq_false c23
      clear c23
      obtain rfl := Option.some.inj H
      go_enter Try.func50, Try.ntmps50
      go_wp2_with (first|((with_reducible refine gate_dst (N := 1) rfl ?_); refine box_event ?hg (N := 1) ?hd (cs := #[.int .i64 a0_0, .int .i64 a0_1, .int .i64 a0_2, .int .i64 a0_3]) (t := 64) ?hr ?_; (case hd => rfl); (case hg => rfl); (case hr => first|(go_simp; done)|(go_simp; rfl)); intro gb141 hg w32 hbox hb; have hB_ := (by repeat (first|(with_reducible first|exact HB.out|apply lA|apply lN|apply lD)|exact HB.out) : Below w.heap.size w _); replace HB := aM (below_step hB_ hb); replace BK141 := aM (hbox); replace GW141 := aM ((bsz hg hB_)); replace GE141 := aM ((bsz hg hB_)); clear hb hbox hg hB_; obtain ⟨hcz33_0, hcz33_1, hcz33_2, hcz33_3, hfz33_0, hfz33_1, hfz33_2, hfz33_3⟩ := bx4z BK141.out))
      go_ret
      exact ⟨by first|rfl|(simp [errW_none, errW_some] <;> rfl)|(simp [*, errW_none, errW_some] <;> rfl), by repeat (first|(with_reducible first|exact HB.out|apply lA|apply lN|apply lD|refine lS ?_ GE141.out)|exact HB.out)⟩
    ·rw [if_neg c22] at H
     have c22b0 : decide (0 < a0_1) = false := decide_eq_false c22
     clear c22
     obtain rfl := Option.some.inj H
     go_enter Try.func50, Try.ntmps50
     go_wp2_with (first|((with_reducible refine gate_dst (N := 1) rfl ?_); refine box_event ?hg (N := 1) ?hd (cs := #[.int .i64 a0_0, .int .i64 a0_1, .int .i64 a0_2, .int .i64 a0_3]) (t := 64) ?hr ?_; (case hd => rfl); (case hg => rfl); (case hr => first|(go_simp; done)|(go_simp; rfl)); intro gb141 hg w34 hbox hb; have hB_ := (by repeat (first|(with_reducible first|exact HB.out|apply lA|apply lN|apply lD)|exact HB.out) : Below w.heap.size w _); replace HB := aM (below_step hB_ hb); replace BK141 := aM (hbox); replace GW141 := aM ((bsz hg hB_)); replace GE141 := aM ((bsz hg hB_)); clear hb hbox hg hB_; obtain ⟨hcz35_0, hcz35_1, hcz35_2, hcz35_3, hfz35_0, hfz35_1, hfz35_2, hfz35_3⟩ := bx4z BK141.out))
     go_ret
     exact ⟨by first|rfl|(simp [errW_none, errW_some] <;> rfl)|(simp [*, errW_none, errW_some] <;> rfl), by repeat (first|(with_reducible first|exact HB.out|apply lA|apply lN|apply lD|refine lS ?_ GE141.out)|exact HB.out)⟩
   ·rw [if_neg c21] at H
    have c21b0 : (a0_0 == 1) = false := beq_eq_false_iff_ne.mpr c21
    have c21b1 : (a0_0 != 1) = true := bne_iff_ne.mpr c21
    by_cases c36 : a0_0 = 3
    ·rw [if_pos c36] at H
     have c36b0 : (a0_0 == 3) = true := beq_iff_eq.mpr c36
     have c36b1 : (a0_0 != 3) = false := bne_eq_false_iff_eq.mpr c36
     clear c36
     by_cases c37 : a0_1 > 0
     ·rw [if_pos c37] at H
      have c37b0 : decide (0 < a0_1) = true := decide_eq_true c37
      clear c37
      by_cases c38 : a0_1 < 16
      ·rw [if_pos c38] at H
       have c38b0 : decide (a0_1 < 16) = true := decide_eq_true c38
       clear c38
       by_cases c39 : a0_2 ≥ 0
       ·rw [if_pos c39] at H
        have c39b0 : decide (0 ≤ a0_2) = true := decide_eq_true c39
        clear c39
        by_cases c40 : a0_2 < 16
        ·rw [if_pos c40] at H
         have c40b0 : decide (a0_2 < 16) = true := decide_eq_true c40
         clear c40
         obtain rfl := Option.some.inj H
         go_enter Try.func50, Try.ntmps50
         go_wp2_with (first|((with_reducible refine gate_dst (N := 1) rfl ?_); refine box_event ?hg (N := 1) ?hd (cs := #[.int .i64 a0_0, .int .i64 a0_1, .int .i64 a0_2, .int .i64 a0_3]) (t := 64) ?hr ?_; (case hd => rfl); (case hg => rfl); (case hr => first|(go_simp; done)|(go_simp; rfl)); intro gb141 hg w41 hbox hb; have hB_ := (by repeat (first|(with_reducible first|exact HB.out|apply lA|apply lN|apply lD)|exact HB.out) : Below w.heap.size w _); replace HB := aM (below_step hB_ hb); replace BK141 := aM (hbox); replace GW141 := aM ((bsz hg hB_)); replace GE141 := aM ((bsz hg hB_)); clear hb hbox hg hB_; obtain ⟨hcz42_0, hcz42_1, hcz42_2, hcz42_3, hfz42_0, hfz42_1, hfz42_2, hfz42_3⟩ := bx4z BK141.out))
         go_ret
         exact ⟨by first|rfl|(simp [errW_none, errW_some] <;> rfl)|(simp [*, errW_none, errW_some] <;> rfl), by repeat (first|(with_reducible first|exact HB.out|apply lA|apply lN|apply lD|refine lS ?_ GE141.out)|exact HB.out)⟩
        ·rw [if_neg c40] at H
         have c40b0 : decide (a0_2 < 16) = false := decide_eq_false c40
         clear c40
         obtain rfl := Option.some.inj H
         go_enter Try.func50, Try.ntmps50
         go_wp2_with (first|((with_reducible refine gate_dst (N := 1) rfl ?_); refine box_event ?hg (N := 1) ?hd (cs := #[.int .i64 a0_0, .int .i64 a0_1, .int .i64 a0_2, .int .i64 a0_3]) (t := 64) ?hr ?_; (case hd => rfl); (case hg => rfl); (case hr => first|(go_simp; done)|(go_simp; rfl)); intro gb141 hg w43 hbox hb; have hB_ := (by repeat (first|(with_reducible first|exact HB.out|apply lA|apply lN|apply lD)|exact HB.out) : Below w.heap.size w _); replace HB := aM (below_step hB_ hb); replace BK141 := aM (hbox); replace GW141 := aM ((bsz hg hB_)); replace GE141 := aM ((bsz hg hB_)); clear hb hbox hg hB_; obtain ⟨hcz44_0, hcz44_1, hcz44_2, hcz44_3, hfz44_0, hfz44_1, hfz44_2, hfz44_3⟩ := bx4z BK141.out))
         go_ret
         exact ⟨by first|rfl|(simp [errW_none, errW_some] <;> rfl)|(simp [*, errW_none, errW_some] <;> rfl), by repeat (first|(with_reducible first|exact HB.out|apply lA|apply lN|apply lD|refine lS ?_ GE141.out)|exact HB.out)⟩
       ·rw [if_neg c39] at H
        have c39b0 : decide (0 ≤ a0_2) = false := decide_eq_false c39
        clear c39
        obtain rfl := Option.some.inj H
        go_enter Try.func50, Try.ntmps50
        go_wp2_with (first|((with_reducible refine gate_dst (N := 1) rfl ?_); refine box_event ?hg (N := 1) ?hd (cs := #[.int .i64 a0_0, .int .i64 a0_1, .int .i64 a0_2, .int .i64 a0_3]) (t := 64) ?hr ?_; (case hd => rfl); (case hg => rfl); (case hr => first|(go_simp; done)|(go_simp; rfl)); intro gb141 hg w45 hbox hb; have hB_ := (by repeat (first|(with_reducible first|exact HB.out|apply lA|apply lN|apply lD)|exact HB.out) : Below w.heap.size w _); replace HB := aM (below_step hB_ hb); replace BK141 := aM (hbox); replace GW141 := aM ((bsz hg hB_)); replace GE141 := aM ((bsz hg hB_)); clear hb hbox hg hB_; obtain ⟨hcz46_0, hcz46_1, hcz46_2, hcz46_3, hfz46_0, hfz46_1, hfz46_2, hfz46_3⟩ := bx4z BK141.out))
        go_ret
        exact ⟨by first|rfl|(simp [errW_none, errW_some] <;> rfl)|(simp [*, errW_none, errW_some] <;> rfl), by repeat (first|(with_reducible first|exact HB.out|apply lA|apply lN|apply lD|refine lS ?_ GE141.out)|exact HB.out)⟩
      ·rw [if_neg c38] at H
       have c38b0 : decide (a0_1 < 16) = false := decide_eq_false c38
       clear c38
       obtain rfl := Option.some.inj H
       go_enter Try.func50, Try.ntmps50
       go_wp2_with (first|((with_reducible refine gate_dst (N := 1) rfl ?_); refine box_event ?hg (N := 1) ?hd (cs := #[.int .i64 a0_0, .int .i64 a0_1, .int .i64 a0_2, .int .i64 a0_3]) (t := 64) ?hr ?_; (case hd => rfl); (case hg => rfl); (case hr => first|(go_simp; done)|(go_simp; rfl)); intro gb141 hg w47 hbox hb; have hB_ := (by repeat (first|(with_reducible first|exact HB.out|apply lA|apply lN|apply lD)|exact HB.out) : Below w.heap.size w _); replace HB := aM (below_step hB_ hb); replace BK141 := aM (hbox); replace GW141 := aM ((bsz hg hB_)); replace GE141 := aM ((bsz hg hB_)); clear hb hbox hg hB_; obtain ⟨hcz48_0, hcz48_1, hcz48_2, hcz48_3, hfz48_0, hfz48_1, hfz48_2, hfz48_3⟩ := bx4z BK141.out))
       go_ret
       exact ⟨by first|rfl|(simp [errW_none, errW_some] <;> rfl)|(simp [*, errW_none, errW_some] <;> rfl), by repeat (first|(with_reducible first|exact HB.out|apply lA|apply lN|apply lD|refine lS ?_ GE141.out)|exact HB.out)⟩
     ·rw [if_neg c37] at H
      have c37b0 : decide (0 < a0_1) = false := decide_eq_false c37
      clear c37
      obtain rfl := Option.some.inj H
      go_enter Try.func50, Try.ntmps50
      go_wp2_with (first|((with_reducible refine gate_dst (N := 1) rfl ?_); refine box_event ?hg (N := 1) ?hd (cs := #[.int .i64 a0_0, .int .i64 a0_1, .int .i64 a0_2, .int .i64 a0_3]) (t := 64) ?hr ?_; (case hd => rfl); (case hg => rfl); (case hr => first|(go_simp; done)|(go_simp; rfl)); intro gb141 hg w49 hbox hb; have hB_ := (by repeat (first|(with_reducible first|exact HB.out|apply lA|apply lN|apply lD)|exact HB.out) : Below w.heap.size w _); replace HB := aM (below_step hB_ hb); replace BK141 := aM (hbox); replace GW141 := aM ((bsz hg hB_)); replace GE141 := aM ((bsz hg hB_)); clear hb hbox hg hB_; obtain ⟨hcz50_0, hcz50_1, hcz50_2, hcz50_3, hfz50_0, hfz50_1, hfz50_2, hfz50_3⟩ := bx4z BK141.out))
      go_ret
      exact ⟨by first|rfl|(simp [errW_none, errW_some] <;> rfl)|(simp [*, errW_none, errW_some] <;> rfl), by repeat (first|(with_reducible first|exact HB.out|apply lA|apply lN|apply lD|refine lS ?_ GE141.out)|exact HB.out)⟩
    ·rw [if_neg c36] at H
     have c36b0 : (a0_0 == 3) = false := beq_eq_false_iff_ne.mpr c36
     have c36b1 : (a0_0 != 3) = true := bne_iff_ne.mpr c36
     obtain rfl := Option.some.inj H
     go_enter Try.func50, Try.ntmps50
     go_wp2_with (first|((with_reducible refine gate_dst (N := 1) rfl ?_); refine box_event ?hg (N := 1) ?hd (cs := #[.int .i64 a0_0, .int .i64 a0_1, .int .i64 a0_2, .int .i64 a0_3]) (t := 64) ?hr ?_; (case hd => rfl); (case hg => rfl); (case hr => first|(go_simp; done)|(go_simp; rfl)); intro gb141 hg w51 hbox hb; have hB_ := (by repeat (first|(with_reducible first|exact HB.out|apply lA|apply lN|apply lD)|exact HB.out) : Below w.heap.size w _); replace HB := aM (below_step hB_ hb); replace BK141 := aM (hbox); replace GW141 := aM ((bsz hg hB_)); replace GE141 := aM ((bsz hg hB_)); clear hb hbox hg hB_; obtain ⟨hcz52_0, hcz52_1, hcz52_2, hcz52_3, hfz52_0, hfz52_1, hfz52_2, hfz52_3⟩ := bx4z BK141.out))
     go_ret
     exact ⟨by first|rfl|(simp [errW_none, errW_some] <;> rfl)|(simp [*, errW_none, errW_some] <;> rfl), by repeat (first|(with_reducible first|exact HB.out|apply lA|apply lN|apply lD|refine lS ?_ GE141.out)|exact HB.out)⟩

end Go.Proofs.Ytjpmlggkhhoooaa.PDq
-- Written for this claim by a program (the kit's print, with hand-made contracts for what it does not take).
namespace Go.Proofs.Ytjpmlggkhhoooaa.PDq
open Go.RowKit Go.Proofs.YtjpmlggkhhoooaaW.PrintWords Go.Proofs.YtjpmlggkhhoooaaW.PrintLast Go.Proofs.YtjpmlggkhhoooaaW.PrintMore
attribute [local go_sem] max2_int min2_int max_two min_two max_three min_three max_four min_four   -- for this text's walks alone
set_option linter.unusedVariables false
set_option linter.unusedSimpArgs false


def flat_Check.l0 : List S64 → Int → Int → Option (Int × Int)
|[], n, i => if n > 0 then some (i, 3) else some (i, 0)
|t :: ts, n, i => (flat_Right.f t.f0 t.f1 t.f2 t.f3).bind fun b => if b = true then (if t.f0 = 2 then (if n = 0 then some (i, 4) else flat_Check.l0 ts (n - 1) (i + 1)) else if t.f0 = 1 then (if n = 32 then some (i, 8) else flat_Check.l0 ts (n + 1) (i + 1)) else flat_Check.l0 ts n (i + 1)) else some (i, 4)
def flat_Check.f (l0 : List S64) : Option (Int × Int) := if (l0.length : Int) > 2048 then some (0, 2) else flat_Check.l0 l0 0 0
/-- The array of what is open: it is written, never read. -/
def flat_Check.Arr (W : World) (g : Nat) : Prop := ∃ cs : Array Value, cs.size = 32 ∧ (∀ v ∈ cs, v.oneCell' = true) ∧ W.heap[g]? = some (.cells cs 95 (0, 0))
theorem flat_Check.arr_below {W W1 : World} {g : Nat} (h : flat_Check.Arr W g) (hb : Below W.heap.size W W1) : flat_Check.Arr W1 g := by
 obtain ⟨cs, h1, h2, h3⟩ := h
 exact ⟨cs, h1, h2, blk_below h3 hb⟩
theorem flat_Check.arr_far {W : World} {g b j : Nat} (h : flat_Check.Arr W g) (hne : g ≠ b) (u : Value) : flat_Check.Arr (W.setCell ⟨b, j, none⟩ u) g := by
 obtain ⟨cs, h1, h2, h3⟩ := h
 exact ⟨cs, h1, h2, bF h3 hne u⟩
theorem flat_Check.arr_drewN {W : World} {g : Nat} (h : flat_Check.Arr W g) (m : Nat) : flat_Check.Arr (W.drewN m) g := h
theorem flat_Check.arr_drew {W : World} {g : Nat} (h : flat_Check.Arr W g) : flat_Check.Arr W.drew g := h
theorem flat_Check.arr_set {W : World} {g : Nat} (h : flat_Check.Arr W g) (j : Nat) (x : Int) : flat_Check.Arr (W.setCell ⟨g, j, none⟩ (.int .i64 x)) g := by
 obtain ⟨cs, h1, h2, h3⟩ := h
 refine ⟨cs.setIfInBounds j (.int .i64 x), by simpa using h1, ?_, by simpa using blk_set h3 j (.int .i64 x)⟩
 intro v hv
 rcases Array.mem_or_eq_of_mem_setIfInBounds hv with hv|hv
 ·exact h2 v hv
 ·subst hv
  rfl
theorem flat_Check.arr_cell {W : World} {g : Nat} (h : flat_Check.Arr W g) (j : Nat) (hj : j < 32) : (∃ v, W.cell? ⟨g, j, none⟩ = some v ∧ v.oneCell' = true) ∧ W.frozen? ⟨g, j, none⟩ = false := by
 obtain ⟨cs, h1, h2, h3⟩ := h
 refine ⟨⟨cs[j]'(by omega), ?_, h2 _ (Array.getElem_mem _)⟩, blk_frozen h3 j⟩
 rw [blk_cell h3 j]
 exact Array.getElem?_eq_getElem _
theorem flat_Check.step (l0 : List S64) (n i : Int) (hi : i.toNat < l0.length) : flat_Check.l0 (l0.drop i.toNat) n i = (flat_Right.f (rd_T64 l0 i).f0 (rd_T64 l0 i).f1 (rd_T64 l0 i).f2 (rd_T64 l0 i).f3).bind fun b => if b = true then (if (rd_T64 l0 i).f0 = 2 then (if n = 0 then some (i, 4) else flat_Check.l0 (l0.drop (i.toNat + 1)) (n - 1) (i + 1)) else if (rd_T64 l0 i).f0 = 1 then (if n = 32 then some (i, 8) else flat_Check.l0 (l0.drop (i.toNat + 1)) (n + 1) (i + 1)) else flat_Check.l0 (l0.drop (i.toNat + 1)) n (i + 1)) else some (i, 4) := by
 have e : rd_T64 l0 i = l0[i.toNat] := by simp [rd_T64, List.getD_eq_getElem?_getD, List.getElem?_eq_getElem hi]
 rw [List.drop_eq_getElem_cons hi, e]
 rfl

set_option maxHeartbeats 8000000 in
set_option maxRecDepth 100000 in
theorem flat_Check.calls (A0 : Option Addr) (c0 : Nat) (l0 : List S64) (r1 : Int) (r2 : Int) (w : World) (hr0 : Kd.C k64 w A0 l0.length l0) (hc0 : l0.length ≤ c0) (h : flat_Check.f l0 = some (r1, r2)) :
  Calls Try.prog 36 #[.slice A0 l0.length c0] w fun e w' => e = .returned (.tuple #[.int .i64 r1, .int .i64 r2]) ∧ Below w.heap.size w w' := by
 have hu_ := Try.underlying64
 have hu2_ := Try.underlying95
 have HR0 := aM hr0
 have HC0 := aM hc0
 clear hr0 hc0
 have HB := aM (Below.refl w.heap.size w)
 unfold flat_Check.f at h
 by_cases c2 : (l0.length : Int) > 2048
 ·rw [if_pos c2] at h
  have c2b0 : decide (2048 < (l0.length : Int)) = true := decide_eq_true c2
  have c2b1 : decide (2048 < l0.length) = true := decide_eq_true (by omega)
  clear c2
  simp only [Option.some.injEq, Prod.mk.injEq] at h
  obtain ⟨rfl, rfl⟩ := h
  go_enter Try.func36, Try.ntmps36
  go_wp2
  go_ret2
  exact ⟨rfl, HB.out⟩
 ·rw [if_neg c2] at h
  have c2b0 : decide (2048 < (l0.length : Int)) = false := decide_eq_false c2
  have c2b1 : decide (2048 < l0.length) = false := decide_eq_false (by omega)
  have HL := aM (show l0.length ≤ 2048 from by omega)
  clear c2
  have H' := aM h
  clear h
  go_enter Try.func36, Try.ntmps36
  go_wp2_with (first|((with_reducible refine gate_dst (N := 4) rfl ?_); refine box_event ?hg (N := 4) ?hd (cs := Array.replicate 32 (.int .i64 0)) (t := 95) ?hr ?_; (case hd => rfl); (case hg => rfl); (case hr => first|(go_simp; done)|(go_simp; rfl)); intro gA hg w3 hbox hb; have n0_ := aM (below_step (by repeat (first|(with_reducible first|exact HB.out|apply lA|apply lN|apply lD)|exact HB.out)) hb); have GA := aM ((by rw [hg]; exact (below_size (by repeat (first|(with_reducible first|exact HB.out|apply lA|apply lN|apply lD)|exact HB.out)))) : w.heap.size ≤ gA); have HAR := aM (show flat_Check.Arr w3 gA from ⟨_, by simp, by simp [Value.oneCell'], hbox⟩); clear HB; have HB := n0_; clear n0_ hb hbox hg))
  go_loopg [5, 13] l0.length (fun kq v5 v13 w' => ∃ (n i : Int), v5 = .int .i64 n ∧ v13 = .int .i64 i ∧ Aside0 (0 ≤ i ∧ i + kq = l0.length) ∧ Aside0 (0 ≤ n ∧ n ≤ 32) ∧ Aside0 (flat_Check.l0 (l0.drop i.toNat) n i = some (r1, r2)) ∧ Aside0 (flat_Check.Arr w' gA) ∧ Aside0 (Below w.heap.size w w'))
  case atStart => exact ⟨0, 0, rfl, rfl, ⟨by omega⟩, ⟨by omega⟩, H', HAR, HB⟩
  case round =>
   clear H' HAR HB c2b0 c2b1
   obtain ⟨n, i, rfl, rfl, HI, HN, HA, HAR, HB⟩ := hrel
   have hI := HI.out
   have hN := HN.out
   have h := HA.out
   have hL := HL.out
   clear HI HN HA HL
   by_cases c3 : i < (l0.length : Int)
   ·have c3b : decide (i < (l0.length : Int)) = true := decide_eq_true c3
    have c3c : decide (0 ≤ i) = true := decide_eq_true hI.1
    rw [flat_Check.step l0 n i (by omega)] at h
    obtain ⟨tb, A60, h⟩ := Option.bind_eq_some_iff.mp h
    have A6 := aM A60
    clear A60
    obtain ⟨ad, e_, hx0, hx1, hx2, hx3⟩ := at_T64 HR0.out i hI.1 c3
    cases e_
    replace hx0 := cB HB.out hx0
    replace hx1 := cB HB.out hx1
    replace hx2 := cB HB.out hx2
    replace hx3 := cB HB.out hx3
    have HI := aM hI
    have HN := aM hN
    have C3 := aM c3
    have p1 := eq_true hI.1
    have q1 := eq_true c3
    have wi : wrap64 (i + 1) = i + 1 := by unfold wrap64; omega
    have wn : wrap64 (n + 1) = n + 1 := by unfold wrap64; omega
    have wm : 0 < n → wrap64 (n - 1) = n - 1 := by intro _; unfold wrap64; omega
    have WI := aM wi
    have WN := aM wn
    have WM := aM wm
    clear wi wn wm
    have T1 := aM (show (i + 1).toNat = i.toNat + 1 from by omega)
    clear hI hN c3 hL
    cases tb with
   |false =>
     rw [if_neg (by decide)] at h
     simp only [Option.some.injEq, Prod.mk.injEq] at h
     obtain ⟨rfl, rfl⟩ := h
     go_wp2_with (first|((with_reducible refine gate_dst (N := 7) rfl ?_); refine box_event ?hg (N := 7) ?hd (cs := #[.int .i64 0, .int .i64 0, .int .i64 0, .int .i64 0]) (t := 64) ?hr ?_; (case hd => rfl); (case hg => rfl); (case hr => first|(go_simp; done)|(go_simp; rfl)); intro gb hg w8 hbox hb; have hB_ := (by repeat (first|(with_reducible first|exact HB.out|apply lA|apply lN|apply lD)|exact HB.out) : Below w.heap.size w _); have n0_ := aM (below_step hB_ hb); have n2_ := aM ((bsz hg hB_) : w.heap.size ≤ gb); have n3_ := aM (flat_Check.arr_below HAR.out hb); clear HB HAR; have HB := n0_; have BK := aM hbox; have GE := n2_; have HAR := n3_; have HNE := aM (show gA ≠ gb from by obtain ⟨_, _, _, ha_⟩ := HAR.out; exact blk_ne ha_ BK.out (by decide)); clear n0_ n2_ n3_; clear hb hbox hg hB_; have hcz_0 : w8.cell? ⟨gb, 0, none⟩ = some (.int .i64 0) := (blk_cell BK.out 0).trans rfl; have hcz_1 : w8.cell? ⟨gb, 1, none⟩ = some (.int .i64 0) := (blk_cell BK.out 1).trans rfl; have hcz_2 : w8.cell? ⟨gb, 2, none⟩ = some (.int .i64 0) := (blk_cell BK.out 2).trans rfl; have hcz_3 : w8.cell? ⟨gb, 3, none⟩ = some (.int .i64 0) := (blk_cell BK.out 3).trans rfl; have hfz_0 := blk_frozen BK.out 0; have hfz_1 := blk_frozen BK.out 1; have hfz_2 := blk_frozen BK.out 2; have hfz_3 := blk_frozen BK.out 3))
     refine (flat_Right.calls (rd_T64 l0 i).f0 (rd_T64 l0 i).f1 (rd_T64 l0 i).f2 (rd_T64 l0 i).f3 _ _ A6.out).mono ?_
     rintro e w10 ⟨rfl, hb⟩
     have n0_ := aM (blk_below (g := gb) (o := .cells #[.int .i64 (rd_T64 l0 i).f0, .int .i64 (rd_T64 l0 i).f1, .int .i64 (rd_T64 l0 i).f2, .int .i64 (rd_T64 l0 i).f3] 64 (0, 0)) (by (with_reducible repeat (first|refine bN ?_ _|refine bD ?_|refine bA ?_ _)); apply put4; (with_reducible repeat (first|refine bN ?_ _|refine bD ?_|refine bA ?_ _)); exact BK.out) hb)
     have n1_ := aM (below_step (by repeat (first|(with_reducible first|exact HB.out|apply lA|apply lN|apply lD|refine lS ?_ GE.out)|exact HB.out)) hb)
     have n2_ := aM (flat_Check.arr_below (by repeat (with_reducible first|exact HAR.out|refine flat_Check.arr_drewN ?_ _|refine flat_Check.arr_drew ?_|refine flat_Check.arr_far ?_ HNE.out _)) hb)
     clear BK HB HAR
     have BK := n0_
     have HB := n1_
     have HAR := n2_
     clear n0_ n1_ n2_ hb
     clear hcz_0 hcz_1 hcz_2 hcz_3 hfz_0 hfz_1 hfz_2 hfz_3
     have hcy_0 : w10.cell? ⟨gb, 0, none⟩ = some (.int .i64 (rd_T64 l0 i).f0) := (blk_cell BK.out 0).trans rfl
     have hcy_1 : w10.cell? ⟨gb, 1, none⟩ = some (.int .i64 (rd_T64 l0 i).f1) := (blk_cell BK.out 1).trans rfl
     have hcy_2 : w10.cell? ⟨gb, 2, none⟩ = some (.int .i64 (rd_T64 l0 i).f2) := (blk_cell BK.out 2).trans rfl
     have hcy_3 : w10.cell? ⟨gb, 3, none⟩ = some (.int .i64 (rd_T64 l0 i).f3) := (blk_cell BK.out 3).trans rfl
     go_wp2
     go_ret2
     exact ⟨rfl, (by repeat (first|(with_reducible first|exact HB.out|apply lA|apply lN|apply lD|refine lS ?_ GE.out)|exact HB.out))⟩
   |true =>
     rw [if_pos rfl] at h
     by_cases c4 : (rd_T64 l0 i).f0 = 2
     ·rw [if_pos c4] at h
      have c4b0 : ((rd_T64 l0 i).f0 == 2) = true := beq_iff_eq.mpr c4
      have c4b1 : ((rd_T64 l0 i).f0 == 1) = false := beq_eq_false_iff_ne.mpr (by omega)
      clear c4
      by_cases c5 : n = 0
      ·rw [if_pos c5] at h
       have c5b0 : (n == 0) = true := beq_iff_eq.mpr c5
       clear c5
       simp only [Option.some.injEq, Prod.mk.injEq] at h
       obtain ⟨rfl, rfl⟩ := h
       go_wp2_with (first|((with_reducible refine gate_dst (N := 7) rfl ?_); refine box_event ?hg (N := 7) ?hd (cs := #[.int .i64 0, .int .i64 0, .int .i64 0, .int .i64 0]) (t := 64) ?hr ?_; (case hd => rfl); (case hg => rfl); (case hr => first|(go_simp; done)|(go_simp; rfl)); intro gb hg w8 hbox hb; have hB_ := (by repeat (first|(with_reducible first|exact HB.out|apply lA|apply lN|apply lD)|exact HB.out) : Below w.heap.size w _); have n0_ := aM (below_step hB_ hb); have n2_ := aM ((bsz hg hB_) : w.heap.size ≤ gb); have n3_ := aM (flat_Check.arr_below HAR.out hb); clear HB HAR; have HB := n0_; have BK := aM hbox; have GE := n2_; have HAR := n3_; have HNE := aM (show gA ≠ gb from by obtain ⟨_, _, _, ha_⟩ := HAR.out; exact blk_ne ha_ BK.out (by decide)); clear n0_ n2_ n3_; clear hb hbox hg hB_; have hcz_0 : w8.cell? ⟨gb, 0, none⟩ = some (.int .i64 0) := (blk_cell BK.out 0).trans rfl; have hcz_1 : w8.cell? ⟨gb, 1, none⟩ = some (.int .i64 0) := (blk_cell BK.out 1).trans rfl; have hcz_2 : w8.cell? ⟨gb, 2, none⟩ = some (.int .i64 0) := (blk_cell BK.out 2).trans rfl; have hcz_3 : w8.cell? ⟨gb, 3, none⟩ = some (.int .i64 0) := (blk_cell BK.out 3).trans rfl; have hfz_0 := blk_frozen BK.out 0; have hfz_1 := blk_frozen BK.out 1; have hfz_2 := blk_frozen BK.out 2; have hfz_3 := blk_frozen BK.out 3))
       refine (flat_Right.calls (rd_T64 l0 i).f0 (rd_T64 l0 i).f1 (rd_T64 l0 i).f2 (rd_T64 l0 i).f3 _ _ A6.out).mono ?_
       rintro e w10 ⟨rfl, hb⟩
       have n0_ := aM (blk_below (g := gb) (o := .cells #[.int .i64 (rd_T64 l0 i).f0, .int .i64 (rd_T64 l0 i).f1, .int .i64 (rd_T64 l0 i).f2, .int .i64 (rd_T64 l0 i).f3] 64 (0, 0)) (by (with_reducible repeat (first|refine bN ?_ _|refine bD ?_|refine bA ?_ _)); apply put4; (with_reducible repeat (first|refine bN ?_ _|refine bD ?_|refine bA ?_ _)); exact BK.out) hb)
       have n1_ := aM (below_step (by repeat (first|(with_reducible first|exact HB.out|apply lA|apply lN|apply lD|refine lS ?_ GE.out)|exact HB.out)) hb)
       have n2_ := aM (flat_Check.arr_below (by repeat (with_reducible first|exact HAR.out|refine flat_Check.arr_drewN ?_ _|refine flat_Check.arr_drew ?_|refine flat_Check.arr_far ?_ HNE.out _)) hb)
       clear BK HB HAR
       have BK := n0_
       have HB := n1_
       have HAR := n2_
       clear n0_ n1_ n2_ hb
       clear hcz_0 hcz_1 hcz_2 hcz_3 hfz_0 hfz_1 hfz_2 hfz_3
       have hcy_0 : w10.cell? ⟨gb, 0, none⟩ = some (.int .i64 (rd_T64 l0 i).f0) := (blk_cell BK.out 0).trans rfl
       have hcy_1 : w10.cell? ⟨gb, 1, none⟩ = some (.int .i64 (rd_T64 l0 i).f1) := (blk_cell BK.out 1).trans rfl
       have hcy_2 : w10.cell? ⟨gb, 2, none⟩ = some (.int .i64 (rd_T64 l0 i).f2) := (blk_cell BK.out 2).trans rfl
       have hcy_3 : w10.cell? ⟨gb, 3, none⟩ = some (.int .i64 (rd_T64 l0 i).f3) := (blk_cell BK.out 3).trans rfl
       go_wp2
       go_ret2
       exact ⟨rfl, (by repeat (first|(with_reducible first|exact HB.out|apply lA|apply lN|apply lD|refine lS ?_ GE.out)|exact HB.out))⟩
      ·rw [if_neg c5] at h
       have c5b0 : (n == 0) = false := beq_eq_false_iff_ne.mpr c5
       have C5 := aM c5
       have wm := WM.out (by have := HN.out; omega)
       clear c5
       have H' := aM h
       clear h
       go_wp2_with (first|((with_reducible refine gate_dst (N := 7) rfl ?_); refine box_event ?hg (N := 7) ?hd (cs := #[.int .i64 0, .int .i64 0, .int .i64 0, .int .i64 0]) (t := 64) ?hr ?_; (case hd => rfl); (case hg => rfl); (case hr => first|(go_simp; done)|(go_simp; rfl)); intro gb hg w8 hbox hb; have hB_ := (by repeat (first|(with_reducible first|exact HB.out|apply lA|apply lN|apply lD)|exact HB.out) : Below w.heap.size w _); have n0_ := aM (below_step hB_ hb); have n2_ := aM ((bsz hg hB_) : w.heap.size ≤ gb); have n3_ := aM (flat_Check.arr_below HAR.out hb); clear HB HAR; have HB := n0_; have BK := aM hbox; have GE := n2_; have HAR := n3_; have HNE := aM (show gA ≠ gb from by obtain ⟨_, _, _, ha_⟩ := HAR.out; exact blk_ne ha_ BK.out (by decide)); clear n0_ n2_ n3_; clear hb hbox hg hB_; have hcz_0 : w8.cell? ⟨gb, 0, none⟩ = some (.int .i64 0) := (blk_cell BK.out 0).trans rfl; have hcz_1 : w8.cell? ⟨gb, 1, none⟩ = some (.int .i64 0) := (blk_cell BK.out 1).trans rfl; have hcz_2 : w8.cell? ⟨gb, 2, none⟩ = some (.int .i64 0) := (blk_cell BK.out 2).trans rfl; have hcz_3 : w8.cell? ⟨gb, 3, none⟩ = some (.int .i64 0) := (blk_cell BK.out 3).trans rfl; have hfz_0 := blk_frozen BK.out 0; have hfz_1 := blk_frozen BK.out 1; have hfz_2 := blk_frozen BK.out 2; have hfz_3 := blk_frozen BK.out 3))
       refine (flat_Right.calls (rd_T64 l0 i).f0 (rd_T64 l0 i).f1 (rd_T64 l0 i).f2 (rd_T64 l0 i).f3 _ _ A6.out).mono ?_
       rintro e w10 ⟨rfl, hb⟩
       have n0_ := aM (blk_below (g := gb) (o := .cells #[.int .i64 (rd_T64 l0 i).f0, .int .i64 (rd_T64 l0 i).f1, .int .i64 (rd_T64 l0 i).f2, .int .i64 (rd_T64 l0 i).f3] 64 (0, 0)) (by (with_reducible repeat (first|refine bN ?_ _|refine bD ?_|refine bA ?_ _)); apply put4; (with_reducible repeat (first|refine bN ?_ _|refine bD ?_|refine bA ?_ _)); exact BK.out) hb)
       have n1_ := aM (below_step (by repeat (first|(with_reducible first|exact HB.out|apply lA|apply lN|apply lD|refine lS ?_ GE.out)|exact HB.out)) hb)
       have n2_ := aM (flat_Check.arr_below (by repeat (with_reducible first|exact HAR.out|refine flat_Check.arr_drewN ?_ _|refine flat_Check.arr_drew ?_|refine flat_Check.arr_far ?_ HNE.out _)) hb)
       clear BK HB HAR
       have BK := n0_
       have HB := n1_
       have HAR := n2_
       clear n0_ n1_ n2_ hb
       clear hcz_0 hcz_1 hcz_2 hcz_3 hfz_0 hfz_1 hfz_2 hfz_3
       have hcy_0 : w10.cell? ⟨gb, 0, none⟩ = some (.int .i64 (rd_T64 l0 i).f0) := (blk_cell BK.out 0).trans rfl
       have hcy_1 : w10.cell? ⟨gb, 1, none⟩ = some (.int .i64 (rd_T64 l0 i).f1) := (blk_cell BK.out 1).trans rfl
       have hcy_2 : w10.cell? ⟨gb, 2, none⟩ = some (.int .i64 (rd_T64 l0 i).f2) := (blk_cell BK.out 2).trans rfl
       have hcy_3 : w10.cell? ⟨gb, 3, none⟩ = some (.int .i64 (rd_T64 l0 i).f3) := (blk_cell BK.out 3).trans rfl
       go_wp2
       go_roundg (gk - 1)
       case measure => have := HI.out; have := C3.out; omega
       case rel => exact ⟨n - 1, i + 1, by first|rfl|(rw [WN.out]; done)|go_num, by first|rfl|(rw [WI.out]; done)|go_num, ⟨by have := HI.out; have := C3.out; omega⟩, ⟨by have := HN.out; have := C5.out; omega⟩, ⟨by rw [T1.out]; exact H'.out⟩, ⟨(by repeat (with_reducible first|exact HAR.out|refine flat_Check.arr_drewN ?_ _|refine flat_Check.arr_drew ?_|refine flat_Check.arr_far ?_ HNE.out _|refine flat_Check.arr_set ?_ _ _))⟩, ⟨(by repeat (first|(with_reducible first|exact HB.out|apply lA|apply lN|apply lD|refine lS ?_ GE.out|refine lS ?_ GA.out)|exact HB.out))⟩⟩
     ·rw [if_neg c4] at h
      have c4b0 : ((rd_T64 l0 i).f0 == 2) = false := beq_eq_false_iff_ne.mpr c4
      clear c4
      by_cases c6 : (rd_T64 l0 i).f0 = 1
      ·rw [if_pos c6] at h
       have c6b0 : ((rd_T64 l0 i).f0 == 1) = true := beq_iff_eq.mpr c6
       clear c6
       by_cases c7 : n = 32
       ·rw [if_pos c7] at h
        have c7b0 : (n == 32) = true := beq_iff_eq.mpr c7
        clear c7
        simp only [Option.some.injEq, Prod.mk.injEq] at h
        obtain ⟨rfl, rfl⟩ := h
        go_wp2_with (first|((with_reducible refine gate_dst (N := 7) rfl ?_); refine box_event ?hg (N := 7) ?hd (cs := #[.int .i64 0, .int .i64 0, .int .i64 0, .int .i64 0]) (t := 64) ?hr ?_; (case hd => rfl); (case hg => rfl); (case hr => first|(go_simp; done)|(go_simp; rfl)); intro gb hg w8 hbox hb; have hB_ := (by repeat (first|(with_reducible first|exact HB.out|apply lA|apply lN|apply lD)|exact HB.out) : Below w.heap.size w _); have n0_ := aM (below_step hB_ hb); have n2_ := aM ((bsz hg hB_) : w.heap.size ≤ gb); have n3_ := aM (flat_Check.arr_below HAR.out hb); clear HB HAR; have HB := n0_; have BK := aM hbox; have GE := n2_; have HAR := n3_; have HNE := aM (show gA ≠ gb from by obtain ⟨_, _, _, ha_⟩ := HAR.out; exact blk_ne ha_ BK.out (by decide)); clear n0_ n2_ n3_; clear hb hbox hg hB_; have hcz_0 : w8.cell? ⟨gb, 0, none⟩ = some (.int .i64 0) := (blk_cell BK.out 0).trans rfl; have hcz_1 : w8.cell? ⟨gb, 1, none⟩ = some (.int .i64 0) := (blk_cell BK.out 1).trans rfl; have hcz_2 : w8.cell? ⟨gb, 2, none⟩ = some (.int .i64 0) := (blk_cell BK.out 2).trans rfl; have hcz_3 : w8.cell? ⟨gb, 3, none⟩ = some (.int .i64 0) := (blk_cell BK.out 3).trans rfl; have hfz_0 := blk_frozen BK.out 0; have hfz_1 := blk_frozen BK.out 1; have hfz_2 := blk_frozen BK.out 2; have hfz_3 := blk_frozen BK.out 3))
        refine (flat_Right.calls (rd_T64 l0 i).f0 (rd_T64 l0 i).f1 (rd_T64 l0 i).f2 (rd_T64 l0 i).f3 _ _ A6.out).mono ?_
        rintro e w10 ⟨rfl, hb⟩
        have n0_ := aM (blk_below (g := gb) (o := .cells #[.int .i64 (rd_T64 l0 i).f0, .int .i64 (rd_T64 l0 i).f1, .int .i64 (rd_T64 l0 i).f2, .int .i64 (rd_T64 l0 i).f3] 64 (0, 0)) (by (with_reducible repeat (first|refine bN ?_ _|refine bD ?_|refine bA ?_ _)); apply put4; (with_reducible repeat (first|refine bN ?_ _|refine bD ?_|refine bA ?_ _)); exact BK.out) hb)
        have n1_ := aM (below_step (by repeat (first|(with_reducible first|exact HB.out|apply lA|apply lN|apply lD|refine lS ?_ GE.out)|exact HB.out)) hb)
        have n2_ := aM (flat_Check.arr_below (by repeat (with_reducible first|exact HAR.out|refine flat_Check.arr_drewN ?_ _|refine flat_Check.arr_drew ?_|refine flat_Check.arr_far ?_ HNE.out _)) hb)
        clear BK HB HAR
        have BK := n0_
        have HB := n1_
        have HAR := n2_
        clear n0_ n1_ n2_ hb
        clear hcz_0 hcz_1 hcz_2 hcz_3 hfz_0 hfz_1 hfz_2 hfz_3
        have hcy_0 : w10.cell? ⟨gb, 0, none⟩ = some (.int .i64 (rd_T64 l0 i).f0) := (blk_cell BK.out 0).trans rfl
        have hcy_1 : w10.cell? ⟨gb, 1, none⟩ = some (.int .i64 (rd_T64 l0 i).f1) := (blk_cell BK.out 1).trans rfl
        have hcy_2 : w10.cell? ⟨gb, 2, none⟩ = some (.int .i64 (rd_T64 l0 i).f2) := (blk_cell BK.out 2).trans rfl
        have hcy_3 : w10.cell? ⟨gb, 3, none⟩ = some (.int .i64 (rd_T64 l0 i).f3) := (blk_cell BK.out 3).trans rfl
        go_wp2
        go_ret2
        exact ⟨rfl, (by repeat (first|(with_reducible first|exact HB.out|apply lA|apply lN|apply lD|refine lS ?_ GE.out)|exact HB.out))⟩
       ·rw [if_neg c7] at h
        have c7b0 : (n == 32) = false := beq_eq_false_iff_ne.mpr c7
        have C7 := aM c7
        have q7 : n < 32 := by have := HN.out; omega
        have q8 : 0 ≤ n := HN.out.1
        have wn := WN.out
        clear c7
        have H' := aM h
        clear h
        go_wp2_with (first|((with_reducible refine gate_dst (N := 7) rfl ?_); refine box_event ?hg (N := 7) ?hd (cs := #[.int .i64 0, .int .i64 0, .int .i64 0, .int .i64 0]) (t := 64) ?hr ?_; (case hd => rfl); (case hg => rfl); (case hr => first|(go_simp; done)|(go_simp; rfl)); intro gb hg w8 hbox hb; have hB_ := (by repeat (first|(with_reducible first|exact HB.out|apply lA|apply lN|apply lD)|exact HB.out) : Below w.heap.size w _); have n0_ := aM (below_step hB_ hb); have n2_ := aM ((bsz hg hB_) : w.heap.size ≤ gb); have n3_ := aM (flat_Check.arr_below HAR.out hb); clear HB HAR; have HB := n0_; have BK := aM hbox; have GE := n2_; have HAR := n3_; have HNE := aM (show gA ≠ gb from by obtain ⟨_, _, _, ha_⟩ := HAR.out; exact blk_ne ha_ BK.out (by decide)); clear n0_ n2_ n3_; clear hb hbox hg hB_; have hcz_0 : w8.cell? ⟨gb, 0, none⟩ = some (.int .i64 0) := (blk_cell BK.out 0).trans rfl; have hcz_1 : w8.cell? ⟨gb, 1, none⟩ = some (.int .i64 0) := (blk_cell BK.out 1).trans rfl; have hcz_2 : w8.cell? ⟨gb, 2, none⟩ = some (.int .i64 0) := (blk_cell BK.out 2).trans rfl; have hcz_3 : w8.cell? ⟨gb, 3, none⟩ = some (.int .i64 0) := (blk_cell BK.out 3).trans rfl; have hfz_0 := blk_frozen BK.out 0; have hfz_1 := blk_frozen BK.out 1; have hfz_2 := blk_frozen BK.out 2; have hfz_3 := blk_frozen BK.out 3))
        refine (flat_Right.calls (rd_T64 l0 i).f0 (rd_T64 l0 i).f1 (rd_T64 l0 i).f2 (rd_T64 l0 i).f3 _ _ A6.out).mono ?_
        rintro e w10 ⟨rfl, hb⟩
        have n0_ := aM (blk_below (g := gb) (o := .cells #[.int .i64 (rd_T64 l0 i).f0, .int .i64 (rd_T64 l0 i).f1, .int .i64 (rd_T64 l0 i).f2, .int .i64 (rd_T64 l0 i).f3] 64 (0, 0)) (by (with_reducible repeat (first|refine bN ?_ _|refine bD ?_|refine bA ?_ _)); apply put4; (with_reducible repeat (first|refine bN ?_ _|refine bD ?_|refine bA ?_ _)); exact BK.out) hb)
        have n1_ := aM (below_step (by repeat (first|(with_reducible first|exact HB.out|apply lA|apply lN|apply lD|refine lS ?_ GE.out)|exact HB.out)) hb)
        have n2_ := aM (flat_Check.arr_below (by repeat (with_reducible first|exact HAR.out|refine flat_Check.arr_drewN ?_ _|refine flat_Check.arr_drew ?_|refine flat_Check.arr_far ?_ HNE.out _)) hb)
        clear BK HB HAR
        have BK := n0_
        have HB := n1_
        have HAR := n2_
        clear n0_ n1_ n2_ hb
        clear hcz_0 hcz_1 hcz_2 hcz_3 hfz_0 hfz_1 hfz_2 hfz_3
        have hcy_0 : w10.cell? ⟨gb, 0, none⟩ = some (.int .i64 (rd_T64 l0 i).f0) := (blk_cell BK.out 0).trans rfl
        have hcy_1 : w10.cell? ⟨gb, 1, none⟩ = some (.int .i64 (rd_T64 l0 i).f1) := (blk_cell BK.out 1).trans rfl
        have hcy_2 : w10.cell? ⟨gb, 2, none⟩ = some (.int .i64 (rd_T64 l0 i).f2) := (blk_cell BK.out 2).trans rfl
        have hcy_3 : w10.cell? ⟨gb, 3, none⟩ = some (.int .i64 (rd_T64 l0 i).f3) := (blk_cell BK.out 3).trans rfl
        obtain ⟨⟨va, hva, ho1⟩, hvf⟩ := flat_Check.arr_cell HAR.out n.toNat (by omega)
        go_wp2
        go_roundg (gk - 1)
        case measure => have := HI.out; have := C3.out; omega
        case rel => exact ⟨n + 1, i + 1, by first|rfl|(rw [WN.out]; done)|go_num, by first|rfl|(rw [WI.out]; done)|go_num, ⟨by have := HI.out; have := C3.out; omega⟩, ⟨by have := HN.out; have := C7.out; omega⟩, ⟨by rw [T1.out]; exact H'.out⟩, ⟨(by repeat (with_reducible first|exact HAR.out|refine flat_Check.arr_drewN ?_ _|refine flat_Check.arr_drew ?_|refine flat_Check.arr_far ?_ HNE.out _|refine flat_Check.arr_set ?_ _ _))⟩, ⟨(by repeat (first|(with_reducible first|exact HB.out|apply lA|apply lN|apply lD|refine lS ?_ GE.out|refine lS ?_ GA.out)|exact HB.out))⟩⟩
      ·rw [if_neg c6] at h
       have c6b0 : ((rd_T64 l0 i).f0 == 1) = false := beq_eq_false_iff_ne.mpr c6
       clear c6
       have H' := aM h
       clear h
       go_wp2_with (first|((with_reducible refine gate_dst (N := 7) rfl ?_); refine box_event ?hg (N := 7) ?hd (cs := #[.int .i64 0, .int .i64 0, .int .i64 0, .int .i64 0]) (t := 64) ?hr ?_; (case hd => rfl); (case hg => rfl); (case hr => first|(go_simp; done)|(go_simp; rfl)); intro gb hg w8 hbox hb; have hB_ := (by repeat (first|(with_reducible first|exact HB.out|apply lA|apply lN|apply lD)|exact HB.out) : Below w.heap.size w _); have n0_ := aM (below_step hB_ hb); have n2_ := aM ((bsz hg hB_) : w.heap.size ≤ gb); have n3_ := aM (flat_Check.arr_below HAR.out hb); clear HB HAR; have HB := n0_; have BK := aM hbox; have GE := n2_; have HAR := n3_; have HNE := aM (show gA ≠ gb from by obtain ⟨_, _, _, ha_⟩ := HAR.out; exact blk_ne ha_ BK.out (by decide)); clear n0_ n2_ n3_; clear hb hbox hg hB_; have hcz_0 : w8.cell? ⟨gb, 0, none⟩ = some (.int .i64 0) := (blk_cell BK.out 0).trans rfl; have hcz_1 : w8.cell? ⟨gb, 1, none⟩ = some (.int .i64 0) := (blk_cell BK.out 1).trans rfl; have hcz_2 : w8.cell? ⟨gb, 2, none⟩ = some (.int .i64 0) := (blk_cell BK.out 2).trans rfl; have hcz_3 : w8.cell? ⟨gb, 3, none⟩ = some (.int .i64 0) := (blk_cell BK.out 3).trans rfl; have hfz_0 := blk_frozen BK.out 0; have hfz_1 := blk_frozen BK.out 1; have hfz_2 := blk_frozen BK.out 2; have hfz_3 := blk_frozen BK.out 3))
       refine (flat_Right.calls (rd_T64 l0 i).f0 (rd_T64 l0 i).f1 (rd_T64 l0 i).f2 (rd_T64 l0 i).f3 _ _ A6.out).mono ?_
       rintro e w10 ⟨rfl, hb⟩
       have n0_ := aM (blk_below (g := gb) (o := .cells #[.int .i64 (rd_T64 l0 i).f0, .int .i64 (rd_T64 l0 i).f1, .int .i64 (rd_T64 l0 i).f2, .int .i64 (rd_T64 l0 i).f3] 64 (0, 0)) (by (with_reducible repeat (first|refine bN ?_ _|refine bD ?_|refine bA ?_ _)); apply put4; (with_reducible repeat (first|refine bN ?_ _|refine bD ?_|refine bA ?_ _)); exact BK.out) hb)
       have n1_ := aM (below_step (by repeat (first|(with_reducible first|exact HB.out|apply lA|apply lN|apply lD|refine lS ?_ GE.out)|exact HB.out)) hb)
       have n2_ := aM (flat_Check.arr_below (by repeat (with_reducible first|exact HAR.out|refine flat_Check.arr_drewN ?_ _|refine flat_Check.arr_drew ?_|refine flat_Check.arr_far ?_ HNE.out _)) hb)
       clear BK HB HAR
       have BK := n0_
       have HB := n1_
       have HAR := n2_
       clear n0_ n1_ n2_ hb
       clear hcz_0 hcz_1 hcz_2 hcz_3 hfz_0 hfz_1 hfz_2 hfz_3
       have hcy_0 : w10.cell? ⟨gb, 0, none⟩ = some (.int .i64 (rd_T64 l0 i).f0) := (blk_cell BK.out 0).trans rfl
       have hcy_1 : w10.cell? ⟨gb, 1, none⟩ = some (.int .i64 (rd_T64 l0 i).f1) := (blk_cell BK.out 1).trans rfl
       have hcy_2 : w10.cell? ⟨gb, 2, none⟩ = some (.int .i64 (rd_T64 l0 i).f2) := (blk_cell BK.out 2).trans rfl
       have hcy_3 : w10.cell? ⟨gb, 3, none⟩ = some (.int .i64 (rd_T64 l0 i).f3) := (blk_cell BK.out 3).trans rfl
       go_wp2
       go_roundg (gk - 1)
       case measure => have := HI.out; have := C3.out; omega
       case rel => exact ⟨n, i + 1, by first|rfl|(rw [WN.out]; done)|go_num, by first|rfl|(rw [WI.out]; done)|go_num, ⟨by have := HI.out; have := C3.out; omega⟩, ⟨by have := HN.out; omega⟩, ⟨by rw [T1.out]; exact H'.out⟩, ⟨(by repeat (with_reducible first|exact HAR.out|refine flat_Check.arr_drewN ?_ _|refine flat_Check.arr_drew ?_|refine flat_Check.arr_far ?_ HNE.out _|refine flat_Check.arr_set ?_ _ _))⟩, ⟨(by repeat (first|(with_reducible first|exact HB.out|apply lA|apply lN|apply lD|refine lS ?_ GE.out|refine lS ?_ GA.out)|exact HB.out))⟩⟩
   ·have c3b : decide (i < (l0.length : Int)) = false := decide_eq_false c3
    rw [List.drop_eq_nil_of_le (by omega)] at h
    obtain rfl : i = (l0.length : Int) := by omega
    unfold flat_Check.l0 at h
    by_cases c9 : n > 0
    ·rw [if_pos c9] at h
     have c9b : decide (0 < n) = true := decide_eq_true c9
     simp only [Option.some.injEq, Prod.mk.injEq] at h
     obtain ⟨rfl, rfl⟩ := h
     clear hI hN hL c3 c9
     go_wp2
     go_ret2
     exact ⟨rfl, HB.out⟩
    ·rw [if_neg c9] at h
     have c9b : decide (0 < n) = false := decide_eq_false c9
     simp only [Option.some.injEq, Prod.mk.injEq] at h
     obtain ⟨rfl, rfl⟩ := h
     clear hI hN hL c3 c9
     go_wp2
     go_ret2
     exact ⟨rfl, HB.out⟩


def diff_both.f (l0 l1 : List S64) : Option Int := (flat_Check.f l0).bind fun s => (flat_Check.f l1).bind fun t => some (if s.2 = 0 then t.2 else s.2)
theorem diff_both.idx0 (x y : Value) (W : World) : (Instr.index 94 (.agg #[x, y]) (.int .i64 0)).run Try.prog W = .ok x W := by
 obtain ⟨i0, hi0, hz, hsz, _⟩ := info_parts info22
 simp [Instr.index, run_underlying Try.underlying94, asIntOf, part, sizeOf, typeInfo, hi0, hsz, go_sem]
theorem diff_both.idx1 (x y : Value) (W : World) : (Instr.index 94 (.agg #[x, y]) (.int .i64 1)).run Try.prog W = .ok y W := by
 obtain ⟨i0, hi0, hz, hsz, _⟩ := info_parts info22
 simp [Instr.index, run_underlying Try.underlying94, asIntOf, part, sizeOf, typeInfo, hi0, hsz, go_sem]
set_option maxHeartbeats 8000000 in
set_option maxRecDepth 100000 in
theorem diff_both.calls (A0 : Option Addr) (c0 : Nat) (l0 : List S64) (A1 : Option Addr) (c1 : Nat) (l1 : List S64) (r : Int) (w : World) (hr0 : Kd.C k64 w A0 l0.length l0) (hc0 : l0.length ≤ c0) (hr1 : Kd.C k64 w A1 l1.length l1) (hc1 : l1.length ≤ c1) (h : diff_both.f l0 l1 = some r) :
  Calls Try.prog 35 #[.slice A0 l0.length c0, .slice A1 l1.length c1] w fun e w' => e = .returned (.int .i64 r) ∧ Below w.heap.size w w' := by
 have hi0_ := diff_both.idx0 (.slice A0 l0.length c0) (.slice A1 l1.length c1)
 have hi1_ := diff_both.idx1 (.slice A0 l0.length c0) (.slice A1 l1.length c1)
 have HR0 := aM hr0
 have HC0 := aM hc0
 have HR1 := aM hr1
 have HC1 := aM hc1
 clear hr0 hc0 hr1 hc1
 unfold diff_both.f at h
 obtain ⟨⟨s1, s2⟩, hs, h⟩ := Option.bind_eq_some_iff.mp h
 obtain ⟨⟨t1, t2⟩, ht, h⟩ := Option.bind_eq_some_iff.mp h
 have HS := aM hs
 have HT := aM ht
 clear hs ht
 replace h := Option.some.inj h
 dsimp only at h
 by_cases c : s2 = 0
 ·rw [if_pos c] at h
  subst h c
  go_enter Try.func35, Try.ntmps35
  go_wp2_with fail
  refine wp_loop_rounds 3 ?_
  rw [rounds_succ]
  go_wp2_with fail
  refine (flat_Check.calls A0 c0 l0 s1 0 _ HR0.out HC0.out HS.out).mono ?_
  rintro e w1 ⟨rfl, hb1⟩
  go_wp2_with fail
  rw [rounds_succ]
  go_wp2_with fail
  refine (flat_Check.calls A1 c1 l1 t1 t2 _ (Kd.C_below HR1.out hb1) HC1.out HT.out).mono ?_
  rintro e w2 ⟨rfl, hb2⟩
  by_cases d : t2 = 0
  ·subst d
   go_wp2_with fail
   rw [rounds_succ]
   go_wp2
   go_ret
   exact ⟨rfl, below_step hb1 hb2⟩
  ·have d0 : (t2 == 0) = false := beq_eq_false_iff_ne.mpr d
   go_wp2
   go_ret
   exact ⟨rfl, below_step hb1 hb2⟩
 ·rw [if_neg c] at h
  subst h
  have d0 : (s2 == 0) = false := beq_eq_false_iff_ne.mpr c
  go_enter Try.func35, Try.ntmps35
  go_wp2_with fail
  refine wp_loop_rounds 3 ?_
  rw [rounds_succ]
  go_wp2_with fail
  refine (flat_Check.calls A0 c0 l0 s1 s2 _ HR0.out HC0.out HS.out).mono ?_
  rintro e w1 ⟨rfl, hb1⟩
  go_wp2
  go_ret
  exact ⟨rfl, hb1⟩

end Go.Proofs.Ytjpmlggkhhoooaa.PDq
-- Written for this claim by a program (the kit's print, with hand-made contracts for what it does not take).
namespace Go.Proofs.Ytjpmlggkhhoooaa.PDq
open Go.RowKit Go.Proofs.YtjpmlggkhhoooaaW.PrintWords Go.Proofs.YtjpmlggkhhoooaaW.PrintLast Go.Proofs.YtjpmlggkhhoooaaW.PrintMore
attribute [local go_sem] max2_int min2_int max_two min_two max_three min_three max_four min_four   -- for this text's walks alone
set_option linter.unusedVariables false
set_option linter.unusedSimpArgs false

mutual
def flat_Kids.j0 : Nat → List (S64) → Int → Bool → Option (List Int)
|0, _, _, _ => none
|k + 1, x0, x1, x28 => if x28 = true then (some ([] : List Int)) else (flat_Kids.l0 k x0 x1 ([] : List Int) 0 (wrap64 (x1 + 1)))
def flat_Kids.l0 : Nat → List (S64) → Int → List Int → Int → Int → Option (List Int)
|0, _, _, _, _, _ => none
|k + 1, x0, x1, x5, x6, x7 => if x7 < (x0.length : Int) then (if 0 ≤ x7 then (if ((rd_T64 x0 x7).f0) = 2 then (if x6 = 0 then (if x1 ≥ 0 then (some x5) else (flat_Kids.l0 k x0 x1 x5 (mx (wrap64 (x6 - 1)) 0) (wrap64 (x7 + 1)))) else (flat_Kids.l0 k x0 x1 x5 (mx (wrap64 (x6 - 1)) 0) (wrap64 (x7 + 1)))) else (if x6 = 0 then (if ((rd_T64 x0 x7).f0) ≥ 0 then (flat_Kids.j2 k x0 x1 x5 x6 x7 ((rd_T64 x0 x7).f0) (decide (((rd_T64 x0 x7).f0) ≤ 3))) else (flat_Kids.j2 k x0 x1 x5 x6 x7 ((rd_T64 x0 x7).f0) false)) else (flat_Kids.j2 k x0 x1 x5 x6 x7 ((rd_T64 x0 x7).f0) false))) else (none)) else (some x5)
def flat_Kids.j2 : Nat → List (S64) → Int → List Int → Int → Int → Int → Bool → Option (List Int)
|0, _, _, _, _, _, _, _ => none
|k + 1, x0, x1, x5, x6, x7, x8, x62 => if x62 = true then (if x5.length < 17592186044416 then ((some (x5 ++ [x7] : List Int)).bind fun y145 => (if x8 = 1 then (flat_Kids.l0 k x0 x1 y145 (wrap64 (x6 + 1)) (wrap64 (x7 + 1))) else (flat_Kids.l0 k x0 x1 y145 x6 (wrap64 (x7 + 1))))) else (none)) else (if x8 = 1 then (flat_Kids.l0 k x0 x1 x5 (wrap64 (x6 + 1)) (wrap64 (x7 + 1))) else (flat_Kids.l0 k x0 x1 x5 x6 (wrap64 (x7 + 1))))
end
def flat_Kids.f (k : Nat) (l0 : List (S64)) (a1 : Int) : Option (List Int) := if a1 < (-1) then (flat_Kids.j0 k l0 a1 true) else (if a1 ≥ (l0.length : Int) then (flat_Kids.j0 k l0 a1 true) else (if a1 ≥ 0 then (if 0 ≤ a1 then (if a1 < (l0.length : Int) then (flat_Kids.j0 k l0 a1 (((rd_T64 l0 a1).f0) != 1)) else (none)) else (none)) else (flat_Kids.j0 k l0 a1 false)))
theorem flat_Kids.mono_l : ∀ k, (∀ y0 y1 y2, LeO (flat_Kids.j0 k y0 y1 y2) (flat_Kids.j0 (k + 1) y0 y1 y2)) ∧ (∀ y0 y1 y2 y3 y4, LeO (flat_Kids.l0 k y0 y1 y2 y3 y4) (flat_Kids.l0 (k + 1) y0 y1 y2 y3 y4)) ∧ (∀ y0 y1 y2 y3 y4 y5 y6, LeO (flat_Kids.j2 k y0 y1 y2 y3 y4 y5 y6) (flat_Kids.j2 (k + 1) y0 y1 y2 y3 y4 y5 y6))
|0 => ⟨fun _ _ _ r h => by simp [flat_Kids.j0] at h, fun _ _ _ _ _ r h => by simp [flat_Kids.l0] at h, fun _ _ _ _ _ _ _ r h => by simp [flat_Kids.j2] at h⟩
|k + 1 => by
  obtain ⟨ih0, ih1, ih2⟩ := flat_Kids.mono_l k
  refine ⟨?_, ?_, ?_⟩
  ·intro y0 y1 y2
   unfold flat_Kids.j0
   repeat' first
  |(with_reducible exact ih0 _ _ _)
  |(with_reducible exact ih1 _ _ _ _ _)
  |(with_reducible exact ih2 _ _ _ _ _ _ _)
  |(with_reducible exact LeO.refl _)
  |(with_reducible exact LeO.none _)
  |(with_reducible refine LeO.ite ?_ ?_)
  |(with_reducible refine LeO.bind ?_ (fun _ => ?_))
  |exact ih0 _ _ _
  |exact ih1 _ _ _ _ _
  |exact ih2 _ _ _ _ _ _ _
  |exact LeO.none _
  |refine LeO.ite ?_ ?_
  |refine LeO.bind ?_ (fun _ => ?_)
  ·intro y0 y1 y2 y3 y4
   unfold flat_Kids.l0
   repeat' first
  |(with_reducible exact ih0 _ _ _)
  |(with_reducible exact ih1 _ _ _ _ _)
  |(with_reducible exact ih2 _ _ _ _ _ _ _)
  |(with_reducible exact LeO.refl _)
  |(with_reducible exact LeO.none _)
  |(with_reducible refine LeO.ite ?_ ?_)
  |(with_reducible refine LeO.bind ?_ (fun _ => ?_))
  |exact ih0 _ _ _
  |exact ih1 _ _ _ _ _
  |exact ih2 _ _ _ _ _ _ _
  |exact LeO.none _
  |refine LeO.ite ?_ ?_
  |refine LeO.bind ?_ (fun _ => ?_)
  ·intro y0 y1 y2 y3 y4 y5 y6
   unfold flat_Kids.j2
   repeat' first
  |(with_reducible exact ih0 _ _ _)
  |(with_reducible exact ih1 _ _ _ _ _)
  |(with_reducible exact ih2 _ _ _ _ _ _ _)
  |(with_reducible exact LeO.refl _)
  |(with_reducible exact LeO.none _)
  |(with_reducible refine LeO.ite ?_ ?_)
  |(with_reducible refine LeO.bind ?_ (fun _ => ?_))
  |exact ih0 _ _ _
  |exact ih1 _ _ _ _ _
  |exact ih2 _ _ _ _ _ _ _
  |exact LeO.none _
  |refine LeO.ite ?_ ?_
  |refine LeO.bind ?_ (fun _ => ?_)
theorem flat_Kids.mono : ∀ a0 a1 k, LeO (flat_Kids.f k a0 a1) (flat_Kids.f (k + 1) a0 a1) := by
 intro a0 a1 k
 obtain ⟨ih0, ih1, ih2⟩ := flat_Kids.mono_l k
 unfold flat_Kids.f
 repeat' first
  |(with_reducible exact ih0 _ _ _)
  |(with_reducible exact ih1 _ _ _ _ _)
  |(with_reducible exact ih2 _ _ _ _ _ _ _)
  |(with_reducible exact LeO.refl _)
  |(with_reducible exact LeO.none _)
  |(with_reducible refine LeO.ite ?_ ?_)
  |(with_reducible refine LeO.bind ?_ (fun _ => ?_))
  |exact ih0 _ _ _
  |exact ih1 _ _ _ _ _
  |exact ih2 _ _ _ _ _ _ _
  |exact LeO.none _
  |refine LeO.ite ?_ ?_
  |refine LeO.bind ?_ (fun _ => ?_)
set_option maxHeartbeats 8000000 in
set_option maxRecDepth 100000 in
theorem flat_Kids.calls (k : Nat) (A0 : Option Addr) (c0 : Nat) (l0 : List (S64)) (a1 : Int) (r : List Int) (w : World) (hr0 : Kd.C k64 w A0 l0.length l0) (hc0 : l0.length ≤ c0) (h : flat_Kids.f k l0 a1 = some r) :
  Calls Try.prog 22 #[.slice A0 l0.length c0, .int .i64 a1] w fun e w' => ∃ v0_ : Value, e = .returned (v0_) ∧ Kd.R (Kd.int .i64) 3 w' w.heap.size (fun _ => True) v0_ r ∧ Below w.heap.size w w' := by
 have HR0 := aM hr0
 have HC0 := aM hc0
 clear hr0 hc0
 have HB := aM (Below.refl w.heap.size w)
 have H : (if a1 < (-1) then (flat_Kids.j0 k l0 a1 true) else (if a1 ≥ (l0.length : Int) then (flat_Kids.j0 k l0 a1 true) else (if a1 ≥ 0 then (if 0 ≤ a1 then (if a1 < (l0.length : Int) then (flat_Kids.j0 k l0 a1 (((rd_T64 l0 a1).f0) != 1)) else (none)) else (none)) else (flat_Kids.j0 k l0 a1 false)))) = some r := h
 clear h
 have HC3 := aM H
 clear H
 go_enter Try.func22, Try.ntmps22
 go_upto_region 1 with (fail)
 go_cut [28] (fun v28 wc => ∃ (kq : Nat) (x28_2 : Bool), v28 = .bool x28_2 ∧ Aside0 (flat_Kids.j0 kq l0 a1 x28_2 = some r) ∧ Aside0 (kq ≤ k) ∧ Aside0 (Below w.heap.size w wc))
 case first =>
  have H := HC3.out
  clear HC3
  by_cases c4 : a1 < (-1)
  ·rw [if_pos c4] at H
   have c4b0 : decide (a1 < (-1)) = true := decide_eq_true c4
   clear c4
   (first|rw [c4b0]|(simp only [i64_w, i32_w]; rw [c4b0])|skip)
   have H' := aM H
   clear H
   go_wp2
   go_meet
   case rel => exact ⟨_, (true), (by first|rfl|(simp; done)|(simp [*]; done)), H', ⟨by first|omega|exact Nat.le_refl _⟩, ⟨by repeat (first|(with_reducible first|exact HB.out|apply lA|apply lN|apply lD)|exact HB.out)⟩⟩
  ·rw [if_neg c4] at H
   have c4b0 : decide (a1 < (-1)) = false := decide_eq_false c4
   clear c4
   (first|rw [c4b0]|(simp only [i64_w, i32_w]; rw [c4b0])|skip)
   by_cases c5 : a1 ≥ (l0.length : Int)
   ·rw [if_pos c5] at H
    have c5b0 : decide ((l0.length : Int) ≤ a1) = true := decide_eq_true c5
    clear c5
    have H' := aM H
    clear H
    go_wp2
    go_meet
    case rel => exact ⟨_, (true), (by first|rfl|(simp; done)|(simp [*]; done)), H', ⟨by first|omega|exact Nat.le_refl _⟩, ⟨by repeat (first|(with_reducible first|exact HB.out|apply lA|apply lN|apply lD)|exact HB.out)⟩⟩
   ·rw [if_neg c5] at H
    have c5b0 : decide ((l0.length : Int) ≤ a1) = false := decide_eq_false c5
    clear c5
    by_cases c6 : a1 ≥ 0
    ·rw [if_pos c6] at H
     have c6b0 : decide (0 ≤ a1) = true := decide_eq_true c6
     clear c6
     replace H := ifS H; obtain ⟨c7, H⟩ := H
     have c7b0 : decide (0 ≤ a1) = true := decide_eq_true c7
     clear c7
     replace H := ifS H; obtain ⟨c8, H⟩ := H
     have c8b0 : decide (a1 < (l0.length : Int)) = true := decide_eq_true c8
     clear c8
     have H' := aM H
     clear H
     have p143 : 0 ≤ (a1 : Int) := of_decide_eq_true (by first|(with_reducible assumption)|assumption)
     have q143 : a1 < (l0.length : Int) := of_decide_eq_true (by first|(with_reducible assumption)|assumption)
     obtain ⟨ad143, e143, hx143_0, hx143_1, hx143_2, hx143_3⟩ := at_T64 HR0.out a1 p143 q143
     cases e143
     replace hx143_0 := cB HB.out hx143_0
     replace hx143_1 := cB HB.out hx143_1
     replace hx143_2 := cB HB.out hx143_2
     replace hx143_3 := cB HB.out hx143_3
     replace p143 := eq_true p143
     replace q143 := eq_true q143
     go_wp2
     go_meet
     case rel => exact ⟨_, ((((rd_T64 l0 a1).f0) != 1)), (by first|rfl|(simp; done)|(simp [*]; done)), H', ⟨by first|omega|exact Nat.le_refl _⟩, ⟨by repeat (first|(with_reducible first|exact HB.out|apply lA|apply lN|apply lD)|exact HB.out)⟩⟩
    ·rw [if_neg c6] at H
     have c6b0 : decide (0 ≤ a1) = false := decide_eq_false c6
     clear c6
     have H' := aM H
     clear H
     go_wp2
     go_meet
     case rel => exact ⟨_, (false), (by first|rfl|(simp; done)|(simp [*]; done)), H', ⟨by first|omega|exact Nat.le_refl _⟩, ⟨by repeat (first|(with_reducible first|exact HB.out|apply lA|apply lN|apply lD)|exact HB.out)⟩⟩
 case rest =>
  clear HC3
  obtain ⟨kq, x28_2, rfl, HA, HJ2, HB⟩ := hcut
  cases kq with
 |zero => exact absurd HA.out (by simp [flat_Kids.j0])
 |succ kj2 =>
   have H := HA.out
   clear HA
   simp only [flat_Kids.j0] at H
   by_cases c9 : x28_2 = true
   ·subst c9
    have H1 : (some ([] : List Int)) = some r := by rw [if_pos rfl] at H; exact H
    clear H
    have H := H1
    clear H1
    obtain rfl := Option.some.inj H
    go_wp2
    go_ret
    exact ⟨_, by first|rfl|(simp [errW_none, errW_some] <;> rfl)|(simp [*, errW_none, errW_some] <;> rfl), by first|exact Kd.R_nil _ _ _ _ _|exact Kd.N_nil _ _ _ _ _|exact Kd.V_nil _ _ _ _ _|exact Kd.Q_nil _ _ _ _ _|exact Kd.S_nil _ _ _ _ _, by repeat (first|(with_reducible first|exact HB.out|apply lA|apply lN|apply lD)|exact HB.out)⟩
   ·replace c9 := Bool.eq_false_iff.mpr c9
    subst c9
    have H1 : (flat_Kids.l0 kj2 l0 a1 ([] : List Int) 0 (wrap64 (a1 + 1))) = some r := by rw [if_neg (show ¬ (false = true) by decide)] at H; exact H
    clear H
    have H := H1
    clear H1
    have H' := aM H
    clear H
    go_wp2
    go_loopg [5, 6, 7] kj2 (fun kq v5 v6 v7 w' => ∃ (x5_2 : List Int) (x6_2 : Int) (x7_2 : Int), v6 = .int .i64 x6_2 ∧ v7 = .int .i64 x7_2 ∧ Aside0 (flat_Kids.l0 kq l0 a1 x5_2 x6_2 x7_2 = some r) ∧ Aside0 (kq ≤ kj2) ∧ Aside0 (Kd.R (Kd.int .i64) 3 w' w.heap.size (fun _ => True) v5 x5_2) ∧ Aside0 (Below w.heap.size w w'))
    case atStart => exact ⟨(([] : List Int)), (0), (wrap64 (a1 + 1)), (by first|rfl|(simp; done)|(simp [*]; done)), (by first|rfl|(simp; done)|(simp [*]; done)), H', ⟨Nat.le_refl _⟩, ⟨by first|exact Kd.R_nil _ _ _ _ _|exact Kd.N_nil _ _ _ _ _|exact Kd.V_nil _ _ _ _ _|exact Kd.Q_nil _ _ _ _ _|exact Kd.S_nil _ _ _ _ _⟩, ⟨by repeat (first|(with_reducible first|exact HB.out|apply lA|apply lN|apply lD)|exact HB.out)⟩⟩
    case round =>
     clear H'
     obtain ⟨x5_2, x6_2, x7_2, rfl, rfl, HA, HK2, HO_5, HB⟩ := hrel
     cases gk with
    |zero => exact absurd HA.out (by simp [flat_Kids.l0])
    |succ k2 =>
      have H := HA.out
      clear HA
      simp only [flat_Kids.l0] at H
      by_cases c10 : x7_2 < (l0.length : Int)
      ·rw [if_pos c10] at H
       have c10b0 : decide (x7_2 < (l0.length : Int)) = true := decide_eq_true c10
       clear c10
       replace H := ifS H; obtain ⟨c11, H⟩ := H
       have c11b0 : decide (0 ≤ x7_2) = true := decide_eq_true c11
       clear c11
       by_cases c12 : ((rd_T64 l0 x7_2).f0) = 2
       ·rw [if_pos c12] at H
        have c12b0 : (((rd_T64 l0 x7_2).f0) == 2) = true := beq_iff_eq.mpr c12
        have c12b1 : (((rd_T64 l0 x7_2).f0) != 2) = false := bne_eq_false_iff_eq.mpr c12
        clear c12
        by_cases c13 : x6_2 = 0
        ·rw [if_pos c13] at H
         have c13b0 : (x6_2 == 0) = true := beq_iff_eq.mpr c13
         have c13b1 : (x6_2 != 0) = false := bne_eq_false_iff_eq.mpr c13
         clear c13
         by_cases c14 : a1 ≥ 0
         ·rw [if_pos c14] at H
          have c14b0 : decide (0 ≤ a1) = true := decide_eq_true c14
          clear c14
          obtain rfl := Option.some.inj H
          have p144 : 0 ≤ (x7_2 : Int) := of_decide_eq_true (by first|(with_reducible assumption)|assumption)
          have q144 : x7_2 < (l0.length : Int) := of_decide_eq_true (by first|(with_reducible assumption)|assumption)
          obtain ⟨ad144, e144, hx144_0, hx144_1, hx144_2, hx144_3⟩ := at_T64 HR0.out x7_2 p144 q144
          cases e144
          replace hx144_0 := cB HB.out hx144_0
          replace hx144_1 := cB HB.out hx144_1
          replace hx144_2 := cB HB.out hx144_2
          replace hx144_3 := cB HB.out hx144_3
          replace p144 := eq_true p144
          replace q144 := eq_true q144
          go_wp2
          go_ret
          exact ⟨_, by first|rfl|(simp [errW_none, errW_some] <;> rfl)|(simp [*, errW_none, errW_some] <;> rfl), by (with_reducible repeat (first|apply Kd.R_alloc|apply Kd.R_drewN|apply Kd.R_drew)); exact HO_5.out, by repeat (first|(with_reducible first|exact HB.out|apply lA|apply lN|apply lD)|exact HB.out)⟩
         ·rw [if_neg c14] at H
          have c14b0 : decide (0 ≤ a1) = false := decide_eq_false c14
          clear c14
          obtain ⟨ji15, hji15⟩ : ∃ j_ : Int, (mx (wrap64 (x6_2 - 1)) 0) = j_ := ⟨_, rfl⟩
          replace H : (flat_Kids.l0 k2 l0 a1 x5_2 ji15 (wrap64 (x7_2 + 1))) = some r := by first|(rw [hji15] at H; exact H)|(simp only [hji15] at H ⊢; exact H)
          have hji15_ : (if (wrap64 (x6_2 - 1)) < 0 then 0 else (wrap64 (x6_2 - 1))) = ji15 := hji15
          have H' := aM H
          clear H
          have p144 : 0 ≤ (x7_2 : Int) := of_decide_eq_true (by first|(with_reducible assumption)|assumption)
          have q144 : x7_2 < (l0.length : Int) := of_decide_eq_true (by first|(with_reducible assumption)|assumption)
          obtain ⟨ad144, e144, hx144_0, hx144_1, hx144_2, hx144_3⟩ := at_T64 HR0.out x7_2 p144 q144
          cases e144
          replace hx144_0 := cB HB.out hx144_0
          replace hx144_1 := cB HB.out hx144_1
          replace hx144_2 := cB HB.out hx144_2
          replace hx144_3 := cB HB.out hx144_3
          replace p144 := eq_true p144
          replace q144 := eq_true q144
          go_wp2
          go_roundg k2
          case measure => have := HJ2.out; have := HK2.out; omega
          case rel => exact ⟨(x5_2), (ji15), (wrap64 (x7_2 + 1)), (by first|rfl|(simp; done)|(simp only [← hji15] <;> (first|rfl|simp))|(simp [*]; done)), (by first|rfl|(simp; done)|(simp [*]; done)), H', ⟨by have := HJ2.out; have := HK2.out; omega⟩, ⟨by (with_reducible repeat (first|apply Kd.R_alloc|apply Kd.R_drewN|apply Kd.R_drew)); exact HO_5.out⟩, ⟨by repeat (first|(with_reducible first|exact HB.out|apply lA|apply lN|apply lD)|exact HB.out)⟩⟩
        ·rw [if_neg c13] at H
         have c13b0 : (x6_2 == 0) = false := beq_eq_false_iff_ne.mpr c13
         have c13b1 : (x6_2 != 0) = true := bne_iff_ne.mpr c13
         obtain ⟨ji16, hji16⟩ : ∃ j_ : Int, (mx (wrap64 (x6_2 - 1)) 0) = j_ := ⟨_, rfl⟩
         replace H : (flat_Kids.l0 k2 l0 a1 x5_2 ji16 (wrap64 (x7_2 + 1))) = some r := by first|(rw [hji16] at H; exact H)|(simp only [hji16] at H ⊢; exact H)
         have hji16_ : (if (wrap64 (x6_2 - 1)) < 0 then 0 else (wrap64 (x6_2 - 1))) = ji16 := hji16
         have H' := aM H
         clear H
         have p144 : 0 ≤ (x7_2 : Int) := of_decide_eq_true (by first|(with_reducible assumption)|assumption)
         have q144 : x7_2 < (l0.length : Int) := of_decide_eq_true (by first|(with_reducible assumption)|assumption)
         obtain ⟨ad144, e144, hx144_0, hx144_1, hx144_2, hx144_3⟩ := at_T64 HR0.out x7_2 p144 q144
         cases e144
         replace hx144_0 := cB HB.out hx144_0
         replace hx144_1 := cB HB.out hx144_1
         replace hx144_2 := cB HB.out hx144_2
         replace hx144_3 := cB HB.out hx144_3
         replace p144 := eq_true p144
         replace q144 := eq_true q144
         go_wp2
         go_roundg k2
         case measure => have := HJ2.out; have := HK2.out; omega
         case rel => exact ⟨(x5_2), (ji16), (wrap64 (x7_2 + 1)), (by first|rfl|(simp; done)|(simp only [← hji16] <;> (first|rfl|simp))|(simp [*]; done)), (by first|rfl|(simp; done)|(simp [*]; done)), H', ⟨by have := HJ2.out; have := HK2.out; omega⟩, ⟨by (with_reducible repeat (first|apply Kd.R_alloc|apply Kd.R_drewN|apply Kd.R_drew)); exact HO_5.out⟩, ⟨by repeat (first|(with_reducible first|exact HB.out|apply lA|apply lN|apply lD)|exact HB.out)⟩⟩
       ·rw [if_neg c12] at H
        have c12b0 : (((rd_T64 l0 x7_2).f0) == 2) = false := beq_eq_false_iff_ne.mpr c12
        have c12b1 : (((rd_T64 l0 x7_2).f0) != 2) = true := bne_iff_ne.mpr c12
        have HC17 := aM H
        clear H
        have p144 : 0 ≤ (x7_2 : Int) := of_decide_eq_true (by first|(with_reducible assumption)|assumption)
        have q144 : x7_2 < (l0.length : Int) := of_decide_eq_true (by first|(with_reducible assumption)|assumption)
        obtain ⟨ad144, e144, hx144_0, hx144_1, hx144_2, hx144_3⟩ := at_T64 HR0.out x7_2 p144 q144
        cases e144
        replace hx144_0 := cB HB.out hx144_0
        replace hx144_1 := cB HB.out hx144_1
        replace hx144_2 := cB HB.out hx144_2
        replace hx144_3 := cB HB.out hx144_3
        replace p144 := eq_true p144
        replace q144 := eq_true q144
        go_upto_region 12 with (fail)
        go_cut [62] (fun v62 wc => ∃ (kq : Nat) (x62_16 : Bool), v62 = .bool x62_16 ∧ Aside0 (flat_Kids.j2 kq l0 a1 x5_2 x6_2 x7_2 ((rd_T64 l0 x7_2).f0) x62_16 = some r) ∧ Aside0 (kq ≤ k2) ∧ Aside0 (Kd.R (Kd.int .i64) 3 wc w.heap.size (fun _ => True) u5 x5_2) ∧ Aside0 (Below w.heap.size w wc))
        case first =>
         have H := HC17.out
         clear HC17
         by_cases c18 : x6_2 = 0
         ·rw [if_pos c18] at H
          have c18b0 : (x6_2 == 0) = true := beq_iff_eq.mpr c18
          have c18b1 : (x6_2 != 0) = false := bne_eq_false_iff_eq.mpr c18
          clear c18
          (first|rw [c18b0]|(simp only [i64_w, i32_w]; rw [c18b0])|skip)
          by_cases c19 : ((rd_T64 l0 x7_2).f0) ≥ 0
          ·rw [if_pos c19] at H
           have c19b0 : decide (0 ≤ ((rd_T64 l0 x7_2).f0)) = true := decide_eq_true c19
           clear c19
           have H' := aM H
           clear H
           go_wp2
           go_meet
           case rel => exact ⟨_, (decide (((rd_T64 l0 x7_2).f0) ≤ 3)), (by first|rfl|(simp; done)|(simp [*]; done)), H', ⟨by have := HJ2.out; have := HK2.out; first|omega|exact Nat.le_refl _⟩, ⟨by (with_reducible repeat (first|apply Kd.R_alloc|apply Kd.R_drewN|apply Kd.R_drew)); exact HO_5.out⟩, ⟨by repeat (first|(with_reducible first|exact HB.out|apply lA|apply lN|apply lD)|exact HB.out)⟩⟩
          ·rw [if_neg c19] at H
           have c19b0 : decide (0 ≤ ((rd_T64 l0 x7_2).f0)) = false := decide_eq_false c19
           clear c19
           have H' := aM H
           clear H
           go_wp2
           go_meet
           case rel => exact ⟨_, (false), (by first|rfl|(simp; done)|(simp [*]; done)), H', ⟨by have := HJ2.out; have := HK2.out; first|omega|exact Nat.le_refl _⟩, ⟨by (with_reducible repeat (first|apply Kd.R_alloc|apply Kd.R_drewN|apply Kd.R_drew)); exact HO_5.out⟩, ⟨by repeat (first|(with_reducible first|exact HB.out|apply lA|apply lN|apply lD)|exact HB.out)⟩⟩
         ·rw [if_neg c18] at H
          have c18b0 : (x6_2 == 0) = false := beq_eq_false_iff_ne.mpr c18
          have c18b1 : (x6_2 != 0) = true := bne_iff_ne.mpr c18
          (first|rw [c18b0]|(simp only [i64_w, i32_w]; rw [c18b0])|skip)
          have H' := aM H
          clear H
          go_wp2
          go_meet
          case rel => exact ⟨_, (false), (by first|rfl|(simp; done)|(simp [*]; done)), H', ⟨by have := HJ2.out; have := HK2.out; first|omega|exact Nat.le_refl _⟩, ⟨by (with_reducible repeat (first|apply Kd.R_alloc|apply Kd.R_drewN|apply Kd.R_drew)); exact HO_5.out⟩, ⟨by repeat (first|(with_reducible first|exact HB.out|apply lA|apply lN|apply lD)|exact HB.out)⟩⟩
        case rest =>
         clear HC17
         obtain ⟨kq, x62_16, rfl, HA, HJ16, HO_5, HB⟩ := hcut
         cases kq with
        |zero => exact absurd HA.out (by simp [flat_Kids.j2])
        |succ kj16 =>
          have H := HA.out
          clear HA
          simp only [flat_Kids.j2] at H
          by_cases c20 : x62_16 = true
          ·subst c20
           have H1 : (if x5_2.length < 17592186044416 then ((some (x5_2 ++ [x7_2] : List Int)).bind fun y145 => (if ((rd_T64 l0 x7_2).f0) = 1 then (flat_Kids.l0 kj16 l0 a1 y145 (wrap64 (x6_2 + 1)) (wrap64 (x7_2 + 1))) else (flat_Kids.l0 kj16 l0 a1 y145 x6_2 (wrap64 (x7_2 + 1))))) else (none)) = some r := by rw [if_pos rfl] at H; exact H
           clear H
           have H := H1
           clear H1
           replace H := ifS H; obtain ⟨c21, H⟩ := H
           have LMc21 := aM c21
           clear c21
           obtain ⟨y145, hy145⟩ : ∃ y_ : List Int, y_ = (x5_2 ++ [x7_2]) := ⟨_, rfl⟩
           replace H : (if ((rd_T64 l0 x7_2).f0) = 1 then (flat_Kids.l0 kj16 l0 a1 y145 (wrap64 (x6_2 + 1)) (wrap64 (x7_2 + 1))) else (flat_Kids.l0 kj16 l0 a1 y145 x6_2 (wrap64 (x7_2 + 1)))) = some r := by first|(rw [hy145]; with_reducible exact H)|(have H2_ := (Option.bind_some _ _).symm.trans H; rw [hy145]; with_reducible exact H2_)|(have H2_ := (Option.bind_some _ _).symm.trans H; with_reducible exact H2_)|with_reducible exact H|(rw [hy145]; exact H)|exact H
           have Ny145 := aM hy145
           clear hy145
           by_cases c22 : ((rd_T64 l0 x7_2).f0) = 1
           ·rw [if_pos c22] at H
            have c22b0 : (((rd_T64 l0 x7_2).f0) == 1) = true := beq_iff_eq.mpr c22
            have c22b1 : (((rd_T64 l0 x7_2).f0) != 1) = false := bne_eq_false_iff_eq.mpr c22
            clear c22
            have H' := aM H
            clear H
            go_wp2_with (first|((with_reducible refine gate_builtin (b := .append) (xs := #[.tmp 63, .tmp 65]) rfl ?_); (try (refine gate_guard (by rfl) ?_; dsimp only)); at_builtin; refine Kd.R_append (Kd.int .i64) (w0 := w) w.heap.size rfl (.tmp 63) (.tmp 65) 52 3 (.int .i64 0) 8 rfl Try.underlying52 info3 rfl (by decide) (by omega) u5 x5_2 x7_2 [.int .i64 x7_2] (fun _ => True) (fun _ => False) rfl rfl ?aP (fun _ hk => hk.elim) ?aF ?aO ?aB ?aS ?aL ?_; (case aP => exact rfl); (case aB => exact (by repeat (first|(with_reducible first|exact HB.out|apply lA|apply lN|apply lD)|exact HB.out))); (case aF => exact (fun _ _ => trivial)); (case aO => exact (by (with_reducible repeat (first|apply Kd.R_alloc|apply Kd.R_drewN|apply Kd.R_drew)); exact HO_5.out)); (case aS => exact (below_size (by repeat (first|(with_reducible first|exact HB.out|apply lA|apply lN|apply lD)|exact HB.out)))); (case aL => have := LMc21.out; omega); intro v146 w23 ho hb hg hat; rw [← Ny145.out] at ho; have n0_ := aM (hb); have n1_ := aM (ho); clear HB; clear HO_5; have HB := n0_; have HO147 := n1_; clear n0_ n1_; clear ho hb hg hat))
            go_roundg kj16
            case measure => have := HJ2.out; have := HK2.out; have := HJ16.out; omega
            case rel => exact ⟨(y145), (wrap64 (x6_2 + 1)), (wrap64 (x7_2 + 1)), (by first|rfl|(simp; done)|(simp [*]; done)), (by first|rfl|(simp; done)|(simp [*]; done)), H', ⟨by have := HJ2.out; have := HK2.out; have := HJ16.out; omega⟩, ⟨by (with_reducible repeat (first|apply Kd.R_alloc|apply Kd.R_drewN|apply Kd.R_drew)); exact HO147.out⟩, ⟨by repeat (first|(with_reducible first|exact HB.out|apply lA|apply lN|apply lD)|exact HB.out)⟩⟩
           ·rw [if_neg c22] at H
            have c22b0 : (((rd_T64 l0 x7_2).f0) == 1) = false := beq_eq_false_iff_ne.mpr c22
            have c22b1 : (((rd_T64 l0 x7_2).f0) != 1) = true := bne_iff_ne.mpr c22
            have H' := aM H
            clear H
            go_wp2_with (first|((with_reducible refine gate_builtin (b := .append) (xs := #[.tmp 63, .tmp 65]) rfl ?_); (try (refine gate_guard (by rfl) ?_; dsimp only)); at_builtin; refine Kd.R_append (Kd.int .i64) (w0 := w) w.heap.size rfl (.tmp 63) (.tmp 65) 52 3 (.int .i64 0) 8 rfl Try.underlying52 info3 rfl (by decide) (by omega) u5 x5_2 x7_2 [.int .i64 x7_2] (fun _ => True) (fun _ => False) rfl rfl ?aP (fun _ hk => hk.elim) ?aF ?aO ?aB ?aS ?aL ?_; (case aP => exact rfl); (case aB => exact (by repeat (first|(with_reducible first|exact HB.out|apply lA|apply lN|apply lD)|exact HB.out))); (case aF => exact (fun _ _ => trivial)); (case aO => exact (by (with_reducible repeat (first|apply Kd.R_alloc|apply Kd.R_drewN|apply Kd.R_drew)); exact HO_5.out)); (case aS => exact (below_size (by repeat (first|(with_reducible first|exact HB.out|apply lA|apply lN|apply lD)|exact HB.out)))); (case aL => have := LMc21.out; omega); intro v146 w24 ho hb hg hat; rw [← Ny145.out] at ho; have n0_ := aM (hb); have n1_ := aM (ho); clear HB; clear HO_5; have HB := n0_; have HO147 := n1_; clear n0_ n1_; clear ho hb hg hat))
            go_roundg kj16
            case measure => have := HJ2.out; have := HK2.out; have := HJ16.out; omega
            case rel => exact ⟨(y145), (x6_2), (wrap64 (x7_2 + 1)), (by first|rfl|(simp; done)|(simp [*]; done)), (by first|rfl|(simp; done)|(simp [*]; done)), H', ⟨by have := HJ2.out; have := HK2.out; have := HJ16.out; omega⟩, ⟨by (with_reducible repeat (first|apply Kd.R_alloc|apply Kd.R_drewN|apply Kd.R_drew)); exact HO147.out⟩, ⟨by repeat (first|(with_reducible first|exact HB.out|apply lA|apply lN|apply lD)|exact HB.out)⟩⟩
          ·replace c20 := Bool.eq_false_iff.mpr c20
           subst c20
           have H1 : (if ((rd_T64 l0 x7_2).f0) = 1 then (flat_Kids.l0 kj16 l0 a1 x5_2 (wrap64 (x6_2 + 1)) (wrap64 (x7_2 + 1))) else (flat_Kids.l0 kj16 l0 a1 x5_2 x6_2 (wrap64 (x7_2 + 1)))) = some r := by rw [if_neg (show ¬ (false = true) by decide)] at H; exact H
           clear H
           have H := H1
           clear H1
           by_cases c25 : ((rd_T64 l0 x7_2).f0) = 1
           ·rw [if_pos c25] at H
            have c25b0 : (((rd_T64 l0 x7_2).f0) == 1) = true := beq_iff_eq.mpr c25
            have c25b1 : (((rd_T64 l0 x7_2).f0) != 1) = false := bne_eq_false_iff_eq.mpr c25
            clear c25
            have H' := aM H
            clear H
            go_wp2
            go_roundg kj16
            case measure => have := HJ2.out; have := HK2.out; have := HJ16.out; omega
            case rel => exact ⟨(x5_2), (wrap64 (x6_2 + 1)), (wrap64 (x7_2 + 1)), (by first|rfl|(simp; done)|(simp [*]; done)), (by first|rfl|(simp; done)|(simp [*]; done)), H', ⟨by have := HJ2.out; have := HK2.out; have := HJ16.out; omega⟩, ⟨by (with_reducible repeat (first|apply Kd.R_alloc|apply Kd.R_drewN|apply Kd.R_drew)); exact HO_5.out⟩, ⟨by repeat (first|(with_reducible first|exact HB.out|apply lA|apply lN|apply lD)|exact HB.out)⟩⟩
           ·rw [if_neg c25] at H
            have c25b0 : (((rd_T64 l0 x7_2).f0) == 1) = false := beq_eq_false_iff_ne.mpr c25
            have c25b1 : (((rd_T64 l0 x7_2).f0) != 1) = true := bne_iff_ne.mpr c25
            have H' := aM H
            clear H
            go_wp2
            go_roundg kj16
            case measure => have := HJ2.out; have := HK2.out; have := HJ16.out; omega
            case rel => exact ⟨(x5_2), (x6_2), (wrap64 (x7_2 + 1)), (by first|rfl|(simp; done)|(simp [*]; done)), (by first|rfl|(simp; done)|(simp [*]; done)), H', ⟨by have := HJ2.out; have := HK2.out; have := HJ16.out; omega⟩, ⟨by (with_reducible repeat (first|apply Kd.R_alloc|apply Kd.R_drewN|apply Kd.R_drew)); exact HO_5.out⟩, ⟨by repeat (first|(with_reducible first|exact HB.out|apply lA|apply lN|apply lD)|exact HB.out)⟩⟩
      ·rw [if_neg c10] at H
       have c10b0 : decide (x7_2 < (l0.length : Int)) = false := decide_eq_false c10
       clear c10
       obtain rfl := Option.some.inj H
       go_wp2
       go_ret
       exact ⟨_, by first|rfl|(simp [errW_none, errW_some] <;> rfl)|(simp [*, errW_none, errW_some] <;> rfl), by (with_reducible repeat (first|apply Kd.R_alloc|apply Kd.R_drewN|apply Kd.R_drew)); exact HO_5.out, by repeat (first|(with_reducible first|exact HB.out|apply lA|apply lN|apply lD)|exact HB.out)⟩

end Go.Proofs.Ytjpmlggkhhoooaa.PDq
-- Written for this claim by a program (the kit's print, with hand-made contracts for what it does not take).
namespace Go.Proofs.Ytjpmlggkhhoooaa.PDq
open Go.RowKit Go.Proofs.YtjpmlggkhhoooaaW.PrintWords Go.Proofs.YtjpmlggkhhoooaaW.PrintLast Go.Proofs.YtjpmlggkhhoooaaW.PrintMore
attribute [local go_sem] max2_int min2_int max_two min_two max_three min_three max_four min_four   -- for this text's walks alone
set_option linter.unusedVariables false
set_option linter.unusedSimpArgs false

def flat_stack.l0 : Nat → List Int → List (S64) → Int → Int → Option (List Int)
|0, _, _, _, _ => none
|k + 1, x5, x15, x16, x17 => if x17 < x16 then (if 0 ≤ x17 then (if x17 < (x15.length : Int) then (if ((rd_T64 x15 x17).f0) = 1 then (if x5.length < 17592186044416 then (flat_stack.l0 k (x5 ++ [x17]) x15 x16 (wrap64 (x17 + 1))) else (none)) else (if ((rd_T64 x15 x17).f0) = 2 then (if (x5.length : Int) > 0 then (if 0 ≤ (wrap64 ((x5.length : Int) - 1)) then (if (wrap64 ((x5.length : Int) - 1)) ≤ (x5.length : Int) then (flat_stack.l0 k (x5.take ((wrap64 ((x5.length : Int) - 1)) : Int).toNat) x15 x16 (wrap64 (x17 + 1))) else (none)) else (none)) else (flat_stack.l0 k x5 x15 x16 (wrap64 (x17 + 1)))) else (flat_stack.l0 k x5 x15 x16 (wrap64 (x17 + 1))))) else (none)) else (none)) else (some x5)
def flat_stack.f (k : Nat) (l0 : List (S64)) (a1 : Int) : Option (List Int) := if a1 > (l0.length : Int) then (some ([] : List Int)) else (if 0 ≤ (mx a1 0) then (if (mx a1 0) ≤ (l0.length : Int) then ((some (l0.take ((mx a1 0) : Int).toNat : List (S64))).bind fun y148 => (flat_stack.l0 k ([] : List Int) y148 (y148.length : Int) 0)) else (none)) else (none))
theorem flat_stack.mono_l : ∀ k, (∀ y0 y1 y2 y3, LeO (flat_stack.l0 k y0 y1 y2 y3) (flat_stack.l0 (k + 1) y0 y1 y2 y3))
|0 => fun _ _ _ _ r h => by simp [flat_stack.l0] at h
|k + 1 => by
  have ih0 := flat_stack.mono_l k
  ·intro y0 y1 y2 y3
   unfold flat_stack.l0
   repeat' first
  |(with_reducible exact ih0 _ _ _ _)
  |(with_reducible exact LeO.refl _)
  |(with_reducible exact LeO.none _)
  |(with_reducible refine LeO.ite ?_ ?_)
  |(with_reducible refine LeO.bind ?_ (fun _ => ?_))
  |exact ih0 _ _ _ _
  |exact LeO.none _
  |refine LeO.ite ?_ ?_
  |refine LeO.bind ?_ (fun _ => ?_)
theorem flat_stack.mono : ∀ a0 a1 k, LeO (flat_stack.f k a0 a1) (flat_stack.f (k + 1) a0 a1) := by
 intro a0 a1 k
 have ih0 := flat_stack.mono_l k
 unfold flat_stack.f
 repeat' first
  |(with_reducible exact ih0 _ _ _ _)
  |(with_reducible exact LeO.refl _)
  |(with_reducible exact LeO.none _)
  |(with_reducible refine LeO.ite ?_ ?_)
  |(with_reducible refine LeO.bind ?_ (fun _ => ?_))
  |exact ih0 _ _ _ _
  |exact LeO.none _
  |refine LeO.ite ?_ ?_
  |refine LeO.bind ?_ (fun _ => ?_)
set_option maxHeartbeats 8000000 in
set_option maxRecDepth 100000 in
theorem flat_stack.calls (k : Nat) (A0 : Option Addr) (c0 : Nat) (l0 : List (S64)) (a1 : Int) (r : List Int) (w : World) (hr0 : Kd.C k64 w A0 l0.length l0) (hc0 : l0.length ≤ c0) (h : flat_stack.f k l0 a1 = some r) :
  Calls Try.prog 55 #[.slice A0 l0.length c0, .int .i64 a1] w fun e w' => ∃ v0_ : Value, e = .returned (v0_) ∧ Kd.R (Kd.int .i64) 3 w' w.heap.size (fun _ => True) v0_ r ∧ Below w.heap.size w w' := by
 have hu64 := Try.underlying64
 have HR0 := aM hr0
 have HC0 := aM hc0
 clear hr0 hc0
 have HB := aM (Below.refl w.heap.size w)
 have H : (if a1 > (l0.length : Int) then (some ([] : List Int)) else (if 0 ≤ (mx a1 0) then (if (mx a1 0) ≤ (l0.length : Int) then ((some (l0.take ((mx a1 0) : Int).toNat : List (S64))).bind fun y148 => (flat_stack.l0 k ([] : List Int) y148 (y148.length : Int) 0)) else (none)) else (none))) = some r := h
 clear h
 by_cases c3 : a1 > (l0.length : Int)
 ·rw [if_pos c3] at H
  have c3b0 : decide ((l0.length : Int) < a1) = true := decide_eq_true c3
  clear c3
  obtain rfl := Option.some.inj H
  go_enter Try.func55, Try.ntmps55
  go_wp2
  go_ret
  exact ⟨_, by first|rfl|(simp [errW_none, errW_some] <;> rfl)|(simp [*, errW_none, errW_some] <;> rfl), by first|exact Kd.R_nil _ _ _ _ _|exact Kd.N_nil _ _ _ _ _|exact Kd.V_nil _ _ _ _ _|exact Kd.Q_nil _ _ _ _ _|exact Kd.S_nil _ _ _ _ _, by repeat (first|(with_reducible first|exact HB.out|apply lA|apply lN|apply lD)|exact HB.out)⟩
 ·rw [if_neg c3] at H
  have c3b0 : decide ((l0.length : Int) < a1) = false := decide_eq_false c3
  clear c3
  obtain ⟨ji4, hji4⟩ : ∃ j_ : Int, (mx a1 0) = j_ := ⟨_, rfl⟩
  replace H : (if 0 ≤ (ji4) then (if (ji4) ≤ (l0.length : Int) then ((some (l0.take ((ji4) : Int).toNat : List (S64))).bind fun y148 => (flat_stack.l0 k ([] : List Int) y148 (y148.length : Int) 0)) else (none)) else (none)) = some r := by first|(rw [hji4] at H; exact H)|(simp only [hji4] at H ⊢; exact H)
  (try (have hji4l : 0 ≤ ji4 := by (rw [← hji4]; unfold mx; (repeat' split) <;> omega)))
  (try (have hji4m : 0 ≤ ji4 := by omega))
  have hji4_ : (if a1 < 0 then 0 else a1) = ji4 := hji4
  replace H := ifS H; obtain ⟨c5, H⟩ := H
  have c5b0 := eq_true c5
  have c5b1 : decide (0 ≤ (ji4)) = true := decide_eq_true c5
  clear c5
  replace H := ifS H; obtain ⟨c6, H⟩ := H
  have c6b0 := eq_true c6
  have c6b1 : decide ((ji4) ≤ (l0.length : Int)) = true := decide_eq_true c6
  clear c6
  obtain ⟨y148, hy148⟩ : ∃ y_ : List (S64), y_ = (l0.take ((ji4) : Int).toNat) := ⟨_, rfl⟩
  replace H : (flat_stack.l0 k ([] : List Int) y148 (y148.length : Int) 0) = some r := by first|(rw [hy148]; with_reducible exact H)|(have H2_ := (Option.bind_some _ _).symm.trans H; rw [hy148]; with_reducible exact H2_)|(have H2_ := (Option.bind_some _ _).symm.trans H; with_reducible exact H2_)|with_reducible exact H|(rw [hy148]; exact H)|exact H
  have Ny148 := aM hy148
  clear hy148
  have H' := aM H
  clear H
  have q7 : ((ji4) : Int) ≤ ((l0.length : Int) : Int) := of_decide_eq_true (by first|(with_reducible assumption)|assumption)
  obtain ⟨i07, hi07, _, hsz7, _⟩ := info_parts info64
  have hroom7 : l0.length ≤ c0 := HC0.out
  have hC7 : Kd.C k64 _ A0 l0.length l0 := HR0.out
  have hcut7 := cut_to (P := Try.prog) 22 64 .i64 Try.underlying22 hi07 A0 l0.length c0 (ji4) (of_decide_eq_true (by first|(with_reducible assumption)|assumption)) q7 hroom7
  have hr7 := Kd.C_take (m := ((ji4) : Int).toNat) hC7 (by omega)
  have hy7 : y148.length = ((ji4) : Int).toNat := (by rw [Ny148.out, List.length_take]; omega)
  rw [← Ny148.out] at hr7
  rw [← hy7] at hcut7
  have HR151 := aM hr7
  have HC151 := aM (show y148.length ≤ c0 from by omega)
  clear hr7 hC7 hroom7 hi07 hsz7
  have KY7 := aM hy7
  clear hy7
  replace q7 := eq_true q7
  go_enter Try.func55, Try.ntmps55
  go_wp2
  go_loopg [5, 17] k (fun kq v5 v17 w' => ∃ (x5_1 : List Int) (x17_1 : Int), v17 = .int .i64 x17_1 ∧ Aside0 (flat_stack.l0 kq x5_1 y148 (y148.length : Int) x17_1 = some r) ∧ Aside0 (kq ≤ k) ∧ Aside0 (Kd.R (Kd.int .i64) 3 w' w.heap.size (fun _ => True) v5 x5_1) ∧ Aside0 (Below w.heap.size w w'))
  case atStart => exact ⟨(([] : List Int)), (0), (by first|rfl|(simp; done)|(simp [*]; done)), H', ⟨Nat.le_refl _⟩, ⟨by first|exact Kd.R_nil _ _ _ _ _|exact Kd.N_nil _ _ _ _ _|exact Kd.V_nil _ _ _ _ _|exact Kd.Q_nil _ _ _ _ _|exact Kd.S_nil _ _ _ _ _⟩, ⟨by repeat (first|(with_reducible first|exact HB.out|apply lA|apply lN|apply lD)|exact HB.out)⟩⟩
  case round =>
   clear H'
   obtain ⟨x5_1, x17_1, rfl, HA, HK1, HO_5, HB⟩ := hrel
   cases gk with
  |zero => exact absurd HA.out (by simp [flat_stack.l0])
  |succ k1 =>
    have H := HA.out
    clear HA
    simp only [flat_stack.l0] at H
    by_cases c8 : x17_1 < (y148.length : Int)
    ·rw [if_pos c8] at H
     have c8b0 : decide (x17_1 < (y148.length : Int)) = true := decide_eq_true c8
     clear c8
     replace H := ifS H; obtain ⟨c9, H⟩ := H
     have c9b0 : decide (0 ≤ x17_1) = true := decide_eq_true c9
     clear c9
     replace H := ifS H; obtain ⟨c10, H⟩ := H
     have c10b0 : decide (x17_1 < (y148.length : Int)) = true := decide_eq_true c10
     clear c10
     by_cases c11 : ((rd_T64 y148 x17_1).f0) = 1
     ·rw [if_pos c11] at H
      have c11b0 : (((rd_T64 y148 x17_1).f0) == 1) = true := beq_iff_eq.mpr c11
      have c11b1 : (((rd_T64 y148 x17_1).f0) != 1) = false := bne_eq_false_iff_eq.mpr c11
      clear c11
      replace H := ifS H; obtain ⟨c12, H⟩ := H
      have LMc12 := aM c12
      clear c12
      obtain ⟨y154, hy154⟩ : ∃ y_ : List Int, y_ = (x5_1 ++ [x17_1]) := ⟨_, rfl⟩
      replace H : (flat_stack.l0 k1 y154 y148 (y148.length : Int) (wrap64 (x17_1 + 1))) = some r := by first|(rw [hy154]; with_reducible exact H)|(have H2_ := (Option.bind_some _ _).symm.trans H; rw [hy154]; with_reducible exact H2_)|(have H2_ := (Option.bind_some _ _).symm.trans H; with_reducible exact H2_)|with_reducible exact H|(rw [hy154]; exact H)|exact H
      have Ny154 := aM hy154
      clear hy154
      have H' := aM H
      clear H
      have p152 : 0 ≤ (x17_1 : Int) := of_decide_eq_true (by first|(with_reducible assumption)|assumption)
      have q152 : x17_1 < (y148.length : Int) := of_decide_eq_true (by first|(with_reducible assumption)|assumption)
      obtain ⟨ad152, e152, hx152_0, hx152_1, hx152_2, hx152_3⟩ := at_T64 HR151.out x17_1 p152 q152
      cases e152
      replace hx152_0 := cB HB.out hx152_0
      replace hx152_1 := cB HB.out hx152_1
      replace hx152_2 := cB HB.out hx152_2
      replace hx152_3 := cB HB.out hx152_3
      replace p152 := eq_true p152
      replace q152 := eq_true q152
      go_wp2_with (first|((with_reducible refine gate_dst (N := 7) rfl ?_); (try (refine gate_guard (by rfl) ?_; dsimp only)); refine box_event ?hg (N := 7) ?hd (cs := #[.int .i64 0, .int .i64 0, .int .i64 0, .int .i64 0]) (t := 64) ?hr ?_; (case hd => rfl); (case hg => rfl); (case hr => first|(go_simp; done)|(go_simp; rfl)); intro gb153 hg w13 hbox hb; replace HO_5 := aM (Kd.R_below (by (with_reducible repeat (first|apply Kd.R_alloc|apply Kd.R_drewN|apply Kd.R_drew)); exact HO_5.out) hb); replace BK153 := aM (hbox); replace GW153 := aM ((by rw [hg]; exact (below_size (by repeat (first|(with_reducible first|exact HB.out|apply lA|apply lN|apply lD)|exact HB.out))) : w.heap.size ≤ gb153)); replace GE153 := aM ((by rw [hg]; exact (below_size (by repeat (first|(with_reducible first|exact HB.out|apply lA|apply lN|apply lD)|exact HB.out))) : w.heap.size ≤ gb153)); replace HB := aM (below_step (by repeat (first|(with_reducible first|exact HB.out|apply lA|apply lN|apply lD)|exact HB.out)) hb); clear hb hbox hg; obtain ⟨hcz14_0, hcz14_1, hcz14_2, hcz14_3, hfz14_0, hfz14_1, hfz14_2, hfz14_3⟩ := bx4z BK153.out)|((with_reducible refine gate_builtin (b := .append) (xs := #[.tmp 26, .tmp 28]) rfl ?_); (try (refine gate_guard (by rfl) ?_; dsimp only)); at_builtin; refine Kd.R_append (Kd.int .i64) (w0 := w) w.heap.size rfl (.tmp 26) (.tmp 28) 52 3 (.int .i64 0) 8 rfl Try.underlying52 info3 rfl (by decide) (by omega) u5 x5_1 x17_1 [.int .i64 x17_1] (fun _ => True) (fun _ => False) rfl (by first|(go_simp; done)|(go_simp; rfl)) ?aP (fun _ hk => hk.elim) ?aF ?aO ?aB ?aS ?aL ?_; (case aP => exact rfl); (case aB => exact (by repeat (first|(with_reducible first|exact HB.out|apply lA|apply lN|apply lD|refine lS ?_ GE153.out)|exact HB.out))); (case aF => exact (fun _ _ => trivial)); (case aO => exact (by (with_reducible repeat (first|apply Kd.R_alloc|apply Kd.R_drewN|apply Kd.R_drew)); exact Kd.R_mono (Kd.Rf4 (Kd.R_types HO_5.out BK153.out (by decide)) (fun _ hk => hk.2)) (fun _ hk => trivial))); (case aS => exact (below_size (by repeat (first|(with_reducible first|exact HB.out|apply lA|apply lN|apply lD|refine lS ?_ GE153.out)|exact HB.out)))); (case aL => have := LMc12.out; omega); intro v155 w15 ho hb hg hat; rw [← Ny154.out] at ho; have n0_ := aM (blk_grown (g := gb153) (o := .cells #[.int .i64 ((rd_T64 y148 x17_1).f0), .int .i64 ((rd_T64 y148 x17_1).f1), .int .i64 ((rd_T64 y148 x17_1).f2), .int .i64 ((rd_T64 y148 x17_1).f3)] 64 (0, 0)) (by (with_reducible repeat (first|refine bN ?_ _|refine bD ?_|refine bA ?_ _)); apply put4; (with_reducible repeat (first|refine bN ?_ _|refine bD ?_|refine bA ?_ _)); exact BK153.out) hg (Kd.R_ne HO_5.out BK153.out (by decide))); have n1_ := aM (hb); have n2_ := aM (ho); clear BK153; clear HB; clear HO_5; have BK153 := n0_; have HB := n1_; have HO156 := n2_; clear n0_ n1_ n2_; clear ho hb hg hat))
      go_roundg k1
      case measure => have := HK1.out; omega
      case rel => exact ⟨(y154), (wrap64 (x17_1 + 1)), (by first|rfl|(simp; done)|(simp [*]; done)), H', ⟨by have := HK1.out; omega⟩, ⟨by (with_reducible repeat (first|apply Kd.R_alloc|apply Kd.R_drewN|apply Kd.R_drew)); exact HO156.out⟩, ⟨by repeat (first|(with_reducible first|exact HB.out|apply lA|apply lN|apply lD|refine lS ?_ GE153.out)|exact HB.out)⟩⟩
     ·rw [if_neg c11] at H
      have c11b0 : (((rd_T64 y148 x17_1).f0) == 1) = false := beq_eq_false_iff_ne.mpr c11
      have c11b1 : (((rd_T64 y148 x17_1).f0) != 1) = true := bne_iff_ne.mpr c11
      by_cases c16 : ((rd_T64 y148 x17_1).f0) = 2
      ·rw [if_pos c16] at H
       have c16b0 : (((rd_T64 y148 x17_1).f0) == 2) = true := beq_iff_eq.mpr c16
       have c16b1 : (((rd_T64 y148 x17_1).f0) != 2) = false := bne_eq_false_iff_eq.mpr c16
       clear c16
       by_cases c17 : (x5_1.length : Int) > 0
       ·rw [if_pos c17] at H
        have c17b0 : decide (0 < (x5_1.length : Int)) = true := decide_eq_true c17
        have c17b1 : decide (0 < x5_1.length) = true := decide_eq_true (by omega)
        clear c17
        obtain ⟨ji18, hji18⟩ : ∃ j_ : Int, (wrap64 ((x5_1.length : Int) - 1)) = j_ := ⟨_, rfl⟩
        replace H : (if 0 ≤ (ji18) then (if (ji18) ≤ (x5_1.length : Int) then (flat_stack.l0 k1 (x5_1.take ((ji18) : Int).toNat) y148 (y148.length : Int) (wrap64 (x17_1 + 1))) else (none)) else (none)) = some r := by first|(rw [hji18] at H; exact H)|(simp only [hji18] at H ⊢; exact H)
        have hji18w : (IntKind.i64.wrap ((x5_1.length : Int) - 1)) = ji18 := (i64_w _).trans hji18
        replace H := ifS H; obtain ⟨c19, H⟩ := H
        have c19b0 := eq_true c19
        have c19b1 : decide (0 ≤ (ji18)) = true := decide_eq_true c19
        clear c19
        replace H := ifS H; obtain ⟨c20, H⟩ := H
        have c20b0 := eq_true c20
        have c20b1 : decide ((ji18) ≤ (x5_1.length : Int)) = true := decide_eq_true c20
        clear c20
        obtain ⟨y157, hy157⟩ : ∃ y_ : List Int, y_ = (x5_1.take ((ji18) : Int).toNat) := ⟨_, rfl⟩
        replace H : (flat_stack.l0 k1 y157 y148 (y148.length : Int) (wrap64 (x17_1 + 1))) = some r := by first|(rw [hy157]; with_reducible exact H)|(have H2_ := (Option.bind_some _ _).symm.trans H; rw [hy157]; with_reducible exact H2_)|(have H2_ := (Option.bind_some _ _).symm.trans H; with_reducible exact H2_)|with_reducible exact H|(rw [hy157]; exact H)|exact H
        have Ny157 := aM hy157
        clear hy157
        have H' := aM H
        clear H
        have p152 : 0 ≤ (x17_1 : Int) := of_decide_eq_true (by first|(with_reducible assumption)|assumption)
        have q152 : x17_1 < (y148.length : Int) := of_decide_eq_true (by first|(with_reducible assumption)|assumption)
        obtain ⟨ad152, e152, hx152_0, hx152_1, hx152_2, hx152_3⟩ := at_T64 HR151.out x17_1 p152 q152
        cases e152
        replace hx152_0 := cB HB.out hx152_0
        replace hx152_1 := cB HB.out hx152_1
        replace hx152_2 := cB HB.out hx152_2
        replace hx152_3 := cB HB.out hx152_3
        replace p152 := eq_true p152
        replace q152 := eq_true q152
        go_wp2_with (first|((with_reducible refine gate_dst (N := 7) rfl ?_); (try (refine gate_guard (by rfl) ?_; dsimp only)); refine box_event ?hg (N := 7) ?hd (cs := #[.int .i64 0, .int .i64 0, .int .i64 0, .int .i64 0]) (t := 64) ?hr ?_; (case hd => rfl); (case hg => rfl); (case hr => first|(go_simp; done)|(go_simp; rfl)); intro gb153 hg w21 hbox hb; replace HO_5 := aM (Kd.R_below (by (with_reducible repeat (first|apply Kd.R_alloc|apply Kd.R_drewN|apply Kd.R_drew)); exact HO_5.out) hb); replace BK153 := aM (hbox); replace GW153 := aM ((by rw [hg]; exact (below_size (by repeat (first|(with_reducible first|exact HB.out|apply lA|apply lN|apply lD)|exact HB.out))) : w.heap.size ≤ gb153)); replace GE153 := aM ((by rw [hg]; exact (below_size (by repeat (first|(with_reducible first|exact HB.out|apply lA|apply lN|apply lD)|exact HB.out))) : w.heap.size ≤ gb153)); replace HB := aM (below_step (by repeat (first|(with_reducible first|exact HB.out|apply lA|apply lN|apply lD)|exact HB.out)) hb); clear hb hbox hg; obtain ⟨hcz22_0, hcz22_1, hcz22_2, hcz22_3, hfz22_0, hfz22_1, hfz22_2, hfz22_3⟩ := bx4z BK153.out)|((with_reducible refine gate_store (t := 64) (p := 7) rfl ?_); refine store_event (t := 64) (p := 7) (v := ?vo_w23) (w1 := ((((w21.setCell ⟨gb153, 0, none⟩ (.int .i64 ((rd_T64 y148 x17_1).f0))).setCell ⟨gb153, 1, none⟩ (.int .i64 ((rd_T64 y148 x17_1).f1))).setCell ⟨gb153, 2, none⟩ (.int .i64 ((rd_T64 y148 x17_1).f2))).setCell ⟨gb153, 3, none⟩ (.int .i64 ((rd_T64 y148 x17_1).f3)))) ?hg ?ho ?hn ?hr ?_; (case ho => rfl); (case hg => rfl); (case hn => rfl); (case hr => first|(go_simp; done)|(go_simp; rfl)); intro w23 hw; have n0_ : Aside0 (Kd.R (Kd.int .i64) 3 w23 w.heap.size (fun _ => True) u5 x5_1) := ⟨(by rw [hw]; exact (by (with_reducible repeat (first|apply Kd.R_alloc|apply Kd.R_drewN|apply Kd.R_drew)); exact Kd.R_mono (Kd.Rf4 (Kd.R_types HO_5.out BK153.out (by decide)) (fun _ hk => hk.2)) (fun _ hk => trivial)))⟩; have n1_ : Aside0 (w23.heap[gb153]? = some (.cells #[.int .i64 ((rd_T64 y148 x17_1).f0), .int .i64 ((rd_T64 y148 x17_1).f1), .int .i64 ((rd_T64 y148 x17_1).f2), .int .i64 ((rd_T64 y148 x17_1).f3)] 64 (0, 0))) := ⟨(by rw [hw]; exact (by (with_reducible repeat (first|refine bN ?_ _|refine bD ?_|refine bA ?_ _)); apply put4; (with_reducible repeat (first|refine bN ?_ _|refine bD ?_|refine bA ?_ _)); exact BK153.out))⟩; have n2_ : Aside0 (Below w.heap.size w w23) := ⟨(by rw [hw]; exact (by repeat (first|(with_reducible first|exact HB.out|apply lA|apply lN|apply lD|refine lS ?_ GE153.out)|exact HB.out)))⟩; clear hw; clear HO_5; clear BK153; clear HB; have HO_5 := n0_; have BK153 := n1_; have HB := n2_; clear n0_ n1_ n2_; obtain ⟨hcz24_0, hcz24_1, hcz24_2, hcz24_3, hfz24_0, hfz24_1, hfz24_2, hfz24_3⟩ := bx4z BK153.out; obtain ⟨Ao25, co25, eo25⟩ := Kd.R_slice HO_5.out; subst eo25; have q26 : ((ji18) : Int) ≤ ((x5_1.length : Int) : Int) := of_decide_eq_true (by first|(with_reducible assumption)|assumption); obtain ⟨i026, hi026, _, hsz26, _⟩ := info_parts info3; have hcut26 := cut_to (P := Try.prog) 52 3 .i64 Try.underlying52 hi026 Ao25 x5_1.length co25 (ji18) (of_decide_eq_true (by first|(with_reducible assumption)|assumption)) q26 (Kd.R_reads' HO_5.out).2.1; have hr26 := Kd.R_take (m := ((ji18) : Int).toNat) HO_5.out (by omega); have hy26 : y157.length = ((ji18) : Int).toNat := (by rw [Ny157.out, List.length_take]; omega); rw [← Ny157.out] at hr26; rw [← hy26] at hr26 hcut26; clear hy26 hi026 hsz26 HO_5; have HO159 := aM hr26; clear hr26; replace q26 := eq_true q26))
        go_roundg k1
        case measure => have := HK1.out; omega
        case rel => exact ⟨(y157), (wrap64 (x17_1 + 1)), (by first|rfl|(simp; done)|(simp [*]; done)), H', ⟨by have := HK1.out; omega⟩, ⟨by (with_reducible repeat (first|apply Kd.R_alloc|apply Kd.R_drewN|apply Kd.R_drew)); exact HO159.out⟩, ⟨by repeat (first|(with_reducible first|exact HB.out|apply lA|apply lN|apply lD|refine lS ?_ GE153.out)|exact HB.out)⟩⟩
       ·rw [if_neg c17] at H
        have c17b0 : decide (0 < (x5_1.length : Int)) = false := decide_eq_false c17
        have c17b1 : decide (0 < x5_1.length) = false := decide_eq_false (by omega)
        clear c17
        have H' := aM H
        clear H
        have p152 : 0 ≤ (x17_1 : Int) := of_decide_eq_true (by first|(with_reducible assumption)|assumption)
        have q152 : x17_1 < (y148.length : Int) := of_decide_eq_true (by first|(with_reducible assumption)|assumption)
        obtain ⟨ad152, e152, hx152_0, hx152_1, hx152_2, hx152_3⟩ := at_T64 HR151.out x17_1 p152 q152
        cases e152
        replace hx152_0 := cB HB.out hx152_0
        replace hx152_1 := cB HB.out hx152_1
        replace hx152_2 := cB HB.out hx152_2
        replace hx152_3 := cB HB.out hx152_3
        replace p152 := eq_true p152
        replace q152 := eq_true q152
        go_wp2_with (first|((with_reducible refine gate_dst (N := 7) rfl ?_); (try (refine gate_guard (by rfl) ?_; dsimp only)); refine box_event ?hg (N := 7) ?hd (cs := #[.int .i64 0, .int .i64 0, .int .i64 0, .int .i64 0]) (t := 64) ?hr ?_; (case hd => rfl); (case hg => rfl); (case hr => first|(go_simp; done)|(go_simp; rfl)); intro gb153 hg w27 hbox hb; replace HO_5 := aM (Kd.R_below (by (with_reducible repeat (first|apply Kd.R_alloc|apply Kd.R_drewN|apply Kd.R_drew)); exact HO_5.out) hb); replace BK153 := aM (hbox); replace GW153 := aM ((by rw [hg]; exact (below_size (by repeat (first|(with_reducible first|exact HB.out|apply lA|apply lN|apply lD)|exact HB.out))) : w.heap.size ≤ gb153)); replace GE153 := aM ((by rw [hg]; exact (below_size (by repeat (first|(with_reducible first|exact HB.out|apply lA|apply lN|apply lD)|exact HB.out))) : w.heap.size ≤ gb153)); replace HB := aM (below_step (by repeat (first|(with_reducible first|exact HB.out|apply lA|apply lN|apply lD)|exact HB.out)) hb); clear hb hbox hg; obtain ⟨hcz28_0, hcz28_1, hcz28_2, hcz28_3, hfz28_0, hfz28_1, hfz28_2, hfz28_3⟩ := bx4z BK153.out; obtain ⟨Ao29, co29, eo29⟩ := Kd.R_slice HO_5.out; subst eo29))
        go_roundg k1
        case measure => have := HK1.out; omega
        case rel => exact ⟨(x5_1), (wrap64 (x17_1 + 1)), (by first|rfl|(simp; done)|(simp [*]; done)), H', ⟨by have := HK1.out; omega⟩, ⟨by (with_reducible repeat (first|apply Kd.R_alloc|apply Kd.R_drewN|apply Kd.R_drew)); exact Kd.R_mono (Kd.Rf4 (Kd.R_types HO_5.out BK153.out (by decide)) (fun _ hk => hk.2)) (fun _ hk => trivial)⟩, ⟨by repeat (first|(with_reducible first|exact HB.out|apply lA|apply lN|apply lD|refine lS ?_ GE153.out)|exact HB.out)⟩⟩
      ·rw [if_neg c16] at H
       have c16b0 : (((rd_T64 y148 x17_1).f0) == 2) = false := beq_eq_false_iff_ne.mpr c16
       have c16b1 : (((rd_T64 y148 x17_1).f0) != 2) = true := bne_iff_ne.mpr c16
       have H' := aM H
       clear H
       have p152 : 0 ≤ (x17_1 : Int) := of_decide_eq_true (by first|(with_reducible assumption)|assumption)
       have q152 : x17_1 < (y148.length : Int) := of_decide_eq_true (by first|(with_reducible assumption)|assumption)
       obtain ⟨ad152, e152, hx152_0, hx152_1, hx152_2, hx152_3⟩ := at_T64 HR151.out x17_1 p152 q152
       cases e152
       replace hx152_0 := cB HB.out hx152_0
       replace hx152_1 := cB HB.out hx152_1
       replace hx152_2 := cB HB.out hx152_2
       replace hx152_3 := cB HB.out hx152_3
       replace p152 := eq_true p152
       replace q152 := eq_true q152
       go_wp2_with (first|((with_reducible refine gate_dst (N := 7) rfl ?_); (try (refine gate_guard (by rfl) ?_; dsimp only)); refine box_event ?hg (N := 7) ?hd (cs := #[.int .i64 0, .int .i64 0, .int .i64 0, .int .i64 0]) (t := 64) ?hr ?_; (case hd => rfl); (case hg => rfl); (case hr => first|(go_simp; done)|(go_simp; rfl)); intro gb153 hg w30 hbox hb; replace HO_5 := aM (Kd.R_below (by (with_reducible repeat (first|apply Kd.R_alloc|apply Kd.R_drewN|apply Kd.R_drew)); exact HO_5.out) hb); replace BK153 := aM (hbox); replace GW153 := aM ((by rw [hg]; exact (below_size (by repeat (first|(with_reducible first|exact HB.out|apply lA|apply lN|apply lD)|exact HB.out))) : w.heap.size ≤ gb153)); replace GE153 := aM ((by rw [hg]; exact (below_size (by repeat (first|(with_reducible first|exact HB.out|apply lA|apply lN|apply lD)|exact HB.out))) : w.heap.size ≤ gb153)); replace HB := aM (below_step (by repeat (first|(with_reducible first|exact HB.out|apply lA|apply lN|apply lD)|exact HB.out)) hb); clear hb hbox hg; obtain ⟨hcz31_0, hcz31_1, hcz31_2, hcz31_3, hfz31_0, hfz31_1, hfz31_2, hfz31_3⟩ := bx4z BK153.out))
       go_roundg k1
       case measure => have := HK1.out; omega
       case rel => exact ⟨(x5_1), (wrap64 (x17_1 + 1)), (by first|rfl|(simp; done)|(simp [*]; done)), H', ⟨by have := HK1.out; omega⟩, ⟨by (with_reducible repeat (first|apply Kd.R_alloc|apply Kd.R_drewN|apply Kd.R_drew)); exact Kd.R_mono (Kd.Rf4 (Kd.R_types HO_5.out BK153.out (by decide)) (fun _ hk => hk.2)) (fun _ hk => trivial)⟩, ⟨by repeat (first|(with_reducible first|exact HB.out|apply lA|apply lN|apply lD|refine lS ?_ GE153.out)|exact HB.out)⟩⟩
    ·rw [if_neg c8] at H
     have c8b0 : decide (x17_1 < (y148.length : Int)) = false := decide_eq_false c8
     clear c8
     obtain rfl := Option.some.inj H
     go_wp2
     go_ret
     exact ⟨_, by first|rfl|(simp [errW_none, errW_some] <;> rfl)|(simp only [← hji4]; first|rfl|(simp [errW_none, errW_some] <;> rfl))|(simp [*, errW_none, errW_some] <;> rfl), by (with_reducible repeat (first|apply Kd.R_alloc|apply Kd.R_drewN|apply Kd.R_drew)); exact HO_5.out, by repeat (first|(with_reducible first|exact HB.out|apply lA|apply lN|apply lD)|exact HB.out)⟩

def flat_Around.f (k : Nat) (l0 : List (S64)) (a1 : Int) : Option (Int) := (flat_stack.f k l0 a1).bind fun t160 => (if (t160.length : Int) = 0 then (some (-1)) else (if 0 ≤ (wrap64 ((t160.length : Int) - 1)) then (if (wrap64 ((t160.length : Int) - 1)) < (t160.length : Int) then (some (rd t160 (wrap64 ((t160.length : Int) - 1)))) else (none)) else (none)))
theorem flat_Around.mono : ∀ a0 a1 k, LeO (flat_Around.f k a0 a1) (flat_Around.f (k + 1) a0 a1) := by
 intro a0 a1 k
 unfold flat_Around.f
 repeat' first
  |(with_reducible exact flat_stack.mono _ _ _)
  |(with_reducible exact LeO.refl _)
  |(with_reducible exact LeO.none _)
  |(with_reducible refine LeO.ite ?_ ?_)
  |(with_reducible refine LeO.bind ?_ (fun _ => ?_))
  |exact flat_stack.mono _ _ _
  |exact LeO.none _
  |refine LeO.ite ?_ ?_
  |refine LeO.bind ?_ (fun _ => ?_)
set_option maxHeartbeats 8000000 in
set_option maxRecDepth 100000 in
theorem flat_Around.calls (k : Nat) (A0 : Option Addr) (c0 : Nat) (l0 : List (S64)) (a1 : Int) (r : Int) (w : World) (hr0 : Kd.C k64 w A0 l0.length l0) (hc0 : l0.length ≤ c0) (h : flat_Around.f k l0 a1 = some r) :
  Calls Try.prog 43 #[.slice A0 l0.length c0, .int .i64 a1] w fun e w' => e = .returned (.int .i64 r) ∧ Below w.heap.size w w' := by
 have HR0 := aM hr0
 have HC0 := aM hc0
 clear hr0 hc0
 have HB := aM (Below.refl w.heap.size w)
 have H : ((flat_stack.f k l0 a1).bind fun t160 => (if (t160.length : Int) = 0 then (some (-1)) else (if 0 ≤ (wrap64 ((t160.length : Int) - 1)) then (if (wrap64 ((t160.length : Int) - 1)) < (t160.length : Int) then (some (rd t160 (wrap64 ((t160.length : Int) - 1)))) else (none)) else (none)))) = some r := h
 clear h
 replace H := Option.bind_eq_some_iff.mp H
 obtain ⟨t160, A30, H⟩ := H
 replace H : (if (t160.length : Int) = 0 then (some (-1)) else (if 0 ≤ (wrap64 ((t160.length : Int) - 1)) then (if (wrap64 ((t160.length : Int) - 1)) < (t160.length : Int) then (some (rd t160 (wrap64 ((t160.length : Int) - 1)))) else (none)) else (none))) = some r := H
 have A3 := aM A30
 clear A30
 by_cases c4 : (t160.length : Int) = 0
 ·rw [if_pos c4] at H
  have c4b0 : ((t160.length : Int) == 0) = true := beq_iff_eq.mpr c4
  have c4b1 : ((t160.length : Int) != 0) = false := bne_eq_false_iff_eq.mpr c4
  clear c4
  obtain rfl := Option.some.inj H
  go_enter Try.func43, Try.ntmps43
  go_wp2_with (first|((with_reducible refine gate_callee (f := 55) rfl ?_); refine goesL_ (some 8) rfl rfl Try.func55 (by kernel_rfl) rfl #[.slice A0 l0.length c0, .int .i64 a1] rfl (by (try simp only [List.map_toArray, List.map_cons, List.map_nil]); first|done|rfl|(simp only [List.length_drop, List.length_take]; rfl)) ?_; (with_reducible refine (flat_stack.calls k _ _ l0 a1 t160 _ ?side1 ?side2 A3.out).mono ?_); (case side1 => repeat (first|exact HR0.out|(with_reducible refine Kd.C_alloc ?_ _)|(with_reducible refine Kd.C_drewN ?_ _)|(with_reducible refine Kd.C_drew ?_))); (case side2 => exact HC0.out); rintro e w5 ⟨v161, rfl, ho0, hb⟩; refine ⟨_, rfl, ?_⟩; replace HO162 := aM (Kd.R_lower ho0 (below_size (by repeat (first|(with_reducible first|exact HB.out|apply lA|apply lN|apply lD)|exact HB.out)))); replace HB := aM (below_step (by repeat (first|(with_reducible first|exact HB.out|apply lA|apply lN|apply lD)|exact HB.out)) hb); (try clear hb); (try clear hb2); (try clear hk); (try clear hi); (try clear ho0); obtain ⟨Ao6, co6, eo6⟩ := Kd.R_slice HO162.out; subst eo6))
  go_ret
  exact ⟨by first|rfl|(simp [errW_none, errW_some] <;> rfl)|(simp [*, errW_none, errW_some] <;> rfl), by repeat (first|(with_reducible first|exact HB.out|apply lA|apply lN|apply lD)|exact HB.out)⟩
 ·rw [if_neg c4] at H
  have c4b0 : ((t160.length : Int) == 0) = false := beq_eq_false_iff_ne.mpr c4
  have c4b1 : ((t160.length : Int) != 0) = true := bne_iff_ne.mpr c4
  have c4b2 : ¬ (t160 = []) := fun h_ => c4 (by rw [h_]; rfl)
  obtain ⟨ji7, hji7⟩ : ∃ j_ : Int, (wrap64 ((t160.length : Int) - 1)) = j_ := ⟨_, rfl⟩
  replace H : (if 0 ≤ (ji7) then (if (ji7) < (t160.length : Int) then (some (rd t160 (ji7))) else (none)) else (none)) = some r := by first|(rw [hji7] at H; exact H)|(simp only [hji7] at H ⊢; exact H)
  (try rw [hji7] at A3)
  have hji7w : (IntKind.i64.wrap ((t160.length : Int) - 1)) = ji7 := (i64_w _).trans hji7
  replace H := ifS H; obtain ⟨c8, H⟩ := H
  have c8b0 : decide (0 ≤ (ji7)) = true := decide_eq_true c8
  clear c8
  replace H := ifS H; obtain ⟨c9, H⟩ := H
  have c9b0 : decide ((ji7) < (t160.length : Int)) = true := decide_eq_true c9
  clear c9
  obtain rfl := Option.some.inj H
  go_enter Try.func43, Try.ntmps43
  go_wp2_with (first|((with_reducible refine gate_callee (f := 55) rfl ?_); refine goesL_ (some 8) rfl rfl Try.func55 (by kernel_rfl) rfl #[.slice A0 l0.length c0, .int .i64 a1] rfl (by (try simp only [List.map_toArray, List.map_cons, List.map_nil]); first|done|rfl|(simp only [List.length_drop, List.length_take]; rfl)) ?_; (with_reducible refine (flat_stack.calls k _ _ l0 a1 t160 _ ?side1 ?side2 A3.out).mono ?_); (case side1 => repeat (first|exact HR0.out|(with_reducible refine Kd.C_alloc ?_ _)|(with_reducible refine Kd.C_drewN ?_ _)|(with_reducible refine Kd.C_drew ?_))); (case side2 => exact HC0.out); rintro e w10 ⟨v161, rfl, ho0, hb⟩; refine ⟨_, rfl, ?_⟩; replace HO162 := aM (Kd.R_lower ho0 (below_size (by repeat (first|(with_reducible first|exact HB.out|apply lA|apply lN|apply lD)|exact HB.out)))); replace HB := aM (below_step (by repeat (first|(with_reducible first|exact HB.out|apply lA|apply lN|apply lD)|exact HB.out)) hb); (try clear hb); (try clear hb2); (try clear hk); (try clear hi); (try clear ho0); obtain ⟨Ao11, co11, eo11⟩ := Kd.R_slice HO162.out; subst eo11; have p163 : 0 ≤ ((ji7) : Int) := of_decide_eq_true (by first|(with_reducible assumption)|assumption); have q163 : (ji7) < (t160.length : Int) := of_decide_eq_true (by first|(with_reducible assumption)|assumption); obtain ⟨ad163, e163, hx163_0⟩ := Kd.at_int (Kd.R_reads' HO162.out).2.2 (ji7) p163 q163; cases e163; replace p163 := eq_true p163; replace q163 := eq_true q163))
  go_ret
  exact ⟨by first|rfl|(simp [errW_none, errW_some] <;> rfl)|(simp only [← hji7]; first|rfl|(simp [errW_none, errW_some] <;> rfl))|(simp [*, errW_none, errW_some] <;> rfl), by repeat (first|(with_reducible first|exact HB.out|apply lA|apply lN|apply lD)|exact HB.out)⟩

end Go.Proofs.Ytjpmlggkhhoooaa.PDq
-- Written for this claim by a program (the kit's print, with hand-made contracts for what it does not take).
namespace Go.Proofs.Ytjpmlggkhhoooaa.PDq
open Go.RowKit Go.Proofs.YtjpmlggkhhoooaaW.PrintWords Go.Proofs.YtjpmlggkhhoooaaW.PrintLast Go.Proofs.YtjpmlggkhhoooaaW.PrintMore
attribute [local go_sem] max2_int min2_int max_two min_two max_three min_three max_four min_four   -- for this text's walks alone
set_option linter.unusedVariables false
set_option linter.unusedSimpArgs false

mutual
def flat_Partner.j0 : Nat → List (S64) → Int → Bool → Option (Int)
|0, _, _, _ => none
|k + 1, x0, x1, x15 => if x15 = true then (some (-1)) else (if 0 ≤ x1 then (if x1 < (x0.length : Int) then (if ((rd_T64 x0 x1).f0) = 2 then ((flat_Around.f k x0 x1).bind fun t165 => (some t165)) else (if ((rd_T64 x0 x1).f0) = 1 then (if x1 ≤ (x0.length : Int) then ((some (x0.drop (x1 : Int).toNat : List (S64))).bind fun y166 => (flat_Partner.l0 k x1 0 y166 (y166.length : Int) 0)) else (none)) else (some (-1)))) else (none)) else (none))
def flat_Partner.l0 : Nat → Int → Int → List (S64) → Int → Int → Option (Int)
|0, _, _, _, _, _ => none
|k + 1, x1, x5, x30, x31, x32 => if x32 < x31 then (if 0 ≤ x32 then (if x32 < (x30.length : Int) then (if ((rd_T64 x30 x32).f0) = 1 then (flat_Partner.l0 k x1 (wrap64 (x5 + 1)) x30 x31 (wrap64 (x32 + 1))) else (if ((rd_T64 x30 x32).f0) = 2 then (if (wrap64 (x5 - 1)) = 0 then (some (wrap64 (x1 + x32))) else (flat_Partner.l0 k x1 (wrap64 (x5 - 1)) x30 x31 (wrap64 (x32 + 1)))) else (flat_Partner.l0 k x1 x5 x30 x31 (wrap64 (x32 + 1))))) else (none)) else (none)) else (some (-1))
end
def flat_Partner.f (k : Nat) (l0 : List (S64)) (a1 : Int) : Option (Int) := if a1 < 0 then (flat_Partner.j0 k l0 a1 true) else (flat_Partner.j0 k l0 a1 (decide (a1 ≥ (l0.length : Int))))
theorem flat_Partner.mono_l : ∀ k, (∀ y0 y1 y2, LeO (flat_Partner.j0 k y0 y1 y2) (flat_Partner.j0 (k + 1) y0 y1 y2)) ∧ (∀ y0 y1 y2 y3 y4, LeO (flat_Partner.l0 k y0 y1 y2 y3 y4) (flat_Partner.l0 (k + 1) y0 y1 y2 y3 y4))
|0 => ⟨fun _ _ _ r h => by simp [flat_Partner.j0] at h, fun _ _ _ _ _ r h => by simp [flat_Partner.l0] at h⟩
|k + 1 => by
  obtain ⟨ih0, ih1⟩ := flat_Partner.mono_l k
  refine ⟨?_, ?_⟩
  ·intro y0 y1 y2
   unfold flat_Partner.j0
   repeat' first
  |(with_reducible exact ih0 _ _ _)
  |(with_reducible exact ih1 _ _ _ _ _)
  |(with_reducible exact flat_Around.mono _ _ _)
  |(with_reducible exact LeO.refl _)
  |(with_reducible exact LeO.none _)
  |(with_reducible refine LeO.ite ?_ ?_)
  |(with_reducible refine LeO.bind ?_ (fun _ => ?_))
  |exact ih0 _ _ _
  |exact ih1 _ _ _ _ _
  |exact flat_Around.mono _ _ _
  |exact LeO.none _
  |refine LeO.ite ?_ ?_
  |refine LeO.bind ?_ (fun _ => ?_)
  ·intro y0 y1 y2 y3 y4
   unfold flat_Partner.l0
   repeat' first
  |(with_reducible exact ih0 _ _ _)
  |(with_reducible exact ih1 _ _ _ _ _)
  |(with_reducible exact flat_Around.mono _ _ _)
  |(with_reducible exact LeO.refl _)
  |(with_reducible exact LeO.none _)
  |(with_reducible refine LeO.ite ?_ ?_)
  |(with_reducible refine LeO.bind ?_ (fun _ => ?_))
  |exact ih0 _ _ _
  |exact ih1 _ _ _ _ _
  |exact flat_Around.mono _ _ _
  |exact LeO.none _
  |refine LeO.ite ?_ ?_
  |refine LeO.bind ?_ (fun _ => ?_)
theorem flat_Partner.mono : ∀ a0 a1 k, LeO (flat_Partner.f k a0 a1) (flat_Partner.f (k + 1) a0 a1) := by
 intro a0 a1 k
 obtain ⟨ih0, ih1⟩ := flat_Partner.mono_l k
 unfold flat_Partner.f
 repeat' first
  |(with_reducible exact ih0 _ _ _)
  |(with_reducible exact ih1 _ _ _ _ _)
  |(with_reducible exact flat_Around.mono _ _ _)
  |(with_reducible exact LeO.refl _)
  |(with_reducible exact LeO.none _)
  |(with_reducible refine LeO.ite ?_ ?_)
  |(with_reducible refine LeO.bind ?_ (fun _ => ?_))
  |exact ih0 _ _ _
  |exact ih1 _ _ _ _ _
  |exact flat_Around.mono _ _ _
  |exact LeO.none _
  |refine LeO.ite ?_ ?_
  |refine LeO.bind ?_ (fun _ => ?_)
set_option maxHeartbeats 8000000 in
set_option maxRecDepth 100000 in
theorem flat_Partner.calls (k : Nat) (A0 : Option Addr) (c0 : Nat) (l0 : List (S64)) (a1 : Int) (r : Int) (w : World) (hr0 : Kd.C k64 w A0 l0.length l0) (hc0 : l0.length ≤ c0) (h : flat_Partner.f k l0 a1 = some r) :
  Calls Try.prog 23 #[.slice A0 l0.length c0, .int .i64 a1] w fun e w' => e = .returned (.int .i64 r) ∧ Below w.heap.size w w' := by
 have hu64 := Try.underlying64
 have HR0 := aM hr0
 have HC0 := aM hc0
 clear hr0 hc0
 have HB := aM (Below.refl w.heap.size w)
 have H : (if a1 < 0 then (flat_Partner.j0 k l0 a1 true) else (flat_Partner.j0 k l0 a1 (decide (a1 ≥ (l0.length : Int))))) = some r := h
 clear h
 have HC3 := aM H
 clear H
 go_enter Try.func23, Try.ntmps23
 go_upto_region 1 with (fail)
 go_cut [15] (fun v15 wc => ∃ (kq : Nat) (x15_2 : Bool), v15 = .bool x15_2 ∧ Aside0 (flat_Partner.j0 kq l0 a1 x15_2 = some r) ∧ Aside0 (kq ≤ k) ∧ Aside0 (Below w.heap.size w wc))
 case first =>
  have H := HC3.out
  clear HC3
  by_cases c4 : a1 < 0
  ·rw [if_pos c4] at H
   have c4b0 : decide (a1 < 0) = true := decide_eq_true c4
   clear c4
   (first|rw [c4b0]|(simp only [i64_w, i32_w]; rw [c4b0])|skip)
   have H' := aM H
   clear H
   go_wp2
   go_meet
   case rel => exact ⟨_, (true), (by first|rfl|(simp; done)|(simp [*]; done)), H', ⟨by first|omega|exact Nat.le_refl _⟩, ⟨by repeat (first|(with_reducible first|exact HB.out|apply lA|apply lN|apply lD)|exact HB.out)⟩⟩
  ·rw [if_neg c4] at H
   have c4b0 : decide (a1 < 0) = false := decide_eq_false c4
   clear c4
   (first|rw [c4b0]|(simp only [i64_w, i32_w]; rw [c4b0])|skip)
   have H' := aM H
   clear H
   go_wp2
   go_meet
   case rel => exact ⟨_, (decide (a1 ≥ (l0.length : Int))), (by first|rfl|(simp; done)|(simp [*]; done)), H', ⟨by first|omega|exact Nat.le_refl _⟩, ⟨by repeat (first|(with_reducible first|exact HB.out|apply lA|apply lN|apply lD)|exact HB.out)⟩⟩
 case rest =>
  clear HC3
  obtain ⟨kq, x15_2, rfl, HA, HJ2, HB⟩ := hcut
  cases kq with
 |zero => exact absurd HA.out (by simp [flat_Partner.j0])
 |succ kj2 =>
   have H := HA.out
   clear HA
   simp only [flat_Partner.j0] at H
   by_cases c5 : x15_2 = true
   ·subst c5
    have H1 : (some (-1)) = some r := by rw [if_pos rfl] at H; exact H
    clear H
    have H := H1
    clear H1
    obtain rfl := Option.some.inj H
    go_wp2
    go_ret
    exact ⟨by first|rfl|(simp [errW_none, errW_some] <;> rfl)|(simp [*, errW_none, errW_some] <;> rfl), by repeat (first|(with_reducible first|exact HB.out|apply lA|apply lN|apply lD)|exact HB.out)⟩
   ·replace c5 := Bool.eq_false_iff.mpr c5
    subst c5
    have H1 : (if 0 ≤ a1 then (if a1 < (l0.length : Int) then (if ((rd_T64 l0 a1).f0) = 2 then ((flat_Around.f kj2 l0 a1).bind fun t165 => (some t165)) else (if ((rd_T64 l0 a1).f0) = 1 then (if a1 ≤ (l0.length : Int) then ((some (l0.drop (a1 : Int).toNat : List (S64))).bind fun y166 => (flat_Partner.l0 kj2 a1 0 y166 (y166.length : Int) 0)) else (none)) else (some (-1)))) else (none)) else (none)) = some r := by rw [if_neg (show ¬ (false = true) by decide)] at H; exact H
    clear H
    have H := H1
    clear H1
    replace H := ifS H; obtain ⟨c6, H⟩ := H
    have c6b0 : decide (0 ≤ a1) = true := decide_eq_true c6
    clear c6
    replace H := ifS H; obtain ⟨c7, H⟩ := H
    have c7b0 : decide (a1 < (l0.length : Int)) = true := decide_eq_true c7
    clear c7
    by_cases c8 : ((rd_T64 l0 a1).f0) = 2
    ·rw [if_pos c8] at H
     have c8b0 : (((rd_T64 l0 a1).f0) == 2) = true := beq_iff_eq.mpr c8
     have c8b1 : (((rd_T64 l0 a1).f0) != 2) = false := bne_eq_false_iff_eq.mpr c8
     clear c8
     replace H := Option.bind_eq_some_iff.mp H
     obtain ⟨t165, A90, H⟩ := H
     replace H : (some t165) = some r := H
     have A9 := aM A90
     clear A90
     obtain rfl := Option.some.inj H
     have p164 : 0 ≤ (a1 : Int) := of_decide_eq_true (by first|(with_reducible assumption)|assumption)
     have q164 : a1 < (l0.length : Int) := of_decide_eq_true (by first|(with_reducible assumption)|assumption)
     obtain ⟨ad164, e164, hx164_0, hx164_1, hx164_2, hx164_3⟩ := at_T64 HR0.out a1 p164 q164
     cases e164
     replace hx164_0 := cB HB.out hx164_0
     replace hx164_1 := cB HB.out hx164_1
     replace hx164_2 := cB HB.out hx164_2
     replace hx164_3 := cB HB.out hx164_3
     replace p164 := eq_true p164
     replace q164 := eq_true q164
     go_wp2_with (first|((with_reducible refine gate_callee (f := 43) rfl ?_); refine goesL_ (some 25) rfl rfl Try.func43 (by kernel_rfl) rfl #[.slice (some ad164) l0.length c0, .int .i64 a1] rfl (by (try simp only [List.map_toArray, List.map_cons, List.map_nil]); first|done|rfl|(simp only [List.length_drop, List.length_take]; rfl)) ?_; (with_reducible refine (flat_Around.calls kj2 _ _ l0 a1 t165 _ ?side1 ?side2 A9.out).mono ?_); (case side1 => repeat (first|exact (Kd.C_below HR0.out HB.out)|(with_reducible refine Kd.C_alloc ?_ _)|(with_reducible refine Kd.C_drewN ?_ _)|(with_reducible refine Kd.C_drew ?_))); (case side2 => exact HC0.out); rintro e w10 ⟨rfl, hb⟩; refine ⟨_, rfl, ?_⟩; replace HB := aM (below_step (by repeat (first|(with_reducible first|exact HB.out|apply lA|apply lN|apply lD)|exact HB.out)) hb); (try clear hb); (try clear hb2); (try clear hk); (try clear hi)))
     go_ret
     exact ⟨by first|rfl|(simp [errW_none, errW_some] <;> rfl)|(simp [*, errW_none, errW_some] <;> rfl), by repeat (first|(with_reducible first|exact HB.out|apply lA|apply lN|apply lD)|exact HB.out)⟩
    ·rw [if_neg c8] at H
     have c8b0 : (((rd_T64 l0 a1).f0) == 2) = false := beq_eq_false_iff_ne.mpr c8
     have c8b1 : (((rd_T64 l0 a1).f0) != 2) = true := bne_iff_ne.mpr c8
     by_cases c11 : ((rd_T64 l0 a1).f0) = 1
     ·rw [if_pos c11] at H
      have c11b0 : (((rd_T64 l0 a1).f0) == 1) = true := beq_iff_eq.mpr c11
      have c11b1 : (((rd_T64 l0 a1).f0) != 1) = false := bne_eq_false_iff_eq.mpr c11
      clear c11
      have c12b0 := eq_true (of_decide_eq_true (by first|(with_reducible assumption)|assumption) : 0 ≤ a1)
      replace H := ifS H; obtain ⟨c13, H⟩ := H
      have c13b0 := eq_true c13
      have c13b1 : decide (a1 ≤ (l0.length : Int)) = true := decide_eq_true c13
      clear c13
      obtain ⟨y166, hy166⟩ : ∃ y_ : List (S64), y_ = (l0.drop (a1 : Int).toNat) := ⟨_, rfl⟩
      replace H : (flat_Partner.l0 kj2 a1 0 y166 (y166.length : Int) 0) = some r := by first|(rw [hy166]; with_reducible exact H)|(have H2_ := (Option.bind_some _ _).symm.trans H; rw [hy166]; with_reducible exact H2_)|(have H2_ := (Option.bind_some _ _).symm.trans H; with_reducible exact H2_)|with_reducible exact H|(rw [hy166]; exact H)|exact H
      have Ny166 := aM hy166
      clear hy166
      have H' := aM H
      clear H
      have p164 : 0 ≤ (a1 : Int) := of_decide_eq_true (by first|(with_reducible assumption)|assumption)
      have q164 : a1 < (l0.length : Int) := of_decide_eq_true (by first|(with_reducible assumption)|assumption)
      obtain ⟨ad164, e164, hx164_0, hx164_1, hx164_2, hx164_3⟩ := at_T64 HR0.out a1 p164 q164
      cases e164
      replace hx164_0 := cB HB.out hx164_0
      replace hx164_1 := cB HB.out hx164_1
      replace hx164_2 := cB HB.out hx164_2
      replace hx164_3 := cB HB.out hx164_3
      replace p164 := eq_true p164
      replace q164 := eq_true q164
      have q14 : (a1 : Int) ≤ ((l0.length : Int) : Int) := of_decide_eq_true (by first|(with_reducible assumption)|assumption)
      obtain ⟨i014, hi014, _, hsz14, _⟩ := info_parts info64
      have hroom14 : l0.length ≤ c0 := HC0.out
      have hC14 : Kd.C k64 _ (some ad164) l0.length l0 := HR0.out
      have q014 : (0 : Int) ≤ (a1 : Int) := of_decide_eq_true (by first|(with_reducible assumption)|assumption)
      have hcut14 := cut_from (P := Try.prog) 22 64 .i64 Try.underlying22 hi014 4 hsz14 (some ad164) l0.length c0 a1 q014 q14
      have hr14 := Kd.C_drop (m := (a1 : Int).toNat) (c := c0) hC14 (by omega) hroom14
      obtain ⟨A14, hA14⟩ : ∃ A1, A1 = (if c0 = (a1 : Int).toNat then (some ad164) else ((some ad164) : Option Addr).map (·.add ((a1 : Int).toNat * 4))) := ⟨_, rfl⟩
      obtain ⟨c14, hc14⟩ : ∃ c1, c1 = c0 - (a1 : Int).toNat := ⟨_, rfl⟩
      have hy14 : y166.length = l0.length - (a1 : Int).toNat := (by rw [Ny166.out, List.length_drop] <;> omega)
      rw [show (l0).drop (a1 : Int).toNat = y166 from Ny166.out.symm] at hr14
      replace hr14 : Kd.C k64 _ A14 y166.length y166 := (by rw [hA14]; exact hr14)
      rw [← hy14, ← hA14, ← hc14] at hcut14
      have HR169 := aM hr14
      have HC169 := aM (show y166.length ≤ c14 from by rw [hy14, hc14]; exact Nat.sub_le_sub_right hroom14 _)
      clear hr14 hC14 hroom14 hi014 hsz14 hc14
      have KY14 := aM hy14
      have KA14 := aM hA14
      clear hy14 hA14
      replace q14 := eq_true q14
      go_wp2
      go_loopg [5, 32] kj2 (fun kq v5 v32 w' => ∃ (x5_2 : Int) (x32_2 : Int), v5 = .int .i64 x5_2 ∧ v32 = .int .i64 x32_2 ∧ Aside0 (flat_Partner.l0 kq a1 x5_2 y166 (y166.length : Int) x32_2 = some r) ∧ Aside0 (kq ≤ kj2) ∧ Aside0 (Below w.heap.size w w'))
      case atStart => exact ⟨(0), (0), (by first|rfl|(simp; done)|(simp [*]; done)), (by first|rfl|(simp; done)|(simp [*]; done)), H', ⟨Nat.le_refl _⟩, ⟨by repeat (first|(with_reducible first|exact HB.out|apply lA|apply lN|apply lD)|exact HB.out)⟩⟩
      case round =>
       clear H'
       obtain ⟨x5_2, x32_2, rfl, rfl, HA, HK2, HB⟩ := hrel
       cases gk with
      |zero => exact absurd HA.out (by simp [flat_Partner.l0])
      |succ k2 =>
        have H := HA.out
        clear HA
        simp only [flat_Partner.l0] at H
        by_cases c15 : x32_2 < (y166.length : Int)
        ·rw [if_pos c15] at H
         have c15b0 : decide (x32_2 < (y166.length : Int)) = true := decide_eq_true c15
         clear c15
         replace H := ifS H; obtain ⟨c16, H⟩ := H
         have c16b0 : decide (0 ≤ x32_2) = true := decide_eq_true c16
         clear c16
         replace H := ifS H; obtain ⟨c17, H⟩ := H
         have c17b0 : decide (x32_2 < (y166.length : Int)) = true := decide_eq_true c17
         clear c17
         by_cases c18 : ((rd_T64 y166 x32_2).f0) = 1
         ·rw [if_pos c18] at H
          have c18b0 : (((rd_T64 y166 x32_2).f0) == 1) = true := beq_iff_eq.mpr c18
          have c18b1 : (((rd_T64 y166 x32_2).f0) != 1) = false := bne_eq_false_iff_eq.mpr c18
          clear c18
          have H' := aM H
          clear H
          have p170 : 0 ≤ (x32_2 : Int) := of_decide_eq_true (by first|(with_reducible assumption)|assumption)
          have q170 : x32_2 < (y166.length : Int) := of_decide_eq_true (by first|(with_reducible assumption)|assumption)
          obtain ⟨ad170, e170, hx170_0, hx170_1, hx170_2, hx170_3⟩ := at_T64 HR169.out x32_2 p170 q170
          cases e170
          replace hx170_0 := cB HB.out hx170_0
          replace hx170_1 := cB HB.out hx170_1
          replace hx170_2 := cB HB.out hx170_2
          replace hx170_3 := cB HB.out hx170_3
          replace p170 := eq_true p170
          replace q170 := eq_true q170
          go_wp2_with (first|((with_reducible refine gate_dst (N := 7) rfl ?_); (try (refine gate_guard (by rfl) ?_; dsimp only)); refine box_event ?hg (N := 7) ?hd (cs := #[.int .i64 0, .int .i64 0, .int .i64 0, .int .i64 0]) (t := 64) ?hr ?_; (case hd => rfl); (case hg => rfl); (case hr => first|(go_simp; done)|(go_simp; rfl)); intro gb171 hg w19 hbox hb; have hB_ := (by repeat (first|(with_reducible first|exact HB.out|apply lA|apply lN|apply lD)|exact HB.out) : Below w.heap.size w _); replace HB := aM (below_step hB_ hb); replace BK171 := aM (hbox); replace GW171 := aM ((bsz hg hB_)); replace GE171 := aM ((bsz hg hB_)); clear hb hbox hg hB_; obtain ⟨hcz20_0, hcz20_1, hcz20_2, hcz20_3, hfz20_0, hfz20_1, hfz20_2, hfz20_3⟩ := bx4z BK171.out))
          go_roundg k2
          case measure => have := HJ2.out; have := HK2.out; omega
          case rel => exact ⟨(wrap64 (x5_2 + 1)), (wrap64 (x32_2 + 1)), (by first|rfl|(simp; done)|(simp [*]; done)), (by first|rfl|(simp; done)|(simp [*]; done)), H', ⟨by have := HJ2.out; have := HK2.out; omega⟩, ⟨by repeat (first|(with_reducible first|exact HB.out|apply lA|apply lN|apply lD|refine lS ?_ GE171.out)|exact HB.out)⟩⟩
         ·rw [if_neg c18] at H
          have c18b0 : (((rd_T64 y166 x32_2).f0) == 1) = false := beq_eq_false_iff_ne.mpr c18
          have c18b1 : (((rd_T64 y166 x32_2).f0) != 1) = true := bne_iff_ne.mpr c18
          by_cases c21 : ((rd_T64 y166 x32_2).f0) = 2
          ·rw [if_pos c21] at H
           have c21b0 : (((rd_T64 y166 x32_2).f0) == 2) = true := beq_iff_eq.mpr c21
           have c21b1 : (((rd_T64 y166 x32_2).f0) != 2) = false := bne_eq_false_iff_eq.mpr c21
           clear c21
           by_cases c22 : (wrap64 (x5_2 - 1)) = 0
           ·rw [if_pos c22] at H
            have c22b0 : ((wrap64 (x5_2 - 1)) == 0) = true := beq_iff_eq.mpr c22
            have c22b1 : ((wrap64 (x5_2 - 1)) != 0) = false := bne_eq_false_iff_eq.mpr c22
            clear c22
            obtain rfl := Option.some.inj H
            have p170 : 0 ≤ (x32_2 : Int) := of_decide_eq_true (by first|(with_reducible assumption)|assumption)
            have q170 : x32_2 < (y166.length : Int) := of_decide_eq_true (by first|(with_reducible assumption)|assumption)
            obtain ⟨ad170, e170, hx170_0, hx170_1, hx170_2, hx170_3⟩ := at_T64 HR169.out x32_2 p170 q170
            cases e170
            replace hx170_0 := cB HB.out hx170_0
            replace hx170_1 := cB HB.out hx170_1
            replace hx170_2 := cB HB.out hx170_2
            replace hx170_3 := cB HB.out hx170_3
            replace p170 := eq_true p170
            replace q170 := eq_true q170
            go_wp2_with (first|((with_reducible refine gate_dst (N := 7) rfl ?_); (try (refine gate_guard (by rfl) ?_; dsimp only)); refine box_event ?hg (N := 7) ?hd (cs := #[.int .i64 0, .int .i64 0, .int .i64 0, .int .i64 0]) (t := 64) ?hr ?_; (case hd => rfl); (case hg => rfl); (case hr => first|(go_simp; done)|(go_simp; rfl)); intro gb171 hg w23 hbox hb; have hB_ := (by repeat (first|(with_reducible first|exact HB.out|apply lA|apply lN|apply lD)|exact HB.out) : Below w.heap.size w _); replace HB := aM (below_step hB_ hb); replace BK171 := aM (hbox); replace GW171 := aM ((bsz hg hB_)); replace GE171 := aM ((bsz hg hB_)); clear hb hbox hg hB_; obtain ⟨hcz24_0, hcz24_1, hcz24_2, hcz24_3, hfz24_0, hfz24_1, hfz24_2, hfz24_3⟩ := bx4z BK171.out))
            go_ret
            exact ⟨by first|rfl|(simp [errW_none, errW_some] <;> rfl)|(simp [*, errW_none, errW_some] <;> rfl), by repeat (first|(with_reducible first|exact HB.out|apply lA|apply lN|apply lD|refine lS ?_ GE171.out)|exact HB.out)⟩
           ·rw [if_neg c22] at H
            have c22b0 : ((wrap64 (x5_2 - 1)) == 0) = false := beq_eq_false_iff_ne.mpr c22
            have c22b1 : ((wrap64 (x5_2 - 1)) != 0) = true := bne_iff_ne.mpr c22
            have H' := aM H
            clear H
            have p170 : 0 ≤ (x32_2 : Int) := of_decide_eq_true (by first|(with_reducible assumption)|assumption)
            have q170 : x32_2 < (y166.length : Int) := of_decide_eq_true (by first|(with_reducible assumption)|assumption)
            obtain ⟨ad170, e170, hx170_0, hx170_1, hx170_2, hx170_3⟩ := at_T64 HR169.out x32_2 p170 q170
            cases e170
            replace hx170_0 := cB HB.out hx170_0
            replace hx170_1 := cB HB.out hx170_1
            replace hx170_2 := cB HB.out hx170_2
            replace hx170_3 := cB HB.out hx170_3
            replace p170 := eq_true p170
            replace q170 := eq_true q170
            go_wp2_with (first|((with_reducible refine gate_dst (N := 7) rfl ?_); (try (refine gate_guard (by rfl) ?_; dsimp only)); refine box_event ?hg (N := 7) ?hd (cs := #[.int .i64 0, .int .i64 0, .int .i64 0, .int .i64 0]) (t := 64) ?hr ?_; (case hd => rfl); (case hg => rfl); (case hr => first|(go_simp; done)|(go_simp; rfl)); intro gb171 hg w25 hbox hb; have hB_ := (by repeat (first|(with_reducible first|exact HB.out|apply lA|apply lN|apply lD)|exact HB.out) : Below w.heap.size w _); replace HB := aM (below_step hB_ hb); replace BK171 := aM (hbox); replace GW171 := aM ((bsz hg hB_)); replace GE171 := aM ((bsz hg hB_)); clear hb hbox hg hB_; obtain ⟨hcz26_0, hcz26_1, hcz26_2, hcz26_3, hfz26_0, hfz26_1, hfz26_2, hfz26_3⟩ := bx4z BK171.out))
            go_roundg k2
            case measure => have := HJ2.out; have := HK2.out; omega
            case rel => exact ⟨(wrap64 (x5_2 - 1)), (wrap64 (x32_2 + 1)), (by first|rfl|(simp; done)|(simp [*]; done)), (by first|rfl|(simp; done)|(simp [*]; done)), H', ⟨by have := HJ2.out; have := HK2.out; omega⟩, ⟨by repeat (first|(with_reducible first|exact HB.out|apply lA|apply lN|apply lD|refine lS ?_ GE171.out)|exact HB.out)⟩⟩
          ·rw [if_neg c21] at H
           have c21b0 : (((rd_T64 y166 x32_2).f0) == 2) = false := beq_eq_false_iff_ne.mpr c21
           have c21b1 : (((rd_T64 y166 x32_2).f0) != 2) = true := bne_iff_ne.mpr c21
           have H' := aM H
           clear H
           have p170 : 0 ≤ (x32_2 : Int) := of_decide_eq_true (by first|(with_reducible assumption)|assumption)
           have q170 : x32_2 < (y166.length : Int) := of_decide_eq_true (by first|(with_reducible assumption)|assumption)
           obtain ⟨ad170, e170, hx170_0, hx170_1, hx170_2, hx170_3⟩ := at_T64 HR169.out x32_2 p170 q170
           cases e170
           replace hx170_0 := cB HB.out hx170_0
           replace hx170_1 := cB HB.out hx170_1
           replace hx170_2 := cB HB.out hx170_2
           replace hx170_3 := cB HB.out hx170_3
           replace p170 := eq_true p170
           replace q170 := eq_true q170
           go_wp2_with (first|((with_reducible refine gate_dst (N := 7) rfl ?_); (try (refine gate_guard (by rfl) ?_; dsimp only)); refine box_event ?hg (N := 7) ?hd (cs := #[.int .i64 0, .int .i64 0, .int .i64 0, .int .i64 0]) (t := 64) ?hr ?_; (case hd => rfl); (case hg => rfl); (case hr => first|(go_simp; done)|(go_simp; rfl)); intro gb171 hg w27 hbox hb; have hB_ := (by repeat (first|(with_reducible first|exact HB.out|apply lA|apply lN|apply lD)|exact HB.out) : Below w.heap.size w _); replace HB := aM (below_step hB_ hb); replace BK171 := aM (hbox); replace GW171 := aM ((bsz hg hB_)); replace GE171 := aM ((bsz hg hB_)); clear hb hbox hg hB_; obtain ⟨hcz28_0, hcz28_1, hcz28_2, hcz28_3, hfz28_0, hfz28_1, hfz28_2, hfz28_3⟩ := bx4z BK171.out))
           go_roundg k2
           case measure => have := HJ2.out; have := HK2.out; omega
           case rel => exact ⟨(x5_2), (wrap64 (x32_2 + 1)), (by first|rfl|(simp; done)|(simp [*]; done)), (by first|rfl|(simp; done)|(simp [*]; done)), H', ⟨by have := HJ2.out; have := HK2.out; omega⟩, ⟨by repeat (first|(with_reducible first|exact HB.out|apply lA|apply lN|apply lD|refine lS ?_ GE171.out)|exact HB.out)⟩⟩
        ·rw [if_neg c15] at H
         have c15b0 : decide (x32_2 < (y166.length : Int)) = false := decide_eq_false c15
         clear c15
         obtain rfl := Option.some.inj H
         go_wp2
         go_ret
         exact ⟨by first|rfl|(simp [errW_none, errW_some] <;> rfl)|(simp [*, errW_none, errW_some] <;> rfl), by repeat (first|(with_reducible first|exact HB.out|apply lA|apply lN|apply lD)|exact HB.out)⟩
     ·rw [if_neg c11] at H
      have c11b0 : (((rd_T64 l0 a1).f0) == 1) = false := beq_eq_false_iff_ne.mpr c11
      have c11b1 : (((rd_T64 l0 a1).f0) != 1) = true := bne_iff_ne.mpr c11
      obtain rfl := Option.some.inj H
      have p164 : 0 ≤ (a1 : Int) := of_decide_eq_true (by first|(with_reducible assumption)|assumption)
      have q164 : a1 < (l0.length : Int) := of_decide_eq_true (by first|(with_reducible assumption)|assumption)
      obtain ⟨ad164, e164, hx164_0, hx164_1, hx164_2, hx164_3⟩ := at_T64 HR0.out a1 p164 q164
      cases e164
      replace hx164_0 := cB HB.out hx164_0
      replace hx164_1 := cB HB.out hx164_1
      replace hx164_2 := cB HB.out hx164_2
      replace hx164_3 := cB HB.out hx164_3
      replace p164 := eq_true p164
      replace q164 := eq_true q164
      go_wp2
      go_ret
      exact ⟨by first|rfl|(simp [errW_none, errW_some] <;> rfl)|(simp [*, errW_none, errW_some] <;> rfl), by repeat (first|(with_reducible first|exact HB.out|apply lA|apply lN|apply lD)|exact HB.out)⟩

end Go.Proofs.Ytjpmlggkhhoooaa.PDq
