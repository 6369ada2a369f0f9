-- Written for this claim by a program (printed texts under one roof).
import Derived.Test.YtfcfomconcoimaaDoorPFax0
import Derived.Test.YtfcfomconcoimaaDoorPFay0
import Derived.Test.YtfcfomconcoimaaDoorPFay1
namespace Go.Proofs.YtfcfomconcoimaaDoor.PFa
open Go.RowKit Go.Proofs.YtfcfomconcoimaaDoorW.PrintWords Go.Proofs.YtfcfomconcoimaaDoorW.PrintLast Go.Proofs.YtfcfomconcoimaaDoorW.PrintMore
attribute [local go_sem] max2_int min2_int max_two min_two max_three min_three max_four min_four
set_option linter.unusedVariables false
set_option linter.unusedSimpArgs false
mutual
def step_Check.j0 : Nat → Bool → Int → Int → Int → Int → Int → Int → List (S48) → Int → Int → Int → Int → Int → Int → Int → Int → Option (Int)
|0, _, _, _, _, _, _, _, _, _, _, _, _, _, _, _, _ => none
|k + 1, x4, x188000, x188001, x188002, x188003, x188004, x188005, x188006, x188007, x189000, x189001, x189002, x189003, x189004, x189005, x189007 => if x188000 = 1 then (if x4 = true then (if x188001 ≤ x188003 then (if x188003 < x188004 then (if x188004 ≤ x188002 then (if x188005 ≥ 0 then (if x188005 ≤ (x188006.length : Int) then (step_Check.j1 k (x189007 == 0) x188000 x188001 x188002 x188003 x188004 x188005 x188006 x188007 x189000 x189001 x189002 0 0 0 x189007) else (step_Check.j1 k false x188000 x188001 x188002 x188003 x188004 x188005 x188006 x188007 x189000 x189001 x189002 0 0 0 x189007)) else (step_Check.j1 k false x188000 x188001 x188002 x188003 x188004 x188005 x188006 x188007 x189000 x189001 x189002 0 0 0 x189007)) else (step_Check.j1 k false x188000 x188001 x188002 x188003 x188004 x188005 x188006 x188007 x189000 x189001 x189002 0 0 0 x189007)) else (step_Check.j1 k false x188000 x188001 x188002 x188003 x188004 x188005 x188006 x188007 x189000 x189001 x189002 0 0 0 x189007)) else (step_Check.j1 k false x188000 x188001 x188002 x188003 x188004 x188005 x188006 x188007 x189000 x189001 x189002 0 0 0 x189007)) else (step_Check.j1 k false x188000 x188001 x188002 x188003 x188004 x188005 x188006 x188007 x189000 x189001 x189002 0 0 0 x189007)) else (if x188000 = 0 then (if x4 = true then (step_Check.j1 k (x189007 == 0) x188000 x188001 x188002 x188003 x188004 x188005 x188006 x188007 x189000 x189001 x189002 x189003 x189004 x189005 x189007) else (step_Check.j1 k false x188000 x188001 x188002 x188003 x188004 x188005 x188006 x188007 x189000 x189001 x189002 x189003 x189004 x189005 x189007)) else (if x188000 = 2 then (if x4 = true then (if x188001 < x188002 then ((mark_List.f k x188007).bind fun t189 => (if (t189.length : Int) = 1 then (step_Check.j1 k ((x188006.length : Int) == 0) x188000 x188001 x188002 x188003 x188004 x188005 x188006 x188007 x189000 x189001 x189002 x189003 x189004 x189005 x189007) else (step_Check.j1 k false x188000 x188001 x188002 x188003 x188004 x188005 x188006 x188007 x189000 x189001 x189002 x189003 x189004 x189005 x189007))) else (step_Check.j1 k false x188000 x188001 x188002 x188003 x188004 x188005 x188006 x188007 x189000 x189001 x189002 x189003 x189004 x189005 x189007)) else (step_Check.j1 k false x188000 x188001 x188002 x188003 x188004 x188005 x188006 x188007 x189000 x189001 x189002 x189003 x189004 x189005 x189007)) else (if x188000 = 3 then (if x4 = true then (if x188001 < x188002 then ((mark_List.f k x188007).bind fun t192 => (if (t192.length : Int) = 1 then (step_Check.j1 k ((x188006.length : Int) == 0) x188000 x188001 x188002 x188003 x188004 x188005 x188006 x188007 x189000 x189001 x189002 x189003 x189004 x189005 x189007) else (step_Check.j1 k false x188000 x188001 x188002 x188003 x188004 x188005 x188006 x188007 x189000 x189001 x189002 x189003 x189004 x189005 x189007))) else (step_Check.j1 k false x188000 x188001 x188002 x188003 x188004 x188005 x188006 x188007 x189000 x189001 x189002 x189003 x189004 x189005 x189007)) else (step_Check.j1 k false x188000 x188001 x188002 x188003 x188004 x188005 x188006 x188007 x189000 x189001 x189002 x189003 x189004 x189005 x189007)) else (step_Check.j1 k false x188000 x188001 x188002 x188003 x188004 x188005 x188006 x188007 x189000 x189001 x189002 x189003 x189004 x189005 x189007))))
def step_Check.j1 : Nat → Bool → Int → Int → Int → Int → Int → Int → List (S48) → Int → Int → Int → Int → Int → Int → Int → Int → Option (Int)
|0, _, _, _, _, _, _, _, _, _, _, _, _, _, _, _, _ => none
|k + 1, x4, x188000, x188001, x188002, x188003, x188004, x188005, x188006, x188007, x189000, x189001, x189002, x189003, x189004, x189005, x189007 => if x4 = true then (if x189003 = 0 then (if x189004 = 0 then (step_Check.j2 k (x189005 == 0) x188000 x188001 x188002 x188003 x188004 x188005 x188006 x188007) else (step_Check.j2 k false x188000 x188001 x188002 x188003 x188004 x188005 x188006 x188007)) else (step_Check.j2 k false x188000 x188001 x188002 x188003 x188004 x188005 x188006 x188007)) else (step_Check.j2 k false x188000 x188001 x188002 x188003 x188004 x188005 x188006 x188007)
def step_Check.j2 : Nat → Bool → Int → Int → Int → Int → Int → Int → List (S48) → Int → Option (Int)
|0, _, _, _, _, _, _, _, _, _ => none
|k + 1, x4, x188000, x188001, x188002, x188003, x188004, x188005, x188006, x188007 => step_Check.l0 k x4 x188006 (x188006.length : Int) 0
def step_Check.l0 : Nat → Bool → List (S48) → Int → Int → Option (Int)
|0, _, _, _, _ => none
|k + 1, x4, x121, x122, x123 => if x123 < x122 then (if 0 ≤ x123 then (if x123 < (x121.length : Int) then (if x4 = true then ((flat_Right.f ((rd_T48 x121 x123).f0) ((rd_T48 x121 x123).f1) ((rd_T48 x121 x123).f2) ((rd_T48 x121 x123).f3)).bind fun t197 => (step_Check.l0 k t197 x121 x122 (wrap64 (x123 + 1)))) else (step_Check.l0 k false x121 x122 (wrap64 (x123 + 1)))) else (none)) else (none)) else (if x4 = true then (some 0) else (some 1))
end
def step_Check.f (k : Nat) (a0_0 : Int) (a0_1 : Int) (a0_2 : Int) (a0_3 : Int) (a0_4 : Int) (a0_5 : Int) (l0_6 : List (S48)) (a0_7 : Int) : Option (Int) := if (l0_6.length : Int) > 2048 then (some 2) else (if a0_1 ≥ 0 then (if a0_1 ≤ a0_2 then (step_Check.j0 k (decide (a0_2 ≤ 2048)) a0_0 a0_1 a0_2 a0_3 a0_4 a0_5 l0_6 a0_7 a0_0 0 0 a0_3 a0_4 a0_5 a0_7) else (step_Check.j0 k false a0_0 a0_1 a0_2 a0_3 a0_4 a0_5 l0_6 a0_7 a0_0 0 0 a0_3 a0_4 a0_5 a0_7)) else (step_Check.j0 k false a0_0 a0_1 a0_2 a0_3 a0_4 a0_5 l0_6 a0_7 a0_0 0 0 a0_3 a0_4 a0_5 a0_7))
set_option maxHeartbeats 8000000 in
set_option maxRecDepth 100000 in
theorem step_Check.calls (k : Nat) (a0_0 : Int) (a0_1 : Int) (a0_2 : Int) (a0_3 : Int) (a0_4 : Int) (a0_5 : Int) (A0_6 : Option Addr) (c0_6 : Nat) (l0_6 : List (S48)) (a0_7 : Int) (r : Int) (w : World) (hr0_6 : Kd.C k48 w A0_6 l0_6.length l0_6) (hc0_6 : l0_6.length ≤ c0_6) (h : step_Check.f k a0_0 a0_1 a0_2 a0_3 a0_4 a0_5 l0_6 a0_7 = some r) :
  Calls Tryd.prog 42 #[.agg #[.int .i64 a0_0, .int .i64 a0_1, .int .i64 a0_2, .int .i64 a0_3, .int .i64 a0_4, .int .i64 a0_5, .slice A0_6 l0_6.length c0_6, .int .i64 a0_7]] w fun e w' => e = .returned (.int .i64 r) ∧ Below w.heap.size w w' := by
 have hu45 := Tryd.underlying45
 have hu48 := Tryd.underlying48
 have HR0_6 := aM hr0_6
 have HC0_6 := aM hc0_6
 clear hr0_6 hc0_6
 have HB := aM (Below.refl w.heap.size w)
 have H : (if (l0_6.length : Int) > 2048 then (some 2) else (if a0_1 ≥ 0 then (if a0_1 ≤ a0_2 then (step_Check.j0 k (decide (a0_2 ≤ 2048)) a0_0 a0_1 a0_2 a0_3 a0_4 a0_5 l0_6 a0_7 a0_0 0 0 a0_3 a0_4 a0_5 a0_7) else (step_Check.j0 k false a0_0 a0_1 a0_2 a0_3 a0_4 a0_5 l0_6 a0_7 a0_0 0 0 a0_3 a0_4 a0_5 a0_7)) else (step_Check.j0 k false a0_0 a0_1 a0_2 a0_3 a0_4 a0_5 l0_6 a0_7 a0_0 0 0 a0_3 a0_4 a0_5 a0_7))) = some r := h
 clear h
 by_cases c2 : (l0_6.length : Int) > 2048
 ·rw [if_pos c2] at H
  have c2b0 : decide (2048 < (l0_6.length : Int)) = true := decide_eq_true c2
  have c2b1 : decide (2048 < l0_6.length) = true := decide_eq_true (by omega)
  clear c2
  obtain rfl := Option.some.inj H
  go_enter Tryd.func42, Tryd.ntmps42
  go_wp2_with (first|((with_reducible refine gate_dst (N := 1) rfl ?_); (try (refine gate_guard (by rfl) ?_; dsimp only)); refine box_event ?hg (N := 1) ?hd (cs := #[.int .i64 a0_0, .int .i64 a0_1, .int .i64 a0_2, .int .i64 a0_3, .int .i64 a0_4, .int .i64 a0_5, .slice A0_6 l0_6.length c0_6, .int .i64 a0_7]) (t := 45) ?hr ?_; (case hd => rfl); (case hg => rfl); (case hr => first|(go_simp; done)|(go_simp; rfl)); intro gb187 hg w3 hbox hb; have hB_ := (by repeat (first|(with_reducible first|exact HB.out|apply lA|apply lN|apply lD)|exact HB.out) : Below w.heap.size w _); replace HB := aM (below_step hB_ hb); replace BK187 := aM (hbox); replace GW187 := aM ((bsz hg hB_)); replace GE187 := aM ((bsz hg hB_)); clear hb hbox hg hB_; obtain ⟨hcz4_0, hcz4_1, hcz4_2, hcz4_3, hcz4_4, hcz4_5, hcz4_6, hcz4_7, hfz4_0, hfz4_1, hfz4_2, hfz4_3, hfz4_4, hfz4_5, hfz4_6, hfz4_7⟩ := bx8z BK187.out))
  go_ret
  exact ⟨by first|rfl|(simp [errW_none, errW_some] <;> rfl)|(simp [*, errW_none, errW_some] <;> rfl), by repeat (first|(with_reducible first|exact HB.out|apply lA|apply lN|apply lD|refine lS ?_ GE187.out)|exact HB.out)⟩
 ·rw [if_neg c2] at H
  have c2b0 : decide (2048 < (l0_6.length : Int)) = false := decide_eq_false c2
  have c2b1 : decide (2048 < l0_6.length) = false := decide_eq_false (by omega)
  clear c2
  have HC5 := aM H
  clear H
  go_enter Tryd.func42, Tryd.ntmps42
  go_upto_region 5 with (first|((with_reducible refine gate_dst (N := 1) rfl ?_); (try (refine gate_guard (by rfl) ?_; dsimp only)); refine box_event ?hg (N := 1) ?hd (cs := #[.int .i64 a0_0, .int .i64 a0_1, .int .i64 a0_2, .int .i64 a0_3, .int .i64 a0_4, .int .i64 a0_5, .slice A0_6 l0_6.length c0_6, .int .i64 a0_7]) (t := 45) ?hr ?_; (case hd => rfl); (case hg => rfl); (case hr => first|(go_simp; done)|(go_simp; rfl)); intro gb187 hg w6 hbox hb; have hB_ := (by repeat (first|(with_reducible first|exact HB.out|apply lA|apply lN|apply lD)|exact HB.out) : Below w.heap.size w _); replace HB := aM (below_step hB_ hb); replace BK187 := aM (hbox); replace GW187 := aM ((bsz hg hB_)); replace GE187 := aM ((bsz hg hB_)); clear hb hbox hg hB_; obtain ⟨hcz7_0, hcz7_1, hcz7_2, hcz7_3, hcz7_4, hcz7_5, hcz7_6, hcz7_7, hfz7_0, hfz7_1, hfz7_2, hfz7_3, hfz7_4, hfz7_5, hfz7_6, hfz7_7⟩ := bx8z BK187.out)|((with_reducible refine gate_dst (N := 3) rfl ?_); (try (refine gate_guard (by rfl) ?_; dsimp only)); refine box_event ?hg (N := 3) ?hd (cs := #[.int .i64 0, .int .i64 0, .int .i64 0, .int .i64 0, .int .i64 0, .int .i64 0, .slice none 0 0, .int .i64 0]) (t := 45) ?hr ?_; (case hd => rfl); (case hg => rfl); (case hr => first|(go_simp; done)|(go_simp; rfl)); intro gb188 hg w8 hbox hb; replace BK188 := aM (hbox); replace GW188 := aM ((by rw [hg]; exact (below_size (by repeat (first|(with_reducible first|exact HB.out|apply lA|apply lN|apply lD|refine lS ?_ GE187.out)|exact HB.out))) : w.heap.size ≤ gb188)); replace GE188 := aM ((by rw [hg]; exact (below_size (by repeat (first|(with_reducible first|exact HB.out|apply lA|apply lN|apply lD|refine lS ?_ GE187.out)|exact HB.out))) : w.heap.size ≤ gb188)); replace HB := aM (below_step (by repeat (first|(with_reducible first|exact HB.out|apply lA|apply lN|apply lD|refine lS ?_ GE187.out)|exact HB.out)) hb); replace NB187_188 := aM ((by rw [hg]; exact Nat.ne_of_lt (blk_lt (g := gb187) (o := .cells #[.int .i64 a0_0, .int .i64 a0_1, .int .i64 a0_2, .int .i64 a0_3, .int .i64 a0_4, .int .i64 a0_5, .slice A0_6 l0_6.length c0_6, .int .i64 a0_7] 45 (0, 0)) (by (with_reducible repeat (first|refine bN ?_ _|refine bD ?_|refine bA ?_ _)); exact BK187.out)) : gb187 ≠ gb188)); replace NB188_187 := aM ((by rw [hg]; exact Nat.ne_of_gt (blk_lt (g := gb187) (o := .cells #[.int .i64 a0_0, .int .i64 a0_1, .int .i64 a0_2, .int .i64 a0_3, .int .i64 a0_4, .int .i64 a0_5, .slice A0_6 l0_6.length c0_6, .int .i64 a0_7] 45 (0, 0)) (by (with_reducible repeat (first|refine bN ?_ _|refine bD ?_|refine bA ?_ _)); exact BK187.out)) : gb188 ≠ gb187)); replace BK187 := aM (blk_below (by (with_reducible repeat (first|refine bN ?_ _|refine bD ?_|refine bA ?_ _)); exact BK187.out) hb); clear hb hbox hg; have hnb9 := NB188_187.out; have hnc9 := NB187_188.out; obtain ⟨hcz10_0, hcz10_1, hcz10_2, hcz10_3, hcz10_4, hcz10_5, hcz10_6, hcz10_7, hfz10_0, hfz10_1, hfz10_2, hfz10_3, hfz10_4, hfz10_5, hfz10_6, hfz10_7⟩ := bx8z BK188.out))
  (try simp only [Act.put, List.setIfInBounds_toArray, List.set_cons_zero, List.set_cons_succ])
  go_cut [4] (fun v4 wc => ∃ (kq : Nat) (x4_4 : Bool), v4 = .bool x4_4 ∧ Aside0 (step_Check.j0 kq x4_4 a0_0 a0_1 a0_2 a0_3 a0_4 a0_5 l0_6 a0_7 a0_0 0 0 a0_3 a0_4 a0_5 a0_7 = some r) ∧ Aside0 (kq ≤ k) ∧ Aside0 (wc.heap[gb187]? = some (.cells #[.int .i64 a0_0, .int .i64 a0_1, .int .i64 a0_2, .int .i64 a0_3, .int .i64 a0_4, .int .i64 a0_5, (.slice A0_6 l0_6.length c0_6), .int .i64 a0_7] 45 (0, 0))) ∧ Aside0 (wc.heap[gb188]? = some (.cells #[.int .i64 a0_0, .int .i64 0, .int .i64 0, .int .i64 a0_3, .int .i64 a0_4, .int .i64 a0_5, (.slice none 0 0), .int .i64 a0_7] 45 (0, 0))) ∧ Aside0 (Below w.heap.size w wc))
  case first =>
   have H := HC5.out
   clear HC5
   by_cases c11 : a0_1 ≥ 0
   ·rw [if_pos c11] at H
    have c11b0 : decide (0 ≤ a0_1) = true := decide_eq_true c11
    clear c11
    (first|rw [c11b0]|(simp only [i64_w, i32_w]; rw [c11b0])|skip)
    by_cases c12 : a0_1 ≤ a0_2
    ·rw [if_pos c12] at H
     have c12b0 : decide (a0_1 ≤ a0_2) = true := decide_eq_true c12
     clear c12
     have H' := aM H
     clear H
     have hnb13 := NB187_188.out
     have hnc13 := NB188_187.out
     obtain ⟨hcz14_0, hcz14_1, hcz14_2, hcz14_3, hcz14_4, hcz14_5, hcz14_6, hcz14_7, hfz14_0, hfz14_1, hfz14_2, hfz14_3, hfz14_4, hfz14_5, hfz14_6, hfz14_7⟩ := bx8z BK187.out
     go_wp2
     go_meet
     case rel => exact ⟨_, (decide (a0_2 ≤ 2048)), (by first|rfl|(simp; done)|(simp [*]; done)), H', ⟨by first|omega|exact Nat.le_refl _⟩, ⟨by (with_reducible repeat (first|refine bN ?_ _|refine bD ?_|refine bA ?_ _)); refine far8 ?_ NB187_188.out; (with_reducible repeat (first|refine bN ?_ _|refine bD ?_|refine bA ?_ _)); refine far3 ?_ NB187_188.out; (with_reducible repeat (first|refine bN ?_ _|refine bD ?_|refine bA ?_ _)); exact BK187.out⟩, ⟨by (with_reducible repeat (first|refine bN ?_ _|refine bD ?_|refine bA ?_ _)); refine blk_put (cs := #[.int .i64 a0_0, .int .i64 0, .int .i64 a0_2, .int .i64 a0_3, .int .i64 a0_4, .int .i64 a0_5, .slice none 0 0, .int .i64 a0_7]) ?_ 2 _ rfl; (with_reducible repeat (first|refine bN ?_ _|refine bD ?_|refine bA ?_ _)); refine blk_put (cs := #[.int .i64 a0_0, .int .i64 a0_1, .int .i64 a0_2, .int .i64 a0_3, .int .i64 a0_4, .int .i64 a0_5, .slice none 0 0, .int .i64 a0_7]) ?_ 1 _ rfl; (with_reducible repeat (first|refine bN ?_ _|refine bD ?_|refine bA ?_ _)); refine blk_put (cs := #[.int .i64 a0_0, .int .i64 a0_1, .int .i64 a0_2, .int .i64 a0_3, .int .i64 a0_4, .int .i64 a0_5, .slice A0_6 l0_6.length c0_6, .int .i64 a0_7]) ?_ 6 _ rfl; (with_reducible repeat (first|refine bN ?_ _|refine bD ?_|refine bA ?_ _)); refine blk_put (cs := #[.int .i64 a0_0, .int .i64 a0_1, .int .i64 a0_2, .int .i64 a0_3, .int .i64 a0_4, .int .i64 a0_5, .slice A0_6 l0_6.length c0_6, .int .i64 0]) ?_ 7 _ rfl; (with_reducible repeat (first|refine bN ?_ _|refine bD ?_|refine bA ?_ _)); refine blk_put (cs := #[.int .i64 a0_0, .int .i64 a0_1, .int .i64 a0_2, .int .i64 a0_3, .int .i64 a0_4, .int .i64 a0_5, .slice none 0 0, .int .i64 0]) ?_ 6 _ rfl; (with_reducible repeat (first|refine bN ?_ _|refine bD ?_|refine bA ?_ _)); refine blk_put (cs := #[.int .i64 a0_0, .int .i64 a0_1, .int .i64 a0_2, .int .i64 a0_3, .int .i64 a0_4, .int .i64 0, .slice none 0 0, .int .i64 0]) ?_ 5 _ rfl; (with_reducible repeat (first|refine bN ?_ _|refine bD ?_|refine bA ?_ _)); refine blk_put (cs := #[.int .i64 a0_0, .int .i64 a0_1, .int .i64 a0_2, .int .i64 a0_3, .int .i64 0, .int .i64 0, .slice none 0 0, .int .i64 0]) ?_ 4 _ rfl; (with_reducible repeat (first|refine bN ?_ _|refine bD ?_|refine bA ?_ _)); refine blk_put (cs := #[.int .i64 a0_0, .int .i64 a0_1, .int .i64 a0_2, .int .i64 0, .int .i64 0, .int .i64 0, .slice none 0 0, .int .i64 0]) ?_ 3 _ rfl; (with_reducible repeat (first|refine bN ?_ _|refine bD ?_|refine bA ?_ _)); refine blk_put (cs := #[.int .i64 a0_0, .int .i64 a0_1, .int .i64 0, .int .i64 0, .int .i64 0, .int .i64 0, .slice none 0 0, .int .i64 0]) ?_ 2 _ rfl; (with_reducible repeat (first|refine bN ?_ _|refine bD ?_|refine bA ?_ _)); refine blk_put (cs := #[.int .i64 a0_0, .int .i64 0, .int .i64 0, .int .i64 0, .int .i64 0, .int .i64 0, .slice none 0 0, .int .i64 0]) ?_ 1 _ rfl; (with_reducible repeat (first|refine bN ?_ _|refine bD ?_|refine bA ?_ _)); refine blk_put (cs := #[.int .i64 0, .int .i64 0, .int .i64 0, .int .i64 0, .int .i64 0, .int .i64 0, .slice none 0 0, .int .i64 0]) ?_ 0 _ rfl; (with_reducible repeat (first|refine bN ?_ _|refine bD ?_|refine bA ?_ _)); exact BK188.out⟩, ⟨by repeat (first|(with_reducible first|exact HB.out|apply lA|apply lN|apply lD|refine lS ?_ GE187.out|refine lS ?_ GE188.out)|exact HB.out)⟩⟩
    ·rw [if_neg c12] at H
     have c12b0 : decide (a0_1 ≤ a0_2) = false := decide_eq_false c12
     clear c12
     have H' := aM H
     clear H
     have hnb15 := NB187_188.out
     have hnc15 := NB188_187.out
     obtain ⟨hcz16_0, hcz16_1, hcz16_2, hcz16_3, hcz16_4, hcz16_5, hcz16_6, hcz16_7, hfz16_0, hfz16_1, hfz16_2, hfz16_3, hfz16_4, hfz16_5, hfz16_6, hfz16_7⟩ := bx8z BK187.out
     go_wp2
     go_meet
     case rel => exact ⟨_, (false), (by first|rfl|(simp; done)|(simp [*]; done)), H', ⟨by first|omega|exact Nat.le_refl _⟩, ⟨by (with_reducible repeat (first|refine bN ?_ _|refine bD ?_|refine bA ?_ _)); refine far8 ?_ NB187_188.out; (with_reducible repeat (first|refine bN ?_ _|refine bD ?_|refine bA ?_ _)); refine far3 ?_ NB187_188.out; (with_reducible repeat (first|refine bN ?_ _|refine bD ?_|refine bA ?_ _)); exact BK187.out⟩, ⟨by (with_reducible repeat (first|refine bN ?_ _|refine bD ?_|refine bA ?_ _)); refine blk_put (cs := #[.int .i64 a0_0, .int .i64 0, .int .i64 a0_2, .int .i64 a0_3, .int .i64 a0_4, .int .i64 a0_5, .slice none 0 0, .int .i64 a0_7]) ?_ 2 _ rfl; (with_reducible repeat (first|refine bN ?_ _|refine bD ?_|refine bA ?_ _)); refine blk_put (cs := #[.int .i64 a0_0, .int .i64 a0_1, .int .i64 a0_2, .int .i64 a0_3, .int .i64 a0_4, .int .i64 a0_5, .slice none 0 0, .int .i64 a0_7]) ?_ 1 _ rfl; (with_reducible repeat (first|refine bN ?_ _|refine bD ?_|refine bA ?_ _)); refine blk_put (cs := #[.int .i64 a0_0, .int .i64 a0_1, .int .i64 a0_2, .int .i64 a0_3, .int .i64 a0_4, .int .i64 a0_5, .slice A0_6 l0_6.length c0_6, .int .i64 a0_7]) ?_ 6 _ rfl; (with_reducible repeat (first|refine bN ?_ _|refine bD ?_|refine bA ?_ _)); refine blk_put (cs := #[.int .i64 a0_0, .int .i64 a0_1, .int .i64 a0_2, .int .i64 a0_3, .int .i64 a0_4, .int .i64 a0_5, .slice A0_6 l0_6.length c0_6, .int .i64 0]) ?_ 7 _ rfl; (with_reducible repeat (first|refine bN ?_ _|refine bD ?_|refine bA ?_ _)); refine blk_put (cs := #[.int .i64 a0_0, .int .i64 a0_1, .int .i64 a0_2, .int .i64 a0_3, .int .i64 a0_4, .int .i64 a0_5, .slice none 0 0, .int .i64 0]) ?_ 6 _ rfl; (with_reducible repeat (first|refine bN ?_ _|refine bD ?_|refine bA ?_ _)); refine blk_put (cs := #[.int .i64 a0_0, .int .i64 a0_1, .int .i64 a0_2, .int .i64 a0_3, .int .i64 a0_4, .int .i64 0, .slice none 0 0, .int .i64 0]) ?_ 5 _ rfl; (with_reducible repeat (first|refine bN ?_ _|refine bD ?_|refine bA ?_ _)); refine blk_put (cs := #[.int .i64 a0_0, .int .i64 a0_1, .int .i64 a0_2, .int .i64 a0_3, .int .i64 0, .int .i64 0, .slice none 0 0, .int .i64 0]) ?_ 4 _ rfl; (with_reducible repeat (first|refine bN ?_ _|refine bD ?_|refine bA ?_ _)); refine blk_put (cs := #[.int .i64 a0_0, .int .i64 a0_1, .int .i64 a0_2, .int .i64 0, .int .i64 0, .int .i64 0, .slice none 0 0, .int .i64 0]) ?_ 3 _ rfl; (with_reducible repeat (first|refine bN ?_ _|refine bD ?_|refine bA ?_ _)); refine blk_put (cs := #[.int .i64 a0_0, .int .i64 a0_1, .int .i64 0, .int .i64 0, .int .i64 0, .int .i64 0, .slice none 0 0, .int .i64 0]) ?_ 2 _ rfl; (with_reducible repeat (first|refine bN ?_ _|refine bD ?_|refine bA ?_ _)); refine blk_put (cs := #[.int .i64 a0_0, .int .i64 0, .int .i64 0, .int .i64 0, .int .i64 0, .int .i64 0, .slice none 0 0, .int .i64 0]) ?_ 1 _ rfl; (with_reducible repeat (first|refine bN ?_ _|refine bD ?_|refine bA ?_ _)); refine blk_put (cs := #[.int .i64 0, .int .i64 0, .int .i64 0, .int .i64 0, .int .i64 0, .int .i64 0, .slice none 0 0, .int .i64 0]) ?_ 0 _ rfl; (with_reducible repeat (first|refine bN ?_ _|refine bD ?_|refine bA ?_ _)); exact BK188.out⟩, ⟨by repeat (first|(with_reducible first|exact HB.out|apply lA|apply lN|apply lD|refine lS ?_ GE187.out|refine lS ?_ GE188.out)|exact HB.out)⟩⟩
   ·rw [if_neg c11] at H
    have c11b0 : decide (0 ≤ a0_1) = false := decide_eq_false c11
    clear c11
    (first|rw [c11b0]|(simp only [i64_w, i32_w]; rw [c11b0])|skip)
    have H' := aM H
    clear H
    have hnb17 := NB187_188.out
    have hnc17 := NB188_187.out
    obtain ⟨hcz18_0, hcz18_1, hcz18_2, hcz18_3, hcz18_4, hcz18_5, hcz18_6, hcz18_7, hfz18_0, hfz18_1, hfz18_2, hfz18_3, hfz18_4, hfz18_5, hfz18_6, hfz18_7⟩ := bx8z BK187.out
    go_wp2
    go_meet
    case rel => exact ⟨_, (false), (by first|rfl|(simp; done)|(simp [*]; done)), H', ⟨by first|omega|exact Nat.le_refl _⟩, ⟨by (with_reducible repeat (first|refine bN ?_ _|refine bD ?_|refine bA ?_ _)); refine far8 ?_ NB187_188.out; (with_reducible repeat (first|refine bN ?_ _|refine bD ?_|refine bA ?_ _)); refine far3 ?_ NB187_188.out; (with_reducible repeat (first|refine bN ?_ _|refine bD ?_|refine bA ?_ _)); exact BK187.out⟩, ⟨by (with_reducible repeat (first|refine bN ?_ _|refine bD ?_|refine bA ?_ _)); refine blk_put (cs := #[.int .i64 a0_0, .int .i64 0, .int .i64 a0_2, .int .i64 a0_3, .int .i64 a0_4, .int .i64 a0_5, .slice none 0 0, .int .i64 a0_7]) ?_ 2 _ rfl; (with_reducible repeat (first|refine bN ?_ _|refine bD ?_|refine bA ?_ _)); refine blk_put (cs := #[.int .i64 a0_0, .int .i64 a0_1, .int .i64 a0_2, .int .i64 a0_3, .int .i64 a0_4, .int .i64 a0_5, .slice none 0 0, .int .i64 a0_7]) ?_ 1 _ rfl; (with_reducible repeat (first|refine bN ?_ _|refine bD ?_|refine bA ?_ _)); refine blk_put (cs := #[.int .i64 a0_0, .int .i64 a0_1, .int .i64 a0_2, .int .i64 a0_3, .int .i64 a0_4, .int .i64 a0_5, .slice A0_6 l0_6.length c0_6, .int .i64 a0_7]) ?_ 6 _ rfl; (with_reducible repeat (first|refine bN ?_ _|refine bD ?_|refine bA ?_ _)); refine blk_put (cs := #[.int .i64 a0_0, .int .i64 a0_1, .int .i64 a0_2, .int .i64 a0_3, .int .i64 a0_4, .int .i64 a0_5, .slice A0_6 l0_6.length c0_6, .int .i64 0]) ?_ 7 _ rfl; (with_reducible repeat (first|refine bN ?_ _|refine bD ?_|refine bA ?_ _)); refine blk_put (cs := #[.int .i64 a0_0, .int .i64 a0_1, .int .i64 a0_2, .int .i64 a0_3, .int .i64 a0_4, .int .i64 a0_5, .slice none 0 0, .int .i64 0]) ?_ 6 _ rfl; (with_reducible repeat (first|refine bN ?_ _|refine bD ?_|refine bA ?_ _)); refine blk_put (cs := #[.int .i64 a0_0, .int .i64 a0_1, .int .i64 a0_2, .int .i64 a0_3, .int .i64 a0_4, .int .i64 0, .slice none 0 0, .int .i64 0]) ?_ 5 _ rfl; (with_reducible repeat (first|refine bN ?_ _|refine bD ?_|refine bA ?_ _)); refine blk_put (cs := #[.int .i64 a0_0, .int .i64 a0_1, .int .i64 a0_2, .int .i64 a0_3, .int .i64 0, .int .i64 0, .slice none 0 0, .int .i64 0]) ?_ 4 _ rfl; (with_reducible repeat (first|refine bN ?_ _|refine bD ?_|refine bA ?_ _)); refine blk_put (cs := #[.int .i64 a0_0, .int .i64 a0_1, .int .i64 a0_2, .int .i64 0, .int .i64 0, .int .i64 0, .slice none 0 0, .int .i64 0]) ?_ 3 _ rfl; (with_reducible repeat (first|refine bN ?_ _|refine bD ?_|refine bA ?_ _)); refine blk_put (cs := #[.int .i64 a0_0, .int .i64 a0_1, .int .i64 0, .int .i64 0, .int .i64 0, .int .i64 0, .slice none 0 0, .int .i64 0]) ?_ 2 _ rfl; (with_reducible repeat (first|refine bN ?_ _|refine bD ?_|refine bA ?_ _)); refine blk_put (cs := #[.int .i64 a0_0, .int .i64 0, .int .i64 0, .int .i64 0, .int .i64 0, .int .i64 0, .slice none 0 0, .int .i64 0]) ?_ 1 _ rfl; (with_reducible repeat (first|refine bN ?_ _|refine bD ?_|refine bA ?_ _)); refine blk_put (cs := #[.int .i64 0, .int .i64 0, .int .i64 0, .int .i64 0, .int .i64 0, .int .i64 0, .slice none 0 0, .int .i64 0]) ?_ 0 _ rfl; (with_reducible repeat (first|refine bN ?_ _|refine bD ?_|refine bA ?_ _)); exact BK188.out⟩, ⟨by repeat (first|(with_reducible first|exact HB.out|apply lA|apply lN|apply lD|refine lS ?_ GE187.out|refine lS ?_ GE188.out)|exact HB.out)⟩⟩
  case rest =>
   clear HC5
   obtain ⟨kq, x4_4, rfl, HA, HJ4, BK187, BK188, HB⟩ := hcut
   cases kq with
  |zero => exact absurd HA.out (by simp [step_Check.j0])
  |succ kj4 =>
    have H := HA.out
    clear HA
    simp only [step_Check.j0] at H
    have HC19 := aM H
    clear H
    have hnb20 := NB187_188.out
    have hnc20 := NB188_187.out
    obtain ⟨hcz21_0, hcz21_1, hcz21_2, hcz21_3, hcz21_4, hcz21_5, hcz21_6, hcz21_7, hfz21_0, hfz21_1, hfz21_2, hfz21_3, hfz21_4, hfz21_5, hfz21_6, hfz21_7⟩ := bx8z BK187.out
    go_upto_block 0 with (fail)
    go_cut [4] (fun v4 wc => ∃ (kq : Nat) (x4_18 : Bool) (x189003_18 : Int) (x189004_18 : Int) (x189005_18 : Int), v4 = .bool x4_18 ∧ Aside0 (step_Check.j1 kq x4_18 a0_0 a0_1 a0_2 a0_3 a0_4 a0_5 l0_6 a0_7 a0_0 0 0 x189003_18 x189004_18 x189005_18 a0_7 = some r) ∧ Aside0 (kq ≤ kj4) ∧ Aside0 (wc.heap[gb187]? = some (.cells #[.int .i64 a0_0, .int .i64 a0_1, .int .i64 a0_2, .int .i64 a0_3, .int .i64 a0_4, .int .i64 a0_5, (.slice A0_6 l0_6.length c0_6), .int .i64 a0_7] 45 (0, 0))) ∧ Aside0 (wc.heap[gb188]? = some (.cells #[.int .i64 a0_0, .int .i64 0, .int .i64 0, .int .i64 x189003_18, .int .i64 x189004_18, .int .i64 x189005_18, (.slice none 0 0), .int .i64 a0_7] 45 (0, 0))) ∧ Aside0 (Below w.heap.size w wc))
    case first =>
     have H := HC19.out
     clear HC19
     by_cases c22 : a0_0 = 1
     ·rw [if_pos c22] at H
      have c22b0 : (a0_0 == 1) = true := beq_iff_eq.mpr c22
      have c22b1 : (a0_0 != 1) = false := bne_eq_false_iff_eq.mpr c22
      clear c22
      (first|rw [c22b0]|(simp only [i64_w, i32_w]; rw [c22b0])|skip)
      by_cases c23 : x4_4 = true
      ·subst c23
       have H1 : (if a0_1 ≤ a0_3 then (if a0_3 < a0_4 then (if a0_4 ≤ a0_2 then (if a0_5 ≥ 0 then (if a0_5 ≤ (l0_6.length : Int) then (step_Check.j1 kj4 (a0_7 == 0) a0_0 a0_1 a0_2 a0_3 a0_4 a0_5 l0_6 a0_7 a0_0 0 0 0 0 0 a0_7) else (step_Check.j1 kj4 false a0_0 a0_1 a0_2 a0_3 a0_4 a0_5 l0_6 a0_7 a0_0 0 0 0 0 0 a0_7)) else (step_Check.j1 kj4 false a0_0 a0_1 a0_2 a0_3 a0_4 a0_5 l0_6 a0_7 a0_0 0 0 0 0 0 a0_7)) else (step_Check.j1 kj4 false a0_0 a0_1 a0_2 a0_3 a0_4 a0_5 l0_6 a0_7 a0_0 0 0 0 0 0 a0_7)) else (step_Check.j1 kj4 false a0_0 a0_1 a0_2 a0_3 a0_4 a0_5 l0_6 a0_7 a0_0 0 0 0 0 0 a0_7)) else (step_Check.j1 kj4 false a0_0 a0_1 a0_2 a0_3 a0_4 a0_5 l0_6 a0_7 a0_0 0 0 0 0 0 a0_7)) = some r := by rw [if_pos rfl] at H; exact H
       clear H
       have H := H1
       clear H1
       by_cases c24 : a0_1 ≤ a0_3
       ·rw [if_pos c24] at H
        have c24b0 : decide (a0_1 ≤ a0_3) = true := decide_eq_true c24
        clear c24
        by_cases c25 : a0_3 < a0_4
        ·rw [if_pos c25] at H
         have c25b0 : decide (a0_3 < a0_4) = true := decide_eq_true c25
         clear c25
         by_cases c26 : a0_4 ≤ a0_2
         ·rw [if_pos c26] at H
          have c26b0 : decide (a0_4 ≤ a0_2) = true := decide_eq_true c26
          clear c26
          by_cases c27 : a0_5 ≥ 0
          ·rw [if_pos c27] at H
           have c27b0 : decide (0 ≤ a0_5) = true := decide_eq_true c27
           clear c27
           by_cases c28 : a0_5 ≤ (l0_6.length : Int)
           ·rw [if_pos c28] at H
            have c28b0 : decide (a0_5 ≤ (l0_6.length : Int)) = true := decide_eq_true c28
            clear c28
            have H' := aM H
            clear H
            have hnb29 := NB187_188.out
            have hnc29 := NB188_187.out
            obtain ⟨hcz30_0, hcz30_1, hcz30_2, hcz30_3, hcz30_4, hcz30_5, hcz30_6, hcz30_7, hfz30_0, hfz30_1, hfz30_2, hfz30_3, hfz30_4, hfz30_5, hfz30_6, hfz30_7⟩ := bx8z BK187.out
            obtain ⟨hcz31_0, hcz31_1, hcz31_2, hcz31_3, hcz31_4, hcz31_5, hcz31_6, hcz31_7, hfz31_0, hfz31_1, hfz31_2, hfz31_3, hfz31_4, hfz31_5, hfz31_6, hfz31_7⟩ := bx8z BK188.out
            go_wp2
            go_meet
            case rel => exact ⟨_, ((a0_7 == 0)), (0), (0), (0), (by first|rfl|(simp; done)|(simp [*]; done)), H', ⟨by have := HJ4.out; first|omega|exact Nat.le_refl _⟩, ⟨by (with_reducible repeat (first|refine bN ?_ _|refine bD ?_|refine bA ?_ _)); refine far3 ?_ NB187_188.out; (with_reducible repeat (first|refine bN ?_ _|refine bD ?_|refine bA ?_ _)); exact BK187.out⟩, ⟨by (with_reducible repeat (first|refine bN ?_ _|refine bD ?_|refine bA ?_ _)); refine blk_put (cs := #[.int .i64 a0_0, .int .i64 0, .int .i64 0, .int .i64 0, .int .i64 0, .int .i64 a0_5, .slice none 0 0, .int .i64 a0_7]) ?_ 5 _ rfl; (with_reducible repeat (first|refine bN ?_ _|refine bD ?_|refine bA ?_ _)); refine blk_put (cs := #[.int .i64 a0_0, .int .i64 0, .int .i64 0, .int .i64 0, .int .i64 a0_4, .int .i64 a0_5, .slice none 0 0, .int .i64 a0_7]) ?_ 4 _ rfl; (with_reducible repeat (first|refine bN ?_ _|refine bD ?_|refine bA ?_ _)); refine blk_put (cs := #[.int .i64 a0_0, .int .i64 0, .int .i64 0, .int .i64 a0_3, .int .i64 a0_4, .int .i64 a0_5, .slice none 0 0, .int .i64 a0_7]) ?_ 3 _ rfl; (with_reducible repeat (first|refine bN ?_ _|refine bD ?_|refine bA ?_ _)); exact BK188.out⟩, ⟨by repeat (first|(with_reducible first|exact HB.out|apply lA|apply lN|apply lD|refine lS ?_ GE187.out|refine lS ?_ GE188.out)|exact HB.out)⟩⟩
           ·rw [if_neg c28] at H
            have c28b0 : decide (a0_5 ≤ (l0_6.length : Int)) = false := decide_eq_false c28
            clear c28
            have H' := aM H
            clear H
            have hnb32 := NB187_188.out
            have hnc32 := NB188_187.out
            obtain ⟨hcz33_0, hcz33_1, hcz33_2, hcz33_3, hcz33_4, hcz33_5, hcz33_6, hcz33_7, hfz33_0, hfz33_1, hfz33_2, hfz33_3, hfz33_4, hfz33_5, hfz33_6, hfz33_7⟩ := bx8z BK187.out
            obtain ⟨hcz34_0, hcz34_1, hcz34_2, hcz34_3, hcz34_4, hcz34_5, hcz34_6, hcz34_7, hfz34_0, hfz34_1, hfz34_2, hfz34_3, hfz34_4, hfz34_5, hfz34_6, hfz34_7⟩ := bx8z BK188.out
            go_wp2
            go_meet
            case rel => exact ⟨_, (false), (0), (0), (0), (by first|rfl|(simp; done)|(simp [*]; done)), H', ⟨by have := HJ4.out; first|omega|exact Nat.le_refl _⟩, ⟨by (with_reducible repeat (first|refine bN ?_ _|refine bD ?_|refine bA ?_ _)); refine far3 ?_ NB187_188.out; (with_reducible repeat (first|refine bN ?_ _|refine bD ?_|refine bA ?_ _)); exact BK187.out⟩, ⟨by (with_reducible repeat (first|refine bN ?_ _|refine bD ?_|refine bA ?_ _)); refine blk_put (cs := #[.int .i64 a0_0, .int .i64 0, .int .i64 0, .int .i64 0, .int .i64 0, .int .i64 a0_5, .slice none 0 0, .int .i64 a0_7]) ?_ 5 _ rfl; (with_reducible repeat (first|refine bN ?_ _|refine bD ?_|refine bA ?_ _)); refine blk_put (cs := #[.int .i64 a0_0, .int .i64 0, .int .i64 0, .int .i64 0, .int .i64 a0_4, .int .i64 a0_5, .slice none 0 0, .int .i64 a0_7]) ?_ 4 _ rfl; (with_reducible repeat (first|refine bN ?_ _|refine bD ?_|refine bA ?_ _)); refine blk_put (cs := #[.int .i64 a0_0, .int .i64 0, .int .i64 0, .int .i64 a0_3, .int .i64 a0_4, .int .i64 a0_5, .slice none 0 0, .int .i64 a0_7]) ?_ 3 _ rfl; (with_reducible repeat (first|refine bN ?_ _|refine bD ?_|refine bA ?_ _)); exact BK188.out⟩, ⟨by repeat (first|(with_reducible first|exact HB.out|apply lA|apply lN|apply lD|refine lS ?_ GE187.out|refine lS ?_ GE188.out)|exact HB.out)⟩⟩
          ·rw [if_neg c27] at H
           have c27b0 : decide (0 ≤ a0_5) = false := decide_eq_false c27
           clear c27
           have H' := aM H
           clear H
           have hnb35 := NB187_188.out
           have hnc35 := NB188_187.out
           obtain ⟨hcz36_0, hcz36_1, hcz36_2, hcz36_3, hcz36_4, hcz36_5, hcz36_6, hcz36_7, hfz36_0, hfz36_1, hfz36_2, hfz36_3, hfz36_4, hfz36_5, hfz36_6, hfz36_7⟩ := bx8z BK187.out
           obtain ⟨hcz37_0, hcz37_1, hcz37_2, hcz37_3, hcz37_4, hcz37_5, hcz37_6, hcz37_7, hfz37_0, hfz37_1, hfz37_2, hfz37_3, hfz37_4, hfz37_5, hfz37_6, hfz37_7⟩ := bx8z BK188.out
           go_wp2
           go_meet
           case rel => exact ⟨_, (false), (0), (0), (0), (by first|rfl|(simp; done)|(simp [*]; done)), H', ⟨by have := HJ4.out; first|omega|exact Nat.le_refl _⟩, ⟨by (with_reducible repeat (first|refine bN ?_ _|refine bD ?_|refine bA ?_ _)); refine far3 ?_ NB187_188.out; (with_reducible repeat (first|refine bN ?_ _|refine bD ?_|refine bA ?_ _)); exact BK187.out⟩, ⟨by (with_reducible repeat (first|refine bN ?_ _|refine bD ?_|refine bA ?_ _)); refine blk_put (cs := #[.int .i64 a0_0, .int .i64 0, .int .i64 0, .int .i64 0, .int .i64 0, .int .i64 a0_5, .slice none 0 0, .int .i64 a0_7]) ?_ 5 _ rfl; (with_reducible repeat (first|refine bN ?_ _|refine bD ?_|refine bA ?_ _)); refine blk_put (cs := #[.int .i64 a0_0, .int .i64 0, .int .i64 0, .int .i64 0, .int .i64 a0_4, .int .i64 a0_5, .slice none 0 0, .int .i64 a0_7]) ?_ 4 _ rfl; (with_reducible repeat (first|refine bN ?_ _|refine bD ?_|refine bA ?_ _)); refine blk_put (cs := #[.int .i64 a0_0, .int .i64 0, .int .i64 0, .int .i64 a0_3, .int .i64 a0_4, .int .i64 a0_5, .slice none 0 0, .int .i64 a0_7]) ?_ 3 _ rfl; (with_reducible repeat (first|refine bN ?_ _|refine bD ?_|refine bA ?_ _)); exact BK188.out⟩, ⟨by repeat (first|(with_reducible first|exact HB.out|apply lA|apply lN|apply lD|refine lS ?_ GE187.out|refine lS ?_ GE188.out)|exact HB.out)⟩⟩
         ·rw [if_neg c26] at H
          have c26b0 : decide (a0_4 ≤ a0_2) = false := decide_eq_false c26
          clear c26
          have H' := aM H
          clear H
          have hnb38 := NB187_188.out
          have hnc38 := NB188_187.out
          obtain ⟨hcz39_0, hcz39_1, hcz39_2, hcz39_3, hcz39_4, hcz39_5, hcz39_6, hcz39_7, hfz39_0, hfz39_1, hfz39_2, hfz39_3, hfz39_4, hfz39_5, hfz39_6, hfz39_7⟩ := bx8z BK187.out
          obtain ⟨hcz40_0, hcz40_1, hcz40_2, hcz40_3, hcz40_4, hcz40_5, hcz40_6, hcz40_7, hfz40_0, hfz40_1, hfz40_2, hfz40_3, hfz40_4, hfz40_5, hfz40_6, hfz40_7⟩ := bx8z BK188.out
          go_wp2
          go_meet
          case rel => exact ⟨_, (false), (0), (0), (0), (by first|rfl|(simp; done)|(simp [*]; done)), H', ⟨by have := HJ4.out; first|omega|exact Nat.le_refl _⟩, ⟨by (with_reducible repeat (first|refine bN ?_ _|refine bD ?_|refine bA ?_ _)); refine far3 ?_ NB187_188.out; (with_reducible repeat (first|refine bN ?_ _|refine bD ?_|refine bA ?_ _)); exact BK187.out⟩, ⟨by (with_reducible repeat (first|refine bN ?_ _|refine bD ?_|refine bA ?_ _)); refine blk_put (cs := #[.int .i64 a0_0, .int .i64 0, .int .i64 0, .int .i64 0, .int .i64 0, .int .i64 a0_5, .slice none 0 0, .int .i64 a0_7]) ?_ 5 _ rfl; (with_reducible repeat (first|refine bN ?_ _|refine bD ?_|refine bA ?_ _)); refine blk_put (cs := #[.int .i64 a0_0, .int .i64 0, .int .i64 0, .int .i64 0, .int .i64 a0_4, .int .i64 a0_5, .slice none 0 0, .int .i64 a0_7]) ?_ 4 _ rfl; (with_reducible repeat (first|refine bN ?_ _|refine bD ?_|refine bA ?_ _)); refine blk_put (cs := #[.int .i64 a0_0, .int .i64 0, .int .i64 0, .int .i64 a0_3, .int .i64 a0_4, .int .i64 a0_5, .slice none 0 0, .int .i64 a0_7]) ?_ 3 _ rfl; (with_reducible repeat (first|refine bN ?_ _|refine bD ?_|refine bA ?_ _)); exact BK188.out⟩, ⟨by repeat (first|(with_reducible first|exact HB.out|apply lA|apply lN|apply lD|refine lS ?_ GE187.out|refine lS ?_ GE188.out)|exact HB.out)⟩⟩
        ·rw [if_neg c25] at H
         have c25b0 : decide (a0_3 < a0_4) = false := decide_eq_false c25
         clear c25
         have H' := aM H
         clear H
         have hnb41 := NB187_188.out
         have hnc41 := NB188_187.out
         obtain ⟨hcz42_0, hcz42_1, hcz42_2, hcz42_3, hcz42_4, hcz42_5, hcz42_6, hcz42_7, hfz42_0, hfz42_1, hfz42_2, hfz42_3, hfz42_4, hfz42_5, hfz42_6, hfz42_7⟩ := bx8z BK187.out
         obtain ⟨hcz43_0, hcz43_1, hcz43_2, hcz43_3, hcz43_4, hcz43_5, hcz43_6, hcz43_7, hfz43_0, hfz43_1, hfz43_2, hfz43_3, hfz43_4, hfz43_5, hfz43_6, hfz43_7⟩ := bx8z BK188.out
         go_wp2
         go_meet
         case rel => exact ⟨_, (false), (0), (0), (0), (by first|rfl|(simp; done)|(simp [*]; done)), H', ⟨by have := HJ4.out; first|omega|exact Nat.le_refl _⟩, ⟨by (with_reducible repeat (first|refine bN ?_ _|refine bD ?_|refine bA ?_ _)); refine far3 ?_ NB187_188.out; (with_reducible repeat (first|refine bN ?_ _|refine bD ?_|refine bA ?_ _)); exact BK187.out⟩, ⟨by (with_reducible repeat (first|refine bN ?_ _|refine bD ?_|refine bA ?_ _)); refine blk_put (cs := #[.int .i64 a0_0, .int .i64 0, .int .i64 0, .int .i64 0, .int .i64 0, .int .i64 a0_5, .slice none 0 0, .int .i64 a0_7]) ?_ 5 _ rfl; (with_reducible repeat (first|refine bN ?_ _|refine bD ?_|refine bA ?_ _)); refine blk_put (cs := #[.int .i64 a0_0, .int .i64 0, .int .i64 0, .int .i64 0, .int .i64 a0_4, .int .i64 a0_5, .slice none 0 0, .int .i64 a0_7]) ?_ 4 _ rfl; (with_reducible repeat (first|refine bN ?_ _|refine bD ?_|refine bA ?_ _)); refine blk_put (cs := #[.int .i64 a0_0, .int .i64 0, .int .i64 0, .int .i64 a0_3, .int .i64 a0_4, .int .i64 a0_5, .slice none 0 0, .int .i64 a0_7]) ?_ 3 _ rfl; (with_reducible repeat (first|refine bN ?_ _|refine bD ?_|refine bA ?_ _)); exact BK188.out⟩, ⟨by repeat (first|(with_reducible first|exact HB.out|apply lA|apply lN|apply lD|refine lS ?_ GE187.out|refine lS ?_ GE188.out)|exact HB.out)⟩⟩
       ·rw [if_neg c24] at H
        have c24b0 : decide (a0_1 ≤ a0_3) = false := decide_eq_false c24
        clear c24
        have H' := aM H
        clear H
        have hnb44 := NB187_188.out
        have hnc44 := NB188_187.out
        obtain ⟨hcz45_0, hcz45_1, hcz45_2, hcz45_3, hcz45_4, hcz45_5, hcz45_6, hcz45_7, hfz45_0, hfz45_1, hfz45_2, hfz45_3, hfz45_4, hfz45_5, hfz45_6, hfz45_7⟩ := bx8z BK187.out
        obtain ⟨hcz46_0, hcz46_1, hcz46_2, hcz46_3, hcz46_4, hcz46_5, hcz46_6, hcz46_7, hfz46_0, hfz46_1, hfz46_2, hfz46_3, hfz46_4, hfz46_5, hfz46_6, hfz46_7⟩ := bx8z BK188.out
        go_wp2
        go_meet
        case rel => exact ⟨_, (false), (0), (0), (0), (by first|rfl|(simp; done)|(simp [*]; done)), H', ⟨by have := HJ4.out; first|omega|exact Nat.le_refl _⟩, ⟨by (with_reducible repeat (first|refine bN ?_ _|refine bD ?_|refine bA ?_ _)); refine far3 ?_ NB187_188.out; (with_reducible repeat (first|refine bN ?_ _|refine bD ?_|refine bA ?_ _)); exact BK187.out⟩, ⟨by (with_reducible repeat (first|refine bN ?_ _|refine bD ?_|refine bA ?_ _)); refine blk_put (cs := #[.int .i64 a0_0, .int .i64 0, .int .i64 0, .int .i64 0, .int .i64 0, .int .i64 a0_5, .slice none 0 0, .int .i64 a0_7]) ?_ 5 _ rfl; (with_reducible repeat (first|refine bN ?_ _|refine bD ?_|refine bA ?_ _)); refine blk_put (cs := #[.int .i64 a0_0, .int .i64 0, .int .i64 0, .int .i64 0, .int .i64 a0_4, .int .i64 a0_5, .slice none 0 0, .int .i64 a0_7]) ?_ 4 _ rfl; (with_reducible repeat (first|refine bN ?_ _|refine bD ?_|refine bA ?_ _)); refine blk_put (cs := #[.int .i64 a0_0, .int .i64 0, .int .i64 0, .int .i64 a0_3, .int .i64 a0_4, .int .i64 a0_5, .slice none 0 0, .int .i64 a0_7]) ?_ 3 _ rfl; (with_reducible repeat (first|refine bN ?_ _|refine bD ?_|refine bA ?_ _)); exact BK188.out⟩, ⟨by repeat (first|(with_reducible first|exact HB.out|apply lA|apply lN|apply lD|refine lS ?_ GE187.out|refine lS ?_ GE188.out)|exact HB.out)⟩⟩
      ·replace c23 := Bool.eq_false_iff.mpr c23
       subst c23
       have H1 : (step_Check.j1 kj4 false a0_0 a0_1 a0_2 a0_3 a0_4 a0_5 l0_6 a0_7 a0_0 0 0 0 0 0 a0_7) = some r := by rw [if_neg (show ¬ (false = true) by decide)] at H; exact H
       clear H
       have H := H1
       clear H1
       have H' := aM H
       clear H
       have hnb47 := NB188_187.out
       have hnc47 := NB187_188.out
       obtain ⟨hcz48_0, hcz48_1, hcz48_2, hcz48_3, hcz48_4, hcz48_5, hcz48_6, hcz48_7, hfz48_0, hfz48_1, hfz48_2, hfz48_3, hfz48_4, hfz48_5, hfz48_6, hfz48_7⟩ := bx8z BK188.out
       go_wp2
       go_meet
       case rel => exact ⟨_, (false), (0), (0), (0), (by first|rfl|(simp; done)|(simp [*]; done)), H', ⟨by have := HJ4.out; first|omega|exact Nat.le_refl _⟩, ⟨by (with_reducible repeat (first|refine bN ?_ _|refine bD ?_|refine bA ?_ _)); refine far3 ?_ NB187_188.out; (with_reducible repeat (first|refine bN ?_ _|refine bD ?_|refine bA ?_ _)); exact BK187.out⟩, ⟨by (with_reducible repeat (first|refine bN ?_ _|refine bD ?_|refine bA ?_ _)); refine blk_put (cs := #[.int .i64 a0_0, .int .i64 0, .int .i64 0, .int .i64 0, .int .i64 0, .int .i64 a0_5, .slice none 0 0, .int .i64 a0_7]) ?_ 5 _ rfl; (with_reducible repeat (first|refine bN ?_ _|refine bD ?_|refine bA ?_ _)); refine blk_put (cs := #[.int .i64 a0_0, .int .i64 0, .int .i64 0, .int .i64 0, .int .i64 a0_4, .int .i64 a0_5, .slice none 0 0, .int .i64 a0_7]) ?_ 4 _ rfl; (with_reducible repeat (first|refine bN ?_ _|refine bD ?_|refine bA ?_ _)); refine blk_put (cs := #[.int .i64 a0_0, .int .i64 0, .int .i64 0, .int .i64 a0_3, .int .i64 a0_4, .int .i64 a0_5, .slice none 0 0, .int .i64 a0_7]) ?_ 3 _ rfl; (with_reducible repeat (first|refine bN ?_ _|refine bD ?_|refine bA ?_ _)); exact BK188.out⟩, ⟨by repeat (first|(with_reducible first|exact HB.out|apply lA|apply lN|apply lD|refine lS ?_ GE187.out|refine lS ?_ GE188.out)|exact HB.out)⟩⟩
     ·rw [if_neg c22] at H
      have c22b0 : (a0_0 == 1) = false := beq_eq_false_iff_ne.mpr c22
      have c22b1 : (a0_0 != 1) = true := bne_iff_ne.mpr c22
      (first|rw [c22b0]|(simp only [i64_w, i32_w]; rw [c22b0])|skip)
      by_cases c49 : a0_0 = 0
      ·rw [if_pos c49] at H
       have c49b0 : (a0_0 == 0) = true := beq_iff_eq.mpr c49
       have c49b1 : (a0_0 != 0) = false := bne_eq_false_iff_eq.mpr c49
       clear c49
       by_cases c50 : x4_4 = true
       ·subst c50
        have H1 : (step_Check.j1 kj4 (a0_7 == 0) a0_0 a0_1 a0_2 a0_3 a0_4 a0_5 l0_6 a0_7 a0_0 0 0 a0_3 a0_4 a0_5 a0_7) = some r := by rw [if_pos rfl] at H; exact H
        clear H
        have H := H1
        clear H1
        have H' := aM H
        clear H
        have hnb51 := NB188_187.out
        have hnc51 := NB187_188.out
        obtain ⟨hcz52_0, hcz52_1, hcz52_2, hcz52_3, hcz52_4, hcz52_5, hcz52_6, hcz52_7, hfz52_0, hfz52_1, hfz52_2, hfz52_3, hfz52_4, hfz52_5, hfz52_6, hfz52_7⟩ := bx8z BK188.out
        go_wp2
        go_meet
        case rel => exact ⟨_, ((a0_7 == 0)), (a0_3), (a0_4), (a0_5), (by first|rfl|(simp; done)|(simp [*]; done)), H', ⟨by have := HJ4.out; first|omega|exact Nat.le_refl _⟩, ⟨by (with_reducible repeat (first|refine bN ?_ _|refine bD ?_|refine bA ?_ _)); exact BK187.out⟩, ⟨by (with_reducible repeat (first|refine bN ?_ _|refine bD ?_|refine bA ?_ _)); exact BK188.out⟩, ⟨by repeat (first|(with_reducible first|exact HB.out|apply lA|apply lN|apply lD|refine lS ?_ GE187.out|refine lS ?_ GE188.out)|exact HB.out)⟩⟩
       ·replace c50 := Bool.eq_false_iff.mpr c50
        subst c50
        have H1 : (step_Check.j1 kj4 false a0_0 a0_1 a0_2 a0_3 a0_4 a0_5 l0_6 a0_7 a0_0 0 0 a0_3 a0_4 a0_5 a0_7) = some r := by rw [if_neg (show ¬ (false = true) by decide)] at H; exact H
        clear H
        have H := H1
        clear H1
        have H' := aM H
        clear H
        go_wp2
        go_meet
        case rel => exact ⟨_, (false), (a0_3), (a0_4), (a0_5), (by first|rfl|(simp; done)|(simp [*]; done)), H', ⟨by have := HJ4.out; first|omega|exact Nat.le_refl _⟩, ⟨by (with_reducible repeat (first|refine bN ?_ _|refine bD ?_|refine bA ?_ _)); exact BK187.out⟩, ⟨by (with_reducible repeat (first|refine bN ?_ _|refine bD ?_|refine bA ?_ _)); exact BK188.out⟩, ⟨by repeat (first|(with_reducible first|exact HB.out|apply lA|apply lN|apply lD|refine lS ?_ GE187.out|refine lS ?_ GE188.out)|exact HB.out)⟩⟩
      ·rw [if_neg c49] at H
       have c49b0 : (a0_0 == 0) = false := beq_eq_false_iff_ne.mpr c49
       have c49b1 : (a0_0 != 0) = true := bne_iff_ne.mpr c49
       by_cases c53 : a0_0 = 2
       ·rw [if_pos c53] at H
        have c53b0 : (a0_0 == 2) = true := beq_iff_eq.mpr c53
        have c53b1 : (a0_0 != 2) = false := bne_eq_false_iff_eq.mpr c53
        clear c53
        by_cases c54 : x4_4 = true
        ·subst c54
         have H1 : (if a0_1 < a0_2 then ((mark_List.f kj4 a0_7).bind fun t189 => (if (t189.length : Int) = 1 then (step_Check.j1 kj4 ((l0_6.length : Int) == 0) a0_0 a0_1 a0_2 a0_3 a0_4 a0_5 l0_6 a0_7 a0_0 0 0 a0_3 a0_4 a0_5 a0_7) else (step_Check.j1 kj4 false a0_0 a0_1 a0_2 a0_3 a0_4 a0_5 l0_6 a0_7 a0_0 0 0 a0_3 a0_4 a0_5 a0_7))) else (step_Check.j1 kj4 false a0_0 a0_1 a0_2 a0_3 a0_4 a0_5 l0_6 a0_7 a0_0 0 0 a0_3 a0_4 a0_5 a0_7)) = some r := by rw [if_pos rfl] at H; exact H
         clear H
         have H := H1
         clear H1
         by_cases c55 : a0_1 < a0_2
         ·rw [if_pos c55] at H
          have c55b0 : decide (a0_1 < a0_2) = true := decide_eq_true c55
          clear c55
          replace H := Option.bind_eq_some_iff.mp H
          obtain ⟨t189, A560, H⟩ := H
          replace H : (if (t189.length : Int) = 1 then (step_Check.j1 kj4 ((l0_6.length : Int) == 0) a0_0 a0_1 a0_2 a0_3 a0_4 a0_5 l0_6 a0_7 a0_0 0 0 a0_3 a0_4 a0_5 a0_7) else (step_Check.j1 kj4 false a0_0 a0_1 a0_2 a0_3 a0_4 a0_5 l0_6 a0_7 a0_0 0 0 a0_3 a0_4 a0_5 a0_7)) = some r := H
          have A56 := aM A560
          clear A560
          by_cases c57 : (t189.length : Int) = 1
          ·rw [if_pos c57] at H
           have c57b0 : ((t189.length : Int) == 1) = true := beq_iff_eq.mpr c57
           have c57b1 : ((t189.length : Int) != 1) = false := bne_eq_false_iff_eq.mpr c57
           clear c57
           have H' := aM H
           clear H
           have hnb58 := NB187_188.out
           have hnc58 := NB188_187.out
           obtain ⟨hcz59_0, hcz59_1, hcz59_2, hcz59_3, hcz59_4, hcz59_5, hcz59_6, hcz59_7, hfz59_0, hfz59_1, hfz59_2, hfz59_3, hfz59_4, hfz59_5, hfz59_6, hfz59_7⟩ := bx8z BK187.out
           go_wp2_with (first|(go_at_call 51; (with_reducible refine (mark_List.calls kj4 a0_7 t189 _ A56.out).mono ?_); rintro e w60 ⟨v190, rfl, ho0, hb⟩; replace HO191 := aM (Kd.R_lower ho0 (below_size (by repeat (first|(with_reducible first|exact HB.out|apply lA|apply lN|apply lD|refine lS ?_ GE187.out|refine lS ?_ GE188.out)|exact HB.out)))); replace BK187 := aM (blk_below (by (with_reducible repeat (first|refine bN ?_ _|refine bD ?_|refine bA ?_ _)); exact BK187.out) hb); replace BK188 := aM (blk_below (by (with_reducible repeat (first|refine bN ?_ _|refine bD ?_|refine bA ?_ _)); exact BK188.out) hb); replace HB := aM (below_step (by repeat (first|(with_reducible first|exact HB.out|apply lA|apply lN|apply lD|refine lS ?_ GE187.out|refine lS ?_ GE188.out)|exact HB.out)) hb); (try clear hb); (try clear hb2); (try clear hk); (try clear hi); (try clear ho0); obtain ⟨Ao61, co61, eo61⟩ := Kd.R_slice HO191.out; subst eo61; obtain ⟨hcz62_0, hcz62_1, hcz62_2, hcz62_3, hcz62_4, hcz62_5, hcz62_6, hcz62_7, hfz62_0, hfz62_1, hfz62_2, hfz62_3, hfz62_4, hfz62_5, hfz62_6, hfz62_7⟩ := bx8z BK187.out))
           go_meet
           case rel => exact ⟨_, (((l0_6.length : Int) == 0)), (a0_3), (a0_4), (a0_5), (by first|rfl|(simp; done)|(simp [*]; done)), H', ⟨by have := HJ4.out; first|omega|exact Nat.le_refl _⟩, ⟨by (with_reducible repeat (first|refine bN ?_ _|refine bD ?_|refine bA ?_ _)); exact BK187.out⟩, ⟨by (with_reducible repeat (first|refine bN ?_ _|refine bD ?_|refine bA ?_ _)); exact BK188.out⟩, ⟨by repeat (first|(with_reducible first|exact HB.out|apply lA|apply lN|apply lD|refine lS ?_ GE187.out|refine lS ?_ GE188.out)|exact HB.out)⟩⟩
          ·rw [if_neg c57] at H
           have c57b0 : ((t189.length : Int) == 1) = false := beq_eq_false_iff_ne.mpr c57
           have c57b1 : ((t189.length : Int) != 1) = true := bne_iff_ne.mpr c57
           have H' := aM H
           clear H
           have hnb63 := NB187_188.out
           have hnc63 := NB188_187.out
           obtain ⟨hcz64_0, hcz64_1, hcz64_2, hcz64_3, hcz64_4, hcz64_5, hcz64_6, hcz64_7, hfz64_0, hfz64_1, hfz64_2, hfz64_3, hfz64_4, hfz64_5, hfz64_6, hfz64_7⟩ := bx8z BK187.out
           go_wp2_with (first|(go_at_call 51; (with_reducible refine (mark_List.calls kj4 a0_7 t189 _ A56.out).mono ?_); rintro e w65 ⟨v190, rfl, ho0, hb⟩; replace HO191 := aM (Kd.R_lower ho0 (below_size (by repeat (first|(with_reducible first|exact HB.out|apply lA|apply lN|apply lD|refine lS ?_ GE187.out|refine lS ?_ GE188.out)|exact HB.out)))); replace BK187 := aM (blk_below (by (with_reducible repeat (first|refine bN ?_ _|refine bD ?_|refine bA ?_ _)); exact BK187.out) hb); replace BK188 := aM (blk_below (by (with_reducible repeat (first|refine bN ?_ _|refine bD ?_|refine bA ?_ _)); exact BK188.out) hb); replace HB := aM (below_step (by repeat (first|(with_reducible first|exact HB.out|apply lA|apply lN|apply lD|refine lS ?_ GE187.out|refine lS ?_ GE188.out)|exact HB.out)) hb); (try clear hb); (try clear hb2); (try clear hk); (try clear hi); (try clear ho0); obtain ⟨Ao66, co66, eo66⟩ := Kd.R_slice HO191.out; subst eo66))
           go_meet
           case rel => exact ⟨_, (false), (a0_3), (a0_4), (a0_5), (by first|rfl|(simp; done)|(simp [*]; done)), H', ⟨by have := HJ4.out; first|omega|exact Nat.le_refl _⟩, ⟨by (with_reducible repeat (first|refine bN ?_ _|refine bD ?_|refine bA ?_ _)); exact BK187.out⟩, ⟨by (with_reducible repeat (first|refine bN ?_ _|refine bD ?_|refine bA ?_ _)); exact BK188.out⟩, ⟨by repeat (first|(with_reducible first|exact HB.out|apply lA|apply lN|apply lD|refine lS ?_ GE187.out|refine lS ?_ GE188.out)|exact HB.out)⟩⟩
         ·rw [if_neg c55] at H
          have c55b0 : decide (a0_1 < a0_2) = false := decide_eq_false c55
          clear c55
          have H' := aM H
          clear H
          have hnb67 := NB187_188.out
          have hnc67 := NB188_187.out
          obtain ⟨hcz68_0, hcz68_1, hcz68_2, hcz68_3, hcz68_4, hcz68_5, hcz68_6, hcz68_7, hfz68_0, hfz68_1, hfz68_2, hfz68_3, hfz68_4, hfz68_5, hfz68_6, hfz68_7⟩ := bx8z BK187.out
          go_wp2
          go_meet
          case rel => exact ⟨_, (false), (a0_3), (a0_4), (a0_5), (by first|rfl|(simp; done)|(simp [*]; done)), H', ⟨by have := HJ4.out; first|omega|exact Nat.le_refl _⟩, ⟨by (with_reducible repeat (first|refine bN ?_ _|refine bD ?_|refine bA ?_ _)); exact BK187.out⟩, ⟨by (with_reducible repeat (first|refine bN ?_ _|refine bD ?_|refine bA ?_ _)); exact BK188.out⟩, ⟨by repeat (first|(with_reducible first|exact HB.out|apply lA|apply lN|apply lD|refine lS ?_ GE187.out|refine lS ?_ GE188.out)|exact HB.out)⟩⟩
        ·replace c54 := Bool.eq_false_iff.mpr c54
         subst c54
         have H1 : (step_Check.j1 kj4 false a0_0 a0_1 a0_2 a0_3 a0_4 a0_5 l0_6 a0_7 a0_0 0 0 a0_3 a0_4 a0_5 a0_7) = some r := by rw [if_neg (show ¬ (false = true) by decide)] at H; exact H
         clear H
         have H := H1
         clear H1
         have H' := aM H
         clear H
         go_wp2
         go_meet
         case rel => exact ⟨_, (false), (a0_3), (a0_4), (a0_5), (by first|rfl|(simp; done)|(simp [*]; done)), H', ⟨by have := HJ4.out; first|omega|exact Nat.le_refl _⟩, ⟨by (with_reducible repeat (first|refine bN ?_ _|refine bD ?_|refine bA ?_ _)); exact BK187.out⟩, ⟨by (with_reducible repeat (first|refine bN ?_ _|refine bD ?_|refine bA ?_ _)); exact BK188.out⟩, ⟨by repeat (first|(with_reducible first|exact HB.out|apply lA|apply lN|apply lD|refine lS ?_ GE187.out|refine lS ?_ GE188.out)|exact HB.out)⟩⟩
       ·rw [if_neg c53] at H
        have c53b0 : (a0_0 == 2) = false := beq_eq_false_iff_ne.mpr c53
        have c53b1 : (a0_0 != 2) = true := bne_iff_ne.mpr c53
        by_cases c69 : a0_0 = 3
        ·rw [if_pos c69] at H
         have c69b0 : (a0_0 == 3) = true := beq_iff_eq.mpr c69
         have c69b1 : (a0_0 != 3) = false := bne_eq_false_iff_eq.mpr c69
         clear c69
         by_cases c70 : x4_4 = true
         ·subst c70
          have H1 : (if a0_1 < a0_2 then ((mark_List.f kj4 a0_7).bind fun t192 => (if (t192.length : Int) = 1 then (step_Check.j1 kj4 ((l0_6.length : Int) == 0) a0_0 a0_1 a0_2 a0_3 a0_4 a0_5 l0_6 a0_7 a0_0 0 0 a0_3 a0_4 a0_5 a0_7) else (step_Check.j1 kj4 false a0_0 a0_1 a0_2 a0_3 a0_4 a0_5 l0_6 a0_7 a0_0 0 0 a0_3 a0_4 a0_5 a0_7))) else (step_Check.j1 kj4 false a0_0 a0_1 a0_2 a0_3 a0_4 a0_5 l0_6 a0_7 a0_0 0 0 a0_3 a0_4 a0_5 a0_7)) = some r := by rw [if_pos rfl] at H; exact H
          clear H
          have H := H1
          clear H1
          by_cases c71 : a0_1 < a0_2
          ·rw [if_pos c71] at H
           have c71b0 : decide (a0_1 < a0_2) = true := decide_eq_true c71
           clear c71
           replace H := Option.bind_eq_some_iff.mp H
           obtain ⟨t192, A720, H⟩ := H
           replace H : (if (t192.length : Int) = 1 then (step_Check.j1 kj4 ((l0_6.length : Int) == 0) a0_0 a0_1 a0_2 a0_3 a0_4 a0_5 l0_6 a0_7 a0_0 0 0 a0_3 a0_4 a0_5 a0_7) else (step_Check.j1 kj4 false a0_0 a0_1 a0_2 a0_3 a0_4 a0_5 l0_6 a0_7 a0_0 0 0 a0_3 a0_4 a0_5 a0_7)) = some r := H
           have A72 := aM A720
           clear A720
           by_cases c73 : (t192.length : Int) = 1
           ·rw [if_pos c73] at H
            have c73b0 : ((t192.length : Int) == 1) = true := beq_iff_eq.mpr c73
            have c73b1 : ((t192.length : Int) != 1) = false := bne_eq_false_iff_eq.mpr c73
            clear c73
            have H' := aM H
            clear H
            have hnb74 := NB187_188.out
            have hnc74 := NB188_187.out
            obtain ⟨hcz75_0, hcz75_1, hcz75_2, hcz75_3, hcz75_4, hcz75_5, hcz75_6, hcz75_7, hfz75_0, hfz75_1, hfz75_2, hfz75_3, hfz75_4, hfz75_5, hfz75_6, hfz75_7⟩ := bx8z BK187.out
            go_wp2_with (first|(go_at_call 51; (with_reducible refine (mark_List.calls kj4 a0_7 t192 _ A72.out).mono ?_); rintro e w76 ⟨v193, rfl, ho0, hb⟩; replace HO194 := aM (Kd.R_lower ho0 (below_size (by repeat (first|(with_reducible first|exact HB.out|apply lA|apply lN|apply lD|refine lS ?_ GE187.out|refine lS ?_ GE188.out)|exact HB.out)))); replace BK187 := aM (blk_below (by (with_reducible repeat (first|refine bN ?_ _|refine bD ?_|refine bA ?_ _)); exact BK187.out) hb); replace BK188 := aM (blk_below (by (with_reducible repeat (first|refine bN ?_ _|refine bD ?_|refine bA ?_ _)); exact BK188.out) hb); replace HB := aM (below_step (by repeat (first|(with_reducible first|exact HB.out|apply lA|apply lN|apply lD|refine lS ?_ GE187.out|refine lS ?_ GE188.out)|exact HB.out)) hb); (try clear hb); (try clear hb2); (try clear hk); (try clear hi); (try clear ho0); obtain ⟨Ao77, co77, eo77⟩ := Kd.R_slice HO194.out; subst eo77; obtain ⟨hcz78_0, hcz78_1, hcz78_2, hcz78_3, hcz78_4, hcz78_5, hcz78_6, hcz78_7, hfz78_0, hfz78_1, hfz78_2, hfz78_3, hfz78_4, hfz78_5, hfz78_6, hfz78_7⟩ := bx8z BK187.out))
            go_meet
            case rel => exact ⟨_, (((l0_6.length : Int) == 0)), (a0_3), (a0_4), (a0_5), (by first|rfl|(simp; done)|(simp [*]; done)), H', ⟨by have := HJ4.out; first|omega|exact Nat.le_refl _⟩, ⟨by (with_reducible repeat (first|refine bN ?_ _|refine bD ?_|refine bA ?_ _)); exact BK187.out⟩, ⟨by (with_reducible repeat (first|refine bN ?_ _|refine bD ?_|refine bA ?_ _)); exact BK188.out⟩, ⟨by repeat (first|(with_reducible first|exact HB.out|apply lA|apply lN|apply lD|refine lS ?_ GE187.out|refine lS ?_ GE188.out)|exact HB.out)⟩⟩
           ·rw [if_neg c73] at H
            have c73b0 : ((t192.length : Int) == 1) = false := beq_eq_false_iff_ne.mpr c73
            have c73b1 : ((t192.length : Int) != 1) = true := bne_iff_ne.mpr c73
            have H' := aM H
            clear H
            have hnb79 := NB187_188.out
            have hnc79 := NB188_187.out
            obtain ⟨hcz80_0, hcz80_1, hcz80_2, hcz80_3, hcz80_4, hcz80_5, hcz80_6, hcz80_7, hfz80_0, hfz80_1, hfz80_2, hfz80_3, hfz80_4, hfz80_5, hfz80_6, hfz80_7⟩ := bx8z BK187.out
            go_wp2_with (first|(go_at_call 51; (with_reducible refine (mark_List.calls kj4 a0_7 t192 _ A72.out).mono ?_); rintro e w81 ⟨v193, rfl, ho0, hb⟩; replace HO194 := aM (Kd.R_lower ho0 (below_size (by repeat (first|(with_reducible first|exact HB.out|apply lA|apply lN|apply lD|refine lS ?_ GE187.out|refine lS ?_ GE188.out)|exact HB.out)))); replace BK187 := aM (blk_below (by (with_reducible repeat (first|refine bN ?_ _|refine bD ?_|refine bA ?_ _)); exact BK187.out) hb); replace BK188 := aM (blk_below (by (with_reducible repeat (first|refine bN ?_ _|refine bD ?_|refine bA ?_ _)); exact BK188.out) hb); replace HB := aM (below_step (by repeat (first|(with_reducible first|exact HB.out|apply lA|apply lN|apply lD|refine lS ?_ GE187.out|refine lS ?_ GE188.out)|exact HB.out)) hb); (try clear hb); (try clear hb2); (try clear hk); (try clear hi); (try clear ho0); obtain ⟨Ao82, co82, eo82⟩ := Kd.R_slice HO194.out; subst eo82))
            go_meet
            case rel => exact ⟨_, (false), (a0_3), (a0_4), (a0_5), (by first|rfl|(simp; done)|(simp [*]; done)), H', ⟨by have := HJ4.out; first|omega|exact Nat.le_refl _⟩, ⟨by (with_reducible repeat (first|refine bN ?_ _|refine bD ?_|refine bA ?_ _)); exact BK187.out⟩, ⟨by (with_reducible repeat (first|refine bN ?_ _|refine bD ?_|refine bA ?_ _)); exact BK188.out⟩, ⟨by repeat (first|(with_reducible first|exact HB.out|apply lA|apply lN|apply lD|refine lS ?_ GE187.out|refine lS ?_ GE188.out)|exact HB.out)⟩⟩
          ·rw [if_neg c71] at H
           have c71b0 : decide (a0_1 < a0_2) = false := decide_eq_false c71
           clear c71
           have H' := aM H
           clear H
           have hnb83 := NB187_188.out
           have hnc83 := NB188_187.out
           obtain ⟨hcz84_0, hcz84_1, hcz84_2, hcz84_3, hcz84_4, hcz84_5, hcz84_6, hcz84_7, hfz84_0, hfz84_1, hfz84_2, hfz84_3, hfz84_4, hfz84_5, hfz84_6, hfz84_7⟩ := bx8z BK187.out
           go_wp2
           go_meet
           case rel => exact ⟨_, (false), (a0_3), (a0_4), (a0_5), (by first|rfl|(simp; done)|(simp [*]; done)), H', ⟨by have := HJ4.out; first|omega|exact Nat.le_refl _⟩, ⟨by (with_reducible repeat (first|refine bN ?_ _|refine bD ?_|refine bA ?_ _)); exact BK187.out⟩, ⟨by (with_reducible repeat (first|refine bN ?_ _|refine bD ?_|refine bA ?_ _)); exact BK188.out⟩, ⟨by repeat (first|(with_reducible first|exact HB.out|apply lA|apply lN|apply lD|refine lS ?_ GE187.out|refine lS ?_ GE188.out)|exact HB.out)⟩⟩
         ·replace c70 := Bool.eq_false_iff.mpr c70
          subst c70
          have H1 : (step_Check.j1 kj4 false a0_0 a0_1 a0_2 a0_3 a0_4 a0_5 l0_6 a0_7 a0_0 0 0 a0_3 a0_4 a0_5 a0_7) = some r := by rw [if_neg (show ¬ (false = true) by decide)] at H; exact H
          clear H
          have H := H1
          clear H1
          have H' := aM H
          clear H
          go_wp2
          go_meet
          case rel => exact ⟨_, (false), (a0_3), (a0_4), (a0_5), (by first|rfl|(simp; done)|(simp [*]; done)), H', ⟨by have := HJ4.out; first|omega|exact Nat.le_refl _⟩, ⟨by (with_reducible repeat (first|refine bN ?_ _|refine bD ?_|refine bA ?_ _)); exact BK187.out⟩, ⟨by (with_reducible repeat (first|refine bN ?_ _|refine bD ?_|refine bA ?_ _)); exact BK188.out⟩, ⟨by repeat (first|(with_reducible first|exact HB.out|apply lA|apply lN|apply lD|refine lS ?_ GE187.out|refine lS ?_ GE188.out)|exact HB.out)⟩⟩
        ·rw [if_neg c69] at H
         have c69b0 : (a0_0 == 3) = false := beq_eq_false_iff_ne.mpr c69
         have c69b1 : (a0_0 != 3) = true := bne_iff_ne.mpr c69
         have H' := aM H
         clear H
         go_wp2
         go_meet
         case rel => exact ⟨_, (false), (a0_3), (a0_4), (a0_5), (by first|rfl|(simp; done)|(simp [*]; done)), H', ⟨by have := HJ4.out; first|omega|exact Nat.le_refl _⟩, ⟨by (with_reducible repeat (first|refine bN ?_ _|refine bD ?_|refine bA ?_ _)); exact BK187.out⟩, ⟨by (with_reducible repeat (first|refine bN ?_ _|refine bD ?_|refine bA ?_ _)); exact BK188.out⟩, ⟨by repeat (first|(with_reducible first|exact HB.out|apply lA|apply lN|apply lD|refine lS ?_ GE187.out|refine lS ?_ GE188.out)|exact HB.out)⟩⟩
    case rest =>
     clear HC19
     obtain ⟨kq, x4_18, x189003_18, x189004_18, x189005_18, rfl, HA, HJ18, BK187, BK188, HB⟩ := hcut
     cases kq with
    |zero => exact absurd HA.out (by simp [step_Check.j1])
    |succ kj18 =>
      have H := HA.out
      clear HA
      simp only [step_Check.j1] at H
      have HC85 := aM H
      clear H
      go_upto_region 16 with (fail)
      go_cut [4] (fun v4 wc => ∃ (kq : Nat) (x4_84 : Bool), v4 = .bool x4_84 ∧ Aside0 (step_Check.j2 kq x4_84 a0_0 a0_1 a0_2 a0_3 a0_4 a0_5 l0_6 a0_7 = some r) ∧ Aside0 (kq ≤ kj18) ∧ Aside0 (wc.heap[gb187]? = some (.cells #[.int .i64 a0_0, .int .i64 a0_1, .int .i64 a0_2, .int .i64 a0_3, .int .i64 a0_4, .int .i64 a0_5, (.slice A0_6 l0_6.length c0_6), .int .i64 a0_7] 45 (0, 0))) ∧ Aside0 (wc.heap[gb188]? = some (.cells #[.int .i64 a0_0, .int .i64 0, .int .i64 0, .int .i64 x189003_18, .int .i64 x189004_18, .int .i64 x189005_18, (.slice none 0 0), .int .i64 a0_7] 45 (0, 0))) ∧ Aside0 (Below w.heap.size w wc))
      case first =>
       have H := HC85.out
       clear HC85
       by_cases c86 : x4_18 = true
       ·subst c86
        have H1 : (if x189003_18 = 0 then (if x189004_18 = 0 then (step_Check.j2 kj18 (x189005_18 == 0) a0_0 a0_1 a0_2 a0_3 a0_4 a0_5 l0_6 a0_7) else (step_Check.j2 kj18 false a0_0 a0_1 a0_2 a0_3 a0_4 a0_5 l0_6 a0_7)) else (step_Check.j2 kj18 false a0_0 a0_1 a0_2 a0_3 a0_4 a0_5 l0_6 a0_7)) = some r := by rw [if_pos rfl] at H; exact H
        clear H
        have H := H1
        clear H1
        by_cases c87 : x189003_18 = 0
        ·rw [if_pos c87] at H
         have c87b0 : (x189003_18 == 0) = true := beq_iff_eq.mpr c87
         have c87b1 : (x189003_18 != 0) = false := bne_eq_false_iff_eq.mpr c87
         clear c87
         (first|rw [c87b0]|(simp only [i64_w, i32_w]; rw [c87b0])|skip)
         by_cases c88 : x189004_18 = 0
         ·rw [if_pos c88] at H
          have c88b0 : (x189004_18 == 0) = true := beq_iff_eq.mpr c88
          have c88b1 : (x189004_18 != 0) = false := bne_eq_false_iff_eq.mpr c88
          clear c88
          have H' := aM H
          clear H
          have hnb89 := NB188_187.out
          have hnc89 := NB187_188.out
          obtain ⟨hcz90_0, hcz90_1, hcz90_2, hcz90_3, hcz90_4, hcz90_5, hcz90_6, hcz90_7, hfz90_0, hfz90_1, hfz90_2, hfz90_3, hfz90_4, hfz90_5, hfz90_6, hfz90_7⟩ := bx8z BK188.out
          go_wp2
          go_meet
          case rel => exact ⟨_, ((x189005_18 == 0)), (by first|rfl|(simp; done)|(simp [*]; done)), H', ⟨by have := HJ4.out; have := HJ18.out; first|omega|exact Nat.le_refl _⟩, ⟨by (with_reducible repeat (first|refine bN ?_ _|refine bD ?_|refine bA ?_ _)); exact BK187.out⟩, ⟨by (with_reducible repeat (first|refine bN ?_ _|refine bD ?_|refine bA ?_ _)); exact BK188.out⟩, ⟨by repeat (first|(with_reducible first|exact HB.out|apply lA|apply lN|apply lD|refine lS ?_ GE187.out|refine lS ?_ GE188.out)|exact HB.out)⟩⟩
         ·rw [if_neg c88] at H
          have c88b0 : (x189004_18 == 0) = false := beq_eq_false_iff_ne.mpr c88
          have c88b1 : (x189004_18 != 0) = true := bne_iff_ne.mpr c88
          have H' := aM H
          clear H
          have hnb91 := NB188_187.out
          have hnc91 := NB187_188.out
          obtain ⟨hcz92_0, hcz92_1, hcz92_2, hcz92_3, hcz92_4, hcz92_5, hcz92_6, hcz92_7, hfz92_0, hfz92_1, hfz92_2, hfz92_3, hfz92_4, hfz92_5, hfz92_6, hfz92_7⟩ := bx8z BK188.out
          go_wp2
          go_meet
          case rel => exact ⟨_, (false), (by first|rfl|(simp; done)|(simp [*]; done)), H', ⟨by have := HJ4.out; have := HJ18.out; first|omega|exact Nat.le_refl _⟩, ⟨by (with_reducible repeat (first|refine bN ?_ _|refine bD ?_|refine bA ?_ _)); exact BK187.out⟩, ⟨by (with_reducible repeat (first|refine bN ?_ _|refine bD ?_|refine bA ?_ _)); exact BK188.out⟩, ⟨by repeat (first|(with_reducible first|exact HB.out|apply lA|apply lN|apply lD|refine lS ?_ GE187.out|refine lS ?_ GE188.out)|exact HB.out)⟩⟩
        ·rw [if_neg c87] at H
         have c87b0 : (x189003_18 == 0) = false := beq_eq_false_iff_ne.mpr c87
         have c87b1 : (x189003_18 != 0) = true := bne_iff_ne.mpr c87
         (first|rw [c87b0]|(simp only [i64_w, i32_w]; rw [c87b0])|skip)
         have H' := aM H
         clear H
         have hnb93 := NB188_187.out
         have hnc93 := NB187_188.out
         obtain ⟨hcz94_0, hcz94_1, hcz94_2, hcz94_3, hcz94_4, hcz94_5, hcz94_6, hcz94_7, hfz94_0, hfz94_1, hfz94_2, hfz94_3, hfz94_4, hfz94_5, hfz94_6, hfz94_7⟩ := bx8z BK188.out
         go_wp2
         go_meet
         case rel => exact ⟨_, (false), (by first|rfl|(simp; done)|(simp [*]; done)), H', ⟨by have := HJ4.out; have := HJ18.out; first|omega|exact Nat.le_refl _⟩, ⟨by (with_reducible repeat (first|refine bN ?_ _|refine bD ?_|refine bA ?_ _)); exact BK187.out⟩, ⟨by (with_reducible repeat (first|refine bN ?_ _|refine bD ?_|refine bA ?_ _)); exact BK188.out⟩, ⟨by repeat (first|(with_reducible first|exact HB.out|apply lA|apply lN|apply lD|refine lS ?_ GE187.out|refine lS ?_ GE188.out)|exact HB.out)⟩⟩
       ·replace c86 := Bool.eq_false_iff.mpr c86
        subst c86
        have H1 : (step_Check.j2 kj18 false a0_0 a0_1 a0_2 a0_3 a0_4 a0_5 l0_6 a0_7) = some r := by rw [if_neg (show ¬ (false = true) by decide)] at H; exact H
        clear H
        have H := H1
        clear H1
        have H' := aM H
        clear H
        go_wp2
        go_meet
        case rel => exact ⟨_, (false), (by first|rfl|(simp; done)|(simp [*]; done)), H', ⟨by have := HJ4.out; have := HJ18.out; first|omega|exact Nat.le_refl _⟩, ⟨by (with_reducible repeat (first|refine bN ?_ _|refine bD ?_|refine bA ?_ _)); exact BK187.out⟩, ⟨by (with_reducible repeat (first|refine bN ?_ _|refine bD ?_|refine bA ?_ _)); exact BK188.out⟩, ⟨by repeat (first|(with_reducible first|exact HB.out|apply lA|apply lN|apply lD|refine lS ?_ GE187.out|refine lS ?_ GE188.out)|exact HB.out)⟩⟩
      case rest =>
       clear HC85
       obtain ⟨kq, x4_84, rfl, HA, HJ84, BK187, BK188, HB⟩ := hcut
       cases kq with
      |zero => exact absurd HA.out (by simp [step_Check.j2])
      |succ kj84 =>
        have H := HA.out
        clear HA
        simp only [step_Check.j2] at H
        have H' := aM H
        clear H
        have hnb95 := NB187_188.out
        have hnc95 := NB188_187.out
        obtain ⟨hcz96_0, hcz96_1, hcz96_2, hcz96_3, hcz96_4, hcz96_5, hcz96_6, hcz96_7, hfz96_0, hfz96_1, hfz96_2, hfz96_3, hfz96_4, hfz96_5, hfz96_6, hfz96_7⟩ := bx8z BK187.out
        go_wp2
        go_loopg [4, 123] kj84 (fun kq v4 v123 w' => ∃ (x4_4 : Bool) (x123_4 : Int), v4 = .bool x4_4 ∧ v123 = .int .i64 x123_4 ∧ Aside0 (step_Check.l0 kq x4_4 l0_6 (l0_6.length : Int) x123_4 = some r) ∧ Aside0 (kq ≤ kj84) ∧ Aside0 (w'.heap[gb187]? = some (.cells #[.int .i64 a0_0, .int .i64 a0_1, .int .i64 a0_2, .int .i64 a0_3, .int .i64 a0_4, .int .i64 a0_5, (.slice A0_6 l0_6.length c0_6), .int .i64 a0_7] 45 (0, 0))) ∧ Aside0 (w'.heap[gb188]? = some (.cells #[.int .i64 a0_0, .int .i64 0, .int .i64 0, .int .i64 x189003_18, .int .i64 x189004_18, .int .i64 x189005_18, (.slice none 0 0), .int .i64 a0_7] 45 (0, 0))) ∧ Aside0 (Below w.heap.size w w'))
        case atStart => exact ⟨(x4_84), (0), (by first|rfl|(simp; done)|(simp [*]; done)), (by first|rfl|(simp; done)|(simp [*]; done)), H', ⟨Nat.le_refl _⟩, ⟨by (with_reducible repeat (first|refine bN ?_ _|refine bD ?_|refine bA ?_ _)); exact BK187.out⟩, ⟨by (with_reducible repeat (first|refine bN ?_ _|refine bD ?_|refine bA ?_ _)); exact BK188.out⟩, ⟨by repeat (first|(with_reducible first|exact HB.out|apply lA|apply lN|apply lD|refine lS ?_ GE187.out|refine lS ?_ GE188.out)|exact HB.out)⟩⟩
        case round =>
         clear H'
         obtain ⟨x4_4, x123_4, rfl, rfl, HA, HK4, BK187, BK188, HB⟩ := hrel
         cases gk with
        |zero => exact absurd HA.out (by simp [step_Check.l0])
        |succ k4 =>
          have H := HA.out
          clear HA
          simp only [step_Check.l0] at H
          by_cases c97 : x123_4 < (l0_6.length : Int)
          ·rw [if_pos c97] at H
           have c97b0 : decide (x123_4 < (l0_6.length : Int)) = true := decide_eq_true c97
           clear c97
           replace H := ifS H; obtain ⟨c98, H⟩ := H
           have c98b0 : decide (0 ≤ x123_4) = true := decide_eq_true c98
           clear c98
           replace H := ifS H; obtain ⟨c99, H⟩ := H
           have c99b0 : decide (x123_4 < (l0_6.length : Int)) = true := decide_eq_true c99
           clear c99
           by_cases c100 : x4_4 = true
           ·subst c100
            have H1 : ((flat_Right.f ((rd_T48 l0_6 x123_4).f0) ((rd_T48 l0_6 x123_4).f1) ((rd_T48 l0_6 x123_4).f2) ((rd_T48 l0_6 x123_4).f3)).bind fun t197 => (step_Check.l0 k4 t197 l0_6 (l0_6.length : Int) (wrap64 (x123_4 + 1)))) = some r := by rw [if_pos rfl] at H; exact H
            clear H
            have H := H1
            clear H1
            replace H := Option.bind_eq_some_iff.mp H
            obtain ⟨t197, A1010, H⟩ := H
            replace H : (step_Check.l0 k4 t197 l0_6 (l0_6.length : Int) (wrap64 (x123_4 + 1))) = some r := H
            have A101 := aM A1010
            clear A1010
            have H' := aM H
            clear H
            have p195 : 0 ≤ (x123_4 : Int) := of_decide_eq_true (by assumption)
            have q195 : x123_4 < (l0_6.length : Int) := of_decide_eq_true (by assumption)
            obtain ⟨ad195, e195, hx195_0, hx195_1, hx195_2, hx195_3⟩ := at_T48 HR0_6.out x123_4 p195 q195
            cases e195
            replace hx195_0 := cB HB.out hx195_0
            replace hx195_1 := cB HB.out hx195_1
            replace hx195_2 := cB HB.out hx195_2
            replace hx195_3 := cB HB.out hx195_3
            replace p195 := eq_true p195
            replace q195 := eq_true q195
            go_wp2_with (first|((with_reducible refine gate_dst (N := 6) rfl ?_); (try (refine gate_guard (by rfl) ?_; dsimp only)); refine box_event ?hg (N := 6) ?hd (cs := #[.int .i64 0, .int .i64 0, .int .i64 0, .int .i64 0]) (t := 48) ?hr ?_; (case hd => rfl); (case hg => rfl); (case hr => first|(go_simp; done)|(go_simp; rfl)); intro gb196 hg w102 hbox hb; replace BK196 := aM (hbox); replace GW196 := aM ((by rw [hg]; exact (below_size (by repeat (first|(with_reducible first|exact HB.out|apply lA|apply lN|apply lD|refine lS ?_ GE187.out|refine lS ?_ GE188.out)|exact HB.out))) : w.heap.size ≤ gb196)); replace GE196 := aM ((by rw [hg]; exact (below_size (by repeat (first|(with_reducible first|exact HB.out|apply lA|apply lN|apply lD|refine lS ?_ GE187.out|refine lS ?_ GE188.out)|exact HB.out))) : w.heap.size ≤ gb196)); replace HB := aM (below_step (by repeat (first|(with_reducible first|exact HB.out|apply lA|apply lN|apply lD|refine lS ?_ GE187.out|refine lS ?_ GE188.out)|exact HB.out)) hb); replace NB187_196 := aM ((by rw [hg]; exact Nat.ne_of_lt (blk_lt (g := gb187) (o := .cells #[.int .i64 a0_0, .int .i64 a0_1, .int .i64 a0_2, .int .i64 a0_3, .int .i64 a0_4, .int .i64 a0_5, .slice (some ad195) l0_6.length c0_6, .int .i64 a0_7] 45 (0, 0)) (by (with_reducible repeat (first|refine bN ?_ _|refine bD ?_|refine bA ?_ _)); exact BK187.out)) : gb187 ≠ gb196)); replace NB196_187 := aM ((by rw [hg]; exact Nat.ne_of_gt (blk_lt (g := gb187) (o := .cells #[.int .i64 a0_0, .int .i64 a0_1, .int .i64 a0_2, .int .i64 a0_3, .int .i64 a0_4, .int .i64 a0_5, .slice (some ad195) l0_6.length c0_6, .int .i64 a0_7] 45 (0, 0)) (by (with_reducible repeat (first|refine bN ?_ _|refine bD ?_|refine bA ?_ _)); exact BK187.out)) : gb196 ≠ gb187)); replace BK187 := aM (blk_below (by (with_reducible repeat (first|refine bN ?_ _|refine bD ?_|refine bA ?_ _)); exact BK187.out) hb); replace NB188_196 := aM ((by rw [hg]; exact Nat.ne_of_lt (blk_lt (g := gb188) (o := .cells #[.int .i64 a0_0, .int .i64 0, .int .i64 0, .int .i64 x189003_18, .int .i64 x189004_18, .int .i64 x189005_18, .slice none 0 0, .int .i64 a0_7] 45 (0, 0)) (by (with_reducible repeat (first|refine bN ?_ _|refine bD ?_|refine bA ?_ _)); exact BK188.out)) : gb188 ≠ gb196)); replace NB196_188 := aM ((by rw [hg]; exact Nat.ne_of_gt (blk_lt (g := gb188) (o := .cells #[.int .i64 a0_0, .int .i64 0, .int .i64 0, .int .i64 x189003_18, .int .i64 x189004_18, .int .i64 x189005_18, .slice none 0 0, .int .i64 a0_7] 45 (0, 0)) (by (with_reducible repeat (first|refine bN ?_ _|refine bD ?_|refine bA ?_ _)); exact BK188.out)) : gb196 ≠ gb188)); replace BK188 := aM (blk_below (by (with_reducible repeat (first|refine bN ?_ _|refine bD ?_|refine bA ?_ _)); exact BK188.out) hb); clear hb hbox hg; have hnb103 := NB196_187.out; have hnc103 := NB187_196.out; have hnb104 := NB196_188.out; have hnc104 := NB188_196.out; obtain ⟨hcz105_0, hcz105_1, hcz105_2, hcz105_3, hfz105_0, hfz105_1, hfz105_2, hfz105_3⟩ := bx4z BK196.out)|(go_at_call 21; (with_reducible refine (flat_Right.calls ((rd_T48 l0_6 x123_4).f0) ((rd_T48 l0_6 x123_4).f1) ((rd_T48 l0_6 x123_4).f2) ((rd_T48 l0_6 x123_4).f3) t197 _ A101.out).mono ?_); rintro e w106 ⟨rfl, hb⟩; replace BK187 := aM (blk_below (g := gb187) (o := .cells #[.int .i64 a0_0, .int .i64 a0_1, .int .i64 a0_2, .int .i64 a0_3, .int .i64 a0_4, .int .i64 a0_5, .slice (some ad195) l0_6.length c0_6, .int .i64 a0_7] 45 (0, 0)) (by (with_reducible repeat (first|refine bN ?_ _|refine bD ?_|refine bA ?_ _)); refine far4 ?_ NB187_196.out; (with_reducible repeat (first|refine bN ?_ _|refine bD ?_|refine bA ?_ _)); exact BK187.out) hb); replace BK188 := aM (blk_below (g := gb188) (o := .cells #[.int .i64 a0_0, .int .i64 0, .int .i64 0, .int .i64 x189003_18, .int .i64 x189004_18, .int .i64 x189005_18, .slice none 0 0, .int .i64 a0_7] 45 (0, 0)) (by (with_reducible repeat (first|refine bN ?_ _|refine bD ?_|refine bA ?_ _)); refine far4 ?_ NB188_196.out; (with_reducible repeat (first|refine bN ?_ _|refine bD ?_|refine bA ?_ _)); exact BK188.out) hb); replace BK196 := aM (blk_below (g := gb196) (o := .cells #[.int .i64 ((rd_T48 l0_6 x123_4).f0), .int .i64 ((rd_T48 l0_6 x123_4).f1), .int .i64 ((rd_T48 l0_6 x123_4).f2), .int .i64 ((rd_T48 l0_6 x123_4).f3)] 48 (0, 0)) (by (with_reducible repeat (first|refine bN ?_ _|refine bD ?_|refine bA ?_ _)); apply put4; (with_reducible repeat (first|refine bN ?_ _|refine bD ?_|refine bA ?_ _)); exact BK196.out) hb); replace HB := aM (below_step (by repeat (first|(with_reducible first|exact HB.out|apply lA|apply lN|apply lD|refine lS ?_ GE187.out|refine lS ?_ GE188.out|refine lS ?_ GE196.out)|exact HB.out)) hb); (try clear hb); (try clear hb2); (try clear hk); (try clear hi)))
            go_roundg k4
            case measure => have := HJ4.out; have := HJ18.out; have := HJ84.out; have := HK4.out; omega
            case rel => exact ⟨(t197), (wrap64 (x123_4 + 1)), (by first|rfl|(simp; done)|(simp [*]; done)), (by first|rfl|(simp; done)|(simp [*]; done)), H', ⟨by have := HJ4.out; have := HJ18.out; have := HJ84.out; have := HK4.out; omega⟩, ⟨by (with_reducible repeat (first|refine bN ?_ _|refine bD ?_|refine bA ?_ _)); exact BK187.out⟩, ⟨by (with_reducible repeat (first|refine bN ?_ _|refine bD ?_|refine bA ?_ _)); exact BK188.out⟩, ⟨by repeat (first|(with_reducible first|exact HB.out|apply lA|apply lN|apply lD|refine lS ?_ GE187.out|refine lS ?_ GE188.out|refine lS ?_ GE196.out)|exact HB.out)⟩⟩
           ·replace c100 := Bool.eq_false_iff.mpr c100
            subst c100
            have H1 : (step_Check.l0 k4 false l0_6 (l0_6.length : Int) (wrap64 (x123_4 + 1))) = some r := by rw [if_neg (show ¬ (false = true) by decide)] at H; exact H
            clear H
            have H := H1
            clear H1
            have H' := aM H
            clear H
            have p195 : 0 ≤ (x123_4 : Int) := of_decide_eq_true (by assumption)
            have q195 : x123_4 < (l0_6.length : Int) := of_decide_eq_true (by assumption)
            obtain ⟨ad195, e195, hx195_0, hx195_1, hx195_2, hx195_3⟩ := at_T48 HR0_6.out x123_4 p195 q195
            cases e195
            replace hx195_0 := cB HB.out hx195_0
            replace hx195_1 := cB HB.out hx195_1
            replace hx195_2 := cB HB.out hx195_2
            replace hx195_3 := cB HB.out hx195_3
            replace p195 := eq_true p195
            replace q195 := eq_true q195
            go_wp2_with (first|((with_reducible refine gate_dst (N := 6) rfl ?_); (try (refine gate_guard (by rfl) ?_; dsimp only)); refine box_event ?hg (N := 6) ?hd (cs := #[.int .i64 0, .int .i64 0, .int .i64 0, .int .i64 0]) (t := 48) ?hr ?_; (case hd => rfl); (case hg => rfl); (case hr => first|(go_simp; done)|(go_simp; rfl)); intro gb196 hg w107 hbox hb; replace BK196 := aM (hbox); replace GW196 := aM ((by rw [hg]; exact (below_size (by repeat (first|(with_reducible first|exact HB.out|apply lA|apply lN|apply lD|refine lS ?_ GE187.out|refine lS ?_ GE188.out)|exact HB.out))) : w.heap.size ≤ gb196)); replace GE196 := aM ((by rw [hg]; exact (below_size (by repeat (first|(with_reducible first|exact HB.out|apply lA|apply lN|apply lD|refine lS ?_ GE187.out|refine lS ?_ GE188.out)|exact HB.out))) : w.heap.size ≤ gb196)); replace HB := aM (below_step (by repeat (first|(with_reducible first|exact HB.out|apply lA|apply lN|apply lD|refine lS ?_ GE187.out|refine lS ?_ GE188.out)|exact HB.out)) hb); replace NB187_196 := aM ((by rw [hg]; exact Nat.ne_of_lt (blk_lt (g := gb187) (o := .cells #[.int .i64 a0_0, .int .i64 a0_1, .int .i64 a0_2, .int .i64 a0_3, .int .i64 a0_4, .int .i64 a0_5, .slice (some ad195) l0_6.length c0_6, .int .i64 a0_7] 45 (0, 0)) (by (with_reducible repeat (first|refine bN ?_ _|refine bD ?_|refine bA ?_ _)); exact BK187.out)) : gb187 ≠ gb196)); replace NB196_187 := aM ((by rw [hg]; exact Nat.ne_of_gt (blk_lt (g := gb187) (o := .cells #[.int .i64 a0_0, .int .i64 a0_1, .int .i64 a0_2, .int .i64 a0_3, .int .i64 a0_4, .int .i64 a0_5, .slice (some ad195) l0_6.length c0_6, .int .i64 a0_7] 45 (0, 0)) (by (with_reducible repeat (first|refine bN ?_ _|refine bD ?_|refine bA ?_ _)); exact BK187.out)) : gb196 ≠ gb187)); replace BK187 := aM (blk_below (by (with_reducible repeat (first|refine bN ?_ _|refine bD ?_|refine bA ?_ _)); exact BK187.out) hb); replace NB188_196 := aM ((by rw [hg]; exact Nat.ne_of_lt (blk_lt (g := gb188) (o := .cells #[.int .i64 a0_0, .int .i64 0, .int .i64 0, .int .i64 x189003_18, .int .i64 x189004_18, .int .i64 x189005_18, .slice none 0 0, .int .i64 a0_7] 45 (0, 0)) (by (with_reducible repeat (first|refine bN ?_ _|refine bD ?_|refine bA ?_ _)); exact BK188.out)) : gb188 ≠ gb196)); replace NB196_188 := aM ((by rw [hg]; exact Nat.ne_of_gt (blk_lt (g := gb188) (o := .cells #[.int .i64 a0_0, .int .i64 0, .int .i64 0, .int .i64 x189003_18, .int .i64 x189004_18, .int .i64 x189005_18, .slice none 0 0, .int .i64 a0_7] 45 (0, 0)) (by (with_reducible repeat (first|refine bN ?_ _|refine bD ?_|refine bA ?_ _)); exact BK188.out)) : gb196 ≠ gb188)); replace BK188 := aM (blk_below (by (with_reducible repeat (first|refine bN ?_ _|refine bD ?_|refine bA ?_ _)); exact BK188.out) hb); clear hb hbox hg; have hnb108 := NB196_187.out; have hnc108 := NB187_196.out; have hnb109 := NB196_188.out; have hnc109 := NB188_196.out; obtain ⟨hcz110_0, hcz110_1, hcz110_2, hcz110_3, hfz110_0, hfz110_1, hfz110_2, hfz110_3⟩ := bx4z BK196.out))
            go_roundg k4
            case measure => have := HJ4.out; have := HJ18.out; have := HJ84.out; have := HK4.out; omega
            case rel => exact ⟨(false), (wrap64 (x123_4 + 1)), (by first|rfl|(simp; done)|(simp [*]; done)), (by first|rfl|(simp; done)|(simp [*]; done)), H', ⟨by have := HJ4.out; have := HJ18.out; have := HJ84.out; have := HK4.out; omega⟩, ⟨by (with_reducible repeat (first|refine bN ?_ _|refine bD ?_|refine bA ?_ _)); refine far4 ?_ NB187_196.out; (with_reducible repeat (first|refine bN ?_ _|refine bD ?_|refine bA ?_ _)); exact BK187.out⟩, ⟨by (with_reducible repeat (first|refine bN ?_ _|refine bD ?_|refine bA ?_ _)); refine far4 ?_ NB188_196.out; (with_reducible repeat (first|refine bN ?_ _|refine bD ?_|refine bA ?_ _)); exact BK188.out⟩, ⟨by repeat (first|(with_reducible first|exact HB.out|apply lA|apply lN|apply lD|refine lS ?_ GE187.out|refine lS ?_ GE188.out|refine lS ?_ GE196.out)|exact HB.out)⟩⟩
          ·rw [if_neg c97] at H
           have c97b0 : decide (x123_4 < (l0_6.length : Int)) = false := decide_eq_false c97
           clear c97
           by_cases c111 : x4_4 = true
           ·subst c111
            have H1 : (some 0) = some r := by rw [if_pos rfl] at H; exact H
            clear H
            have H := H1
            clear H1
            obtain rfl := Option.some.inj H
            go_wp2
            go_ret
            exact ⟨by first|rfl|(simp [errW_none, errW_some] <;> rfl)|(simp [*, errW_none, errW_some] <;> rfl), by repeat (first|(with_reducible first|exact HB.out|apply lA|apply lN|apply lD|refine lS ?_ GE187.out|refine lS ?_ GE188.out)|exact HB.out)⟩
           ·replace c111 := Bool.eq_false_iff.mpr c111
            subst c111
            have H1 : (some 1) = some r := by rw [if_neg (show ¬ (false = true) by decide)] at H; exact H
            clear H
            have H := H1
            clear H1
            obtain rfl := Option.some.inj H
            go_wp2
            go_ret
            exact ⟨by first|rfl|(simp [errW_none, errW_some] <;> rfl)|(simp [*, errW_none, errW_some] <;> rfl), by repeat (first|(with_reducible first|exact HB.out|apply lA|apply lN|apply lD|refine lS ?_ GE187.out|refine lS ?_ GE188.out)|exact HB.out)⟩
/-- copy(out[at:], x), out a row of the call's own of elements of whatever size. -/
theorem step_tokens.copy {P : Program} {w : World} {ops : Array Oper} {rest : List Oper} {o : Oper} {a : Act} {Q : Exit → Act → World → Prop} (hgd : o.guard = none) (d s : Operand) (dT sT : TypeId)
  (ho : o.op = .call { callee := .builtin .copy, args := #[d, s], argTypes := #[dT, sT] }) (elem : TypeId) (size : Nat) (hu : P.underlying dT = some (.slice elem)) (hsz : (P.info? elem).map (·.size) = some size) (hs0 : 0 < size)
  (dp sp : Option Addr) (dLen dCap sLen sCap : Nat) (hd : a.eval d = .slice dp dLen dCap) (hs : a.eval s = .slice sp sLen sCap)
  (g off : Nat) (cur : List Value) (t : TypeId) (hg : w.heap[g]? = some (.cells cur.toArray t (0, 0))) (cs : List Value) (hm : sLen ≤ dLen) (hcs : cs.length = sLen * size)
  (hpos : 0 < sLen → dp = some ⟨g, off, none⟩ ∧ ∃ ad, sp = some ad ∧ ∀ j v, cs[j]? = some v → w.cell? (ad.add j) = some v)
  (hfit : off + cs.length ≤ cur.length) (h1 : ∀ v ∈ cs, v.oneCell' = true) (B : Nat) (w0 : World) (hb : Below B w0 w) (hBg : B ≤ g)
  (h : ∀ w', w'.heap[g]? = some (.cells (cur.take off ++ (cs ++ cur.drop (off + cs.length))).toArray t (0, 0)) → Below B w0 w' → wpList P ops Q rest (a.put o.dst (.int .i64 (sLen : Int))) w') :
  wpList P ops Q (o :: rest) a w := by
 refine wpList_plain hgd fun K hK => ?_
 cases hq : P.info? elem with
|none => rw [hq] at hsz; cases hsz
|some i =>
  have hi : i.size = size := by rw [hq] at hsz; simpa using hsz
  by_cases h0 : sLen = 0
  ·subst h0
   have hc0 : cs = [] := List.eq_nil_of_length_eq_zero (by simpa using hcs)
   subst hc0
   have hrun : (Builtin.copy_ #[dT, sT] o.type #[.slice dp dLen dCap, .slice sp 0 sCap]).run P w = .ok (.int .i64 ((0 : Nat) : Int)) w := by
    have hl : ∀ ad : Addr, (loadCells ad 0).run P w = .ok #[] w := fun ad => by
     have := run_loadCells_list (P := P) w ad [] (fun j v hj => by simp at hj)
     simpa using this
    cases dp <;> cases sp <;> simp [Builtin.copy_, run_underlying hu, Builtin.lenOf, Builtin.firstCells, sizeOf, typeInfo, hq, hl, storeCells, goInt]
   unfold Oper.wp
   simp [execOp, ho, resolve, invoke, builtin, hd, hs, hrun, Result.andThen]
   exact hK _ _ (h w (by simpa using hg) hb)
  ·obtain ⟨rfl, ad, rfl, hsrc⟩ := hpos (by omega)
   have hst := run_storeCells_at P g off t cs 0 cur.toArray w hg (by simpa using hfit) h1
   have hfc := run_firstCells_some (P := P) w size sLen ad sLen sCap cs hcs hsrc
   have hmin : Nat.min sLen dLen = sLen := Nat.min_eq_left hm
   have hrun : (Builtin.copy_ #[dT, sT] o.type #[.slice (some ⟨g, off, none⟩) dLen dCap, .slice (some ad) sLen sCap]).run P w = .ok (.int .i64 (sLen : Int)) (w.setRow g (cur.toArray.toList.take (off + 0) ++ cs ++ cur.toArray.toList.drop (off + 0 + cs.length)).toArray) := by
    simp only [Nat.add_zero] at hst ⊢
    simp [Builtin.copy_, run_underlying hu, Builtin.lenOf, sizeOf, typeInfo, hq, hi, hmin, hfc, hst, goInt]
   unfold Oper.wp
   simp [execOp, ho, resolve, invoke, builtin, hd, hs, hrun, Result.andThen]
   refine hK _ _ (h _ ?_ (below_setRow hb hBg _))
   simpa using setRow_heap w g _ _ t _ hg
def step_tokens.f (l0 : List (List S48)) : Option (List S48) := if l0.flatten.length < 4398046511104 then some l0.flatten else none
theorem step_tokens.get (xs : List (List S48)) (i : Nat) (h : i < xs.length) : rd_L2 xs (i : Int) = xs[i] := by simp [rd_L2, List.getD_eq_getElem?_getD, List.getElem?_eq_getElem h]
/-- How many elements the first i lists have. -/
def step_tokens.S (xs : List (List S48)) (i : Nat) : Nat := (xs.take i).flatten.length
theorem step_tokens.sum_succ (xs : List (List S48)) (i : Nat) (h : i < xs.length) : (xs.take (i + 1)).flatten = (xs.take i).flatten ++ rd_L2 xs (i : Int) := by
 rw [List.take_succ_eq_append_getElem h, List.flatten_append, step_tokens.get xs i h]
 simp
theorem step_tokens.sum_le (xs : List (List S48)) (i : Nat) : (xs.take i).flatten.length ≤ xs.flatten.length := by
 conv => rhs; rw [← List.take_append_drop i xs, List.flatten_append, List.length_append]
 omega
theorem step_tokens.w64 {n : Int} (h : -9223372036854775808 ≤ n ∧ n ≤ 9223372036854775807) : wrap64 n = n := by unfold wrap64; omega
def step_tokens.P57 (x : S48) (cs : List Value) : Prop := cs = [.int .i64 x.f0, .int .i64 x.f1, .int .i64 x.f2, .int .i64 x.f3]
/-- The first i lists lie in the row. -/
def step_tokens.Laid (w : World) (g cap : Nat) (l0 : List (List S48)) (i : Nat) : Prop := ∃ cells : List Value, w.heap[g]? = some (.cells cells.toArray 48 (0, 0)) ∧ cells.length = cap * 4 ∧ Reps step_tokens.P57 4 (l0.take i).flatten (cells.take (step_tokens.S l0 i * 4))
theorem step_tokens.row {w : World} {A : Option Addr} {xs : List S48} (h : k48.C w A xs.length xs) : ∃ cs : List Value, cs.length = xs.length * 4 ∧ Reps step_tokens.P57 4 xs cs ∧ (0 < xs.length → ∃ ad, A = some ad ∧ ∀ j v, cs[j]? = some v → w.cell? (ad.add j) = some v) := by
 rcases Nat.eq_zero_or_pos xs.length with h0|h0
 ·obtain rfl : xs = [] := List.eq_nil_of_length_eq_zero h0
  exact ⟨[], rfl, Reps.none _ _, fun h => by simp at h⟩
 ·obtain ⟨ad, rfl, _⟩ := h.2.2 h0
  obtain ⟨inner, hr, hc⟩ := ReadsRow.inner_ h
  have hr' : Reps step_tokens.P57 4 xs inner := Reps.imp_ hr (fun p c hp => k48_open hp)
  exact ⟨inner, hr'.1, hr', fun _ => ⟨ad, rfl, hc⟩⟩
theorem step_tokens.S_zero (xs : List (List S48)) : step_tokens.S xs 0 = 0 := by simp [step_tokens.S]
theorem step_tokens.S_all (xs : List (List S48)) : step_tokens.S xs xs.length = xs.flatten.length := by unfold step_tokens.S; rw [List.take_length]
theorem step_tokens.laid_next {w' : World} {g cap : Nat} {l0 : List (List S48)} {i : Nat} (hlt : i < l0.length) {cells cs : List Value} (hcl : cells.length = cap * 4) (hdone : Reps step_tokens.P57 4 (l0.take i).flatten (cells.take (step_tokens.S l0 i * 4))) (hrep : Reps step_tokens.P57 4 (rd_L2 l0 (i : Int)) cs)
  (hfit : step_tokens.S l0 (i + 1) ≤ cap) (hg : w'.heap[g]? = some (.cells (cells.take (step_tokens.S l0 i * 4) ++ (cs ++ cells.drop (step_tokens.S l0 i * 4 + cs.length))).toArray 48 (0, 0))) : step_tokens.Laid w' g cap l0 (i + 1) := by
 have h1 := step_tokens.sum_succ l0 i hlt
 have h6 : step_tokens.S l0 (i + 1) = step_tokens.S l0 i + (rd_L2 l0 (i : Int)).length := by unfold step_tokens.S; rw [h1, List.length_append]
 have hcs := hrep.1
 have hlt2 : (cells.take (step_tokens.S l0 i * 4)).length = step_tokens.S l0 i * 4 := by rw [List.length_take]; omega
 refine ⟨_, hg, ?_, ?_⟩
 ·rw [List.length_append, List.length_append, List.length_drop, hlt2]; omega
 ·have e : (cells.take (step_tokens.S l0 i * 4) ++ (cs ++ cells.drop (step_tokens.S l0 i * 4 + cs.length))).take (step_tokens.S l0 (i + 1) * 4) = cells.take (step_tokens.S l0 i * 4) ++ cs := by
   rw [← List.append_assoc, List.take_append_of_le_length (by rw [List.length_append, hlt2]; omega)]
   exact List.take_of_length_le (by rw [List.length_append, hlt2]; omega)
  rw [e, h1]
  exact Kd.reps_append hdone hrep
theorem step_tokens.made {w : World} {base g cap N : Nat} {cells : List Value} {F : List S48} (hg : w.heap[g]? = some (.cells cells.toArray 48 (0, 0))) (hcl : cells.length = cap * 4) (hdone : Reps step_tokens.P57 4 F (cells.take (N * 4))) (hlen : F.length = N) (hn : N ≤ cap) (hm : cap ≤ maxLen) (hb : base ≤ g) :
  Kd.R k48 48 w base (fun _ => True) (.slice (some ⟨g, 0, none⟩) N cap) F := by
 subst hlen
 refine ⟨fun _ _ => trivial, cells.take (F.length * 4), ⟨?_, .inr ⟨g, cap, cells.toArray, rfl, hb, hg, hn, hm, ?_, rfl⟩⟩, Reps.imp_ hdone (fun p c hp => by rw [show c = _ from hp]; exact k48_mkM _ _ _ _)⟩
 ·show (cells.take (F.length * 4)).length = F.length * 4
  rw [List.length_take]; omega
 ·show cells.toArray.size = cap * 4
  simpa using hcl
set_option maxRecDepth 100000 in
set_option maxHeartbeats 8000000 in
theorem step_tokens.calls (A0 : Option Addr) (c0 : Nat) (l0 : List (List S48)) (r : List S48) (w : World) (hr0 : Kd.C (Kd.slice 48 k48) w A0 l0.length l0) (hc0 : l0.length ≤ c0) (h : step_tokens.f l0 = some r) :
  Calls Tryd.prog 52 #[.slice A0 l0.length c0] w fun e w' => ∃ v0_ : Value, e = .returned v0_ ∧ Kd.R k48 48 w' w.heap.size (fun _ => True) v0_ r ∧ Below w.heap.size w w' := by
 unfold step_tokens.f at h
 by_cases hsm : l0.flatten.length < 4398046511104
 case neg => rw [if_neg hsm] at h; cases h
 rw [if_pos hsm] at h
 obtain rfl := Option.some.inj h
 clear h hc0
 have HR0 := aM hr0
 have HL := aM hr0.2.1
 obtain ⟨N, hN⟩ : ∃ N, N = l0.flatten.length := ⟨_, rfl⟩
 obtain ⟨F, hF⟩ : ∃ F, F = l0.flatten := ⟨_, rfl⟩
 rw [← hN] at hsm
 rw [← hF]
 have SM := aM hsm
 have HN := aM hN
 have HF := aM hF
 clear hr0 hsm hN hF
 go_enter Tryd.func52, Tryd.ntmps52
 go_wp2
 go_loopw [3, 12] (fun v3 v12 wr => ∃ i : Nat, v12 = .int .i64 (i : Int) ∧ v3 = .int .i64 (step_tokens.S l0 i : Int) ∧ Aside0 (i ≤ l0.length) ∧ Aside0 (Below w.heap.size w wr)) (fun _ v12 _ => l0.length - (intOf v12).toNat)
 case atStart => exact ⟨0, rfl, by simp [step_tokens.S], ⟨Nat.zero_le _⟩, ⟨Below.refl _ _⟩⟩
 case round =>
  obtain ⟨i, rfl, rfl, HI, HB⟩ := hrel
  by_cases hlt : i < l0.length
  ·have hc : ((i : Nat) : Int) < (l0.length : Int) := by omega
   have hc2 : (0 : Int) ≤ ((i : Nat) : Int) := by omega
   obtain ⟨ad, A1, c1, e_, hx, hl, hk⟩ := at_L2 HR0.out ((i : Nat) : Int) hc2 hc
   cases e_
   rw [Int.toNat_natCast] at hx
   replace hx := (HB.out.cell (World.block_lt_of_cell? w _ hx)).trans hx
   have LT := aM hlt
   clear hl hk hlt
   go_wp2
   go_roundw
   case rel =>
    have h1 := step_tokens.sum_succ l0 i LT.out
    have h2 := step_tokens.sum_le l0 (i + 1)
    rw [← HN.out] at h2
    have h3 := SM.out
    have h4 := HL.out
    have h5 := LT.out
    have h6 : step_tokens.S l0 (i + 1) = step_tokens.S l0 i + (rd_L2 l0 (i : Int)).length := by unfold step_tokens.S; rw [h1, List.length_append]
    have h7 : step_tokens.S l0 (i + 1) ≤ N := h2
    refine ⟨i + 1, ?_, ?_, ⟨by omega⟩, HB⟩
    ·rw [step_tokens.w64 (by omega)]; rfl
    ·rw [h6, step_tokens.w64 (by omega)]; rfl
   case measure =>
    have h4 := HL.out
    have h5 := LT.out
    rw [step_tokens.w64 (by omega)]
    simp [intOf]
    omega
  ·obtain rfl : i = l0.length := by have := HI.out; omega
   clear HI hlt
   rw [show step_tokens.S l0 l0.length = N from (step_tokens.S_all l0).trans HN.out.symm]
   go_wp2_with (at_make; refine Kd.R_make k48 (w0 := w) w.heap.size 48 rfl rfl 22 (.tmp 21) (.tmp 21) rfl ((N : Nat) : Int) rfl rfl Tryd.underlying22 (.agg #[(.int .i64 0), (.int .i64 0), (.int .i64 0), (.int .i64 0)]) 32 info48 rfl (by decide) (by omega) (⟨0, 0, 0, 0⟩ : S48) (ok := fun _ => True) (okp := fun _ => False) (k48_mkM _ _ _ _) (fun _ h => h.elim) trivial (by omega) (by have := SM.out; omega) HB.out HB.out.size ?_; intro v1 w1 hR hb1 hg1 hat; obtain ⟨h0_, inner, hown, hr⟩ := hR; obtain ⟨b_, hb_, hle_⟩ := hat; obtain ⟨g, cap, cur, rfl, hbg, hh, hnc, hcm, hcs, htk⟩ := hown.2.resolve_left (fun h => by rw [h.1] at hb_; simp [Value.ownBlock] at hb_); rw [List.length_replicate, Int.toNat_natCast] at hnc htk; have HB1 := aM hb1; have HH := aM hh; have HBG := aM hbg; have HNC := aM hnc; have HCM := aM hcm; have HCS := aM (show cur.size = cap * 4 from hcs); clear h0_ hown hr hb_ hle_ hb1 hg1 hh hbg hnc hcm hcs htk)
   go_loopw [7, 25] (fun v7 v25 wr => ∃ i : Nat, v25 = .int .i64 (i : Int) ∧ v7 = .int .i64 (step_tokens.S l0 i : Int) ∧ Aside0 (i ≤ l0.length) ∧ Aside0 (Below w.heap.size w wr) ∧ Aside0 (step_tokens.Laid wr g cap l0 i)) (fun _ v25 _ => l0.length - (intOf v25).toNat)
   case atStart => exact ⟨0, rfl, by rw [step_tokens.S_zero]; rfl, ⟨Nat.zero_le _⟩, HB1, ⟨⟨cur.toList, by simpa using HH.out, by simpa using HCS.out, by rw [step_tokens.S_zero, Nat.zero_mul]; exact Reps.none _ _⟩⟩⟩
   case round =>
    clear HB1 HH HB
    obtain ⟨i, rfl, rfl, HI, HB, HLD⟩ := hrel
    by_cases hlt : i < l0.length
    ·have hc : ((i : Nat) : Int) < (l0.length : Int) := by omega
     have hc2 : (0 : Int) ≤ ((i : Nat) : Int) := by omega
     obtain ⟨ad, A1, c1, e_, hx, hl, hk⟩ := at_L2 HR0.out ((i : Nat) : Int) hc2 hc
     cases e_
     rw [Int.toNat_natCast] at hx
     replace hx := (HB.out.cell (World.block_lt_of_cell? w _ hx)).trans hx
     obtain ⟨cs, hcs, hrep, hsrc⟩ := step_tokens.row (Kd.C_below hk HB.out)
     obtain ⟨cells, hg, hcl, hdone⟩ := HLD.out
     have h1 := step_tokens.sum_succ l0 i hlt
     have h2 := step_tokens.sum_le l0 (i + 1)
     rw [← HN.out] at h2
     have h6 : step_tokens.S l0 (i + 1) = step_tokens.S l0 i + (rd_L2 l0 (i : Int)).length := by unfold step_tokens.S; rw [h1, List.length_append]
     have h7 : step_tokens.S l0 (i + 1) ≤ N := h2
     have h8 := SM.out
     have h9 := HNC.out
     generalize hsi : step_tokens.S l0 i = si at *
     generalize hm : (rd_L2 l0 (i : Int)).length = m at *
     have hb1 : (0 : Int) ≤ (si : Int) := by omega
     have hb2 : (si : Int) ≤ (N : Int) := by omega
     have hb3 : (si : Int) ≤ (cap : Int) := by omega
     have hb4 : si ≤ N := by omega
     have hb5 : si ≤ cap := by omega
     have hb6 : N ≤ cap := h9
     have LT := aM hlt
     have G := aM (And.intro hcs (And.intro hrep (And.intro hsrc (And.intro hg (And.intro hcl (And.intro hdone (And.intro h6 (And.intro h7 h8))))))))
     clear hl hk hlt hcs hrep hsrc hg hcl hdone h1 h2 h6 h7 h8 h9 HLD
     rcases Nat.eq_or_lt_of_le hb5 with hsc|hsc
     ·subst hsc
      go_wp2_with ((with_reducible refine gate_builtin (b := .copy) (xs := #[.tmp 32, .tmp 33]) rfl ?_); obtain ⟨q1, q2, q3, q4, q5, q6, q7, q8, q9⟩ := G.out; refine step_tokens.copy rfl (.tmp 32) (.tmp 33) 22 22 rfl 48 4 Tryd.underlying22 (by kernel_rfl) (by omega) _ _ _ _ _ _ rfl rfl g (si * 4) cells 48 q4 cs (by first|omega|(simp; omega)) q1 ?cpos (by omega) ?cone w.heap.size w HB.out HBG.out ?_; (case cpos => intro hp; exact ⟨by first|rfl|(exfalso; omega)|(simp; omega), q3 hp⟩); (case cone => intro v hv; exact Kd.reps_one q2 (by omega) (fun p c hp u hu => by rw [hp] at hu; simp at hu; rcases hu with rfl|rfl|rfl|rfl <;> rfl) v hv); intro w3 hg3 hb3_; have HG3 := aM hg3; have HB3 := aM hb3_; clear hg3 hb3_ q1 q2 q3 q4 q5 q6 q7 q8 q9)
      go_roundw
      case rel =>
       obtain ⟨q1, q2, q3, q4, q5, q6, q7, q8, q9⟩ := G.out
       have h4 := HL.out
       have h5 := LT.out
       refine ⟨i + 1, ?_, ?_, ⟨by omega⟩, HB3, ⟨step_tokens.laid_next h5 q5 (by rw [hsi]; exact q6) q2 (by omega) (by rw [hsi]; exact HG3.out)⟩⟩
       ·rw [step_tokens.w64 (by omega)]; rfl
       ·rw [q7, step_tokens.w64 (by omega)]; rfl
      case measure =>
       have h4 := HL.out
       have h5 := LT.out
       rw [step_tokens.w64 (by omega)]
       simp [intOf]
       omega
     ·have hsc1 : ¬ (cap = si) := by omega
      have hsc2 : ¬ (si = cap) := by omega
      go_wp2_with ((with_reducible refine gate_builtin (b := .copy) (xs := #[.tmp 32, .tmp 33]) rfl ?_); obtain ⟨q1, q2, q3, q4, q5, q6, q7, q8, q9⟩ := G.out; refine step_tokens.copy rfl (.tmp 32) (.tmp 33) 22 22 rfl 48 4 Tryd.underlying22 (by kernel_rfl) (by omega) _ _ _ _ _ _ rfl rfl g (si * 4) cells 48 q4 cs (by first|omega|(simp; omega)) q1 ?cpos (by omega) ?cone w.heap.size w HB.out HBG.out ?_; (case cpos => intro hp; exact ⟨by first|rfl|(exfalso; omega)|(simp; omega), q3 hp⟩); (case cone => intro v hv; exact Kd.reps_one q2 (by omega) (fun p c hp u hu => by rw [hp] at hu; simp at hu; rcases hu with rfl|rfl|rfl|rfl <;> rfl) v hv); intro w3 hg3 hb3_; have HG3 := aM hg3; have HB3 := aM hb3_; clear hg3 hb3_ q1 q2 q3 q4 q5 q6 q7 q8 q9)
      go_roundw
      case rel =>
       obtain ⟨q1, q2, q3, q4, q5, q6, q7, q8, q9⟩ := G.out
       have h4 := HL.out
       have h5 := LT.out
       refine ⟨i + 1, ?_, ?_, ⟨by omega⟩, HB3, ⟨step_tokens.laid_next h5 q5 (by rw [hsi]; exact q6) q2 (by omega) (by rw [hsi]; exact HG3.out)⟩⟩
       ·rw [step_tokens.w64 (by omega)]; rfl
       ·rw [q7, step_tokens.w64 (by omega)]; rfl
      case measure =>
       have h4 := HL.out
       have h5 := LT.out
       rw [step_tokens.w64 (by omega)]
       simp [intOf]
       omega
    ·obtain rfl : i = l0.length := by have := HI.out; omega
     clear HI hlt
     go_wp2
     go_ret
     obtain ⟨cells, hg, hcl, hdone⟩ := HLD.out
     rw [List.take_length] at hdone
     have h1 : step_tokens.S l0 l0.length = N := (step_tokens.S_all l0).trans HN.out.symm
     rw [h1] at hdone
     have hlen : F.length = N := by rw [HF.out, HN.out]
     rw [← HF.out] at hdone
     have hfin := step_tokens.made (base := w.heap.size) hg hcl hdone hlen HNC.out HCM.out HBG.out
     exact ⟨_, rfl, hfin, HB.out⟩
def mark_Add.f (k : Nat) (a0 : Int) (a1 : Int) : Option (Int × Int) := (mark_may.f k a0 a1).bind fun t198 => (if t198 = 0 then (if a0 = 4 then (some (4, 0)) else (if a1 = 4 then (some (4, 0)) else (some (Go.bits .or .i64 a0 a1, 0)))) else (some (0, t198)))
theorem mark_Add.mono : ∀ a0 a1 k, LeO (mark_Add.f k a0 a1) (mark_Add.f (k + 1) a0 a1) := by
 intro a0 a1 k
 unfold mark_Add.f
 repeat' first
  |(with_reducible exact mark_may.mono _ _ _)
  |(with_reducible exact LeO.refl _)
  |(with_reducible exact LeO.none _)
  |(with_reducible refine LeO.ite ?_ ?_)
  |(with_reducible refine LeO.bind ?_ (fun _ => ?_))
  |exact mark_may.mono _ _ _
  |exact LeO.none _
  |refine LeO.ite ?_ ?_
  |refine LeO.bind ?_ (fun _ => ?_)
set_option maxHeartbeats 8000000 in
set_option maxRecDepth 100000 in
theorem mark_Add.calls (k : Nat) (a0 : Int) (a1 : Int) (r1 : Int) (r2 : Int) (w : World) (h : mark_Add.f k a0 a1 = some (r1, r2)) :
  Calls Tryd.prog 53 #[.int .i64 a0, .int .i64 a1] w fun e w' => e = .returned (.tuple #[.int .i64 r1, .int .i64 r2]) ∧ Drawn0 w w' := by
 have H : ((mark_may.f k a0 a1).bind fun t198 => (if t198 = 0 then (if a0 = 4 then (some (4, 0)) else (if a1 = 4 then (some (4, 0)) else (some (Go.bits .or .i64 a0 a1, 0)))) else (some (0, t198)))) = some (r1, r2) := h
 clear h
 replace H := Option.bind_eq_some_iff.mp H
 obtain ⟨t198, A30, H⟩ := H
 replace H : (if t198 = 0 then (if a0 = 4 then (some (4, 0)) else (if a1 = 4 then (some (4, 0)) else (some (Go.bits .or .i64 a0 a1, 0)))) else (some (0, t198))) = some (r1, r2) := H
 have A3 := aM A30
 clear A30
 by_cases c4 : t198 = 0
 ·rw [if_pos c4] at H
  have c4b0 : (t198 == 0) = true := beq_iff_eq.mpr c4
  have c4b1 : (t198 != 0) = false := bne_eq_false_iff_eq.mpr c4
  clear c4
  by_cases c5 : a0 = 4
  ·rw [if_pos c5] at H
   have c5b0 : (a0 == 4) = true := beq_iff_eq.mpr c5
   have c5b1 : (a0 != 4) = false := bne_eq_false_iff_eq.mpr c5
   clear c5
   simp only [Option.some.injEq, Prod.mk.injEq] at H
   obtain ⟨rfl, rfl⟩ := H
   go_enter Tryd.func53, Tryd.ntmps53
   go_wp2_with (first|((with_reducible refine gate_callee (f := 58) rfl ?_); refine goesL_ (some 9) rfl rfl Tryd.func58 (by kernel_rfl) rfl #[.int .i64 a0, .int .i64 a1] rfl (by (try simp only [List.map_toArray, List.map_cons, List.map_nil]); first|done|rfl|(simp only [List.length_drop, List.length_take]; rfl)) ?_; (with_reducible refine (mark_may.calls k a0 a1 t198 _ A3.out).mono ?_); rintro e w' ⟨rfl, ⟨nd, rfl⟩⟩; refine ⟨_, rfl, ?_⟩))
   go_ret2
   exact ⟨by first|rfl|(simp; done)|(simp [*]; done), by repeat (first|exact Drawn0.refl _|apply Drawn0.step)⟩
  ·rw [if_neg c5] at H
   have c5b0 : (a0 == 4) = false := beq_eq_false_iff_ne.mpr c5
   have c5b1 : (a0 != 4) = true := bne_iff_ne.mpr c5
   by_cases c6 : a1 = 4
   ·rw [if_pos c6] at H
    have c6b0 : (a1 == 4) = true := beq_iff_eq.mpr c6
    have c6b1 : (a1 != 4) = false := bne_eq_false_iff_eq.mpr c6
    clear c6
    simp only [Option.some.injEq, Prod.mk.injEq] at H
    obtain ⟨rfl, rfl⟩ := H
    go_enter Tryd.func53, Tryd.ntmps53
    go_wp2_with (first|((with_reducible refine gate_callee (f := 58) rfl ?_); refine goesL_ (some 9) rfl rfl Tryd.func58 (by kernel_rfl) rfl #[.int .i64 a0, .int .i64 a1] rfl (by (try simp only [List.map_toArray, List.map_cons, List.map_nil]); first|done|rfl|(simp only [List.length_drop, List.length_take]; rfl)) ?_; (with_reducible refine (mark_may.calls k a0 a1 t198 _ A3.out).mono ?_); rintro e w' ⟨rfl, ⟨nd, rfl⟩⟩; refine ⟨_, rfl, ?_⟩))
    go_ret2
    exact ⟨by first|rfl|(simp; done)|(simp [*]; done), by repeat (first|exact Drawn0.refl _|apply Drawn0.step)⟩
   ·rw [if_neg c6] at H
    have c6b0 : (a1 == 4) = false := beq_eq_false_iff_ne.mpr c6
    have c6b1 : (a1 != 4) = true := bne_iff_ne.mpr c6
    simp only [Option.some.injEq, Prod.mk.injEq] at H
    obtain ⟨rfl, rfl⟩ := H
    go_enter Tryd.func53, Tryd.ntmps53
    go_wp2_with (first|((with_reducible refine gate_callee (f := 58) rfl ?_); refine goesL_ (some 9) rfl rfl Tryd.func58 (by kernel_rfl) rfl #[.int .i64 a0, .int .i64 a1] rfl (by (try simp only [List.map_toArray, List.map_cons, List.map_nil]); first|done|rfl|(simp only [List.length_drop, List.length_take]; rfl)) ?_; (with_reducible refine (mark_may.calls k a0 a1 t198 _ A3.out).mono ?_); rintro e w' ⟨rfl, ⟨nd, rfl⟩⟩; refine ⟨_, rfl, ?_⟩))
    go_ret2
    exact ⟨by first|rfl|(simp; done)|(simp [*]; done), by repeat (first|exact Drawn0.refl _|apply Drawn0.step)⟩
 ·rw [if_neg c4] at H
  have c4b0 : (t198 == 0) = false := beq_eq_false_iff_ne.mpr c4
  have c4b1 : (t198 != 0) = true := bne_iff_ne.mpr c4
  simp only [Option.some.injEq, Prod.mk.injEq] at H
  obtain ⟨rfl, rfl⟩ := H
  go_enter Tryd.func53, Tryd.ntmps53
  go_wp2_with (first|((with_reducible refine gate_callee (f := 58) rfl ?_); refine goesL_ (some 9) rfl rfl Tryd.func58 (by kernel_rfl) rfl #[.int .i64 a0, .int .i64 a1] rfl (by (try simp only [List.map_toArray, List.map_cons, List.map_nil]); first|done|rfl|(simp only [List.length_drop, List.length_take]; rfl)) ?_; (with_reducible refine (mark_may.calls k a0 a1 t198 _ A3.out).mono ?_); rintro e w' ⟨rfl, ⟨nd, rfl⟩⟩; refine ⟨_, rfl, ?_⟩))
  go_ret2
  exact ⟨by first|rfl|(simp; done)|(simp [*]; done), by repeat (first|exact Drawn0.refl _|apply Drawn0.step)⟩
def mark_Take.f (k : Nat) (a0 : Int) (a1 : Int) : Option (Int × Int) := (mark_may.f k a0 a1).bind fun t199 => (if t199 = 0 then (some (Go.bits .andNot .i64 a0 a1, 0)) else (some (0, t199)))
theorem mark_Take.mono : ∀ a0 a1 k, LeO (mark_Take.f k a0 a1) (mark_Take.f (k + 1) a0 a1) := by
 intro a0 a1 k
 unfold mark_Take.f
 repeat' first
  |(with_reducible exact mark_may.mono _ _ _)
  |(with_reducible exact LeO.refl _)
  |(with_reducible exact LeO.none _)
  |(with_reducible refine LeO.ite ?_ ?_)
  |(with_reducible refine LeO.bind ?_ (fun _ => ?_))
  |exact mark_may.mono _ _ _
  |exact LeO.none _
  |refine LeO.ite ?_ ?_
  |refine LeO.bind ?_ (fun _ => ?_)
set_option maxHeartbeats 8000000 in
set_option maxRecDepth 100000 in
theorem mark_Take.calls (k : Nat) (a0 : Int) (a1 : Int) (r1 : Int) (r2 : Int) (w : World) (h : mark_Take.f k a0 a1 = some (r1, r2)) :
  Calls Tryd.prog 54 #[.int .i64 a0, .int .i64 a1] w fun e w' => e = .returned (.tuple #[.int .i64 r1, .int .i64 r2]) ∧ Drawn0 w w' := by
 have H : ((mark_may.f k a0 a1).bind fun t199 => (if t199 = 0 then (some (Go.bits .andNot .i64 a0 a1, 0)) else (some (0, t199)))) = some (r1, r2) := h
 clear h
 replace H := Option.bind_eq_some_iff.mp H
 obtain ⟨t199, A30, H⟩ := H
 replace H : (if t199 = 0 then (some (Go.bits .andNot .i64 a0 a1, 0)) else (some (0, t199))) = some (r1, r2) := H
 have A3 := aM A30
 clear A30
 by_cases c4 : t199 = 0
 ·rw [if_pos c4] at H
  have c4b0 : (t199 == 0) = true := beq_iff_eq.mpr c4
  have c4b1 : (t199 != 0) = false := bne_eq_false_iff_eq.mpr c4
  clear c4
  simp only [Option.some.injEq, Prod.mk.injEq] at H
  obtain ⟨rfl, rfl⟩ := H
  go_enter Tryd.func54, Tryd.ntmps54
  go_wp2_with (first|((with_reducible refine gate_callee (f := 58) rfl ?_); refine goesL_ (some 9) rfl rfl Tryd.func58 (by kernel_rfl) rfl #[.int .i64 a0, .int .i64 a1] rfl (by (try simp only [List.map_toArray, List.map_cons, List.map_nil]); first|done|rfl|(simp only [List.length_drop, List.length_take]; rfl)) ?_; (with_reducible refine (mark_may.calls k a0 a1 t199 _ A3.out).mono ?_); rintro e w' ⟨rfl, ⟨nd, rfl⟩⟩; refine ⟨_, rfl, ?_⟩))
  go_ret2
  exact ⟨by first|rfl|(simp; done)|(simp [*]; done), by repeat (first|exact Drawn0.refl _|apply Drawn0.step)⟩
 ·rw [if_neg c4] at H
  have c4b0 : (t199 == 0) = false := beq_eq_false_iff_ne.mpr c4
  have c4b1 : (t199 != 0) = true := bne_iff_ne.mpr c4
  simp only [Option.some.injEq, Prod.mk.injEq] at H
  obtain ⟨rfl, rfl⟩ := H
  go_enter Tryd.func54, Tryd.ntmps54
  go_wp2_with (first|((with_reducible refine gate_callee (f := 58) rfl ?_); refine goesL_ (some 9) rfl rfl Tryd.func58 (by kernel_rfl) rfl #[.int .i64 a0, .int .i64 a1] rfl (by (try simp only [List.map_toArray, List.map_cons, List.map_nil]); first|done|rfl|(simp only [List.length_drop, List.length_take]; rfl)) ?_; (with_reducible refine (mark_may.calls k a0 a1 t199 _ A3.out).mono ?_); rintro e w' ⟨rfl, ⟨nd, rfl⟩⟩; refine ⟨_, rfl, ?_⟩))
  go_ret2
  exact ⟨by first|rfl|(simp; done)|(simp [*]; done), by repeat (first|exact Drawn0.refl _|apply Drawn0.step)⟩
end Go.Proofs.YtfcfomconcoimaaDoor.PFa
