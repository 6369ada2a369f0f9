-- Written for this claim by a program (the kit's print, with hand-made contracts for what it does not take).
import Derived.Test.YtlngjgcodknpiaaPSax0
import Derived.Test.YtlngjgcodknpiaaPSax14
import Derived.Test.YtlngjgcodknpiaaPSax15
import Derived.Test.YtlngjgcodknpiaaPSax17
import Derived.Test.YtlngjgcodknpiaaPSax20
namespace Go.Proofs.Ytlngjgcodknpiaa.PSa
open Go.RowKit Go.Proofs.YtlngjgcodknpiaaW.PrintWords Go.Proofs.YtlngjgcodknpiaaW.PrintLast Go.Proofs.YtlngjgcodknpiaaW.PrintMore
attribute [local go_sem] max2_int min2_int max_two min_two max_three min_three max_four min_four   -- for this text's walks alone
set_option linter.unusedVariables false
set_option linter.unusedSimpArgs false

/-! ### emenderref09_Invert: function 16 -/
mutual
def emenderref09_Invert.j0 : Nat → List (S57) → List (S57) → Bool → Int → Int → Int → Int → Int → Int → List (S57) → Int → Option (Int × Int × Int × Int × Int × Int × (List (S57)) × Int × Int)
 | 0, _, _, _, _, _, _, _, _, _, _, _ => none
 | k + 1, x0, x6, x29, x353000, x353001, x353002, x353003, x353004, x353005, x353006, x353007 => if x29 = true then ((emenderref09_marked.f k x6 (wrap64 (5 - x353000)) x353001 x353002 0 0 0 ([] : List (S57)) x353007).bind fun t359 => ((emenderref04_Same.f k t359 x0).bind fun t362 => (if t362 = true then (some (wrap64 (5 - x353000), x353001, x353002, 0, 0, 0, ([] : List (S57)), x353007, 0)) else (emenderref09_Invert.j1 k x0 x353000 x353001 x353002 x353003 x353004 x353005 x353006 x353007)))) else (emenderref09_Invert.j1 k x0 x353000 x353001 x353002 x353003 x353004 x353005 x353006 x353007)
def emenderref09_Invert.j1 : Nat → List (S57) → Int → Int → Int → Int → Int → Int → List (S57) → Int → Option (Int × Int × Int × Int × Int × Int × (List (S57)) × Int × Int)
 | 0, _, _, _, _, _, _, _, _, _ => none
 | k + 1, x0, x353000, x353001, x353002, x353003, x353004, x353005, x353006, x353007 => if x353000 = 1 then (if 0 ≤ x353001 then (if x353001 ≤ x353003 then (if x353003 ≤ (x0.length : Int) then (if 0 ≤ x353004 then (if x353004 ≤ x353002 then (if x353002 ≤ (x0.length : Int) then ((emenderref09_join.f k (([((x0.take (x353003 : Int).toNat).drop (x353001 : Int).toNat), ((x0.take (x353002 : Int).toNat).drop (x353004 : Int).toNat)] : List (List (S57))))).bind fun t399 => (some (1, x353001, wrap64 ((wrap64 (x353001 + (x353006.length : Int))) + (wrap64 (x353004 - x353003))), wrap64 (x353001 + x353005), wrap64 ((wrap64 (x353001 + x353005)) + (wrap64 (x353004 - x353003))), wrap64 (x353003 - x353001), t399, 0, 0))) else (none)) else (none)) else (none)) else (none)) else (none)) else (none)) else (if x353000 = 0 then ((some (([] : List (S57)) : List (S57))).bind fun y363 => (if 0 ≤ x353001 then (if x353001 ≤ x353002 then (if x353002 ≤ (x0.length : Int) then ((some ((x0.take (x353002 : Int).toNat).drop (x353001 : Int).toNat : List (S57))).bind fun y366 => (if y363.length + y366.length < 4398046511104 then (some (0, x353001, wrap64 (x353001 + (x353006.length : Int)), 0, 0, 0, (y363 ++ y366), 0, 0)) else (none))) else (none)) else (none)) else (none))) else ((some (([] : List (S57)) : List (S57))).bind fun y374 => (if 0 ≤ x353001 then (if x353001 ≤ x353002 then (if x353002 ≤ (x0.length : Int) then ((some ((x0.take (x353002 : Int).toNat).drop (x353001 : Int).toNat : List (S57))).bind fun y377 => (if y374.length + y377.length < 4398046511104 then (some (0, x353001, wrap64 (x353001 + (wrap64 (x353002 - x353001))), 0, 0, 0, (y374 ++ y377), 0, 0)) else (none))) else (none)) else (none)) else (none))))
end
def emenderref09_Invert.f (k : Nat) (l0 : List (S57)) (a1_0 : Int) (a1_1 : Int) (a1_2 : Int) (a1_3 : Int) (a1_4 : Int) (a1_5 : Int) (l1_6 : List (S57)) (a1_7 : Int) : Option (Int × Int × Int × Int × Int × Int × (List (S57)) × Int × Int) := (emenderref09_Apply.f k l0 a1_0 a1_1 a1_2 a1_3 a1_4 a1_5 l1_6 a1_7).bind fun bt354 => (if bt354.2 = 0 then (if a1_0 = 2 then (emenderref09_Invert.j0 k l0 bt354.1 true a1_0 a1_1 a1_2 a1_3 a1_4 a1_5 l1_6 a1_7) else (emenderref09_Invert.j0 k l0 bt354.1 (a1_0 == 3) a1_0 a1_1 a1_2 a1_3 a1_4 a1_5 l1_6 a1_7)) else (some (0, 0, 0, 0, 0, 0, ([] : List (S57)), 0, bt354.2)))
theorem emenderref09_Invert.mono_l : ∀ k, (∀ y0 y1 y2 y3 y4 y5 y6 y7 y8 y9 y10, LeO (emenderref09_Invert.j0 k y0 y1 y2 y3 y4 y5 y6 y7 y8 y9 y10) (emenderref09_Invert.j0 (k + 1) y0 y1 y2 y3 y4 y5 y6 y7 y8 y9 y10)) ∧ (∀ y0 y1 y2 y3 y4 y5 y6 y7 y8, LeO (emenderref09_Invert.j1 k y0 y1 y2 y3 y4 y5 y6 y7 y8) (emenderref09_Invert.j1 (k + 1) y0 y1 y2 y3 y4 y5 y6 y7 y8))
 | 0 => ⟨fun _ _ _ _ _ _ _ _ _ _ _ r h => by simp [emenderref09_Invert.j0] at h, fun _ _ _ _ _ _ _ _ _ r h => by simp [emenderref09_Invert.j1] at h⟩
 | k + 1 => by
  obtain ⟨ih0, ih1⟩ := emenderref09_Invert.mono_l k
  refine ⟨?_, ?_⟩
  ·intro y0 y1 y2 y3 y4 y5 y6 y7 y8 y9 y10
   unfold emenderref09_Invert.j0
   repeat' first
   | (with_reducible exact ih0 _ _ _ _ _ _ _ _ _ _ _)
   | (with_reducible exact ih1 _ _ _ _ _ _ _ _ _)
   | (with_reducible exact emenderref04_Same.mono _ _ _)
   | (with_reducible exact emenderref09_Apply.mono _ _ _ _ _ _ _ _ _ _)
   | (with_reducible exact emenderref09_join.mono _ _)
   | (with_reducible exact emenderref09_marked.mono _ _ _ _ _ _ _ _ _ _)
   | (with_reducible exact LeO.refl _)
   | (with_reducible exact LeO.none _)
   | (with_reducible refine LeO.ite ?_ ?_)
   | (with_reducible refine LeO.bind ?_ (fun _ => ?_))
   | exact ih0 _ _ _ _ _ _ _ _ _ _ _
   | exact ih1 _ _ _ _ _ _ _ _ _
   | exact emenderref04_Same.mono _ _ _
   | exact emenderref09_Apply.mono _ _ _ _ _ _ _ _ _ _
   | exact emenderref09_join.mono _ _
   | exact emenderref09_marked.mono _ _ _ _ _ _ _ _ _ _
   | exact LeO.none _
   | refine LeO.ite ?_ ?_
   | refine LeO.bind ?_ (fun _ => ?_)
  ·intro y0 y1 y2 y3 y4 y5 y6 y7 y8
   unfold emenderref09_Invert.j1
   repeat' first
   | (with_reducible exact ih0 _ _ _ _ _ _ _ _ _ _ _)
   | (with_reducible exact ih1 _ _ _ _ _ _ _ _ _)
   | (with_reducible exact emenderref04_Same.mono _ _ _)
   | (with_reducible exact emenderref09_Apply.mono _ _ _ _ _ _ _ _ _ _)
   | (with_reducible exact emenderref09_join.mono _ _)
   | (with_reducible exact emenderref09_marked.mono _ _ _ _ _ _ _ _ _ _)
   | (with_reducible exact LeO.refl _)
   | (with_reducible exact LeO.none _)
   | (with_reducible refine LeO.ite ?_ ?_)
   | (with_reducible refine LeO.bind ?_ (fun _ => ?_))
   | exact ih0 _ _ _ _ _ _ _ _ _ _ _
   | exact ih1 _ _ _ _ _ _ _ _ _
   | exact emenderref04_Same.mono _ _ _
   | exact emenderref09_Apply.mono _ _ _ _ _ _ _ _ _ _
   | exact emenderref09_join.mono _ _
   | exact emenderref09_marked.mono _ _ _ _ _ _ _ _ _ _
   | exact LeO.none _
   | refine LeO.ite ?_ ?_
   | refine LeO.bind ?_ (fun _ => ?_)
theorem emenderref09_Invert.mono : ∀ a0 a1 a2 a3 a4 a5 a6 a7 a8 k, LeO (emenderref09_Invert.f k a0 a1 a2 a3 a4 a5 a6 a7 a8) (emenderref09_Invert.f (k + 1) a0 a1 a2 a3 a4 a5 a6 a7 a8) := by
 intro a0 a1 a2 a3 a4 a5 a6 a7 a8 k
 obtain ⟨ih0, ih1⟩ := emenderref09_Invert.mono_l k
 unfold emenderref09_Invert.f
 repeat' first
   | (with_reducible exact ih0 _ _ _ _ _ _ _ _ _ _ _)
   | (with_reducible exact ih1 _ _ _ _ _ _ _ _ _)
   | (with_reducible exact emenderref04_Same.mono _ _ _)
   | (with_reducible exact emenderref09_Apply.mono _ _ _ _ _ _ _ _ _ _)
   | (with_reducible exact emenderref09_join.mono _ _)
   | (with_reducible exact emenderref09_marked.mono _ _ _ _ _ _ _ _ _ _)
   | (with_reducible exact LeO.refl _)
   | (with_reducible exact LeO.none _)
   | (with_reducible refine LeO.ite ?_ ?_)
   | (with_reducible refine LeO.bind ?_ (fun _ => ?_))
   | exact ih0 _ _ _ _ _ _ _ _ _ _ _
   | exact ih1 _ _ _ _ _ _ _ _ _
   | exact emenderref04_Same.mono _ _ _
   | exact emenderref09_Apply.mono _ _ _ _ _ _ _ _ _ _
   | exact emenderref09_join.mono _ _
   | exact emenderref09_marked.mono _ _ _ _ _ _ _ _ _ _
   | exact LeO.none _
   | refine LeO.ite ?_ ?_
   | refine LeO.bind ?_ (fun _ => ?_)
def emenderref09_Invert.T12 : Bool × List (List Nat × List Nat) := (true, [([], []), ([0], [0]), ([], []), ([2], [2]), ([], []), ([3, 4], [3, 4]), ([], []), ([], []), ([], []), ([8], [8]), ([], []), ([10], [10]), ([7, 9, 11], [7, 9, 11]), ([6, 12], [6, 12]), ([1, 5, 13], [1, 5, 13]), ([14, 13, 0, 1, 2, 3, 4, 5, 6, 7, 8, 9, 10, 11, 12, 13, 14], [14]), ([15, 0, 1, 2, 3, 4, 5, 6, 7, 8, 9, 10, 11, 12, 13, 14, 15], [])])
def emenderref09_Invert.B12 : List Nat := [0, 1, 0, 4, 0, 28, 0, 0, 0, 256, 0, 1024, 3968, 8128, 16383, 32767, 65535]
theorem emenderref09_Invert.tab12 : rtab .any (opsOf Try.f16 12) = emenderref09_Invert.T12 := by kernel_rfl
theorem emenderref09_Invert.bits12 : waitsOk emenderref09_Invert.T12.2 emenderref09_Invert.B12 = true := by kernel_rfl
def emenderref09_Invert.T15 : Bool × List (List Nat × List Nat) := (true, [([], []), ([], []), ([1], [1]), ([], []), ([3], [3]), ([0, 2, 4], [0, 2, 4]), ([], []), ([], []), ([7], [7]), ([], []), ([9], [9]), ([6, 8, 10], [6, 8, 10]), ([5, 11], [5, 11]), ([12], [12]), ([0, 1, 2, 3, 4, 5, 6, 7, 8, 9, 10, 11, 12, 13], []), ([14, 13, 13, 0, 1, 2, 3, 4, 5, 6, 7, 8, 9, 10, 11, 12, 13], [13, 14])])
def emenderref09_Invert.B15 : List Nat := [0, 0, 2, 0, 8, 31, 0, 0, 128, 0, 512, 1984, 4095, 8191, 16383, 32767]
theorem emenderref09_Invert.tab15 : rtab .any (opsOf Try.f16 15) = emenderref09_Invert.T15 := by kernel_rfl
theorem emenderref09_Invert.bits15 : waitsOk emenderref09_Invert.T15.2 emenderref09_Invert.B15 = true := by kernel_rfl
set_option maxHeartbeats 8000000 in
set_option maxRecDepth 100000 in
theorem emenderref09_Invert.calls (k : Nat) (P0_ : Nat → Prop) (A0 : Option Addr) (c0 : Nat) (l0 : List (S57)) (a1_0 : Int) (a1_1 : Int) (a1_2 : Int) (a1_3 : Int) (a1_4 : Int) (a1_5 : Int) (A1_6 : Option Addr) (c1_6 : Nat) (l1_6 : List (S57)) (a1_7 : Int) (r1 : Int) (r2 : Int) (r3 : Int) (r4 : Int) (r5 : Int) (r6 : Int) (r7 : List (S57)) (r8 : Int) (r9 : Int) (w : World) (hs0 : Kd.V k57 57 w w.heap.size (fun k_ => P0_ k_) (.slice A0 l0.length c0) l0) (hr1_6 : Kd.C k57 w A1_6 l1_6.length l1_6) (hc1_6 : l1_6.length ≤ c1_6) (h : emenderref09_Invert.f k l0 a1_0 a1_1 a1_2 a1_3 a1_4 a1_5 l1_6 a1_7 = some (r1, r2, r3, r4, r5, r6, r7, r8, r9)) :
  Calls Try.prog 16 #[.slice A0 l0.length c0, .agg #[.int .i64 a1_0, .int .i64 a1_1, .int .i64 a1_2, .int .i64 a1_3, .int .i64 a1_4, .int .i64 a1_5, .slice A1_6 l1_6.length c1_6, .int .i64 a1_7]] w fun e w' => ∃ v6_ : Value, e = .returned (.tuple #[.agg #[.int .i64 r1, .int .i64 r2, .int .i64 r3, .int .i64 r4, .int .i64 r5, .int .i64 r6, v6_, .int .i64 r8], .int .i64 r9]) ∧ Kd.R k57 57 w' w.heap.size (fun k_ => (w.heap.size ≤ k_)) v6_ r7 ∧ Below w.heap.size w w' := by
 have hu24 := Try.underlying24
 have HO0 := aM (show Kd.V k57 57 w w.heap.size (fun k_ => (P0_ k_ ∨ w.heap.size ≤ k_)) (.slice A0 l0.length c0) l0 from Kd.V_mono hs0 (fun k_ hk => .inl hk))
 have HR1_6 := aM hr1_6
 have HC1_6 := aM hc1_6
 clear hr1_6 hc1_6
 have HB := aM (Below.refl w.heap.size w)
 have H : ((emenderref09_Apply.f k l0 a1_0 a1_1 a1_2 a1_3 a1_4 a1_5 l1_6 a1_7).bind fun bt354 => (if bt354.2 = 0 then (if a1_0 = 2 then (emenderref09_Invert.j0 k l0 bt354.1 true a1_0 a1_1 a1_2 a1_3 a1_4 a1_5 l1_6 a1_7) else (emenderref09_Invert.j0 k l0 bt354.1 (a1_0 == 3) a1_0 a1_1 a1_2 a1_3 a1_4 a1_5 l1_6 a1_7)) else (some (0, 0, 0, 0, 0, 0, ([] : List (S57)), 0, bt354.2)))) = some (r1, r2, r3, r4, r5, r6, r7, r8, r9) := h
 clear h
 replace H := Option.bind_eq_some_iff.mp H
 obtain ⟨⟨t354, t357⟩, A30, H⟩ := H
 replace H : (if t357 = 0 then (if a1_0 = 2 then (emenderref09_Invert.j0 k l0 t354 true a1_0 a1_1 a1_2 a1_3 a1_4 a1_5 l1_6 a1_7) else (emenderref09_Invert.j0 k l0 t354 (a1_0 == 3) a1_0 a1_1 a1_2 a1_3 a1_4 a1_5 l1_6 a1_7)) else (some (0, 0, 0, 0, 0, 0, ([] : List (S57)), 0, t357))) = some (r1, r2, r3, r4, r5, r6, r7, r8, r9) := H
 have A3 := aM A30
 clear A30
 by_cases c4 : t357 = 0
 ·rw [if_pos c4] at H
  have c4b0 : (t357 == 0) = true := beq_iff_eq.mpr c4
  have c4b1 : (t357 != 0) = false := bne_eq_false_iff_eq.mpr c4
  clear c4
  have HC5 := aM H
  clear H
  go_enter Try.func16, Try.ntmps16
  go_upto_region 4 with (first | ((with_reducible refine gate_dst (N := 3) rfl ?_); refine box_event ?hg (N := 3) ?hd (cs := #[.int .i64 a1_0, .int .i64 a1_1, .int .i64 a1_2, .int .i64 a1_3, .int .i64 a1_4, .int .i64 a1_5, .slice A1_6 l1_6.length c1_6, .int .i64 a1_7]) (t := 24) ?hr ?_; (case hd => rfl); (case hg => rfl); (case hr => first | (go_simp; done) | (go_simp; rfl)); intro gb352 hg w6 hbox hb; have n0_ := aM (Kd.V_below (Kd.V_elderB (by (with_reducible repeat (first | apply Kd.V_alloc | apply Kd.V_drewN | apply Kd.V_drew)); exact HO0.out) gb352 (Nat.le_of_eq hg.symm)) hb); have n1_ := aM (below_step (by repeat (first|(with_reducible first|exact HB.out|apply lA|apply lN|apply lD)|exact HB.out)) hb); have n2_ := aM (hbox); have n3_ := aM ((by rw [hg]; exact (below_size (by repeat (first|(with_reducible first|exact HB.out|apply lA|apply lN|apply lD)|exact HB.out))) : w.heap.size ≤ gb352)); have n4_ := aM ((by rw [hg]; exact (below_size (by repeat (first|(with_reducible first|exact HB.out|apply lA|apply lN|apply lD)|exact HB.out))) : w.heap.size ≤ gb352)); clear HO0; clear HB; have HO0 := n0_; have HB := n1_; have BK352 := n2_; have GW352 := n3_; have GE352 := n4_; clear n0_ n1_ n2_ n3_ n4_; clear hb hbox hg) | ((with_reducible refine gate_dst (N := 4) rfl ?_); refine box_event ?hg (N := 4) ?hd (cs := #[.int .i64 0, .int .i64 0, .int .i64 0, .int .i64 0, .int .i64 0, .int .i64 0, .slice none 0 0, .int .i64 0]) (t := 24) ?hr ?_; (case hd => rfl); (case hg => rfl); (case hr => first | (go_simp; done) | (go_simp; rfl)); intro gb353 hg w7 hbox hb; have n0_ := aM (Kd.V_below (Kd.V_elderB (by (with_reducible repeat (first | apply Kd.V_alloc | apply Kd.V_drewN | apply Kd.V_drew)); exact HO0.out) gb353 (Nat.le_of_eq hg.symm)) hb); have n1_ := aM (blk_below (by (with_reducible repeat (first|refine bN ?_ _|refine bD ?_|refine bA ?_ _)); exact BK352.out) hb); have n2_ := aM (below_step (by repeat (first|(with_reducible first|exact HB.out|apply lA|apply lN|apply lD|refine lS ?_ GE352.out)|exact HB.out)) hb); have n3_ := aM (hbox); have n4_ := aM ((by rw [hg]; exact (below_size (by repeat (first|(with_reducible first|exact HB.out|apply lA|apply lN|apply lD|refine lS ?_ GE352.out)|exact HB.out))) : w.heap.size ≤ gb353)); have n5_ := aM ((by rw [hg]; exact (below_size (by repeat (first|(with_reducible first|exact HB.out|apply lA|apply lN|apply lD|refine lS ?_ GE352.out)|exact HB.out))) : w.heap.size ≤ gb353)); have n6_ := aM ((by rw [hg]; exact Nat.ne_of_lt (blk_lt (g := gb352) (o := .cells #[.int .i64 a1_0, .int .i64 a1_1, .int .i64 a1_2, .int .i64 a1_3, .int .i64 a1_4, .int .i64 a1_5, .slice A1_6 l1_6.length c1_6, .int .i64 a1_7] 24 (0, 0)) (by (with_reducible repeat (first|refine bN ?_ _|refine bD ?_|refine bA ?_ _)); exact BK352.out)) : gb352 ≠ gb353)); have n7_ := aM ((by rw [hg]; exact Nat.ne_of_gt (blk_lt (g := gb352) (o := .cells #[.int .i64 a1_0, .int .i64 a1_1, .int .i64 a1_2, .int .i64 a1_3, .int .i64 a1_4, .int .i64 a1_5, .slice A1_6 l1_6.length c1_6, .int .i64 a1_7] 24 (0, 0)) (by (with_reducible repeat (first|refine bN ?_ _|refine bD ?_|refine bA ?_ _)); exact BK352.out)) : gb353 ≠ gb352)); clear HO0; clear BK352; clear HB; have HO0 := n0_; have BK352 := n1_; have HB := n2_; have BK353 := n3_; have GW353 := n4_; have GE353 := n5_; have NB352_353 := n6_; have NB353_352 := n7_; clear n0_ n1_ n2_ n3_ n4_ n5_ n6_ n7_; clear hb hbox hg; have hnb8 := NB352_353.out; have hnc8 := NB353_352.out; have hcz9_0 : w7.cell? ⟨gb352, 0, none⟩ = some (.int .i64 a1_0) := (blk_cell BK352.out 0).trans rfl; have hcz9_1 : w7.cell? ⟨gb352, 1, none⟩ = some (.int .i64 a1_1) := (blk_cell BK352.out 1).trans rfl; have hcz9_2 : w7.cell? ⟨gb352, 2, none⟩ = some (.int .i64 a1_2) := (blk_cell BK352.out 2).trans rfl; have hcz9_3 : w7.cell? ⟨gb352, 3, none⟩ = some (.int .i64 a1_3) := (blk_cell BK352.out 3).trans rfl; have hcz9_4 : w7.cell? ⟨gb352, 4, none⟩ = some (.int .i64 a1_4) := (blk_cell BK352.out 4).trans rfl; have hcz9_5 : w7.cell? ⟨gb352, 5, none⟩ = some (.int .i64 a1_5) := (blk_cell BK352.out 5).trans rfl; have hcz9_6 : w7.cell? ⟨gb352, 6, none⟩ = some (.slice A1_6 l1_6.length c1_6) := (blk_cell BK352.out 6).trans rfl; have hcz9_7 : w7.cell? ⟨gb352, 7, none⟩ = some (.int .i64 a1_7) := (blk_cell BK352.out 7).trans rfl; have hfz9_0 := blk_frozen BK352.out 0; have hfz9_1 := blk_frozen BK352.out 1; have hfz9_2 := blk_frozen BK352.out 2; have hfz9_3 := blk_frozen BK352.out 3; have hfz9_4 := blk_frozen BK352.out 4; have hfz9_5 := blk_frozen BK352.out 5; have hfz9_6 := blk_frozen BK352.out 6; have hfz9_7 := blk_frozen BK352.out 7) | ((with_reducible refine gate_callee (f := 14) rfl ?_); refine goesL_ (some 15) rfl rfl Try.func14 (by kernel_rfl) rfl #[.slice A0 l0.length c0, .agg #[.int .i64 a1_0, .int .i64 a1_1, .int .i64 a1_2, .int .i64 a1_3, .int .i64 a1_4, .int .i64 a1_5, .slice A1_6 l1_6.length c1_6, .int .i64 a1_7]] rfl (by (try simp only [List.map_toArray, List.map_cons, List.map_nil]); first | done | rfl | (simp only [List.length_drop, List.length_take]; rfl)) ?_; (with_reducible refine (emenderref09_Apply.calls k _ _ l0 a1_0 a1_1 a1_2 a1_3 a1_4 a1_5 _ _ l1_6 a1_7 t354 t357 _ ?side1 ?side2 ?side3 ?side4 A3.out).mono ?_); (case side1 => repeat (first | exact (Kd.V_reads' HO0.out).2.2 | (with_reducible refine Kd.C_alloc ?_ _) | (with_reducible refine Kd.C_drewN ?_ _) | (with_reducible refine Kd.C_drew ?_))); (case side2 => exact (Kd.V_reads' HO0.out).2.1); (case side3 => repeat (first | exact (Kd.C_below HR1_6.out HB.out) | (with_reducible refine Kd.C_alloc ?_ _) | (with_reducible refine Kd.C_drewN ?_ _) | (with_reducible refine Kd.C_drew ?_))); (case side4 => exact HC1_6.out); rintro e w10 ⟨v355, rfl, ho0, hb⟩; refine ⟨_, rfl, ?_⟩; have n0_ := aM (Kd.V_elder' (by (with_reducible repeat (first | apply Kd.V_alloc | apply Kd.V_drewN | apply Kd.V_drew)); exact HO0.out) (Kd.R_base ho0) hb); have n1_ := aM (Kd.R_lower (Kd.R_newM (M := fun k_ => (w.heap.size ≤ k_)) ho0 (below_size (by repeat (first|(with_reducible first|exact HB.out|apply lA|apply lN|apply lD|refine lS ?_ GE352.out|refine lS ?_ GE353.out)|exact HB.out))) (fun k_ h_ => h_)) (below_size (by repeat (first|(with_reducible first|exact HB.out|apply lA|apply lN|apply lD|refine lS ?_ GE352.out|refine lS ?_ GE353.out)|exact HB.out)))); have n2_ := aM (blk_below (by (with_reducible repeat (first|refine bN ?_ _|refine bD ?_|refine bA ?_ _)); exact BK352.out) hb); have n3_ := aM (blk_below (by (with_reducible repeat (first|refine bN ?_ _|refine bD ?_|refine bA ?_ _)); exact BK353.out) hb); have n4_ := aM (below_step (by repeat (first|(with_reducible first|exact HB.out|apply lA|apply lN|apply lD|refine lS ?_ GE352.out|refine lS ?_ GE353.out)|exact HB.out)) hb); clear HO0; clear BK352; clear BK353; clear HB; have HO0 := n0_; have HO356 := n1_; have BK352 := n2_; have BK353 := n3_; have HB := n4_; clear n0_ n1_ n2_ n3_ n4_; (try clear hb); (try clear hb2); (try clear hk); (try clear hi); (try clear ho0)))
  (try simp only [Act.put, List.setIfInBounds_toArray, List.set_cons_zero, List.set_cons_succ])
  go_cut [29] (fun v29 wc => ∃ (kq : Nat) (x29_4 : Bool), v29 = .bool x29_4 ∧ Aside0 (emenderref09_Invert.j0 kq l0 t354 x29_4 a1_0 a1_1 a1_2 a1_3 a1_4 a1_5 l1_6 a1_7 = some (r1, r2, r3, r4, r5, r6, r7, r8, r9)) ∧ Aside0 (kq ≤ k) ∧ Aside0 (Kd.V k57 57 wc w.heap.size (fun k_ => (P0_ k_ ∨ w.heap.size ≤ k_) ∧ some k_ ≠ (v355 : Value).ownBlock ∧ k_ ≠ gb352 ∧ k_ ≠ gb353) (.slice A0 l0.length c0) l0) ∧ Aside0 (Kd.R k57 57 wc w.heap.size (fun k_ => (w.heap.size ≤ k_)) v355 t354) ∧ Aside0 (wc.heap[gb352]? = some (.cells #[.int .i64 a1_0, .int .i64 a1_1, .int .i64 a1_2, .int .i64 a1_3, .int .i64 a1_4, .int .i64 a1_5, (.slice A1_6 l1_6.length c1_6), .int .i64 a1_7] 24 (0, 0))) ∧ Aside0 (wc.heap[gb353]? = some (.cells #[.int .i64 0, .int .i64 0, .int .i64 0, .int .i64 0, .int .i64 0, .int .i64 0, (.slice none 0 0), .int .i64 0] 24 (0, 0))) ∧ Aside0 (Below w.heap.size w wc))
  case first =>
   have H := HC5.out
   clear HC5
   by_cases c11 : a1_0 = 2
   ·rw [if_pos c11] at H
    have c11b0 : (a1_0 == 2) = true := beq_iff_eq.mpr c11
    have c11b1 : (a1_0 != 2) = false := bne_eq_false_iff_eq.mpr c11
    clear c11
    (first | rw [c11b0] | (simp only [i64_w, i32_w]; rw [c11b0]) | skip)
    have H' := aM H
    clear H
    have hnb12 := NB352_353.out
    have hnc12 := NB353_352.out
    obtain ⟨hcz13_0, hcz13_1, hcz13_2, hcz13_3, hcz13_4, hcz13_5, hcz13_6, hcz13_7, hfz13_0, hfz13_1, hfz13_2, hfz13_3, hfz13_4, hfz13_5, hfz13_6, hfz13_7⟩ := bx8z BK352.out
    go_wp2
    go_meet
    case rel => exact ⟨_, (true), (by first | rfl | (simp; done) | (simp [*]; done)), H', ⟨by first | omega | exact Nat.le_refl _⟩, ⟨by (with_reducible repeat (first | apply Kd.V_alloc | apply Kd.V_drewN | apply Kd.V_drew)); exact Kd.V_mono HO0.out (fun _ hk => ⟨hk.1.1.1, ⟨hk.2, ⟨hk.1.1.2, hk.1.2⟩⟩⟩)⟩, ⟨by (with_reducible repeat (first | apply Kd.R_alloc | apply Kd.R_drewN | apply Kd.R_drew)); exact Kd.R_mono HO356.out (fun _ hk => hk.1)⟩, ⟨by (with_reducible repeat (first|refine bN ?_ _|refine bD ?_|refine bA ?_ _)); exact BK352.out⟩, ⟨by (with_reducible repeat (first|refine bN ?_ _|refine bD ?_|refine bA ?_ _)); exact BK353.out⟩, ⟨by repeat (first|(with_reducible first|exact HB.out|apply lA|apply lN|apply lD|refine lS ?_ GE352.out|refine lS ?_ GE353.out)|exact HB.out)⟩⟩
   ·rw [if_neg c11] at H
    have c11b0 : (a1_0 == 2) = false := beq_eq_false_iff_ne.mpr c11
    have c11b1 : (a1_0 != 2) = true := bne_iff_ne.mpr c11
    (first | rw [c11b0] | (simp only [i64_w, i32_w]; rw [c11b0]) | skip)
    have H' := aM H
    clear H
    have hnb14 := NB352_353.out
    have hnc14 := NB353_352.out
    obtain ⟨hcz15_0, hcz15_1, hcz15_2, hcz15_3, hcz15_4, hcz15_5, hcz15_6, hcz15_7, hfz15_0, hfz15_1, hfz15_2, hfz15_3, hfz15_4, hfz15_5, hfz15_6, hfz15_7⟩ := bx8z BK352.out
    go_wp2
    go_meet
    case rel => exact ⟨_, ((a1_0 == 3)), (by first | rfl | (simp; done) | (simp [*]; done)), H', ⟨by first | omega | exact Nat.le_refl _⟩, ⟨by (with_reducible repeat (first | apply Kd.V_alloc | apply Kd.V_drewN | apply Kd.V_drew)); exact Kd.V_mono HO0.out (fun _ hk => ⟨hk.1.1.1, ⟨hk.2, ⟨hk.1.1.2, hk.1.2⟩⟩⟩)⟩, ⟨by (with_reducible repeat (first | apply Kd.R_alloc | apply Kd.R_drewN | apply Kd.R_drew)); exact Kd.R_mono HO356.out (fun _ hk => hk.1)⟩, ⟨by (with_reducible repeat (first|refine bN ?_ _|refine bD ?_|refine bA ?_ _)); exact BK352.out⟩, ⟨by (with_reducible repeat (first|refine bN ?_ _|refine bD ?_|refine bA ?_ _)); exact BK353.out⟩, ⟨by repeat (first|(with_reducible first|exact HB.out|apply lA|apply lN|apply lD|refine lS ?_ GE352.out|refine lS ?_ GE353.out)|exact HB.out)⟩⟩
  case rest =>
   clear HC5
   obtain ⟨kq, x29_4, rfl, HA, HJ4, HO_0, HO_6, BK352, BK353, HB⟩ := hcut
   cases kq with
   | zero => exact absurd HA.out (by simp [emenderref09_Invert.j0])
   | succ kj4 =>
    have H := HA.out
    clear HA
    simp only [emenderref09_Invert.j0] at H
    have HC16 := aM H
    clear H
    go_upto_if 29 with (fail)
    go_cut [] (fun wc => ∃ (kq : Nat) (x354000_15 : Int) (x354001_15 : Int) (x354002_15 : Int) (x354003_15 : Int) (x354004_15 : Int) (x354005_15 : Int) (x354007_15 : Int), Aside0 (emenderref09_Invert.j1 kq l0 a1_0 a1_1 a1_2 a1_3 a1_4 a1_5 l1_6 a1_7 = some (r1, r2, r3, r4, r5, r6, r7, r8, r9)) ∧ Aside0 (kq ≤ kj4) ∧ Aside0 (Kd.V k57 57 wc w.heap.size (fun k_ => (P0_ k_ ∨ w.heap.size ≤ k_) ∧ k_ ≠ gb352 ∧ k_ ≠ gb353) (.slice A0 l0.length c0) l0) ∧ Aside0 (wc.heap[gb352]? = some (.cells #[.int .i64 a1_0, .int .i64 a1_1, .int .i64 a1_2, .int .i64 a1_3, .int .i64 a1_4, .int .i64 a1_5, (.slice A1_6 l1_6.length c1_6), .int .i64 a1_7] 24 (0, 0))) ∧ Aside0 (wc.heap[gb353]? = some (.cells #[.int .i64 x354000_15, .int .i64 x354001_15, .int .i64 x354002_15, .int .i64 x354003_15, .int .i64 x354004_15, .int .i64 x354005_15, (.slice none 0 0), .int .i64 x354007_15] 24 (0, 0))) ∧ Aside0 (Below w.heap.size w wc))
    case first =>
     have H := HC16.out
     clear HC16
     by_cases c17 : x29_4 = true
     ·subst c17
      have H1 : ((emenderref09_marked.f kj4 t354 (wrap64 (5 - a1_0)) a1_1 a1_2 0 0 0 ([] : List (S57)) a1_7).bind fun t359 => ((emenderref04_Same.f kj4 t359 l0).bind fun t362 => (if t362 = true then (some (wrap64 (5 - a1_0), a1_1, a1_2, 0, 0, 0, ([] : List (S57)), a1_7, 0)) else (emenderref09_Invert.j1 kj4 l0 a1_0 a1_1 a1_2 a1_3 a1_4 a1_5 l1_6 a1_7)))) = some (r1, r2, r3, r4, r5, r6, r7, r8, r9) := by rw [if_pos rfl] at H; exact H
      clear H
      have H := H1
      clear H1
      replace H := Option.bind_eq_some_iff.mp H
      obtain ⟨t359, A180, H⟩ := H
      replace H : ((emenderref04_Same.f kj4 t359 l0).bind fun t362 => (if t362 = true then (some (wrap64 (5 - a1_0), a1_1, a1_2, 0, 0, 0, ([] : List (S57)), a1_7, 0)) else (emenderref09_Invert.j1 kj4 l0 a1_0 a1_1 a1_2 a1_3 a1_4 a1_5 l1_6 a1_7))) = some (r1, r2, r3, r4, r5, r6, r7, r8, r9) := H
      have A18 := aM A180
      clear A180
      replace H := Option.bind_eq_some_iff.mp H
      obtain ⟨t362, A190, H⟩ := H
      replace H : (if t362 = true then (some (wrap64 (5 - a1_0), a1_1, a1_2, 0, 0, 0, ([] : List (S57)), a1_7, 0)) else (emenderref09_Invert.j1 kj4 l0 a1_0 a1_1 a1_2 a1_3 a1_4 a1_5 l1_6 a1_7)) = some (r1, r2, r3, r4, r5, r6, r7, r8, r9) := H
      have A19 := aM A190
      clear A190
      by_cases c20 : t362 = true
      ·subst c20
       have H1 : (some (wrap64 (5 - a1_0), a1_1, a1_2, 0, 0, 0, ([] : List (S57)), a1_7, 0)) = some (r1, r2, r3, r4, r5, r6, r7, r8, r9) := by rw [if_pos rfl] at H; exact H
       clear H
       have H := H1
       clear H1
       simp only [Option.some.injEq, Prod.mk.injEq] at H
       obtain ⟨rfl, rfl, rfl, rfl, rfl, rfl, rfl, rfl, rfl⟩ := H
       have hnb21 := NB352_353.out
       have hnc21 := NB353_352.out
       obtain ⟨hcz22_0, hcz22_1, hcz22_2, hcz22_3, hcz22_4, hcz22_5, hcz22_6, hcz22_7, hfz22_0, hfz22_1, hfz22_2, hfz22_3, hfz22_4, hfz22_5, hfz22_6, hfz22_7⟩ := bx8z BK352.out
       go_wp2_with (first | ((with_reducible refine gate_dst (N := 8) rfl ?_); refine box_event ?hg (N := 8) ?hd (cs := #[.int .i64 0, .int .i64 0, .int .i64 0, .int .i64 0, .int .i64 0, .int .i64 0, .slice none 0 0, .int .i64 0]) (t := 24) ?hr ?_; (case hd => rfl); (case hg => rfl); (case hr => first | (go_simp; done) | (go_simp; rfl)); intro gb358 hg w23 hbox hb; have n0_ := aM (Kd.V_below (Kd.V_elderB (by (with_reducible repeat (first | apply Kd.V_alloc | apply Kd.V_drewN | apply Kd.V_drew)); exact HO_0.out) gb358 (Nat.le_of_eq hg.symm)) hb); have n1_ := aM (Kd.R_below (by (with_reducible repeat (first | apply Kd.R_alloc | apply Kd.R_drewN | apply Kd.R_drew)); exact HO_6.out) hb); have n2_ := aM (blk_below (by (with_reducible repeat (first|refine bN ?_ _|refine bD ?_|refine bA ?_ _)); exact BK352.out) hb); have n3_ := aM (blk_below (by (with_reducible repeat (first|refine bN ?_ _|refine bD ?_|refine bA ?_ _)); exact BK353.out) hb); have n4_ := aM (below_step (by repeat (first|(with_reducible first|exact HB.out|apply lA|apply lN|apply lD|refine lS ?_ GE352.out|refine lS ?_ GE353.out)|exact HB.out)) hb); have n5_ := aM (hbox); have n6_ := aM ((by rw [hg]; exact (below_size (by repeat (first|(with_reducible first|exact HB.out|apply lA|apply lN|apply lD|refine lS ?_ GE352.out|refine lS ?_ GE353.out)|exact HB.out))) : w.heap.size ≤ gb358)); have n7_ := aM ((by rw [hg]; exact (below_size (by repeat (first|(with_reducible first|exact HB.out|apply lA|apply lN|apply lD|refine lS ?_ GE352.out|refine lS ?_ GE353.out)|exact HB.out))) : w.heap.size ≤ gb358)); have n8_ := aM ((by rw [hg]; exact Nat.ne_of_lt (blk_lt (g := gb352) (o := .cells #[.int .i64 a1_0, .int .i64 a1_1, .int .i64 a1_2, .int .i64 a1_3, .int .i64 a1_4, .int .i64 a1_5, .slice A1_6 l1_6.length c1_6, .int .i64 a1_7] 24 (0, 0)) (by (with_reducible repeat (first|refine bN ?_ _|refine bD ?_|refine bA ?_ _)); exact BK352.out)) : gb352 ≠ gb358)); have n9_ := aM ((by rw [hg]; exact Nat.ne_of_gt (blk_lt (g := gb352) (o := .cells #[.int .i64 a1_0, .int .i64 a1_1, .int .i64 a1_2, .int .i64 a1_3, .int .i64 a1_4, .int .i64 a1_5, .slice A1_6 l1_6.length c1_6, .int .i64 a1_7] 24 (0, 0)) (by (with_reducible repeat (first|refine bN ?_ _|refine bD ?_|refine bA ?_ _)); exact BK352.out)) : gb358 ≠ gb352)); have n10_ := aM ((by rw [hg]; exact Nat.ne_of_lt (blk_lt (g := gb353) (o := .cells #[.int .i64 0, .int .i64 0, .int .i64 0, .int .i64 0, .int .i64 0, .int .i64 0, .slice none 0 0, .int .i64 0] 24 (0, 0)) (by (with_reducible repeat (first|refine bN ?_ _|refine bD ?_|refine bA ?_ _)); exact BK353.out)) : gb353 ≠ gb358)); have n11_ := aM ((by rw [hg]; exact Nat.ne_of_gt (blk_lt (g := gb353) (o := .cells #[.int .i64 0, .int .i64 0, .int .i64 0, .int .i64 0, .int .i64 0, .int .i64 0, .slice none 0 0, .int .i64 0] 24 (0, 0)) (by (with_reducible repeat (first|refine bN ?_ _|refine bD ?_|refine bA ?_ _)); exact BK353.out)) : gb358 ≠ gb353)); clear HO_0; clear HO_6; clear BK352; clear BK353; clear HB; have HO_0 := n0_; have HO_6 := n1_; have BK352 := n2_; have BK353 := n3_; have HB := n4_; have BK358 := n5_; have GW358 := n6_; have GE358 := n7_; have NB352_358 := n8_; have NB358_352 := n9_; have NB353_358 := n10_; have NB358_353 := n11_; clear n0_ n1_ n2_ n3_ n4_ n5_ n6_ n7_ n8_ n9_ n10_ n11_; clear hb hbox hg; have hnb24 := NB358_352.out; have hnc24 := NB352_358.out; have hnb25 := NB358_353.out; have hnc25 := NB353_358.out; have hcz26_0 : w23.cell? ⟨gb358, 0, none⟩ = some (.int .i64 0) := (blk_cell BK358.out 0).trans rfl; have hcz26_1 : w23.cell? ⟨gb358, 1, none⟩ = some (.int .i64 0) := (blk_cell BK358.out 1).trans rfl; have hcz26_2 : w23.cell? ⟨gb358, 2, none⟩ = some (.int .i64 0) := (blk_cell BK358.out 2).trans rfl; have hcz26_3 : w23.cell? ⟨gb358, 3, none⟩ = some (.int .i64 0) := (blk_cell BK358.out 3).trans rfl; have hcz26_4 : w23.cell? ⟨gb358, 4, none⟩ = some (.int .i64 0) := (blk_cell BK358.out 4).trans rfl; have hcz26_5 : w23.cell? ⟨gb358, 5, none⟩ = some (.int .i64 0) := (blk_cell BK358.out 5).trans rfl; have hcz26_6 : w23.cell? ⟨gb358, 6, none⟩ = some (.slice none 0 0) := (blk_cell BK358.out 6).trans rfl; have hcz26_7 : w23.cell? ⟨gb358, 7, none⟩ = some (.int .i64 0) := (blk_cell BK358.out 7).trans rfl; have hfz26_0 := blk_frozen BK358.out 0; have hfz26_1 := blk_frozen BK358.out 1; have hfz26_2 := blk_frozen BK358.out 2; have hfz26_3 := blk_frozen BK358.out 3; have hfz26_4 := blk_frozen BK358.out 4; have hfz26_5 := blk_frozen BK358.out 5; have hfz26_6 := blk_frozen BK358.out 6; have hfz26_7 := blk_frozen BK358.out 7; obtain ⟨Ao27, co27, eo27⟩ := Kd.R_slice HO_6.out; subst eo27) | ((with_reducible refine gate_callee (f := 35) rfl ?_); refine goesL_ (some 42) rfl rfl Try.func35 (by kernel_rfl) rfl #[.slice Ao27 t354.length co27, .agg #[.int .i64 (wrap64 (5 - a1_0)), .int .i64 a1_1, .int .i64 a1_2, .int .i64 0, .int .i64 0, .int .i64 0, .slice none 0 0, .int .i64 a1_7]] rfl (by (try simp only [List.map_toArray, List.map_cons, List.map_nil]); first | done | rfl | (simp only [List.length_drop, List.length_take]; rfl)) ?_; (refine (emenderref09_marked.calls kj4 _ _ t354 (wrap64 (5 - a1_0)) a1_1 a1_2 0 0 0 _ _ ([] : List (S57)) a1_7 t359 _ ?side1 ?side2 ?side3 ?side4 A18.out).mono ?_); (case side1 => refine (Kd.R_reads' (e := 57) (base := w.heap.size) (ok := fun k_ => (w.heap.size ≤ k_)) (n := t354.length) (c := co27) ?_).2.2; exact (by (with_reducible repeat (first | apply Kd.R_alloc | apply Kd.R_drewN | apply Kd.R_drew)); exact (Kd.R_mono (Kd.Rf8 (Kd.R_types HO_6.out BK358.out (by decide)) (fun _ hk => hk.2)) (fun _ h_ => h_.1)))); (case side2 => exact (Kd.R_reads' HO_6.out).2.1); (case side3 => exact Kd.C_nil _ _); (case side4 => exact Nat.le_refl _); rintro e w28 ⟨v360, rfl, ho0, hb⟩; refine ⟨_, rfl, ?_⟩; have n0_ := aM (Kd.V_elder' (by (with_reducible repeat (first | apply Kd.V_alloc | apply Kd.V_drewN | apply Kd.V_drew)); exact (Kd.V_mono (Kd.Vf8 (Kd.V_mono HO_0.out (fun k_ hk => (⟨hk, hk.2⟩ : _ ∧ k_ ≠ gb358))) (fun _ hk => hk.2)) (fun _ h_ => h_.1))) (Kd.R_base ho0) hb); have n1_ := aM (Kd.R_elder' (by (with_reducible repeat (first | apply Kd.R_alloc | apply Kd.R_drewN | apply Kd.R_drew)); exact (Kd.R_mono (Kd.Rf8 (Kd.R_types HO_6.out BK358.out (by decide)) (fun _ hk => hk.2)) (fun _ h_ => h_.1))) (Kd.R_base ho0) hb); have n2_ := aM (Kd.R_lower (Kd.R_new' (Kd.R_newM (M := fun k_ => (w.heap.size ≤ k_)) ho0 (below_size (by repeat (first|(with_reducible first|exact HB.out|apply lA|apply lN|apply lD|refine lS ?_ GE352.out|refine lS ?_ GE353.out|refine lS ?_ GE358.out)|exact HB.out))) (fun k_ h_ => h_)) (Kd.R_lt (by (with_reducible repeat (first | apply Kd.R_alloc | apply Kd.R_drewN | apply Kd.R_drew)); exact (Kd.R_mono (Kd.Rf8 (Kd.R_types HO_6.out BK358.out (by decide)) (fun _ hk => hk.2)) (fun _ h_ => h_.1))))) (below_size (by repeat (first|(with_reducible first|exact HB.out|apply lA|apply lN|apply lD|refine lS ?_ GE352.out|refine lS ?_ GE353.out|refine lS ?_ GE358.out)|exact HB.out)))); have n3_ := aM (blk_below (g := gb352) (o := .cells #[.int .i64 a1_0, .int .i64 a1_1, .int .i64 a1_2, .int .i64 a1_3, .int .i64 a1_4, .int .i64 a1_5, .slice A1_6 l1_6.length c1_6, .int .i64 a1_7] 24 (0, 0)) (by (with_reducible repeat (first|refine bN ?_ _|refine bD ?_|refine bA ?_ _)); refine far8 ?_ NB352_358.out; (with_reducible repeat (first|refine bN ?_ _|refine bD ?_|refine bA ?_ _)); exact BK352.out) hb); have n4_ := aM (blk_below (g := gb353) (o := .cells #[.int .i64 0, .int .i64 0, .int .i64 0, .int .i64 0, .int .i64 0, .int .i64 0, .slice none 0 0, .int .i64 0] 24 (0, 0)) (by (with_reducible repeat (first|refine bN ?_ _|refine bD ?_|refine bA ?_ _)); refine far8 ?_ NB353_358.out; (with_reducible repeat (first|refine bN ?_ _|refine bD ?_|refine bA ?_ _)); exact BK353.out) hb); have n5_ := aM (blk_below (g := gb358) (o := .cells #[.int .i64 (wrap64 (5 - a1_0)), .int .i64 a1_1, .int .i64 a1_2, .int .i64 0, .int .i64 0, .int .i64 0, .slice none 0 0, .int .i64 a1_7] 24 (0, 0)) (by (with_reducible repeat (first|refine bN ?_ _|refine bD ?_|refine bA ?_ _)); apply put8; (with_reducible repeat (first|refine bN ?_ _|refine bD ?_|refine bA ?_ _)); exact BK358.out) hb); have n6_ := aM (below_step (by repeat (first|(with_reducible first|exact HB.out|apply lA|apply lN|apply lD|refine lS ?_ GE352.out|refine lS ?_ GE353.out|refine lS ?_ GE358.out)|exact HB.out)) hb); clear HO_0; clear HO_6; clear BK352; clear BK353; clear BK358; clear HB; have HO_0 := n0_; have HO_6 := n1_; have HO361 := n2_; have BK352 := n3_; have BK353 := n4_; have BK358 := n5_; have HB := n6_; clear n0_ n1_ n2_ n3_ n4_ n5_ n6_; (try clear hb); (try clear hb2); (try clear hk); (try clear hi); (try clear ho0); obtain ⟨Ao29, co29, eo29⟩ := Kd.R_slice HO361.out; subst eo29) | ((with_reducible refine gate_callee (f := 34) rfl ?_); refine goesL_ (some 44) rfl rfl Try.func34 (by kernel_rfl) rfl #[.slice Ao29 t359.length co29, .slice A0 l0.length c0] rfl (by (try simp only [List.map_toArray, List.map_cons, List.map_nil]); first | done | rfl | (simp only [List.length_drop, List.length_take]; rfl)) ?_; (with_reducible refine (emenderref04_Same.calls kj4 _ _ t359 _ _ l0 true _ ?side1 ?side2 ?side3 ?side4 A19.out).mono ?_); (case side1 => repeat (first | exact (Kd.R_reads' HO361.out).2.2 | (with_reducible refine Kd.C_alloc ?_ _) | (with_reducible refine Kd.C_drewN ?_ _) | (with_reducible refine Kd.C_drew ?_))); (case side2 => exact (Kd.R_reads' HO361.out).2.1); (case side3 => repeat (first | exact (Kd.V_reads' HO_0.out).2.2 | (with_reducible refine Kd.C_alloc ?_ _) | (with_reducible refine Kd.C_drewN ?_ _) | (with_reducible refine Kd.C_drew ?_))); (case side4 => exact (Kd.V_reads' HO_0.out).2.1); rintro e w' ⟨rfl, ⟨nd, rfl⟩⟩; refine ⟨_, rfl, ?_⟩; (try (rw [drewN_self w28]; generalize hq_ : World.drewN w28 _ = w28; have n0_ : Aside0 (Kd.R k57 57 w28 w.heap.size (fun k_ => (w.heap.size ≤ k_) ∧ some k_ ≠ (.slice Ao27 t354.length co27 : Value).ownBlock) (.slice Ao29 t359.length co29) t359) := ⟨by rw [← hq_]; exact (by (with_reducible repeat (first | apply Kd.R_alloc | apply Kd.R_drewN | apply Kd.R_drew)); exact Kd.R_mono HO361.out (fun _ hk => ⟨hk.1.1, hk.2⟩))⟩; have n1_ : Aside0 (Kd.V k57 57 w28 w.heap.size (fun k_ => (P0_ k_ ∨ w.heap.size ≤ k_) ∧ some k_ ≠ (.slice Ao29 t359.length co29 : Value).ownBlock ∧ some k_ ≠ (.slice Ao27 t354.length co27 : Value).ownBlock ∧ k_ ≠ gb352 ∧ k_ ≠ gb353 ∧ k_ ≠ gb358) (.slice A0 l0.length c0) l0) := ⟨by rw [← hq_]; exact (by (with_reducible repeat (first | apply Kd.V_alloc | apply Kd.V_drewN | apply Kd.V_drew)); exact Kd.V_mono HO_0.out (fun _ hk => ⟨hk.1.1.1, ⟨hk.2, ⟨hk.1.1.2.1, ⟨hk.1.1.2.2.1, ⟨hk.1.1.2.2.2, hk.1.2⟩⟩⟩⟩⟩))⟩; have n2_ : Aside0 (Kd.R k57 57 w28 w.heap.size (fun k_ => (w.heap.size ≤ k_) ∧ some k_ ≠ (.slice Ao29 t359.length co29 : Value).ownBlock) (.slice Ao27 t354.length co27) t354) := ⟨by rw [← hq_]; exact (by (with_reducible repeat (first | apply Kd.R_alloc | apply Kd.R_drewN | apply Kd.R_drew)); exact HO_6.out)⟩; have n3_ : Aside0 (w28.heap[gb352]? = some (.cells #[.int .i64 a1_0, .int .i64 a1_1, .int .i64 a1_2, .int .i64 a1_3, .int .i64 a1_4, .int .i64 a1_5, .slice A1_6 l1_6.length c1_6, .int .i64 a1_7] 24 (0, 0))) := ⟨by rw [← hq_]; exact (by (with_reducible repeat (first|refine bN ?_ _|refine bD ?_|refine bA ?_ _)); exact BK352.out)⟩; have n4_ : Aside0 (w28.heap[gb353]? = some (.cells #[.int .i64 0, .int .i64 0, .int .i64 0, .int .i64 0, .int .i64 0, .int .i64 0, .slice none 0 0, .int .i64 0] 24 (0, 0))) := ⟨by rw [← hq_]; exact (by (with_reducible repeat (first|refine bN ?_ _|refine bD ?_|refine bA ?_ _)); exact BK353.out)⟩; have n5_ : Aside0 (w28.heap[gb358]? = some (.cells #[.int .i64 (wrap64 (5 - a1_0)), .int .i64 a1_1, .int .i64 a1_2, .int .i64 0, .int .i64 0, .int .i64 0, .slice none 0 0, .int .i64 a1_7] 24 (0, 0))) := ⟨by rw [← hq_]; exact (by (with_reducible repeat (first|refine bN ?_ _|refine bD ?_|refine bA ?_ _)); exact BK358.out)⟩; have n6_ : Aside0 (Below w.heap.size w w28) := ⟨by rw [← hq_]; exact (by repeat (first|(with_reducible first|exact HB.out|apply lA|apply lN|apply lD|refine lS ?_ GE352.out|refine lS ?_ GE353.out|refine lS ?_ GE358.out)|exact HB.out))⟩; clear HO361 HO_0 HO_6 BK352 BK353 BK358 HB hq_; have HO361 := n0_; have HO_0 := n1_; have HO_6 := n2_; have BK352 := n3_; have BK353 := n4_; have BK358 := n5_; have HB := n6_; clear n0_ n1_ n2_ n3_ n4_ n5_ n6_)); have hcz30_0 : w28.cell? ⟨gb358, 0, none⟩ = some (.int .i64 (wrap64 (5 - a1_0))) := (blk_cell BK358.out 0).trans rfl; have hcz30_1 : w28.cell? ⟨gb358, 1, none⟩ = some (.int .i64 a1_1) := (blk_cell BK358.out 1).trans rfl; have hcz30_2 : w28.cell? ⟨gb358, 2, none⟩ = some (.int .i64 a1_2) := (blk_cell BK358.out 2).trans rfl; have hcz30_3 : w28.cell? ⟨gb358, 3, none⟩ = some (.int .i64 0) := (blk_cell BK358.out 3).trans rfl; have hcz30_4 : w28.cell? ⟨gb358, 4, none⟩ = some (.int .i64 0) := (blk_cell BK358.out 4).trans rfl; have hcz30_5 : w28.cell? ⟨gb358, 5, none⟩ = some (.int .i64 0) := (blk_cell BK358.out 5).trans rfl; have hcz30_6 : w28.cell? ⟨gb358, 6, none⟩ = some (.slice none 0 0) := (blk_cell BK358.out 6).trans rfl; have hcz30_7 : w28.cell? ⟨gb358, 7, none⟩ = some (.int .i64 a1_7) := (blk_cell BK358.out 7).trans rfl; have hfz30_0 := blk_frozen BK358.out 0; have hfz30_1 := blk_frozen BK358.out 1; have hfz30_2 := blk_frozen BK358.out 2; have hfz30_3 := blk_frozen BK358.out 3; have hfz30_4 := blk_frozen BK358.out 4; have hfz30_5 := blk_frozen BK358.out 5; have hfz30_6 := blk_frozen BK358.out 6; have hfz30_7 := blk_frozen BK358.out 7; have hcz31_0 : w28.cell? ⟨gb353, 0, none⟩ = some (.int .i64 0) := (blk_cell BK353.out 0).trans rfl; have hcz31_1 : w28.cell? ⟨gb353, 1, none⟩ = some (.int .i64 0) := (blk_cell BK353.out 1).trans rfl; have hcz31_2 : w28.cell? ⟨gb353, 2, none⟩ = some (.int .i64 0) := (blk_cell BK353.out 2).trans rfl; have hcz31_3 : w28.cell? ⟨gb353, 3, none⟩ = some (.int .i64 0) := (blk_cell BK353.out 3).trans rfl; have hcz31_4 : w28.cell? ⟨gb353, 4, none⟩ = some (.int .i64 0) := (blk_cell BK353.out 4).trans rfl; have hcz31_5 : w28.cell? ⟨gb353, 5, none⟩ = some (.int .i64 0) := (blk_cell BK353.out 5).trans rfl; have hcz31_6 : w28.cell? ⟨gb353, 6, none⟩ = some (.slice none 0 0) := (blk_cell BK353.out 6).trans rfl; have hcz31_7 : w28.cell? ⟨gb353, 7, none⟩ = some (.int .i64 0) := (blk_cell BK353.out 7).trans rfl; have hfz31_0 := blk_frozen BK353.out 0; have hfz31_1 := blk_frozen BK353.out 1; have hfz31_2 := blk_frozen BK353.out 2; have hfz31_3 := blk_frozen BK353.out 3; have hfz31_4 := blk_frozen BK353.out 4; have hfz31_5 := blk_frozen BK353.out 5; have hfz31_6 := blk_frozen BK353.out 6; have hfz31_7 := blk_frozen BK353.out 7))
       refine bodyPost_ret (results_ct rfl _ _ gb353 24 #[.int .i64 (wrap64 (5 - a1_0)), .int .i64 a1_1, .int .i64 a1_2, .int .i64 0, .int .i64 0, .int .i64 0, .slice none 0 0, .int .i64 a1_7] (0, 0) _ rfl (by (with_reducible repeat (first|refine bN ?_ _|refine bD ?_|refine bA ?_ _)); apply put8; (with_reducible repeat (first|refine bN ?_ _|refine bD ?_|refine bA ?_ _)); exact BK353.out) Try.underlying24 rfl (by kernel_rfl)) rfl ?_
       exact ⟨_, by first | rfl | (simp [errW_none, errW_some] <;> rfl) | (simp [*, errW_none, errW_some] <;> rfl), by first | exact Kd.R_nil _ _ _ _ _ | exact Kd.N_nil _ _ _ _ _ | exact Kd.V_nil _ _ _ _ _ | exact Kd.Q_nil _ _ _ _ _ | exact Kd.S_nil _ _ _ _ _, by repeat (first|(with_reducible first|exact HB.out|apply lA|apply lN|apply lD|refine lS ?_ GE352.out|refine lS ?_ GE353.out|refine lS ?_ GE358.out)|exact HB.out)⟩
      ·replace c20 := Bool.eq_false_iff.mpr c20
       subst c20
       have H1 : (emenderref09_Invert.j1 kj4 l0 a1_0 a1_1 a1_2 a1_3 a1_4 a1_5 l1_6 a1_7) = some (r1, r2, r3, r4, r5, r6, r7, r8, r9) := by rw [if_neg (show ¬ (false = true) by decide)] at H; exact H
       clear H
       have H := H1
       clear H1
       have H' := aM H
       clear H
       have hnb32 := NB352_353.out
       have hnc32 := NB353_352.out
       obtain ⟨hcz33_0, hcz33_1, hcz33_2, hcz33_3, hcz33_4, hcz33_5, hcz33_6, hcz33_7, hfz33_0, hfz33_1, hfz33_2, hfz33_3, hfz33_4, hfz33_5, hfz33_6, hfz33_7⟩ := bx8z BK352.out
       go_wp2_with (first | ((with_reducible refine gate_dst (N := 8) rfl ?_); refine box_event ?hg (N := 8) ?hd (cs := #[.int .i64 0, .int .i64 0, .int .i64 0, .int .i64 0, .int .i64 0, .int .i64 0, .slice none 0 0, .int .i64 0]) (t := 24) ?hr ?_; (case hd => rfl); (case hg => rfl); (case hr => first | (go_simp; done) | (go_simp; rfl)); intro gb358 hg w34 hbox hb; have n0_ := aM (Kd.V_below (Kd.V_elderB (by (with_reducible repeat (first | apply Kd.V_alloc | apply Kd.V_drewN | apply Kd.V_drew)); exact HO_0.out) gb358 (Nat.le_of_eq hg.symm)) hb); have n1_ := aM (Kd.R_below (by (with_reducible repeat (first | apply Kd.R_alloc | apply Kd.R_drewN | apply Kd.R_drew)); exact HO_6.out) hb); have n2_ := aM (blk_below (by (with_reducible repeat (first|refine bN ?_ _|refine bD ?_|refine bA ?_ _)); exact BK352.out) hb); have n3_ := aM (blk_below (by (with_reducible repeat (first|refine bN ?_ _|refine bD ?_|refine bA ?_ _)); exact BK353.out) hb); have n4_ := aM (below_step (by repeat (first|(with_reducible first|exact HB.out|apply lA|apply lN|apply lD|refine lS ?_ GE352.out|refine lS ?_ GE353.out)|exact HB.out)) hb); have n5_ := aM (hbox); have n6_ := aM ((by rw [hg]; exact (below_size (by repeat (first|(with_reducible first|exact HB.out|apply lA|apply lN|apply lD|refine lS ?_ GE352.out|refine lS ?_ GE353.out)|exact HB.out))) : w.heap.size ≤ gb358)); have n7_ := aM ((by rw [hg]; exact (below_size (by repeat (first|(with_reducible first|exact HB.out|apply lA|apply lN|apply lD|refine lS ?_ GE352.out|refine lS ?_ GE353.out)|exact HB.out))) : w.heap.size ≤ gb358)); have n8_ := aM ((by rw [hg]; exact Nat.ne_of_lt (blk_lt (g := gb352) (o := .cells #[.int .i64 a1_0, .int .i64 a1_1, .int .i64 a1_2, .int .i64 a1_3, .int .i64 a1_4, .int .i64 a1_5, .slice A1_6 l1_6.length c1_6, .int .i64 a1_7] 24 (0, 0)) (by (with_reducible repeat (first|refine bN ?_ _|refine bD ?_|refine bA ?_ _)); exact BK352.out)) : gb352 ≠ gb358)); have n9_ := aM ((by rw [hg]; exact Nat.ne_of_gt (blk_lt (g := gb352) (o := .cells #[.int .i64 a1_0, .int .i64 a1_1, .int .i64 a1_2, .int .i64 a1_3, .int .i64 a1_4, .int .i64 a1_5, .slice A1_6 l1_6.length c1_6, .int .i64 a1_7] 24 (0, 0)) (by (with_reducible repeat (first|refine bN ?_ _|refine bD ?_|refine bA ?_ _)); exact BK352.out)) : gb358 ≠ gb352)); have n10_ := aM ((by rw [hg]; exact Nat.ne_of_lt (blk_lt (g := gb353) (o := .cells #[.int .i64 0, .int .i64 0, .int .i64 0, .int .i64 0, .int .i64 0, .int .i64 0, .slice none 0 0, .int .i64 0] 24 (0, 0)) (by (with_reducible repeat (first|refine bN ?_ _|refine bD ?_|refine bA ?_ _)); exact BK353.out)) : gb353 ≠ gb358)); have n11_ := aM ((by rw [hg]; exact Nat.ne_of_gt (blk_lt (g := gb353) (o := .cells #[.int .i64 0, .int .i64 0, .int .i64 0, .int .i64 0, .int .i64 0, .int .i64 0, .slice none 0 0, .int .i64 0] 24 (0, 0)) (by (with_reducible repeat (first|refine bN ?_ _|refine bD ?_|refine bA ?_ _)); exact BK353.out)) : gb358 ≠ gb353)); clear HO_0; clear HO_6; clear BK352; clear BK353; clear HB; have HO_0 := n0_; have HO_6 := n1_; have BK352 := n2_; have BK353 := n3_; have HB := n4_; have BK358 := n5_; have GW358 := n6_; have GE358 := n7_; have NB352_358 := n8_; have NB358_352 := n9_; have NB353_358 := n10_; have NB358_353 := n11_; clear n0_ n1_ n2_ n3_ n4_ n5_ n6_ n7_ n8_ n9_ n10_ n11_; clear hb hbox hg; have hnb35 := NB358_352.out; have hnc35 := NB352_358.out; have hnb36 := NB358_353.out; have hnc36 := NB353_358.out; have hcz37_0 : w34.cell? ⟨gb358, 0, none⟩ = some (.int .i64 0) := (blk_cell BK358.out 0).trans rfl; have hcz37_1 : w34.cell? ⟨gb358, 1, none⟩ = some (.int .i64 0) := (blk_cell BK358.out 1).trans rfl; have hcz37_2 : w34.cell? ⟨gb358, 2, none⟩ = some (.int .i64 0) := (blk_cell BK358.out 2).trans rfl; have hcz37_3 : w34.cell? ⟨gb358, 3, none⟩ = some (.int .i64 0) := (blk_cell BK358.out 3).trans rfl; have hcz37_4 : w34.cell? ⟨gb358, 4, none⟩ = some (.int .i64 0) := (blk_cell BK358.out 4).trans rfl; have hcz37_5 : w34.cell? ⟨gb358, 5, none⟩ = some (.int .i64 0) := (blk_cell BK358.out 5).trans rfl; have hcz37_6 : w34.cell? ⟨gb358, 6, none⟩ = some (.slice none 0 0) := (blk_cell BK358.out 6).trans rfl; have hcz37_7 : w34.cell? ⟨gb358, 7, none⟩ = some (.int .i64 0) := (blk_cell BK358.out 7).trans rfl; have hfz37_0 := blk_frozen BK358.out 0; have hfz37_1 := blk_frozen BK358.out 1; have hfz37_2 := blk_frozen BK358.out 2; have hfz37_3 := blk_frozen BK358.out 3; have hfz37_4 := blk_frozen BK358.out 4; have hfz37_5 := blk_frozen BK358.out 5; have hfz37_6 := blk_frozen BK358.out 6; have hfz37_7 := blk_frozen BK358.out 7; obtain ⟨Ao38, co38, eo38⟩ := Kd.R_slice HO_6.out; subst eo38) | ((with_reducible refine gate_callee (f := 35) rfl ?_); refine goesL_ (some 42) rfl rfl Try.func35 (by kernel_rfl) rfl #[.slice Ao38 t354.length co38, .agg #[.int .i64 (wrap64 (5 - a1_0)), .int .i64 a1_1, .int .i64 a1_2, .int .i64 0, .int .i64 0, .int .i64 0, .slice none 0 0, .int .i64 a1_7]] rfl (by (try simp only [List.map_toArray, List.map_cons, List.map_nil]); first | done | rfl | (simp only [List.length_drop, List.length_take]; rfl)) ?_; (refine (emenderref09_marked.calls kj4 _ _ t354 (wrap64 (5 - a1_0)) a1_1 a1_2 0 0 0 _ _ ([] : List (S57)) a1_7 t359 _ ?side1 ?side2 ?side3 ?side4 A18.out).mono ?_); (case side1 => refine (Kd.R_reads' (e := 57) (base := w.heap.size) (ok := fun k_ => (w.heap.size ≤ k_)) (n := t354.length) (c := co38) ?_).2.2; exact (by (with_reducible repeat (first | apply Kd.R_alloc | apply Kd.R_drewN | apply Kd.R_drew)); exact (Kd.R_mono (Kd.Rf8 (Kd.R_types HO_6.out BK358.out (by decide)) (fun _ hk => hk.2)) (fun _ h_ => h_.1)))); (case side2 => exact (Kd.R_reads' HO_6.out).2.1); (case side3 => exact Kd.C_nil _ _); (case side4 => exact Nat.le_refl _); rintro e w39 ⟨v360, rfl, ho0, hb⟩; refine ⟨_, rfl, ?_⟩; have n0_ := aM (Kd.V_elder' (by (with_reducible repeat (first | apply Kd.V_alloc | apply Kd.V_drewN | apply Kd.V_drew)); exact (Kd.V_mono (Kd.Vf8 (Kd.V_mono HO_0.out (fun k_ hk => (⟨hk, hk.2⟩ : _ ∧ k_ ≠ gb358))) (fun _ hk => hk.2)) (fun _ h_ => h_.1))) (Kd.R_base ho0) hb); have n1_ := aM (Kd.R_elder' (by (with_reducible repeat (first | apply Kd.R_alloc | apply Kd.R_drewN | apply Kd.R_drew)); exact (Kd.R_mono (Kd.Rf8 (Kd.R_types HO_6.out BK358.out (by decide)) (fun _ hk => hk.2)) (fun _ h_ => h_.1))) (Kd.R_base ho0) hb); have n2_ := aM (Kd.R_lower (Kd.R_new' (Kd.R_newM (M := fun k_ => (w.heap.size ≤ k_)) ho0 (below_size (by repeat (first|(with_reducible first|exact HB.out|apply lA|apply lN|apply lD|refine lS ?_ GE352.out|refine lS ?_ GE353.out|refine lS ?_ GE358.out)|exact HB.out))) (fun k_ h_ => h_)) (Kd.R_lt (by (with_reducible repeat (first | apply Kd.R_alloc | apply Kd.R_drewN | apply Kd.R_drew)); exact (Kd.R_mono (Kd.Rf8 (Kd.R_types HO_6.out BK358.out (by decide)) (fun _ hk => hk.2)) (fun _ h_ => h_.1))))) (below_size (by repeat (first|(with_reducible first|exact HB.out|apply lA|apply lN|apply lD|refine lS ?_ GE352.out|refine lS ?_ GE353.out|refine lS ?_ GE358.out)|exact HB.out)))); have n3_ := aM (blk_below (g := gb352) (o := .cells #[.int .i64 a1_0, .int .i64 a1_1, .int .i64 a1_2, .int .i64 a1_3, .int .i64 a1_4, .int .i64 a1_5, .slice A1_6 l1_6.length c1_6, .int .i64 a1_7] 24 (0, 0)) (by (with_reducible repeat (first|refine bN ?_ _|refine bD ?_|refine bA ?_ _)); refine far8 ?_ NB352_358.out; (with_reducible repeat (first|refine bN ?_ _|refine bD ?_|refine bA ?_ _)); exact BK352.out) hb); have n4_ := aM (blk_below (g := gb353) (o := .cells #[.int .i64 0, .int .i64 0, .int .i64 0, .int .i64 0, .int .i64 0, .int .i64 0, .slice none 0 0, .int .i64 0] 24 (0, 0)) (by (with_reducible repeat (first|refine bN ?_ _|refine bD ?_|refine bA ?_ _)); refine far8 ?_ NB353_358.out; (with_reducible repeat (first|refine bN ?_ _|refine bD ?_|refine bA ?_ _)); exact BK353.out) hb); have n5_ := aM (blk_below (g := gb358) (o := .cells #[.int .i64 (wrap64 (5 - a1_0)), .int .i64 a1_1, .int .i64 a1_2, .int .i64 0, .int .i64 0, .int .i64 0, .slice none 0 0, .int .i64 a1_7] 24 (0, 0)) (by (with_reducible repeat (first|refine bN ?_ _|refine bD ?_|refine bA ?_ _)); apply put8; (with_reducible repeat (first|refine bN ?_ _|refine bD ?_|refine bA ?_ _)); exact BK358.out) hb); have n6_ := aM (below_step (by repeat (first|(with_reducible first|exact HB.out|apply lA|apply lN|apply lD|refine lS ?_ GE352.out|refine lS ?_ GE353.out|refine lS ?_ GE358.out)|exact HB.out)) hb); clear HO_0; clear HO_6; clear BK352; clear BK353; clear BK358; clear HB; have HO_0 := n0_; have HO_6 := n1_; have HO361 := n2_; have BK352 := n3_; have BK353 := n4_; have BK358 := n5_; have HB := n6_; clear n0_ n1_ n2_ n3_ n4_ n5_ n6_; (try clear hb); (try clear hb2); (try clear hk); (try clear hi); (try clear ho0); obtain ⟨Ao40, co40, eo40⟩ := Kd.R_slice HO361.out; subst eo40) | ((with_reducible refine gate_callee (f := 34) rfl ?_); refine goesL_ (some 44) rfl rfl Try.func34 (by kernel_rfl) rfl #[.slice Ao40 t359.length co40, .slice A0 l0.length c0] rfl (by (try simp only [List.map_toArray, List.map_cons, List.map_nil]); first | done | rfl | (simp only [List.length_drop, List.length_take]; rfl)) ?_; (with_reducible refine (emenderref04_Same.calls kj4 _ _ t359 _ _ l0 false _ ?side1 ?side2 ?side3 ?side4 A19.out).mono ?_); (case side1 => repeat (first | exact (Kd.R_reads' HO361.out).2.2 | (with_reducible refine Kd.C_alloc ?_ _) | (with_reducible refine Kd.C_drewN ?_ _) | (with_reducible refine Kd.C_drew ?_))); (case side2 => exact (Kd.R_reads' HO361.out).2.1); (case side3 => repeat (first | exact (Kd.V_reads' HO_0.out).2.2 | (with_reducible refine Kd.C_alloc ?_ _) | (with_reducible refine Kd.C_drewN ?_ _) | (with_reducible refine Kd.C_drew ?_))); (case side4 => exact (Kd.V_reads' HO_0.out).2.1); rintro e w' ⟨rfl, ⟨nd, rfl⟩⟩; refine ⟨_, rfl, ?_⟩))
       go_meet
       case rel => exact ⟨_, (0), (0), (0), (0), (0), (0), (0), H', ⟨by have := HJ4.out; first | omega | exact Nat.le_refl _⟩, ⟨by (with_reducible repeat (first | apply Kd.V_alloc | apply Kd.V_drewN | apply Kd.V_drew)); exact Kd.V_mono HO_0.out (fun _ hk => ⟨hk.1.1.1, ⟨hk.1.1.2.2.1, hk.1.1.2.2.2⟩⟩)⟩, ⟨by (with_reducible repeat (first|refine bN ?_ _|refine bD ?_|refine bA ?_ _)); exact BK352.out⟩, ⟨by (with_reducible repeat (first|refine bN ?_ _|refine bD ?_|refine bA ?_ _)); exact BK353.out⟩, ⟨by repeat (first|(with_reducible first|exact HB.out|apply lA|apply lN|apply lD|refine lS ?_ GE352.out|refine lS ?_ GE353.out|refine lS ?_ GE358.out)|exact HB.out)⟩⟩
     ·replace c17 := Bool.eq_false_iff.mpr c17
      subst c17
      have H1 : (emenderref09_Invert.j1 kj4 l0 a1_0 a1_1 a1_2 a1_3 a1_4 a1_5 l1_6 a1_7) = some (r1, r2, r3, r4, r5, r6, r7, r8, r9) := by rw [if_neg (show ¬ (false = true) by decide)] at H; exact H
      clear H
      have H := H1
      clear H1
      have H' := aM H
      clear H
      go_wp2
      go_meet
      case rel => exact ⟨_, (0), (0), (0), (0), (0), (0), (0), H', ⟨by have := HJ4.out; first | omega | exact Nat.le_refl _⟩, ⟨by (with_reducible repeat (first | apply Kd.V_alloc | apply Kd.V_drewN | apply Kd.V_drew)); exact Kd.V_mono HO_0.out (fun _ hk => ⟨hk.1, ⟨hk.2.2.1, hk.2.2.2⟩⟩)⟩, ⟨by (with_reducible repeat (first|refine bN ?_ _|refine bD ?_|refine bA ?_ _)); exact BK352.out⟩, ⟨by (with_reducible repeat (first|refine bN ?_ _|refine bD ?_|refine bA ?_ _)); exact BK353.out⟩, ⟨by repeat (first|(with_reducible first|exact HB.out|apply lA|apply lN|apply lD|refine lS ?_ GE352.out|refine lS ?_ GE353.out)|exact HB.out)⟩⟩
    case rest =>
     clear HC16
     obtain ⟨kq, x354000_15, x354001_15, x354002_15, x354003_15, x354004_15, x354005_15, x354007_15, HA, HJ15, HO_0, BK352, BK353, HB⟩ := hcut
     cases kq with
     | zero => exact absurd HA.out (by simp [emenderref09_Invert.j1])
     | succ kj15 =>
      have H := HA.out
      clear HA
      simp only [emenderref09_Invert.j1] at H
      by_cases c41 : a1_0 = 1
      ·rw [if_pos c41] at H
       have c41b0 : (a1_0 == 1) = true := beq_iff_eq.mpr c41
       have c41b1 : (a1_0 != 1) = false := bne_eq_false_iff_eq.mpr c41
       clear c41
       by_cases c42 : 0 ≤ a1_1
       ·rw [if_pos c42] at H
        have c42b0 := eq_true c42
        have c42b1 : decide (0 ≤ a1_1) = true := decide_eq_true c42
        clear c42
        by_cases c43 : a1_1 ≤ a1_3
        ·rw [if_pos c43] at H
         have c43b0 := eq_true c43
         have c43b1 : decide (a1_1 ≤ a1_3) = true := decide_eq_true c43
         clear c43
         by_cases c44 : a1_3 ≤ (l0.length : Int)
         ·rw [if_pos c44] at H
          have c44b0 := eq_true c44
          have c44b1 : decide (a1_3 ≤ (l0.length : Int)) = true := decide_eq_true c44
          clear c44
          obtain ⟨y386, hy386⟩ : ∃ y_ : List (S57), y_ = ((l0.take (a1_3 : Int).toNat).drop (a1_1 : Int).toNat) := ⟨_, rfl⟩
          replace H : (if 0 ≤ a1_4 then (if a1_4 ≤ a1_2 then (if a1_2 ≤ (l0.length : Int) then ((emenderref09_join.f kj15 (([y386, ((l0.take (a1_2 : Int).toNat).drop (a1_4 : Int).toNat)] : List (List (S57))))).bind fun t399 => (some (1, a1_1, wrap64 ((wrap64 (a1_1 + (l1_6.length : Int))) + (wrap64 (a1_4 - a1_3))), wrap64 (a1_1 + a1_5), wrap64 ((wrap64 (a1_1 + a1_5)) + (wrap64 (a1_4 - a1_3))), wrap64 (a1_3 - a1_1), t399, 0, 0))) else (none)) else (none)) else (none)) = some (r1, r2, r3, r4, r5, r6, r7, r8, r9) := by first | (rw [hy386]; with_reducible exact H) | (have H2_ := (Option.bind_some _ _).symm.trans H; rw [hy386]; with_reducible exact H2_) | (have H2_ := (Option.bind_some _ _).symm.trans H; with_reducible exact H2_) | with_reducible exact H | (rw [hy386]; exact H) | exact H
          have Ny386 := aM hy386
          clear hy386
          by_cases c45 : 0 ≤ a1_4
          ·rw [if_pos c45] at H
           have c45b0 := eq_true c45
           have c45b1 : decide (0 ≤ a1_4) = true := decide_eq_true c45
           clear c45
           by_cases c46 : a1_4 ≤ a1_2
           ·rw [if_pos c46] at H
            have c46b0 := eq_true c46
            have c46b1 : decide (a1_4 ≤ a1_2) = true := decide_eq_true c46
            clear c46
            by_cases c47 : a1_2 ≤ (l0.length : Int)
            ·rw [if_pos c47] at H
             have c47b0 := eq_true c47
             have c47b1 : decide (a1_2 ≤ (l0.length : Int)) = true := decide_eq_true c47
             clear c47
             obtain ⟨y391, hy391⟩ : ∃ y_ : List (S57), y_ = ((l0.take (a1_2 : Int).toNat).drop (a1_4 : Int).toNat) := ⟨_, rfl⟩
             replace H : ((emenderref09_join.f kj15 (([y386, y391] : List (List (S57))))).bind fun t399 => (some (1, a1_1, wrap64 ((wrap64 (a1_1 + (l1_6.length : Int))) + (wrap64 (a1_4 - a1_3))), wrap64 (a1_1 + a1_5), wrap64 ((wrap64 (a1_1 + a1_5)) + (wrap64 (a1_4 - a1_3))), wrap64 (a1_3 - a1_1), t399, 0, 0))) = some (r1, r2, r3, r4, r5, r6, r7, r8, r9) := by first | (rw [hy391]; with_reducible exact H) | (have H2_ := (Option.bind_some _ _).symm.trans H; rw [hy391]; with_reducible exact H2_) | (have H2_ := (Option.bind_some _ _).symm.trans H; with_reducible exact H2_) | with_reducible exact H | (rw [hy391]; exact H) | exact H
             have Ny391 := aM hy391
             clear hy391
             obtain ⟨y396, hy396⟩ : ∃ y_ : List (List (S57)), y_ = (([y386, y391] : List (List (S57)))) := ⟨_, rfl⟩
             replace H : ((emenderref09_join.f kj15 y396).bind fun t399 => (some (1, a1_1, wrap64 ((wrap64 (a1_1 + (l1_6.length : Int))) + (wrap64 (a1_4 - a1_3))), wrap64 (a1_1 + a1_5), wrap64 ((wrap64 (a1_1 + a1_5)) + (wrap64 (a1_4 - a1_3))), wrap64 (a1_3 - a1_1), t399, 0, 0))) = some (r1, r2, r3, r4, r5, r6, r7, r8, r9) := by first | (rw [hy396]; with_reducible exact H) | (have H2_ := (Option.bind_some _ _).symm.trans H; rw [hy396]; with_reducible exact H2_) | (have H2_ := (Option.bind_some _ _).symm.trans H; with_reducible exact H2_) | with_reducible exact H | (rw [hy396]; exact H) | exact H
             have Ny396 := aM hy396
             clear hy396
             replace H := Option.bind_eq_some_iff.mp H
             obtain ⟨t399, A480, H⟩ := H
             replace H : (some (1, a1_1, wrap64 ((wrap64 (a1_1 + (l1_6.length : Int))) + (wrap64 (a1_4 - a1_3))), wrap64 (a1_1 + a1_5), wrap64 ((wrap64 (a1_1 + a1_5)) + (wrap64 (a1_4 - a1_3))), wrap64 (a1_3 - a1_1), t399, 0, 0)) = some (r1, r2, r3, r4, r5, r6, r7, r8, r9) := H
             have A48 := aM A480
             clear A480
             simp only [Option.some.injEq, Prod.mk.injEq] at H
             obtain ⟨rfl, rfl, rfl, rfl, rfl, rfl, rfl, rfl, rfl⟩ := H
             have hnb49 := NB352_353.out
             have hnc49 := NB353_352.out
             obtain ⟨hcz50_0, hcz50_1, hcz50_2, hcz50_3, hcz50_4, hcz50_5, hcz50_6, hcz50_7, hfz50_0, hfz50_1, hfz50_2, hfz50_3, hfz50_4, hfz50_5, hfz50_6, hfz50_7⟩ := bx8z BK352.out
             try go_wp2_with (first | ((with_reducible refine gate_dst (N := 11) rfl ?_); refine box_event ?hg (N := 11) ?hd (cs := #[.int .i64 0, .int .i64 0, .int .i64 0, .int .i64 0, .int .i64 0, .int .i64 0, .slice none 0 0, .int .i64 0]) (t := 24) ?hr ?_; (case hd => rfl); (case hg => rfl); (case hr => first | (go_simp; done) | (go_simp; rfl)); intro gb385 hg w51 hbox hb; have n0_ := aM (Kd.V_below (Kd.V_elderB (by (with_reducible repeat (first | apply Kd.V_alloc | apply Kd.V_drewN | apply Kd.V_drew)); exact HO_0.out) gb385 (Nat.le_of_eq hg.symm)) hb); have n1_ := aM (blk_below (by (with_reducible repeat (first|refine bN ?_ _|refine bD ?_|refine bA ?_ _)); exact BK352.out) hb); have n2_ := aM (blk_below (by (with_reducible repeat (first|refine bN ?_ _|refine bD ?_|refine bA ?_ _)); exact BK353.out) hb); have n3_ := aM (below_step (by repeat (first|(with_reducible first|exact HB.out|apply lA|apply lN|apply lD|refine lS ?_ GE352.out|refine lS ?_ GE353.out)|exact HB.out)) hb); have n4_ := aM (hbox); have n5_ := aM ((by rw [hg]; exact (below_size (by repeat (first|(with_reducible first|exact HB.out|apply lA|apply lN|apply lD|refine lS ?_ GE352.out|refine lS ?_ GE353.out)|exact HB.out))) : w.heap.size ≤ gb385)); have n6_ := aM ((by rw [hg]; exact (below_size (by repeat (first|(with_reducible first|exact HB.out|apply lA|apply lN|apply lD|refine lS ?_ GE352.out|refine lS ?_ GE353.out)|exact HB.out))) : w.heap.size ≤ gb385)); have n7_ := aM ((by rw [hg]; exact Nat.ne_of_lt (blk_lt (g := gb352) (o := .cells #[.int .i64 a1_0, .int .i64 a1_1, .int .i64 a1_2, .int .i64 a1_3, .int .i64 a1_4, .int .i64 a1_5, .slice A1_6 l1_6.length c1_6, .int .i64 a1_7] 24 (0, 0)) (by (with_reducible repeat (first|refine bN ?_ _|refine bD ?_|refine bA ?_ _)); exact BK352.out)) : gb352 ≠ gb385)); have n8_ := aM ((by rw [hg]; exact Nat.ne_of_gt (blk_lt (g := gb352) (o := .cells #[.int .i64 a1_0, .int .i64 a1_1, .int .i64 a1_2, .int .i64 a1_3, .int .i64 a1_4, .int .i64 a1_5, .slice A1_6 l1_6.length c1_6, .int .i64 a1_7] 24 (0, 0)) (by (with_reducible repeat (first|refine bN ?_ _|refine bD ?_|refine bA ?_ _)); exact BK352.out)) : gb385 ≠ gb352)); have n9_ := aM ((by rw [hg]; exact Nat.ne_of_lt (blk_lt (g := gb353) (o := .cells #[.int .i64 x354000_15, .int .i64 x354001_15, .int .i64 x354002_15, .int .i64 x354003_15, .int .i64 x354004_15, .int .i64 x354005_15, .slice none 0 0, .int .i64 x354007_15] 24 (0, 0)) (by (with_reducible repeat (first|refine bN ?_ _|refine bD ?_|refine bA ?_ _)); exact BK353.out)) : gb353 ≠ gb385)); have n10_ := aM ((by rw [hg]; exact Nat.ne_of_gt (blk_lt (g := gb353) (o := .cells #[.int .i64 x354000_15, .int .i64 x354001_15, .int .i64 x354002_15, .int .i64 x354003_15, .int .i64 x354004_15, .int .i64 x354005_15, .slice none 0 0, .int .i64 x354007_15] 24 (0, 0)) (by (with_reducible repeat (first|refine bN ?_ _|refine bD ?_|refine bA ?_ _)); exact BK353.out)) : gb385 ≠ gb353)); clear HO_0; clear BK352; clear BK353; clear HB; have HO_0 := n0_; have BK352 := n1_; have BK353 := n2_; have HB := n3_; have BK385 := n4_; have GW385 := n5_; have GE385 := n6_; have NB352_385 := n7_; have NB385_352 := n8_; have NB353_385 := n9_; have NB385_353 := n10_; clear n0_ n1_ n2_ n3_ n4_ n5_ n6_ n7_ n8_ n9_ n10_; clear hb hbox hg; have hnb52 := NB385_352.out; have hnc52 := NB352_385.out; have hnb53 := NB385_353.out; have hnc53 := NB353_385.out; have hcz54_0 : w51.cell? ⟨gb385, 0, none⟩ = some (.int .i64 0) := (blk_cell BK385.out 0).trans rfl; have hcz54_1 : w51.cell? ⟨gb385, 1, none⟩ = some (.int .i64 0) := (blk_cell BK385.out 1).trans rfl; have hcz54_2 : w51.cell? ⟨gb385, 2, none⟩ = some (.int .i64 0) := (blk_cell BK385.out 2).trans rfl; have hcz54_3 : w51.cell? ⟨gb385, 3, none⟩ = some (.int .i64 0) := (blk_cell BK385.out 3).trans rfl; have hcz54_4 : w51.cell? ⟨gb385, 4, none⟩ = some (.int .i64 0) := (blk_cell BK385.out 4).trans rfl; have hcz54_5 : w51.cell? ⟨gb385, 5, none⟩ = some (.int .i64 0) := (blk_cell BK385.out 5).trans rfl; have hcz54_6 : w51.cell? ⟨gb385, 6, none⟩ = some (.slice none 0 0) := (blk_cell BK385.out 6).trans rfl; have hcz54_7 : w51.cell? ⟨gb385, 7, none⟩ = some (.int .i64 0) := (blk_cell BK385.out 7).trans rfl; have hfz54_0 := blk_frozen BK385.out 0; have hfz54_1 := blk_frozen BK385.out 1; have hfz54_2 := blk_frozen BK385.out 2; have hfz54_3 := blk_frozen BK385.out 3; have hfz54_4 := blk_frozen BK385.out 4; have hfz54_5 := blk_frozen BK385.out 5; have hfz54_6 := blk_frozen BK385.out 6; have hfz54_7 := blk_frozen BK385.out 7))
             have n0_ : Aside0 (Kd.V k57 57 ((((((((w51.setCell ⟨gb385, 0, none⟩ (.int .i64 1)).setCell ⟨gb385, 1, none⟩ (.int .i64 a1_1)).setCell ⟨gb385, 2, none⟩ (.int .i64 (wrap64 ((wrap64 (a1_1 + (l1_6.length : Int))) + (wrap64 (a1_4 - a1_3)))))).setCell ⟨gb385, 3, none⟩ (.int .i64 (wrap64 (a1_1 + a1_5)))).setCell ⟨gb385, 4, none⟩ (.int .i64 (wrap64 ((wrap64 (a1_1 + a1_5)) + (wrap64 (a1_4 - a1_3)))))).setCell ⟨gb385, 5, none⟩ (.int .i64 (wrap64 (a1_3 - a1_1)))).setCell ⟨gb385, 6, none⟩ (.slice none 0 0)).setCell ⟨gb385, 7, none⟩ (.int .i64 0)) w.heap.size (fun k_ => (P0_ k_ ∨ w.heap.size ≤ k_) ∧ k_ ≠ gb352 ∧ k_ ≠ gb353 ∧ k_ ≠ gb385) (.slice A0 l0.length c0) l0) := ⟨by (with_reducible repeat (first | apply Kd.V_alloc | apply Kd.V_drewN | apply Kd.V_drew)); exact Kd.V_mono (Kd.Vf8 (Kd.V_mono HO_0.out (fun k_ hk => (⟨hk, hk.2⟩ : _ ∧ k_ ≠ gb385))) (fun _ hk => hk.2)) (fun _ hk => ⟨hk.1.1.1, ⟨hk.1.1.2.1, ⟨hk.1.1.2.2, hk.1.2⟩⟩⟩)⟩
             have n1_ : Aside0 (((((((((w51.setCell ⟨gb385, 0, none⟩ (.int .i64 1)).setCell ⟨gb385, 1, none⟩ (.int .i64 a1_1)).setCell ⟨gb385, 2, none⟩ (.int .i64 (wrap64 ((wrap64 (a1_1 + (l1_6.length : Int))) + (wrap64 (a1_4 - a1_3)))))).setCell ⟨gb385, 3, none⟩ (.int .i64 (wrap64 (a1_1 + a1_5)))).setCell ⟨gb385, 4, none⟩ (.int .i64 (wrap64 ((wrap64 (a1_1 + a1_5)) + (wrap64 (a1_4 - a1_3)))))).setCell ⟨gb385, 5, none⟩ (.int .i64 (wrap64 (a1_3 - a1_1)))).setCell ⟨gb385, 6, none⟩ (.slice none 0 0)).setCell ⟨gb385, 7, none⟩ (.int .i64 0)).heap[gb352]? = some (.cells #[.int .i64 a1_0, .int .i64 a1_1, .int .i64 a1_2, .int .i64 a1_3, .int .i64 a1_4, .int .i64 a1_5, .slice A1_6 l1_6.length c1_6, .int .i64 a1_7] 24 (0, 0))) := ⟨by (with_reducible repeat (first|refine bN ?_ _|refine bD ?_|refine bA ?_ _)); refine far8 ?_ NB352_385.out; (with_reducible repeat (first|refine bN ?_ _|refine bD ?_|refine bA ?_ _)); exact BK352.out⟩
             have n2_ : Aside0 (((((((((w51.setCell ⟨gb385, 0, none⟩ (.int .i64 1)).setCell ⟨gb385, 1, none⟩ (.int .i64 a1_1)).setCell ⟨gb385, 2, none⟩ (.int .i64 (wrap64 ((wrap64 (a1_1 + (l1_6.length : Int))) + (wrap64 (a1_4 - a1_3)))))).setCell ⟨gb385, 3, none⟩ (.int .i64 (wrap64 (a1_1 + a1_5)))).setCell ⟨gb385, 4, none⟩ (.int .i64 (wrap64 ((wrap64 (a1_1 + a1_5)) + (wrap64 (a1_4 - a1_3)))))).setCell ⟨gb385, 5, none⟩ (.int .i64 (wrap64 (a1_3 - a1_1)))).setCell ⟨gb385, 6, none⟩ (.slice none 0 0)).setCell ⟨gb385, 7, none⟩ (.int .i64 0)).heap[gb353]? = some (.cells #[.int .i64 x354000_15, .int .i64 x354001_15, .int .i64 x354002_15, .int .i64 x354003_15, .int .i64 x354004_15, .int .i64 x354005_15, .slice none 0 0, .int .i64 x354007_15] 24 (0, 0))) := ⟨by (with_reducible repeat (first|refine bN ?_ _|refine bD ?_|refine bA ?_ _)); refine far8 ?_ NB353_385.out; (with_reducible repeat (first|refine bN ?_ _|refine bD ?_|refine bA ?_ _)); exact BK353.out⟩
             have n3_ : Aside0 (((((((((w51.setCell ⟨gb385, 0, none⟩ (.int .i64 1)).setCell ⟨gb385, 1, none⟩ (.int .i64 a1_1)).setCell ⟨gb385, 2, none⟩ (.int .i64 (wrap64 ((wrap64 (a1_1 + (l1_6.length : Int))) + (wrap64 (a1_4 - a1_3)))))).setCell ⟨gb385, 3, none⟩ (.int .i64 (wrap64 (a1_1 + a1_5)))).setCell ⟨gb385, 4, none⟩ (.int .i64 (wrap64 ((wrap64 (a1_1 + a1_5)) + (wrap64 (a1_4 - a1_3)))))).setCell ⟨gb385, 5, none⟩ (.int .i64 (wrap64 (a1_3 - a1_1)))).setCell ⟨gb385, 6, none⟩ (.slice none 0 0)).setCell ⟨gb385, 7, none⟩ (.int .i64 0)).heap[gb385]? = some (.cells #[.int .i64 1, .int .i64 a1_1, .int .i64 (wrap64 ((wrap64 (a1_1 + (l1_6.length : Int))) + (wrap64 (a1_4 - a1_3)))), .int .i64 (wrap64 (a1_1 + a1_5)), .int .i64 (wrap64 ((wrap64 (a1_1 + a1_5)) + (wrap64 (a1_4 - a1_3)))), .int .i64 (wrap64 (a1_3 - a1_1)), .slice none 0 0, .int .i64 0] 24 (0, 0))) := ⟨by (with_reducible repeat (first|refine bN ?_ _|refine bD ?_|refine bA ?_ _)); apply put8; (with_reducible repeat (first|refine bN ?_ _|refine bD ?_|refine bA ?_ _)); exact BK385.out⟩
             have n4_ : Aside0 (Below w.heap.size w ((((((((w51.setCell ⟨gb385, 0, none⟩ (.int .i64 1)).setCell ⟨gb385, 1, none⟩ (.int .i64 a1_1)).setCell ⟨gb385, 2, none⟩ (.int .i64 (wrap64 ((wrap64 (a1_1 + (l1_6.length : Int))) + (wrap64 (a1_4 - a1_3)))))).setCell ⟨gb385, 3, none⟩ (.int .i64 (wrap64 (a1_1 + a1_5)))).setCell ⟨gb385, 4, none⟩ (.int .i64 (wrap64 ((wrap64 (a1_1 + a1_5)) + (wrap64 (a1_4 - a1_3)))))).setCell ⟨gb385, 5, none⟩ (.int .i64 (wrap64 (a1_3 - a1_1)))).setCell ⟨gb385, 6, none⟩ (.slice none 0 0)).setCell ⟨gb385, 7, none⟩ (.int .i64 0))) := ⟨by repeat (first|(with_reducible first|exact HB.out|apply lA|apply lN|apply lD|refine lS ?_ GE352.out|refine lS ?_ GE353.out|refine lS ?_ GE385.out)|exact HB.out)⟩
             generalize ((((((((w51.setCell ⟨gb385, 0, none⟩ (.int .i64 1)).setCell ⟨gb385, 1, none⟩ (.int .i64 a1_1)).setCell ⟨gb385, 2, none⟩ (.int .i64 (wrap64 ((wrap64 (a1_1 + (l1_6.length : Int))) + (wrap64 (a1_4 - a1_3)))))).setCell ⟨gb385, 3, none⟩ (.int .i64 (wrap64 (a1_1 + a1_5)))).setCell ⟨gb385, 4, none⟩ (.int .i64 (wrap64 ((wrap64 (a1_1 + a1_5)) + (wrap64 (a1_4 - a1_3)))))).setCell ⟨gb385, 5, none⟩ (.int .i64 (wrap64 (a1_3 - a1_1)))).setCell ⟨gb385, 6, none⟩ (.slice none 0 0)).setCell ⟨gb385, 7, none⟩ (.int .i64 0)) = w55 at n0_ n1_ n2_ n3_ n4_ ⊢
             have HO_0 := n0_
             have BK352 := n1_
             have BK353 := n2_
             have BK385 := n3_
             have HB := n4_
             clear n0_ n1_ n2_ n3_ n4_
             have n0_ := aM (Kd.V_drew HO_0.out)
             have n1_ := aM (bD BK352.out)
             have n2_ := aM (bD BK353.out)
             have n3_ := aM (bD BK385.out)
             have n4_ := aM (lD HB.out)
             clear HO_0
             clear BK352
             clear BK353
             clear BK385
             clear HB
             have HO_0 := n0_
             have BK352 := n1_
             have BK353 := n2_
             have BK385 := n3_
             have HB := n4_
             clear n0_ n1_ n2_ n3_ n4_
             have q57 : (a1_3 : Int) ≤ ((l0.length : Int) : Int) := of_decide_eq_true (by first | (with_reducible assumption) | assumption)
             obtain ⟨i057, hi057, _, hsz57, _⟩ := info_parts info57
             have hroom57 : l0.length ≤ c0 := (Kd.V_reads' HO_0.out).2.1
             have hC57 : Kd.F k57 _ _ A0 l0.length l0 := (Kd.V_at (base := w.heap.size) HO_0.out).2.2
             have ql57 : (a1_1 : Int) ≤ (a1_3 : Int) := of_decide_eq_true (by first | (with_reducible assumption) | assumption)
             have q057 : (0 : Int) ≤ (a1_1 : Int) := of_decide_eq_true (by first | (with_reducible assumption) | assumption)
             have hcut57 := cut_mid (P := Try.prog) 22 57 .i64 .i64 Try.underlying22 hi057 4 hsz57 A0 l0.length c0 a1_1 a1_3 q057 ql57 q57 hroom57
             have hr57 := Kd.F_mid (lo := (a1_1 : Int).toNat) (hi := (a1_3 : Int).toNat) (c := c0) hC57 (by omega) (by omega) hroom57
             obtain ⟨A57, hA57⟩ : ∃ A1, A1 = (if c0 = (a1_1 : Int).toNat then A0 else (A0 : Option Addr).map (·.add ((a1_1 : Int).toNat * 4))) := ⟨_, rfl⟩
             obtain ⟨c57, hc57⟩ : ∃ c1, c1 = c0 - (a1_1 : Int).toNat := ⟨_, rfl⟩
             have hy57 : y386.length = (a1_3 : Int).toNat - (a1_1 : Int).toNat := (by rw [Ny386.out, List.length_drop, List.length_take] <;> omega)
             rw [show ((l0).take (a1_3 : Int).toNat).drop (a1_1 : Int).toNat = y386 from Ny386.out.symm] at hr57
             replace hr57 : Kd.F k57 _ _ A57 y386.length y386 := (by rw [hA57]; exact hr57)
             rw [← hy57, ← hA57, ← hc57] at hcut57
             have HO390 := aM (show Kd.V k57 57 _ w.heap.size _ (.slice A57 y386.length c57) y386 from Kd.V_mk (by rw [hy57, hc57]; exact Nat.sub_le_sub_right (Nat.le_trans (by omega) hroom57) _) hr57)
             have HC390 := aM (show y386.length ≤ c57 from by rw [hy57, hc57]; exact Nat.sub_le_sub_right (Nat.le_trans (by omega) hroom57) _)
             clear hr57 hC57 hroom57 hi057 hsz57 hc57
             have KY57 := aM hy57
             have KA57 := aM hA57
             clear hy57 hA57
             replace q57 := eq_true q57
             have q58 : (a1_2 : Int) ≤ ((l0.length : Int) : Int) := of_decide_eq_true (by first | (with_reducible assumption) | assumption)
             obtain ⟨i058, hi058, _, hsz58, _⟩ := info_parts info57
             have hroom58 : l0.length ≤ c0 := (Kd.V_reads' HO_0.out).2.1
             have hC58 : Kd.F k57 _ _ A0 l0.length l0 := (Kd.V_at (base := w.heap.size) HO_0.out).2.2
             have ql58 : (a1_4 : Int) ≤ (a1_2 : Int) := of_decide_eq_true (by first | (with_reducible assumption) | assumption)
             have q058 : (0 : Int) ≤ (a1_4 : Int) := of_decide_eq_true (by first | (with_reducible assumption) | assumption)
             have hcut58 := cut_mid (P := Try.prog) 22 57 .i64 .i64 Try.underlying22 hi058 4 hsz58 A0 l0.length c0 a1_4 a1_2 q058 ql58 q58 hroom58
             have hr58 := Kd.F_mid (lo := (a1_4 : Int).toNat) (hi := (a1_2 : Int).toNat) (c := c0) hC58 (by omega) (by omega) hroom58
             obtain ⟨A58, hA58⟩ : ∃ A1, A1 = (if c0 = (a1_4 : Int).toNat then A0 else (A0 : Option Addr).map (·.add ((a1_4 : Int).toNat * 4))) := ⟨_, rfl⟩
             obtain ⟨c58, hc58⟩ : ∃ c1, c1 = c0 - (a1_4 : Int).toNat := ⟨_, rfl⟩
             have hy58 : y391.length = (a1_2 : Int).toNat - (a1_4 : Int).toNat := (by rw [Ny391.out, List.length_drop, List.length_take] <;> omega)
             rw [show ((l0).take (a1_2 : Int).toNat).drop (a1_4 : Int).toNat = y391 from Ny391.out.symm] at hr58
             replace hr58 : Kd.F k57 _ _ A58 y391.length y391 := (by rw [hA58]; exact hr58)
             rw [← hy58, ← hA58, ← hc58] at hcut58
             have HO395 := aM (show Kd.V k57 57 _ w.heap.size _ (.slice A58 y391.length c58) y391 from Kd.V_mk (by rw [hy58, hc58]; exact Nat.sub_le_sub_right (Nat.le_trans (by omega) hroom58) _) hr58)
             have HC395 := aM (show y391.length ≤ c58 from by rw [hy58, hc58]; exact Nat.sub_le_sub_right (Nat.le_trans (by omega) hroom58) _)
             clear hr58 hC58 hroom58 hi058 hsz58 hc58
             have KY58 := aM hy58
             have KA58 := aM hA58
             clear hy58 hA58
             replace q58 := eq_true q58
             refine start_ (n := 16) (S := fun w' => w'.cell? ⟨gb352, 0, none⟩ = some (.int .i64 a1_0) ∧ w'.cell? ⟨gb352, 1, none⟩ = some (.int .i64 a1_1) ∧ w'.cell? ⟨gb352, 2, none⟩ = some (.int .i64 a1_2) ∧ w'.cell? ⟨gb352, 3, none⟩ = some (.int .i64 a1_3) ∧ w'.cell? ⟨gb352, 4, none⟩ = some (.int .i64 a1_4) ∧ w'.cell? ⟨gb352, 5, none⟩ = some (.int .i64 a1_5) ∧ w'.cell? ⟨gb352, 6, none⟩ = some (.slice A1_6 l1_6.length c1_6) ∧ w'.cell? ⟨gb352, 7, none⟩ = some (.int .i64 a1_7)) (ds := []) #[false, false, false, false, false, false, false, false, false, false, false, false, false, false, false, false] (by kernel_rfl) rfl rfl ⟨(blk_cell BK352.out 0).trans rfl, (blk_cell BK352.out 1).trans rfl, (blk_cell BK352.out 2).trans rfl, (blk_cell BK352.out 3).trans rfl, (blk_cell BK352.out 4).trans rfl, (blk_cell BK352.out 5).trans rfl, (blk_cell BK352.out 6).trans rfl, (blk_cell BK352.out 7).trans rfl⟩ (fun hHeld => ?_); refine with_tabW emenderref09_Invert.tab15 emenderref09_Invert.bits15 (fun HT_ HW_ => ?_)
             generalize w55.drew = w56 at HO_0 BK352 BK353 BK385 HB HO390 HO395 hHeld ⊢
             refine pure_ (i := 0) (N := some 108) (v := ?_) (a' := ?_) #[true, false, false, false, false, false, false, false, false, false, false, false, false, false, false, false] rfl rfl (any_of HT_.out (by kernel_rfl)) (fun _ _ _ h => h) (Or.inl ⟨by rfl, ?_⟩) ?_ ?_
             rotate_left
             ·intro w'
              go_simp
              with_reducible rfl
             rotate_left
             ·simp only [Act.put, List.setIfInBounds_toArray, List.set_cons_zero, List.set_cons_succ, i64_w, i32_w]
              rfl
             refine pure_ (i := 1) (N := some 109) (v := ?_) (a' := ?_) #[true, true, false, false, false, false, false, false, false, false, false, false, false, false, false, false] rfl rfl (any_of HT_.out (by kernel_rfl)) (fun _ _ _ h => h) (Or.inl ⟨by rfl, ?_⟩) ?_ ?_
             rotate_left
             ·intro w'
              go_simp
              with_reducible rfl
             rotate_left
             ·simp only [Act.put, List.setIfInBounds_toArray, List.set_cons_zero, List.set_cons_succ, i64_w, i32_w]
              rfl
             refine pure_ (i := 3) (N := some 111) (v := ?_) (a' := ?_) #[true, true, false, true, false, false, false, false, false, false, false, false, false, false, false, false] rfl rfl (any_of HT_.out (by kernel_rfl)) (fun _ _ _ h => h) (Or.inl ⟨by rfl, ?_⟩) ?_ ?_
             rotate_left
             ·intro w'
              go_simp
              with_reducible rfl
             rotate_left
             ·simp only [Act.put, List.setIfInBounds_toArray, List.set_cons_zero, List.set_cons_succ, i64_w, i32_w]
              rfl
             refine pure_ (i := 6) (N := some 114) (v := ?_) (a' := ?_) #[true, true, false, true, false, false, true, false, false, false, false, false, false, false, false, false] rfl rfl (any_of HT_.out (by kernel_rfl)) (fun _ _ _ h => h) (Or.inl ⟨by rfl, ?_⟩) ?_ ?_
             rotate_left
             ·intro w'
              go_simp
              with_reducible rfl
             rotate_left
             ·simp only [Act.put, List.setIfInBounds_toArray, List.set_cons_zero, List.set_cons_succ, i64_w, i32_w]
              rfl
             refine pure_ (i := 7) (N := some 115) (v := ?_) (a' := ?_) #[true, true, false, true, false, false, true, true, false, false, false, false, false, false, false, false] rfl rfl (any_of HT_.out (by kernel_rfl)) (fun _ _ _ h => h) (Or.inl ⟨by rfl, ?_⟩) ?_ ?_
             rotate_left
             ·intro w'
              go_simp
              with_reducible rfl
             rotate_left
             ·simp only [Act.put, List.setIfInBounds_toArray, List.set_cons_zero, List.set_cons_succ, i64_w, i32_w]
              rfl
             refine pure_ (i := 9) (N := some 117) (v := ?_) (a' := ?_) #[true, true, false, true, false, false, true, true, false, true, false, false, false, false, false, false] rfl rfl (any_of HT_.out (by kernel_rfl)) (fun _ _ _ h => h) (Or.inl ⟨by rfl, ?_⟩) ?_ ?_
             rotate_left
             ·intro w'
              go_simp
              with_reducible rfl
             rotate_left
             ·simp only [Act.put, List.setIfInBounds_toArray, List.set_cons_zero, List.set_cons_succ, i64_w, i32_w]
              rfl
             refine take_ (i := 2) (N := some 110) (v := ?_) (a' := ?_) #[true, true, true, true, false, false, true, true, false, true, false, false, false, false, false, false] rfl rfl (take_ofW HT_.out HW_.out (by kernel_rfl)) (fun _ _ _ h => h) (Or.inl ⟨by rfl, ?_⟩) hHeld ?_ ?_
             rotate_left
             ·rintro w' ⟨s0, s1, s2, s3, s4, s5, s6, s7⟩
              go_simp
              with_reducible rfl
             rotate_left
             ·simp only [Act.put, List.setIfInBounds_toArray, List.set_cons_zero, List.set_cons_succ, i64_w, i32_w]
              rfl
             refine take_ (i := 4) (N := some 112) (v := ?_) (a' := ?_) #[true, true, true, true, true, false, true, true, false, true, false, false, false, false, false, false] rfl rfl (take_ofW HT_.out HW_.out (by kernel_rfl)) (fun _ _ _ h => h) (Or.inl ⟨by rfl, ?_⟩) hHeld ?_ ?_
             rotate_left
             ·rintro w' ⟨s0, s1, s2, s3, s4, s5, s6, s7⟩
              go_simp
              with_reducible rfl
             rotate_left
             ·simp only [Act.put, List.setIfInBounds_toArray, List.set_cons_zero, List.set_cons_succ, i64_w, i32_w]
              rfl
             refine pure_ (i := 5) (N := some 113) (v := ?_) (a' := ?_) #[true, true, true, true, true, true, true, true, false, true, false, false, false, false, false, false] rfl rfl (any_of HT_.out (by kernel_rfl)) (fun _ _ _ h => h) (Or.inl ⟨by rfl, ?_⟩) ?_ ?_
             rotate_left
             ·intro w'
              go_simp
              with_reducible rfl
             rotate_left
             ·simp only [Act.put, List.setIfInBounds_toArray, List.set_cons_zero, List.set_cons_succ, i64_w, i32_w]
              rfl
             refine take_ (i := 8) (N := some 116) (v := ?_) (a' := ?_) #[true, true, true, true, true, true, true, true, true, true, false, false, false, false, false, false] rfl rfl (take_ofW HT_.out HW_.out (by kernel_rfl)) (fun _ _ _ h => h) (Or.inl ⟨by rfl, ?_⟩) hHeld ?_ ?_
             rotate_left
             ·rintro w' ⟨s0, s1, s2, s3, s4, s5, s6, s7⟩
              go_simp
              with_reducible rfl
             rotate_left
             ·simp only [Act.put, List.setIfInBounds_toArray, List.set_cons_zero, List.set_cons_succ, i64_w, i32_w]
              rfl
             refine take_ (i := 10) (N := some 118) (v := ?_) (a' := ?_) #[true, true, true, true, true, true, true, true, true, true, true, false, false, false, false, false] rfl rfl (take_ofW HT_.out HW_.out (by kernel_rfl)) (fun _ _ _ h => h) (Or.inl ⟨by rfl, ?_⟩) hHeld ?_ ?_
             rotate_left
             ·rintro w' ⟨s0, s1, s2, s3, s4, s5, s6, s7⟩
              go_simp
              with_reducible rfl
             rotate_left
             ·simp only [Act.put, List.setIfInBounds_toArray, List.set_cons_zero, List.set_cons_succ, i64_w, i32_w]
              rfl
             refine pure_ (i := 11) (N := some 119) (v := ?_) (a' := ?_) #[true, true, true, true, true, true, true, true, true, true, true, true, false, false, false, false] rfl rfl (any_of HT_.out (by kernel_rfl)) (fun _ _ _ h => h) (Or.inl ⟨by rfl, ?_⟩) ?_ ?_
             rotate_left
             ·intro w'
              go_simp
              with_reducible rfl
             rotate_left
             ·simp only [Act.put, List.setIfInBounds_toArray, List.set_cons_zero, List.set_cons_succ, i64_w, i32_w]
              rfl
             refine one_ (i := 12) (N := some 120) #[true, true, true, true, true, true, true, true, true, true, true, true, true, false, false, false] rfl rfl (one_of HT_.out (by kernel_rfl)) (by decide) (fun K hK => ?_)
             refine Kd.N_lit_step (Kd.slice 57 k57) _ 22 ?hg (N' := 120) ?hd (xs := ([y386, y391] : List (List (S57)))) (inner := [.slice A57 y386.length c57, .slice A58 y391.length c58]) (ok := (fun k_ => (P0_ k_ ∨ w.heap.size ≤ k_) ∧ k_ ≠ gb352 ∧ k_ ≠ gb353 ∧ k_ ≠ gb385)) (okp := (fun k_ => (P0_ k_ ∨ w.heap.size ≤ k_) ∧ k_ ≠ gb352 ∧ k_ ≠ gb353 ∧ k_ ≠ gb385)) ?hr ?hp (fun _ hk => hk) ((show ∀ k_, w56.heap.size ≤ k_ → (fun k_ => (P0_ k_ ∨ w.heap.size ≤ k_) ∧ k_ ≠ gb352 ∧ k_ ≠ gb353 ∧ k_ ≠ gb385) k_ from fun k_ hk => ⟨(.inr (Nat.le_trans (below_size (by repeat (first|(with_reducible first|exact HB.out|apply lA|apply lN|apply lD|refine lS ?_ GE352.out|refine lS ?_ GE353.out|refine lS ?_ GE385.out)|exact HB.out))) hk)), Kd.freshB (g := gb352) (o := .cells #[.int .i64 a1_0, .int .i64 a1_1, .int .i64 a1_2, .int .i64 a1_3, .int .i64 a1_4, .int .i64 a1_5, .slice A1_6 l1_6.length c1_6, .int .i64 a1_7] 24 (0, 0)) (by (with_reducible repeat (first|refine bN ?_ _|refine bD ?_|refine bA ?_ _)); exact BK352.out) k_ hk, Kd.freshB (g := gb353) (o := .cells #[.int .i64 x354000_15, .int .i64 x354001_15, .int .i64 x354002_15, .int .i64 x354003_15, .int .i64 x354004_15, .int .i64 x354005_15, .slice none 0 0, .int .i64 x354007_15] 24 (0, 0)) (by (with_reducible repeat (first|refine bN ?_ _|refine bD ?_|refine bA ?_ _)); exact BK353.out) k_ hk, Kd.freshB (g := gb385) (o := .cells #[.int .i64 1, .int .i64 a1_1, .int .i64 (wrap64 ((wrap64 (a1_1 + (l1_6.length : Int))) + (wrap64 (a1_4 - a1_3)))), .int .i64 (wrap64 (a1_1 + a1_5)), .int .i64 (wrap64 ((wrap64 (a1_1 + a1_5)) + (wrap64 (a1_4 - a1_3)))), .int .i64 (wrap64 (a1_3 - a1_1)), .slice none 0 0, .int .i64 0] 24 (0, 0)) (by (with_reducible repeat (first|refine bN ?_ _|refine bD ?_|refine bA ?_ _)); exact BK385.out) k_ hk⟩) _ (Nat.le_refl _)) (Below.refl _ _) (Nat.le_refl _) (by simp) ?_; (case hd => rfl); (case hg => rfl); (case hr => first | (go_simp; done) | (go_simp; rfl)); (case hp => exact (Reps.one (show Kd.FK (Kd.slice 57 k57) _ _ y386 [.slice A57 y386.length c57] from (Kd.FK_slice_mk (Kd.V_reads' (Kd.V_mono (ok' := (fun k_ => (P0_ k_ ∨ w.heap.size ≤ k_) ∧ k_ ≠ gb352 ∧ k_ ≠ gb353 ∧ k_ ≠ gb385)) (HO390.out) (fun k_ hk => ⟨hk.1, ⟨hk.2.1, ⟨hk.2.2.1, hk.2.2.2⟩⟩⟩))).2.1 (Kd.V_F (Kd.V_mono (ok' := (fun k_ => (P0_ k_ ∨ w.heap.size ≤ k_) ∧ k_ ≠ gb352 ∧ k_ ≠ gb353 ∧ k_ ≠ gb385)) (HO390.out) (fun k_ hk => ⟨hk.1, ⟨hk.2.1, ⟨hk.2.2.1, hk.2.2.2⟩⟩⟩))))) (Reps.one (show Kd.FK (Kd.slice 57 k57) _ _ y391 [.slice A58 y391.length c58] from (Kd.FK_slice_mk (Kd.V_reads' (Kd.V_mono (ok' := (fun k_ => (P0_ k_ ∨ w.heap.size ≤ k_) ∧ k_ ≠ gb352 ∧ k_ ≠ gb353 ∧ k_ ≠ gb385)) (HO395.out) (fun k_ hk => ⟨hk.1, ⟨hk.2.1, ⟨hk.2.2.1, hk.2.2.2⟩⟩⟩))).2.1 (Kd.V_F (Kd.V_mono (ok' := (fun k_ => (P0_ k_ ∨ w.heap.size ≤ k_) ∧ k_ ≠ gb352 ∧ k_ ≠ gb353 ∧ k_ ≠ gb385)) (HO395.out) (fun k_ hk => ⟨hk.1, ⟨hk.2.1, ⟨hk.2.2.1, hk.2.2.2⟩⟩⟩))))) (Reps.none _ _))))
             intro v397 w59 ho60 hb hg_ hnew_
             clear hg_ hnew_
             (first | rw [← Ny396.out] at ho60 | (simp only [Int.reduceToNat] at ho60; rw [← Ny396.out] at ho60))
             have n0_ := aM (Kd.V_elder' (by (with_reducible repeat (first | apply Kd.V_alloc | apply Kd.V_drewN | apply Kd.V_drew)); exact HO_0.out) (Kd.N_base ho60) hb)
             have n1_ := aM (Kd.V_elder' (by (with_reducible repeat (first | apply Kd.V_alloc | apply Kd.V_drewN | apply Kd.V_drew)); exact HO390.out) (Kd.N_base ho60) hb)
             have n2_ := aM (Kd.V_elder' (by (with_reducible repeat (first | apply Kd.V_alloc | apply Kd.V_drewN | apply Kd.V_drew)); exact HO395.out) (Kd.N_base ho60) hb)
             have n3_ := aM (Kd.N_lower ho60 (below_size (by repeat (first|(with_reducible first|exact HB.out|apply lA|apply lN|apply lD|refine lS ?_ GE352.out|refine lS ?_ GE353.out|refine lS ?_ GE385.out)|exact HB.out))))
             have n4_ := aM (blk_below (by (with_reducible repeat (first|refine bN ?_ _|refine bD ?_|refine bA ?_ _)); exact BK352.out) hb)
             have n5_ := aM (blk_below (by (with_reducible repeat (first|refine bN ?_ _|refine bD ?_|refine bA ?_ _)); exact BK353.out) hb)
             have n6_ := aM (blk_below (by (with_reducible repeat (first|refine bN ?_ _|refine bD ?_|refine bA ?_ _)); exact BK385.out) hb)
             have n7_ := aM (below_step (by repeat (first|(with_reducible first|exact HB.out|apply lA|apply lN|apply lD|refine lS ?_ GE352.out|refine lS ?_ GE353.out|refine lS ?_ GE385.out)|exact HB.out)) hb)
             clear HO_0
             clear HO390
             clear HO395
             clear BK352
             clear BK353
             clear BK385
             clear HB
             have HO_0 := n0_
             have HO390 := n1_
             have HO395 := n2_
             have HO398 := n3_
             have BK352 := n4_
             have BK353 := n5_
             have BK385 := n6_
             have HB := n7_
             clear n0_ n1_ n2_ n3_ n4_ n5_ n6_ n7_
             clear hb ho60
             obtain ⟨Ao61, co61, eo61⟩ := Kd.N_slice HO398.out
             (first | subst eo61 | (injection eo61 with f1_ f2_ f3_; have f4_ := f1_.symm; have f5_ := f3_.symm; clear f1_ f2_ f3_; subst f4_; subst f5_))
             refine hK.out _ _ ⟨(blk_cell BK352.out 0).trans rfl, (blk_cell BK352.out 1).trans rfl, (blk_cell BK352.out 2).trans rfl, (blk_cell BK352.out 3).trans rfl, (blk_cell BK352.out 4).trans rfl, (blk_cell BK352.out 5).trans rfl, (blk_cell BK352.out 6).trans rfl, (blk_cell BK352.out 7).trans rfl⟩ (fun hHeld => ?_)
             clear hK K
             refine norm_ (a' := ?_) ?_ ?_
             rotate_left
             ·show Act.put _ (some 120) _ = _
              simp only [Act.put, List.setIfInBounds_toArray, List.set_cons_zero, List.set_cons_succ, i64_w, i32_w]
              rfl
             refine one_ (i := 13) (N := some 121) #[true, true, true, true, true, true, true, true, true, true, true, true, true, true, false, false] rfl rfl (one_of HT_.out (by kernel_rfl)) (by decide) (fun K hK => ?_)
             refine goes_ Try.func36 (by kernel_rfl) rfl #[.slice Ao61 y396.length co61] (by rfl) rfl rfl (by (try simp only [List.map_toArray, List.map_cons, List.map_nil]); first | done | rfl | (simp only [List.length_drop, List.length_take]; rfl)) ?_
             with_reducible refine (emenderref09_join.calls kj15 _ _ y396 t399 _ ?side1 ?side2 A48.out).mono ?_
             (case side1 => repeat (first | exact (Kd.N_reads' HO398.out).2.2 | (with_reducible refine Kd.C_alloc ?_ _) | (with_reducible refine Kd.C_drewN ?_ _) | (with_reducible refine Kd.C_drew ?_)))
             (case side2 => exact (Kd.N_reads' HO398.out).2.1)
             rintro e w62 ⟨v400, rfl, ho0, hb⟩
             refine ⟨_, rfl, ?_⟩
             have n0_ := aM (Kd.V_elder' (by (with_reducible repeat (first | apply Kd.V_alloc | apply Kd.V_drewN | apply Kd.V_drew)); exact HO_0.out) (Kd.R_base ho0) hb)
             have n1_ := aM (Kd.V_elder' (by (with_reducible repeat (first | apply Kd.V_alloc | apply Kd.V_drewN | apply Kd.V_drew)); exact HO390.out) (Kd.R_base ho0) hb)
             have n2_ := aM (Kd.V_elder' (by (with_reducible repeat (first | apply Kd.V_alloc | apply Kd.V_drewN | apply Kd.V_drew)); exact HO395.out) (Kd.R_base ho0) hb)
             have n3_ := aM (Kd.N_elder' (by (with_reducible repeat (first | apply Kd.N_alloc | apply Kd.N_drewN | apply Kd.N_drew)); exact HO398.out) (Kd.R_base ho0) hb)
             have n4_ := aM (Kd.R_lower (Kd.R_newM (M := fun k_ => (w.heap.size ≤ k_)) ho0 (below_size (by repeat (first|(with_reducible first|exact HB.out|apply lA|apply lN|apply lD|refine lS ?_ GE352.out|refine lS ?_ GE353.out|refine lS ?_ GE385.out)|exact HB.out))) (fun k_ h_ => h_)) (below_size (by repeat (first|(with_reducible first|exact HB.out|apply lA|apply lN|apply lD|refine lS ?_ GE352.out|refine lS ?_ GE353.out|refine lS ?_ GE385.out)|exact HB.out))))
             have n5_ := aM (blk_below (by (with_reducible repeat (first|refine bN ?_ _|refine bD ?_|refine bA ?_ _)); exact BK352.out) hb)
             have n6_ := aM (blk_below (by (with_reducible repeat (first|refine bN ?_ _|refine bD ?_|refine bA ?_ _)); exact BK353.out) hb)
             have n7_ := aM (blk_below (by (with_reducible repeat (first|refine bN ?_ _|refine bD ?_|refine bA ?_ _)); exact BK385.out) hb)
             have n8_ := aM (below_step (by repeat (first|(with_reducible first|exact HB.out|apply lA|apply lN|apply lD|refine lS ?_ GE352.out|refine lS ?_ GE353.out|refine lS ?_ GE385.out)|exact HB.out)) hb)
             clear HO_0
             clear HO390
             clear HO395
             clear HO398
             clear BK352
             clear BK353
             clear BK385
             clear HB
             have HO_0 := n0_
             have HO390 := n1_
             have HO395 := n2_
             have HO398 := n3_
             have HO401 := n4_
             have BK352 := n5_
             have BK353 := n6_
             have BK385 := n7_
             have HB := n8_
             clear n0_ n1_ n2_ n3_ n4_ n5_ n6_ n7_ n8_
             obtain ⟨Ao63, co63, eo63⟩ := Kd.R_slice HO401.out
             (first | subst eo63 | (injection eo63 with f1_ f2_ f3_; have f4_ := f1_.symm; have f5_ := f3_.symm; clear f1_ f2_ f3_; subst f4_; subst f5_))
             refine hK.out _ _ ⟨(blk_cell BK352.out 0).trans rfl, (blk_cell BK352.out 1).trans rfl, (blk_cell BK352.out 2).trans rfl, (blk_cell BK352.out 3).trans rfl, (blk_cell BK352.out 4).trans rfl, (blk_cell BK352.out 5).trans rfl, (blk_cell BK352.out 6).trans rfl, (blk_cell BK352.out 7).trans rfl⟩ (fun hHeld => ?_)
             clear hK K
             refine norm_ (a' := ?_) ?_ ?_
             rotate_left
             ·show Act.put _ (some 121) _ = _
              simp only [Act.put, List.setIfInBounds_toArray, List.set_cons_zero, List.set_cons_succ, i64_w, i32_w]
              rfl
             refine pure_ (i := 14) (N := some 122) (v := ?_) (a' := ?_) #[true, true, true, true, true, true, true, true, true, true, true, true, true, true, true, false] rfl rfl (any_of HT_.out (by kernel_rfl)) (fun _ _ _ h => h) (Or.inl ⟨by rfl, ?_⟩) ?_ ?_
             rotate_left
             ·intro w'
              go_simp
              with_reducible rfl
             rotate_left
             ·simp only [Act.put, List.setIfInBounds_toArray, List.set_cons_zero, List.set_cons_succ, i64_w, i32_w]
              rfl
             refine one_ (i := 15) (N := none) #[true, true, true, true, true, true, true, true, true, true, true, true, true, true, true, true] rfl rfl (one_of HT_.out (by kernel_rfl)) (by decide) (fun K hK => ?_)
             have hs64 : w62.cell? ⟨gb385, 6, none⟩ = some (.slice none 0 0) := (blk_cell BK385.out 6).trans rfl
             have hfs64 := blk_frozen BK385.out 6
             have hns64_0 := NB352_385.out
             have hns64_1 := NB353_385.out
             have hms64_0 := NB385_352.out
             have hms64_1 := NB385_353.out
             refine skip_ (w1 := ?_) (by rfl) rfl ?_ ?_
             rotate_left
             ·go_simp
              rfl
             refine hK.out _ _ ⟨((cell_far (p := ⟨gb385, _, none⟩) NB352_385.out _).trans (hHeld.1)), ((cell_far (p := ⟨gb385, _, none⟩) NB352_385.out _).trans (hHeld.2.1)), ((cell_far (p := ⟨gb385, _, none⟩) NB352_385.out _).trans (hHeld.2.2.1)), ((cell_far (p := ⟨gb385, _, none⟩) NB352_385.out _).trans (hHeld.2.2.2.1)), ((cell_far (p := ⟨gb385, _, none⟩) NB352_385.out _).trans (hHeld.2.2.2.2.1)), ((cell_far (p := ⟨gb385, _, none⟩) NB352_385.out _).trans (hHeld.2.2.2.2.2.1)), ((cell_far (p := ⟨gb385, _, none⟩) NB352_385.out _).trans (hHeld.2.2.2.2.2.2.1)), ((cell_far (p := ⟨gb385, _, none⟩) NB352_385.out _).trans (hHeld.2.2.2.2.2.2.2))⟩ (fun hHeld => ?_)
             clear hK K
             refine done_ (done_of HT_.out (by kernel_rfl)) ?_
             obtain ⟨hcz65_0, hcz65_1, hcz65_2, hcz65_3, hcz65_4, hcz65_5, hcz65_6, hcz65_7, hfz65_0, hfz65_1, hfz65_2, hfz65_3, hfz65_4, hfz65_5, hfz65_6, hfz65_7⟩ := bx8z BK385.out
             obtain ⟨hcz66_0, hcz66_1, hcz66_2, hcz66_3, hcz66_4, hcz66_5, hcz66_6, hcz66_7, hfz66_0, hfz66_1, hfz66_2, hfz66_3, hfz66_4, hfz66_5, hfz66_6, hfz66_7⟩ := bx8z BK353.out
             try go_wp2
             refine bodyPost_ret (results_ct rfl _ _ gb353 24 #[.int .i64 1, .int .i64 a1_1, .int .i64 (wrap64 ((wrap64 (a1_1 + (l1_6.length : Int))) + (wrap64 (a1_4 - a1_3)))), .int .i64 (wrap64 (a1_1 + a1_5)), .int .i64 (wrap64 ((wrap64 (a1_1 + a1_5)) + (wrap64 (a1_4 - a1_3)))), .int .i64 (wrap64 (a1_3 - a1_1)), .slice Ao63 t399.length co63, .int .i64 0] (0, 0) _ rfl (by (with_reducible repeat (first|refine bN ?_ _|refine bD ?_|refine bA ?_ _)); apply put8; (with_reducible repeat (first|refine bN ?_ _|refine bD ?_|refine bA ?_ _)); refine bF ?_ NB353_385.out _; (with_reducible repeat (first|refine bN ?_ _|refine bD ?_|refine bA ?_ _)); exact BK353.out) Try.underlying24 rfl (by kernel_rfl)) rfl ?_
             exact ⟨_, by first | rfl | (simp [errW_none, errW_some] <;> rfl) | (simp [*, errW_none, errW_some] <;> rfl), by (with_reducible repeat (first | apply Kd.R_alloc | apply Kd.R_drewN | apply Kd.R_drew)); exact Kd.R_mono (Kd.Rf8 (Kd.R_far (p := ⟨gb385, 6, none⟩) (Kd.R_types (Kd.R_types HO401.out BK385.out (by decide)) BK353.out (by decide)) (fun _ hk => hk.1.2) (.slice Ao63 t399.length co63)) (fun _ hk => hk.2)) (fun _ hk => hk.1.1.1), by repeat (first|(with_reducible first|exact HB.out|apply lA|apply lN|apply lD|refine lS ?_ GE352.out|refine lS ?_ GE353.out|refine lS ?_ GE385.out)|exact HB.out)⟩
            ·rw [if_neg c47] at H
             exact absurd H (by simp)
           ·rw [if_neg c46] at H
            exact absurd H (by simp)
          ·rw [if_neg c45] at H
           exact absurd H (by simp)
         ·rw [if_neg c44] at H
          exact absurd H (by simp)
        ·rw [if_neg c43] at H
         exact absurd H (by simp)
       ·rw [if_neg c42] at H
        exact absurd H (by simp)
      ·rw [if_neg c41] at H
       have c41b0 : (a1_0 == 1) = false := beq_eq_false_iff_ne.mpr c41
       have c41b1 : (a1_0 != 1) = true := bne_iff_ne.mpr c41
       by_cases c67 : a1_0 = 0
       ·rw [if_pos c67] at H
        have c67b0 : (a1_0 == 0) = true := beq_iff_eq.mpr c67
        have c67b1 : (a1_0 != 0) = false := bne_eq_false_iff_eq.mpr c67
        clear c67
        obtain ⟨y363, hy363⟩ : ∃ y_ : List (S57), y_ = (([] : List (S57))) := ⟨_, rfl⟩
        replace H : (if 0 ≤ a1_1 then (if a1_1 ≤ a1_2 then (if a1_2 ≤ (l0.length : Int) then ((some ((l0.take (a1_2 : Int).toNat).drop (a1_1 : Int).toNat : List (S57))).bind fun y366 => (if y363.length + y366.length < 4398046511104 then (some (0, a1_1, wrap64 (a1_1 + (l1_6.length : Int)), 0, 0, 0, (y363 ++ y366), 0, 0)) else (none))) else (none)) else (none)) else (none)) = some (r1, r2, r3, r4, r5, r6, r7, r8, r9) := by first | (rw [hy363]; with_reducible exact H) | (have H2_ := (Option.bind_some _ _).symm.trans H; rw [hy363]; with_reducible exact H2_) | (have H2_ := (Option.bind_some _ _).symm.trans H; with_reducible exact H2_) | with_reducible exact H | (rw [hy363]; exact H) | exact H
        have Ny363 := aM hy363
        clear hy363
        by_cases c68 : 0 ≤ a1_1
        ·rw [if_pos c68] at H
         have c68b0 := eq_true c68
         have c68b1 : decide (0 ≤ a1_1) = true := decide_eq_true c68
         clear c68
         by_cases c69 : a1_1 ≤ a1_2
         ·rw [if_pos c69] at H
          have c69b0 := eq_true c69
          have c69b1 : decide (a1_1 ≤ a1_2) = true := decide_eq_true c69
          clear c69
          by_cases c70 : a1_2 ≤ (l0.length : Int)
          ·rw [if_pos c70] at H
           have c70b0 := eq_true c70
           have c70b1 : decide (a1_2 ≤ (l0.length : Int)) = true := decide_eq_true c70
           clear c70
           obtain ⟨y366, hy366⟩ : ∃ y_ : List (S57), y_ = ((l0.take (a1_2 : Int).toNat).drop (a1_1 : Int).toNat) := ⟨_, rfl⟩
           replace H : (if y363.length + y366.length < 4398046511104 then (some (0, a1_1, wrap64 (a1_1 + (l1_6.length : Int)), 0, 0, 0, (y363 ++ y366), 0, 0)) else (none)) = some (r1, r2, r3, r4, r5, r6, r7, r8, r9) := by first | (rw [hy366]; with_reducible exact H) | (have H2_ := (Option.bind_some _ _).symm.trans H; rw [hy366]; with_reducible exact H2_) | (have H2_ := (Option.bind_some _ _).symm.trans H; with_reducible exact H2_) | with_reducible exact H | (rw [hy366]; exact H) | exact H
           have Ny366 := aM hy366
           clear hy366
           by_cases c71 : y363.length + y366.length < 4398046511104
           ·rw [if_pos c71] at H
            have LMc71 := aM c71
            clear c71
            obtain ⟨y371, hy371⟩ : ∃ y_ : List (S57), y_ = (y363 ++ y366) := ⟨_, rfl⟩
            replace H : (some (0, a1_1, wrap64 (a1_1 + (l1_6.length : Int)), 0, 0, 0, y371, 0, 0)) = some (r1, r2, r3, r4, r5, r6, r7, r8, r9) := by first | (rw [hy371]; with_reducible exact H) | (have H2_ := (Option.bind_some _ _).symm.trans H; rw [hy371]; with_reducible exact H2_) | (have H2_ := (Option.bind_some _ _).symm.trans H; with_reducible exact H2_) | with_reducible exact H | (rw [hy371]; exact H) | exact H
            have Ny371 := aM hy371
            clear hy371
            simp only [Option.some.injEq, Prod.mk.injEq] at H
            obtain ⟨rfl, rfl, rfl, rfl, rfl, rfl, rfl, rfl, rfl⟩ := H
            have hnb72 := NB352_353.out
            have hnc72 := NB353_352.out
            obtain ⟨hcz73_0, hcz73_1, hcz73_2, hcz73_3, hcz73_4, hcz73_5, hcz73_6, hcz73_7, hfz73_0, hfz73_1, hfz73_2, hfz73_3, hfz73_4, hfz73_5, hfz73_6, hfz73_7⟩ := bx8z BK352.out
            try go_wp2
            have n0_ := aM (Kd.V_drew HO_0.out)
            have n1_ := aM (bD BK352.out)
            have n2_ := aM (bD BK353.out)
            have n3_ := aM (lD HB.out)
            clear HO_0
            clear BK352
            clear BK353
            clear HB
            have HO_0 := n0_
            have BK352 := n1_
            have BK353 := n2_
            have HB := n3_
            clear n0_ n1_ n2_ n3_
            have q75 : (a1_2 : Int) ≤ ((l0.length : Int) : Int) := of_decide_eq_true (by first | (with_reducible assumption) | assumption)
            obtain ⟨i075, hi075, _, hsz75, _⟩ := info_parts info57
            have hroom75 : l0.length ≤ c0 := (Kd.V_reads' HO_0.out).2.1
            have hC75 : Kd.F k57 _ _ A0 l0.length l0 := (Kd.V_at (base := w.heap.size) HO_0.out).2.2
            have ql75 : (a1_1 : Int) ≤ (a1_2 : Int) := of_decide_eq_true (by first | (with_reducible assumption) | assumption)
            have q075 : (0 : Int) ≤ (a1_1 : Int) := of_decide_eq_true (by first | (with_reducible assumption) | assumption)
            have hcut75 := cut_mid (P := Try.prog) 22 57 .i64 .i64 Try.underlying22 hi075 4 hsz75 A0 l0.length c0 a1_1 a1_2 q075 ql75 q75 hroom75
            have hr75 := Kd.F_mid (lo := (a1_1 : Int).toNat) (hi := (a1_2 : Int).toNat) (c := c0) hC75 (by omega) (by omega) hroom75
            obtain ⟨A75, hA75⟩ : ∃ A1, A1 = (if c0 = (a1_1 : Int).toNat then A0 else (A0 : Option Addr).map (·.add ((a1_1 : Int).toNat * 4))) := ⟨_, rfl⟩
            obtain ⟨c75, hc75⟩ : ∃ c1, c1 = c0 - (a1_1 : Int).toNat := ⟨_, rfl⟩
            have hy75 : y366.length = (a1_2 : Int).toNat - (a1_1 : Int).toNat := (by rw [Ny366.out, List.length_drop, List.length_take] <;> omega)
            rw [show ((l0).take (a1_2 : Int).toNat).drop (a1_1 : Int).toNat = y366 from Ny366.out.symm] at hr75
            replace hr75 : Kd.F k57 _ _ A75 y366.length y366 := (by rw [hA75]; exact hr75)
            rw [← hy75, ← hA75, ← hc75] at hcut75
            have HO370 := aM (show Kd.V k57 57 _ w.heap.size _ (.slice A75 y366.length c75) y366 from Kd.V_mk (by rw [hy75, hc75]; exact Nat.sub_le_sub_right (Nat.le_trans (by omega) hroom75) _) hr75)
            have HC370 := aM (show y366.length ≤ c75 from by rw [hy75, hc75]; exact Nat.sub_le_sub_right (Nat.le_trans (by omega) hroom75) _)
            clear hr75 hC75 hroom75 hi075 hsz75 hc75
            have KY75 := aM hy75
            have KA75 := aM hA75
            clear hy75 hA75
            replace q75 := eq_true q75
            refine start_ (n := 17) (S := fun w' => w'.cell? ⟨gb352, 0, none⟩ = some (.int .i64 a1_0) ∧ w'.cell? ⟨gb352, 1, none⟩ = some (.int .i64 a1_1) ∧ w'.cell? ⟨gb352, 2, none⟩ = some (.int .i64 a1_2) ∧ w'.cell? ⟨gb352, 3, none⟩ = some (.int .i64 a1_3) ∧ w'.cell? ⟨gb352, 4, none⟩ = some (.int .i64 a1_4) ∧ w'.cell? ⟨gb352, 5, none⟩ = some (.int .i64 a1_5) ∧ w'.cell? ⟨gb352, 6, none⟩ = some (.slice A1_6 l1_6.length c1_6) ∧ w'.cell? ⟨gb352, 7, none⟩ = some (.int .i64 a1_7)) (ds := []) #[false, false, false, false, false, false, false, false, false, false, false, false, false, false, false, false, false] (by kernel_rfl) rfl rfl ⟨(blk_cell BK352.out 0).trans rfl, (blk_cell BK352.out 1).trans rfl, (blk_cell BK352.out 2).trans rfl, (blk_cell BK352.out 3).trans rfl, (blk_cell BK352.out 4).trans rfl, (blk_cell BK352.out 5).trans rfl, (blk_cell BK352.out 6).trans rfl, (blk_cell BK352.out 7).trans rfl⟩ (fun hHeld => ?_); refine with_tabW emenderref09_Invert.tab12 emenderref09_Invert.bits12 (fun HT_ HW_ => ?_)
            generalize wc.drew = w74 at HO_0 BK352 BK353 HB HO370 hHeld ⊢
            refine pure_ (i := 0) (N := some 60) (v := ?_) (a' := ?_) #[true, false, false, false, false, false, false, false, false, false, false, false, false, false, false, false, false] rfl rfl (any_of HT_.out (by kernel_rfl)) (fun _ _ _ h => h) (Or.inl ⟨by rfl, ?_⟩) ?_ ?_
            rotate_left
            ·intro w'
             go_simp
             with_reducible rfl
            rotate_left
            ·simp only [Act.put, List.setIfInBounds_toArray, List.set_cons_zero, List.set_cons_succ, i64_w, i32_w]
             rfl
            refine pure_ (i := 2) (N := some 62) (v := ?_) (a' := ?_) #[true, false, true, false, false, false, false, false, false, false, false, false, false, false, false, false, false] rfl rfl (any_of HT_.out (by kernel_rfl)) (fun _ _ _ h => h) (Or.inl ⟨by rfl, ?_⟩) ?_ ?_
            rotate_left
            ·intro w'
             go_simp
             with_reducible rfl
            rotate_left
            ·simp only [Act.put, List.setIfInBounds_toArray, List.set_cons_zero, List.set_cons_succ, i64_w, i32_w]
             rfl
            refine pure_ (i := 4) (N := some 64) (v := ?_) (a' := ?_) #[true, false, true, false, true, false, false, false, false, false, false, false, false, false, false, false, false] rfl rfl (any_of HT_.out (by kernel_rfl)) (fun _ _ _ h => h) (Or.inl ⟨by rfl, ?_⟩) ?_ ?_
            rotate_left
            ·intro w'
             go_simp
             with_reducible rfl
            rotate_left
            ·simp only [Act.put, List.setIfInBounds_toArray, List.set_cons_zero, List.set_cons_succ, i64_w, i32_w]
             rfl
            refine pure_ (i := 7) (N := some 67) (v := ?_) (a' := ?_) #[true, false, true, false, true, false, false, true, false, false, false, false, false, false, false, false, false] rfl rfl (any_of HT_.out (by kernel_rfl)) (fun _ _ _ h => h) (Or.inl ⟨by rfl, ?_⟩) ?_ ?_
            rotate_left
            ·intro w'
             go_simp
             with_reducible rfl
            rotate_left
            ·simp only [Act.put, List.setIfInBounds_toArray, List.set_cons_zero, List.set_cons_succ, i64_w, i32_w]
             rfl
            refine pure_ (i := 8) (N := some 68) (v := ?_) (a' := ?_) #[true, false, true, false, true, false, false, true, true, false, false, false, false, false, false, false, false] rfl rfl (any_of HT_.out (by kernel_rfl)) (fun _ _ _ h => h) (Or.inl ⟨by rfl, ?_⟩) ?_ ?_
            rotate_left
            ·intro w'
             go_simp
             with_reducible rfl
            rotate_left
            ·simp only [Act.put, List.setIfInBounds_toArray, List.set_cons_zero, List.set_cons_succ, i64_w, i32_w]
             rfl
            refine pure_ (i := 10) (N := some 70) (v := ?_) (a' := ?_) #[true, false, true, false, true, false, false, true, true, false, true, false, false, false, false, false, false] rfl rfl (any_of HT_.out (by kernel_rfl)) (fun _ _ _ h => h) (Or.inl ⟨by rfl, ?_⟩) ?_ ?_
            rotate_left
            ·intro w'
             go_simp
             with_reducible rfl
            rotate_left
            ·simp only [Act.put, List.setIfInBounds_toArray, List.set_cons_zero, List.set_cons_succ, i64_w, i32_w]
             rfl
            refine take_ (i := 1) (N := some 61) (v := ?_) (a' := ?_) #[true, true, true, false, true, false, false, true, true, false, true, false, false, false, false, false, false] rfl rfl (take_ofW HT_.out HW_.out (by kernel_rfl)) (fun _ _ _ h => h) (Or.inl ⟨by rfl, ?_⟩) hHeld ?_ ?_
            rotate_left
            ·rintro w' ⟨s0, s1, s2, s3, s4, s5, s6, s7⟩
             go_simp
             with_reducible rfl
            rotate_left
            ·simp only [Act.put, List.setIfInBounds_toArray, List.set_cons_zero, List.set_cons_succ, i64_w, i32_w]
             rfl
            refine take_ (i := 3) (N := some 63) (v := ?_) (a' := ?_) #[true, true, true, true, true, false, false, true, true, false, true, false, false, false, false, false, false] rfl rfl (take_ofW HT_.out HW_.out (by kernel_rfl)) (fun _ _ _ h => h) (Or.inl ⟨by rfl, ?_⟩) hHeld ?_ ?_
            rotate_left
            ·rintro w' ⟨s0, s1, s2, s3, s4, s5, s6, s7⟩
             go_simp
             with_reducible rfl
            rotate_left
            ·simp only [Act.put, List.setIfInBounds_toArray, List.set_cons_zero, List.set_cons_succ, i64_w, i32_w]
             rfl
            refine pure_ (i := 5) (N := some 65) (v := ?_) (a' := ?_) #[true, true, true, true, true, true, false, true, true, false, true, false, false, false, false, false, false] rfl rfl (any_of HT_.out (by kernel_rfl)) (fun _ _ _ h => h) (Or.inl ⟨by rfl, ?_⟩) ?_ ?_
            rotate_left
            ·intro w'
             go_simp
             with_reducible rfl
            rotate_left
            ·simp only [Act.put, List.setIfInBounds_toArray, List.set_cons_zero, List.set_cons_succ, i64_w, i32_w]
             rfl
            refine take_ (i := 9) (N := some 69) (v := ?_) (a' := ?_) #[true, true, true, true, true, true, false, true, true, true, true, false, false, false, false, false, false] rfl rfl (take_ofW HT_.out HW_.out (by kernel_rfl)) (fun _ _ _ h => h) (Or.inl ⟨by rfl, ?_⟩) hHeld ?_ ?_
            rotate_left
            ·rintro w' ⟨s0, s1, s2, s3, s4, s5, s6, s7⟩
             go_simp
             with_reducible rfl
            rotate_left
            ·simp only [Act.put, List.setIfInBounds_toArray, List.set_cons_zero, List.set_cons_succ, i64_w, i32_w]
             rfl
            refine take_ (i := 11) (N := some 71) (v := ?_) (a' := ?_) #[true, true, true, true, true, true, false, true, true, true, true, true, false, false, false, false, false] rfl rfl (take_ofW HT_.out HW_.out (by kernel_rfl)) (fun _ _ _ h => h) (Or.inl ⟨by rfl, ?_⟩) hHeld ?_ ?_
            rotate_left
            ·rintro w' ⟨s0, s1, s2, s3, s4, s5, s6, s7⟩
             go_simp
             with_reducible rfl
            rotate_left
            ·simp only [Act.put, List.setIfInBounds_toArray, List.set_cons_zero, List.set_cons_succ, i64_w, i32_w]
             rfl
            refine pure_ (i := 12) (N := some 72) (v := ?_) (a' := ?_) #[true, true, true, true, true, true, false, true, true, true, true, true, true, false, false, false, false] rfl rfl (any_of HT_.out (by kernel_rfl)) (fun _ _ _ h => h) (Or.inl ⟨by rfl, ?_⟩) ?_ ?_
            rotate_left
            ·intro w'
             go_simp
             with_reducible rfl
            rotate_left
            ·simp only [Act.put, List.setIfInBounds_toArray, List.set_cons_zero, List.set_cons_succ, i64_w, i32_w]
             rfl
            refine one_ (i := 6) (N := some 66) #[true, true, true, true, true, true, true, true, true, true, true, true, true, false, false, false, false] rfl rfl (one_of HT_.out (by kernel_rfl)) (by decide) (fun K hK => ?_)
            refine Kd.R_lit_step k57 _ 57 ?hg (N := 66) ?hd (xs := ([] : List (S57))) (inner := []) (ok := fun _ => True) (okp := fun _ => True) ?hr ?hp (fun _ hk => hk) trivial (Below.refl _ _) (Nat.le_refl _) (by simp) ?_; (case hd => rfl); (case hg => rfl); (case hr => first | (go_simp; done) | (go_simp; rfl)); (case hp => exact (Reps.none _ _))
            intro v364 w76 ho77 hb hg_ hnew_
            clear hg_ hnew_
            (first | rw [← Ny363.out] at ho77 | (simp only [Int.reduceToNat] at ho77; rw [← Ny363.out] at ho77))
            have n0_ := aM (Kd.V_elder' (by (with_reducible repeat (first | apply Kd.V_alloc | apply Kd.V_drewN | apply Kd.V_drew)); exact HO_0.out) (Kd.R_base ho77) hb)
            have n1_ := aM (Kd.V_elder' (by (with_reducible repeat (first | apply Kd.V_alloc | apply Kd.V_drewN | apply Kd.V_drew)); exact HO370.out) (Kd.R_base ho77) hb)
            have n2_ := aM (Kd.R_lower (Kd.R_newM (M := fun k_ => (w.heap.size ≤ k_)) ho77 (below_size (by repeat (first|(with_reducible first|exact HB.out|apply lA|apply lN|apply lD|refine lS ?_ GE352.out|refine lS ?_ GE353.out)|exact HB.out))) (fun k_ h_ => h_)) (below_size (by repeat (first|(with_reducible first|exact HB.out|apply lA|apply lN|apply lD|refine lS ?_ GE352.out|refine lS ?_ GE353.out)|exact HB.out))))
            have n3_ := aM (blk_below (by (with_reducible repeat (first|refine bN ?_ _|refine bD ?_|refine bA ?_ _)); exact BK352.out) hb)
            have n4_ := aM (blk_below (by (with_reducible repeat (first|refine bN ?_ _|refine bD ?_|refine bA ?_ _)); exact BK353.out) hb)
            have n5_ := aM (below_step (by repeat (first|(with_reducible first|exact HB.out|apply lA|apply lN|apply lD|refine lS ?_ GE352.out|refine lS ?_ GE353.out)|exact HB.out)) hb)
            clear HO_0
            clear HO370
            clear BK352
            clear BK353
            clear HB
            have HO_0 := n0_
            have HO370 := n1_
            have HO365 := n2_
            have BK352 := n3_
            have BK353 := n4_
            have HB := n5_
            clear n0_ n1_ n2_ n3_ n4_ n5_
            clear hb ho77
            refine hK.out _ _ ⟨(blk_cell BK352.out 0).trans rfl, (blk_cell BK352.out 1).trans rfl, (blk_cell BK352.out 2).trans rfl, (blk_cell BK352.out 3).trans rfl, (blk_cell BK352.out 4).trans rfl, (blk_cell BK352.out 5).trans rfl, (blk_cell BK352.out 6).trans rfl, (blk_cell BK352.out 7).trans rfl⟩ (fun hHeld => ?_)
            clear hK K
            refine norm_ (a' := ?_) ?_ ?_
            rotate_left
            ·show Act.put _ (some 66) _ = _
             simp only [Act.put, List.setIfInBounds_toArray, List.set_cons_zero, List.set_cons_succ, i64_w, i32_w]
             rfl
            refine one_ (i := 13) (N := some 73) #[true, true, true, true, true, true, true, true, true, true, true, true, true, true, false, false, false] rfl rfl (one_of HT_.out (by kernel_rfl)) (by decide) (fun K hK => ?_)
            refine Kd.R_append_rows_step k57 (w0 := w) w.heap.size (by rfl) (.tmp 66) (.tmp 72) 22 57 (.agg #[(.int .i64 0), (.int .i64 0), (.int .i64 0), (.int .i64 0)]) 32 rfl Try.underlying22 info57 rfl (by decide) (by omega) v364 y363 y366 _ _ _ (fun k_ => (w.heap.size ≤ k_)) (fun _ => False) rfl rfl ?aO ?aR (fun _ _ h => h) (fun _ h => h.elim) ?aF ?aB ?aS ?aL ?_
            (case aR => repeat (first | exact (Kd.V_reads' HO370.out).2.2 | (with_reducible refine Kd.C_alloc ?_ _) | (with_reducible refine Kd.C_drewN ?_ _) | (with_reducible refine Kd.C_drew ?_)))
            (case aB => exact (by repeat (first|(with_reducible first|exact HB.out|apply lA|apply lN|apply lD|refine lS ?_ GE352.out|refine lS ?_ GE353.out)|exact HB.out)))
            (case aF => exact (fun k_ hk => (Nat.le_trans (below_size (by repeat (first|(with_reducible first|exact HB.out|apply lA|apply lN|apply lD|refine lS ?_ GE352.out|refine lS ?_ GE353.out)|exact HB.out))) hk)))
            (case aO => exact (by (with_reducible repeat (first | apply Kd.R_alloc | apply Kd.R_drewN | apply Kd.R_drew)); exact Kd.R_mono HO365.out (fun _ hk => hk.1)))
            (case aS => exact (below_size (by repeat (first|(with_reducible first|exact HB.out|apply lA|apply lN|apply lD|refine lS ?_ GE352.out|refine lS ?_ GE353.out)|exact HB.out))))
            (case aL => have := LMc71.out; omega)
            intro v372 w78 ho hb hg hat
            rw [← Ny371.out] at ho
            have n0_ := aM (Kd.V_afterv (ok := (fun k_ => (P0_ k_ ∨ w.heap.size ≤ k_) ∧ k_ ≠ gb352 ∧ k_ ≠ gb353)) (by (with_reducible repeat (first | apply Kd.V_alloc | apply Kd.V_drewN | apply Kd.V_drew)); exact HO_0.out) hg hat)
            have n1_ := aM (blk_grown (g := gb352) (o := .cells #[.int .i64 a1_0, .int .i64 a1_1, .int .i64 a1_2, .int .i64 a1_3, .int .i64 a1_4, .int .i64 a1_5, .slice A1_6 l1_6.length c1_6, .int .i64 a1_7] 24 (0, 0)) (by (with_reducible repeat (first|refine bN ?_ _|refine bD ?_|refine bA ?_ _)); exact BK352.out) hg (Kd.R_ne HO365.out BK352.out (by decide)))
            have n2_ := aM (blk_grown (g := gb353) (o := .cells #[.int .i64 x354000_15, .int .i64 x354001_15, .int .i64 x354002_15, .int .i64 x354003_15, .int .i64 x354004_15, .int .i64 x354005_15, .slice none 0 0, .int .i64 x354007_15] 24 (0, 0)) (by (with_reducible repeat (first|refine bN ?_ _|refine bD ?_|refine bA ?_ _)); exact BK353.out) hg (Kd.R_ne HO365.out BK353.out (by decide)))
            have n3_ := aM (Kd.V_afterv (ok := (fun k_ => (P0_ k_ ∨ w.heap.size ≤ k_) ∧ k_ ≠ gb352 ∧ k_ ≠ gb353)) (by (with_reducible repeat (first | apply Kd.V_alloc | apply Kd.V_drewN | apply Kd.V_drew)); exact HO370.out) hg hat)
            have n4_ := aM (hb)
            have n5_ := aM (ho)
            clear HO_0
            clear BK352
            clear BK353
            clear HO370
            clear HB
            clear HO365
            have HO_0 := n0_
            have BK352 := n1_
            have BK353 := n2_
            have HO370 := n3_
            have HB := n4_
            have HO373 := n5_
            clear n0_ n1_ n2_ n3_ n4_ n5_
            clear ho hb hg hat
            obtain ⟨Ao79, co79, eo79⟩ := Kd.R_slice HO373.out
            (first | subst eo79 | (injection eo79 with f1_ f2_ f3_; have f4_ := f1_.symm; have f5_ := f3_.symm; clear f1_ f2_ f3_; subst f4_; subst f5_))
            refine hK.out _ _ ⟨(blk_cell BK352.out 0).trans rfl, (blk_cell BK352.out 1).trans rfl, (blk_cell BK352.out 2).trans rfl, (blk_cell BK352.out 3).trans rfl, (blk_cell BK352.out 4).trans rfl, (blk_cell BK352.out 5).trans rfl, (blk_cell BK352.out 6).trans rfl, (blk_cell BK352.out 7).trans rfl⟩ (fun hHeld => ?_)
            clear hK K
            refine norm_ (a' := ?_) ?_ ?_
            rotate_left
            ·show Act.put _ (some 73) _ = _
             simp only [Act.put, List.setIfInBounds_toArray, List.set_cons_zero, List.set_cons_succ, i64_w, i32_w]
             rfl
            refine pure_ (i := 14) (N := some 74) (v := ?_) (a' := ?_) #[true, true, true, true, true, true, true, true, true, true, true, true, true, true, true, false, false] rfl rfl (any_of HT_.out (by kernel_rfl)) (fun _ _ _ h => h) (Or.inl ⟨by rfl, ?_⟩) ?_ ?_
            rotate_left
            ·intro w'
             go_simp
             with_reducible rfl
            rotate_left
            ·simp only [Act.put, List.setIfInBounds_toArray, List.set_cons_zero, List.set_cons_succ, i64_w, i32_w]
             rfl
            refine one_ (i := 15) (N := none) #[true, true, true, true, true, true, true, true, true, true, true, true, true, true, true, true, false] rfl rfl (one_of HT_.out (by kernel_rfl)) (by decide) (fun K hK => ?_)
            have hs80 : w78.cell? ⟨gb353, 0, none⟩ = some (.int .i64 x354000_15) := (blk_cell BK353.out 0).trans rfl
            have hfs80 := blk_frozen BK353.out 0
            have hns80_0 := NB352_353.out
            have hms80_0 := NB353_352.out
            have hs81 : w78.cell? ⟨gb353, 1, none⟩ = some (.int .i64 x354001_15) := (blk_cell BK353.out 1).trans rfl
            have hfs81 := blk_frozen BK353.out 1
            have hns81_0 := NB352_353.out
            have hms81_0 := NB353_352.out
            have hs82 : w78.cell? ⟨gb353, 2, none⟩ = some (.int .i64 x354002_15) := (blk_cell BK353.out 2).trans rfl
            have hfs82 := blk_frozen BK353.out 2
            have hns82_0 := NB352_353.out
            have hms82_0 := NB353_352.out
            have hs83 : w78.cell? ⟨gb353, 3, none⟩ = some (.int .i64 x354003_15) := (blk_cell BK353.out 3).trans rfl
            have hfs83 := blk_frozen BK353.out 3
            have hns83_0 := NB352_353.out
            have hms83_0 := NB353_352.out
            have hs84 : w78.cell? ⟨gb353, 4, none⟩ = some (.int .i64 x354004_15) := (blk_cell BK353.out 4).trans rfl
            have hfs84 := blk_frozen BK353.out 4
            have hns84_0 := NB352_353.out
            have hms84_0 := NB353_352.out
            have hs85 : w78.cell? ⟨gb353, 5, none⟩ = some (.int .i64 x354005_15) := (blk_cell BK353.out 5).trans rfl
            have hfs85 := blk_frozen BK353.out 5
            have hns85_0 := NB352_353.out
            have hms85_0 := NB353_352.out
            have hs86 : w78.cell? ⟨gb353, 6, none⟩ = some (.slice none 0 0) := (blk_cell BK353.out 6).trans rfl
            have hfs86 := blk_frozen BK353.out 6
            have hns86_0 := NB352_353.out
            have hms86_0 := NB353_352.out
            have hs87 : w78.cell? ⟨gb353, 7, none⟩ = some (.int .i64 x354007_15) := (blk_cell BK353.out 7).trans rfl
            have hfs87 := blk_frozen BK353.out 7
            have hns87_0 := NB352_353.out
            have hms87_0 := NB353_352.out
            refine skip_ (w1 := ?_) (by rfl) rfl ?_ ?_
            rotate_left
            ·go_simp
             rfl
            refine hK.out _ _ ⟨((cell_far (p := ⟨gb353, _, none⟩) NB352_353.out _).trans (((cell_far (p := ⟨gb353, _, none⟩) NB352_353.out _).trans (((cell_far (p := ⟨gb353, _, none⟩) NB352_353.out _).trans (((cell_far (p := ⟨gb353, _, none⟩) NB352_353.out _).trans (((cell_far (p := ⟨gb353, _, none⟩) NB352_353.out _).trans (((cell_far (p := ⟨gb353, _, none⟩) NB352_353.out _).trans (((cell_far (p := ⟨gb353, _, none⟩) NB352_353.out _).trans (((cell_far (p := ⟨gb353, _, none⟩) NB352_353.out _).trans (hHeld.1)))))))))))))))), ((cell_far (p := ⟨gb353, _, none⟩) NB352_353.out _).trans (((cell_far (p := ⟨gb353, _, none⟩) NB352_353.out _).trans (((cell_far (p := ⟨gb353, _, none⟩) NB352_353.out _).trans (((cell_far (p := ⟨gb353, _, none⟩) NB352_353.out _).trans (((cell_far (p := ⟨gb353, _, none⟩) NB352_353.out _).trans (((cell_far (p := ⟨gb353, _, none⟩) NB352_353.out _).trans (((cell_far (p := ⟨gb353, _, none⟩) NB352_353.out _).trans (((cell_far (p := ⟨gb353, _, none⟩) NB352_353.out _).trans (hHeld.2.1)))))))))))))))), ((cell_far (p := ⟨gb353, _, none⟩) NB352_353.out _).trans (((cell_far (p := ⟨gb353, _, none⟩) NB352_353.out _).trans (((cell_far (p := ⟨gb353, _, none⟩) NB352_353.out _).trans (((cell_far (p := ⟨gb353, _, none⟩) NB352_353.out _).trans (((cell_far (p := ⟨gb353, _, none⟩) NB352_353.out _).trans (((cell_far (p := ⟨gb353, _, none⟩) NB352_353.out _).trans (((cell_far (p := ⟨gb353, _, none⟩) NB352_353.out _).trans (((cell_far (p := ⟨gb353, _, none⟩) NB352_353.out _).trans (hHeld.2.2.1)))))))))))))))), ((cell_far (p := ⟨gb353, _, none⟩) NB352_353.out _).trans (((cell_far (p := ⟨gb353, _, none⟩) NB352_353.out _).trans (((cell_far (p := ⟨gb353, _, none⟩) NB352_353.out _).trans (((cell_far (p := ⟨gb353, _, none⟩) NB352_353.out _).trans (((cell_far (p := ⟨gb353, _, none⟩) NB352_353.out _).trans (((cell_far (p := ⟨gb353, _, none⟩) NB352_353.out _).trans (((cell_far (p := ⟨gb353, _, none⟩) NB352_353.out _).trans (((cell_far (p := ⟨gb353, _, none⟩) NB352_353.out _).trans (hHeld.2.2.2.1)))))))))))))))), ((cell_far (p := ⟨gb353, _, none⟩) NB352_353.out _).trans (((cell_far (p := ⟨gb353, _, none⟩) NB352_353.out _).trans (((cell_far (p := ⟨gb353, _, none⟩) NB352_353.out _).trans (((cell_far (p := ⟨gb353, _, none⟩) NB352_353.out _).trans (((cell_far (p := ⟨gb353, _, none⟩) NB352_353.out _).trans (((cell_far (p := ⟨gb353, _, none⟩) NB352_353.out _).trans (((cell_far (p := ⟨gb353, _, none⟩) NB352_353.out _).trans (((cell_far (p := ⟨gb353, _, none⟩) NB352_353.out _).trans (hHeld.2.2.2.2.1)))))))))))))))), ((cell_far (p := ⟨gb353, _, none⟩) NB352_353.out _).trans (((cell_far (p := ⟨gb353, _, none⟩) NB352_353.out _).trans (((cell_far (p := ⟨gb353, _, none⟩) NB352_353.out _).trans (((cell_far (p := ⟨gb353, _, none⟩) NB352_353.out _).trans (((cell_far (p := ⟨gb353, _, none⟩) NB352_353.out _).trans (((cell_far (p := ⟨gb353, _, none⟩) NB352_353.out _).trans (((cell_far (p := ⟨gb353, _, none⟩) NB352_353.out _).trans (((cell_far (p := ⟨gb353, _, none⟩) NB352_353.out _).trans (hHeld.2.2.2.2.2.1)))))))))))))))), ((cell_far (p := ⟨gb353, _, none⟩) NB352_353.out _).trans (((cell_far (p := ⟨gb353, _, none⟩) NB352_353.out _).trans (((cell_far (p := ⟨gb353, _, none⟩) NB352_353.out _).trans (((cell_far (p := ⟨gb353, _, none⟩) NB352_353.out _).trans (((cell_far (p := ⟨gb353, _, none⟩) NB352_353.out _).trans (((cell_far (p := ⟨gb353, _, none⟩) NB352_353.out _).trans (((cell_far (p := ⟨gb353, _, none⟩) NB352_353.out _).trans (((cell_far (p := ⟨gb353, _, none⟩) NB352_353.out _).trans (hHeld.2.2.2.2.2.2.1)))))))))))))))), ((cell_far (p := ⟨gb353, _, none⟩) NB352_353.out _).trans (((cell_far (p := ⟨gb353, _, none⟩) NB352_353.out _).trans (((cell_far (p := ⟨gb353, _, none⟩) NB352_353.out _).trans (((cell_far (p := ⟨gb353, _, none⟩) NB352_353.out _).trans (((cell_far (p := ⟨gb353, _, none⟩) NB352_353.out _).trans (((cell_far (p := ⟨gb353, _, none⟩) NB352_353.out _).trans (((cell_far (p := ⟨gb353, _, none⟩) NB352_353.out _).trans (((cell_far (p := ⟨gb353, _, none⟩) NB352_353.out _).trans (hHeld.2.2.2.2.2.2.2))))))))))))))))⟩ (fun hHeld => ?_)
            clear hK K
            refine pure_ (i := 16) (N := some 5) (v := ?_) (a' := ?_) #[true, true, true, true, true, true, true, true, true, true, true, true, true, true, true, true, true] rfl rfl (any_of HT_.out (by kernel_rfl)) (fun _ _ _ h => h) (Or.inl ⟨by rfl, ?_⟩) ?_ ?_
            rotate_left
            ·intro w'
             go_simp
             with_reducible rfl
            rotate_left
            ·simp only [Act.put, List.setIfInBounds_toArray, List.set_cons_zero, List.set_cons_succ, i64_w, i32_w]
             rfl
            refine done_ (done_of HT_.out (by kernel_rfl)) ?_
            try go_wp2
            refine bodyPost_ret (results_ct rfl _ _ gb353 24 #[.int .i64 0, .int .i64 a1_1, .int .i64 (wrap64 (a1_1 + (l1_6.length : Int))), .int .i64 0, .int .i64 0, .int .i64 0, .slice Ao79 y371.length co79, .int .i64 0] (0, 0) _ rfl (by (with_reducible repeat (first|refine bN ?_ _|refine bD ?_|refine bA ?_ _)); apply put8; (with_reducible repeat (first|refine bN ?_ _|refine bD ?_|refine bA ?_ _)); exact BK353.out) Try.underlying24 rfl (by kernel_rfl)) rfl ?_
            exact ⟨_, by first | rfl | (simp [errW_none, errW_some] <;> rfl) | (simp [*, errW_none, errW_some] <;> rfl), by (with_reducible repeat (first | apply Kd.R_alloc | apply Kd.R_drewN | apply Kd.R_drew)); exact Kd.R_mono (Kd.Rf8 (Kd.R_types HO373.out BK353.out (by decide)) (fun _ hk => hk.2)) (fun _ hk => hk.1), by repeat (first|(with_reducible first|exact HB.out|apply lA|apply lN|apply lD|refine lS ?_ GE352.out|refine lS ?_ GE353.out)|exact HB.out)⟩
           ·rw [if_neg c71] at H
            exact absurd H (by simp)
          ·rw [if_neg c70] at H
           exact absurd H (by simp)
         ·rw [if_neg c69] at H
          exact absurd H (by simp)
        ·rw [if_neg c68] at H
         exact absurd H (by simp)
       ·rw [if_neg c67] at H
        have c67b0 : (a1_0 == 0) = false := beq_eq_false_iff_ne.mpr c67
        have c67b1 : (a1_0 != 0) = true := bne_iff_ne.mpr c67
        obtain ⟨y374, hy374⟩ : ∃ y_ : List (S57), y_ = (([] : List (S57))) := ⟨_, rfl⟩
        replace H : (if 0 ≤ a1_1 then (if a1_1 ≤ a1_2 then (if a1_2 ≤ (l0.length : Int) then ((some ((l0.take (a1_2 : Int).toNat).drop (a1_1 : Int).toNat : List (S57))).bind fun y377 => (if y374.length + y377.length < 4398046511104 then (some (0, a1_1, wrap64 (a1_1 + (wrap64 (a1_2 - a1_1))), 0, 0, 0, (y374 ++ y377), 0, 0)) else (none))) else (none)) else (none)) else (none)) = some (r1, r2, r3, r4, r5, r6, r7, r8, r9) := by first | (rw [hy374]; with_reducible exact H) | (have H2_ := (Option.bind_some _ _).symm.trans H; rw [hy374]; with_reducible exact H2_) | (have H2_ := (Option.bind_some _ _).symm.trans H; with_reducible exact H2_) | with_reducible exact H | (rw [hy374]; exact H) | exact H
        have Ny374 := aM hy374
        clear hy374
        by_cases c88 : 0 ≤ a1_1
        ·rw [if_pos c88] at H
         have c88b0 := eq_true c88
         have c88b1 : decide (0 ≤ a1_1) = true := decide_eq_true c88
         clear c88
         by_cases c89 : a1_1 ≤ a1_2
         ·rw [if_pos c89] at H
          have c89b0 := eq_true c89
          have c89b1 : decide (a1_1 ≤ a1_2) = true := decide_eq_true c89
          clear c89
          by_cases c90 : a1_2 ≤ (l0.length : Int)
          ·rw [if_pos c90] at H
           have c90b0 := eq_true c90
           have c90b1 : decide (a1_2 ≤ (l0.length : Int)) = true := decide_eq_true c90
           clear c90
           obtain ⟨y377, hy377⟩ : ∃ y_ : List (S57), y_ = ((l0.take (a1_2 : Int).toNat).drop (a1_1 : Int).toNat) := ⟨_, rfl⟩
           replace H : (if y374.length + y377.length < 4398046511104 then (some (0, a1_1, wrap64 (a1_1 + (wrap64 (a1_2 - a1_1))), 0, 0, 0, (y374 ++ y377), 0, 0)) else (none)) = some (r1, r2, r3, r4, r5, r6, r7, r8, r9) := by first | (rw [hy377]; with_reducible exact H) | (have H2_ := (Option.bind_some _ _).symm.trans H; rw [hy377]; with_reducible exact H2_) | (have H2_ := (Option.bind_some _ _).symm.trans H; with_reducible exact H2_) | with_reducible exact H | (rw [hy377]; exact H) | exact H
           have Ny377 := aM hy377
           clear hy377
           by_cases c91 : y374.length + y377.length < 4398046511104
           ·rw [if_pos c91] at H
            have LMc91 := aM c91
            clear c91
            obtain ⟨y382, hy382⟩ : ∃ y_ : List (S57), y_ = (y374 ++ y377) := ⟨_, rfl⟩
            replace H : (some (0, a1_1, wrap64 (a1_1 + (wrap64 (a1_2 - a1_1))), 0, 0, 0, y382, 0, 0)) = some (r1, r2, r3, r4, r5, r6, r7, r8, r9) := by first | (rw [hy382]; with_reducible exact H) | (have H2_ := (Option.bind_some _ _).symm.trans H; rw [hy382]; with_reducible exact H2_) | (have H2_ := (Option.bind_some _ _).symm.trans H; with_reducible exact H2_) | with_reducible exact H | (rw [hy382]; exact H) | exact H
            have Ny382 := aM hy382
            clear hy382
            simp only [Option.some.injEq, Prod.mk.injEq] at H
            obtain ⟨rfl, rfl, rfl, rfl, rfl, rfl, rfl, rfl, rfl⟩ := H
            have hnb92 := NB352_353.out
            have hnc92 := NB353_352.out
            obtain ⟨hcz93_0, hcz93_1, hcz93_2, hcz93_3, hcz93_4, hcz93_5, hcz93_6, hcz93_7, hfz93_0, hfz93_1, hfz93_2, hfz93_3, hfz93_4, hfz93_5, hfz93_6, hfz93_7⟩ := bx8z BK352.out
            try go_wp2
            have n0_ := aM (Kd.V_drew HO_0.out)
            have n1_ := aM (bD BK352.out)
            have n2_ := aM (bD BK353.out)
            have n3_ := aM (lD HB.out)
            clear HO_0
            clear BK352
            clear BK353
            clear HB
            have HO_0 := n0_
            have BK352 := n1_
            have BK353 := n2_
            have HB := n3_
            clear n0_ n1_ n2_ n3_
            have q95 : (a1_2 : Int) ≤ ((l0.length : Int) : Int) := of_decide_eq_true (by first | (with_reducible assumption) | assumption)
            obtain ⟨i095, hi095, _, hsz95, _⟩ := info_parts info57
            have hroom95 : l0.length ≤ c0 := (Kd.V_reads' HO_0.out).2.1
            have hC95 : Kd.F k57 _ _ A0 l0.length l0 := (Kd.V_at (base := w.heap.size) HO_0.out).2.2
            have ql95 : (a1_1 : Int) ≤ (a1_2 : Int) := of_decide_eq_true (by first | (with_reducible assumption) | assumption)
            have q095 : (0 : Int) ≤ (a1_1 : Int) := of_decide_eq_true (by first | (with_reducible assumption) | assumption)
            have hcut95 := cut_mid (P := Try.prog) 22 57 .i64 .i64 Try.underlying22 hi095 4 hsz95 A0 l0.length c0 a1_1 a1_2 q095 ql95 q95 hroom95
            have hr95 := Kd.F_mid (lo := (a1_1 : Int).toNat) (hi := (a1_2 : Int).toNat) (c := c0) hC95 (by omega) (by omega) hroom95
            obtain ⟨A95, hA95⟩ : ∃ A1, A1 = (if c0 = (a1_1 : Int).toNat then A0 else (A0 : Option Addr).map (·.add ((a1_1 : Int).toNat * 4))) := ⟨_, rfl⟩
            obtain ⟨c95, hc95⟩ : ∃ c1, c1 = c0 - (a1_1 : Int).toNat := ⟨_, rfl⟩
            have hy95 : y377.length = (a1_2 : Int).toNat - (a1_1 : Int).toNat := (by rw [Ny377.out, List.length_drop, List.length_take] <;> omega)
            rw [show ((l0).take (a1_2 : Int).toNat).drop (a1_1 : Int).toNat = y377 from Ny377.out.symm] at hr95
            replace hr95 : Kd.F k57 _ _ A95 y377.length y377 := (by rw [hA95]; exact hr95)
            rw [← hy95, ← hA95, ← hc95] at hcut95
            have HO381 := aM (show Kd.V k57 57 _ w.heap.size _ (.slice A95 y377.length c95) y377 from Kd.V_mk (by rw [hy95, hc95]; exact Nat.sub_le_sub_right (Nat.le_trans (by omega) hroom95) _) hr95)
            have HC381 := aM (show y377.length ≤ c95 from by rw [hy95, hc95]; exact Nat.sub_le_sub_right (Nat.le_trans (by omega) hroom95) _)
            clear hr95 hC95 hroom95 hi095 hsz95 hc95
            have KY95 := aM hy95
            have KA95 := aM hA95
            clear hy95 hA95
            replace q95 := eq_true q95
            refine start_ (n := 17) (S := fun w' => w'.cell? ⟨gb352, 0, none⟩ = some (.int .i64 a1_0) ∧ w'.cell? ⟨gb352, 1, none⟩ = some (.int .i64 a1_1) ∧ w'.cell? ⟨gb352, 2, none⟩ = some (.int .i64 a1_2) ∧ w'.cell? ⟨gb352, 3, none⟩ = some (.int .i64 a1_3) ∧ w'.cell? ⟨gb352, 4, none⟩ = some (.int .i64 a1_4) ∧ w'.cell? ⟨gb352, 5, none⟩ = some (.int .i64 a1_5) ∧ w'.cell? ⟨gb352, 6, none⟩ = some (.slice A1_6 l1_6.length c1_6) ∧ w'.cell? ⟨gb352, 7, none⟩ = some (.int .i64 a1_7)) (ds := []) #[false, false, false, false, false, false, false, false, false, false, false, false, false, false, false, false, false] (by kernel_rfl) rfl rfl ⟨(blk_cell BK352.out 0).trans rfl, (blk_cell BK352.out 1).trans rfl, (blk_cell BK352.out 2).trans rfl, (blk_cell BK352.out 3).trans rfl, (blk_cell BK352.out 4).trans rfl, (blk_cell BK352.out 5).trans rfl, (blk_cell BK352.out 6).trans rfl, (blk_cell BK352.out 7).trans rfl⟩ (fun hHeld => ?_); refine with_tabW emenderref09_Invert.tab12 emenderref09_Invert.bits12 (fun HT_ HW_ => ?_)
            generalize wc.drew = w94 at HO_0 BK352 BK353 HB HO381 hHeld ⊢
            refine pure_ (i := 0) (N := some 60) (v := ?_) (a' := ?_) #[true, false, false, false, false, false, false, false, false, false, false, false, false, false, false, false, false] rfl rfl (any_of HT_.out (by kernel_rfl)) (fun _ _ _ h => h) (Or.inl ⟨by rfl, ?_⟩) ?_ ?_
            rotate_left
            ·intro w'
             go_simp
             with_reducible rfl
            rotate_left
            ·simp only [Act.put, List.setIfInBounds_toArray, List.set_cons_zero, List.set_cons_succ, i64_w, i32_w]
             rfl
            refine pure_ (i := 2) (N := some 62) (v := ?_) (a' := ?_) #[true, false, true, false, false, false, false, false, false, false, false, false, false, false, false, false, false] rfl rfl (any_of HT_.out (by kernel_rfl)) (fun _ _ _ h => h) (Or.inl ⟨by rfl, ?_⟩) ?_ ?_
            rotate_left
            ·intro w'
             go_simp
             with_reducible rfl
            rotate_left
            ·simp only [Act.put, List.setIfInBounds_toArray, List.set_cons_zero, List.set_cons_succ, i64_w, i32_w]
             rfl
            refine pure_ (i := 4) (N := some 64) (v := ?_) (a' := ?_) #[true, false, true, false, true, false, false, false, false, false, false, false, false, false, false, false, false] rfl rfl (any_of HT_.out (by kernel_rfl)) (fun _ _ _ h => h) (Or.inl ⟨by rfl, ?_⟩) ?_ ?_
            rotate_left
            ·intro w'
             go_simp
             with_reducible rfl
            rotate_left
            ·simp only [Act.put, List.setIfInBounds_toArray, List.set_cons_zero, List.set_cons_succ, i64_w, i32_w]
             rfl
            refine pure_ (i := 7) (N := some 67) (v := ?_) (a' := ?_) #[true, false, true, false, true, false, false, true, false, false, false, false, false, false, false, false, false] rfl rfl (any_of HT_.out (by kernel_rfl)) (fun _ _ _ h => h) (Or.inl ⟨by rfl, ?_⟩) ?_ ?_
            rotate_left
            ·intro w'
             go_simp
             with_reducible rfl
            rotate_left
            ·simp only [Act.put, List.setIfInBounds_toArray, List.set_cons_zero, List.set_cons_succ, i64_w, i32_w]
             rfl
            refine pure_ (i := 8) (N := some 68) (v := ?_) (a' := ?_) #[true, false, true, false, true, false, false, true, true, false, false, false, false, false, false, false, false] rfl rfl (any_of HT_.out (by kernel_rfl)) (fun _ _ _ h => h) (Or.inl ⟨by rfl, ?_⟩) ?_ ?_
            rotate_left
            ·intro w'
             go_simp
             with_reducible rfl
            rotate_left
            ·simp only [Act.put, List.setIfInBounds_toArray, List.set_cons_zero, List.set_cons_succ, i64_w, i32_w]
             rfl
            refine pure_ (i := 10) (N := some 70) (v := ?_) (a' := ?_) #[true, false, true, false, true, false, false, true, true, false, true, false, false, false, false, false, false] rfl rfl (any_of HT_.out (by kernel_rfl)) (fun _ _ _ h => h) (Or.inl ⟨by rfl, ?_⟩) ?_ ?_
            rotate_left
            ·intro w'
             go_simp
             with_reducible rfl
            rotate_left
            ·simp only [Act.put, List.setIfInBounds_toArray, List.set_cons_zero, List.set_cons_succ, i64_w, i32_w]
             rfl
            refine take_ (i := 1) (N := some 61) (v := ?_) (a' := ?_) #[true, true, true, false, true, false, false, true, true, false, true, false, false, false, false, false, false] rfl rfl (take_ofW HT_.out HW_.out (by kernel_rfl)) (fun _ _ _ h => h) (Or.inl ⟨by rfl, ?_⟩) hHeld ?_ ?_
            rotate_left
            ·rintro w' ⟨s0, s1, s2, s3, s4, s5, s6, s7⟩
             go_simp
             with_reducible rfl
            rotate_left
            ·simp only [Act.put, List.setIfInBounds_toArray, List.set_cons_zero, List.set_cons_succ, i64_w, i32_w]
             rfl
            refine take_ (i := 3) (N := some 63) (v := ?_) (a' := ?_) #[true, true, true, true, true, false, false, true, true, false, true, false, false, false, false, false, false] rfl rfl (take_ofW HT_.out HW_.out (by kernel_rfl)) (fun _ _ _ h => h) (Or.inl ⟨by rfl, ?_⟩) hHeld ?_ ?_
            rotate_left
            ·rintro w' ⟨s0, s1, s2, s3, s4, s5, s6, s7⟩
             go_simp
             with_reducible rfl
            rotate_left
            ·simp only [Act.put, List.setIfInBounds_toArray, List.set_cons_zero, List.set_cons_succ, i64_w, i32_w]
             rfl
            refine pure_ (i := 5) (N := some 65) (v := ?_) (a' := ?_) #[true, true, true, true, true, true, false, true, true, false, true, false, false, false, false, false, false] rfl rfl (any_of HT_.out (by kernel_rfl)) (fun _ _ _ h => h) (Or.inl ⟨by rfl, ?_⟩) ?_ ?_
            rotate_left
            ·intro w'
             go_simp
             with_reducible rfl
            rotate_left
            ·simp only [Act.put, List.setIfInBounds_toArray, List.set_cons_zero, List.set_cons_succ, i64_w, i32_w]
             rfl
            refine take_ (i := 9) (N := some 69) (v := ?_) (a' := ?_) #[true, true, true, true, true, true, false, true, true, true, true, false, false, false, false, false, false] rfl rfl (take_ofW HT_.out HW_.out (by kernel_rfl)) (fun _ _ _ h => h) (Or.inl ⟨by rfl, ?_⟩) hHeld ?_ ?_
            rotate_left
            ·rintro w' ⟨s0, s1, s2, s3, s4, s5, s6, s7⟩
             go_simp
             with_reducible rfl
            rotate_left
            ·simp only [Act.put, List.setIfInBounds_toArray, List.set_cons_zero, List.set_cons_succ, i64_w, i32_w]
             rfl
            refine take_ (i := 11) (N := some 71) (v := ?_) (a' := ?_) #[true, true, true, true, true, true, false, true, true, true, true, true, false, false, false, false, false] rfl rfl (take_ofW HT_.out HW_.out (by kernel_rfl)) (fun _ _ _ h => h) (Or.inl ⟨by rfl, ?_⟩) hHeld ?_ ?_
            rotate_left
            ·rintro w' ⟨s0, s1, s2, s3, s4, s5, s6, s7⟩
             go_simp
             with_reducible rfl
            rotate_left
            ·simp only [Act.put, List.setIfInBounds_toArray, List.set_cons_zero, List.set_cons_succ, i64_w, i32_w]
             rfl
            refine pure_ (i := 12) (N := some 72) (v := ?_) (a' := ?_) #[true, true, true, true, true, true, false, true, true, true, true, true, true, false, false, false, false] rfl rfl (any_of HT_.out (by kernel_rfl)) (fun _ _ _ h => h) (Or.inl ⟨by rfl, ?_⟩) ?_ ?_
            rotate_left
            ·intro w'
             go_simp
             with_reducible rfl
            rotate_left
            ·simp only [Act.put, List.setIfInBounds_toArray, List.set_cons_zero, List.set_cons_succ, i64_w, i32_w]
             rfl
            refine one_ (i := 6) (N := some 66) #[true, true, true, true, true, true, true, true, true, true, true, true, true, false, false, false, false] rfl rfl (one_of HT_.out (by kernel_rfl)) (by decide) (fun K hK => ?_)
            refine Kd.R_lit_step k57 _ 57 ?hg (N := 66) ?hd (xs := ([] : List (S57))) (inner := []) (ok := fun _ => True) (okp := fun _ => True) ?hr ?hp (fun _ hk => hk) trivial (Below.refl _ _) (Nat.le_refl _) (by simp) ?_; (case hd => rfl); (case hg => rfl); (case hr => first | (go_simp; done) | (go_simp; rfl)); (case hp => exact (Reps.none _ _))
            intro v375 w96 ho97 hb hg_ hnew_
            clear hg_ hnew_
            (first | rw [← Ny374.out] at ho97 | (simp only [Int.reduceToNat] at ho97; rw [← Ny374.out] at ho97))
            have n0_ := aM (Kd.V_elder' (by (with_reducible repeat (first | apply Kd.V_alloc | apply Kd.V_drewN | apply Kd.V_drew)); exact HO_0.out) (Kd.R_base ho97) hb)
            have n1_ := aM (Kd.V_elder' (by (with_reducible repeat (first | apply Kd.V_alloc | apply Kd.V_drewN | apply Kd.V_drew)); exact HO381.out) (Kd.R_base ho97) hb)
            have n2_ := aM (Kd.R_lower (Kd.R_newM (M := fun k_ => (w.heap.size ≤ k_)) ho97 (below_size (by repeat (first|(with_reducible first|exact HB.out|apply lA|apply lN|apply lD|refine lS ?_ GE352.out|refine lS ?_ GE353.out)|exact HB.out))) (fun k_ h_ => h_)) (below_size (by repeat (first|(with_reducible first|exact HB.out|apply lA|apply lN|apply lD|refine lS ?_ GE352.out|refine lS ?_ GE353.out)|exact HB.out))))
            have n3_ := aM (blk_below (by (with_reducible repeat (first|refine bN ?_ _|refine bD ?_|refine bA ?_ _)); exact BK352.out) hb)
            have n4_ := aM (blk_below (by (with_reducible repeat (first|refine bN ?_ _|refine bD ?_|refine bA ?_ _)); exact BK353.out) hb)
            have n5_ := aM (below_step (by repeat (first|(with_reducible first|exact HB.out|apply lA|apply lN|apply lD|refine lS ?_ GE352.out|refine lS ?_ GE353.out)|exact HB.out)) hb)
            clear HO_0
            clear HO381
            clear BK352
            clear BK353
            clear HB
            have HO_0 := n0_
            have HO381 := n1_
            have HO376 := n2_
            have BK352 := n3_
            have BK353 := n4_
            have HB := n5_
            clear n0_ n1_ n2_ n3_ n4_ n5_
            clear hb ho97
            refine hK.out _ _ ⟨(blk_cell BK352.out 0).trans rfl, (blk_cell BK352.out 1).trans rfl, (blk_cell BK352.out 2).trans rfl, (blk_cell BK352.out 3).trans rfl, (blk_cell BK352.out 4).trans rfl, (blk_cell BK352.out 5).trans rfl, (blk_cell BK352.out 6).trans rfl, (blk_cell BK352.out 7).trans rfl⟩ (fun hHeld => ?_)
            clear hK K
            refine norm_ (a' := ?_) ?_ ?_
            rotate_left
            ·show Act.put _ (some 66) _ = _
             simp only [Act.put, List.setIfInBounds_toArray, List.set_cons_zero, List.set_cons_succ, i64_w, i32_w]
             rfl
            refine one_ (i := 13) (N := some 73) #[true, true, true, true, true, true, true, true, true, true, true, true, true, true, false, false, false] rfl rfl (one_of HT_.out (by kernel_rfl)) (by decide) (fun K hK => ?_)
            refine Kd.R_append_rows_step k57 (w0 := w) w.heap.size (by rfl) (.tmp 66) (.tmp 72) 22 57 (.agg #[(.int .i64 0), (.int .i64 0), (.int .i64 0), (.int .i64 0)]) 32 rfl Try.underlying22 info57 rfl (by decide) (by omega) v375 y374 y377 _ _ _ (fun k_ => (w.heap.size ≤ k_)) (fun _ => False) rfl rfl ?aO ?aR (fun _ _ h => h) (fun _ h => h.elim) ?aF ?aB ?aS ?aL ?_
            (case aR => repeat (first | exact (Kd.V_reads' HO381.out).2.2 | (with_reducible refine Kd.C_alloc ?_ _) | (with_reducible refine Kd.C_drewN ?_ _) | (with_reducible refine Kd.C_drew ?_)))
            (case aB => exact (by repeat (first|(with_reducible first|exact HB.out|apply lA|apply lN|apply lD|refine lS ?_ GE352.out|refine lS ?_ GE353.out)|exact HB.out)))
            (case aF => exact (fun k_ hk => (Nat.le_trans (below_size (by repeat (first|(with_reducible first|exact HB.out|apply lA|apply lN|apply lD|refine lS ?_ GE352.out|refine lS ?_ GE353.out)|exact HB.out))) hk)))
            (case aO => exact (by (with_reducible repeat (first | apply Kd.R_alloc | apply Kd.R_drewN | apply Kd.R_drew)); exact Kd.R_mono HO376.out (fun _ hk => hk.1)))
            (case aS => exact (below_size (by repeat (first|(with_reducible first|exact HB.out|apply lA|apply lN|apply lD|refine lS ?_ GE352.out|refine lS ?_ GE353.out)|exact HB.out))))
            (case aL => have := LMc91.out; omega)
            intro v383 w98 ho hb hg hat
            rw [← Ny382.out] at ho
            have n0_ := aM (Kd.V_afterv (ok := (fun k_ => (P0_ k_ ∨ w.heap.size ≤ k_) ∧ k_ ≠ gb352 ∧ k_ ≠ gb353)) (by (with_reducible repeat (first | apply Kd.V_alloc | apply Kd.V_drewN | apply Kd.V_drew)); exact HO_0.out) hg hat)
            have n1_ := aM (blk_grown (g := gb352) (o := .cells #[.int .i64 a1_0, .int .i64 a1_1, .int .i64 a1_2, .int .i64 a1_3, .int .i64 a1_4, .int .i64 a1_5, .slice A1_6 l1_6.length c1_6, .int .i64 a1_7] 24 (0, 0)) (by (with_reducible repeat (first|refine bN ?_ _|refine bD ?_|refine bA ?_ _)); exact BK352.out) hg (Kd.R_ne HO376.out BK352.out (by decide)))
            have n2_ := aM (blk_grown (g := gb353) (o := .cells #[.int .i64 x354000_15, .int .i64 x354001_15, .int .i64 x354002_15, .int .i64 x354003_15, .int .i64 x354004_15, .int .i64 x354005_15, .slice none 0 0, .int .i64 x354007_15] 24 (0, 0)) (by (with_reducible repeat (first|refine bN ?_ _|refine bD ?_|refine bA ?_ _)); exact BK353.out) hg (Kd.R_ne HO376.out BK353.out (by decide)))
            have n3_ := aM (Kd.V_afterv (ok := (fun k_ => (P0_ k_ ∨ w.heap.size ≤ k_) ∧ k_ ≠ gb352 ∧ k_ ≠ gb353)) (by (with_reducible repeat (first | apply Kd.V_alloc | apply Kd.V_drewN | apply Kd.V_drew)); exact HO381.out) hg hat)
            have n4_ := aM (hb)
            have n5_ := aM (ho)
            clear HO_0
            clear BK352
            clear BK353
            clear HO381
            clear HB
            clear HO376
            have HO_0 := n0_
            have BK352 := n1_
            have BK353 := n2_
            have HO381 := n3_
            have HB := n4_
            have HO384 := n5_
            clear n0_ n1_ n2_ n3_ n4_ n5_
            clear ho hb hg hat
            obtain ⟨Ao99, co99, eo99⟩ := Kd.R_slice HO384.out
            (first | subst eo99 | (injection eo99 with f1_ f2_ f3_; have f4_ := f1_.symm; have f5_ := f3_.symm; clear f1_ f2_ f3_; subst f4_; subst f5_))
            refine hK.out _ _ ⟨(blk_cell BK352.out 0).trans rfl, (blk_cell BK352.out 1).trans rfl, (blk_cell BK352.out 2).trans rfl, (blk_cell BK352.out 3).trans rfl, (blk_cell BK352.out 4).trans rfl, (blk_cell BK352.out 5).trans rfl, (blk_cell BK352.out 6).trans rfl, (blk_cell BK352.out 7).trans rfl⟩ (fun hHeld => ?_)
            clear hK K
            refine norm_ (a' := ?_) ?_ ?_
            rotate_left
            ·show Act.put _ (some 73) _ = _
             simp only [Act.put, List.setIfInBounds_toArray, List.set_cons_zero, List.set_cons_succ, i64_w, i32_w]
             rfl
            refine pure_ (i := 14) (N := some 74) (v := ?_) (a' := ?_) #[true, true, true, true, true, true, true, true, true, true, true, true, true, true, true, false, false] rfl rfl (any_of HT_.out (by kernel_rfl)) (fun _ _ _ h => h) (Or.inl ⟨by rfl, ?_⟩) ?_ ?_
            rotate_left
            ·intro w'
             go_simp
             with_reducible rfl
            rotate_left
            ·simp only [Act.put, List.setIfInBounds_toArray, List.set_cons_zero, List.set_cons_succ, i64_w, i32_w]
             rfl
            refine one_ (i := 15) (N := none) #[true, true, true, true, true, true, true, true, true, true, true, true, true, true, true, true, false] rfl rfl (one_of HT_.out (by kernel_rfl)) (by decide) (fun K hK => ?_)
            have hs100 : w98.cell? ⟨gb353, 0, none⟩ = some (.int .i64 x354000_15) := (blk_cell BK353.out 0).trans rfl
            have hfs100 := blk_frozen BK353.out 0
            have hns100_0 := NB352_353.out
            have hms100_0 := NB353_352.out
            have hs101 : w98.cell? ⟨gb353, 1, none⟩ = some (.int .i64 x354001_15) := (blk_cell BK353.out 1).trans rfl
            have hfs101 := blk_frozen BK353.out 1
            have hns101_0 := NB352_353.out
            have hms101_0 := NB353_352.out
            have hs102 : w98.cell? ⟨gb353, 2, none⟩ = some (.int .i64 x354002_15) := (blk_cell BK353.out 2).trans rfl
            have hfs102 := blk_frozen BK353.out 2
            have hns102_0 := NB352_353.out
            have hms102_0 := NB353_352.out
            have hs103 : w98.cell? ⟨gb353, 3, none⟩ = some (.int .i64 x354003_15) := (blk_cell BK353.out 3).trans rfl
            have hfs103 := blk_frozen BK353.out 3
            have hns103_0 := NB352_353.out
            have hms103_0 := NB353_352.out
            have hs104 : w98.cell? ⟨gb353, 4, none⟩ = some (.int .i64 x354004_15) := (blk_cell BK353.out 4).trans rfl
            have hfs104 := blk_frozen BK353.out 4
            have hns104_0 := NB352_353.out
            have hms104_0 := NB353_352.out
            have hs105 : w98.cell? ⟨gb353, 5, none⟩ = some (.int .i64 x354005_15) := (blk_cell BK353.out 5).trans rfl
            have hfs105 := blk_frozen BK353.out 5
            have hns105_0 := NB352_353.out
            have hms105_0 := NB353_352.out
            have hs106 : w98.cell? ⟨gb353, 6, none⟩ = some (.slice none 0 0) := (blk_cell BK353.out 6).trans rfl
            have hfs106 := blk_frozen BK353.out 6
            have hns106_0 := NB352_353.out
            have hms106_0 := NB353_352.out
            have hs107 : w98.cell? ⟨gb353, 7, none⟩ = some (.int .i64 x354007_15) := (blk_cell BK353.out 7).trans rfl
            have hfs107 := blk_frozen BK353.out 7
            have hns107_0 := NB352_353.out
            have hms107_0 := NB353_352.out
            refine skip_ (w1 := ?_) (by rfl) rfl ?_ ?_
            rotate_left
            ·go_simp
             rfl
            refine hK.out _ _ ⟨((cell_far (p := ⟨gb353, _, none⟩) NB352_353.out _).trans (((cell_far (p := ⟨gb353, _, none⟩) NB352_353.out _).trans (((cell_far (p := ⟨gb353, _, none⟩) NB352_353.out _).trans (((cell_far (p := ⟨gb353, _, none⟩) NB352_353.out _).trans (((cell_far (p := ⟨gb353, _, none⟩) NB352_353.out _).trans (((cell_far (p := ⟨gb353, _, none⟩) NB352_353.out _).trans (((cell_far (p := ⟨gb353, _, none⟩) NB352_353.out _).trans (((cell_far (p := ⟨gb353, _, none⟩) NB352_353.out _).trans (hHeld.1)))))))))))))))), ((cell_far (p := ⟨gb353, _, none⟩) NB352_353.out _).trans (((cell_far (p := ⟨gb353, _, none⟩) NB352_353.out _).trans (((cell_far (p := ⟨gb353, _, none⟩) NB352_353.out _).trans (((cell_far (p := ⟨gb353, _, none⟩) NB352_353.out _).trans (((cell_far (p := ⟨gb353, _, none⟩) NB352_353.out _).trans (((cell_far (p := ⟨gb353, _, none⟩) NB352_353.out _).trans (((cell_far (p := ⟨gb353, _, none⟩) NB352_353.out _).trans (((cell_far (p := ⟨gb353, _, none⟩) NB352_353.out _).trans (hHeld.2.1)))))))))))))))), ((cell_far (p := ⟨gb353, _, none⟩) NB352_353.out _).trans (((cell_far (p := ⟨gb353, _, none⟩) NB352_353.out _).trans (((cell_far (p := ⟨gb353, _, none⟩) NB352_353.out _).trans (((cell_far (p := ⟨gb353, _, none⟩) NB352_353.out _).trans (((cell_far (p := ⟨gb353, _, none⟩) NB352_353.out _).trans (((cell_far (p := ⟨gb353, _, none⟩) NB352_353.out _).trans (((cell_far (p := ⟨gb353, _, none⟩) NB352_353.out _).trans (((cell_far (p := ⟨gb353, _, none⟩) NB352_353.out _).trans (hHeld.2.2.1)))))))))))))))), ((cell_far (p := ⟨gb353, _, none⟩) NB352_353.out _).trans (((cell_far (p := ⟨gb353, _, none⟩) NB352_353.out _).trans (((cell_far (p := ⟨gb353, _, none⟩) NB352_353.out _).trans (((cell_far (p := ⟨gb353, _, none⟩) NB352_353.out _).trans (((cell_far (p := ⟨gb353, _, none⟩) NB352_353.out _).trans (((cell_far (p := ⟨gb353, _, none⟩) NB352_353.out _).trans (((cell_far (p := ⟨gb353, _, none⟩) NB352_353.out _).trans (((cell_far (p := ⟨gb353, _, none⟩) NB352_353.out _).trans (hHeld.2.2.2.1)))))))))))))))), ((cell_far (p := ⟨gb353, _, none⟩) NB352_353.out _).trans (((cell_far (p := ⟨gb353, _, none⟩) NB352_353.out _).trans (((cell_far (p := ⟨gb353, _, none⟩) NB352_353.out _).trans (((cell_far (p := ⟨gb353, _, none⟩) NB352_353.out _).trans (((cell_far (p := ⟨gb353, _, none⟩) NB352_353.out _).trans (((cell_far (p := ⟨gb353, _, none⟩) NB352_353.out _).trans (((cell_far (p := ⟨gb353, _, none⟩) NB352_353.out _).trans (((cell_far (p := ⟨gb353, _, none⟩) NB352_353.out _).trans (hHeld.2.2.2.2.1)))))))))))))))), ((cell_far (p := ⟨gb353, _, none⟩) NB352_353.out _).trans (((cell_far (p := ⟨gb353, _, none⟩) NB352_353.out _).trans (((cell_far (p := ⟨gb353, _, none⟩) NB352_353.out _).trans (((cell_far (p := ⟨gb353, _, none⟩) NB352_353.out _).trans (((cell_far (p := ⟨gb353, _, none⟩) NB352_353.out _).trans (((cell_far (p := ⟨gb353, _, none⟩) NB352_353.out _).trans (((cell_far (p := ⟨gb353, _, none⟩) NB352_353.out _).trans (((cell_far (p := ⟨gb353, _, none⟩) NB352_353.out _).trans (hHeld.2.2.2.2.2.1)))))))))))))))), ((cell_far (p := ⟨gb353, _, none⟩) NB352_353.out _).trans (((cell_far (p := ⟨gb353, _, none⟩) NB352_353.out _).trans (((cell_far (p := ⟨gb353, _, none⟩) NB352_353.out _).trans (((cell_far (p := ⟨gb353, _, none⟩) NB352_353.out _).trans (((cell_far (p := ⟨gb353, _, none⟩) NB352_353.out _).trans (((cell_far (p := ⟨gb353, _, none⟩) NB352_353.out _).trans (((cell_far (p := ⟨gb353, _, none⟩) NB352_353.out _).trans (((cell_far (p := ⟨gb353, _, none⟩) NB352_353.out _).trans (hHeld.2.2.2.2.2.2.1)))))))))))))))), ((cell_far (p := ⟨gb353, _, none⟩) NB352_353.out _).trans (((cell_far (p := ⟨gb353, _, none⟩) NB352_353.out _).trans (((cell_far (p := ⟨gb353, _, none⟩) NB352_353.out _).trans (((cell_far (p := ⟨gb353, _, none⟩) NB352_353.out _).trans (((cell_far (p := ⟨gb353, _, none⟩) NB352_353.out _).trans (((cell_far (p := ⟨gb353, _, none⟩) NB352_353.out _).trans (((cell_far (p := ⟨gb353, _, none⟩) NB352_353.out _).trans (((cell_far (p := ⟨gb353, _, none⟩) NB352_353.out _).trans (hHeld.2.2.2.2.2.2.2))))))))))))))))⟩ (fun hHeld => ?_)
            clear hK K
            refine pure_ (i := 16) (N := some 5) (v := ?_) (a' := ?_) #[true, true, true, true, true, true, true, true, true, true, true, true, true, true, true, true, true] rfl rfl (any_of HT_.out (by kernel_rfl)) (fun _ _ _ h => h) (Or.inl ⟨by rfl, ?_⟩) ?_ ?_
            rotate_left
            ·intro w'
             go_simp
             with_reducible rfl
            rotate_left
            ·simp only [Act.put, List.setIfInBounds_toArray, List.set_cons_zero, List.set_cons_succ, i64_w, i32_w]
             rfl
            refine done_ (done_of HT_.out (by kernel_rfl)) ?_
            try go_wp2
            refine bodyPost_ret (results_ct rfl _ _ gb353 24 #[.int .i64 0, .int .i64 a1_1, .int .i64 (wrap64 (a1_1 + (wrap64 (a1_2 - a1_1)))), .int .i64 0, .int .i64 0, .int .i64 0, .slice Ao99 y382.length co99, .int .i64 0] (0, 0) _ rfl (by (with_reducible repeat (first|refine bN ?_ _|refine bD ?_|refine bA ?_ _)); apply put8; (with_reducible repeat (first|refine bN ?_ _|refine bD ?_|refine bA ?_ _)); exact BK353.out) Try.underlying24 rfl (by kernel_rfl)) rfl ?_
            exact ⟨_, by first | rfl | (simp [errW_none, errW_some] <;> rfl) | (simp [*, errW_none, errW_some] <;> rfl), by (with_reducible repeat (first | apply Kd.R_alloc | apply Kd.R_drewN | apply Kd.R_drew)); exact Kd.R_mono (Kd.Rf8 (Kd.R_types HO384.out BK353.out (by decide)) (fun _ hk => hk.2)) (fun _ hk => hk.1), by repeat (first|(with_reducible first|exact HB.out|apply lA|apply lN|apply lD|refine lS ?_ GE352.out|refine lS ?_ GE353.out)|exact HB.out)⟩
           ·rw [if_neg c91] at H
            exact absurd H (by simp)
          ·rw [if_neg c90] at H
           exact absurd H (by simp)
         ·rw [if_neg c89] at H
          exact absurd H (by simp)
        ·rw [if_neg c88] at H
         exact absurd H (by simp)
 ·rw [if_neg c4] at H
  have c4b0 : (t357 == 0) = false := beq_eq_false_iff_ne.mpr c4
  have c4b1 : (t357 != 0) = true := bne_iff_ne.mpr c4
  simp only [Option.some.injEq, Prod.mk.injEq] at H
  obtain ⟨rfl, rfl, rfl, rfl, rfl, rfl, rfl, rfl, rfl⟩ := H
  go_enter Try.func16, Try.ntmps16
  go_wp2_with (first | ((with_reducible refine gate_dst (N := 3) rfl ?_); refine box_event ?hg (N := 3) ?hd (cs := #[.int .i64 a1_0, .int .i64 a1_1, .int .i64 a1_2, .int .i64 a1_3, .int .i64 a1_4, .int .i64 a1_5, .slice A1_6 l1_6.length c1_6, .int .i64 a1_7]) (t := 24) ?hr ?_; (case hd => rfl); (case hg => rfl); (case hr => first | (go_simp; done) | (go_simp; rfl)); intro gb352 hg w108 hbox hb; have n0_ := aM (Kd.V_below (Kd.V_elderB (by (with_reducible repeat (first | apply Kd.V_alloc | apply Kd.V_drewN | apply Kd.V_drew)); exact HO0.out) gb352 (Nat.le_of_eq hg.symm)) hb); have n1_ := aM (below_step (by repeat (first|(with_reducible first|exact HB.out|apply lA|apply lN|apply lD)|exact HB.out)) hb); have n2_ := aM (hbox); have n3_ := aM ((by rw [hg]; exact (below_size (by repeat (first|(with_reducible first|exact HB.out|apply lA|apply lN|apply lD)|exact HB.out))) : w.heap.size ≤ gb352)); have n4_ := aM ((by rw [hg]; exact (below_size (by repeat (first|(with_reducible first|exact HB.out|apply lA|apply lN|apply lD)|exact HB.out))) : w.heap.size ≤ gb352)); clear HO0; clear HB; have HO0 := n0_; have HB := n1_; have BK352 := n2_; have GW352 := n3_; have GE352 := n4_; clear n0_ n1_ n2_ n3_ n4_; clear hb hbox hg) | ((with_reducible refine gate_dst (N := 4) rfl ?_); refine box_event ?hg (N := 4) ?hd (cs := #[.int .i64 0, .int .i64 0, .int .i64 0, .int .i64 0, .int .i64 0, .int .i64 0, .slice none 0 0, .int .i64 0]) (t := 24) ?hr ?_; (case hd => rfl); (case hg => rfl); (case hr => first | (go_simp; done) | (go_simp; rfl)); intro gb353 hg w109 hbox hb; have n0_ := aM (Kd.V_below (Kd.V_elderB (by (with_reducible repeat (first | apply Kd.V_alloc | apply Kd.V_drewN | apply Kd.V_drew)); exact HO0.out) gb353 (Nat.le_of_eq hg.symm)) hb); have n1_ := aM (blk_below (by (with_reducible repeat (first|refine bN ?_ _|refine bD ?_|refine bA ?_ _)); exact BK352.out) hb); have n2_ := aM (below_step (by repeat (first|(with_reducible first|exact HB.out|apply lA|apply lN|apply lD|refine lS ?_ GE352.out)|exact HB.out)) hb); have n3_ := aM (hbox); have n4_ := aM ((by rw [hg]; exact (below_size (by repeat (first|(with_reducible first|exact HB.out|apply lA|apply lN|apply lD|refine lS ?_ GE352.out)|exact HB.out))) : w.heap.size ≤ gb353)); have n5_ := aM ((by rw [hg]; exact (below_size (by repeat (first|(with_reducible first|exact HB.out|apply lA|apply lN|apply lD|refine lS ?_ GE352.out)|exact HB.out))) : w.heap.size ≤ gb353)); have n6_ := aM ((by rw [hg]; exact Nat.ne_of_lt (blk_lt (g := gb352) (o := .cells #[.int .i64 a1_0, .int .i64 a1_1, .int .i64 a1_2, .int .i64 a1_3, .int .i64 a1_4, .int .i64 a1_5, .slice A1_6 l1_6.length c1_6, .int .i64 a1_7] 24 (0, 0)) (by (with_reducible repeat (first|refine bN ?_ _|refine bD ?_|refine bA ?_ _)); exact BK352.out)) : gb352 ≠ gb353)); have n7_ := aM ((by rw [hg]; exact Nat.ne_of_gt (blk_lt (g := gb352) (o := .cells #[.int .i64 a1_0, .int .i64 a1_1, .int .i64 a1_2, .int .i64 a1_3, .int .i64 a1_4, .int .i64 a1_5, .slice A1_6 l1_6.length c1_6, .int .i64 a1_7] 24 (0, 0)) (by (with_reducible repeat (first|refine bN ?_ _|refine bD ?_|refine bA ?_ _)); exact BK352.out)) : gb353 ≠ gb352)); clear HO0; clear BK352; clear HB; have HO0 := n0_; have BK352 := n1_; have HB := n2_; have BK353 := n3_; have GW353 := n4_; have GE353 := n5_; have NB352_353 := n6_; have NB353_352 := n7_; clear n0_ n1_ n2_ n3_ n4_ n5_ n6_ n7_; clear hb hbox hg; have hnb110 := NB352_353.out; have hnc110 := NB353_352.out; have hcz111_0 : w109.cell? ⟨gb352, 0, none⟩ = some (.int .i64 a1_0) := (blk_cell BK352.out 0).trans rfl; have hcz111_1 : w109.cell? ⟨gb352, 1, none⟩ = some (.int .i64 a1_1) := (blk_cell BK352.out 1).trans rfl; have hcz111_2 : w109.cell? ⟨gb352, 2, none⟩ = some (.int .i64 a1_2) := (blk_cell BK352.out 2).trans rfl; have hcz111_3 : w109.cell? ⟨gb352, 3, none⟩ = some (.int .i64 a1_3) := (blk_cell BK352.out 3).trans rfl; have hcz111_4 : w109.cell? ⟨gb352, 4, none⟩ = some (.int .i64 a1_4) := (blk_cell BK352.out 4).trans rfl; have hcz111_5 : w109.cell? ⟨gb352, 5, none⟩ = some (.int .i64 a1_5) := (blk_cell BK352.out 5).trans rfl; have hcz111_6 : w109.cell? ⟨gb352, 6, none⟩ = some (.slice A1_6 l1_6.length c1_6) := (blk_cell BK352.out 6).trans rfl; have hcz111_7 : w109.cell? ⟨gb352, 7, none⟩ = some (.int .i64 a1_7) := (blk_cell BK352.out 7).trans rfl; have hfz111_0 := blk_frozen BK352.out 0; have hfz111_1 := blk_frozen BK352.out 1; have hfz111_2 := blk_frozen BK352.out 2; have hfz111_3 := blk_frozen BK352.out 3; have hfz111_4 := blk_frozen BK352.out 4; have hfz111_5 := blk_frozen BK352.out 5; have hfz111_6 := blk_frozen BK352.out 6; have hfz111_7 := blk_frozen BK352.out 7) | ((with_reducible refine gate_callee (f := 14) rfl ?_); refine goesL_ (some 15) rfl rfl Try.func14 (by kernel_rfl) rfl #[.slice A0 l0.length c0, .agg #[.int .i64 a1_0, .int .i64 a1_1, .int .i64 a1_2, .int .i64 a1_3, .int .i64 a1_4, .int .i64 a1_5, .slice A1_6 l1_6.length c1_6, .int .i64 a1_7]] rfl (by (try simp only [List.map_toArray, List.map_cons, List.map_nil]); first | done | rfl | (simp only [List.length_drop, List.length_take]; rfl)) ?_; (with_reducible refine (emenderref09_Apply.calls k _ _ l0 a1_0 a1_1 a1_2 a1_3 a1_4 a1_5 _ _ l1_6 a1_7 t354 t357 _ ?side1 ?side2 ?side3 ?side4 A3.out).mono ?_); (case side1 => repeat (first | exact (Kd.V_reads' HO0.out).2.2 | (with_reducible refine Kd.C_alloc ?_ _) | (with_reducible refine Kd.C_drewN ?_ _) | (with_reducible refine Kd.C_drew ?_))); (case side2 => exact (Kd.V_reads' HO0.out).2.1); (case side3 => repeat (first | exact (Kd.C_below HR1_6.out HB.out) | (with_reducible refine Kd.C_alloc ?_ _) | (with_reducible refine Kd.C_drewN ?_ _) | (with_reducible refine Kd.C_drew ?_))); (case side4 => exact HC1_6.out); rintro e w112 ⟨v355, rfl, ho0, hb⟩; refine ⟨_, rfl, ?_⟩; have n0_ := aM (Kd.V_elder' (by (with_reducible repeat (first | apply Kd.V_alloc | apply Kd.V_drewN | apply Kd.V_drew)); exact HO0.out) (Kd.R_base ho0) hb); have n1_ := aM (Kd.R_lower (Kd.R_newM (M := fun k_ => (w.heap.size ≤ k_)) ho0 (below_size (by repeat (first|(with_reducible first|exact HB.out|apply lA|apply lN|apply lD|refine lS ?_ GE352.out|refine lS ?_ GE353.out)|exact HB.out))) (fun k_ h_ => h_)) (below_size (by repeat (first|(with_reducible first|exact HB.out|apply lA|apply lN|apply lD|refine lS ?_ GE352.out|refine lS ?_ GE353.out)|exact HB.out)))); have n2_ := aM (blk_below (by (with_reducible repeat (first|refine bN ?_ _|refine bD ?_|refine bA ?_ _)); exact BK352.out) hb); have n3_ := aM (blk_below (by (with_reducible repeat (first|refine bN ?_ _|refine bD ?_|refine bA ?_ _)); exact BK353.out) hb); have n4_ := aM (below_step (by repeat (first|(with_reducible first|exact HB.out|apply lA|apply lN|apply lD|refine lS ?_ GE352.out|refine lS ?_ GE353.out)|exact HB.out)) hb); clear HO0; clear BK352; clear BK353; clear HB; have HO0 := n0_; have HO356 := n1_; have BK352 := n2_; have BK353 := n3_; have HB := n4_; clear n0_ n1_ n2_ n3_ n4_; (try clear hb); (try clear hb2); (try clear hk); (try clear hi); (try clear ho0); have hcz113_0 : w112.cell? ⟨gb353, 0, none⟩ = some (.int .i64 0) := (blk_cell BK353.out 0).trans rfl; have hcz113_1 : w112.cell? ⟨gb353, 1, none⟩ = some (.int .i64 0) := (blk_cell BK353.out 1).trans rfl; have hcz113_2 : w112.cell? ⟨gb353, 2, none⟩ = some (.int .i64 0) := (blk_cell BK353.out 2).trans rfl; have hcz113_3 : w112.cell? ⟨gb353, 3, none⟩ = some (.int .i64 0) := (blk_cell BK353.out 3).trans rfl; have hcz113_4 : w112.cell? ⟨gb353, 4, none⟩ = some (.int .i64 0) := (blk_cell BK353.out 4).trans rfl; have hcz113_5 : w112.cell? ⟨gb353, 5, none⟩ = some (.int .i64 0) := (blk_cell BK353.out 5).trans rfl; have hcz113_6 : w112.cell? ⟨gb353, 6, none⟩ = some (.slice none 0 0) := (blk_cell BK353.out 6).trans rfl; have hcz113_7 : w112.cell? ⟨gb353, 7, none⟩ = some (.int .i64 0) := (blk_cell BK353.out 7).trans rfl; have hfz113_0 := blk_frozen BK353.out 0; have hfz113_1 := blk_frozen BK353.out 1; have hfz113_2 := blk_frozen BK353.out 2; have hfz113_3 := blk_frozen BK353.out 3; have hfz113_4 := blk_frozen BK353.out 4; have hfz113_5 := blk_frozen BK353.out 5; have hfz113_6 := blk_frozen BK353.out 6; have hfz113_7 := blk_frozen BK353.out 7))
  refine bodyPost_ret (results_ct rfl _ _ gb353 24 #[.int .i64 0, .int .i64 0, .int .i64 0, .int .i64 0, .int .i64 0, .int .i64 0, .slice none 0 0, .int .i64 0] (0, 0) _ rfl (by (with_reducible repeat (first|refine bN ?_ _|refine bD ?_|refine bA ?_ _)); apply put8; (with_reducible repeat (first|refine bN ?_ _|refine bD ?_|refine bA ?_ _)); exact BK353.out) Try.underlying24 rfl (by kernel_rfl)) rfl ?_
  exact ⟨_, by first | rfl | (simp [errW_none, errW_some] <;> rfl) | (simp [*, errW_none, errW_some] <;> rfl), by first | exact Kd.R_nil _ _ _ _ _ | exact Kd.N_nil _ _ _ _ _ | exact Kd.V_nil _ _ _ _ _ | exact Kd.Q_nil _ _ _ _ _ | exact Kd.S_nil _ _ _ _ _, by repeat (first|(with_reducible first|exact HB.out|apply lA|apply lN|apply lD|refine lS ?_ GE352.out|refine lS ?_ GE353.out)|exact HB.out)⟩

end Go.Proofs.Ytlngjgcodknpiaa.PSa
