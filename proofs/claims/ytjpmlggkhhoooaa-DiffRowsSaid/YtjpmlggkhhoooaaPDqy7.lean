-- Written for this claim by a program (printed texts under one roof).
import Derived.Test.YtjpmlggkhhoooaaPDqx0
import Derived.Test.YtjpmlggkhhoooaaPDqy5
import Derived.Test.YtjpmlggkhhoooaaPDqy6
import Derived.Test.YtjpmlggkhhoooaaPDqy0
-- Written for this claim by a program (the kit's print, with hand-made contracts for what it does not take).
namespace Go.Proofs.Ytjpmlggkhhoooaa.PDq
open Go.RowKit Go.Proofs.YtjpmlggkhhoooaaW.PrintWords Go.Proofs.YtjpmlggkhhoooaaW.PrintLast Go.Proofs.YtjpmlggkhhoooaaW.PrintMore
attribute [local go_sem] max2_int min2_int max_two min_two max_three min_three max_four min_four   -- for this text's walks alone
set_option linter.unusedVariables false
set_option linter.unusedSimpArgs false

mutual
def emenderref23_Rows.j0 : Nat → List (S64) → List (S64) → List (List (S64)) → List (List (S64)) → Bool → Option ((List (S62)) × Int)
|0, _, _, _, _, _ => none
|k + 1, x0, x1, x7, x8, x37 => if x37 = true then (some (([] : List (S62)), 2)) else ((emenderref04_Kids.f k x0 (-1)).bind fun t396 => ((emenderref04_Kids.f k x1 (-1)).bind fun t399 => (if 0 ≤ (x7.length : Int) then (if ((x7.length : Int) : Int).toNat ≤ 11728124029610 then (emenderref23_Rows.l0 k x7 x8 t396 t399 (List.replicate ((x7.length : Int) : Int).toNat []) 0) else (none)) else (none))))
def emenderref23_Rows.l0 : Nat → List (List (S64)) → List (List (S64)) → List Int → List Int → List (List Bool) → Int → Option ((List (S62)) × Int)
|0, _, _, _, _, _, _ => none
|k + 1, x7, x8, x9, x10, x11, x12 => if x12 < (x7.length : Int) then (if 0 ≤ (x8.length : Int) then (if ((x8.length : Int) : Int).toNat ≤ 281474976710656 then (emenderref23_Rows.l1 k x7 x8 x9 x10 x11 x12 (List.replicate ((x8.length : Int) : Int).toNat false) 0) else (none)) else (none)) else ((emenderref23_pairs.f k x11 (x7.length : Int) (x8.length : Int)).bind fun t413 => (if t413.length < 8796093022208 then (emenderref23_Rows.l2 k x9 x10 (t413 ++ [(⟨(x7.length : Int), (x8.length : Int)⟩ : S76)]) ([] : List (S62)) 0 0 0) else (none)))
def emenderref23_Rows.l1 : Nat → List (List (S64)) → List (List (S64)) → List Int → List Int → List (List Bool) → Int → List Bool → Int → Option ((List (S62)) × Int)
|0, _, _, _, _, _, _, _, _ => none
|k + 1, x7, x8, x9, x10, x11, x12, x13, x14 => if x14 < (x8.length : Int) then (if 0 ≤ x12 then (if x12 < (x7.length : Int) then (if 0 ≤ x14 then ((emenderref04_Same.f k (rd_L2 x7 x12) (rd_L2 x8 x14)).bind fun t410 => (if x14 < (x13.length : Int) then (emenderref23_Rows.l1 k x7 x8 x9 x10 x11 x12 (x13.set (x14 : Int).toNat t410) (wrap64 (x14 + 1))) else (none))) else (none)) else (none)) else (none)) else (if 0 ≤ x12 then (if x12 < (x11.length : Int) then (emenderref23_Rows.l0 k x7 x8 x9 x10 (x11.set (x12 : Int).toNat x13) (wrap64 (x12 + 1))) else (none)) else (none))
def emenderref23_Rows.l2 : Nat → List Int → List Int → List (S76) → List (S62) → Int → Int → Int → Option ((List (S62)) × Int)
|0, _, _, _, _, _, _, _ => none
|k + 1, x9, x10, x15, x16, x17, x18, x19 => if x19 < (x15.length : Int) then (emenderref23_Rows.l3 k x9 x10 x15 x16 x17 x18 x19) else (some (x16, 0))
def emenderref23_Rows.l3 : Nat → List Int → List Int → List (S76) → List (S62) → Int → Int → Int → Option ((List (S62)) × Int)
|0, _, _, _, _, _, _, _ => none
|k + 1, x9, x10, x15, x16, x17, x18, x19 => if 0 ≤ x19 then (if x19 < (x15.length : Int) then (if x17 < ((rd_T76 x15 x19).f0) then (if 0 ≤ x17 then (if x17 < (x9.length : Int) then (if x16.length < 5864062014805 then (emenderref23_Rows.l3 k x9 x10 x15 (x16 ++ [(⟨1, rd x9 x17, (-1)⟩ : S62)]) (wrap64 (x17 + 1)) x18 x19) else (none)) else (none)) else (none)) else (emenderref23_Rows.l4 k x9 x10 x15 x16 x17 x18 x19)) else (none)) else (none)
def emenderref23_Rows.l4 : Nat → List Int → List Int → List (S76) → List (S62) → Int → Int → Int → Option ((List (S62)) × Int)
|0, _, _, _, _, _, _, _ => none
|k + 1, x9, x10, x15, x16, x17, x18, x19 => if 0 ≤ x19 then (if x19 < (x15.length : Int) then (if x18 < ((rd_T76 x15 x19).f1) then (if 0 ≤ x18 then (if x18 < (x10.length : Int) then (if x16.length < 5864062014805 then (emenderref23_Rows.l4 k x9 x10 x15 (x16 ++ [(⟨2, (-1), rd x10 x18⟩ : S62)]) x17 (wrap64 (x18 + 1)) x19) else (none)) else (none)) else (none)) else (if x19 < (wrap64 ((x15.length : Int) - 1)) then (if 0 ≤ x17 then (if x17 < (x9.length : Int) then (if 0 ≤ x18 then (if x18 < (x10.length : Int) then (if x16.length < 5864062014805 then (emenderref23_Rows.l2 k x9 x10 x15 (x16 ++ [(⟨0, rd x9 x17, rd x10 x18⟩ : S62)]) (wrap64 (x17 + 1)) (wrap64 (x18 + 1)) (wrap64 (x19 + 1))) else (none)) else (none)) else (none)) else (none)) else (none)) else (emenderref23_Rows.l2 k x9 x10 x15 x16 (wrap64 (x17 + 1)) (wrap64 (x18 + 1)) (wrap64 (x19 + 1))))) else (none)) else (none)
end
def emenderref23_Rows.f (k : Nat) (l0 : List (S64)) (l1 : List (S64)) : Option ((List (S62)) × Int) := (emenderref23_both.f k l0 l1).bind fun t389 => (if t389 = 0 then ((emenderref23_blocks.f k l0).bind fun t390 => ((emenderref23_blocks.f k l1).bind fun t393 => (if (t390.length : Int) > 200 then (emenderref23_Rows.j0 k l0 l1 t390 t393 true) else (emenderref23_Rows.j0 k l0 l1 t390 t393 (decide ((t393.length : Int) > 200)))))) else (some (([] : List (S62)), t389)))
theorem emenderref23_Rows.mono_l : ∀ k, (∀ y0 y1 y2 y3 y4, LeO (emenderref23_Rows.j0 k y0 y1 y2 y3 y4) (emenderref23_Rows.j0 (k + 1) y0 y1 y2 y3 y4)) ∧ (∀ y0 y1 y2 y3 y4 y5, LeO (emenderref23_Rows.l0 k y0 y1 y2 y3 y4 y5) (emenderref23_Rows.l0 (k + 1) y0 y1 y2 y3 y4 y5)) ∧ (∀ y0 y1 y2 y3 y4 y5 y6 y7, LeO (emenderref23_Rows.l1 k y0 y1 y2 y3 y4 y5 y6 y7) (emenderref23_Rows.l1 (k + 1) y0 y1 y2 y3 y4 y5 y6 y7)) ∧ (∀ y0 y1 y2 y3 y4 y5 y6, LeO (emenderref23_Rows.l2 k y0 y1 y2 y3 y4 y5 y6) (emenderref23_Rows.l2 (k + 1) y0 y1 y2 y3 y4 y5 y6)) ∧ (∀ y0 y1 y2 y3 y4 y5 y6, LeO (emenderref23_Rows.l3 k y0 y1 y2 y3 y4 y5 y6) (emenderref23_Rows.l3 (k + 1) y0 y1 y2 y3 y4 y5 y6)) ∧ (∀ y0 y1 y2 y3 y4 y5 y6, LeO (emenderref23_Rows.l4 k y0 y1 y2 y3 y4 y5 y6) (emenderref23_Rows.l4 (k + 1) y0 y1 y2 y3 y4 y5 y6))
|0 => ⟨fun _ _ _ _ _ r h => by simp [emenderref23_Rows.j0] at h, fun _ _ _ _ _ _ r h => by simp [emenderref23_Rows.l0] at h, fun _ _ _ _ _ _ _ _ r h => by simp [emenderref23_Rows.l1] at h, fun _ _ _ _ _ _ _ r h => by simp [emenderref23_Rows.l2] at h, fun _ _ _ _ _ _ _ r h => by simp [emenderref23_Rows.l3] at h, fun _ _ _ _ _ _ _ r h => by simp [emenderref23_Rows.l4] at h⟩
|k + 1 => by
  obtain ⟨ih0, ih1, ih2, ih3, ih4, ih5⟩ := emenderref23_Rows.mono_l k
  refine ⟨?_, ?_, ?_, ?_, ?_, ?_⟩
  ·intro y0 y1 y2 y3 y4
   unfold emenderref23_Rows.j0
   repeat' first
  |(with_reducible exact ih0 _ _ _ _ _)
  |(with_reducible exact ih1 _ _ _ _ _ _)
  |(with_reducible exact ih2 _ _ _ _ _ _ _ _)
  |(with_reducible exact ih3 _ _ _ _ _ _ _)
  |(with_reducible exact ih4 _ _ _ _ _ _ _)
  |(with_reducible exact ih5 _ _ _ _ _ _ _)
  |(with_reducible exact emenderref04_Kids.mono _ _ _)
  |(with_reducible exact emenderref04_Same.mono _ _ _)
  |(with_reducible exact emenderref23_blocks.mono _ _)
  |(with_reducible exact emenderref23_both.mono _ _ _)
  |(with_reducible exact emenderref23_pairs.mono _ _ _ _)
  |(with_reducible exact LeO.refl _)
  |(with_reducible exact LeO.none _)
  |(with_reducible refine LeO.ite ?_ ?_)
  |(with_reducible refine LeO.bind ?_ (fun _ => ?_))
  |exact ih0 _ _ _ _ _
  |exact ih1 _ _ _ _ _ _
  |exact ih2 _ _ _ _ _ _ _ _
  |exact ih3 _ _ _ _ _ _ _
  |exact ih4 _ _ _ _ _ _ _
  |exact ih5 _ _ _ _ _ _ _
  |exact emenderref04_Kids.mono _ _ _
  |exact emenderref04_Same.mono _ _ _
  |exact emenderref23_blocks.mono _ _
  |exact emenderref23_both.mono _ _ _
  |exact emenderref23_pairs.mono _ _ _ _
  |exact LeO.none _
  |refine LeO.ite ?_ ?_
  |refine LeO.bind ?_ (fun _ => ?_)
  ·intro y0 y1 y2 y3 y4 y5
   unfold emenderref23_Rows.l0
   repeat' first
  |(with_reducible exact ih0 _ _ _ _ _)
  |(with_reducible exact ih1 _ _ _ _ _ _)
  |(with_reducible exact ih2 _ _ _ _ _ _ _ _)
  |(with_reducible exact ih3 _ _ _ _ _ _ _)
  |(with_reducible exact ih4 _ _ _ _ _ _ _)
  |(with_reducible exact ih5 _ _ _ _ _ _ _)
  |(with_reducible exact emenderref04_Kids.mono _ _ _)
  |(with_reducible exact emenderref04_Same.mono _ _ _)
  |(with_reducible exact emenderref23_blocks.mono _ _)
  |(with_reducible exact emenderref23_both.mono _ _ _)
  |(with_reducible exact emenderref23_pairs.mono _ _ _ _)
  |(with_reducible exact LeO.refl _)
  |(with_reducible exact LeO.none _)
  |(with_reducible refine LeO.ite ?_ ?_)
  |(with_reducible refine LeO.bind ?_ (fun _ => ?_))
  |exact ih0 _ _ _ _ _
  |exact ih1 _ _ _ _ _ _
  |exact ih2 _ _ _ _ _ _ _ _
  |exact ih3 _ _ _ _ _ _ _
  |exact ih4 _ _ _ _ _ _ _
  |exact ih5 _ _ _ _ _ _ _
  |exact emenderref04_Kids.mono _ _ _
  |exact emenderref04_Same.mono _ _ _
  |exact emenderref23_blocks.mono _ _
  |exact emenderref23_both.mono _ _ _
  |exact emenderref23_pairs.mono _ _ _ _
  |exact LeO.none _
  |refine LeO.ite ?_ ?_
  |refine LeO.bind ?_ (fun _ => ?_)
  ·intro y0 y1 y2 y3 y4 y5 y6 y7
   unfold emenderref23_Rows.l1
   repeat' first
  |(with_reducible exact ih0 _ _ _ _ _)
  |(with_reducible exact ih1 _ _ _ _ _ _)
  |(with_reducible exact ih2 _ _ _ _ _ _ _ _)
  |(with_reducible exact ih3 _ _ _ _ _ _ _)
  |(with_reducible exact ih4 _ _ _ _ _ _ _)
  |(with_reducible exact ih5 _ _ _ _ _ _ _)
  |(with_reducible exact emenderref04_Kids.mono _ _ _)
  |(with_reducible exact emenderref04_Same.mono _ _ _)
  |(with_reducible exact emenderref23_blocks.mono _ _)
  |(with_reducible exact emenderref23_both.mono _ _ _)
  |(with_reducible exact emenderref23_pairs.mono _ _ _ _)
  |(with_reducible exact LeO.refl _)
  |(with_reducible exact LeO.none _)
  |(with_reducible refine LeO.ite ?_ ?_)
  |(with_reducible refine LeO.bind ?_ (fun _ => ?_))
  |exact ih0 _ _ _ _ _
  |exact ih1 _ _ _ _ _ _
  |exact ih2 _ _ _ _ _ _ _ _
  |exact ih3 _ _ _ _ _ _ _
  |exact ih4 _ _ _ _ _ _ _
  |exact ih5 _ _ _ _ _ _ _
  |exact emenderref04_Kids.mono _ _ _
  |exact emenderref04_Same.mono _ _ _
  |exact emenderref23_blocks.mono _ _
  |exact emenderref23_both.mono _ _ _
  |exact emenderref23_pairs.mono _ _ _ _
  |exact LeO.none _
  |refine LeO.ite ?_ ?_
  |refine LeO.bind ?_ (fun _ => ?_)
  ·intro y0 y1 y2 y3 y4 y5 y6
   unfold emenderref23_Rows.l2
   repeat' first
  |(with_reducible exact ih0 _ _ _ _ _)
  |(with_reducible exact ih1 _ _ _ _ _ _)
  |(with_reducible exact ih2 _ _ _ _ _ _ _ _)
  |(with_reducible exact ih3 _ _ _ _ _ _ _)
  |(with_reducible exact ih4 _ _ _ _ _ _ _)
  |(with_reducible exact ih5 _ _ _ _ _ _ _)
  |(with_reducible exact emenderref04_Kids.mono _ _ _)
  |(with_reducible exact emenderref04_Same.mono _ _ _)
  |(with_reducible exact emenderref23_blocks.mono _ _)
  |(with_reducible exact emenderref23_both.mono _ _ _)
  |(with_reducible exact emenderref23_pairs.mono _ _ _ _)
  |(with_reducible exact LeO.refl _)
  |(with_reducible exact LeO.none _)
  |(with_reducible refine LeO.ite ?_ ?_)
  |(with_reducible refine LeO.bind ?_ (fun _ => ?_))
  |exact ih0 _ _ _ _ _
  |exact ih1 _ _ _ _ _ _
  |exact ih2 _ _ _ _ _ _ _ _
  |exact ih3 _ _ _ _ _ _ _
  |exact ih4 _ _ _ _ _ _ _
  |exact ih5 _ _ _ _ _ _ _
  |exact emenderref04_Kids.mono _ _ _
  |exact emenderref04_Same.mono _ _ _
  |exact emenderref23_blocks.mono _ _
  |exact emenderref23_both.mono _ _ _
  |exact emenderref23_pairs.mono _ _ _ _
  |exact LeO.none _
  |refine LeO.ite ?_ ?_
  |refine LeO.bind ?_ (fun _ => ?_)
  ·intro y0 y1 y2 y3 y4 y5 y6
   unfold emenderref23_Rows.l3
   repeat' first
  |(with_reducible exact ih0 _ _ _ _ _)
  |(with_reducible exact ih1 _ _ _ _ _ _)
  |(with_reducible exact ih2 _ _ _ _ _ _ _ _)
  |(with_reducible exact ih3 _ _ _ _ _ _ _)
  |(with_reducible exact ih4 _ _ _ _ _ _ _)
  |(with_reducible exact ih5 _ _ _ _ _ _ _)
  |(with_reducible exact emenderref04_Kids.mono _ _ _)
  |(with_reducible exact emenderref04_Same.mono _ _ _)
  |(with_reducible exact emenderref23_blocks.mono _ _)
  |(with_reducible exact emenderref23_both.mono _ _ _)
  |(with_reducible exact emenderref23_pairs.mono _ _ _ _)
  |(with_reducible exact LeO.refl _)
  |(with_reducible exact LeO.none _)
  |(with_reducible refine LeO.ite ?_ ?_)
  |(with_reducible refine LeO.bind ?_ (fun _ => ?_))
  |exact ih0 _ _ _ _ _
  |exact ih1 _ _ _ _ _ _
  |exact ih2 _ _ _ _ _ _ _ _
  |exact ih3 _ _ _ _ _ _ _
  |exact ih4 _ _ _ _ _ _ _
  |exact ih5 _ _ _ _ _ _ _
  |exact emenderref04_Kids.mono _ _ _
  |exact emenderref04_Same.mono _ _ _
  |exact emenderref23_blocks.mono _ _
  |exact emenderref23_both.mono _ _ _
  |exact emenderref23_pairs.mono _ _ _ _
  |exact LeO.none _
  |refine LeO.ite ?_ ?_
  |refine LeO.bind ?_ (fun _ => ?_)
  ·intro y0 y1 y2 y3 y4 y5 y6
   unfold emenderref23_Rows.l4
   repeat' first
  |(with_reducible exact ih0 _ _ _ _ _)
  |(with_reducible exact ih1 _ _ _ _ _ _)
  |(with_reducible exact ih2 _ _ _ _ _ _ _ _)
  |(with_reducible exact ih3 _ _ _ _ _ _ _)
  |(with_reducible exact ih4 _ _ _ _ _ _ _)
  |(with_reducible exact ih5 _ _ _ _ _ _ _)
  |(with_reducible exact emenderref04_Kids.mono _ _ _)
  |(with_reducible exact emenderref04_Same.mono _ _ _)
  |(with_reducible exact emenderref23_blocks.mono _ _)
  |(with_reducible exact emenderref23_both.mono _ _ _)
  |(with_reducible exact emenderref23_pairs.mono _ _ _ _)
  |(with_reducible exact LeO.refl _)
  |(with_reducible exact LeO.none _)
  |(with_reducible refine LeO.ite ?_ ?_)
  |(with_reducible refine LeO.bind ?_ (fun _ => ?_))
  |exact ih0 _ _ _ _ _
  |exact ih1 _ _ _ _ _ _
  |exact ih2 _ _ _ _ _ _ _ _
  |exact ih3 _ _ _ _ _ _ _
  |exact ih4 _ _ _ _ _ _ _
  |exact ih5 _ _ _ _ _ _ _
  |exact emenderref04_Kids.mono _ _ _
  |exact emenderref04_Same.mono _ _ _
  |exact emenderref23_blocks.mono _ _
  |exact emenderref23_both.mono _ _ _
  |exact emenderref23_pairs.mono _ _ _ _
  |exact LeO.none _
  |refine LeO.ite ?_ ?_
  |refine LeO.bind ?_ (fun _ => ?_)
theorem emenderref23_Rows.mono : ∀ a0 a1 k, LeO (emenderref23_Rows.f k a0 a1) (emenderref23_Rows.f (k + 1) a0 a1) := by
 intro a0 a1 k
 obtain ⟨ih0, ih1, ih2, ih3, ih4, ih5⟩ := emenderref23_Rows.mono_l k
 unfold emenderref23_Rows.f
 repeat' first
  |(with_reducible exact ih0 _ _ _ _ _)
  |(with_reducible exact ih1 _ _ _ _ _ _)
  |(with_reducible exact ih2 _ _ _ _ _ _ _ _)
  |(with_reducible exact ih3 _ _ _ _ _ _ _)
  |(with_reducible exact ih4 _ _ _ _ _ _ _)
  |(with_reducible exact ih5 _ _ _ _ _ _ _)
  |(with_reducible exact emenderref04_Kids.mono _ _ _)
  |(with_reducible exact emenderref04_Same.mono _ _ _)
  |(with_reducible exact emenderref23_blocks.mono _ _)
  |(with_reducible exact emenderref23_both.mono _ _ _)
  |(with_reducible exact emenderref23_pairs.mono _ _ _ _)
  |(with_reducible exact LeO.refl _)
  |(with_reducible exact LeO.none _)
  |(with_reducible refine LeO.ite ?_ ?_)
  |(with_reducible refine LeO.bind ?_ (fun _ => ?_))
  |exact ih0 _ _ _ _ _
  |exact ih1 _ _ _ _ _ _
  |exact ih2 _ _ _ _ _ _ _ _
  |exact ih3 _ _ _ _ _ _ _
  |exact ih4 _ _ _ _ _ _ _
  |exact ih5 _ _ _ _ _ _ _
  |exact emenderref04_Kids.mono _ _ _
  |exact emenderref04_Same.mono _ _ _
  |exact emenderref23_blocks.mono _ _
  |exact emenderref23_both.mono _ _ _
  |exact emenderref23_pairs.mono _ _ _ _
  |exact LeO.none _
  |refine LeO.ite ?_ ?_
  |refine LeO.bind ?_ (fun _ => ?_)
def emenderref23_Rows.T18 : Bool × List (List Nat × List Nat) := (true, [([], []), ([], []), ([], []), ([], []), ([2, 3], [2, 3]), ([4], [4]), ([], []), ([], []), ([6, 7], [6, 7]), ([8], [8]), ([5, 9], [5, 9]), ([0, 1, 0, 1, 2, 3, 4, 5, 6, 7, 8, 9, 10], [0, 1]), ([11, 10, 10, 0, 1, 2, 3, 4, 5, 6, 7, 8, 9, 10], [10, 11])])
def emenderref23_Rows.B18 : List Nat := [0, 0, 0, 0, 12, 28, 0, 0, 192, 448, 1020, 2047, 4095]
theorem emenderref23_Rows.tab18 : rtab .any (opsOf Try.f24 18) = emenderref23_Rows.T18 := by kernel_rfl
theorem emenderref23_Rows.bits18 : waitsOk emenderref23_Rows.T18.2 emenderref23_Rows.B18 = true := by kernel_rfl
def emenderref23_Rows.T35 : Bool × List (List Nat × List Nat) := (true, [([], []), ([], []), ([], []), ([1, 2], [1, 2]), ([3], [3]), ([], []), ([], []), ([5, 6], [5, 6]), ([7], [7]), ([4, 8], [4, 8]), ([9], [9]), ([0, 10], [0, 10]), ([11, 11, 0, 1, 2, 3, 4, 5, 6, 7, 8, 9, 10, 11], [0, 11])])
def emenderref23_Rows.B35 : List Nat := [0, 0, 0, 6, 14, 0, 0, 96, 224, 510, 1022, 2047, 4095]
theorem emenderref23_Rows.tab35 : rtab .any (opsOf Try.f24 35) = emenderref23_Rows.T35 := by kernel_rfl
theorem emenderref23_Rows.bits35 : waitsOk emenderref23_Rows.T35.2 emenderref23_Rows.B35 = true := by kernel_rfl
set_option maxHeartbeats 8000000 in
set_option maxRecDepth 100000 in
theorem emenderref23_Rows.calls (k : Nat) (A0 : Option Addr) (c0 : Nat) (l0 : List (S64)) (A1 : Option Addr) (c1 : Nat) (l1 : List (S64)) (r1 : List (S62)) (r2 : Int) (w : World) (hr0 : Kd.C k64 w A0 l0.length l0) (hc0 : l0.length ≤ c0) (hr1 : Kd.C k64 w A1 l1.length l1) (hc1 : l1.length ≤ c1) (h : emenderref23_Rows.f k l0 l1 = some (r1, r2)) :
  Calls Try.prog 24 #[.slice A0 l0.length c0, .slice A1 l1.length c1] w fun e w' => ∃ v0_ : Value, e = .returned (.tuple #[v0_, .int .i64 r2]) ∧ Kd.R k62 62 w' w.heap.size (fun _ => True) v0_ r1 ∧ Below w.heap.size w w' := by
 have hu76 := Try.underlying76
 have hu62 := Try.underlying62
 have HR0 := aM hr0
 have HC0 := aM hc0
 clear hr0 hc0
 have HR1 := aM hr1
 have HC1 := aM hc1
 clear hr1 hc1
 have HB := aM (Below.refl w.heap.size w)
 have H : ((emenderref23_both.f k l0 l1).bind fun t389 => (if t389 = 0 then ((emenderref23_blocks.f k l0).bind fun t390 => ((emenderref23_blocks.f k l1).bind fun t393 => (if (t390.length : Int) > 200 then (emenderref23_Rows.j0 k l0 l1 t390 t393 true) else (emenderref23_Rows.j0 k l0 l1 t390 t393 (decide ((t393.length : Int) > 200)))))) else (some (([] : List (S62)), t389)))) = some (r1, r2) := h
 clear h
 replace H := Option.bind_eq_some_iff.mp H
 obtain ⟨t389, A30, H⟩ := H
 replace H : (if t389 = 0 then ((emenderref23_blocks.f k l0).bind fun t390 => ((emenderref23_blocks.f k l1).bind fun t393 => (if (t390.length : Int) > 200 then (emenderref23_Rows.j0 k l0 l1 t390 t393 true) else (emenderref23_Rows.j0 k l0 l1 t390 t393 (decide ((t393.length : Int) > 200)))))) else (some (([] : List (S62)), t389))) = some (r1, r2) := H
 have A3 := aM A30
 clear A30
 by_cases c4 : t389 = 0
 ·rw [if_pos c4] at H
  have c4b0 : (t389 == 0) = true := beq_iff_eq.mpr c4
  have c4b1 : (t389 != 0) = false := bne_eq_false_iff_eq.mpr c4
  clear c4
  replace H := Option.bind_eq_some_iff.mp H
  obtain ⟨t390, A50, H⟩ := H
  replace H : ((emenderref23_blocks.f k l1).bind fun t393 => (if (t390.length : Int) > 200 then (emenderref23_Rows.j0 k l0 l1 t390 t393 true) else (emenderref23_Rows.j0 k l0 l1 t390 t393 (decide ((t393.length : Int) > 200))))) = some (r1, r2) := H
  have A5 := aM A50
  clear A50
  replace H := Option.bind_eq_some_iff.mp H
  obtain ⟨t393, A60, H⟩ := H
  replace H : (if (t390.length : Int) > 200 then (emenderref23_Rows.j0 k l0 l1 t390 t393 true) else (emenderref23_Rows.j0 k l0 l1 t390 t393 (decide ((t393.length : Int) > 200)))) = some (r1, r2) := H
  have A6 := aM A60
  clear A60
  have HC7 := aM H
  clear H
  go_enter Try.func24, Try.ntmps24
  go_upto_region 6 with (first|((with_reducible refine gate_callee (f := 44) rfl ?_); refine goesL_ (some 22) rfl rfl Try.func44 (by kernel_rfl) rfl #[.slice A0 l0.length c0, .slice A1 l1.length c1] rfl (by (try simp only [List.map_toArray, List.map_cons, List.map_nil]); first|done|rfl|(simp only [List.length_drop, List.length_take]; rfl)) ?_; (with_reducible refine (emenderref23_both.calls k _ _ l0 _ _ l1 t389 _ ?side1 ?side2 ?side3 ?side4 A3.out).mono ?_); (case side1 => repeat (first|exact HR0.out|(with_reducible refine Kd.C_alloc ?_ _)|(with_reducible refine Kd.C_drewN ?_ _)|(with_reducible refine Kd.C_drew ?_))); (case side2 => exact HC0.out); (case side3 => repeat (first|exact HR1.out|(with_reducible refine Kd.C_alloc ?_ _)|(with_reducible refine Kd.C_drewN ?_ _)|(with_reducible refine Kd.C_drew ?_))); (case side4 => exact HC1.out); rintro e w8 ⟨rfl, hb⟩; refine ⟨_, rfl, ?_⟩; replace HB := aM (below_step (by repeat (first|(with_reducible first|exact HB.out|apply lA|apply lN|apply lD)|exact HB.out)) hb); (try clear hb); (try clear hb2); (try clear hk); (try clear hi))|((with_reducible refine gate_callee (f := 45) rfl ?_); refine goesL_ (some 27) rfl rfl Try.func45 (by kernel_rfl) rfl #[.slice A0 l0.length c0] rfl (by (try simp only [List.map_toArray, List.map_cons, List.map_nil]); first|done|rfl|(simp only [List.length_drop, List.length_take]; rfl)) ?_; (with_reducible refine (emenderref23_blocks.calls k (fun k_ => k_ < w.heap.size) _ _ l0 t390 _ ?side1 A5.out).mono ?_); (case side1 => exact Kd.V_mk HC0.out (Kd.F_below (Kd.C_F k64_heap HR0.out) (by repeat (first|(with_reducible first|exact HB.out|apply lA|apply lN|apply lD)|exact HB.out)))); rintro e w9 ⟨v391, rfl, ho0, hb⟩; refine ⟨_, rfl, ?_⟩; replace HO392 := aM (Kd.N_lower (Kd.N_mono (ok' := fun k_ => True) ho0 (fun k_ hk_ => trivial)) (below_size (by repeat (first|(with_reducible first|exact HB.out|apply lA|apply lN|apply lD)|exact HB.out)))); replace HB := aM (below_step (by repeat (first|(with_reducible first|exact HB.out|apply lA|apply lN|apply lD)|exact HB.out)) hb); (try clear hb); (try clear hb2); (try clear hk); (try clear hi); (try clear ho0))|((with_reducible refine gate_callee (f := 45) rfl ?_); refine goesL_ (some 29) rfl rfl Try.func45 (by kernel_rfl) rfl #[.slice A1 l1.length c1] rfl (by (try simp only [List.map_toArray, List.map_cons, List.map_nil]); first|done|rfl|(simp only [List.length_drop, List.length_take]; rfl)) ?_; (with_reducible refine (emenderref23_blocks.calls k (fun k_ => k_ < w.heap.size) _ _ l1 t393 _ ?side1 A6.out).mono ?_); (case side1 => exact Kd.V_mk HC1.out (Kd.F_below (Kd.C_F k64_heap HR1.out) (by repeat (first|(with_reducible first|exact HB.out|apply lA|apply lN|apply lD)|exact HB.out)))); rintro e w10 ⟨v394, rfl, ho0, hb⟩; refine ⟨_, rfl, ?_⟩; replace HO395 := aM (Kd.N_lower (Kd.N_mono (ok' := fun k_ => some k_ ≠ (v391 : Value).ownBlock) ho0 (fun k_ hk_ => Or.elim hk_ (fun hs_ => fun e_ => Nat.not_le.2 hs_ (Kd.N_base HO392.out k_ e_.symm)) (fun hn_ => (Kd.fresh' (Kd.N_lt (by (with_reducible repeat (first|apply Kd.N_alloc|apply Kd.N_drewN|apply Kd.N_drew)); exact HO392.out)) k_ hn_)))) (below_size (by repeat (first|(with_reducible first|exact HB.out|apply lA|apply lN|apply lD)|exact HB.out)))); replace HO392 := aM (Kd.N_elder' (by (with_reducible repeat (first|apply Kd.N_alloc|apply Kd.N_drewN|apply Kd.N_drew)); exact HO392.out) (Kd.N_base ho0) hb); replace HB := aM (below_step (by repeat (first|(with_reducible first|exact HB.out|apply lA|apply lN|apply lD)|exact HB.out)) hb); (try clear hb); (try clear hb2); (try clear hk); (try clear hi); (try clear ho0)))
  (try simp only [Act.put, List.setIfInBounds_toArray, List.set_cons_zero, List.set_cons_succ])
  go_cut [37] (fun v37 wc => ∃ (kq : Nat) (x37_6 : Bool), v37 = .bool x37_6 ∧ Aside0 (emenderref23_Rows.j0 kq l0 l1 t390 t393 x37_6 = some (r1, r2)) ∧ Aside0 (kq ≤ k) ∧ Aside0 (Kd.N (Kd.slice 64 k64) 22 wc w.heap.size (fun k_ => some k_ ≠ (v394 : Value).ownBlock) v391 t390) ∧ Aside0 (Kd.N (Kd.slice 64 k64) 22 wc w.heap.size (fun k_ => some k_ ≠ (v391 : Value).ownBlock) v394 t393) ∧ Aside0 (Below w.heap.size w wc))
  case first =>
   have H := HC7.out
   clear HC7
   by_cases c11 : (t390.length : Int) > 200
   ·rw [if_pos c11] at H
    have c11b0 : decide (200 < (t390.length : Int)) = true := decide_eq_true c11
    have c11b1 : decide (200 < t390.length) = true := decide_eq_true (by omega)
    clear c11
    (first|rw [c11b0]|(simp only [i64_w, i32_w]; rw [c11b0])|skip)
    have H' := aM H
    clear H
    obtain ⟨Ao12, co12, eo12⟩ := Kd.N_slice HO392.out
    subst eo12
    go_wp2
    go_meet
    case rel => exact ⟨_, (true), (by first|rfl|(simp; done)|(simp [*]; done)), H', ⟨by first|omega|exact Nat.le_refl _⟩, ⟨by (with_reducible repeat (first|apply Kd.N_alloc|apply Kd.N_drewN|apply Kd.N_drew)); exact Kd.N_mono HO392.out (fun _ hk => hk.2)⟩, ⟨by (with_reducible repeat (first|apply Kd.N_alloc|apply Kd.N_drewN|apply Kd.N_drew)); exact HO395.out⟩, ⟨by repeat (first|(with_reducible first|exact HB.out|apply lA|apply lN|apply lD)|exact HB.out)⟩⟩
   ·rw [if_neg c11] at H
    have c11b0 : decide (200 < (t390.length : Int)) = false := decide_eq_false c11
    have c11b1 : decide (200 < t390.length) = false := decide_eq_false (by omega)
    clear c11
    (first|rw [c11b0]|(simp only [i64_w, i32_w]; rw [c11b0])|skip)
    have H' := aM H
    clear H
    obtain ⟨Ao13, co13, eo13⟩ := Kd.N_slice HO392.out
    subst eo13
    obtain ⟨Ao14, co14, eo14⟩ := Kd.N_slice HO395.out
    subst eo14
    go_wp2
    go_meet
    case rel => exact ⟨_, (decide ((t393.length : Int) > 200)), (by first|rfl|(simp; done)|(simp [*]; done)), H', ⟨by first|omega|exact Nat.le_refl _⟩, ⟨by (with_reducible repeat (first|apply Kd.N_alloc|apply Kd.N_drewN|apply Kd.N_drew)); exact Kd.N_mono HO392.out (fun _ hk => hk.2)⟩, ⟨by (with_reducible repeat (first|apply Kd.N_alloc|apply Kd.N_drewN|apply Kd.N_drew)); exact HO395.out⟩, ⟨by repeat (first|(with_reducible first|exact HB.out|apply lA|apply lN|apply lD)|exact HB.out)⟩⟩
  case rest =>
   clear HC7
   obtain ⟨kq, x37_6, rfl, HA, HJ6, HO_7, HO_8, HB⟩ := hcut
   cases kq with
  |zero => exact absurd HA.out (by simp [emenderref23_Rows.j0])
  |succ kj6 =>
    have H := HA.out
    clear HA
    simp only [emenderref23_Rows.j0] at H
    by_cases c15 : x37_6 = true
    ·subst c15
     have H1 : (some (([] : List (S62)), 2)) = some (r1, r2) := by rw [if_pos rfl] at H; exact H
     clear H
     have H := H1
     clear H1
     simp only [Option.some.injEq, Prod.mk.injEq] at H
     obtain ⟨rfl, rfl⟩ := H
     go_wp2
     go_ret2
     exact ⟨_, by first|rfl|(simp [errW_none, errW_some] <;> rfl)|(simp [*, errW_none, errW_some] <;> rfl), by first|exact Kd.R_nil _ _ _ _ _|exact Kd.N_nil _ _ _ _ _|exact Kd.V_nil _ _ _ _ _|exact Kd.Q_nil _ _ _ _ _|exact Kd.S_nil _ _ _ _ _, by repeat (first|(with_reducible first|exact HB.out|apply lA|apply lN|apply lD)|exact HB.out)⟩
    ·replace c15 := Bool.eq_false_iff.mpr c15
     subst c15
     have H1 : ((emenderref04_Kids.f kj6 l0 (-1)).bind fun t396 => ((emenderref04_Kids.f kj6 l1 (-1)).bind fun t399 => (if 0 ≤ (t390.length : Int) then (if ((t390.length : Int) : Int).toNat ≤ 11728124029610 then (emenderref23_Rows.l0 kj6 t390 t393 t396 t399 (List.replicate ((t390.length : Int) : Int).toNat []) 0) else (none)) else (none)))) = some (r1, r2) := by rw [if_neg (show ¬ (false = true) by decide)] at H; exact H
     clear H
     have H := H1
     clear H1
     replace H := Option.bind_eq_some_iff.mp H
     obtain ⟨t396, A160, H⟩ := H
     replace H : ((emenderref04_Kids.f kj6 l1 (-1)).bind fun t399 => (if 0 ≤ (t390.length : Int) then (if ((t390.length : Int) : Int).toNat ≤ 11728124029610 then (emenderref23_Rows.l0 kj6 t390 t393 t396 t399 (List.replicate ((t390.length : Int) : Int).toNat []) 0) else (none)) else (none))) = some (r1, r2) := H
     have A16 := aM A160
     clear A160
     replace H := Option.bind_eq_some_iff.mp H
     obtain ⟨t399, A170, H⟩ := H
     replace H : (if 0 ≤ (t390.length : Int) then (if ((t390.length : Int) : Int).toNat ≤ 11728124029610 then (emenderref23_Rows.l0 kj6 t390 t393 t396 t399 (List.replicate ((t390.length : Int) : Int).toNat []) 0) else (none)) else (none)) = some (r1, r2) := H
     have A17 := aM A170
     clear A170
     replace H := ifS H; obtain ⟨c18, H⟩ := H
     have c18b0 := eq_true c18
     have c18b1 : decide (0 ≤ (t390.length : Int)) = true := decide_eq_true c18
     clear c18
     replace H := ifS H; obtain ⟨c19, H⟩ := H
     have c19b0 := eq_true c19
     have c19b1 : decide (((t390.length : Int) : Int).toNat ≤ 11728124029610) = true := decide_eq_true c19
     clear c19
     obtain ⟨y402, hy402⟩ : ∃ y_ : List (List Bool), y_ = (List.replicate ((t390.length : Int) : Int).toNat []) := ⟨_, rfl⟩
     replace H : (emenderref23_Rows.l0 kj6 t390 t393 t396 t399 y402 0) = some (r1, r2) := by first|(rw [hy402]; with_reducible exact H)|(have H2_ := (Option.bind_some _ _).symm.trans H; rw [hy402]; with_reducible exact H2_)|(have H2_ := (Option.bind_some _ _).symm.trans H; with_reducible exact H2_)|with_reducible exact H|(rw [hy402]; exact H)|exact H
     have Ny402 := aM hy402
     clear hy402
     have H' := aM H
     clear H
     go_wp2_with (first|((with_reducible refine gate_callee (f := 46) rfl ?_); refine goesL_ (some 39) rfl rfl Try.func46 (by kernel_rfl) rfl #[.slice A0 l0.length c0, .int .i64 (-1)] rfl (by (try simp only [List.map_toArray, List.map_cons, List.map_nil]); first|done|rfl|(simp only [List.length_drop, List.length_take]; rfl)) ?_; (with_reducible refine (emenderref04_Kids.calls kj6 _ _ l0 (-1) t396 _ ?side1 ?side2 A16.out).mono ?_); (case side1 => repeat (first|exact (Kd.C_below HR0.out HB.out)|(with_reducible refine Kd.C_alloc ?_ _)|(with_reducible refine Kd.C_drewN ?_ _)|(with_reducible refine Kd.C_drew ?_))); (case side2 => exact HC0.out); rintro e w20 ⟨v397, rfl, ho0, hb⟩; refine ⟨_, rfl, ?_⟩; replace HO_7 := aM (Kd.N_elder' (by (with_reducible repeat (first|apply Kd.N_alloc|apply Kd.N_drewN|apply Kd.N_drew)); exact HO_7.out) (Kd.R_base ho0) hb); replace HO_8 := aM (Kd.N_elder' (by (with_reducible repeat (first|apply Kd.N_alloc|apply Kd.N_drewN|apply Kd.N_drew)); exact HO_8.out) (Kd.R_base ho0) hb); replace HO398 := aM (Kd.R_lower ho0 (below_size (by repeat (first|(with_reducible first|exact HB.out|apply lA|apply lN|apply lD)|exact HB.out)))); replace HB := aM (below_step (by repeat (first|(with_reducible first|exact HB.out|apply lA|apply lN|apply lD)|exact HB.out)) hb); (try clear hb); (try clear hb2); (try clear hk); (try clear hi); (try clear ho0))|((with_reducible refine gate_callee (f := 46) rfl ?_); refine goesL_ (some 41) rfl rfl Try.func46 (by kernel_rfl) rfl #[.slice A1 l1.length c1, .int .i64 (-1)] rfl (by (try simp only [List.map_toArray, List.map_cons, List.map_nil]); first|done|rfl|(simp only [List.length_drop, List.length_take]; rfl)) ?_; (with_reducible refine (emenderref04_Kids.calls kj6 _ _ l1 (-1) t399 _ ?side1 ?side2 A17.out).mono ?_); (case side1 => repeat (first|exact (Kd.C_below HR1.out HB.out)|(with_reducible refine Kd.C_alloc ?_ _)|(with_reducible refine Kd.C_drewN ?_ _)|(with_reducible refine Kd.C_drew ?_))); (case side2 => exact HC1.out); rintro e w21 ⟨v400, rfl, ho0, hb⟩; refine ⟨_, rfl, ?_⟩; replace HO_7 := aM (Kd.N_elder' (by (with_reducible repeat (first|apply Kd.N_alloc|apply Kd.N_drewN|apply Kd.N_drew)); exact HO_7.out) (Kd.R_base ho0) hb); replace HO_8 := aM (Kd.N_elder' (by (with_reducible repeat (first|apply Kd.N_alloc|apply Kd.N_drewN|apply Kd.N_drew)); exact HO_8.out) (Kd.R_base ho0) hb); replace HO401 := aM (Kd.R_lower (Kd.R_new' ho0 (Kd.R_lt (by (with_reducible repeat (first|apply Kd.R_alloc|apply Kd.R_drewN|apply Kd.R_drew)); exact HO398.out))) (below_size (by repeat (first|(with_reducible first|exact HB.out|apply lA|apply lN|apply lD)|exact HB.out)))); replace HO398 := aM (Kd.R_elder' (by (with_reducible repeat (first|apply Kd.R_alloc|apply Kd.R_drewN|apply Kd.R_drew)); exact HO398.out) (Kd.R_base ho0) hb); replace HB := aM (below_step (by repeat (first|(with_reducible first|exact HB.out|apply lA|apply lN|apply lD)|exact HB.out)) hb); (try clear hb); (try clear hb2); (try clear hk); (try clear hi); (try clear ho0); obtain ⟨Ao22, co22, eo22⟩ := Kd.N_slice HO_7.out; subst eo22)|((with_reducible refine gate_dst (N := 44) rfl ?_); (try (refine gate_guard (by rfl) ?_; dsimp only)); refine Kd.N_make (Kd.slice 4 Kd.bool) _ 73 rfl (N' := 44) rfl 72 _ _ rfl (t390.length : Int) rfl rfl Try.underlying72 (.slice none 0 0) 24 info73 rfl (by decide) (by omega) [] (ok := fun k_ => w21.heap.size ≤ k_) (okp := fun _ => False) (Kd.FK_slice_mk (Nat.le_refl _) (Kd.F_nil _ _ _)) (fun _ hk => hk.elim) (Nat.le_refl _) (of_decide_eq_true (by first|(with_reducible assumption)|assumption)) (Nat.le_trans (Nat.mul_le_mul_right _ (of_decide_eq_true (by first|(with_reducible assumption)|assumption) : (t390.length : Int).toNat ≤ 11728124029610)) (by omega)) (Below.refl _ _) (Nat.le_refl _) ?_; intro v403 w23 ho24 hb hg_ hnew_; clear hg_ hnew_; (first|rw [← Ny402.out] at ho24|(simp only [Int.reduceToNat] at ho24; rw [← Ny402.out] at ho24)); replace HO404 := aM (Kd.N_lower (Kd.N_mono (ok' := fun k_ => some k_ ≠ (.slice Ao22 t390.length co22 : Value).ownBlock ∧ some k_ ≠ (v394 : Value).ownBlock ∧ some k_ ≠ (v397 : Value).ownBlock ∧ some k_ ≠ (v400 : Value).ownBlock) ho24 (fun k_ hk_ => ⟨(Kd.fresh' (Kd.N_lt (by (with_reducible repeat (first|apply Kd.N_alloc|apply Kd.N_drewN|apply Kd.N_drew)); exact HO_7.out)) k_ hk_), (Kd.fresh' (Kd.N_lt (by (with_reducible repeat (first|apply Kd.N_alloc|apply Kd.N_drewN|apply Kd.N_drew)); exact HO_8.out)) k_ hk_), (Kd.fresh' (Kd.R_lt (by (with_reducible repeat (first|apply Kd.R_alloc|apply Kd.R_drewN|apply Kd.R_drew)); exact HO398.out)) k_ hk_), (Kd.fresh' (Kd.R_lt (by (with_reducible repeat (first|apply Kd.R_alloc|apply Kd.R_drewN|apply Kd.R_drew)); exact HO401.out)) k_ hk_)⟩)) (below_size (by repeat (first|(with_reducible first|exact HB.out|apply lA|apply lN|apply lD)|exact HB.out)))); replace HO_7 := aM (Kd.N_elder' (by (with_reducible repeat (first|apply Kd.N_alloc|apply Kd.N_drewN|apply Kd.N_drew)); exact HO_7.out) (Kd.N_base ho24) hb); replace HO_8 := aM (Kd.N_elder' (by (with_reducible repeat (first|apply Kd.N_alloc|apply Kd.N_drewN|apply Kd.N_drew)); exact HO_8.out) (Kd.N_base ho24) hb); replace HO398 := aM (Kd.R_below (by (with_reducible repeat (first|apply Kd.R_alloc|apply Kd.R_drewN|apply Kd.R_drew)); exact HO398.out) hb); replace HO401 := aM (Kd.R_below (by (with_reducible repeat (first|apply Kd.R_alloc|apply Kd.R_drewN|apply Kd.R_drew)); exact HO401.out) hb); replace HB := aM (below_step (by repeat (first|(with_reducible first|exact HB.out|apply lA|apply lN|apply lD)|exact HB.out)) hb); clear hb ho24))
     go_loopg [12] kj6 (fun kq v12 w' => ∃ (x11_2 : List (List Bool)) (x12_2 : Int), v12 = .int .i64 x12_2 ∧ Aside0 (emenderref23_Rows.l0 kq t390 t393 t396 t399 x11_2 x12_2 = some (r1, r2)) ∧ Aside0 (kq ≤ kj6) ∧ Aside0 (Kd.N (Kd.slice 64 k64) 22 w' w.heap.size (fun k_ => some k_ ≠ (v394 : Value).ownBlock ∧ some k_ ≠ (v397 : Value).ownBlock ∧ some k_ ≠ (v400 : Value).ownBlock ∧ some k_ ≠ (v403 : Value).ownBlock) (.slice Ao22 t390.length co22) t390) ∧ Aside0 (Kd.N (Kd.slice 64 k64) 22 w' w.heap.size (fun k_ => some k_ ≠ ((.slice Ao22 t390.length co22) : Value).ownBlock ∧ some k_ ≠ (v397 : Value).ownBlock ∧ some k_ ≠ (v400 : Value).ownBlock ∧ some k_ ≠ (v403 : Value).ownBlock) v394 t393) ∧ Aside0 (Kd.R (Kd.int .i64) 3 w' w.heap.size (fun k_ => some k_ ≠ (v400 : Value).ownBlock) v397 t396) ∧ Aside0 (Kd.R (Kd.int .i64) 3 w' w.heap.size (fun k_ => some k_ ≠ (v397 : Value).ownBlock) v400 t399) ∧ Aside0 (Kd.N (Kd.slice 4 Kd.bool) 73 w' w.heap.size (fun k_ => some k_ ≠ ((.slice Ao22 t390.length co22) : Value).ownBlock ∧ some k_ ≠ (v394 : Value).ownBlock ∧ some k_ ≠ (v397 : Value).ownBlock ∧ some k_ ≠ (v400 : Value).ownBlock) v403 x11_2) ∧ Aside0 (Below w.heap.size w w'))
     case atStart => exact ⟨(y402), (0), (by first|rfl|(simp; done)|(simp [*]; done)), H', ⟨Nat.le_refl _⟩, ⟨by (with_reducible repeat (first|apply Kd.N_alloc|apply Kd.N_drewN|apply Kd.N_drew)); exact Kd.N_mono HO_7.out (fun _ hk => ⟨hk.1.1.1, ⟨hk.1.1.2, ⟨hk.1.2, hk.2⟩⟩⟩)⟩, ⟨by (with_reducible repeat (first|apply Kd.N_alloc|apply Kd.N_drewN|apply Kd.N_drew)); exact Kd.N_mono HO_8.out (fun _ hk => ⟨hk.1.1.1, ⟨hk.1.1.2, ⟨hk.1.2, hk.2⟩⟩⟩)⟩, ⟨by (with_reducible repeat (first|apply Kd.R_alloc|apply Kd.R_drewN|apply Kd.R_drew)); exact Kd.R_mono HO398.out (fun _ hk => hk.2)⟩, ⟨by (with_reducible repeat (first|apply Kd.R_alloc|apply Kd.R_drewN|apply Kd.R_drew)); exact Kd.R_mono HO401.out (fun _ hk => hk.2)⟩, ⟨by (with_reducible repeat (first|apply Kd.N_alloc|apply Kd.N_drewN|apply Kd.N_drew)); exact HO404.out⟩, ⟨by repeat (first|(with_reducible first|exact HB.out|apply lA|apply lN|apply lD)|exact HB.out)⟩⟩
     case round =>
      clear H'
      obtain ⟨x11_2, x12_2, rfl, HA, HK2, HO_7, HO_8, HO_9, HO_10, HO_11, HB⟩ := hrel
      cases gk with
     |zero => exact absurd HA.out (by simp [emenderref23_Rows.l0])
     |succ k2 =>
       have H := HA.out
       clear HA
       simp only [emenderref23_Rows.l0] at H
       by_cases c25 : x12_2 < (t390.length : Int)
       ·rw [if_pos c25] at H
        have c25b0 : decide (x12_2 < (t390.length : Int)) = true := decide_eq_true c25
        clear c25
        replace H := ifS H; obtain ⟨c26, H⟩ := H
        have c26b0 := eq_true c26
        have c26b1 : decide (0 ≤ (t393.length : Int)) = true := decide_eq_true c26
        clear c26
        replace H := ifS H; obtain ⟨c27, H⟩ := H
        have c27b0 := eq_true c27
        have c27b1 : decide (((t393.length : Int) : Int).toNat ≤ 281474976710656) = true := decide_eq_true c27
        clear c27
        obtain ⟨y405, hy405⟩ : ∃ y_ : List Bool, y_ = (List.replicate ((t393.length : Int) : Int).toNat false) := ⟨_, rfl⟩
        replace H : (emenderref23_Rows.l1 k2 t390 t393 t396 t399 x11_2 x12_2 y405 0) = some (r1, r2) := by first|(rw [hy405]; with_reducible exact H)|(have H2_ := (Option.bind_some _ _).symm.trans H; rw [hy405]; with_reducible exact H2_)|(have H2_ := (Option.bind_some _ _).symm.trans H; with_reducible exact H2_)|with_reducible exact H|(rw [hy405]; exact H)|exact H
        have Ny405 := aM hy405
        clear hy405
        have H' := aM H
        clear H
        obtain ⟨Ao28, co28, eo28⟩ := Kd.N_slice HO_8.out
        subst eo28
        go_wp2_with (first|((with_reducible refine gate_dst (N := 53) rfl ?_); (try (refine gate_guard (by rfl) ?_; dsimp only)); refine Kd.R_make Kd.bool _ 4 rfl (N := 53) rfl 73 _ _ rfl (t393.length : Int) rfl rfl Try.underlying73 (.bool false) 1 info4 rfl (by decide) (by omega) false (ok := fun _ => True) (okp := fun _ => True) rfl (fun _ hk => hk) trivial (of_decide_eq_true (by first|(with_reducible assumption)|assumption)) (Nat.le_trans (Nat.mul_le_mul_right _ (of_decide_eq_true (by first|(with_reducible assumption)|assumption) : (t393.length : Int).toNat ≤ 281474976710656)) (by omega)) (Below.refl _ _) (Nat.le_refl _) ?_; intro v406 w29 ho30 hb hg_ hnew_; clear hg_ hnew_; (first|rw [← Ny405.out] at ho30|(simp only [Int.reduceToNat] at ho30; rw [← Ny405.out] at ho30)); replace HO_7 := aM (Kd.N_elder' (by (with_reducible repeat (first|apply Kd.N_alloc|apply Kd.N_drewN|apply Kd.N_drew)); exact HO_7.out) (Kd.R_base ho30) hb); replace HO_8 := aM (Kd.N_elder' (by (with_reducible repeat (first|apply Kd.N_alloc|apply Kd.N_drewN|apply Kd.N_drew)); exact HO_8.out) (Kd.R_base ho30) hb); replace HO_9 := aM (Kd.R_below (by (with_reducible repeat (first|apply Kd.R_alloc|apply Kd.R_drewN|apply Kd.R_drew)); exact HO_9.out) hb); replace HO_10 := aM (Kd.R_below (by (with_reducible repeat (first|apply Kd.R_alloc|apply Kd.R_drewN|apply Kd.R_drew)); exact HO_10.out) hb); replace HO_11 := aM (Kd.N_elder' (by (with_reducible repeat (first|apply Kd.N_alloc|apply Kd.N_drewN|apply Kd.N_drew)); exact HO_11.out) (Kd.R_base ho30) hb); replace HO407 := aM (Kd.R_lower ho30 (below_size (by repeat (first|(with_reducible first|exact HB.out|apply lA|apply lN|apply lD)|exact HB.out)))); replace HB := aM (below_step (by repeat (first|(with_reducible first|exact HB.out|apply lA|apply lN|apply lD)|exact HB.out)) hb); clear hb ho30))
        go_loopg [14] k2 (fun kq v14 w' => ∃ (x13_3 : List Bool) (x14_3 : Int), v14 = .int .i64 x14_3 ∧ Aside0 (emenderref23_Rows.l1 kq t390 t393 t396 t399 x11_2 x12_2 x13_3 x14_3 = some (r1, r2)) ∧ Aside0 (kq ≤ k2) ∧ Aside0 (Kd.N (Kd.slice 64 k64) 22 w' w.heap.size (fun k_ => some k_ ≠ ((.slice Ao28 t393.length co28) : Value).ownBlock ∧ some k_ ≠ (v397 : Value).ownBlock ∧ some k_ ≠ (v400 : Value).ownBlock ∧ some k_ ≠ (v403 : Value).ownBlock ∧ some k_ ≠ (v406 : Value).ownBlock) (.slice Ao22 t390.length co22) t390) ∧ Aside0 (Kd.N (Kd.slice 64 k64) 22 w' w.heap.size (fun k_ => some k_ ≠ ((.slice Ao22 t390.length co22) : Value).ownBlock ∧ some k_ ≠ (v397 : Value).ownBlock ∧ some k_ ≠ (v400 : Value).ownBlock ∧ some k_ ≠ (v403 : Value).ownBlock ∧ some k_ ≠ (v406 : Value).ownBlock) (.slice Ao28 t393.length co28) t393) ∧ Aside0 (Kd.R (Kd.int .i64) 3 w' w.heap.size (fun k_ => some k_ ≠ (v400 : Value).ownBlock) v397 t396) ∧ Aside0 (Kd.R (Kd.int .i64) 3 w' w.heap.size (fun k_ => some k_ ≠ (v397 : Value).ownBlock) v400 t399) ∧ Aside0 (Kd.N (Kd.slice 4 Kd.bool) 73 w' w.heap.size (fun k_ => some k_ ≠ ((.slice Ao22 t390.length co22) : Value).ownBlock ∧ some k_ ≠ ((.slice Ao28 t393.length co28) : Value).ownBlock ∧ some k_ ≠ (v397 : Value).ownBlock ∧ some k_ ≠ (v400 : Value).ownBlock ∧ some k_ ≠ (v406 : Value).ownBlock) v403 x11_2) ∧ Aside0 (Kd.R Kd.bool 4 w' w.heap.size (fun _ => True) v406 x13_3) ∧ Aside0 (Below w.heap.size w w'))
        case atStart => exact ⟨(y405), (0), (by first|rfl|(simp; done)|(simp [*]; done)), H', ⟨Nat.le_refl _⟩, ⟨by (with_reducible repeat (first|apply Kd.N_alloc|apply Kd.N_drewN|apply Kd.N_drew)); exact Kd.N_mono HO_7.out (fun _ hk => ⟨hk.1.1, ⟨hk.1.2.1, ⟨hk.1.2.2.1, ⟨hk.1.2.2.2, hk.2⟩⟩⟩⟩)⟩, ⟨by (with_reducible repeat (first|apply Kd.N_alloc|apply Kd.N_drewN|apply Kd.N_drew)); exact Kd.N_mono HO_8.out (fun _ hk => ⟨hk.1.1, ⟨hk.1.2.1, ⟨hk.1.2.2.1, ⟨hk.1.2.2.2, hk.2⟩⟩⟩⟩)⟩, ⟨by (with_reducible repeat (first|apply Kd.R_alloc|apply Kd.R_drewN|apply Kd.R_drew)); exact HO_9.out⟩, ⟨by (with_reducible repeat (first|apply Kd.R_alloc|apply Kd.R_drewN|apply Kd.R_drew)); exact HO_10.out⟩, ⟨by (with_reducible repeat (first|apply Kd.N_alloc|apply Kd.N_drewN|apply Kd.N_drew)); exact Kd.N_mono HO_11.out (fun _ hk => ⟨hk.1.1, ⟨hk.1.2.1, ⟨hk.1.2.2.1, ⟨hk.1.2.2.2, hk.2⟩⟩⟩⟩)⟩, ⟨by (with_reducible repeat (first|apply Kd.R_alloc|apply Kd.R_drewN|apply Kd.R_drew)); exact HO407.out⟩, ⟨by repeat (first|(with_reducible first|exact HB.out|apply lA|apply lN|apply lD)|exact HB.out)⟩⟩
        case round =>
         clear H'
         obtain ⟨x13_3, x14_3, rfl, HA, HK3, HO_7, HO_8, HO_9, HO_10, HO_11, HO_13, HB⟩ := hrel
         cases gk with
        |zero => exact absurd HA.out (by simp [emenderref23_Rows.l1])
        |succ k3 =>
          have H := HA.out
          clear HA
          simp only [emenderref23_Rows.l1] at H
          by_cases c31 : x14_3 < (t393.length : Int)
          ·rw [if_pos c31] at H
           have c31b0 : decide (x14_3 < (t393.length : Int)) = true := decide_eq_true c31
           clear c31
           replace H := ifS H; obtain ⟨c32, H⟩ := H
           have c32b0 : decide (0 ≤ x12_2) = true := decide_eq_true c32
           clear c32
           replace H := ifS H; obtain ⟨c33, H⟩ := H
           have c33b0 : decide (x12_2 < (t390.length : Int)) = true := decide_eq_true c33
           clear c33
           replace H := ifS H; obtain ⟨c34, H⟩ := H
           have c34b0 : decide (0 ≤ x14_3) = true := decide_eq_true c34
           clear c34
           replace H := Option.bind_eq_some_iff.mp H
           obtain ⟨t410, A350, H⟩ := H
           replace H : (if x14_3 < (x13_3.length : Int) then (emenderref23_Rows.l1 k3 t390 t393 t396 t399 x11_2 x12_2 (x13_3.set (x14_3 : Int).toNat t410) (wrap64 (x14_3 + 1))) else (none)) = some (r1, r2) := H
           have A35 := aM A350
           clear A350
           replace H := ifS H; obtain ⟨c36, H⟩ := H
           have c36b0 : decide (x14_3 < (x13_3.length : Int)) = true := decide_eq_true c36
           clear c36
           obtain ⟨y411, hy411⟩ : ∃ y_ : List Bool, y_ = (x13_3.set (x14_3 : Int).toNat t410) := ⟨_, rfl⟩
           replace H : (emenderref23_Rows.l1 k3 t390 t393 t396 t399 x11_2 x12_2 y411 (wrap64 (x14_3 + 1))) = some (r1, r2) := by first|(rw [hy411]; with_reducible exact H)|(have H2_ := (Option.bind_some _ _).symm.trans H; rw [hy411]; with_reducible exact H2_)|(have H2_ := (Option.bind_some _ _).symm.trans H; with_reducible exact H2_)|with_reducible exact H|(rw [hy411]; exact H)|exact H
           have Ny411 := aM hy411
           clear hy411
           have H' := aM H
           clear H
           try go_wp2
           have n0_ := aM (Kd.N_drew HO_7.out)
           have n1_ := aM (Kd.N_drew HO_8.out)
           have n2_ := aM (Kd.R_drew HO_9.out)
           have n3_ := aM (Kd.R_drew HO_10.out)
           have n4_ := aM (Kd.N_drew HO_11.out)
           have n5_ := aM (Kd.R_drew HO_13.out)
           have n6_ := aM (lD HB.out)
           clear HO_7
           clear HO_8
           clear HO_9
           clear HO_10
           clear HO_11
           clear HO_13
           clear HB
           have HO_7 := n0_
           have HO_8 := n1_
           have HO_9 := n2_
           have HO_10 := n3_
           have HO_11 := n4_
           have HO_13 := n5_
           have HB := n6_
           clear n0_ n1_ n2_ n3_ n4_ n5_ n6_
           have p408 : 0 ≤ (x12_2 : Int) := of_decide_eq_true (by first|(with_reducible assumption)|assumption)
           have q408 : x12_2 < (t390.length : Int) := of_decide_eq_true (by first|(with_reducible assumption)|assumption)
           obtain ⟨ad408, A408_0, c408_0, e408, hx408_0, hl408_0, hi408_0⟩ := at_L2 (Kd.N_reads' HO_7.out).2.2 x12_2 p408 q408
           cases e408
           obtain ⟨ce408, hce408, hMe408, hcc408⟩ := Kd.N_get HO_7.out [] x12_2 p408 (by first|exact q408|exact of_decide_eq_true (by first|(with_reducible assumption)|assumption)|(have e_ := (Kd.N_reads' HO_7.out).1; omega))
           obtain ⟨ua408_0, uc408_0, rfl, ul408_0, ge408_0⟩ := Kd.FK_slice_open hMe408
           have hv408_0 := hcc408 0 _ rfl
           rw [Nat.add_zero, show ((Kd.slice 64 k64)).sz = 1 from rfl, Nat.mul_one] at hv408_0
           replace hv408_0 := Option.some.inj (hv408_0.symm.trans hx408_0)
           injection hv408_0 with hva_ hvn_ hvc_
           rw [hva_] at ge408_0
           rw [hvc_] at ul408_0
           have HL408_0 := aM (show Kd.V k64 64 _ w.heap.size _ _ (rd_L2 t390 x12_2) from Kd.V_mk ul408_0 ge408_0)
           clear hva_ hvn_ hvc_ ge408_0 ul408_0
           clear hcc408 hce408
           have HR408_0 := aM hi408_0
           have HC408_0 := aM hl408_0
           clear hi408_0 hl408_0
           replace p408 := eq_true p408
           replace q408 := eq_true q408
           have p409 : 0 ≤ (x14_3 : Int) := of_decide_eq_true (by first|(with_reducible assumption)|assumption)
           have q409 : x14_3 < (t393.length : Int) := of_decide_eq_true (by first|(with_reducible assumption)|assumption)
           obtain ⟨ad409, A409_0, c409_0, e409, hx409_0, hl409_0, hi409_0⟩ := at_L2 (Kd.N_reads' HO_8.out).2.2 x14_3 p409 q409
           cases e409
           obtain ⟨ce409, hce409, hMe409, hcc409⟩ := Kd.N_get HO_8.out [] x14_3 p409 (by first|exact q409|exact of_decide_eq_true (by first|(with_reducible assumption)|assumption)|(have e_ := (Kd.N_reads' HO_8.out).1; omega))
           obtain ⟨ua409_0, uc409_0, rfl, ul409_0, ge409_0⟩ := Kd.FK_slice_open hMe409
           have hv409_0 := hcc409 0 _ rfl
           rw [Nat.add_zero, show ((Kd.slice 64 k64)).sz = 1 from rfl, Nat.mul_one] at hv409_0
           replace hv409_0 := Option.some.inj (hv409_0.symm.trans hx409_0)
           injection hv409_0 with hva_ hvn_ hvc_
           rw [hva_] at ge409_0
           rw [hvc_] at ul409_0
           have HL409_0 := aM (show Kd.V k64 64 _ w.heap.size _ _ (rd_L2 t393 x14_3) from Kd.V_mk ul409_0 ge409_0)
           clear hva_ hvn_ hvc_ ge409_0 ul409_0
           clear hcc409 hce409
           have HR409_0 := aM hi409_0
           have HC409_0 := aM hl409_0
           clear hi409_0 hl409_0
           replace p409 := eq_true p409
           replace q409 := eq_true q409
           refine start_ (n := 13) (S := fun w' => w'.cell? (ad408.add (x12_2).toNat) = some (.slice A408_0 (rd_L2 t390 x12_2).length c408_0) ∧ w'.cell? (ad409.add (x14_3).toNat) = some (.slice A409_0 (rd_L2 t393 x14_3).length c409_0)) (ds := [12]) #[false, false, false, false, false, false, false, false, false, false, false, false, false] (by kernel_rfl) rfl rfl ⟨hx408_0, hx409_0⟩ (fun hHeld => ?_); refine with_tabW emenderref23_Rows.tab18 emenderref23_Rows.bits18 (fun HT_ HW_ => ?_)
           generalize wr.drew = w38 at HO_7 HO_8 HO_9 HO_10 HO_11 HO_13 HB HL408_0 HL409_0 HR408_0 HR409_0 hx408_0 hx409_0 hHeld ⊢
           refine pure_ (i := 0) (N := some 60) (v := ?_) (a' := ?_) #[true, false, false, false, false, false, false, false, false, false, false, false, false] rfl rfl (any_of HT_.out (by kernel_rfl)) (fun _ _ _ h => h) (Or.inl ⟨by rfl, ?_⟩) ?_ ?_
           rotate_left
           ·intro w'
            go_simp
            with_reducible rfl
           rotate_left
           ·simp only [Act.put, List.setIfInBounds_toArray, List.set_cons_zero, List.set_cons_succ, i64_w, i32_w]
            rfl
           refine pure_ (i := 1) (N := some 61) (v := ?_) (a' := ?_) #[true, true, false, false, false, false, false, false, false, false, false, false, false] rfl rfl (any_of HT_.out (by kernel_rfl)) (fun _ _ _ h => h) (Or.inl ⟨by rfl, ?_⟩) ?_ ?_
           rotate_left
           ·intro w'
            go_simp
            with_reducible rfl
           rotate_left
           ·simp only [Act.put, List.setIfInBounds_toArray, List.set_cons_zero, List.set_cons_succ, i64_w, i32_w]
            rfl
           refine pure_ (i := 2) (N := some 62) (v := ?_) (a' := ?_) #[true, true, true, false, false, false, false, false, false, false, false, false, false] rfl rfl (any_of HT_.out (by kernel_rfl)) (fun _ _ _ h => h) (Or.inl ⟨by rfl, ?_⟩) ?_ ?_
           rotate_left
           ·intro w'
            go_simp
            with_reducible rfl
           rotate_left
           ·simp only [Act.put, List.setIfInBounds_toArray, List.set_cons_zero, List.set_cons_succ, i64_w, i32_w]
            rfl
           refine pure_ (i := 3) (N := some 63) (v := ?_) (a' := ?_) #[true, true, true, true, false, false, false, false, false, false, false, false, false] rfl rfl (any_of HT_.out (by kernel_rfl)) (fun _ _ _ h => h) (Or.inl ⟨by rfl, ?_⟩) ?_ ?_
           rotate_left
           ·intro w'
            go_simp
            with_reducible rfl
           rotate_left
           ·simp only [Act.put, List.setIfInBounds_toArray, List.set_cons_zero, List.set_cons_succ, i64_w, i32_w]
            rfl
           refine pure_ (i := 4) (N := some 64) (v := ?_) (a' := ?_) #[true, true, true, true, true, false, false, false, false, false, false, false, false] rfl rfl (any_of HT_.out (by kernel_rfl)) (fun _ _ _ h => h) (Or.inl ⟨by rfl, ?_⟩) ?_ ?_
           rotate_left
           ·intro w'
            go_simp
            with_reducible rfl
           rotate_left
           ·simp only [Act.put, List.setIfInBounds_toArray, List.set_cons_zero, List.set_cons_succ, i64_w, i32_w]
            rfl
           refine pure_ (i := 6) (N := some 66) (v := ?_) (a' := ?_) #[true, true, true, true, true, false, true, false, false, false, false, false, false] rfl rfl (any_of HT_.out (by kernel_rfl)) (fun _ _ _ h => h) (Or.inl ⟨by rfl, ?_⟩) ?_ ?_
           rotate_left
           ·intro w'
            go_simp
            with_reducible rfl
           rotate_left
           ·simp only [Act.put, List.setIfInBounds_toArray, List.set_cons_zero, List.set_cons_succ, i64_w, i32_w]
            rfl
           refine pure_ (i := 7) (N := some 67) (v := ?_) (a' := ?_) #[true, true, true, true, true, false, true, true, false, false, false, false, false] rfl rfl (any_of HT_.out (by kernel_rfl)) (fun _ _ _ h => h) (Or.inl ⟨by rfl, ?_⟩) ?_ ?_
           rotate_left
           ·intro w'
            go_simp
            with_reducible rfl
           rotate_left
           ·simp only [Act.put, List.setIfInBounds_toArray, List.set_cons_zero, List.set_cons_succ, i64_w, i32_w]
            rfl
           refine pure_ (i := 8) (N := some 68) (v := ?_) (a' := ?_) #[true, true, true, true, true, false, true, true, true, false, false, false, false] rfl rfl (any_of HT_.out (by kernel_rfl)) (fun _ _ _ h => h) (Or.inl ⟨by rfl, ?_⟩) ?_ ?_
           rotate_left
           ·intro w'
            go_simp
            with_reducible rfl
           rotate_left
           ·simp only [Act.put, List.setIfInBounds_toArray, List.set_cons_zero, List.set_cons_succ, i64_w, i32_w]
            rfl
           refine take_ (i := 5) (N := some 65) (v := ?_) (a' := ?_) #[true, true, true, true, true, true, true, true, true, false, false, false, false] rfl rfl (take_ofW HT_.out HW_.out (by kernel_rfl)) (fun _ _ _ h => h) (Or.inl ⟨by rfl, ?_⟩) hHeld ?_ ?_
           rotate_left
           ·rintro w' ⟨s0, s1⟩
            go_simp
            with_reducible rfl
           rotate_left
           ·simp only [Act.put, List.setIfInBounds_toArray, List.set_cons_zero, List.set_cons_succ, i64_w, i32_w]
            rfl
           refine take_ (i := 9) (N := some 69) (v := ?_) (a' := ?_) #[true, true, true, true, true, true, true, true, true, true, false, false, false] rfl rfl (take_ofW HT_.out HW_.out (by kernel_rfl)) (fun _ _ _ h => h) (Or.inl ⟨by rfl, ?_⟩) hHeld ?_ ?_
           rotate_left
           ·rintro w' ⟨s0, s1⟩
            go_simp
            with_reducible rfl
           rotate_left
           ·simp only [Act.put, List.setIfInBounds_toArray, List.set_cons_zero, List.set_cons_succ, i64_w, i32_w]
            rfl
           refine one_ (i := 10) (N := some 70) #[true, true, true, true, true, true, true, true, true, true, true, false, false] rfl rfl (one_of HT_.out (by kernel_rfl)) (by decide) (fun K hK => ?_)
           refine goes_ Try.func47 (by kernel_rfl) rfl #[.slice A408_0 (rd_L2 t390 x12_2).length c408_0, .slice A409_0 (rd_L2 t393 x14_3).length c409_0] (by rfl) rfl rfl (by (try simp only [List.map_toArray, List.map_cons, List.map_nil]); first|done|rfl|(simp only [List.length_drop, List.length_take]; rfl)) ?_
           with_reducible refine (emenderref04_Same.calls k3 _ _ (rd_L2 t390 x12_2) _ _ (rd_L2 t393 x14_3) t410 _ ?side1 ?side2 ?side3 ?side4 A35.out).mono ?_
           (case side1 => repeat (first|exact (by repeat (first|(with_reducible exact HR408_0.out)|(with_reducible refine Kd.C_alloc ?_ _)|(with_reducible refine Kd.C_drewN ?_ _)|(with_reducible refine Kd.C_drew ?_)|exact HR408_0.out))|(with_reducible refine Kd.C_alloc ?_ _)|(with_reducible refine Kd.C_drewN ?_ _)|(with_reducible refine Kd.C_drew ?_)))
           (case side2 => exact HC408_0.out)
           (case side3 => repeat (first|exact (by repeat (first|(with_reducible exact HR409_0.out)|(with_reducible refine Kd.C_alloc ?_ _)|(with_reducible refine Kd.C_drewN ?_ _)|(with_reducible refine Kd.C_drew ?_)|exact HR409_0.out))|(with_reducible refine Kd.C_alloc ?_ _)|(with_reducible refine Kd.C_drewN ?_ _)|(with_reducible refine Kd.C_drew ?_)))
           (case side4 => exact HC409_0.out)
           rintro e w' ⟨rfl, ⟨nd, rfl⟩⟩
           refine ⟨_, rfl, ?_⟩
           have p37 : 0 ≤ (x14_3 : Int) := of_decide_eq_true (by first|(with_reducible assumption)|assumption)
           have q37 : (x14_3 : Int) < ((x13_3.length : Int) : Int) := of_decide_eq_true (by first|(with_reducible assumption)|assumption)
           obtain ⟨go37, co37, eo37, gb37, gl37, cl37, HG37⟩ := Kd.R_form HO_13.out (by omega)
           (first|cases eo37|(injection eo37 with ea_ en_ ec_; (first|subst ea_|(injection ea_ with ea_; subst ea_)); subst ec_; clear en_))
           have GB37 := aM gb37
           have GG37 := aM HG37
           clear gb37 gl37 HG37
           obtain ⟨hx37_0, hf37_0⟩ := Kd.R_celln false HO_13.out (x14_3 : Int) p37 q37
           replace p37 := eq_true p37
           replace q37 := eq_true q37
           have HP39 := Kd.R_putn HO_13.out (x14_3 : Int) t410
           rw [← Ny411.out] at HP39
           have HQ39 := aM HP39
           clear HP39
           refine hK.out _ _ ⟨hHeld.1, hHeld.2⟩ (fun hHeld => ?_)
           clear hK K
           refine norm_ (a' := ?_) ?_ ?_
           rotate_left
           ·show Act.put _ (some 70) _ = _
            simp only [Act.put, List.setIfInBounds_toArray, List.set_cons_zero, List.set_cons_succ, i64_w, i32_w]
            rfl
           refine pure_ (i := 11) (N := some 71) (v := ?_) (a' := ?_) #[true, true, true, true, true, true, true, true, true, true, true, true, false] rfl rfl (any_of HT_.out (by kernel_rfl)) (fun _ _ _ h => h) (Or.inl ⟨by rfl, ?_⟩) ?_ ?_
           rotate_left
           ·intro w'
            go_simp
            with_reducible rfl
           rotate_left
           ·simp only [Act.put, List.setIfInBounds_toArray, List.set_cons_zero, List.set_cons_succ, i64_w, i32_w]
            rfl
           refine last_ (i := 12) (N := none) #[true, true, true, true, true, true, true, true, true, true, true, true, true] rfl rfl (one_of HT_.out (by kernel_rfl)) (by decide) (fun K hK => ?_)
           refine skip_ (w1 := ?_) (by rfl) rfl ?_ ?_
           rotate_left
           ·go_simp
            rfl
           refine hK.out _ _ ?_
           clear hK K
           refine done_ (done_of HT_.out (by kernel_rfl)) ?_
           try go_wp2
           go_roundg k3
           case measure => have := HJ6.out; have := HK2.out; have := HK3.out; omega
           case rel => exact ⟨(y411), (wrap64 (x14_3 + 1)), (by first|rfl|(simp; done)|(simp [*]; done)), H', ⟨by have := HJ6.out; have := HK2.out; have := HK3.out; omega⟩, ⟨by (with_reducible repeat (first|apply Kd.N_alloc|apply Kd.N_drewN|apply Kd.N_drew)); exact Kd.N_mono (Kd.N_far (p := ⟨go37, (x14_3 : Int).toNat, none⟩) (Kd.N_mono HO_7.out (fun k_ hk => (⟨hk, fun e_ => hk.2.2.2.2 (by rw [e_]; rfl)⟩ : _ ∧ k_ ≠ go37))) (fun _ hk => hk.2) (.bool t410)) (fun _ hk => ⟨hk.1.1, ⟨hk.1.2.1, ⟨hk.1.2.2.1, ⟨hk.1.2.2.2.1, hk.1.2.2.2.2⟩⟩⟩⟩)⟩, ⟨by (with_reducible repeat (first|apply Kd.N_alloc|apply Kd.N_drewN|apply Kd.N_drew)); exact Kd.N_mono (Kd.N_far (p := ⟨go37, (x14_3 : Int).toNat, none⟩) (Kd.N_mono HO_8.out (fun k_ hk => (⟨hk, fun e_ => hk.2.2.2.2 (by rw [e_]; rfl)⟩ : _ ∧ k_ ≠ go37))) (fun _ hk => hk.2) (.bool t410)) (fun _ hk => ⟨hk.1.1, ⟨hk.1.2.1, ⟨hk.1.2.2.1, ⟨hk.1.2.2.2.1, hk.1.2.2.2.2⟩⟩⟩⟩)⟩, ⟨by (with_reducible repeat (first|apply Kd.R_alloc|apply Kd.R_drewN|apply Kd.R_drew)); exact Kd.R_mono (Kd.R_far (p := ⟨go37, (x14_3 : Int).toNat, none⟩) (Kd.R_types HO_9.out GG37.out (by decide)) (fun _ hk => hk.2) (.bool t410)) (fun _ hk => hk.1)⟩, ⟨by (with_reducible repeat (first|apply Kd.R_alloc|apply Kd.R_drewN|apply Kd.R_drew)); exact Kd.R_mono (Kd.R_far (p := ⟨go37, (x14_3 : Int).toNat, none⟩) (Kd.R_types HO_10.out GG37.out (by decide)) (fun _ hk => hk.2) (.bool t410)) (fun _ hk => hk.1)⟩, ⟨by (with_reducible repeat (first|apply Kd.N_alloc|apply Kd.N_drewN|apply Kd.N_drew)); exact Kd.N_mono (Kd.N_far (p := ⟨go37, (x14_3 : Int).toNat, none⟩) (Kd.N_mono HO_11.out (fun k_ hk => (⟨hk, fun e_ => hk.2.2.2.2 (by rw [e_]; rfl)⟩ : _ ∧ k_ ≠ go37))) (fun _ hk => hk.2) (.bool t410)) (fun _ hk => ⟨hk.1.1, ⟨hk.1.2.1, ⟨hk.1.2.2.1, ⟨hk.1.2.2.2.1, hk.1.2.2.2.2⟩⟩⟩⟩)⟩, ⟨by (with_reducible repeat (first|apply Kd.R_alloc|apply Kd.R_drewN|apply Kd.R_drew)); exact HQ39.out⟩, ⟨by repeat (first|(with_reducible first|exact HB.out|apply lA|apply lN|apply lD|refine lS ?_ GB37.out)|exact HB.out)⟩⟩
          ·rw [if_neg c31] at H
           have c31b0 : decide (x14_3 < (t393.length : Int)) = false := decide_eq_false c31
           clear c31
           replace H := ifS H; obtain ⟨c40, H⟩ := H
           have c40b0 : decide (0 ≤ x12_2) = true := decide_eq_true c40
           clear c40
           replace H := ifS H; obtain ⟨c41, H⟩ := H
           have c41b0 : decide (x12_2 < (x11_2.length : Int)) = true := decide_eq_true c41
           clear c41
           obtain ⟨y412, hy412⟩ : ∃ y_ : List (List Bool), y_ = (x11_2.set (x12_2 : Int).toNat x13_3) := ⟨_, rfl⟩
           replace H : (emenderref23_Rows.l0 k3 t390 t393 t396 t399 y412 (wrap64 (x12_2 + 1))) = some (r1, r2) := by first|(rw [hy412]; with_reducible exact H)|(have H2_ := (Option.bind_some _ _).symm.trans H; rw [hy412]; with_reducible exact H2_)|(have H2_ := (Option.bind_some _ _).symm.trans H; with_reducible exact H2_)|with_reducible exact H|(rw [hy412]; exact H)|exact H
           have Ny412 := aM hy412
           clear hy412
           have H' := aM H
           clear H
           have p42 : 0 ≤ (x12_2 : Int) := of_decide_eq_true (by first|(with_reducible assumption)|assumption)
           have q42 : (x12_2 : Int) < ((x11_2.length : Int) : Int) := of_decide_eq_true (by first|(with_reducible assumption)|assumption)
           obtain ⟨go42, co42, eo42, gb42, gl42, cl42, HG42⟩ := Kd.N_form HO_11.out (by omega)
           (first|cases eo42|(injection eo42 with ea_ en_ ec_; (first|subst ea_|(injection ea_ with ea_; subst ea_)); subst ec_; clear en_))
           have GB42 := aM gb42
           have GG42 := aM HG42
           clear gb42 gl42 HG42
           obtain ⟨ce42, hcl42, hM42, hcc42, hfr42⟩ := Kd.N_elem HO_11.out [] (x12_2 : Int) p42 q42
           obtain ⟨ua42_0, uc42_0, rfl, ul42_0, ge42_0⟩ := Kd.FK_slice_open hM42
           have hx42_0 := hcc42 0 _ rfl
           have hf42_0 := hfr42 0
           (try simp only [show ((Kd.slice 4 Kd.bool)).sz = 1 from rfl, Nat.mul_one, Nat.add_zero] at hx42_0)
           (try simp only [show ((Kd.slice 4 Kd.bool)).sz = 1 from rfl, Nat.mul_one, Nat.add_zero] at hf42_0)
           (try clear hM42); clear hcl42 hcc42 hfr42
           replace p42 := eq_true p42
           replace q42 := eq_true q42
           have HX43 := aM (show Kd.N (Kd.slice 4 Kd.bool) 73 wr w.heap.size (fun k_ => some k_ ≠ (.slice Ao22 t390.length co22 : Value).ownBlock ∧ some k_ ≠ (.slice Ao28 t393.length co28 : Value).ownBlock ∧ some k_ ≠ (v397 : Value).ownBlock ∧ some k_ ≠ (v400 : Value).ownBlock) (.slice (some ⟨go42, 0, none⟩) x11_2.length co42) x11_2 from (by (with_reducible repeat (first|apply Kd.N_alloc|apply Kd.N_drewN|apply Kd.N_drew)); exact Kd.N_mono HO_11.out (fun _ hk => ⟨hk.1, ⟨hk.2.1, ⟨hk.2.2.1, hk.2.2.2.1⟩⟩⟩)))
           obtain ⟨ce43, hcl43, hM43, hcc43, hfr43⟩ := Kd.N_elem HX43.out [] (x12_2 : Int) (of_decide_eq_true (by first|(with_reducible assumption)|assumption)) (by have h_ : (x12_2 : Int) < ((x11_2.length : Int) : Int) := of_decide_eq_true (by first|(with_reducible assumption)|assumption); first|exact h_|(have e_ := (Kd.N_reads' HO_11.out).1; omega)|simpa using h_)
           obtain ⟨ua43_0, uc43_0, rfl, ul43_0, ge43_0⟩ := Kd.FK_slice_open hM43
           have AP_ := Kd.R_apart' (Kd.R_apart' (Kd.R_apart' (Kd.R_apart' (Kd.R_apart' (HO_13.out) (Kd.N_typed HO_7.out) (by decide)) (Kd.N_typed HO_8.out) (by decide)) (Kd.R_typed HO_9.out) (by decide)) (Kd.R_typed HO_10.out) (by decide)) (Kd.N_typed HO_11.out) (by decide)
           have AQ_ := Kd.R_mono (ok' := (fun k_ => ((fun k_ => some k_ ≠ (.slice Ao22 t390.length co22 : Value).ownBlock ∧ some k_ ≠ (.slice Ao28 t393.length co28 : Value).ownBlock ∧ some k_ ≠ (v397 : Value).ownBlock ∧ some k_ ≠ (v400 : Value).ownBlock)) k_ ∧ k_ ≠ go42)) AP_ (fun k_ hk => ⟨⟨hk.1.1.1.1.2, ⟨hk.1.1.1.2, ⟨hk.1.1.2, hk.1.2⟩⟩⟩, fun e_ => (hk.2) (by rw [e_]; rfl)⟩)
           have HP43 := Kd.N_seg HX43.out (x12_2 : Int) (of_decide_eq_true (by first|(with_reducible assumption)|assumption)) (by have h_ : (x12_2 : Int) < ((x11_2.length : Int) : Int) := of_decide_eq_true (by first|(with_reducible assumption)|assumption); first|exact h_|(have e_ := (Kd.N_reads' HO_11.out).1; omega)|simpa using h_) (seg := [v406]) (j := 0) hcl43 hcc43 (show 1 ≤ 1 from by decide) (x' := x13_3) (by obtain ⟨av_, cv_, ev_⟩ := Kd.R_slice HO_13.out; have AR_ := AQ_; rw [ev_] at AR_ ⊢; exact Kd.FK_slice_mk (Kd.R_reads' AR_).2.1 (Kd.R_F AR_)) (fun _ hk => hk)
           have hx43_0 := hcc43 0 _ rfl
           (try simp only [show ((Kd.slice 4 Kd.bool)).sz = 1 from rfl, Nat.mul_one, Nat.add_zero] at hx43_0)
           have hf43_0 := hfr43 0
           (try simp only [show ((Kd.slice 4 Kd.bool)).sz = 1 from rfl, Nat.mul_one, Nat.add_zero] at hf43_0)
           (try clear hM43); clear hcl43 hcc43 hfr43
           (try simp only [show ((Kd.slice 4 Kd.bool)).sz = 1 from rfl, Nat.mul_one, Nat.add_zero] at HP43)
           (try simp only [show ((Kd.slice 4 Kd.bool)).sz = 1 from rfl, Nat.mul_one, Nat.add_zero] at HP43)
           go_wp2_with (first|((with_reducible refine gate_store (t := 73) (p := 75) rfl ?_); refine store_event (t := 73) (p := 75) (v := ?vo_w44) (w1 := (wr.setCell ⟨go42, (x12_2 : Int).toNat, none⟩ (v406))) ?hg ?ho ?hn ?hr ?_; (case ho => rfl); (case hg => rfl); (case hn => rfl); (case hr => obtain ⟨av_, cv_, ev_⟩ := Kd.R_slice HO_13.out; rw [ev_]; first|(go_simp; done)|(go_simp; rfl)); intro w44 hw; have hg : wr.grownBy w44 (some go42) := (by rw [hw]; exact HP43.2); have hp_ : Kd.N (Kd.slice 4 Kd.bool) 73 w44 w.heap.size (fun k_ => some k_ ≠ (.slice Ao22 t390.length co22 : Value).ownBlock ∧ some k_ ≠ (.slice Ao28 t393.length co28 : Value).ownBlock ∧ some k_ ≠ (v397 : Value).ownBlock ∧ some k_ ≠ (v400 : Value).ownBlock) (.slice (some ⟨go42, 0, none⟩) x11_2.length co42) y412 := (by rw [hw, Ny412.out]; exact HP43.1); clear HP43; have n0_ := aM (Kd.N_afterv (v := (.slice (some ⟨go42, 0, none⟩) x11_2.length co42)) (v1 := (.slice (some ⟨go42, 0, none⟩) x11_2.length co42)) (ok := (fun k_ => some k_ ≠ (.slice Ao28 t393.length co28 : Value).ownBlock ∧ some k_ ≠ (v397 : Value).ownBlock ∧ some k_ ≠ (v400 : Value).ownBlock ∧ some k_ ≠ (v406 : Value).ownBlock)) (by (with_reducible repeat (first|apply Kd.N_alloc|apply Kd.N_drewN|apply Kd.N_drew)); exact Kd.N_mono HO_7.out (fun _ hk => ⟨⟨hk.1, ⟨hk.2.1, ⟨hk.2.2.1, hk.2.2.2.2⟩⟩⟩, hk.2.2.2.1⟩)) hg (.inl rfl)); have n1_ := aM (Kd.N_afterv (v := (.slice (some ⟨go42, 0, none⟩) x11_2.length co42)) (v1 := (.slice (some ⟨go42, 0, none⟩) x11_2.length co42)) (ok := (fun k_ => some k_ ≠ (.slice Ao22 t390.length co22 : Value).ownBlock ∧ some k_ ≠ (v397 : Value).ownBlock ∧ some k_ ≠ (v400 : Value).ownBlock ∧ some k_ ≠ (v406 : Value).ownBlock)) (by (with_reducible repeat (first|apply Kd.N_alloc|apply Kd.N_drewN|apply Kd.N_drew)); exact Kd.N_mono HO_8.out (fun _ hk => ⟨⟨hk.1, ⟨hk.2.1, ⟨hk.2.2.1, hk.2.2.2.2⟩⟩⟩, hk.2.2.2.1⟩)) hg (.inl rfl)); have n2_ := aM (Kd.R_over' (v := (.slice (some ⟨go42, 0, none⟩) x11_2.length co42)) (by (with_reducible repeat (first|apply Kd.R_alloc|apply Kd.R_drewN|apply Kd.R_drew)); exact HO_9.out) (Kd.N_typed HO_11.out) (by decide) hg); have n3_ := aM (Kd.R_over' (v := (.slice (some ⟨go42, 0, none⟩) x11_2.length co42)) (by (with_reducible repeat (first|apply Kd.R_alloc|apply Kd.R_drewN|apply Kd.R_drew)); exact HO_10.out) (Kd.N_typed HO_11.out) (by decide) hg); have n4_ := aM (hp_); have n5_ := aM ((by rw [hw]; exact lS (HB.out) GB42.out : Below w.heap.size w w44)); clear HO_7; clear HO_8; clear HO_9; clear HO_10; clear HO_11; clear HB; clear HO_13; have HO_7 := n0_; have HO_8 := n1_; have HO_9 := n2_; have HO_10 := n3_; have HO_11 := n4_; have HB := n5_; clear n0_ n1_ n2_ n3_ n4_ n5_; clear hg hw hp_))
           go_roundg k3
           case measure => have := HJ6.out; have := HK2.out; have := HK3.out; omega
           case rel => exact ⟨(y412), (wrap64 (x12_2 + 1)), (by first|rfl|(simp; done)|(simp [*]; done)), H', ⟨by have := HJ6.out; have := HK2.out; have := HK3.out; omega⟩, ⟨by (with_reducible repeat (first|apply Kd.N_alloc|apply Kd.N_drewN|apply Kd.N_drew)); exact Kd.N_mono HO_7.out (fun _ hk => ⟨hk.1.1, ⟨hk.1.2.1, ⟨hk.1.2.2.1, hk.2⟩⟩⟩)⟩, ⟨by (with_reducible repeat (first|apply Kd.N_alloc|apply Kd.N_drewN|apply Kd.N_drew)); exact Kd.N_mono HO_8.out (fun _ hk => ⟨hk.1.1, ⟨hk.1.2.1, ⟨hk.1.2.2.1, hk.2⟩⟩⟩)⟩, ⟨by (with_reducible repeat (first|apply Kd.R_alloc|apply Kd.R_drewN|apply Kd.R_drew)); exact HO_9.out⟩, ⟨by (with_reducible repeat (first|apply Kd.R_alloc|apply Kd.R_drewN|apply Kd.R_drew)); exact HO_10.out⟩, ⟨by (with_reducible repeat (first|apply Kd.N_alloc|apply Kd.N_drewN|apply Kd.N_drew)); exact HO_11.out⟩, ⟨by repeat (first|(with_reducible first|exact HB.out|apply lA|apply lN|apply lD)|exact HB.out)⟩⟩
       ·rw [if_neg c25] at H
        have c25b0 : decide (x12_2 < (t390.length : Int)) = false := decide_eq_false c25
        clear c25
        replace H := Option.bind_eq_some_iff.mp H
        obtain ⟨t413, A450, H⟩ := H
        replace H : (if t413.length < 8796093022208 then (emenderref23_Rows.l2 k2 t396 t399 (t413 ++ [(⟨(t390.length : Int), (t393.length : Int)⟩ : S76)]) ([] : List (S62)) 0 0 0) else (none)) = some (r1, r2) := H
        have A45 := aM A450
        clear A450
        replace H := ifS H; obtain ⟨c46, H⟩ := H
        have LMc46 := aM c46
        clear c46
        obtain ⟨y416, hy416⟩ : ∃ y_ : List (S76), y_ = (t413 ++ [(⟨(t390.length : Int), (t393.length : Int)⟩ : S76)]) := ⟨_, rfl⟩
        replace H : (emenderref23_Rows.l2 k2 t396 t399 y416 ([] : List (S62)) 0 0 0) = some (r1, r2) := by first|(rw [hy416]; with_reducible exact H)|(have H2_ := (Option.bind_some _ _).symm.trans H; rw [hy416]; with_reducible exact H2_)|(have H2_ := (Option.bind_some _ _).symm.trans H; with_reducible exact H2_)|with_reducible exact H|(rw [hy416]; exact H)|exact H
        have Ny416 := aM hy416
        clear hy416
        have H' := aM H
        clear H
        obtain ⟨Ao47, co47, eo47⟩ := Kd.N_slice HO_8.out
        subst eo47
        obtain ⟨Ao48, co48, eo48⟩ := Kd.N_slice HO_11.out
        subst eo48
        go_wp2_with (first|((with_reducible refine gate_callee (f := 32) rfl ?_); refine goesL_ (some 81) rfl rfl Try.func32 (by kernel_rfl) rfl #[.slice Ao48 x11_2.length co48, .int .i64 (t390.length : Int), .int .i64 (t393.length : Int)] rfl (by (try simp only [List.map_toArray, List.map_cons, List.map_nil]); first|done|rfl|(simp only [List.length_drop, List.length_take]; rfl)) ?_; (with_reducible refine (emenderref23_pairs.calls k2 _ _ x11_2 (t390.length : Int) (t393.length : Int) t413 _ ?side1 ?side2 A45.out).mono ?_); (case side1 => repeat (first|exact (Kd.N_reads' HO_11.out).2.2|(with_reducible refine Kd.C_alloc ?_ _)|(with_reducible refine Kd.C_drewN ?_ _)|(with_reducible refine Kd.C_drew ?_))); (case side2 => exact (Kd.N_reads' HO_11.out).2.1); rintro e w49 ⟨v414, rfl, ho0, hb⟩; refine ⟨_, rfl, ?_⟩; replace HO_7 := aM (Kd.N_elder' (by (with_reducible repeat (first|apply Kd.N_alloc|apply Kd.N_drewN|apply Kd.N_drew)); exact HO_7.out) (Kd.R_base ho0) hb); replace HO_8 := aM (Kd.N_elder' (by (with_reducible repeat (first|apply Kd.N_alloc|apply Kd.N_drewN|apply Kd.N_drew)); exact HO_8.out) (Kd.R_base ho0) hb); replace HO_9 := aM (Kd.R_below (by (with_reducible repeat (first|apply Kd.R_alloc|apply Kd.R_drewN|apply Kd.R_drew)); exact HO_9.out) hb); replace HO_10 := aM (Kd.R_below (by (with_reducible repeat (first|apply Kd.R_alloc|apply Kd.R_drewN|apply Kd.R_drew)); exact HO_10.out) hb); replace HO_11 := aM (Kd.N_elder' (by (with_reducible repeat (first|apply Kd.N_alloc|apply Kd.N_drewN|apply Kd.N_drew)); exact HO_11.out) (Kd.R_base ho0) hb); replace HO415 := aM (Kd.R_lower ho0 (below_size (by repeat (first|(with_reducible first|exact HB.out|apply lA|apply lN|apply lD)|exact HB.out)))); replace HB := aM (below_step (by repeat (first|(with_reducible first|exact HB.out|apply lA|apply lN|apply lD)|exact HB.out)) hb); (try clear hb); (try clear hb2); (try clear hk); (try clear hi); (try clear ho0))|((with_reducible refine gate_builtin (b := .append) (xs := #[.tmp 82, .tmp 88]) rfl ?_); (try (refine gate_guard (by rfl) ?_; dsimp only)); at_builtin; refine Kd.R_append k76 (w0 := w) w.heap.size rfl (.tmp 82) (.tmp 88) 26 76 (.agg #[(.int .i64 0), (.int .i64 0)]) 16 rfl Try.underlying26 info76 rfl (by decide) (by omega) v414 t413 (⟨(t390.length : Int), (t393.length : Int)⟩ : S76) [.int .i64 (t390.length : Int), .int .i64 (t393.length : Int)] (fun _ => True) (fun _ => False) rfl rfl ?aP (fun _ hk => hk.elim) ?aF ?aO ?aB ?aS ?aL ?_; (case aP => exact k76_mkM _ _ _ (⟨(t390.length : Int), (t393.length : Int)⟩ : S76)); (case aB => exact (by repeat (first|(with_reducible first|exact HB.out|apply lA|apply lN|apply lD)|exact HB.out))); (case aF => exact (fun _ _ => trivial)); (case aO => exact (by (with_reducible repeat (first|apply Kd.R_alloc|apply Kd.R_drewN|apply Kd.R_drew)); exact HO415.out)); (case aS => exact (below_size (by repeat (first|(with_reducible first|exact HB.out|apply lA|apply lN|apply lD)|exact HB.out)))); (case aL => have := LMc46.out; omega); intro v417 w50 ho hb hg hat; rw [← Ny416.out] at ho; have n0_ := aM (Kd.N_afterv (ok := (fun k_ => some k_ ≠ (.slice Ao47 t393.length co47 : Value).ownBlock ∧ some k_ ≠ (v397 : Value).ownBlock ∧ some k_ ≠ (v400 : Value).ownBlock ∧ some k_ ≠ (.slice Ao48 x11_2.length co48 : Value).ownBlock)) (by (with_reducible repeat (first|apply Kd.N_alloc|apply Kd.N_drewN|apply Kd.N_drew)); exact HO_7.out) hg hat); have n1_ := aM (Kd.N_afterv (ok := (fun k_ => some k_ ≠ (.slice Ao22 t390.length co22 : Value).ownBlock ∧ some k_ ≠ (v397 : Value).ownBlock ∧ some k_ ≠ (v400 : Value).ownBlock ∧ some k_ ≠ (.slice Ao48 x11_2.length co48 : Value).ownBlock)) (by (with_reducible repeat (first|apply Kd.N_alloc|apply Kd.N_drewN|apply Kd.N_drew)); exact HO_8.out) hg hat); have n2_ := aM (Kd.R_over' (by (with_reducible repeat (first|apply Kd.R_alloc|apply Kd.R_drewN|apply Kd.R_drew)); exact HO_9.out) (Kd.R_typed (by (with_reducible repeat (first|apply Kd.R_alloc|apply Kd.R_drewN|apply Kd.R_drew)); exact HO415.out)) (by decide) hg); have n3_ := aM (Kd.R_over' (by (with_reducible repeat (first|apply Kd.R_alloc|apply Kd.R_drewN|apply Kd.R_drew)); exact HO_10.out) (Kd.R_typed (by (with_reducible repeat (first|apply Kd.R_alloc|apply Kd.R_drewN|apply Kd.R_drew)); exact HO415.out)) (by decide) hg); have n4_ := aM (Kd.N_afterv (ok := (fun k_ => some k_ ≠ (.slice Ao22 t390.length co22 : Value).ownBlock ∧ some k_ ≠ (.slice Ao47 t393.length co47 : Value).ownBlock ∧ some k_ ≠ (v397 : Value).ownBlock ∧ some k_ ≠ (v400 : Value).ownBlock)) (by (with_reducible repeat (first|apply Kd.N_alloc|apply Kd.N_drewN|apply Kd.N_drew)); exact HO_11.out) hg hat); have n5_ := aM (hb); have n6_ := aM (ho); clear HO_7; clear HO_8; clear HO_9; clear HO_10; clear HO_11; clear HB; clear HO415; have HO_7 := n0_; have HO_8 := n1_; have HO_9 := n2_; have HO_10 := n3_; have HO_11 := n4_; have HB := n5_; have HO418 := n6_; clear n0_ n1_ n2_ n3_ n4_ n5_ n6_; clear ho hb hg hat))
        go_loopg [16, 17, 18, 19] k2 (fun kq v16 v17 v18 v19 w' => ∃ (x16_3 : List (S62)) (x17_3 : Int) (x18_3 : Int) (x19_3 : Int), v17 = .int .i64 x17_3 ∧ v18 = .int .i64 x18_3 ∧ v19 = .int .i64 x19_3 ∧ Aside0 (emenderref23_Rows.l2 kq t396 t399 y416 x16_3 x17_3 x18_3 x19_3 = some (r1, r2)) ∧ Aside0 (kq ≤ k2) ∧ Aside0 (Kd.R (Kd.int .i64) 3 w' w.heap.size (fun k_ => some k_ ≠ (v400 : Value).ownBlock) v397 t396) ∧ Aside0 (Kd.R (Kd.int .i64) 3 w' w.heap.size (fun k_ => some k_ ≠ (v397 : Value).ownBlock) v400 t399) ∧ Aside0 (Kd.R k76 76 w' w.heap.size (fun _ => True) v417 y416) ∧ Aside0 (Kd.R k62 62 w' w.heap.size (fun _ => True) v16 x16_3) ∧ Aside0 (Below w.heap.size w w'))
        case atStart => exact ⟨(([] : List (S62))), (0), (0), (0), (by first|rfl|(simp; done)|(simp [*]; done)), (by first|rfl|(simp; done)|(simp [*]; done)), (by first|rfl|(simp; done)|(simp [*]; done)), H', ⟨Nat.le_refl _⟩, ⟨by (with_reducible repeat (first|apply Kd.R_alloc|apply Kd.R_drewN|apply Kd.R_drew)); exact HO_9.out⟩, ⟨by (with_reducible repeat (first|apply Kd.R_alloc|apply Kd.R_drewN|apply Kd.R_drew)); exact HO_10.out⟩, ⟨by (with_reducible repeat (first|apply Kd.R_alloc|apply Kd.R_drewN|apply Kd.R_drew)); exact HO418.out⟩, ⟨by first|exact Kd.R_nil _ _ _ _ _|exact Kd.N_nil _ _ _ _ _|exact Kd.V_nil _ _ _ _ _|exact Kd.Q_nil _ _ _ _ _|exact Kd.S_nil _ _ _ _ _⟩, ⟨by repeat (first|(with_reducible first|exact HB.out|apply lA|apply lN|apply lD)|exact HB.out)⟩⟩
        case round =>
         clear H'
         obtain ⟨x16_3, x17_3, x18_3, x19_3, rfl, rfl, rfl, HA, HK3, HO_9, HO_10, HO_15, HO_16, HB⟩ := hrel
         cases gk with
        |zero => exact absurd HA.out (by simp [emenderref23_Rows.l2])
        |succ k3 =>
          have H := HA.out
          clear HA
          simp only [emenderref23_Rows.l2] at H
          by_cases c51 : x19_3 < (y416.length : Int)
          ·rw [if_pos c51] at H
           have c51b0 : decide (x19_3 < (y416.length : Int)) = true := decide_eq_true c51
           clear c51
           have H' := aM H
           clear H
           obtain ⟨Ao52, co52, eo52⟩ := Kd.R_slice HO_15.out
           subst eo52
           go_wp2
           go_loopg [16, 17] k3 (fun kq v16 v17 w' => ∃ (x16_4 : List (S62)) (x17_4 : Int), v17 = .int .i64 x17_4 ∧ Aside0 (emenderref23_Rows.l3 kq t396 t399 y416 x16_4 x17_4 x18_3 x19_3 = some (r1, r2)) ∧ Aside0 (kq ≤ k3) ∧ Aside0 (Kd.R (Kd.int .i64) 3 w' w.heap.size (fun k_ => some k_ ≠ (v400 : Value).ownBlock) v397 t396) ∧ Aside0 (Kd.R (Kd.int .i64) 3 w' w.heap.size (fun k_ => some k_ ≠ (v397 : Value).ownBlock) v400 t399) ∧ Aside0 (Kd.R k76 76 w' w.heap.size (fun _ => True) (.slice Ao52 y416.length co52) y416) ∧ Aside0 (Kd.R k62 62 w' w.heap.size (fun _ => True) v16 x16_4) ∧ Aside0 (Below w.heap.size w w'))
           case atStart => exact ⟨(x16_3), (x17_3), (by first|rfl|(simp; done)|(simp [*]; done)), H', ⟨Nat.le_refl _⟩, ⟨by (with_reducible repeat (first|apply Kd.R_alloc|apply Kd.R_drewN|apply Kd.R_drew)); exact HO_9.out⟩, ⟨by (with_reducible repeat (first|apply Kd.R_alloc|apply Kd.R_drewN|apply Kd.R_drew)); exact HO_10.out⟩, ⟨by (with_reducible repeat (first|apply Kd.R_alloc|apply Kd.R_drewN|apply Kd.R_drew)); exact HO_15.out⟩, ⟨by (with_reducible repeat (first|apply Kd.R_alloc|apply Kd.R_drewN|apply Kd.R_drew)); exact HO_16.out⟩, ⟨by repeat (first|(with_reducible first|exact HB.out|apply lA|apply lN|apply lD)|exact HB.out)⟩⟩
           case round =>
            clear H'
            obtain ⟨x16_4, x17_4, rfl, HA, HK4, HO_9, HO_10, HO_15, HO_16, HB⟩ := hrel
            cases gk with
           |zero => exact absurd HA.out (by simp [emenderref23_Rows.l3])
           |succ k4 =>
             have H := HA.out
             clear HA
             simp only [emenderref23_Rows.l3] at H
             replace H := ifS H; obtain ⟨c53, H⟩ := H
             have c53b0 : decide (0 ≤ x19_3) = true := decide_eq_true c53
             clear c53
             replace H := ifS H; obtain ⟨c54, H⟩ := H
             have c54b0 : decide (x19_3 < (y416.length : Int)) = true := decide_eq_true c54
             clear c54
             by_cases c55 : x17_4 < ((rd_T76 y416 x19_3).f0)
             ·rw [if_pos c55] at H
              have c55b0 : decide (x17_4 < ((rd_T76 y416 x19_3).f0)) = true := decide_eq_true c55
              clear c55
              replace H := ifS H; obtain ⟨c56, H⟩ := H
              have c56b0 : decide (0 ≤ x17_4) = true := decide_eq_true c56
              clear c56
              replace H := ifS H; obtain ⟨c57, H⟩ := H
              have c57b0 : decide (x17_4 < (t396.length : Int)) = true := decide_eq_true c57
              clear c57
              replace H := ifS H; obtain ⟨c58, H⟩ := H
              have LMc58 := aM c58
              clear c58
              obtain ⟨y421, hy421⟩ : ∃ y_ : List (S62), y_ = (x16_4 ++ [(⟨1, rd t396 x17_4, (-1)⟩ : S62)]) := ⟨_, rfl⟩
              replace H : (emenderref23_Rows.l3 k4 t396 t399 y416 y421 (wrap64 (x17_4 + 1)) x18_3 x19_3) = some (r1, r2) := by first|(rw [hy421]; with_reducible exact H)|(have H2_ := (Option.bind_some _ _).symm.trans H; rw [hy421]; with_reducible exact H2_)|(have H2_ := (Option.bind_some _ _).symm.trans H; with_reducible exact H2_)|with_reducible exact H|(rw [hy421]; exact H)|exact H
              have Ny421 := aM hy421
              clear hy421
              have H' := aM H
              clear H
              have p419 : 0 ≤ (x19_3 : Int) := of_decide_eq_true (by first|(with_reducible assumption)|assumption)
              have q419 : x19_3 < (y416.length : Int) := of_decide_eq_true (by first|(with_reducible assumption)|assumption)
              obtain ⟨ad419, e419, hx419_0, hx419_1⟩ := at_T76 (Kd.R_reads' HO_15.out).2.2 x19_3 p419 q419
              cases e419
              replace p419 := eq_true p419
              replace q419 := eq_true q419
              obtain ⟨Ao59, co59, eo59⟩ := Kd.R_slice HO_9.out
              subst eo59
              have p420 : 0 ≤ (x17_4 : Int) := of_decide_eq_true (by first|(with_reducible assumption)|assumption)
              have q420 : x17_4 < (t396.length : Int) := of_decide_eq_true (by first|(with_reducible assumption)|assumption)
              obtain ⟨ad420, e420, hx420_0⟩ := Kd.at_int (Kd.R_reads' HO_9.out).2.2 x17_4 p420 q420
              cases e420
              replace p420 := eq_true p420
              replace q420 := eq_true q420
              go_wp2_with (first|((with_reducible refine gate_builtin (b := .append) (xs := #[.tmp 103, .tmp 109]) rfl ?_); (try (refine gate_guard (by rfl) ?_; dsimp only)); at_builtin; refine Kd.R_append k62 (w0 := w) w.heap.size rfl (.tmp 103) (.tmp 109) 57 62 (.agg #[(.int .i64 0), (.int .i64 0), (.int .i64 0)]) 24 rfl Try.underlying57 info62 rfl (by decide) (by omega) u16 x16_4 (⟨1, rd t396 x17_4, (-1)⟩ : S62) [.int .i64 1, .int .i64 (rd t396 x17_4), .int .i64 (-1)] (fun _ => True) (fun _ => False) rfl rfl ?aP (fun _ hk => hk.elim) ?aF ?aO ?aB ?aS ?aL ?_; (case aP => exact k62_mkM _ _ _ (⟨1, rd t396 x17_4, (-1)⟩ : S62)); (case aB => exact (by repeat (first|(with_reducible first|exact HB.out|apply lA|apply lN|apply lD)|exact HB.out))); (case aF => exact (fun _ _ => trivial)); (case aO => exact (by (with_reducible repeat (first|apply Kd.R_alloc|apply Kd.R_drewN|apply Kd.R_drew)); exact HO_16.out)); (case aS => exact (below_size (by repeat (first|(with_reducible first|exact HB.out|apply lA|apply lN|apply lD)|exact HB.out)))); (case aL => have := LMc58.out; omega); intro v422 w60 ho hb hg hat; rw [← Ny421.out] at ho; have n0_ := aM (Kd.R_over' (by (with_reducible repeat (first|apply Kd.R_alloc|apply Kd.R_drewN|apply Kd.R_drew)); exact HO_9.out) (Kd.R_typed (by (with_reducible repeat (first|apply Kd.R_alloc|apply Kd.R_drewN|apply Kd.R_drew)); exact HO_16.out)) (by decide) hg); have n1_ := aM (Kd.R_over' (by (with_reducible repeat (first|apply Kd.R_alloc|apply Kd.R_drewN|apply Kd.R_drew)); exact HO_10.out) (Kd.R_typed (by (with_reducible repeat (first|apply Kd.R_alloc|apply Kd.R_drewN|apply Kd.R_drew)); exact HO_16.out)) (by decide) hg); have n2_ := aM (Kd.R_over' (by (with_reducible repeat (first|apply Kd.R_alloc|apply Kd.R_drewN|apply Kd.R_drew)); exact HO_15.out) (Kd.R_typed (by (with_reducible repeat (first|apply Kd.R_alloc|apply Kd.R_drewN|apply Kd.R_drew)); exact HO_16.out)) (by decide) hg); have n3_ := aM (hb); have n4_ := aM (ho); clear HO_9; clear HO_10; clear HO_15; clear HB; clear HO_16; have HO_9 := n0_; have HO_10 := n1_; have HO_15 := n2_; have HB := n3_; have HO423 := n4_; clear n0_ n1_ n2_ n3_ n4_; clear ho hb hg hat))
              go_roundg k4
              case measure => have := HJ6.out; have := HK2.out; have := HK3.out; have := HK4.out; omega
              case rel => exact ⟨(y421), (wrap64 (x17_4 + 1)), (by first|rfl|(simp; done)|(simp [*]; done)), H', ⟨by have := HJ6.out; have := HK2.out; have := HK3.out; have := HK4.out; omega⟩, ⟨by (with_reducible repeat (first|apply Kd.R_alloc|apply Kd.R_drewN|apply Kd.R_drew)); exact HO_9.out⟩, ⟨by (with_reducible repeat (first|apply Kd.R_alloc|apply Kd.R_drewN|apply Kd.R_drew)); exact HO_10.out⟩, ⟨by (with_reducible repeat (first|apply Kd.R_alloc|apply Kd.R_drewN|apply Kd.R_drew)); exact HO_15.out⟩, ⟨by (with_reducible repeat (first|apply Kd.R_alloc|apply Kd.R_drewN|apply Kd.R_drew)); exact HO423.out⟩, ⟨by repeat (first|(with_reducible first|exact HB.out|apply lA|apply lN|apply lD)|exact HB.out)⟩⟩
             ·rw [if_neg c55] at H
              have c55b0 : decide (x17_4 < ((rd_T76 y416 x19_3).f0)) = false := decide_eq_false c55
              clear c55
              have H' := aM H
              clear H
              have p419 : 0 ≤ (x19_3 : Int) := of_decide_eq_true (by first|(with_reducible assumption)|assumption)
              have q419 : x19_3 < (y416.length : Int) := of_decide_eq_true (by first|(with_reducible assumption)|assumption)
              obtain ⟨ad419, e419, hx419_0, hx419_1⟩ := at_T76 (Kd.R_reads' HO_15.out).2.2 x19_3 p419 q419
              cases e419
              replace p419 := eq_true p419
              replace q419 := eq_true q419
              go_wp2
              go_loopg [16, 18] k4 (fun kq v16 v18 w' => ∃ (x16_5 : List (S62)) (x18_5 : Int), v18 = .int .i64 x18_5 ∧ Aside0 (emenderref23_Rows.l4 kq t396 t399 y416 x16_5 x17_4 x18_5 x19_3 = some (r1, r2)) ∧ Aside0 (kq ≤ k4) ∧ Aside0 (Kd.R (Kd.int .i64) 3 w' w.heap.size (fun k_ => some k_ ≠ (v400 : Value).ownBlock) v397 t396) ∧ Aside0 (Kd.R (Kd.int .i64) 3 w' w.heap.size (fun k_ => some k_ ≠ (v397 : Value).ownBlock) v400 t399) ∧ Aside0 (Kd.R k76 76 w' w.heap.size (fun _ => True) (.slice (some ad419) y416.length co52) y416) ∧ Aside0 (Kd.R k62 62 w' w.heap.size (fun _ => True) v16 x16_5) ∧ Aside0 (Below w.heap.size w w'))
              case atStart => exact ⟨(x16_4), (x18_3), (by first|rfl|(simp; done)|(simp [*]; done)), H', ⟨Nat.le_refl _⟩, ⟨by (with_reducible repeat (first|apply Kd.R_alloc|apply Kd.R_drewN|apply Kd.R_drew)); exact HO_9.out⟩, ⟨by (with_reducible repeat (first|apply Kd.R_alloc|apply Kd.R_drewN|apply Kd.R_drew)); exact HO_10.out⟩, ⟨by (with_reducible repeat (first|apply Kd.R_alloc|apply Kd.R_drewN|apply Kd.R_drew)); exact HO_15.out⟩, ⟨by (with_reducible repeat (first|apply Kd.R_alloc|apply Kd.R_drewN|apply Kd.R_drew)); exact HO_16.out⟩, ⟨by repeat (first|(with_reducible first|exact HB.out|apply lA|apply lN|apply lD)|exact HB.out)⟩⟩
              case round =>
               clear H'
               obtain ⟨x16_5, x18_5, rfl, HA, HK5, HO_9, HO_10, HO_15, HO_16, HB⟩ := hrel
               cases gk with
              |zero => exact absurd HA.out (by simp [emenderref23_Rows.l4])
              |succ k5 =>
                have H := HA.out
                clear HA
                simp only [emenderref23_Rows.l4] at H
                replace H := ifS H; obtain ⟨c61, H⟩ := H
                have c61b0 : decide (0 ≤ x19_3) = true := decide_eq_true c61
                clear c61
                replace H := ifS H; obtain ⟨c62, H⟩ := H
                have c62b0 : decide (x19_3 < (y416.length : Int)) = true := decide_eq_true c62
                clear c62
                by_cases c63 : x18_5 < ((rd_T76 y416 x19_3).f1)
                ·rw [if_pos c63] at H
                 have c63b0 : decide (x18_5 < ((rd_T76 y416 x19_3).f1)) = true := decide_eq_true c63
                 clear c63
                 replace H := ifS H; obtain ⟨c64, H⟩ := H
                 have c64b0 : decide (0 ≤ x18_5) = true := decide_eq_true c64
                 clear c64
                 replace H := ifS H; obtain ⟨c65, H⟩ := H
                 have c65b0 : decide (x18_5 < (t399.length : Int)) = true := decide_eq_true c65
                 clear c65
                 replace H := ifS H; obtain ⟨c66, H⟩ := H
                 have LMc66 := aM c66
                 clear c66
                 obtain ⟨y426, hy426⟩ : ∃ y_ : List (S62), y_ = (x16_5 ++ [(⟨2, (-1), rd t399 x18_5⟩ : S62)]) := ⟨_, rfl⟩
                 replace H : (emenderref23_Rows.l4 k5 t396 t399 y416 y426 x17_4 (wrap64 (x18_5 + 1)) x19_3) = some (r1, r2) := by first|(rw [hy426]; with_reducible exact H)|(have H2_ := (Option.bind_some _ _).symm.trans H; rw [hy426]; with_reducible exact H2_)|(have H2_ := (Option.bind_some _ _).symm.trans H; with_reducible exact H2_)|with_reducible exact H|(rw [hy426]; exact H)|exact H
                 have Ny426 := aM hy426
                 clear hy426
                 have H' := aM H
                 clear H
                 have p424 : 0 ≤ (x19_3 : Int) := of_decide_eq_true (by first|(with_reducible assumption)|assumption)
                 have q424 : x19_3 < (y416.length : Int) := of_decide_eq_true (by first|(with_reducible assumption)|assumption)
                 obtain ⟨ad424, e424, hx424_0, hx424_1⟩ := at_T76 (Kd.R_reads' HO_15.out).2.2 x19_3 p424 q424
                 obtain rfl : ad419 = ad424 := (by injection e424)
                 replace p424 := eq_true p424
                 replace q424 := eq_true q424
                 obtain ⟨Ao67, co67, eo67⟩ := Kd.R_slice HO_10.out
                 subst eo67
                 have p425 : 0 ≤ (x18_5 : Int) := of_decide_eq_true (by first|(with_reducible assumption)|assumption)
                 have q425 : x18_5 < (t399.length : Int) := of_decide_eq_true (by first|(with_reducible assumption)|assumption)
                 obtain ⟨ad425, e425, hx425_0⟩ := Kd.at_int (Kd.R_reads' HO_10.out).2.2 x18_5 p425 q425
                 cases e425
                 replace p425 := eq_true p425
                 replace q425 := eq_true q425
                 go_wp2_with (first|((with_reducible refine gate_builtin (b := .append) (xs := #[.tmp 120, .tmp 126]) rfl ?_); (try (refine gate_guard (by rfl) ?_; dsimp only)); at_builtin; refine Kd.R_append k62 (w0 := w) w.heap.size rfl (.tmp 120) (.tmp 126) 57 62 (.agg #[(.int .i64 0), (.int .i64 0), (.int .i64 0)]) 24 rfl Try.underlying57 info62 rfl (by decide) (by omega) u16 x16_5 (⟨2, (-1), rd t399 x18_5⟩ : S62) [.int .i64 2, .int .i64 (-1), .int .i64 (rd t399 x18_5)] (fun _ => True) (fun _ => False) rfl rfl ?aP (fun _ hk => hk.elim) ?aF ?aO ?aB ?aS ?aL ?_; (case aP => exact k62_mkM _ _ _ (⟨2, (-1), rd t399 x18_5⟩ : S62)); (case aB => exact (by repeat (first|(with_reducible first|exact HB.out|apply lA|apply lN|apply lD)|exact HB.out))); (case aF => exact (fun _ _ => trivial)); (case aO => exact (by (with_reducible repeat (first|apply Kd.R_alloc|apply Kd.R_drewN|apply Kd.R_drew)); exact HO_16.out)); (case aS => exact (below_size (by repeat (first|(with_reducible first|exact HB.out|apply lA|apply lN|apply lD)|exact HB.out)))); (case aL => have := LMc66.out; omega); intro v427 w68 ho hb hg hat; rw [← Ny426.out] at ho; have n0_ := aM (Kd.R_over' (by (with_reducible repeat (first|apply Kd.R_alloc|apply Kd.R_drewN|apply Kd.R_drew)); exact HO_9.out) (Kd.R_typed (by (with_reducible repeat (first|apply Kd.R_alloc|apply Kd.R_drewN|apply Kd.R_drew)); exact HO_16.out)) (by decide) hg); have n1_ := aM (Kd.R_over' (by (with_reducible repeat (first|apply Kd.R_alloc|apply Kd.R_drewN|apply Kd.R_drew)); exact HO_10.out) (Kd.R_typed (by (with_reducible repeat (first|apply Kd.R_alloc|apply Kd.R_drewN|apply Kd.R_drew)); exact HO_16.out)) (by decide) hg); have n2_ := aM (Kd.R_over' (by (with_reducible repeat (first|apply Kd.R_alloc|apply Kd.R_drewN|apply Kd.R_drew)); exact HO_15.out) (Kd.R_typed (by (with_reducible repeat (first|apply Kd.R_alloc|apply Kd.R_drewN|apply Kd.R_drew)); exact HO_16.out)) (by decide) hg); have n3_ := aM (hb); have n4_ := aM (ho); clear HO_9; clear HO_10; clear HO_15; clear HB; clear HO_16; have HO_9 := n0_; have HO_10 := n1_; have HO_15 := n2_; have HB := n3_; have HO428 := n4_; clear n0_ n1_ n2_ n3_ n4_; clear ho hb hg hat))
                 go_roundg k5
                 case measure => have := HJ6.out; have := HK2.out; have := HK3.out; have := HK4.out; have := HK5.out; omega
                 case rel => exact ⟨(y426), (wrap64 (x18_5 + 1)), (by first|rfl|(simp; done)|(simp [*]; done)), H', ⟨by have := HJ6.out; have := HK2.out; have := HK3.out; have := HK4.out; have := HK5.out; omega⟩, ⟨by (with_reducible repeat (first|apply Kd.R_alloc|apply Kd.R_drewN|apply Kd.R_drew)); exact HO_9.out⟩, ⟨by (with_reducible repeat (first|apply Kd.R_alloc|apply Kd.R_drewN|apply Kd.R_drew)); exact HO_10.out⟩, ⟨by (with_reducible repeat (first|apply Kd.R_alloc|apply Kd.R_drewN|apply Kd.R_drew)); exact HO_15.out⟩, ⟨by (with_reducible repeat (first|apply Kd.R_alloc|apply Kd.R_drewN|apply Kd.R_drew)); exact HO428.out⟩, ⟨by repeat (first|(with_reducible first|exact HB.out|apply lA|apply lN|apply lD)|exact HB.out)⟩⟩
                ·rw [if_neg c63] at H
                 have c63b0 : decide (x18_5 < ((rd_T76 y416 x19_3).f1)) = false := decide_eq_false c63
                 clear c63
                 by_cases c69 : x19_3 < (wrap64 ((y416.length : Int) - 1))
                 ·rw [if_pos c69] at H
                  have c69b0 : decide (x19_3 < (wrap64 ((y416.length : Int) - 1))) = true := decide_eq_true c69
                  clear c69
                  replace H := ifS H; obtain ⟨c70, H⟩ := H
                  have c70b0 : decide (0 ≤ x17_4) = true := decide_eq_true c70
                  clear c70
                  replace H := ifS H; obtain ⟨c71, H⟩ := H
                  have c71b0 : decide (x17_4 < (t396.length : Int)) = true := decide_eq_true c71
                  clear c71
                  replace H := ifS H; obtain ⟨c72, H⟩ := H
                  have c72b0 : decide (0 ≤ x18_5) = true := decide_eq_true c72
                  clear c72
                  replace H := ifS H; obtain ⟨c73, H⟩ := H
                  have c73b0 : decide (x18_5 < (t399.length : Int)) = true := decide_eq_true c73
                  clear c73
                  replace H := ifS H; obtain ⟨c74, H⟩ := H
                  have LMc74 := aM c74
                  clear c74
                  obtain ⟨y431, hy431⟩ : ∃ y_ : List (S62), y_ = (x16_5 ++ [(⟨0, rd t396 x17_4, rd t399 x18_5⟩ : S62)]) := ⟨_, rfl⟩
                  replace H : (emenderref23_Rows.l2 k5 t396 t399 y416 y431 (wrap64 (x17_4 + 1)) (wrap64 (x18_5 + 1)) (wrap64 (x19_3 + 1))) = some (r1, r2) := by first|(rw [hy431]; with_reducible exact H)|(have H2_ := (Option.bind_some _ _).symm.trans H; rw [hy431]; with_reducible exact H2_)|(have H2_ := (Option.bind_some _ _).symm.trans H; with_reducible exact H2_)|with_reducible exact H|(rw [hy431]; exact H)|exact H
                  have Ny431 := aM hy431
                  clear hy431
                  have H' := aM H
                  clear H
                  have p424 : 0 ≤ (x19_3 : Int) := of_decide_eq_true (by first|(with_reducible assumption)|assumption)
                  have q424 : x19_3 < (y416.length : Int) := of_decide_eq_true (by first|(with_reducible assumption)|assumption)
                  obtain ⟨ad424, e424, hx424_0, hx424_1⟩ := at_T76 (Kd.R_reads' HO_15.out).2.2 x19_3 p424 q424
                  obtain rfl : ad419 = ad424 := (by injection e424)
                  replace p424 := eq_true p424
                  replace q424 := eq_true q424
                  try go_wp2
                  have n0_ := aM (Kd.R_drew HO_9.out)
                  have n1_ := aM (Kd.R_drew HO_10.out)
                  have n2_ := aM (Kd.R_drew HO_15.out)
                  have n3_ := aM (Kd.R_drew HO_16.out)
                  have n4_ := aM (lD HB.out)
                  clear HO_9
                  clear HO_10
                  clear HO_15
                  clear HO_16
                  clear HB
                  have HO_9 := n0_
                  have HO_10 := n1_
                  have HO_15 := n2_
                  have HO_16 := n3_
                  have HB := n4_
                  clear n0_ n1_ n2_ n3_ n4_
                  obtain ⟨Ao76, co76, eo76⟩ := Kd.R_slice HO_9.out
                  (first|subst eo76|(injection eo76 with f1_ f2_ f3_; have f4_ := f1_.symm; have f5_ := f3_.symm; clear f1_ f2_ f3_; subst f4_; subst f5_))
                  have p429 : 0 ≤ (x17_4 : Int) := of_decide_eq_true (by first|(with_reducible assumption)|assumption)
                  have q429 : x17_4 < (t396.length : Int) := of_decide_eq_true (by first|(with_reducible assumption)|assumption)
                  obtain ⟨ad429, e429, hx429_0⟩ := Kd.at_int (Kd.R_reads' HO_9.out).2.2 x17_4 p429 q429
                  cases e429
                  replace p429 := eq_true p429
                  replace q429 := eq_true q429
                  obtain ⟨Ao77, co77, eo77⟩ := Kd.R_slice HO_10.out
                  (first|subst eo77|(injection eo77 with f1_ f2_ f3_; have f4_ := f1_.symm; have f5_ := f3_.symm; clear f1_ f2_ f3_; subst f4_; subst f5_))
                  have p430 : 0 ≤ (x18_5 : Int) := of_decide_eq_true (by first|(with_reducible assumption)|assumption)
                  have q430 : x18_5 < (t399.length : Int) := of_decide_eq_true (by first|(with_reducible assumption)|assumption)
                  obtain ⟨ad430, e430, hx430_0⟩ := Kd.at_int (Kd.R_reads' HO_10.out).2.2 x18_5 p430 q430
                  cases e430
                  replace p430 := eq_true p430
                  replace q430 := eq_true q430
                  refine start_ (n := 13) (S := fun w' => w'.cell? (ad429.add (x17_4).toNat) = some (.int .i64 (rd t396 x17_4)) ∧ w'.cell? (ad430.add (x18_5).toNat) = some (.int .i64 (rd t399 x18_5))) (ds := [10, 11]) #[false, false, false, false, false, false, false, false, false, false, false, false, false] (by kernel_rfl) rfl rfl ⟨hx429_0, hx430_0⟩ (fun hHeld => ?_); refine with_tabW emenderref23_Rows.tab35 emenderref23_Rows.bits35 (fun HT_ HW_ => ?_)
                  generalize wr.drew = w75 at HO_9 HO_10 HO_15 HO_16 HB hx429_0 hx430_0 hHeld ⊢
                  refine pure_ (i := 0) (N := some 135) (v := ?_) (a' := ?_) #[true, false, false, false, false, false, false, false, false, false, false, false, false] rfl rfl (any_of HT_.out (by kernel_rfl)) (fun _ _ _ h => h) (Or.inl ⟨by rfl, ?_⟩) ?_ ?_
                  rotate_left
                  ·intro w'
                   go_simp
                   with_reducible rfl
                  rotate_left
                  ·simp only [Act.put, List.setIfInBounds_toArray, List.set_cons_zero, List.set_cons_succ, i64_w, i32_w]
                   rfl
                  refine pure_ (i := 1) (N := some 136) (v := ?_) (a' := ?_) #[true, true, false, false, false, false, false, false, false, false, false, false, false] rfl rfl (any_of HT_.out (by kernel_rfl)) (fun _ _ _ h => h) (Or.inl ⟨by rfl, ?_⟩) ?_ ?_
                  rotate_left
                  ·intro w'
                   go_simp
                   with_reducible rfl
                  rotate_left
                  ·simp only [Act.put, List.setIfInBounds_toArray, List.set_cons_zero, List.set_cons_succ, i64_w, i32_w]
                   rfl
                  refine pure_ (i := 2) (N := some 137) (v := ?_) (a' := ?_) #[true, true, true, false, false, false, false, false, false, false, false, false, false] rfl rfl (any_of HT_.out (by kernel_rfl)) (fun _ _ _ h => h) (Or.inl ⟨by rfl, ?_⟩) ?_ ?_
                  rotate_left
                  ·intro w'
                   go_simp
                   with_reducible rfl
                  rotate_left
                  ·simp only [Act.put, List.setIfInBounds_toArray, List.set_cons_zero, List.set_cons_succ, i64_w, i32_w]
                   rfl
                  refine pure_ (i := 3) (N := some 138) (v := ?_) (a' := ?_) #[true, true, true, true, false, false, false, false, false, false, false, false, false] rfl rfl (any_of HT_.out (by kernel_rfl)) (fun _ _ _ h => h) (Or.inl ⟨by rfl, ?_⟩) ?_ ?_
                  rotate_left
                  ·intro w'
                   go_simp
                   with_reducible rfl
                  rotate_left
                  ·simp only [Act.put, List.setIfInBounds_toArray, List.set_cons_zero, List.set_cons_succ, i64_w, i32_w]
                   rfl
                  refine pure_ (i := 5) (N := some 140) (v := ?_) (a' := ?_) #[true, true, true, true, false, true, false, false, false, false, false, false, false] rfl rfl (any_of HT_.out (by kernel_rfl)) (fun _ _ _ h => h) (Or.inl ⟨by rfl, ?_⟩) ?_ ?_
                  rotate_left
                  ·intro w'
                   go_simp
                   with_reducible rfl
                  rotate_left
                  ·simp only [Act.put, List.setIfInBounds_toArray, List.set_cons_zero, List.set_cons_succ, i64_w, i32_w]
                   rfl
                  refine pure_ (i := 6) (N := some 141) (v := ?_) (a' := ?_) #[true, true, true, true, false, true, true, false, false, false, false, false, false] rfl rfl (any_of HT_.out (by kernel_rfl)) (fun _ _ _ h => h) (Or.inl ⟨by rfl, ?_⟩) ?_ ?_
                  rotate_left
                  ·intro w'
                   go_simp
                   with_reducible rfl
                  rotate_left
                  ·simp only [Act.put, List.setIfInBounds_toArray, List.set_cons_zero, List.set_cons_succ, i64_w, i32_w]
                   rfl
                  refine pure_ (i := 7) (N := some 142) (v := ?_) (a' := ?_) #[true, true, true, true, false, true, true, true, false, false, false, false, false] rfl rfl (any_of HT_.out (by kernel_rfl)) (fun _ _ _ h => h) (Or.inl ⟨by rfl, ?_⟩) ?_ ?_
                  rotate_left
                  ·intro w'
                   go_simp
                   with_reducible rfl
                  rotate_left
                  ·simp only [Act.put, List.setIfInBounds_toArray, List.set_cons_zero, List.set_cons_succ, i64_w, i32_w]
                   rfl
                  refine take_ (i := 4) (N := some 139) (v := ?_) (a' := ?_) #[true, true, true, true, true, true, true, true, false, false, false, false, false] rfl rfl (take_ofW HT_.out HW_.out (by kernel_rfl)) (fun _ _ _ h => h) (Or.inl ⟨by rfl, ?_⟩) hHeld ?_ ?_
                  rotate_left
                  ·rintro w' ⟨s0, s1⟩
                   go_simp
                   with_reducible rfl
                  rotate_left
                  ·simp only [Act.put, List.setIfInBounds_toArray, List.set_cons_zero, List.set_cons_succ, i64_w, i32_w]
                   rfl
                  refine take_ (i := 8) (N := some 143) (v := ?_) (a' := ?_) #[true, true, true, true, true, true, true, true, true, false, false, false, false] rfl rfl (take_ofW HT_.out HW_.out (by kernel_rfl)) (fun _ _ _ h => h) (Or.inl ⟨by rfl, ?_⟩) hHeld ?_ ?_
                  rotate_left
                  ·rintro w' ⟨s0, s1⟩
                   go_simp
                   with_reducible rfl
                  rotate_left
                  ·simp only [Act.put, List.setIfInBounds_toArray, List.set_cons_zero, List.set_cons_succ, i64_w, i32_w]
                   rfl
                  refine pure_ (i := 9) (N := some 144) (v := ?_) (a' := ?_) #[true, true, true, true, true, true, true, true, true, true, false, false, false] rfl rfl (any_of HT_.out (by kernel_rfl)) (fun _ _ _ h => h) (Or.inl ⟨by rfl, ?_⟩) ?_ ?_
                  rotate_left
                  ·intro w'
                   go_simp
                   with_reducible rfl
                  rotate_left
                  ·simp only [Act.put, List.setIfInBounds_toArray, List.set_cons_zero, List.set_cons_succ, i64_w, i32_w]
                   rfl
                  refine last_ (i := 10) (N := some 145) #[true, true, true, true, true, true, true, true, true, true, true, false, false] rfl rfl (one_of HT_.out (by kernel_rfl)) (by decide) (fun K hK => ?_)
                  refine value_ (w1 := ?_) (v := ?_) (by rfl) rfl ?_ ?_
                  rotate_left 2
                  ·go_simp
                   constructor
                   ·rfl
                   ·rfl
                  refine hK.out _ _ ?_
                  clear hK K
                  refine norm_ (a' := ?_) ?_ ?_
                  rotate_left
                  ·show Act.put _ (some 145) _ = _
                   simp only [Act.put, List.setIfInBounds_toArray, List.set_cons_zero, List.set_cons_succ, i64_w, i32_w]
                   rfl
                  refine last_ (i := 11) (N := some 146) #[true, true, true, true, true, true, true, true, true, true, true, true, false] rfl rfl (one_of HT_.out (by kernel_rfl)) (by decide) (fun K hK => ?_)
                  refine Kd.R_append_step k62 (w0 := w) w.heap.size (by rfl) (.tmp 135) (.tmp 145) 57 62 (.agg #[(.int .i64 0), (.int .i64 0), (.int .i64 0)]) 24 rfl Try.underlying57 info62 rfl (by decide) (by omega) u16 x16_5 (⟨0, rd t396 x17_4, rd t399 x18_5⟩ : S62) [.int .i64 0, .int .i64 (rd t396 x17_4), .int .i64 (rd t399 x18_5)] (fun _ => True) (fun _ => False) rfl rfl ?aP (fun _ hk => hk.elim) ?aF ?aO ?aB ?aS ?aL ?_
                  (case aP => exact k62_mkM _ _ _ (⟨0, rd t396 x17_4, rd t399 x18_5⟩ : S62))
                  (case aB => exact (by repeat (first|(with_reducible first|exact HB.out|apply lA|apply lN|apply lD)|exact HB.out)))
                  (case aF => exact (fun _ _ => trivial))
                  (case aO => exact (by (with_reducible repeat (first|apply Kd.R_alloc|apply Kd.R_drewN|apply Kd.R_drew)); exact HO_16.out))
                  (case aS => exact (below_size (by repeat (first|(with_reducible first|exact HB.out|apply lA|apply lN|apply lD)|exact HB.out))))
                  (case aL => have := LMc74.out; omega)
                  intro v432 w78 ho hb hg hat
                  rw [← Ny431.out] at ho
                  have n0_ := aM (Kd.R_over' (by (with_reducible repeat (first|apply Kd.R_alloc|apply Kd.R_drewN|apply Kd.R_drew)); exact HO_9.out) (Kd.R_typed (by (with_reducible repeat (first|apply Kd.R_alloc|apply Kd.R_drewN|apply Kd.R_drew)); exact HO_16.out)) (by decide) hg)
                  have n1_ := aM (Kd.R_over' (by (with_reducible repeat (first|apply Kd.R_alloc|apply Kd.R_drewN|apply Kd.R_drew)); exact HO_10.out) (Kd.R_typed (by (with_reducible repeat (first|apply Kd.R_alloc|apply Kd.R_drewN|apply Kd.R_drew)); exact HO_16.out)) (by decide) hg)
                  have n2_ := aM (Kd.R_over' (by (with_reducible repeat (first|apply Kd.R_alloc|apply Kd.R_drewN|apply Kd.R_drew)); exact HO_15.out) (Kd.R_typed (by (with_reducible repeat (first|apply Kd.R_alloc|apply Kd.R_drewN|apply Kd.R_drew)); exact HO_16.out)) (by decide) hg)
                  have n3_ := aM (hb)
                  have n4_ := aM (ho)
                  clear HO_9
                  clear HO_10
                  clear HO_15
                  clear HB
                  clear HO_16
                  have HO_9 := n0_
                  have HO_10 := n1_
                  have HO_15 := n2_
                  have HB := n3_
                  have HO433 := n4_
                  clear n0_ n1_ n2_ n3_ n4_
                  clear ho hb hg hat
                  refine hK.out _ _ ?_
                  clear hK K
                  refine norm_ (a' := ?_) ?_ ?_
                  rotate_left
                  ·show Act.put _ (some 146) _ = _
                   simp only [Act.put, List.setIfInBounds_toArray, List.set_cons_zero, List.set_cons_succ, i64_w, i32_w]
                   rfl
                  refine pure_ (i := 12) (N := some 16) (v := ?_) (a' := ?_) #[true, true, true, true, true, true, true, true, true, true, true, true, true] rfl rfl (any_of HT_.out (by kernel_rfl)) (fun _ _ _ h => h) (Or.inl ⟨by rfl, ?_⟩) ?_ ?_
                  rotate_left
                  ·intro w'
                   go_simp
                   with_reducible rfl
                  rotate_left
                  ·simp only [Act.put, List.setIfInBounds_toArray, List.set_cons_zero, List.set_cons_succ, i64_w, i32_w]
                   rfl
                  refine done_ (done_of HT_.out (by kernel_rfl)) ?_
                  try go_wp2
                  go_roundg k5
                  case measure => have := HJ6.out; have := HK2.out; have := HK3.out; have := HK4.out; have := HK5.out; omega
                  case rel => exact ⟨(y431), (wrap64 (x17_4 + 1)), (wrap64 (x18_5 + 1)), (wrap64 (x19_3 + 1)), (by first|rfl|(simp; done)|(simp [*]; done)), (by first|rfl|(simp; done)|(simp [*]; done)), (by first|rfl|(simp; done)|(simp [*]; done)), H', ⟨by have := HJ6.out; have := HK2.out; have := HK3.out; have := HK4.out; have := HK5.out; omega⟩, ⟨by (with_reducible repeat (first|apply Kd.R_alloc|apply Kd.R_drewN|apply Kd.R_drew)); exact HO_9.out⟩, ⟨by (with_reducible repeat (first|apply Kd.R_alloc|apply Kd.R_drewN|apply Kd.R_drew)); exact HO_10.out⟩, ⟨by (with_reducible repeat (first|apply Kd.R_alloc|apply Kd.R_drewN|apply Kd.R_drew)); exact HO_15.out⟩, ⟨by (with_reducible repeat (first|apply Kd.R_alloc|apply Kd.R_drewN|apply Kd.R_drew)); exact HO433.out⟩, ⟨by repeat (first|(with_reducible first|exact HB.out|apply lA|apply lN|apply lD)|exact HB.out)⟩⟩
                 ·rw [if_neg c69] at H
                  have c69b0 : decide (x19_3 < (wrap64 ((y416.length : Int) - 1))) = false := decide_eq_false c69
                  clear c69
                  have H' := aM H
                  clear H
                  have p424 : 0 ≤ (x19_3 : Int) := of_decide_eq_true (by first|(with_reducible assumption)|assumption)
                  have q424 : x19_3 < (y416.length : Int) := of_decide_eq_true (by first|(with_reducible assumption)|assumption)
                  obtain ⟨ad424, e424, hx424_0, hx424_1⟩ := at_T76 (Kd.R_reads' HO_15.out).2.2 x19_3 p424 q424
                  obtain rfl : ad419 = ad424 := (by injection e424)
                  replace p424 := eq_true p424
                  replace q424 := eq_true q424
                  go_wp2
                  go_roundg k5
                  case measure => have := HJ6.out; have := HK2.out; have := HK3.out; have := HK4.out; have := HK5.out; omega
                  case rel => exact ⟨(x16_5), (wrap64 (x17_4 + 1)), (wrap64 (x18_5 + 1)), (wrap64 (x19_3 + 1)), (by first|rfl|(simp; done)|(simp [*]; done)), (by first|rfl|(simp; done)|(simp [*]; done)), (by first|rfl|(simp; done)|(simp [*]; done)), H', ⟨by have := HJ6.out; have := HK2.out; have := HK3.out; have := HK4.out; have := HK5.out; omega⟩, ⟨by (with_reducible repeat (first|apply Kd.R_alloc|apply Kd.R_drewN|apply Kd.R_drew)); exact HO_9.out⟩, ⟨by (with_reducible repeat (first|apply Kd.R_alloc|apply Kd.R_drewN|apply Kd.R_drew)); exact HO_10.out⟩, ⟨by (with_reducible repeat (first|apply Kd.R_alloc|apply Kd.R_drewN|apply Kd.R_drew)); exact HO_15.out⟩, ⟨by (with_reducible repeat (first|apply Kd.R_alloc|apply Kd.R_drewN|apply Kd.R_drew)); exact HO_16.out⟩, ⟨by repeat (first|(with_reducible first|exact HB.out|apply lA|apply lN|apply lD)|exact HB.out)⟩⟩
          ·rw [if_neg c51] at H
           have c51b0 : decide (x19_3 < (y416.length : Int)) = false := decide_eq_false c51
           clear c51
           simp only [Option.some.injEq, Prod.mk.injEq] at H
           obtain ⟨rfl, rfl⟩ := H
           obtain ⟨Ao79, co79, eo79⟩ := Kd.R_slice HO_15.out
           subst eo79
           go_wp2
           go_ret2
           exact ⟨_, by first|rfl|(simp [errW_none, errW_some] <;> rfl)|(simp [*, errW_none, errW_some] <;> rfl), by (with_reducible repeat (first|apply Kd.R_alloc|apply Kd.R_drewN|apply Kd.R_drew)); exact HO_16.out, by repeat (first|(with_reducible first|exact HB.out|apply lA|apply lN|apply lD)|exact HB.out)⟩
 ·rw [if_neg c4] at H
  have c4b0 : (t389 == 0) = false := beq_eq_false_iff_ne.mpr c4
  have c4b1 : (t389 != 0) = true := bne_iff_ne.mpr c4
  simp only [Option.some.injEq, Prod.mk.injEq] at H
  obtain ⟨rfl, rfl⟩ := H
  go_enter Try.func24, Try.ntmps24
  go_wp2_with (first|((with_reducible refine gate_callee (f := 44) rfl ?_); refine goesL_ (some 22) rfl rfl Try.func44 (by kernel_rfl) rfl #[.slice A0 l0.length c0, .slice A1 l1.length c1] rfl (by (try simp only [List.map_toArray, List.map_cons, List.map_nil]); first|done|rfl|(simp only [List.length_drop, List.length_take]; rfl)) ?_; (with_reducible refine (emenderref23_both.calls k _ _ l0 _ _ l1 t389 _ ?side1 ?side2 ?side3 ?side4 A3.out).mono ?_); (case side1 => repeat (first|exact HR0.out|(with_reducible refine Kd.C_alloc ?_ _)|(with_reducible refine Kd.C_drewN ?_ _)|(with_reducible refine Kd.C_drew ?_))); (case side2 => exact HC0.out); (case side3 => repeat (first|exact HR1.out|(with_reducible refine Kd.C_alloc ?_ _)|(with_reducible refine Kd.C_drewN ?_ _)|(with_reducible refine Kd.C_drew ?_))); (case side4 => exact HC1.out); rintro e w80 ⟨rfl, hb⟩; refine ⟨_, rfl, ?_⟩; replace HB := aM (below_step (by repeat (first|(with_reducible first|exact HB.out|apply lA|apply lN|apply lD)|exact HB.out)) hb); (try clear hb); (try clear hb2); (try clear hk); (try clear hi)))
  go_ret2
  exact ⟨_, by first|rfl|(simp [errW_none, errW_some] <;> rfl)|(simp [*, errW_none, errW_some] <;> rfl), by first|exact Kd.R_nil _ _ _ _ _|exact Kd.N_nil _ _ _ _ _|exact Kd.V_nil _ _ _ _ _|exact Kd.Q_nil _ _ _ _ _|exact Kd.S_nil _ _ _ _ _, by repeat (first|(with_reducible first|exact HB.out|apply lA|apply lN|apply lD)|exact HB.out)⟩

end Go.Proofs.Ytjpmlggkhhoooaa.PDq
-- Written for this claim by a program (the kit's print, with hand-made contracts for what it does not take).
namespace Go.Proofs.Ytjpmlggkhhoooaa.PDq
open Go.RowKit Go.Proofs.YtjpmlggkhhoooaaW.PrintWords Go.Proofs.YtjpmlggkhhoooaaW.PrintLast Go.Proofs.YtjpmlggkhhoooaaW.PrintMore
attribute [local go_sem] max2_int min2_int max_two min_two max_three min_three max_four min_four   -- for this text's walks alone
set_option linter.unusedVariables false
set_option linter.unusedSimpArgs false

attribute [local go_sem high] eqA64
mutual
def emenderref23_Ends.j1 : Nat → List (S64) → List (S64) → Int → Option (Int × Int)
|0, _, _, _ => none
|k + 1, x0, x1, x6 => emenderref23_Ends.l1 k x0 x1 x6 0
def emenderref23_Ends.l1 : Nat → List (S64) → List (S64) → Int → Int → Option (Int × Int)
|0, _, _, _, _ => none
|k + 1, x0, x1, x6, x7 => if x7 < (wrap64 ((x0.length : Int) - x6)) then (if x7 < (wrap64 ((x1.length : Int) - x6)) then (if 0 ≤ (wrap64 ((wrap64 ((x0.length : Int) - 1)) - x7)) then (if (wrap64 ((wrap64 ((x0.length : Int) - 1)) - x7)) < (x0.length : Int) then (if 0 ≤ (wrap64 ((wrap64 ((x1.length : Int) - 1)) - x7)) then (if (wrap64 ((wrap64 ((x1.length : Int) - 1)) - x7)) < (x1.length : Int) then (if (((rd_T64 x0 (wrap64 ((wrap64 ((x0.length : Int) - 1)) - x7))).f0) == ((rd_T64 x1 (wrap64 ((wrap64 ((x1.length : Int) - 1)) - x7))).f0) && (((rd_T64 x0 (wrap64 ((wrap64 ((x0.length : Int) - 1)) - x7))).f1) == ((rd_T64 x1 (wrap64 ((wrap64 ((x1.length : Int) - 1)) - x7))).f1) && (((rd_T64 x0 (wrap64 ((wrap64 ((x0.length : Int) - 1)) - x7))).f2) == ((rd_T64 x1 (wrap64 ((wrap64 ((x1.length : Int) - 1)) - x7))).f2) && (((rd_T64 x0 (wrap64 ((wrap64 ((x0.length : Int) - 1)) - x7))).f3) == ((rd_T64 x1 (wrap64 ((wrap64 ((x1.length : Int) - 1)) - x7))).f3))))) = true then (emenderref23_Ends.l1 k x0 x1 x6 (wrap64 (x7 + 1))) else (some (x6, x7))) else (none)) else (none)) else (none)) else (none)) else (some (x6, x7))) else (some (x6, x7))
def emenderref23_Ends.l0 : Nat → List (S64) → List (S64) → Int → Option (Int × Int)
|0, _, _, _ => none
|k + 1, x0, x1, x6 => if x6 < (x0.length : Int) then (if x6 < (x1.length : Int) then (if 0 ≤ x6 then (if (((rd_T64 x0 x6).f0) == ((rd_T64 x1 x6).f0) && (((rd_T64 x0 x6).f1) == ((rd_T64 x1 x6).f1) && (((rd_T64 x0 x6).f2) == ((rd_T64 x1 x6).f2) && (((rd_T64 x0 x6).f3) == ((rd_T64 x1 x6).f3))))) = true then (emenderref23_Ends.l0 k x0 x1 (wrap64 (x6 + 1))) else (emenderref23_Ends.j1 k x0 x1 x6)) else (none)) else (emenderref23_Ends.j1 k x0 x1 x6)) else (emenderref23_Ends.j1 k x0 x1 x6)
end
def emenderref23_Ends.f (k : Nat) (l0 : List (S64)) (l1 : List (S64)) : Option (Int × Int) := emenderref23_Ends.l0 k l0 l1 0
theorem emenderref23_Ends.mono_l : ∀ k, (∀ y0 y1 y2, LeO (emenderref23_Ends.j1 k y0 y1 y2) (emenderref23_Ends.j1 (k + 1) y0 y1 y2)) ∧ (∀ y0 y1 y2 y3, LeO (emenderref23_Ends.l1 k y0 y1 y2 y3) (emenderref23_Ends.l1 (k + 1) y0 y1 y2 y3)) ∧ (∀ y0 y1 y2, LeO (emenderref23_Ends.l0 k y0 y1 y2) (emenderref23_Ends.l0 (k + 1) y0 y1 y2))
|0 => ⟨fun _ _ _ r h => by simp [emenderref23_Ends.j1] at h, fun _ _ _ _ r h => by simp [emenderref23_Ends.l1] at h, fun _ _ _ r h => by simp [emenderref23_Ends.l0] at h⟩
|k + 1 => by
  obtain ⟨ih0, ih1, ih2⟩ := emenderref23_Ends.mono_l k
  refine ⟨?_, ?_, ?_⟩
  ·intro y0 y1 y2
   unfold emenderref23_Ends.j1
   repeat' first
  |(with_reducible exact ih0 _ _ _)
  |(with_reducible exact ih1 _ _ _ _)
  |(with_reducible exact ih2 _ _ _)
  |(with_reducible exact LeO.refl _)
  |(with_reducible exact LeO.none _)
  |(with_reducible refine LeO.ite ?_ ?_)
  |(with_reducible refine LeO.bind ?_ (fun _ => ?_))
  |exact ih0 _ _ _
  |exact ih1 _ _ _ _
  |exact ih2 _ _ _
  |exact LeO.none _
  |refine LeO.ite ?_ ?_
  |refine LeO.bind ?_ (fun _ => ?_)
  ·intro y0 y1 y2 y3
   unfold emenderref23_Ends.l1
   repeat' first
  |(with_reducible exact ih0 _ _ _)
  |(with_reducible exact ih1 _ _ _ _)
  |(with_reducible exact ih2 _ _ _)
  |(with_reducible exact LeO.refl _)
  |(with_reducible exact LeO.none _)
  |(with_reducible refine LeO.ite ?_ ?_)
  |(with_reducible refine LeO.bind ?_ (fun _ => ?_))
  |exact ih0 _ _ _
  |exact ih1 _ _ _ _
  |exact ih2 _ _ _
  |exact LeO.none _
  |refine LeO.ite ?_ ?_
  |refine LeO.bind ?_ (fun _ => ?_)
  ·intro y0 y1 y2
   unfold emenderref23_Ends.l0
   repeat' first
  |(with_reducible exact ih0 _ _ _)
  |(with_reducible exact ih1 _ _ _ _)
  |(with_reducible exact ih2 _ _ _)
  |(with_reducible exact LeO.refl _)
  |(with_reducible exact LeO.none _)
  |(with_reducible refine LeO.ite ?_ ?_)
  |(with_reducible refine LeO.bind ?_ (fun _ => ?_))
  |exact ih0 _ _ _
  |exact ih1 _ _ _ _
  |exact ih2 _ _ _
  |exact LeO.none _
  |refine LeO.ite ?_ ?_
  |refine LeO.bind ?_ (fun _ => ?_)
theorem emenderref23_Ends.mono : ∀ a0 a1 k, LeO (emenderref23_Ends.f k a0 a1) (emenderref23_Ends.f (k + 1) a0 a1) := by
 intro a0 a1 k
 obtain ⟨ih0, ih1, ih2⟩ := emenderref23_Ends.mono_l k
 unfold emenderref23_Ends.f
 repeat' first
  |(with_reducible exact ih0 _ _ _)
  |(with_reducible exact ih1 _ _ _ _)
  |(with_reducible exact ih2 _ _ _)
  |(with_reducible exact LeO.refl _)
  |(with_reducible exact LeO.none _)
  |(with_reducible refine LeO.ite ?_ ?_)
  |(with_reducible refine LeO.bind ?_ (fun _ => ?_))
  |exact ih0 _ _ _
  |exact ih1 _ _ _ _
  |exact ih2 _ _ _
  |exact LeO.none _
  |refine LeO.ite ?_ ?_
  |refine LeO.bind ?_ (fun _ => ?_)
set_option maxHeartbeats 8000000 in
set_option maxRecDepth 100000 in
theorem emenderref23_Ends.calls (k : Nat) (A0 : Option Addr) (c0 : Nat) (l0 : List (S64)) (A1 : Option Addr) (c1 : Nat) (l1 : List (S64)) (r1 : Int) (r2 : Int) (w : World) (hr0 : Kd.C k64 w A0 l0.length l0) (hc0 : l0.length ≤ c0) (hr1 : Kd.C k64 w A1 l1.length l1) (hc1 : l1.length ≤ c1) (h : emenderref23_Ends.f k l0 l1 = some (r1, r2)) :
  Calls Try.prog 10 #[.slice A0 l0.length c0, .slice A1 l1.length c1] w fun e w' => e = .returned (.tuple #[.int .i64 r1, .int .i64 r2]) ∧ Drawn0 w w' := by
 have hu64 := Try.underlying64
 have HR0 := aM hr0
 have HC0 := aM hc0
 clear hr0 hc0
 have HR1 := aM hr1
 have HC1 := aM hc1
 clear hr1 hc1
 have H : (emenderref23_Ends.l0 k l0 l1 0) = some (r1, r2) := h
 clear h
 have HC3 := aM H
 clear H
 go_enter Try.func10, Try.ntmps10
 go_upto_block 0 with (fail)
 repeat (go_quiet (fail); go_upto_block 0 with (fail))
 go_cut [6] (fun v6 wc => ∃ (kq : Nat) (x6_2 : Int), v6 = .int .i64 x6_2 ∧ Aside0 (emenderref23_Ends.j1 kq l0 l1 x6_2 = some (r1, r2)) ∧ Aside0 (kq ≤ k) ∧ Drawn0 w wc)
 case first =>
  have H := HC3.out
  clear HC3
  have H' := aM H
  clear H
  go_wp2
  repeat (go_quiet (fail); try go_wp2)
  go_loopg [6] k (fun kq v6 w' => ∃ (x6_1 : Int), v6 = .int .i64 x6_1 ∧ Aside0 (emenderref23_Ends.l0 kq l0 l1 x6_1 = some (r1, r2)) ∧ Aside0 (kq ≤ k) ∧ Drawn0 w w')
  case atStart => exact ⟨(0), (by first|rfl|(simp; done)|(simp [*]; done)), H', ⟨Nat.le_refl _⟩, by repeat (first|exact Drawn0.refl _|apply Drawn0.step)⟩
  case round =>
   clear H'
   obtain ⟨x6_1, rfl, HA, HK1, ⟨m1, rfl⟩⟩ := hrel
   cases gk with
  |zero => exact absurd HA.out (by simp [emenderref23_Ends.l0])
  |succ k1 =>
    have H := HA.out
    clear HA
    simp only [emenderref23_Ends.l0] at H
    by_cases c4 : x6_1 < (l0.length : Int)
    ·rw [if_pos c4] at H
     have c4b0 : decide (x6_1 < (l0.length : Int)) = true := decide_eq_true c4
     clear c4
     (first|rw [c4b0]|(simp only [i64_w, i32_w]; rw [c4b0])|skip)
     by_cases c5 : x6_1 < (l1.length : Int)
     ·rw [if_pos c5] at H
      have c5b0 : decide (x6_1 < (l1.length : Int)) = true := decide_eq_true c5
      clear c5
      replace H := ifS H; obtain ⟨c6, H⟩ := H
      have c6b0 : decide (0 ≤ x6_1) = true := decide_eq_true c6
      clear c6
      by_cases c7 : (((rd_T64 l0 x6_1).f0) == ((rd_T64 l1 x6_1).f0) && (((rd_T64 l0 x6_1).f1) == ((rd_T64 l1 x6_1).f1) && (((rd_T64 l0 x6_1).f2) == ((rd_T64 l1 x6_1).f2) && (((rd_T64 l0 x6_1).f3) == ((rd_T64 l1 x6_1).f3))))) = true
      ·rw [if_pos c7] at H
       have c7b0 : (((rd_T64 l0 x6_1).f0) == ((rd_T64 l1 x6_1).f0) && (((rd_T64 l0 x6_1).f1) == ((rd_T64 l1 x6_1).f1) && (((rd_T64 l0 x6_1).f2) == ((rd_T64 l1 x6_1).f2) && (((rd_T64 l0 x6_1).f3) == ((rd_T64 l1 x6_1).f3))))) = true := c7
       (try (have c7b1 : decide (((rd_T64 l0 x6_1).f0) = ((rd_T64 l1 x6_1).f0) && (((rd_T64 l0 x6_1).f1) == ((rd_T64 l1 x6_1).f1) && (((rd_T64 l0 x6_1).f2) == ((rd_T64 l1 x6_1).f2) && (((rd_T64 l0 x6_1).f3) == ((rd_T64 l1 x6_1).f3))))) = true := by simpa using c7))
       (try (have c7b2 : (((rd_T64 l0 x6_1).f0) == ((rd_T64 l1 x6_1).f0) && (((rd_T64 l0 x6_1).f1) == ((rd_T64 l1 x6_1).f1) && (((rd_T64 l0 x6_1).f2) == ((rd_T64 l1 x6_1).f2) && (((rd_T64 l0 x6_1).f3) == ((rd_T64 l1 x6_1).f3))))) = true := by simpa using c7))
       clear c7
       have H' := aM H
       clear H
       have p434 : 0 ≤ (x6_1 : Int) := of_decide_eq_true (by first|(with_reducible assumption)|assumption)
       have q434 : x6_1 < (l0.length : Int) := of_decide_eq_true (by first|(with_reducible assumption)|assumption)
       obtain ⟨ad434, e434, hx434_0, hx434_1, hx434_2, hx434_3⟩ := at_T64 HR0.out x6_1 p434 q434
       cases e434
       replace p434 := eq_true p434
       replace q434 := eq_true q434
       have p435 : 0 ≤ (x6_1 : Int) := of_decide_eq_true (by first|(with_reducible assumption)|assumption)
       have q435 : x6_1 < (l1.length : Int) := of_decide_eq_true (by first|(with_reducible assumption)|assumption)
       obtain ⟨ad435, e435, hx435_0, hx435_1, hx435_2, hx435_3⟩ := at_T64 HR1.out x6_1 p435 q435
       cases e435
       replace p435 := eq_true p435
       replace q435 := eq_true q435
       go_wp2
       repeat (go_quiet (fail); try go_wp2)
       go_roundg k1
       case measure => have := HK1.out; omega
       case rel => exact ⟨(wrap64 (x6_1 + 1)), (by first|rfl|(simp; done)|(simp [*]; done)), H', ⟨by have := HK1.out; omega⟩, by repeat (first|exact Drawn0.refl _|apply Drawn0.step)⟩
      ·rw [if_neg c7] at H
       have c7b0 : (((rd_T64 l0 x6_1).f0) == ((rd_T64 l1 x6_1).f0) && (((rd_T64 l0 x6_1).f1) == ((rd_T64 l1 x6_1).f1) && (((rd_T64 l0 x6_1).f2) == ((rd_T64 l1 x6_1).f2) && (((rd_T64 l0 x6_1).f3) == ((rd_T64 l1 x6_1).f3))))) = false := by simpa using c7
       (try (have c7b1 : decide (((rd_T64 l0 x6_1).f0) = ((rd_T64 l1 x6_1).f0) && (((rd_T64 l0 x6_1).f1) == ((rd_T64 l1 x6_1).f1) && (((rd_T64 l0 x6_1).f2) == ((rd_T64 l1 x6_1).f2) && (((rd_T64 l0 x6_1).f3) == ((rd_T64 l1 x6_1).f3))))) = false := by simpa using c7))
       (try (have c7b2 : (((rd_T64 l0 x6_1).f0) == ((rd_T64 l1 x6_1).f0) && (((rd_T64 l0 x6_1).f1) == ((rd_T64 l1 x6_1).f1) && (((rd_T64 l0 x6_1).f2) == ((rd_T64 l1 x6_1).f2) && (((rd_T64 l0 x6_1).f3) == ((rd_T64 l1 x6_1).f3))))) = false := by simpa using c7))
       (try (have c7b3 : ¬ (((rd_T64 l0 x6_1).f0) = ((rd_T64 l1 x6_1).f0) && (((rd_T64 l0 x6_1).f1) == ((rd_T64 l1 x6_1).f1) && (((rd_T64 l0 x6_1).f2) == ((rd_T64 l1 x6_1).f2) && (((rd_T64 l0 x6_1).f3) == ((rd_T64 l1 x6_1).f3))))) := by simpa using c7))
       clear c7
       have H' := aM H
       clear H
       have p434 : 0 ≤ (x6_1 : Int) := of_decide_eq_true (by first|(with_reducible assumption)|assumption)
       have q434 : x6_1 < (l0.length : Int) := of_decide_eq_true (by first|(with_reducible assumption)|assumption)
       obtain ⟨ad434, e434, hx434_0, hx434_1, hx434_2, hx434_3⟩ := at_T64 HR0.out x6_1 p434 q434
       cases e434
       replace p434 := eq_true p434
       replace q434 := eq_true q434
       have p435 : 0 ≤ (x6_1 : Int) := of_decide_eq_true (by first|(with_reducible assumption)|assumption)
       have q435 : x6_1 < (l1.length : Int) := of_decide_eq_true (by first|(with_reducible assumption)|assumption)
       obtain ⟨ad435, e435, hx435_0, hx435_1, hx435_2, hx435_3⟩ := at_T64 HR1.out x6_1 p435 q435
       cases e435
       replace p435 := eq_true p435
       replace q435 := eq_true q435
       go_wp2
       repeat (go_quiet (fail); try go_wp2)
       go_meet
       case rel => exact ⟨_, (x6_1), (by first|rfl|(simp; done)|(simp [*]; done)), H', ⟨by have := HK1.out; first|omega|exact Nat.le_refl _⟩, by repeat (first|exact Drawn0.refl _|apply Drawn0.step)⟩
     ·rw [if_neg c5] at H
      have c5b0 : decide (x6_1 < (l1.length : Int)) = false := decide_eq_false c5
      clear c5
      have H' := aM H
      clear H
      go_wp2
      repeat (go_quiet (fail); try go_wp2)
      go_meet
      case rel => exact ⟨_, (x6_1), (by first|rfl|(simp; done)|(simp [*]; done)), H', ⟨by have := HK1.out; first|omega|exact Nat.le_refl _⟩, by repeat (first|exact Drawn0.refl _|apply Drawn0.step)⟩
    ·rw [if_neg c4] at H
     have c4b0 : decide (x6_1 < (l0.length : Int)) = false := decide_eq_false c4
     clear c4
     (first|rw [c4b0]|(simp only [i64_w, i32_w]; rw [c4b0])|skip)
     have H' := aM H
     clear H
     go_wp2
     repeat (go_quiet (fail); try go_wp2)
     go_meet
     case rel => exact ⟨_, (x6_1), (by first|rfl|(simp; done)|(simp [*]; done)), H', ⟨by have := HK1.out; first|omega|exact Nat.le_refl _⟩, by repeat (first|exact Drawn0.refl _|apply Drawn0.step)⟩
 case rest =>
  clear HC3
  obtain ⟨kq, x6_2, rfl, HA, HJ2, ⟨mc2, rfl⟩⟩ := hcut
  cases kq with
 |zero => exact absurd HA.out (by simp [emenderref23_Ends.j1])
 |succ kj2 =>
   have H := HA.out
   clear HA
   simp only [emenderref23_Ends.j1] at H
   have H' := aM H
   clear H
   go_wp2
   repeat (go_quiet (fail); try go_wp2)
   go_loopg [7] kj2 (fun kq v7 w' => ∃ (x7_2 : Int), v7 = .int .i64 x7_2 ∧ Aside0 (emenderref23_Ends.l1 kq l0 l1 x6_2 x7_2 = some (r1, r2)) ∧ Aside0 (kq ≤ kj2) ∧ Drawn0 w w')
   case atStart => exact ⟨(0), (by first|rfl|(simp; done)|(simp [*]; done)), H', ⟨Nat.le_refl _⟩, by repeat (first|exact Drawn0.refl _|apply Drawn0.step)⟩
   case round =>
    clear H'
    obtain ⟨x7_2, rfl, HA, HK2, ⟨m2, rfl⟩⟩ := hrel
    cases gk with
   |zero => exact absurd HA.out (by simp [emenderref23_Ends.l1])
   |succ k2 =>
     have H := HA.out
     clear HA
     simp only [emenderref23_Ends.l1] at H
     by_cases c8 : x7_2 < (wrap64 ((l0.length : Int) - x6_2))
     ·rw [if_pos c8] at H
      have c8b0 : decide (x7_2 < (wrap64 ((l0.length : Int) - x6_2))) = true := decide_eq_true c8
      clear c8
      by_cases c9 : x7_2 < (wrap64 ((l1.length : Int) - x6_2))
      ·rw [if_pos c9] at H
       have c9b0 : decide (x7_2 < (wrap64 ((l1.length : Int) - x6_2))) = true := decide_eq_true c9
       clear c9
       obtain ⟨ji10, hji10⟩ : ∃ j_ : Int, (wrap64 ((wrap64 ((l0.length : Int) - 1)) - x7_2)) = j_ := ⟨_, rfl⟩
       replace H : (if 0 ≤ (ji10) then (if (ji10) < (l0.length : Int) then (if 0 ≤ (wrap64 ((wrap64 ((l1.length : Int) - 1)) - x7_2)) then (if (wrap64 ((wrap64 ((l1.length : Int) - 1)) - x7_2)) < (l1.length : Int) then (if (((rd_T64 l0 (ji10)).f0) == ((rd_T64 l1 (wrap64 ((wrap64 ((l1.length : Int) - 1)) - x7_2))).f0) && (((rd_T64 l0 (ji10)).f1) == ((rd_T64 l1 (wrap64 ((wrap64 ((l1.length : Int) - 1)) - x7_2))).f1) && (((rd_T64 l0 (ji10)).f2) == ((rd_T64 l1 (wrap64 ((wrap64 ((l1.length : Int) - 1)) - x7_2))).f2) && (((rd_T64 l0 (ji10)).f3) == ((rd_T64 l1 (wrap64 ((wrap64 ((l1.length : Int) - 1)) - x7_2))).f3))))) = true then (emenderref23_Ends.l1 k2 l0 l1 x6_2 (wrap64 (x7_2 + 1))) else (some (x6_2, x7_2))) else (none)) else (none)) else (none)) else (none)) = some (r1, r2) := by first|(rw [hji10] at H; exact H)|(simp only [hji10] at H ⊢; exact H)
       have hji10w : (IntKind.i64.wrap ((wrap64 ((l0.length : Int) - 1)) - x7_2)) = ji10 := (i64_w _).trans hji10
       replace H := ifS H; obtain ⟨c11, H⟩ := H
       have c11b0 : decide (0 ≤ (ji10)) = true := decide_eq_true c11
       clear c11
       replace H := ifS H; obtain ⟨c12, H⟩ := H
       have c12b0 : decide ((ji10) < (l0.length : Int)) = true := decide_eq_true c12
       clear c12
       obtain ⟨ji13, hji13⟩ : ∃ j_ : Int, (wrap64 ((wrap64 ((l1.length : Int) - 1)) - x7_2)) = j_ := ⟨_, rfl⟩
       replace H : (if 0 ≤ (ji13) then (if (ji13) < (l1.length : Int) then (if (((rd_T64 l0 (ji10)).f0) == ((rd_T64 l1 (ji13)).f0) && (((rd_T64 l0 (ji10)).f1) == ((rd_T64 l1 (ji13)).f1) && (((rd_T64 l0 (ji10)).f2) == ((rd_T64 l1 (ji13)).f2) && (((rd_T64 l0 (ji10)).f3) == ((rd_T64 l1 (ji13)).f3))))) = true then (emenderref23_Ends.l1 k2 l0 l1 x6_2 (wrap64 (x7_2 + 1))) else (some (x6_2, x7_2))) else (none)) else (none)) = some (r1, r2) := by first|(rw [hji13] at H; exact H)|(simp only [hji13] at H ⊢; exact H)
       have hji13w : (IntKind.i64.wrap ((wrap64 ((l1.length : Int) - 1)) - x7_2)) = ji13 := (i64_w _).trans hji13
       replace H := ifS H; obtain ⟨c14, H⟩ := H
       have c14b0 : decide (0 ≤ (ji13)) = true := decide_eq_true c14
       clear c14
       replace H := ifS H; obtain ⟨c15, H⟩ := H
       have c15b0 : decide ((ji13) < (l1.length : Int)) = true := decide_eq_true c15
       clear c15
       by_cases c16 : (((rd_T64 l0 (ji10)).f0) == ((rd_T64 l1 (ji13)).f0) && (((rd_T64 l0 (ji10)).f1) == ((rd_T64 l1 (ji13)).f1) && (((rd_T64 l0 (ji10)).f2) == ((rd_T64 l1 (ji13)).f2) && (((rd_T64 l0 (ji10)).f3) == ((rd_T64 l1 (ji13)).f3))))) = true
       ·rw [if_pos c16] at H
        have c16b0 : (((rd_T64 l0 (ji10)).f0) == ((rd_T64 l1 (ji13)).f0) && (((rd_T64 l0 (ji10)).f1) == ((rd_T64 l1 (ji13)).f1) && (((rd_T64 l0 (ji10)).f2) == ((rd_T64 l1 (ji13)).f2) && (((rd_T64 l0 (ji10)).f3) == ((rd_T64 l1 (ji13)).f3))))) = true := c16
        (try (have c16b1 : decide (((rd_T64 l0 (ji10)).f0) = ((rd_T64 l1 (ji13)).f0) && (((rd_T64 l0 (ji10)).f1) == ((rd_T64 l1 (ji13)).f1) && (((rd_T64 l0 (ji10)).f2) == ((rd_T64 l1 (ji13)).f2) && (((rd_T64 l0 (ji10)).f3) == ((rd_T64 l1 (ji13)).f3))))) = true := by simpa using c16))
        (try (have c16b2 : (((rd_T64 l0 (ji10)).f0) == ((rd_T64 l1 (ji13)).f0) && (((rd_T64 l0 (ji10)).f1) == ((rd_T64 l1 (ji13)).f1) && (((rd_T64 l0 (ji10)).f2) == ((rd_T64 l1 (ji13)).f2) && (((rd_T64 l0 (ji10)).f3) == ((rd_T64 l1 (ji13)).f3))))) = true := by simpa using c16))
        clear c16
        have H' := aM H
        clear H
        have p436 : 0 ≤ ((ji10) : Int) := of_decide_eq_true (by first|(with_reducible assumption)|assumption)
        have q436 : (ji10) < (l0.length : Int) := of_decide_eq_true (by first|(with_reducible assumption)|assumption)
        obtain ⟨ad436, e436, hx436_0, hx436_1, hx436_2, hx436_3⟩ := at_T64 HR0.out (ji10) p436 q436
        cases e436
        replace p436 := eq_true p436
        replace q436 := eq_true q436
        have p437 : 0 ≤ ((ji13) : Int) := of_decide_eq_true (by first|(with_reducible assumption)|assumption)
        have q437 : (ji13) < (l1.length : Int) := of_decide_eq_true (by first|(with_reducible assumption)|assumption)
        obtain ⟨ad437, e437, hx437_0, hx437_1, hx437_2, hx437_3⟩ := at_T64 HR1.out (ji13) p437 q437
        cases e437
        replace p437 := eq_true p437
        replace q437 := eq_true q437
        go_wp2
        repeat (go_quiet (fail); try go_wp2)
        go_roundg k2
        case measure => have := HJ2.out; have := HK2.out; omega
        case rel => exact ⟨(wrap64 (x7_2 + 1)), (by first|rfl|(simp; done)|(simp [*]; done)), H', ⟨by have := HJ2.out; have := HK2.out; omega⟩, by repeat (first|exact Drawn0.refl _|apply Drawn0.step)⟩
       ·rw [if_neg c16] at H
        have c16b0 : (((rd_T64 l0 (ji10)).f0) == ((rd_T64 l1 (ji13)).f0) && (((rd_T64 l0 (ji10)).f1) == ((rd_T64 l1 (ji13)).f1) && (((rd_T64 l0 (ji10)).f2) == ((rd_T64 l1 (ji13)).f2) && (((rd_T64 l0 (ji10)).f3) == ((rd_T64 l1 (ji13)).f3))))) = false := by simpa using c16
        (try (have c16b1 : decide (((rd_T64 l0 (ji10)).f0) = ((rd_T64 l1 (ji13)).f0) && (((rd_T64 l0 (ji10)).f1) == ((rd_T64 l1 (ji13)).f1) && (((rd_T64 l0 (ji10)).f2) == ((rd_T64 l1 (ji13)).f2) && (((rd_T64 l0 (ji10)).f3) == ((rd_T64 l1 (ji13)).f3))))) = false := by simpa using c16))
        (try (have c16b2 : (((rd_T64 l0 (ji10)).f0) == ((rd_T64 l1 (ji13)).f0) && (((rd_T64 l0 (ji10)).f1) == ((rd_T64 l1 (ji13)).f1) && (((rd_T64 l0 (ji10)).f2) == ((rd_T64 l1 (ji13)).f2) && (((rd_T64 l0 (ji10)).f3) == ((rd_T64 l1 (ji13)).f3))))) = false := by simpa using c16))
        (try (have c16b3 : ¬ (((rd_T64 l0 (ji10)).f0) = ((rd_T64 l1 (ji13)).f0) && (((rd_T64 l0 (ji10)).f1) == ((rd_T64 l1 (ji13)).f1) && (((rd_T64 l0 (ji10)).f2) == ((rd_T64 l1 (ji13)).f2) && (((rd_T64 l0 (ji10)).f3) == ((rd_T64 l1 (ji13)).f3))))) := by simpa using c16))
        clear c16
        simp only [Option.some.injEq, Prod.mk.injEq] at H
        obtain ⟨rfl, rfl⟩ := H
        have p436 : 0 ≤ ((ji10) : Int) := of_decide_eq_true (by first|(with_reducible assumption)|assumption)
        have q436 : (ji10) < (l0.length : Int) := of_decide_eq_true (by first|(with_reducible assumption)|assumption)
        obtain ⟨ad436, e436, hx436_0, hx436_1, hx436_2, hx436_3⟩ := at_T64 HR0.out (ji10) p436 q436
        cases e436
        replace p436 := eq_true p436
        replace q436 := eq_true q436
        have p437 : 0 ≤ ((ji13) : Int) := of_decide_eq_true (by first|(with_reducible assumption)|assumption)
        have q437 : (ji13) < (l1.length : Int) := of_decide_eq_true (by first|(with_reducible assumption)|assumption)
        obtain ⟨ad437, e437, hx437_0, hx437_1, hx437_2, hx437_3⟩ := at_T64 HR1.out (ji13) p437 q437
        cases e437
        replace p437 := eq_true p437
        replace q437 := eq_true q437
        go_wp2
        repeat (go_quiet (fail); try go_wp2)
        go_ret2
        exact ⟨by first|rfl|(simp; done)|(simp only [← hji10, ← hji13] <;> (first|rfl|simp))|(simp [*]; done), by repeat (first|exact Drawn0.refl _|apply Drawn0.step)⟩
      ·rw [if_neg c9] at H
       have c9b0 : decide (x7_2 < (wrap64 ((l1.length : Int) - x6_2))) = false := decide_eq_false c9
       clear c9
       simp only [Option.some.injEq, Prod.mk.injEq] at H
       obtain ⟨rfl, rfl⟩ := H
       go_wp2
       repeat (go_quiet (fail); try go_wp2)
       go_ret2
       exact ⟨by first|rfl|(simp; done)|(simp [*]; done), by repeat (first|exact Drawn0.refl _|apply Drawn0.step)⟩
     ·rw [if_neg c8] at H
      have c8b0 : decide (x7_2 < (wrap64 ((l0.length : Int) - x6_2))) = false := decide_eq_false c8
      clear c8
      simp only [Option.some.injEq, Prod.mk.injEq] at H
      obtain ⟨rfl, rfl⟩ := H
      go_wp2
      repeat (go_quiet (fail); try go_wp2)
      go_ret2
      exact ⟨by first|rfl|(simp; done)|(simp [*]; done), by repeat (first|exact Drawn0.refl _|apply Drawn0.step)⟩

end Go.Proofs.Ytjpmlggkhhoooaa.PDq
-- Written for this claim by a program (the kit's print, with hand-made contracts for what it does not take).
namespace Go.Proofs.Ytjpmlggkhhoooaa.PDq
open Go.RowKit Go.Proofs.YtjpmlggkhhoooaaW.PrintWords Go.Proofs.YtjpmlggkhhoooaaW.PrintLast Go.Proofs.YtjpmlggkhhoooaaW.PrintMore
attribute [local go_sem] max2_int min2_int max_two min_two max_three min_three max_four min_four   -- for this text's walks alone
set_option linter.unusedVariables false
set_option linter.unusedSimpArgs false

def emenderref23_Patch.f (k : Nat) (l0 : List (S64)) (l1 : List (S64)) : Option (Int × Int × Int × Int × Int × Int × (List (S64)) × Int × Int) := (emenderref23_both.f k l0 l1).bind fun t439 => (if t439 = 0 then ((emenderref23_Ends.f k l0 l1).bind fun bt440 => ((some (([] : List (S64)) : List (S64))).bind fun y442 => (if 0 ≤ bt440.1 then (if bt440.1 ≤ (wrap64 ((l1.length : Int) - bt440.2)) then (if (wrap64 ((l1.length : Int) - bt440.2)) ≤ (l1.length : Int) then ((some ((l1.take ((wrap64 ((l1.length : Int) - bt440.2)) : Int).toNat).drop (bt440.1 : Int).toNat : List (S64))).bind fun y445 => (if y442.length + y445.length < 4398046511104 then (some (0, bt440.1, wrap64 ((l0.length : Int) - bt440.2), 0, 0, 0, (y442 ++ y445), 0, 0)) else (none))) else (none)) else (none)) else (none)))) else (some (0, 0, 0, 0, 0, 0, ([] : List (S64)), 0, t439)))
theorem emenderref23_Patch.mono : ∀ a0 a1 k, LeO (emenderref23_Patch.f k a0 a1) (emenderref23_Patch.f (k + 1) a0 a1) := by
 intro a0 a1 k
 unfold emenderref23_Patch.f
 repeat' first
  |(with_reducible exact emenderref23_Ends.mono _ _ _)
  |(with_reducible exact emenderref23_both.mono _ _ _)
  |(with_reducible exact LeO.refl _)
  |(with_reducible exact LeO.none _)
  |(with_reducible refine LeO.ite ?_ ?_)
  |(with_reducible refine LeO.bind ?_ (fun _ => ?_))
  |exact emenderref23_Ends.mono _ _ _
  |exact emenderref23_both.mono _ _ _
  |exact LeO.none _
  |refine LeO.ite ?_ ?_
  |refine LeO.bind ?_ (fun _ => ?_)
set_option maxHeartbeats 8000000 in
set_option maxRecDepth 100000 in
theorem emenderref23_Patch.calls (k : Nat) (A0 : Option Addr) (c0 : Nat) (l0 : List (S64)) (A1 : Option Addr) (c1 : Nat) (l1 : List (S64)) (r1 : Int) (r2 : Int) (r3 : Int) (r4 : Int) (r5 : Int) (r6 : Int) (r7 : List (S64)) (r8 : Int) (r9 : Int) (w : World) (hr0 : Kd.C k64 w A0 l0.length l0) (hc0 : l0.length ≤ c0) (hr1 : Kd.C k64 w A1 l1.length l1) (hc1 : l1.length ≤ c1) (h : emenderref23_Patch.f k l0 l1 = some (r1, r2, r3, r4, r5, r6, r7, r8, r9)) :
  Calls Try.prog 25 #[.slice A0 l0.length c0, .slice A1 l1.length c1] w fun e w' => ∃ v6_ : Value, e = .returned (.tuple #[.agg #[.int .i64 r1, .int .i64 r2, .int .i64 r3, .int .i64 r4, .int .i64 r5, .int .i64 r6, v6_, .int .i64 r8], .int .i64 r9]) ∧ Kd.R k64 64 w' w.heap.size (fun _ => True) v6_ r7 ∧ Below w.heap.size w w' := by
 have hu43 := Try.underlying43
 have HR0 := aM hr0
 have HC0 := aM hc0
 clear hr0 hc0
 have HR1 := aM hr1
 have HC1 := aM hc1
 clear hr1 hc1
 have HB := aM (Below.refl w.heap.size w)
 have H : ((emenderref23_both.f k l0 l1).bind fun t439 => (if t439 = 0 then ((emenderref23_Ends.f k l0 l1).bind fun bt440 => ((some (([] : List (S64)) : List (S64))).bind fun y442 => (if 0 ≤ bt440.1 then (if bt440.1 ≤ (wrap64 ((l1.length : Int) - bt440.2)) then (if (wrap64 ((l1.length : Int) - bt440.2)) ≤ (l1.length : Int) then ((some ((l1.take ((wrap64 ((l1.length : Int) - bt440.2)) : Int).toNat).drop (bt440.1 : Int).toNat : List (S64))).bind fun y445 => (if y442.length + y445.length < 4398046511104 then (some (0, bt440.1, wrap64 ((l0.length : Int) - bt440.2), 0, 0, 0, (y442 ++ y445), 0, 0)) else (none))) else (none)) else (none)) else (none)))) else (some (0, 0, 0, 0, 0, 0, ([] : List (S64)), 0, t439)))) = some (r1, r2, r3, r4, r5, r6, r7, r8, r9) := h
 clear h
 replace H := Option.bind_eq_some_iff.mp H
 obtain ⟨t439, A30, H⟩ := H
 replace H : (if t439 = 0 then ((emenderref23_Ends.f k l0 l1).bind fun bt440 => ((some (([] : List (S64)) : List (S64))).bind fun y442 => (if 0 ≤ bt440.1 then (if bt440.1 ≤ (wrap64 ((l1.length : Int) - bt440.2)) then (if (wrap64 ((l1.length : Int) - bt440.2)) ≤ (l1.length : Int) then ((some ((l1.take ((wrap64 ((l1.length : Int) - bt440.2)) : Int).toNat).drop (bt440.1 : Int).toNat : List (S64))).bind fun y445 => (if y442.length + y445.length < 4398046511104 then (some (0, bt440.1, wrap64 ((l0.length : Int) - bt440.2), 0, 0, 0, (y442 ++ y445), 0, 0)) else (none))) else (none)) else (none)) else (none)))) else (some (0, 0, 0, 0, 0, 0, ([] : List (S64)), 0, t439))) = some (r1, r2, r3, r4, r5, r6, r7, r8, r9) := H
 have A3 := aM A30
 clear A30
 by_cases c4 : t439 = 0
 ·rw [if_pos c4] at H
  have c4b0 : (t439 == 0) = true := beq_iff_eq.mpr c4
  have c4b1 : (t439 != 0) = false := bne_eq_false_iff_eq.mpr c4
  clear c4
  replace H := Option.bind_eq_some_iff.mp H
  obtain ⟨⟨t440, t441⟩, A50, H⟩ := H
  replace H : ((some (([] : List (S64)) : List (S64))).bind fun y442 => (if 0 ≤ t440 then (if t440 ≤ (wrap64 ((l1.length : Int) - t441)) then (if (wrap64 ((l1.length : Int) - t441)) ≤ (l1.length : Int) then ((some ((l1.take ((wrap64 ((l1.length : Int) - t441)) : Int).toNat).drop (t440 : Int).toNat : List (S64))).bind fun y445 => (if y442.length + y445.length < 4398046511104 then (some (0, t440, wrap64 ((l0.length : Int) - t441), 0, 0, 0, (y442 ++ y445), 0, 0)) else (none))) else (none)) else (none)) else (none))) = some (r1, r2, r3, r4, r5, r6, r7, r8, r9) := H
  have A5 := aM A50
  clear A50
  obtain ⟨y442, hy442⟩ : ∃ y_ : List (S64), y_ = (([] : List (S64))) := ⟨_, rfl⟩
  replace H : (if 0 ≤ t440 then (if t440 ≤ (wrap64 ((l1.length : Int) - t441)) then (if (wrap64 ((l1.length : Int) - t441)) ≤ (l1.length : Int) then ((some ((l1.take ((wrap64 ((l1.length : Int) - t441)) : Int).toNat).drop (t440 : Int).toNat : List (S64))).bind fun y445 => (if y442.length + y445.length < 4398046511104 then (some (0, t440, wrap64 ((l0.length : Int) - t441), 0, 0, 0, (y442 ++ y445), 0, 0)) else (none))) else (none)) else (none)) else (none)) = some (r1, r2, r3, r4, r5, r6, r7, r8, r9) := by first|(rw [hy442]; with_reducible exact H)|(have H2_ := (Option.bind_some _ _).symm.trans H; rw [hy442]; with_reducible exact H2_)|(have H2_ := (Option.bind_some _ _).symm.trans H; with_reducible exact H2_)|with_reducible exact H|(rw [hy442]; exact H)|exact H
  have Ny442 := aM hy442
  clear hy442
  replace H := ifS H; obtain ⟨c6, H⟩ := H
  have c6b0 := eq_true c6
  have c6b1 : decide (0 ≤ t440) = true := decide_eq_true c6
  clear c6
  replace H := ifS H; obtain ⟨c7, H⟩ := H
  have c7b0 := eq_true c7
  have c7b1 : decide (t440 ≤ (wrap64 ((l1.length : Int) - t441))) = true := decide_eq_true c7
  clear c7
  replace H := ifS H; obtain ⟨c8, H⟩ := H
  have c8b0 := eq_true c8
  have c8b1 : decide ((wrap64 ((l1.length : Int) - t441)) ≤ (l1.length : Int)) = true := decide_eq_true c8
  clear c8
  obtain ⟨y445, hy445⟩ : ∃ y_ : List (S64), y_ = ((l1.take ((wrap64 ((l1.length : Int) - t441)) : Int).toNat).drop (t440 : Int).toNat) := ⟨_, rfl⟩
  replace H : (if y442.length + y445.length < 4398046511104 then (some (0, t440, wrap64 ((l0.length : Int) - t441), 0, 0, 0, (y442 ++ y445), 0, 0)) else (none)) = some (r1, r2, r3, r4, r5, r6, r7, r8, r9) := by first|(rw [hy445]; with_reducible exact H)|(have H2_ := (Option.bind_some _ _).symm.trans H; rw [hy445]; with_reducible exact H2_)|(have H2_ := (Option.bind_some _ _).symm.trans H; with_reducible exact H2_)|with_reducible exact H|(rw [hy445]; exact H)|exact H
  have Ny445 := aM hy445
  clear hy445
  replace H := ifS H; obtain ⟨c9, H⟩ := H
  have LMc9 := aM c9
  clear c9
  obtain ⟨y449, hy449⟩ : ∃ y_ : List (S64), y_ = (y442 ++ y445) := ⟨_, rfl⟩
  replace H : (some (0, t440, wrap64 ((l0.length : Int) - t441), 0, 0, 0, y449, 0, 0)) = some (r1, r2, r3, r4, r5, r6, r7, r8, r9) := by first|(rw [hy449]; with_reducible exact H)|(have H2_ := (Option.bind_some _ _).symm.trans H; rw [hy449]; with_reducible exact H2_)|(have H2_ := (Option.bind_some _ _).symm.trans H; with_reducible exact H2_)|with_reducible exact H|(rw [hy449]; exact H)|exact H
  have Ny449 := aM hy449
  clear hy449
  simp only [Option.some.injEq, Prod.mk.injEq] at H
  obtain ⟨rfl, rfl, rfl, rfl, rfl, rfl, rfl, rfl, rfl⟩ := H
  go_enter Try.func25, Try.ntmps25
  go_wp2_with (first|((with_reducible refine gate_dst (N := 4) rfl ?_); refine box_event ?hg (N := 4) ?hd (cs := #[.int .i64 0, .int .i64 0, .int .i64 0, .int .i64 0, .int .i64 0, .int .i64 0, .slice none 0 0, .int .i64 0]) (t := 43) ?hr ?_; (case hd => rfl); (case hg => rfl); (case hr => first|(go_simp; done)|(go_simp; rfl)); intro gb438 hg w10 hbox hb; have hB_ := (by repeat (first|(with_reducible first|exact HB.out|apply lA|apply lN|apply lD)|exact HB.out) : Below w.heap.size w _); replace HB := aM (below_step hB_ hb); replace BK438 := aM (hbox); replace GW438 := aM ((bsz hg hB_)); replace GE438 := aM ((bsz hg hB_)); clear hb hbox hg hB_)|((with_reducible refine gate_callee (f := 44) rfl ?_); refine goesL_ (some 11) rfl rfl Try.func44 (by kernel_rfl) rfl #[.slice A0 l0.length c0, .slice A1 l1.length c1] rfl (by (try simp only [List.map_toArray, List.map_cons, List.map_nil]); first|done|rfl|(simp only [List.length_drop, List.length_take]; rfl)) ?_; (with_reducible refine (emenderref23_both.calls k _ _ l0 _ _ l1 t439 _ ?side1 ?side2 ?side3 ?side4 A3.out).mono ?_); (case side1 => repeat (first|exact (Kd.C_below HR0.out HB.out)|(with_reducible refine Kd.C_alloc ?_ _)|(with_reducible refine Kd.C_drewN ?_ _)|(with_reducible refine Kd.C_drew ?_))); (case side2 => exact HC0.out); (case side3 => repeat (first|exact (Kd.C_below HR1.out HB.out)|(with_reducible refine Kd.C_alloc ?_ _)|(with_reducible refine Kd.C_drewN ?_ _)|(with_reducible refine Kd.C_drew ?_))); (case side4 => exact HC1.out); rintro e w11 ⟨rfl, hb⟩; refine ⟨_, rfl, ?_⟩; replace BK438 := aM (blk_below (by (with_reducible repeat (first|refine bN ?_ _|refine bD ?_|refine bA ?_ _)); exact BK438.out) hb); replace HB := aM (below_step (by repeat (first|(with_reducible first|exact HB.out|apply lA|apply lN|apply lD|refine lS ?_ GE438.out)|exact HB.out)) hb); (try clear hb); (try clear hb2); (try clear hk); (try clear hi))|((with_reducible refine gate_callee (f := 10) rfl ?_); refine goesL_ (some 19) rfl rfl Try.func10 (by kernel_rfl) rfl #[.slice A0 l0.length c0, .slice A1 l1.length c1] rfl (by (try simp only [List.map_toArray, List.map_cons, List.map_nil]); first|done|rfl|(simp only [List.length_drop, List.length_take]; rfl)) ?_; (with_reducible refine (emenderref23_Ends.calls k _ _ l0 _ _ l1 t440 t441 _ ?side1 ?side2 ?side3 ?side4 A5.out).mono ?_); (case side1 => repeat (first|exact (Kd.C_below HR0.out HB.out)|(with_reducible refine Kd.C_alloc ?_ _)|(with_reducible refine Kd.C_drewN ?_ _)|(with_reducible refine Kd.C_drew ?_))); (case side2 => exact HC0.out); (case side3 => repeat (first|exact (Kd.C_below HR1.out HB.out)|(with_reducible refine Kd.C_alloc ?_ _)|(with_reducible refine Kd.C_drewN ?_ _)|(with_reducible refine Kd.C_drew ?_))); (case side4 => exact HC1.out); rintro e w' ⟨rfl, ⟨nd, rfl⟩⟩; refine ⟨_, rfl, ?_⟩; (try (rw [drewN_self w11]; generalize hq_ : World.drewN w11 _ = w11; have n0_ : Aside0 (w11.heap[gb438]? = some (.cells #[.int .i64 0, .int .i64 0, .int .i64 0, .int .i64 0, .int .i64 0, .int .i64 0, .slice none 0 0, .int .i64 0] 43 (0, 0))) := ⟨by rw [← hq_]; exact (by (with_reducible repeat (first|refine bN ?_ _|refine bD ?_|refine bA ?_ _)); exact BK438.out)⟩; have n1_ : Aside0 (Below w.heap.size w w11) := ⟨by rw [← hq_]; exact (by repeat (first|(with_reducible first|exact HB.out|apply lA|apply lN|apply lD|refine lS ?_ GE438.out)|exact HB.out))⟩; clear BK438 HB hq_; have BK438 := n0_; have HB := n1_; clear n0_ n1_)))|((with_reducible refine gate_dst (N := 27) rfl ?_); refine Kd.R_lit k64 _ 64 ?hg (N := 27) ?hd (xs := ([] : List (S64))) (inner := []) (ok := fun _ => True) (okp := fun _ => True) ?hr ?hp (fun _ hk => hk) trivial (Below.refl _ _) (Nat.le_refl _) (by simp) ?_; (case hd => rfl); (case hg => rfl); (case hr => first|(go_simp; done)|(go_simp; rfl)); (case hp => exact (Reps.none _ _)); intro v443 w12 ho13 hb hg_ hnew_; clear hg_ hnew_; (first|rw [← Ny442.out] at ho13|(simp only [Int.reduceToNat] at ho13; rw [← Ny442.out] at ho13)); replace HO444 := aM (Kd.R_lower ho13 (below_size (by repeat (first|(with_reducible first|exact HB.out|apply lA|apply lN|apply lD|refine lS ?_ GE438.out)|exact HB.out)))); replace BK438 := aM (blk_below (by (with_reducible repeat (first|refine bN ?_ _|refine bD ?_|refine bA ?_ _)); exact BK438.out) hb); replace HB := aM (below_step (by repeat (first|(with_reducible first|exact HB.out|apply lA|apply lN|apply lD|refine lS ?_ GE438.out)|exact HB.out)) hb); clear hb ho13; have q14 : ((wrap64 ((l1.length : Int) - t441)) : Int) ≤ ((l1.length : Int) : Int) := of_decide_eq_true (by first|(with_reducible assumption)|assumption); obtain ⟨i014, hi014, _, hsz14, _⟩ := info_parts info64; have hroom14 : l1.length ≤ c1 := HC1.out; have hC14 : Kd.C k64 _ A1 l1.length l1 := HR1.out; have ql14 : (t440 : Int) ≤ ((wrap64 ((l1.length : Int) - t441)) : Int) := of_decide_eq_true (by first|(with_reducible assumption)|assumption); have q014 : (0 : Int) ≤ (t440 : Int) := of_decide_eq_true (by first|(with_reducible assumption)|assumption); have hcut14 := cut_mid (P := Try.prog) 22 64 .i64 .i64 Try.underlying22 hi014 4 hsz14 A1 l1.length c1 t440 (wrap64 ((l1.length : Int) - t441)) q014 ql14 q14 hroom14; have hr14 := Kd.C_mid (lo := (t440 : Int).toNat) (hi := ((wrap64 ((l1.length : Int) - t441)) : Int).toNat) (c := c1) hC14 (by omega) (by omega) hroom14; obtain ⟨A14, hA14⟩ : ∃ Az_, Az_ = (if c1 = (t440 : Int).toNat then A1 else (A1 : Option Addr).map (·.add ((t440 : Int).toNat * 4))) := ⟨_, rfl⟩; obtain ⟨c14, hc14⟩ : ∃ cz_, cz_ = c1 - (t440 : Int).toNat := ⟨_, rfl⟩; have hy14 : y445.length = ((wrap64 ((l1.length : Int) - t441)) : Int).toNat - (t440 : Int).toNat := (by rw [Ny445.out, List.length_drop, List.length_take] <;> omega); rw [show ((l1).take ((wrap64 ((l1.length : Int) - t441)) : Int).toNat).drop (t440 : Int).toNat = y445 from Ny445.out.symm] at hr14; replace hr14 : Kd.C k64 _ A14 y445.length y445 := (by rw [hA14]; exact hr14); rw [← hy14, ← hA14, ← hc14] at hcut14; have HR448 := aM hr14; have HC448 := aM (show y445.length ≤ c14 from by rw [hy14, hc14]; exact Nat.sub_le_sub_right (Nat.le_trans (by omega) hroom14) _); clear hr14 hC14 hroom14 hi014 hsz14 hc14; have KY14 := aM hy14; have KA14 := aM hA14; clear hy14 hA14; replace q14 := eq_true q14)|((with_reducible refine gate_builtin (b := .append) (xs := #[.tmp 27, .tmp 34]) rfl ?_); at_builtin; refine Kd.R_append_rows k64 (w0 := w) w.heap.size rfl (.tmp 27) (.tmp 34) 22 64 (.agg #[(.int .i64 0), (.int .i64 0), (.int .i64 0), (.int .i64 0)]) 32 rfl Try.underlying22 info64 rfl (by decide) (by omega) v443 y442 y445 _ _ _ (fun _ => True) (fun _ => False) rfl rfl ?aO ?aR (fun _ _ h => h) (fun _ h => h.elim) ?aF ?aB ?aS ?aL ?_; (case aR => repeat (first|exact (Kd.C_below HR448.out HB.out)|(with_reducible refine Kd.C_alloc ?_ _)|(with_reducible refine Kd.C_drewN ?_ _)|(with_reducible refine Kd.C_drew ?_))); (case aB => exact (by repeat (first|(with_reducible first|exact HB.out|apply lA|apply lN|apply lD|refine lS ?_ GE438.out)|exact HB.out))); (case aF => exact (fun _ _ => trivial)); (case aO => exact (by (with_reducible repeat (first|apply Kd.R_alloc|apply Kd.R_drewN|apply Kd.R_drew)); exact HO444.out)); (case aS => exact (below_size (by repeat (first|(with_reducible first|exact HB.out|apply lA|apply lN|apply lD|refine lS ?_ GE438.out)|exact HB.out)))); (case aL => have := LMc9.out; omega); intro v450 w15 ho hb hg hat; rw [← Ny449.out] at ho; have n0_ := aM (blk_grown (g := gb438) (o := .cells #[.int .i64 0, .int .i64 0, .int .i64 0, .int .i64 0, .int .i64 0, .int .i64 0, .slice none 0 0, .int .i64 0] 43 (0, 0)) (by (with_reducible repeat (first|refine bN ?_ _|refine bD ?_|refine bA ?_ _)); exact BK438.out) hg (Kd.R_ne HO444.out BK438.out (by decide))); have n1_ := aM (hb); have n2_ := aM (ho); clear BK438; clear HB; clear HO444; have BK438 := n0_; have HB := n1_; have HO451 := n2_; clear n0_ n1_ n2_; clear ho hb hg hat; obtain ⟨Ao16, co16, eo16⟩ := Kd.R_slice HO451.out; subst eo16; obtain ⟨hcz17_0, hcz17_1, hcz17_2, hcz17_3, hcz17_4, hcz17_5, hcz17_6, hcz17_7, hfz17_0, hfz17_1, hfz17_2, hfz17_3, hfz17_4, hfz17_5, hfz17_6, hfz17_7⟩ := bx8z BK438.out))
  refine bodyPost_ret (results_ct rfl _ _ gb438 43 #[.int .i64 0, .int .i64 t440, .int .i64 (wrap64 ((l0.length : Int) - t441)), .int .i64 0, .int .i64 0, .int .i64 0, .slice Ao16 y449.length co16, .int .i64 0] (0, 0) _ rfl (by (with_reducible repeat (first|refine bN ?_ _|refine bD ?_|refine bA ?_ _)); apply put8; (with_reducible repeat (first|refine bN ?_ _|refine bD ?_|refine bA ?_ _)); exact BK438.out) Try.underlying43 rfl (by kernel_rfl)) rfl ?_
  exact ⟨_, by first|rfl|(simp [errW_none, errW_some] <;> rfl)|(simp [*, errW_none, errW_some] <;> rfl), by (with_reducible repeat (first|apply Kd.R_alloc|apply Kd.R_drewN|apply Kd.R_drew)); exact Kd.R_mono (Kd.Rf8 (Kd.R_types HO451.out BK438.out (by decide)) (fun _ hk => hk.2)) (fun _ hk => trivial), by repeat (first|(with_reducible first|exact HB.out|apply lA|apply lN|apply lD|refine lS ?_ GE438.out)|exact HB.out)⟩
 ·rw [if_neg c4] at H
  have c4b0 : (t439 == 0) = false := beq_eq_false_iff_ne.mpr c4
  have c4b1 : (t439 != 0) = true := bne_iff_ne.mpr c4
  simp only [Option.some.injEq, Prod.mk.injEq] at H
  obtain ⟨rfl, rfl, rfl, rfl, rfl, rfl, rfl, rfl, rfl⟩ := H
  go_enter Try.func25, Try.ntmps25
  go_wp2_with (first|((with_reducible refine gate_dst (N := 4) rfl ?_); refine box_event ?hg (N := 4) ?hd (cs := #[.int .i64 0, .int .i64 0, .int .i64 0, .int .i64 0, .int .i64 0, .int .i64 0, .slice none 0 0, .int .i64 0]) (t := 43) ?hr ?_; (case hd => rfl); (case hg => rfl); (case hr => first|(go_simp; done)|(go_simp; rfl)); intro gb438 hg w18 hbox hb; have hB_ := (by repeat (first|(with_reducible first|exact HB.out|apply lA|apply lN|apply lD)|exact HB.out) : Below w.heap.size w _); replace HB := aM (below_step hB_ hb); replace BK438 := aM (hbox); replace GW438 := aM ((bsz hg hB_)); replace GE438 := aM ((bsz hg hB_)); clear hb hbox hg hB_)|((with_reducible refine gate_callee (f := 44) rfl ?_); refine goesL_ (some 11) rfl rfl Try.func44 (by kernel_rfl) rfl #[.slice A0 l0.length c0, .slice A1 l1.length c1] rfl (by (try simp only [List.map_toArray, List.map_cons, List.map_nil]); first|done|rfl|(simp only [List.length_drop, List.length_take]; rfl)) ?_; (with_reducible refine (emenderref23_both.calls k _ _ l0 _ _ l1 t439 _ ?side1 ?side2 ?side3 ?side4 A3.out).mono ?_); (case side1 => repeat (first|exact (Kd.C_below HR0.out HB.out)|(with_reducible refine Kd.C_alloc ?_ _)|(with_reducible refine Kd.C_drewN ?_ _)|(with_reducible refine Kd.C_drew ?_))); (case side2 => exact HC0.out); (case side3 => repeat (first|exact (Kd.C_below HR1.out HB.out)|(with_reducible refine Kd.C_alloc ?_ _)|(with_reducible refine Kd.C_drewN ?_ _)|(with_reducible refine Kd.C_drew ?_))); (case side4 => exact HC1.out); rintro e w19 ⟨rfl, hb⟩; refine ⟨_, rfl, ?_⟩; replace BK438 := aM (blk_below (by (with_reducible repeat (first|refine bN ?_ _|refine bD ?_|refine bA ?_ _)); exact BK438.out) hb); replace HB := aM (below_step (by repeat (first|(with_reducible first|exact HB.out|apply lA|apply lN|apply lD|refine lS ?_ GE438.out)|exact HB.out)) hb); (try clear hb); (try clear hb2); (try clear hk); (try clear hi); obtain ⟨hcz20_0, hcz20_1, hcz20_2, hcz20_3, hcz20_4, hcz20_5, hcz20_6, hcz20_7, hfz20_0, hfz20_1, hfz20_2, hfz20_3, hfz20_4, hfz20_5, hfz20_6, hfz20_7⟩ := bx8z BK438.out))
  refine bodyPost_ret (results_ct rfl _ _ gb438 43 #[.int .i64 0, .int .i64 0, .int .i64 0, .int .i64 0, .int .i64 0, .int .i64 0, .slice none 0 0, .int .i64 0] (0, 0) _ rfl (by (with_reducible repeat (first|refine bN ?_ _|refine bD ?_|refine bA ?_ _)); apply put8; (with_reducible repeat (first|refine bN ?_ _|refine bD ?_|refine bA ?_ _)); exact BK438.out) Try.underlying43 rfl (by kernel_rfl)) rfl ?_
  exact ⟨_, by first|rfl|(simp [errW_none, errW_some] <;> rfl)|(simp [*, errW_none, errW_some] <;> rfl), by first|exact Kd.R_nil _ _ _ _ _|exact Kd.N_nil _ _ _ _ _|exact Kd.V_nil _ _ _ _ _|exact Kd.Q_nil _ _ _ _ _|exact Kd.S_nil _ _ _ _ _, by repeat (first|(with_reducible first|exact HB.out|apply lA|apply lN|apply lD|refine lS ?_ GE438.out)|exact HB.out)⟩

end Go.Proofs.Ytjpmlggkhhoooaa.PDq
