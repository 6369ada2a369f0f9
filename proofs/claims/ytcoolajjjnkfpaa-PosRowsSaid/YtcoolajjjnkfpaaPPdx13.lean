-- Written for this claim by a program (the kit's print, with hand-made contracts for what it does not take).
import Derived.Test.YtcoolajjjnkfpaaPPdx0
import Derived.Test.YtcoolajjjnkfpaaPPdx12
namespace Go.Proofs.Ytcoolajjjnkfpaa.PPd
open Go.RowKit Go.Proofs.YtcoolajjjnkfpaaW.PrintWords Go.Proofs.YtcoolajjjnkfpaaW.PrintLast Go.Proofs.YtcoolajjjnkfpaaW.PrintMore
attribute [local go_sem] max2_int min2_int max_two min_two max_three min_three max_four min_four   -- for this text's walks alone
set_option linter.unusedVariables false
set_option linter.unusedSimpArgs false

/-! ### emenderref08_Map: function 13 -/
mutual
def emenderref08_Map.j0 : Nat → List (S37) → Int → Int → Bool → Option (Int × Bool × Int × Int × Int)
 | 0, _, _, _, _ => none
 | k + 1, x0, x1, x2, x23 => if x23 = true then (some (0, false, 0, 0, 1)) else (emenderref08_Map.l0 k x0 x1 x2 0)
def emenderref08_Map.l0 : Nat → List (S37) → Int → Int → Int → Option (Int × Bool × Int × Int × Int)
 | 0, _, _, _, _ => none
 | k + 1, x0, x1, x2, x8 => if x8 < (x0.length : Int) then (if 0 ≤ x8 then (if x1 < ((rd_T37 x0 x8).f0) then (emenderref08_Map.j2 k x0 x1 x2 x8 (wrap64 (((rd_T37 x0 x8).f0) + ((rd_T37 x0 x8).f1))) true ((rd_T37 x0 x8).f0) ((rd_T37 x0 x8).f1) ((rd_T37 x0 x8).f2)) else (emenderref08_Map.j2 k x0 x1 x2 x8 (wrap64 (((rd_T37 x0 x8).f0) + ((rd_T37 x0 x8).f1))) (decide (x1 > (wrap64 (((rd_T37 x0 x8).f0) + ((rd_T37 x0 x8).f1))))) ((rd_T37 x0 x8).f0) ((rd_T37 x0 x8).f1) ((rd_T37 x0 x8).f2))) else (none)) else (emenderref08_Map.l1 k x0 x1 0)
def emenderref08_Map.j2 : Nat → List (S37) → Int → Int → Int → Int → Bool → Int → Int → Int → Option (Int × Bool × Int × Int × Int)
 | 0, _, _, _, _, _, _, _, _, _ => none
 | k + 1, x0, x1, x2, x8, x10, x48, x120000, x120001, x120002 => if x48 = true then (emenderref08_Map.l0 k x0 x1 x2 (wrap64 (x8 + 1))) else (if x120001 > 0 then (emenderref08_Map.j3 k x0 x1 x2 x8 x10 (decide (x2 < 0)) (x1 == x120000) x120000 x120001 x120002) else (emenderref08_Map.j3 k x0 x1 x2 x8 x10 (decide (x2 < 0)) false x120000 x120001 x120002))
def emenderref08_Map.j3 : Nat → List (S37) → Int → Int → Int → Int → Bool → Bool → Int → Int → Int → Option (Int × Bool × Int × Int × Int)
 | 0, _, _, _, _, _, _, _, _, _, _ => none
 | k + 1, x0, x1, x2, x8, x10, x11, x59, x120000, x120001, x120002 => if x59 = true then (emenderref08_Map.j4 k x0 x1 x2 x8 x10 true x120000 x120001 x120002) else (emenderref08_Map.j4 k x0 x1 x2 x8 x10 x11 x120000 x120001 x120002)
def emenderref08_Map.j4 : Nat → List (S37) → Int → Int → Int → Int → Bool → Int → Int → Int → Option (Int × Bool × Int × Int × Int)
 | 0, _, _, _, _, _, _, _, _, _ => none
 | k + 1, x0, x1, x2, x8, x10, x11, x120000, x120001, x120002 => if x120001 > 0 then (emenderref08_Map.j5 k x0 x1 x2 x8 x10 x11 (x1 == x10) x120000 x120001 x120002) else (emenderref08_Map.j5 k x0 x1 x2 x8 x10 x11 false x120000 x120001 x120002)
def emenderref08_Map.j5 : Nat → List (S37) → Int → Int → Int → Int → Bool → Bool → Int → Int → Int → Option (Int × Bool × Int × Int × Int)
 | 0, _, _, _, _, _, _, _, _, _, _ => none
 | k + 1, x0, x1, x2, x8, x10, x11, x67, x120000, x120001, x120002 => if x67 = true then (emenderref08_Map.j6 k x0 x1 x2 x8 x10 false x120000 x120001 x120002) else (emenderref08_Map.j6 k x0 x1 x2 x8 x10 x11 x120000 x120001 x120002)
def emenderref08_Map.j6 : Nat → List (S37) → Int → Int → Int → Int → Bool → Int → Int → Int → Option (Int × Bool × Int × Int × Int)
 | 0, _, _, _, _, _, _, _, _, _ => none
 | k + 1, x0, x1, x2, x8, x10, x11, x120000, x120001, x120002 => if x1 > x120000 then ((emenderref08_shift.f k x0 x8).bind fun t125 => (if x11 = true then (emenderref08_Map.j7 k x1 x2 x10 x120000 x120001 x120002 (wrap64 (x120000 + t125)) (decide (x1 < x10)) x8 (wrap64 (x1 - x120000))) else (emenderref08_Map.j7 k x1 x2 x10 x120000 x120001 x120002 (wrap64 ((wrap64 (x120000 + t125)) + x120002)) (decide (x1 < x10)) x8 (wrap64 (x1 - x120000))))) else ((emenderref08_shift.f k x0 x8).bind fun t129 => (if x11 = true then (emenderref08_Map.j9 k x1 x2 x10 x120000 x120001 x120002 (wrap64 (x120000 + t129)) false x8 (wrap64 (x1 - x120000))) else (emenderref08_Map.j9 k x1 x2 x10 x120000 x120001 x120002 (wrap64 ((wrap64 (x120000 + t129)) + x120002)) false x8 (wrap64 (x1 - x120000)))))
def emenderref08_Map.j7 : Nat → Int → Int → Int → Int → Int → Int → Int → Bool → Int → Int → Option (Int × Bool × Int × Int × Int)
 | 0, _, _, _, _, _, _, _, _, _, _ => none
 | k + 1, x1, x2, x10, x120000, x120001, x120002, x127000, x127001, x127002, x127003 => if x2 < 0 then (if x1 = x120000 then (emenderref08_Map.j8 k true x127000 x127001 x127002 x127003) else (if x2 ≥ 0 then (emenderref08_Map.j8 k (x1 == x10) x127000 x127001 x127002 x127003) else (emenderref08_Map.j8 k false x127000 x127001 x127002 x127003))) else (if x2 ≥ 0 then (emenderref08_Map.j8 k (x1 == x10) x127000 x127001 x127002 x127003) else (emenderref08_Map.j8 k false x127000 x127001 x127002 x127003))
def emenderref08_Map.j8 : Nat → Bool → Int → Bool → Int → Int → Option (Int × Bool × Int × Int × Int)
 | 0, _, _, _, _, _ => none
 | k + 1, x113, x127000, x127001, x127002, x127003 => if x113 = true then (some (x127000, x127001, (-1), 0, 0)) else (some (x127000, x127001, x127002, x127003, 0))
def emenderref08_Map.j9 : Nat → Int → Int → Int → Int → Int → Int → Int → Bool → Int → Int → Option (Int × Bool × Int × Int × Int)
 | 0, _, _, _, _, _, _, _, _, _, _ => none
 | k + 1, x1, x2, x10, x120000, x120001, x120002, x131000, x131001, x131002, x131003 => if x2 < 0 then (if x1 = x120000 then (emenderref08_Map.j10 k true x131000 x131001 x131002 x131003) else (if x2 ≥ 0 then (emenderref08_Map.j10 k (x1 == x10) x131000 x131001 x131002 x131003) else (emenderref08_Map.j10 k false x131000 x131001 x131002 x131003))) else (if x2 ≥ 0 then (emenderref08_Map.j10 k (x1 == x10) x131000 x131001 x131002 x131003) else (emenderref08_Map.j10 k false x131000 x131001 x131002 x131003))
def emenderref08_Map.j10 : Nat → Bool → Int → Bool → Int → Int → Option (Int × Bool × Int × Int × Int)
 | 0, _, _, _, _, _ => none
 | k + 1, x113, x131000, x131001, x131002, x131003 => if x113 = true then (some (x131000, x131001, (-1), 0, 0)) else (some (x131000, x131001, x131002, x131003, 0))
def emenderref08_Map.l1 : Nat → List (S37) → Int → Int → Option (Int × Bool × Int × Int × Int)
 | 0, _, _, _ => none
 | k + 1, x0, x1, x13 => if x13 < (x0.length : Int) then (if 0 ≤ x13 then (emenderref08_Map.j12 k x0 x1 x13 (decide (((rd_T37 x0 x13).f0) < x1))) else (none)) else (emenderref08_Map.j12 k x0 x1 x13 false)
def emenderref08_Map.j12 : Nat → List (S37) → Int → Int → Bool → Option (Int × Bool × Int × Int × Int)
 | 0, _, _, _, _ => none
 | k + 1, x0, x1, x13, x129 => if x129 = true then (emenderref08_Map.l1 k x0 x1 (wrap64 (x13 + 1))) else ((emenderref08_shift.f k x0 x13).bind fun t132 => (some (wrap64 (x1 + t132), false, (-1), 0, 0)))
end
def emenderref08_Map.f (k : Nat) (l0 : List (S37)) (a1 : Int) (a2 : Int) : Option (Int × Bool × Int × Int × Int) := (emenderref08_Right.f k l0).bind fun t117 => (if t117 = true then (if a1 < 0 then (emenderref08_Map.j0 k l0 a1 a2 true) else (emenderref08_Map.j0 k l0 a1 a2 (decide (a1 > 65536)))) else (some (0, false, 0, 0, 4)))
theorem emenderref08_Map.mono_l : ∀ k, (∀ y0 y1 y2 y3, LeO (emenderref08_Map.j0 k y0 y1 y2 y3) (emenderref08_Map.j0 (k + 1) y0 y1 y2 y3)) ∧ (∀ y0 y1 y2 y3, LeO (emenderref08_Map.l0 k y0 y1 y2 y3) (emenderref08_Map.l0 (k + 1) y0 y1 y2 y3)) ∧ (∀ y0 y1 y2 y3 y4 y5 y6 y7 y8, LeO (emenderref08_Map.j2 k y0 y1 y2 y3 y4 y5 y6 y7 y8) (emenderref08_Map.j2 (k + 1) y0 y1 y2 y3 y4 y5 y6 y7 y8)) ∧ (∀ y0 y1 y2 y3 y4 y5 y6 y7 y8 y9, LeO (emenderref08_Map.j3 k y0 y1 y2 y3 y4 y5 y6 y7 y8 y9) (emenderref08_Map.j3 (k + 1) y0 y1 y2 y3 y4 y5 y6 y7 y8 y9)) ∧ (∀ y0 y1 y2 y3 y4 y5 y6 y7 y8, LeO (emenderref08_Map.j4 k y0 y1 y2 y3 y4 y5 y6 y7 y8) (emenderref08_Map.j4 (k + 1) y0 y1 y2 y3 y4 y5 y6 y7 y8)) ∧ (∀ y0 y1 y2 y3 y4 y5 y6 y7 y8 y9, LeO (emenderref08_Map.j5 k y0 y1 y2 y3 y4 y5 y6 y7 y8 y9) (emenderref08_Map.j5 (k + 1) y0 y1 y2 y3 y4 y5 y6 y7 y8 y9)) ∧ (∀ y0 y1 y2 y3 y4 y5 y6 y7 y8, LeO (emenderref08_Map.j6 k y0 y1 y2 y3 y4 y5 y6 y7 y8) (emenderref08_Map.j6 (k + 1) y0 y1 y2 y3 y4 y5 y6 y7 y8)) ∧ (∀ y0 y1 y2 y3 y4 y5 y6 y7 y8 y9, LeO (emenderref08_Map.j7 k y0 y1 y2 y3 y4 y5 y6 y7 y8 y9) (emenderref08_Map.j7 (k + 1) y0 y1 y2 y3 y4 y5 y6 y7 y8 y9)) ∧ (∀ y0 y1 y2 y3 y4, LeO (emenderref08_Map.j8 k y0 y1 y2 y3 y4) (emenderref08_Map.j8 (k + 1) y0 y1 y2 y3 y4)) ∧ (∀ y0 y1 y2 y3 y4 y5 y6 y7 y8 y9, LeO (emenderref08_Map.j9 k y0 y1 y2 y3 y4 y5 y6 y7 y8 y9) (emenderref08_Map.j9 (k + 1) y0 y1 y2 y3 y4 y5 y6 y7 y8 y9)) ∧ (∀ y0 y1 y2 y3 y4, LeO (emenderref08_Map.j10 k y0 y1 y2 y3 y4) (emenderref08_Map.j10 (k + 1) y0 y1 y2 y3 y4)) ∧ (∀ y0 y1 y2, LeO (emenderref08_Map.l1 k y0 y1 y2) (emenderref08_Map.l1 (k + 1) y0 y1 y2)) ∧ (∀ y0 y1 y2 y3, LeO (emenderref08_Map.j12 k y0 y1 y2 y3) (emenderref08_Map.j12 (k + 1) y0 y1 y2 y3))
 | 0 => ⟨fun _ _ _ _ r h => by simp [emenderref08_Map.j0] at h, fun _ _ _ _ r h => by simp [emenderref08_Map.l0] at h, fun _ _ _ _ _ _ _ _ _ r h => by simp [emenderref08_Map.j2] at h, fun _ _ _ _ _ _ _ _ _ _ r h => by simp [emenderref08_Map.j3] at h, fun _ _ _ _ _ _ _ _ _ r h => by simp [emenderref08_Map.j4] at h, fun _ _ _ _ _ _ _ _ _ _ r h => by simp [emenderref08_Map.j5] at h, fun _ _ _ _ _ _ _ _ _ r h => by simp [emenderref08_Map.j6] at h, fun _ _ _ _ _ _ _ _ _ _ r h => by simp [emenderref08_Map.j7] at h, fun _ _ _ _ _ r h => by simp [emenderref08_Map.j8] at h, fun _ _ _ _ _ _ _ _ _ _ r h => by simp [emenderref08_Map.j9] at h, fun _ _ _ _ _ r h => by simp [emenderref08_Map.j10] at h, fun _ _ _ r h => by simp [emenderref08_Map.l1] at h, fun _ _ _ _ r h => by simp [emenderref08_Map.j12] at h⟩
 | k + 1 => by
  obtain ⟨ih0, ih1, ih2, ih3, ih4, ih5, ih6, ih7, ih8, ih9, ih10, ih11, ih12⟩ := emenderref08_Map.mono_l k
  refine ⟨?_, ?_, ?_, ?_, ?_, ?_, ?_, ?_, ?_, ?_, ?_, ?_, ?_⟩
  ·intro y0 y1 y2 y3
   unfold emenderref08_Map.j0
   repeat' first
   | (with_reducible exact ih0 _ _ _ _)
   | (with_reducible exact ih1 _ _ _ _)
   | (with_reducible exact ih2 _ _ _ _ _ _ _ _ _)
   | (with_reducible exact ih3 _ _ _ _ _ _ _ _ _ _)
   | (with_reducible exact ih4 _ _ _ _ _ _ _ _ _)
   | (with_reducible exact ih5 _ _ _ _ _ _ _ _ _ _)
   | (with_reducible exact ih6 _ _ _ _ _ _ _ _ _)
   | (with_reducible exact ih7 _ _ _ _ _ _ _ _ _ _)
   | (with_reducible exact ih8 _ _ _ _ _)
   | (with_reducible exact ih9 _ _ _ _ _ _ _ _ _ _)
   | (with_reducible exact ih10 _ _ _ _ _)
   | (with_reducible exact ih11 _ _ _)
   | (with_reducible exact ih12 _ _ _ _)
   | (with_reducible exact emenderref08_Right.mono _ _)
   | (with_reducible exact emenderref08_shift.mono _ _ _)
   | (with_reducible exact LeO.refl _)
   | (with_reducible exact LeO.none _)
   | (with_reducible refine LeO.ite ?_ ?_)
   | (with_reducible refine LeO.bind ?_ (fun _ => ?_))
   | exact ih0 _ _ _ _
   | exact ih1 _ _ _ _
   | exact ih2 _ _ _ _ _ _ _ _ _
   | exact ih3 _ _ _ _ _ _ _ _ _ _
   | exact ih4 _ _ _ _ _ _ _ _ _
   | exact ih5 _ _ _ _ _ _ _ _ _ _
   | exact ih6 _ _ _ _ _ _ _ _ _
   | exact ih7 _ _ _ _ _ _ _ _ _ _
   | exact ih8 _ _ _ _ _
   | exact ih9 _ _ _ _ _ _ _ _ _ _
   | exact ih10 _ _ _ _ _
   | exact ih11 _ _ _
   | exact ih12 _ _ _ _
   | exact emenderref08_Right.mono _ _
   | exact emenderref08_shift.mono _ _ _
   | exact LeO.none _
   | refine LeO.ite ?_ ?_
   | refine LeO.bind ?_ (fun _ => ?_)
  ·intro y0 y1 y2 y3
   unfold emenderref08_Map.l0
   repeat' first
   | (with_reducible exact ih0 _ _ _ _)
   | (with_reducible exact ih1 _ _ _ _)
   | (with_reducible exact ih2 _ _ _ _ _ _ _ _ _)
   | (with_reducible exact ih3 _ _ _ _ _ _ _ _ _ _)
   | (with_reducible exact ih4 _ _ _ _ _ _ _ _ _)
   | (with_reducible exact ih5 _ _ _ _ _ _ _ _ _ _)
   | (with_reducible exact ih6 _ _ _ _ _ _ _ _ _)
   | (with_reducible exact ih7 _ _ _ _ _ _ _ _ _ _)
   | (with_reducible exact ih8 _ _ _ _ _)
   | (with_reducible exact ih9 _ _ _ _ _ _ _ _ _ _)
   | (with_reducible exact ih10 _ _ _ _ _)
   | (with_reducible exact ih11 _ _ _)
   | (with_reducible exact ih12 _ _ _ _)
   | (with_reducible exact emenderref08_Right.mono _ _)
   | (with_reducible exact emenderref08_shift.mono _ _ _)
   | (with_reducible exact LeO.refl _)
   | (with_reducible exact LeO.none _)
   | (with_reducible refine LeO.ite ?_ ?_)
   | (with_reducible refine LeO.bind ?_ (fun _ => ?_))
   | exact ih0 _ _ _ _
   | exact ih1 _ _ _ _
   | exact ih2 _ _ _ _ _ _ _ _ _
   | exact ih3 _ _ _ _ _ _ _ _ _ _
   | exact ih4 _ _ _ _ _ _ _ _ _
   | exact ih5 _ _ _ _ _ _ _ _ _ _
   | exact ih6 _ _ _ _ _ _ _ _ _
   | exact ih7 _ _ _ _ _ _ _ _ _ _
   | exact ih8 _ _ _ _ _
   | exact ih9 _ _ _ _ _ _ _ _ _ _
   | exact ih10 _ _ _ _ _
   | exact ih11 _ _ _
   | exact ih12 _ _ _ _
   | exact emenderref08_Right.mono _ _
   | exact emenderref08_shift.mono _ _ _
   | exact LeO.none _
   | refine LeO.ite ?_ ?_
   | refine LeO.bind ?_ (fun _ => ?_)
  ·intro y0 y1 y2 y3 y4 y5 y6 y7 y8
   unfold emenderref08_Map.j2
   repeat' first
   | (with_reducible exact ih0 _ _ _ _)
   | (with_reducible exact ih1 _ _ _ _)
   | (with_reducible exact ih2 _ _ _ _ _ _ _ _ _)
   | (with_reducible exact ih3 _ _ _ _ _ _ _ _ _ _)
   | (with_reducible exact ih4 _ _ _ _ _ _ _ _ _)
   | (with_reducible exact ih5 _ _ _ _ _ _ _ _ _ _)
   | (with_reducible exact ih6 _ _ _ _ _ _ _ _ _)
   | (with_reducible exact ih7 _ _ _ _ _ _ _ _ _ _)
   | (with_reducible exact ih8 _ _ _ _ _)
   | (with_reducible exact ih9 _ _ _ _ _ _ _ _ _ _)
   | (with_reducible exact ih10 _ _ _ _ _)
   | (with_reducible exact ih11 _ _ _)
   | (with_reducible exact ih12 _ _ _ _)
   | (with_reducible exact emenderref08_Right.mono _ _)
   | (with_reducible exact emenderref08_shift.mono _ _ _)
   | (with_reducible exact LeO.refl _)
   | (with_reducible exact LeO.none _)
   | (with_reducible refine LeO.ite ?_ ?_)
   | (with_reducible refine LeO.bind ?_ (fun _ => ?_))
   | exact ih0 _ _ _ _
   | exact ih1 _ _ _ _
   | exact ih2 _ _ _ _ _ _ _ _ _
   | exact ih3 _ _ _ _ _ _ _ _ _ _
   | exact ih4 _ _ _ _ _ _ _ _ _
   | exact ih5 _ _ _ _ _ _ _ _ _ _
   | exact ih6 _ _ _ _ _ _ _ _ _
   | exact ih7 _ _ _ _ _ _ _ _ _ _
   | exact ih8 _ _ _ _ _
   | exact ih9 _ _ _ _ _ _ _ _ _ _
   | exact ih10 _ _ _ _ _
   | exact ih11 _ _ _
   | exact ih12 _ _ _ _
   | exact emenderref08_Right.mono _ _
   | exact emenderref08_shift.mono _ _ _
   | exact LeO.none _
   | refine LeO.ite ?_ ?_
   | refine LeO.bind ?_ (fun _ => ?_)
  ·intro y0 y1 y2 y3 y4 y5 y6 y7 y8 y9
   unfold emenderref08_Map.j3
   repeat' first
   | (with_reducible exact ih0 _ _ _ _)
   | (with_reducible exact ih1 _ _ _ _)
   | (with_reducible exact ih2 _ _ _ _ _ _ _ _ _)
   | (with_reducible exact ih3 _ _ _ _ _ _ _ _ _ _)
   | (with_reducible exact ih4 _ _ _ _ _ _ _ _ _)
   | (with_reducible exact ih5 _ _ _ _ _ _ _ _ _ _)
   | (with_reducible exact ih6 _ _ _ _ _ _ _ _ _)
   | (with_reducible exact ih7 _ _ _ _ _ _ _ _ _ _)
   | (with_reducible exact ih8 _ _ _ _ _)
   | (with_reducible exact ih9 _ _ _ _ _ _ _ _ _ _)
   | (with_reducible exact ih10 _ _ _ _ _)
   | (with_reducible exact ih11 _ _ _)
   | (with_reducible exact ih12 _ _ _ _)
   | (with_reducible exact emenderref08_Right.mono _ _)
   | (with_reducible exact emenderref08_shift.mono _ _ _)
   | (with_reducible exact LeO.refl _)
   | (with_reducible exact LeO.none _)
   | (with_reducible refine LeO.ite ?_ ?_)
   | (with_reducible refine LeO.bind ?_ (fun _ => ?_))
   | exact ih0 _ _ _ _
   | exact ih1 _ _ _ _
   | exact ih2 _ _ _ _ _ _ _ _ _
   | exact ih3 _ _ _ _ _ _ _ _ _ _
   | exact ih4 _ _ _ _ _ _ _ _ _
   | exact ih5 _ _ _ _ _ _ _ _ _ _
   | exact ih6 _ _ _ _ _ _ _ _ _
   | exact ih7 _ _ _ _ _ _ _ _ _ _
   | exact ih8 _ _ _ _ _
   | exact ih9 _ _ _ _ _ _ _ _ _ _
   | exact ih10 _ _ _ _ _
   | exact ih11 _ _ _
   | exact ih12 _ _ _ _
   | exact emenderref08_Right.mono _ _
   | exact emenderref08_shift.mono _ _ _
   | exact LeO.none _
   | refine LeO.ite ?_ ?_
   | refine LeO.bind ?_ (fun _ => ?_)
  ·intro y0 y1 y2 y3 y4 y5 y6 y7 y8
   unfold emenderref08_Map.j4
   repeat' first
   | (with_reducible exact ih0 _ _ _ _)
   | (with_reducible exact ih1 _ _ _ _)
   | (with_reducible exact ih2 _ _ _ _ _ _ _ _ _)
   | (with_reducible exact ih3 _ _ _ _ _ _ _ _ _ _)
   | (with_reducible exact ih4 _ _ _ _ _ _ _ _ _)
   | (with_reducible exact ih5 _ _ _ _ _ _ _ _ _ _)
   | (with_reducible exact ih6 _ _ _ _ _ _ _ _ _)
   | (with_reducible exact ih7 _ _ _ _ _ _ _ _ _ _)
   | (with_reducible exact ih8 _ _ _ _ _)
   | (with_reducible exact ih9 _ _ _ _ _ _ _ _ _ _)
   | (with_reducible exact ih10 _ _ _ _ _)
   | (with_reducible exact ih11 _ _ _)
   | (with_reducible exact ih12 _ _ _ _)
   | (with_reducible exact emenderref08_Right.mono _ _)
   | (with_reducible exact emenderref08_shift.mono _ _ _)
   | (with_reducible exact LeO.refl _)
   | (with_reducible exact LeO.none _)
   | (with_reducible refine LeO.ite ?_ ?_)
   | (with_reducible refine LeO.bind ?_ (fun _ => ?_))
   | exact ih0 _ _ _ _
   | exact ih1 _ _ _ _
   | exact ih2 _ _ _ _ _ _ _ _ _
   | exact ih3 _ _ _ _ _ _ _ _ _ _
   | exact ih4 _ _ _ _ _ _ _ _ _
   | exact ih5 _ _ _ _ _ _ _ _ _ _
   | exact ih6 _ _ _ _ _ _ _ _ _
   | exact ih7 _ _ _ _ _ _ _ _ _ _
   | exact ih8 _ _ _ _ _
   | exact ih9 _ _ _ _ _ _ _ _ _ _
   | exact ih10 _ _ _ _ _
   | exact ih11 _ _ _
   | exact ih12 _ _ _ _
   | exact emenderref08_Right.mono _ _
   | exact emenderref08_shift.mono _ _ _
   | exact LeO.none _
   | refine LeO.ite ?_ ?_
   | refine LeO.bind ?_ (fun _ => ?_)
  ·intro y0 y1 y2 y3 y4 y5 y6 y7 y8 y9
   unfold emenderref08_Map.j5
   repeat' first
   | (with_reducible exact ih0 _ _ _ _)
   | (with_reducible exact ih1 _ _ _ _)
   | (with_reducible exact ih2 _ _ _ _ _ _ _ _ _)
   | (with_reducible exact ih3 _ _ _ _ _ _ _ _ _ _)
   | (with_reducible exact ih4 _ _ _ _ _ _ _ _ _)
   | (with_reducible exact ih5 _ _ _ _ _ _ _ _ _ _)
   | (with_reducible exact ih6 _ _ _ _ _ _ _ _ _)
   | (with_reducible exact ih7 _ _ _ _ _ _ _ _ _ _)
   | (with_reducible exact ih8 _ _ _ _ _)
   | (with_reducible exact ih9 _ _ _ _ _ _ _ _ _ _)
   | (with_reducible exact ih10 _ _ _ _ _)
   | (with_reducible exact ih11 _ _ _)
   | (with_reducible exact ih12 _ _ _ _)
   | (with_reducible exact emenderref08_Right.mono _ _)
   | (with_reducible exact emenderref08_shift.mono _ _ _)
   | (with_reducible exact LeO.refl _)
   | (with_reducible exact LeO.none _)
   | (with_reducible refine LeO.ite ?_ ?_)
   | (with_reducible refine LeO.bind ?_ (fun _ => ?_))
   | exact ih0 _ _ _ _
   | exact ih1 _ _ _ _
   | exact ih2 _ _ _ _ _ _ _ _ _
   | exact ih3 _ _ _ _ _ _ _ _ _ _
   | exact ih4 _ _ _ _ _ _ _ _ _
   | exact ih5 _ _ _ _ _ _ _ _ _ _
   | exact ih6 _ _ _ _ _ _ _ _ _
   | exact ih7 _ _ _ _ _ _ _ _ _ _
   | exact ih8 _ _ _ _ _
   | exact ih9 _ _ _ _ _ _ _ _ _ _
   | exact ih10 _ _ _ _ _
   | exact ih11 _ _ _
   | exact ih12 _ _ _ _
   | exact emenderref08_Right.mono _ _
   | exact emenderref08_shift.mono _ _ _
   | exact LeO.none _
   | refine LeO.ite ?_ ?_
   | refine LeO.bind ?_ (fun _ => ?_)
  ·intro y0 y1 y2 y3 y4 y5 y6 y7 y8
   unfold emenderref08_Map.j6
   repeat' first
   | (with_reducible exact ih0 _ _ _ _)
   | (with_reducible exact ih1 _ _ _ _)
   | (with_reducible exact ih2 _ _ _ _ _ _ _ _ _)
   | (with_reducible exact ih3 _ _ _ _ _ _ _ _ _ _)
   | (with_reducible exact ih4 _ _ _ _ _ _ _ _ _)
   | (with_reducible exact ih5 _ _ _ _ _ _ _ _ _ _)
   | (with_reducible exact ih6 _ _ _ _ _ _ _ _ _)
   | (with_reducible exact ih7 _ _ _ _ _ _ _ _ _ _)
   | (with_reducible exact ih8 _ _ _ _ _)
   | (with_reducible exact ih9 _ _ _ _ _ _ _ _ _ _)
   | (with_reducible exact ih10 _ _ _ _ _)
   | (with_reducible exact ih11 _ _ _)
   | (with_reducible exact ih12 _ _ _ _)
   | (with_reducible exact emenderref08_Right.mono _ _)
   | (with_reducible exact emenderref08_shift.mono _ _ _)
   | (with_reducible exact LeO.refl _)
   | (with_reducible exact LeO.none _)
   | (with_reducible refine LeO.ite ?_ ?_)
   | (with_reducible refine LeO.bind ?_ (fun _ => ?_))
   | exact ih0 _ _ _ _
   | exact ih1 _ _ _ _
   | exact ih2 _ _ _ _ _ _ _ _ _
   | exact ih3 _ _ _ _ _ _ _ _ _ _
   | exact ih4 _ _ _ _ _ _ _ _ _
   | exact ih5 _ _ _ _ _ _ _ _ _ _
   | exact ih6 _ _ _ _ _ _ _ _ _
   | exact ih7 _ _ _ _ _ _ _ _ _ _
   | exact ih8 _ _ _ _ _
   | exact ih9 _ _ _ _ _ _ _ _ _ _
   | exact ih10 _ _ _ _ _
   | exact ih11 _ _ _
   | exact ih12 _ _ _ _
   | exact emenderref08_Right.mono _ _
   | exact emenderref08_shift.mono _ _ _
   | exact LeO.none _
   | refine LeO.ite ?_ ?_
   | refine LeO.bind ?_ (fun _ => ?_)
  ·intro y0 y1 y2 y3 y4 y5 y6 y7 y8 y9
   unfold emenderref08_Map.j7
   repeat' first
   | (with_reducible exact ih0 _ _ _ _)
   | (with_reducible exact ih1 _ _ _ _)
   | (with_reducible exact ih2 _ _ _ _ _ _ _ _ _)
   | (with_reducible exact ih3 _ _ _ _ _ _ _ _ _ _)
   | (with_reducible exact ih4 _ _ _ _ _ _ _ _ _)
   | (with_reducible exact ih5 _ _ _ _ _ _ _ _ _ _)
   | (with_reducible exact ih6 _ _ _ _ _ _ _ _ _)
   | (with_reducible exact ih7 _ _ _ _ _ _ _ _ _ _)
   | (with_reducible exact ih8 _ _ _ _ _)
   | (with_reducible exact ih9 _ _ _ _ _ _ _ _ _ _)
   | (with_reducible exact ih10 _ _ _ _ _)
   | (with_reducible exact ih11 _ _ _)
   | (with_reducible exact ih12 _ _ _ _)
   | (with_reducible exact emenderref08_Right.mono _ _)
   | (with_reducible exact emenderref08_shift.mono _ _ _)
   | (with_reducible exact LeO.refl _)
   | (with_reducible exact LeO.none _)
   | (with_reducible refine LeO.ite ?_ ?_)
   | (with_reducible refine LeO.bind ?_ (fun _ => ?_))
   | exact ih0 _ _ _ _
   | exact ih1 _ _ _ _
   | exact ih2 _ _ _ _ _ _ _ _ _
   | exact ih3 _ _ _ _ _ _ _ _ _ _
   | exact ih4 _ _ _ _ _ _ _ _ _
   | exact ih5 _ _ _ _ _ _ _ _ _ _
   | exact ih6 _ _ _ _ _ _ _ _ _
   | exact ih7 _ _ _ _ _ _ _ _ _ _
   | exact ih8 _ _ _ _ _
   | exact ih9 _ _ _ _ _ _ _ _ _ _
   | exact ih10 _ _ _ _ _
   | exact ih11 _ _ _
   | exact ih12 _ _ _ _
   | exact emenderref08_Right.mono _ _
   | exact emenderref08_shift.mono _ _ _
   | exact LeO.none _
   | refine LeO.ite ?_ ?_
   | refine LeO.bind ?_ (fun _ => ?_)
  ·intro y0 y1 y2 y3 y4
   unfold emenderref08_Map.j8
   repeat' first
   | (with_reducible exact ih0 _ _ _ _)
   | (with_reducible exact ih1 _ _ _ _)
   | (with_reducible exact ih2 _ _ _ _ _ _ _ _ _)
   | (with_reducible exact ih3 _ _ _ _ _ _ _ _ _ _)
   | (with_reducible exact ih4 _ _ _ _ _ _ _ _ _)
   | (with_reducible exact ih5 _ _ _ _ _ _ _ _ _ _)
   | (with_reducible exact ih6 _ _ _ _ _ _ _ _ _)
   | (with_reducible exact ih7 _ _ _ _ _ _ _ _ _ _)
   | (with_reducible exact ih8 _ _ _ _ _)
   | (with_reducible exact ih9 _ _ _ _ _ _ _ _ _ _)
   | (with_reducible exact ih10 _ _ _ _ _)
   | (with_reducible exact ih11 _ _ _)
   | (with_reducible exact ih12 _ _ _ _)
   | (with_reducible exact emenderref08_Right.mono _ _)
   | (with_reducible exact emenderref08_shift.mono _ _ _)
   | (with_reducible exact LeO.refl _)
   | (with_reducible exact LeO.none _)
   | (with_reducible refine LeO.ite ?_ ?_)
   | (with_reducible refine LeO.bind ?_ (fun _ => ?_))
   | exact ih0 _ _ _ _
   | exact ih1 _ _ _ _
   | exact ih2 _ _ _ _ _ _ _ _ _
   | exact ih3 _ _ _ _ _ _ _ _ _ _
   | exact ih4 _ _ _ _ _ _ _ _ _
   | exact ih5 _ _ _ _ _ _ _ _ _ _
   | exact ih6 _ _ _ _ _ _ _ _ _
   | exact ih7 _ _ _ _ _ _ _ _ _ _
   | exact ih8 _ _ _ _ _
   | exact ih9 _ _ _ _ _ _ _ _ _ _
   | exact ih10 _ _ _ _ _
   | exact ih11 _ _ _
   | exact ih12 _ _ _ _
   | exact emenderref08_Right.mono _ _
   | exact emenderref08_shift.mono _ _ _
   | exact LeO.none _
   | refine LeO.ite ?_ ?_
   | refine LeO.bind ?_ (fun _ => ?_)
  ·intro y0 y1 y2 y3 y4 y5 y6 y7 y8 y9
   unfold emenderref08_Map.j9
   repeat' first
   | (with_reducible exact ih0 _ _ _ _)
   | (with_reducible exact ih1 _ _ _ _)
   | (with_reducible exact ih2 _ _ _ _ _ _ _ _ _)
   | (with_reducible exact ih3 _ _ _ _ _ _ _ _ _ _)
   | (with_reducible exact ih4 _ _ _ _ _ _ _ _ _)
   | (with_reducible exact ih5 _ _ _ _ _ _ _ _ _ _)
   | (with_reducible exact ih6 _ _ _ _ _ _ _ _ _)
   | (with_reducible exact ih7 _ _ _ _ _ _ _ _ _ _)
   | (with_reducible exact ih8 _ _ _ _ _)
   | (with_reducible exact ih9 _ _ _ _ _ _ _ _ _ _)
   | (with_reducible exact ih10 _ _ _ _ _)
   | (with_reducible exact ih11 _ _ _)
   | (with_reducible exact ih12 _ _ _ _)
   | (with_reducible exact emenderref08_Right.mono _ _)
   | (with_reducible exact emenderref08_shift.mono _ _ _)
   | (with_reducible exact LeO.refl _)
   | (with_reducible exact LeO.none _)
   | (with_reducible refine LeO.ite ?_ ?_)
   | (with_reducible refine LeO.bind ?_ (fun _ => ?_))
   | exact ih0 _ _ _ _
   | exact ih1 _ _ _ _
   | exact ih2 _ _ _ _ _ _ _ _ _
   | exact ih3 _ _ _ _ _ _ _ _ _ _
   | exact ih4 _ _ _ _ _ _ _ _ _
   | exact ih5 _ _ _ _ _ _ _ _ _ _
   | exact ih6 _ _ _ _ _ _ _ _ _
   | exact ih7 _ _ _ _ _ _ _ _ _ _
   | exact ih8 _ _ _ _ _
   | exact ih9 _ _ _ _ _ _ _ _ _ _
   | exact ih10 _ _ _ _ _
   | exact ih11 _ _ _
   | exact ih12 _ _ _ _
   | exact emenderref08_Right.mono _ _
   | exact emenderref08_shift.mono _ _ _
   | exact LeO.none _
   | refine LeO.ite ?_ ?_
   | refine LeO.bind ?_ (fun _ => ?_)
  ·intro y0 y1 y2 y3 y4
   unfold emenderref08_Map.j10
   repeat' first
   | (with_reducible exact ih0 _ _ _ _)
   | (with_reducible exact ih1 _ _ _ _)
   | (with_reducible exact ih2 _ _ _ _ _ _ _ _ _)
   | (with_reducible exact ih3 _ _ _ _ _ _ _ _ _ _)
   | (with_reducible exact ih4 _ _ _ _ _ _ _ _ _)
   | (with_reducible exact ih5 _ _ _ _ _ _ _ _ _ _)
   | (with_reducible exact ih6 _ _ _ _ _ _ _ _ _)
   | (with_reducible exact ih7 _ _ _ _ _ _ _ _ _ _)
   | (with_reducible exact ih8 _ _ _ _ _)
   | (with_reducible exact ih9 _ _ _ _ _ _ _ _ _ _)
   | (with_reducible exact ih10 _ _ _ _ _)
   | (with_reducible exact ih11 _ _ _)
   | (with_reducible exact ih12 _ _ _ _)
   | (with_reducible exact emenderref08_Right.mono _ _)
   | (with_reducible exact emenderref08_shift.mono _ _ _)
   | (with_reducible exact LeO.refl _)
   | (with_reducible exact LeO.none _)
   | (with_reducible refine LeO.ite ?_ ?_)
   | (with_reducible refine LeO.bind ?_ (fun _ => ?_))
   | exact ih0 _ _ _ _
   | exact ih1 _ _ _ _
   | exact ih2 _ _ _ _ _ _ _ _ _
   | exact ih3 _ _ _ _ _ _ _ _ _ _
   | exact ih4 _ _ _ _ _ _ _ _ _
   | exact ih5 _ _ _ _ _ _ _ _ _ _
   | exact ih6 _ _ _ _ _ _ _ _ _
   | exact ih7 _ _ _ _ _ _ _ _ _ _
   | exact ih8 _ _ _ _ _
   | exact ih9 _ _ _ _ _ _ _ _ _ _
   | exact ih10 _ _ _ _ _
   | exact ih11 _ _ _
   | exact ih12 _ _ _ _
   | exact emenderref08_Right.mono _ _
   | exact emenderref08_shift.mono _ _ _
   | exact LeO.none _
   | refine LeO.ite ?_ ?_
   | refine LeO.bind ?_ (fun _ => ?_)
  ·intro y0 y1 y2
   unfold emenderref08_Map.l1
   repeat' first
   | (with_reducible exact ih0 _ _ _ _)
   | (with_reducible exact ih1 _ _ _ _)
   | (with_reducible exact ih2 _ _ _ _ _ _ _ _ _)
   | (with_reducible exact ih3 _ _ _ _ _ _ _ _ _ _)
   | (with_reducible exact ih4 _ _ _ _ _ _ _ _ _)
   | (with_reducible exact ih5 _ _ _ _ _ _ _ _ _ _)
   | (with_reducible exact ih6 _ _ _ _ _ _ _ _ _)
   | (with_reducible exact ih7 _ _ _ _ _ _ _ _ _ _)
   | (with_reducible exact ih8 _ _ _ _ _)
   | (with_reducible exact ih9 _ _ _ _ _ _ _ _ _ _)
   | (with_reducible exact ih10 _ _ _ _ _)
   | (with_reducible exact ih11 _ _ _)
   | (with_reducible exact ih12 _ _ _ _)
   | (with_reducible exact emenderref08_Right.mono _ _)
   | (with_reducible exact emenderref08_shift.mono _ _ _)
   | (with_reducible exact LeO.refl _)
   | (with_reducible exact LeO.none _)
   | (with_reducible refine LeO.ite ?_ ?_)
   | (with_reducible refine LeO.bind ?_ (fun _ => ?_))
   | exact ih0 _ _ _ _
   | exact ih1 _ _ _ _
   | exact ih2 _ _ _ _ _ _ _ _ _
   | exact ih3 _ _ _ _ _ _ _ _ _ _
   | exact ih4 _ _ _ _ _ _ _ _ _
   | exact ih5 _ _ _ _ _ _ _ _ _ _
   | exact ih6 _ _ _ _ _ _ _ _ _
   | exact ih7 _ _ _ _ _ _ _ _ _ _
   | exact ih8 _ _ _ _ _
   | exact ih9 _ _ _ _ _ _ _ _ _ _
   | exact ih10 _ _ _ _ _
   | exact ih11 _ _ _
   | exact ih12 _ _ _ _
   | exact emenderref08_Right.mono _ _
   | exact emenderref08_shift.mono _ _ _
   | exact LeO.none _
   | refine LeO.ite ?_ ?_
   | refine LeO.bind ?_ (fun _ => ?_)
  ·intro y0 y1 y2 y3
   unfold emenderref08_Map.j12
   repeat' first
   | (with_reducible exact ih0 _ _ _ _)
   | (with_reducible exact ih1 _ _ _ _)
   | (with_reducible exact ih2 _ _ _ _ _ _ _ _ _)
   | (with_reducible exact ih3 _ _ _ _ _ _ _ _ _ _)
   | (with_reducible exact ih4 _ _ _ _ _ _ _ _ _)
   | (with_reducible exact ih5 _ _ _ _ _ _ _ _ _ _)
   | (with_reducible exact ih6 _ _ _ _ _ _ _ _ _)
   | (with_reducible exact ih7 _ _ _ _ _ _ _ _ _ _)
   | (with_reducible exact ih8 _ _ _ _ _)
   | (with_reducible exact ih9 _ _ _ _ _ _ _ _ _ _)
   | (with_reducible exact ih10 _ _ _ _ _)
   | (with_reducible exact ih11 _ _ _)
   | (with_reducible exact ih12 _ _ _ _)
   | (with_reducible exact emenderref08_Right.mono _ _)
   | (with_reducible exact emenderref08_shift.mono _ _ _)
   | (with_reducible exact LeO.refl _)
   | (with_reducible exact LeO.none _)
   | (with_reducible refine LeO.ite ?_ ?_)
   | (with_reducible refine LeO.bind ?_ (fun _ => ?_))
   | exact ih0 _ _ _ _
   | exact ih1 _ _ _ _
   | exact ih2 _ _ _ _ _ _ _ _ _
   | exact ih3 _ _ _ _ _ _ _ _ _ _
   | exact ih4 _ _ _ _ _ _ _ _ _
   | exact ih5 _ _ _ _ _ _ _ _ _ _
   | exact ih6 _ _ _ _ _ _ _ _ _
   | exact ih7 _ _ _ _ _ _ _ _ _ _
   | exact ih8 _ _ _ _ _
   | exact ih9 _ _ _ _ _ _ _ _ _ _
   | exact ih10 _ _ _ _ _
   | exact ih11 _ _ _
   | exact ih12 _ _ _ _
   | exact emenderref08_Right.mono _ _
   | exact emenderref08_shift.mono _ _ _
   | exact LeO.none _
   | refine LeO.ite ?_ ?_
   | refine LeO.bind ?_ (fun _ => ?_)
theorem emenderref08_Map.mono : ∀ a0 a1 a2 k, LeO (emenderref08_Map.f k a0 a1 a2) (emenderref08_Map.f (k + 1) a0 a1 a2) := by
 intro a0 a1 a2 k
 obtain ⟨ih0, ih1, ih2, ih3, ih4, ih5, ih6, ih7, ih8, ih9, ih10, ih11, ih12⟩ := emenderref08_Map.mono_l k
 unfold emenderref08_Map.f
 repeat' first
   | (with_reducible exact ih0 _ _ _ _)
   | (with_reducible exact ih1 _ _ _ _)
   | (with_reducible exact ih2 _ _ _ _ _ _ _ _ _)
   | (with_reducible exact ih3 _ _ _ _ _ _ _ _ _ _)
   | (with_reducible exact ih4 _ _ _ _ _ _ _ _ _)
   | (with_reducible exact ih5 _ _ _ _ _ _ _ _ _ _)
   | (with_reducible exact ih6 _ _ _ _ _ _ _ _ _)
   | (with_reducible exact ih7 _ _ _ _ _ _ _ _ _ _)
   | (with_reducible exact ih8 _ _ _ _ _)
   | (with_reducible exact ih9 _ _ _ _ _ _ _ _ _ _)
   | (with_reducible exact ih10 _ _ _ _ _)
   | (with_reducible exact ih11 _ _ _)
   | (with_reducible exact ih12 _ _ _ _)
   | (with_reducible exact emenderref08_Right.mono _ _)
   | (with_reducible exact emenderref08_shift.mono _ _ _)
   | (with_reducible exact LeO.refl _)
   | (with_reducible exact LeO.none _)
   | (with_reducible refine LeO.ite ?_ ?_)
   | (with_reducible refine LeO.bind ?_ (fun _ => ?_))
   | exact ih0 _ _ _ _
   | exact ih1 _ _ _ _
   | exact ih2 _ _ _ _ _ _ _ _ _
   | exact ih3 _ _ _ _ _ _ _ _ _ _
   | exact ih4 _ _ _ _ _ _ _ _ _
   | exact ih5 _ _ _ _ _ _ _ _ _ _
   | exact ih6 _ _ _ _ _ _ _ _ _
   | exact ih7 _ _ _ _ _ _ _ _ _ _
   | exact ih8 _ _ _ _ _
   | exact ih9 _ _ _ _ _ _ _ _ _ _
   | exact ih10 _ _ _ _ _
   | exact ih11 _ _ _
   | exact ih12 _ _ _ _
   | exact emenderref08_Right.mono _ _
   | exact emenderref08_shift.mono _ _ _
   | exact LeO.none _
   | refine LeO.ite ?_ ?_
   | refine LeO.bind ?_ (fun _ => ?_)
def emenderref08_Map.T16 : Bool × List (List Nat × List Nat) := (true, [([], []), ([0], [0]), ([], []), ([], []), ([2, 3], [2, 3]), ([1, 4], [1, 4]), ([], []), ([], []), ([7], [7]), ([6, 8], [6, 8]), ([9, 4], [9]), ([10], [10]), ([10], [10]), ([11, 12, 10], [10, 11, 12]), ([10, 13], [10, 13]), ([], []), ([], []), ([], []), ([17], [17]), ([16, 18], [16, 18]), ([5, 14, 15, 19], [5, 14, 15, 19]), ([], []), ([21, 20, 10, 0, 1, 2, 3, 4, 5, 6, 7, 8, 9, 10, 11, 12, 13, 14, 15, 16, 17, 18, 19, 20, 21], [20, 21])])
def emenderref08_Map.B16 : List Nat := [0, 1, 0, 0, 12, 31, 0, 0, 128, 448, 988, 2012, 2012, 8156, 16348, 0, 0, 0, 131072, 458752, 1048575, 0, 4194303]
theorem emenderref08_Map.tab16 : rtab .any (opsOf Try.f13 16) = emenderref08_Map.T16 := by kernel_rfl
theorem emenderref08_Map.bits16 : waitsOk emenderref08_Map.T16.2 emenderref08_Map.B16 = true := by kernel_rfl
set_option maxHeartbeats 8000000 in
set_option maxRecDepth 100000 in
theorem emenderref08_Map.calls (k : Nat) (A0 : Option Addr) (c0 : Nat) (l0 : List (S37)) (a1 : Int) (a2 : Int) (r1 : Int) (r2 : Bool) (r3 : Int) (r4 : Int) (r5 : Int) (w : World) (hr0 : Kd.C k37 w A0 l0.length l0) (hc0 : l0.length ≤ c0) (h : emenderref08_Map.f k l0 a1 a2 = some (r1, r2, r3, r4, r5)) :
  Calls Try.prog 13 #[.slice A0 l0.length c0, .int .i64 a1, .int .i64 a2] w fun e w' => e = .returned (.tuple #[.agg #[.int .i64 r1, .bool r2, .int .i64 r3, .int .i64 r4], .int .i64 r5]) ∧ Below w.heap.size w w' := by
 have hu24 := Try.underlying24
 have hu37 := Try.underlying37
 have HR0 := Aside0.mk hr0
 have HC0 := Aside0.mk hc0
 clear hr0 hc0
 have HB := Aside0.mk (Below.refl w.heap.size w)
 have H : ((emenderref08_Right.f k l0).bind fun t117 => (if t117 = true then (if a1 < 0 then (emenderref08_Map.j0 k l0 a1 a2 true) else (emenderref08_Map.j0 k l0 a1 a2 (decide (a1 > 65536)))) else (some (0, false, 0, 0, 4)))) = some (r1, r2, r3, r4, r5) := h
 clear h
 replace H := Option.bind_eq_some_iff.mp H
 obtain ⟨t117, A40, H⟩ := H
 replace H : (if t117 = true then (if a1 < 0 then (emenderref08_Map.j0 k l0 a1 a2 true) else (emenderref08_Map.j0 k l0 a1 a2 (decide (a1 > 65536)))) else (some (0, false, 0, 0, 4))) = some (r1, r2, r3, r4, r5) := H
 have A4 := Aside0.mk A40
 clear A40
 by_cases c5 : t117 = true
 ·subst c5
  have H1 : (if a1 < 0 then (emenderref08_Map.j0 k l0 a1 a2 true) else (emenderref08_Map.j0 k l0 a1 a2 (decide (a1 > 65536)))) = some (r1, r2, r3, r4, r5) := by rw [if_pos rfl] at H; exact H
  clear H
  have H := H1
  clear H1
  have HC6 := Aside0.mk H
  clear H
  go_enter Try.func13, Try.ntmps13
  go_upto_region 3 with (first | ((with_reducible refine gate_dst (N := 6) rfl ?_); refine box_event ?hg (N := 6) ?hd (cs := #[.int .i64 0, .bool false, .int .i64 0, .int .i64 0]) (t := 24) ?hr ?_; (case hd => rfl); (case hg => rfl); (case hr => first | (go_simp; done) | (go_simp; rfl)); intro gb116 hg w7 hbox hb; have n0_ := Aside0.mk (below_step (by repeat (first | (with_reducible first | exact HB.out | apply below_alloc | apply pw_below_drewN | apply below_drew1) | exact HB.out)) hb); have n1_ := Aside0.mk (hbox); have n2_ := Aside0.mk ((by rw [hg]; exact (below_size (by repeat (first | (with_reducible first | exact HB.out | apply below_alloc | apply pw_below_drewN | apply below_drew1) | exact HB.out))) : w.heap.size ≤ gb116)); have n3_ := Aside0.mk ((by rw [hg]; exact (below_size (by repeat (first | (with_reducible first | exact HB.out | apply below_alloc | apply pw_below_drewN | apply below_drew1) | exact HB.out))) : w.heap.size ≤ gb116)); clear HB; have HB := n0_; have BK116 := n1_; have GW116 := n2_; have GE116 := n3_; clear n0_ n1_ n2_ n3_; clear hb hbox hg) | ((with_reducible refine gate_callee (f := 15) rfl ?_); refine goesL_ (some 15) rfl rfl Try.func15 (by kernel_rfl) rfl #[.slice A0 l0.length c0] rfl (by (try simp only [List.map_toArray, List.map_cons, List.map_nil]); first | done | rfl | (simp only [List.length_drop, List.length_take]; rfl)) ?_; (with_reducible refine (emenderref08_Right.calls k _ _ l0 true _ ?side1 ?side2 A4.out).mono ?_); (case side1 => repeat (first | exact (Kd.C_below HR0.out HB.out) | (with_reducible refine Kd.C_alloc ?_ _) | (with_reducible refine Kd.C_drewN ?_ _) | (with_reducible refine Kd.C_drew ?_))); (case side2 => exact HC0.out); rintro e w8 ⟨rfl, hb⟩; refine ⟨_, rfl, ?_⟩; have n0_ := Aside0.mk (blk_below (g := gb116) (o := .cells #[.int .i64 0, .bool false, .int .i64 0, .int .i64 0] 24 (0, 0)) (by (with_reducible repeat (first | refine blk_drewN ?_ _ | refine blk_drew ?_ | refine blk_alloc ?_ _)); exact BK116.out) hb); have n1_ := Aside0.mk (below_step (by repeat (first | (with_reducible first | exact HB.out | apply below_alloc | apply pw_below_drewN | apply below_drew1 | refine below_set ?_ GE116.out) | exact HB.out)) hb); clear BK116; clear HB; have BK116 := n0_; have HB := n1_; clear n0_ n1_; (try clear hb); (try clear hb2); (try clear hk); (try clear hi)))
  (try simp only [Act.put, List.setIfInBounds_toArray, List.set_cons_zero, List.set_cons_succ])
  go_cut [23] (fun v23 wc => ∃ (kq : Nat) (x23_5 : Bool), v23 = .bool x23_5 ∧ Aside0 (emenderref08_Map.j0 kq l0 a1 a2 x23_5 = some (r1, r2, r3, r4, r5)) ∧ Aside0 (kq ≤ k) ∧ Aside0 (wc.heap[gb116]? = some (.cells #[.int .i64 0, .bool false, .int .i64 0, .int .i64 0] 24 (0, 0))) ∧ Aside0 (Below w.heap.size w wc))
  case first =>
   have H := HC6.out
   clear HC6
   by_cases c9 : a1 < 0
   ·rw [if_pos c9] at H
    have c9b0 : decide (a1 < 0) = true := decide_eq_true c9
    clear c9
    (first | rw [c9b0] | (simp only [i64_w, i32_w]; rw [c9b0]) | skip)
    have H' := Aside0.mk H
    clear H
    go_wp2
    go_meet
    case rel => exact ⟨_, (true), (by first | rfl | (simp; done) | (simp [*]; done)), H', ⟨by first | omega | exact Nat.le_refl _⟩, ⟨by (with_reducible repeat (first | refine blk_drewN ?_ _ | refine blk_drew ?_ | refine blk_alloc ?_ _)); exact BK116.out⟩, ⟨by repeat (first | (with_reducible first | exact HB.out | apply below_alloc | apply pw_below_drewN | apply below_drew1 | refine below_set ?_ GE116.out) | exact HB.out)⟩⟩
   ·rw [if_neg c9] at H
    have c9b0 : decide (a1 < 0) = false := decide_eq_false c9
    clear c9
    (first | rw [c9b0] | (simp only [i64_w, i32_w]; rw [c9b0]) | skip)
    have H' := Aside0.mk H
    clear H
    go_wp2
    go_meet
    case rel => exact ⟨_, (decide (a1 > 65536)), (by first | rfl | (simp; done) | (simp [*]; done)), H', ⟨by first | omega | exact Nat.le_refl _⟩, ⟨by (with_reducible repeat (first | refine blk_drewN ?_ _ | refine blk_drew ?_ | refine blk_alloc ?_ _)); exact BK116.out⟩, ⟨by repeat (first | (with_reducible first | exact HB.out | apply below_alloc | apply pw_below_drewN | apply below_drew1 | refine below_set ?_ GE116.out) | exact HB.out)⟩⟩
  case rest =>
   clear HC6
   (try clear c1); (try clear p2); (try clear c5); (try clear c9); (try clear c9b0)
   obtain ⟨kq, x23_5, rfl, HA, HJ5, BK116, HB⟩ := hcut
   cases kq with
   | zero => exact absurd HA.out (by simp [emenderref08_Map.j0])
   | succ kj5 =>
    have H := HA.out
    clear HA
    simp only [emenderref08_Map.j0] at H
    by_cases c10 : x23_5 = true
    ·subst c10
     have H1 : (some (0, false, 0, 0, 1)) = some (r1, r2, r3, r4, r5) := by rw [if_pos rfl] at H; exact H
     clear H
     have H := H1
     clear H1
     simp only [Option.some.injEq, Prod.mk.injEq] at H
     obtain ⟨rfl, rfl, rfl, rfl, rfl⟩ := H
     have hcz11_0 : wc.cell? ⟨gb116, 0, none⟩ = some (.int .i64 0) := (blk_cell BK116.out 0).trans rfl; have hcz11_1 : wc.cell? ⟨gb116, 1, none⟩ = some (.bool false) := (blk_cell BK116.out 1).trans rfl; have hcz11_2 : wc.cell? ⟨gb116, 2, none⟩ = some (.int .i64 0) := (blk_cell BK116.out 2).trans rfl; have hcz11_3 : wc.cell? ⟨gb116, 3, none⟩ = some (.int .i64 0) := (blk_cell BK116.out 3).trans rfl; have hfz11_0 := blk_frozen BK116.out 0; have hfz11_1 := blk_frozen BK116.out 1; have hfz11_2 := blk_frozen BK116.out 2; have hfz11_3 := blk_frozen BK116.out 3
     go_wp2
     refine bodyPost_ret (results_ct rfl _ _ gb116 24 #[.int .i64 0, .bool false, .int .i64 0, .int .i64 0] (0, 0) _ rfl (by (with_reducible repeat (first | refine blk_drewN ?_ _ | refine blk_drew ?_ | refine blk_alloc ?_ _)); refine blk_put (cs := #[.int .i64 0, .bool false, .int .i64 0, .int .i64 0]) ?_ 3 _ rfl; (with_reducible repeat (first | refine blk_drewN ?_ _ | refine blk_drew ?_ | refine blk_alloc ?_ _)); refine blk_put (cs := #[.int .i64 0, .bool false, .int .i64 0, .int .i64 0]) ?_ 2 _ rfl; (with_reducible repeat (first | refine blk_drewN ?_ _ | refine blk_drew ?_ | refine blk_alloc ?_ _)); refine blk_put (cs := #[.int .i64 0, .bool false, .int .i64 0, .int .i64 0]) ?_ 1 _ rfl; (with_reducible repeat (first | refine blk_drewN ?_ _ | refine blk_drew ?_ | refine blk_alloc ?_ _)); refine blk_put (cs := #[.int .i64 0, .bool false, .int .i64 0, .int .i64 0]) ?_ 0 _ rfl; (with_reducible repeat (first | refine blk_drewN ?_ _ | refine blk_drew ?_ | refine blk_alloc ?_ _)); exact BK116.out) Try.underlying24 rfl (by kernel_rfl)) rfl ?_
     exact ⟨by first | rfl | (simp [errW_none, errW_some] <;> rfl) | (simp [*, errW_none, errW_some] <;> rfl), by repeat (first | (with_reducible first | exact HB.out | apply below_alloc | apply pw_below_drewN | apply below_drew1 | refine below_set ?_ GE116.out) | exact HB.out)⟩
    ·replace c10 := Bool.eq_false_iff.mpr c10
     subst c10
     have H1 : (emenderref08_Map.l0 kj5 l0 a1 a2 0) = some (r1, r2, r3, r4, r5) := by rw [if_neg (show ¬ (false = true) by decide)] at H; exact H
     clear H
     have H := H1
     clear H1
     have H' := Aside0.mk H
     clear H
     go_wp2
     go_loopg [8] kj5 (fun kq v8 w' => ∃ (x8_2 : Int) (x117000_2 : Int) (x117001_2 : Bool) (x117002_2 : Int) (x117003_2 : Int), v8 = .int .i64 x8_2 ∧ Aside0 (emenderref08_Map.l0 kq l0 a1 a2 x8_2 = some (r1, r2, r3, r4, r5)) ∧ Aside0 (kq ≤ kj5) ∧ Aside0 (w'.heap[gb116]? = some (.cells #[.int .i64 x117000_2, .bool x117001_2, .int .i64 x117002_2, .int .i64 x117003_2] 24 (0, 0))) ∧ Aside0 (Below w.heap.size w w'))
     case atStart => exact ⟨(0), (0), (false), (0), (0), (by first | rfl | (simp; done) | (simp [*]; done)), H', ⟨Nat.le_refl _⟩, ⟨by (with_reducible repeat (first | refine blk_drewN ?_ _ | refine blk_drew ?_ | refine blk_alloc ?_ _)); exact BK116.out⟩, ⟨by repeat (first | (with_reducible first | exact HB.out | apply below_alloc | apply pw_below_drewN | apply below_drew1 | refine below_set ?_ GE116.out) | exact HB.out)⟩⟩
     case round =>
      clear H'
      (try clear c1); (try clear p2); (try clear c5); (try clear c9); (try clear c9b0); (try clear c10); (try clear hcz11_0); (try clear hcz11_1); (try clear hcz11_2); (try clear hcz11_3); (try clear hfz11_0); (try clear hfz11_1); (try clear hfz11_2); (try clear hfz11_3); (try clear p2)
      obtain ⟨x8_2, x117000_2, x117001_2, x117002_2, x117003_2, rfl, HA, HK2, BK116, HB⟩ := hrel
      cases gk with
      | zero => exact absurd HA.out (by simp [emenderref08_Map.l0])
      | succ k2 =>
       have H := HA.out
       clear HA
       simp only [emenderref08_Map.l0] at H
       by_cases c12 : x8_2 < (l0.length : Int)
       ·rw [if_pos c12] at H
        have c12b0 : decide (x8_2 < (l0.length : Int)) = true := decide_eq_true c12
        clear c12
        by_cases c13 : 0 ≤ x8_2
        ·rw [if_pos c13] at H
         have c13b0 : decide (0 ≤ x8_2) = true := decide_eq_true c13
         clear c13
         have HC14 := Aside0.mk H
         clear H
         have p118 : 0 ≤ (x8_2 : Int) := of_decide_eq_true (by first | (with_reducible assumption) | assumption)
         have q118 : x8_2 < (l0.length : Int) := of_decide_eq_true (by first | (with_reducible assumption) | assumption)
         obtain ⟨ad118, e118, hx118_0, hx118_1, hx118_2⟩ := at_T37 HR0.out x8_2 p118 q118
         cases e118
         replace hx118_0 := (HB.out.cell (World.block_lt_of_cell? w _ hx118_0)).trans hx118_0
         replace hx118_1 := (HB.out.cell (World.block_lt_of_cell? w _ hx118_1)).trans hx118_1
         replace hx118_2 := (HB.out.cell (World.block_lt_of_cell? w _ hx118_2)).trans hx118_2
         replace p118 := eq_true p118
         replace q118 := eq_true q118
         go_upto_region 10 with (first | ((with_reducible refine gate_dst (N := 9) rfl ?_); refine box_event ?hg (N := 9) ?hd (cs := #[.int .i64 0, .int .i64 0, .int .i64 0]) (t := 37) ?hr ?_; (case hd => rfl); (case hg => rfl); (case hr => first | (go_simp; done) | (go_simp; rfl)); intro gb119 hg w15 hbox hb; have n0_ := Aside0.mk (blk_below (g := gb116) (o := .cells #[.int .i64 x117000_2, .bool x117001_2, .int .i64 x117002_2, .int .i64 x117003_2] 24 (0, 0)) (by (with_reducible repeat (first | refine blk_drewN ?_ _ | refine blk_drew ?_ | refine blk_alloc ?_ _)); exact BK116.out) hb); have n1_ := Aside0.mk (below_step (by repeat (first | (with_reducible first | exact HB.out | apply below_alloc | apply pw_below_drewN | apply below_drew1 | refine below_set ?_ GE116.out) | exact HB.out)) hb); have n2_ := Aside0.mk (hbox); have n3_ := Aside0.mk ((by rw [hg]; exact (below_size (by repeat (first | (with_reducible first | exact HB.out | apply below_alloc | apply pw_below_drewN | apply below_drew1 | refine below_set ?_ GE116.out) | exact HB.out))) : w.heap.size ≤ gb119)); have n4_ := Aside0.mk ((by rw [hg]; exact (below_size (by repeat (first | (with_reducible first | exact HB.out | apply below_alloc | apply pw_below_drewN | apply below_drew1 | refine below_set ?_ GE116.out) | exact HB.out))) : w.heap.size ≤ gb119)); have n5_ := Aside0.mk ((by rw [hg]; exact Nat.ne_of_lt (blk_lt (g := gb116) (o := .cells #[.int .i64 x117000_2, .bool x117001_2, .int .i64 x117002_2, .int .i64 x117003_2] 24 (0, 0)) (by (with_reducible repeat (first | refine blk_drewN ?_ _ | refine blk_drew ?_ | refine blk_alloc ?_ _)); exact BK116.out)) : gb116 ≠ gb119)); have n6_ := Aside0.mk ((by rw [hg]; exact Nat.ne_of_gt (blk_lt (g := gb116) (o := .cells #[.int .i64 x117000_2, .bool x117001_2, .int .i64 x117002_2, .int .i64 x117003_2] 24 (0, 0)) (by (with_reducible repeat (first | refine blk_drewN ?_ _ | refine blk_drew ?_ | refine blk_alloc ?_ _)); exact BK116.out)) : gb119 ≠ gb116)); clear BK116; clear HB; have BK116 := n0_; have HB := n1_; have BK119 := n2_; have GW119 := n3_; have GE119 := n4_; have NB116_119 := n5_; have NB119_116 := n6_; clear n0_ n1_ n2_ n3_ n4_ n5_ n6_; clear hb hbox hg; have hnb16 := NB119_116.out; have hnc16 := NB116_119.out; have hcz17_0 : w15.cell? ⟨gb119, 0, none⟩ = some (.int .i64 0) := (blk_cell BK119.out 0).trans rfl; have hcz17_1 : w15.cell? ⟨gb119, 1, none⟩ = some (.int .i64 0) := (blk_cell BK119.out 1).trans rfl; have hcz17_2 : w15.cell? ⟨gb119, 2, none⟩ = some (.int .i64 0) := (blk_cell BK119.out 2).trans rfl; have hfz17_0 := blk_frozen BK119.out 0; have hfz17_1 := blk_frozen BK119.out 1; have hfz17_2 := blk_frozen BK119.out 2))
         (try simp only [Act.put, List.setIfInBounds_toArray, List.set_cons_zero, List.set_cons_succ])
         go_cut [48] (fun v48 wc => ∃ (kq : Nat) (x48_13 : Bool), v48 = .bool x48_13 ∧ Aside0 (emenderref08_Map.j2 kq l0 a1 a2 x8_2 (wrap64 (((rd_T37 l0 x8_2).f0) + ((rd_T37 l0 x8_2).f1))) x48_13 ((rd_T37 l0 x8_2).f0) ((rd_T37 l0 x8_2).f1) ((rd_T37 l0 x8_2).f2) = some (r1, r2, r3, r4, r5)) ∧ Aside0 (kq ≤ k2) ∧ Aside0 (wc.heap[gb116]? = some (.cells #[.int .i64 x117000_2, .bool x117001_2, .int .i64 x117002_2, .int .i64 x117003_2] 24 (0, 0))) ∧ Aside0 (wc.heap[gb119]? = some (.cells #[.int .i64 ((rd_T37 l0 x8_2).f0), .int .i64 ((rd_T37 l0 x8_2).f1), .int .i64 ((rd_T37 l0 x8_2).f2)] 37 (0, 0))) ∧ Aside0 (Below w.heap.size w wc))
         case first =>
          have H := HC14.out
          clear HC14
          by_cases c18 : a1 < ((rd_T37 l0 x8_2).f0)
          ·rw [if_pos c18] at H
           have c18b0 : decide (a1 < ((rd_T37 l0 x8_2).f0)) = true := decide_eq_true c18
           clear c18
           (first | rw [c18b0] | (simp only [i64_w, i32_w]; rw [c18b0]) | skip)
           have H' := Aside0.mk H
           clear H
           have hnb19 := NB119_116.out
           have hnc19 := NB116_119.out
           have hcz20_0 : w15.cell? ⟨gb119, 0, none⟩ = some (.int .i64 0) := (blk_cell BK119.out 0).trans rfl; have hcz20_1 : w15.cell? ⟨gb119, 1, none⟩ = some (.int .i64 0) := (blk_cell BK119.out 1).trans rfl; have hcz20_2 : w15.cell? ⟨gb119, 2, none⟩ = some (.int .i64 0) := (blk_cell BK119.out 2).trans rfl; have hfz20_0 := blk_frozen BK119.out 0; have hfz20_1 := blk_frozen BK119.out 1; have hfz20_2 := blk_frozen BK119.out 2
           go_wp2
           go_meet
           case rel => exact ⟨_, (true), (by first | rfl | (simp; done) | (simp [*]; done)), H', ⟨by have := HJ5.out; have := HK2.out; first | omega | exact Nat.le_refl _⟩, ⟨by (with_reducible repeat (first | refine blk_drewN ?_ _ | refine blk_drew ?_ | refine blk_alloc ?_ _)); refine blk_far ?_ NB116_119.out _; (with_reducible repeat (first | refine blk_drewN ?_ _ | refine blk_drew ?_ | refine blk_alloc ?_ _)); refine blk_far ?_ NB116_119.out _; (with_reducible repeat (first | refine blk_drewN ?_ _ | refine blk_drew ?_ | refine blk_alloc ?_ _)); refine blk_far ?_ NB116_119.out _; (with_reducible repeat (first | refine blk_drewN ?_ _ | refine blk_drew ?_ | refine blk_alloc ?_ _)); exact BK116.out⟩, ⟨by (with_reducible repeat (first | refine blk_drewN ?_ _ | refine blk_drew ?_ | refine blk_alloc ?_ _)); refine blk_put (cs := #[.int .i64 ((rd_T37 l0 x8_2).f0), .int .i64 ((rd_T37 l0 x8_2).f1), .int .i64 0]) ?_ 2 _ rfl; (with_reducible repeat (first | refine blk_drewN ?_ _ | refine blk_drew ?_ | refine blk_alloc ?_ _)); refine blk_put (cs := #[.int .i64 ((rd_T37 l0 x8_2).f0), .int .i64 0, .int .i64 0]) ?_ 1 _ rfl; (with_reducible repeat (first | refine blk_drewN ?_ _ | refine blk_drew ?_ | refine blk_alloc ?_ _)); refine blk_put (cs := #[.int .i64 0, .int .i64 0, .int .i64 0]) ?_ 0 _ rfl; (with_reducible repeat (first | refine blk_drewN ?_ _ | refine blk_drew ?_ | refine blk_alloc ?_ _)); exact BK119.out⟩, ⟨by repeat (first | (with_reducible first | exact HB.out | apply below_alloc | apply pw_below_drewN | apply below_drew1 | refine below_set ?_ GE116.out | refine below_set ?_ GE119.out) | exact HB.out)⟩⟩
          ·rw [if_neg c18] at H
           have c18b0 : decide (a1 < ((rd_T37 l0 x8_2).f0)) = false := decide_eq_false c18
           clear c18
           (first | rw [c18b0] | (simp only [i64_w, i32_w]; rw [c18b0]) | skip)
           have H' := Aside0.mk H
           clear H
           have hnb21 := NB119_116.out
           have hnc21 := NB116_119.out
           have hcz22_0 : w15.cell? ⟨gb119, 0, none⟩ = some (.int .i64 0) := (blk_cell BK119.out 0).trans rfl; have hcz22_1 : w15.cell? ⟨gb119, 1, none⟩ = some (.int .i64 0) := (blk_cell BK119.out 1).trans rfl; have hcz22_2 : w15.cell? ⟨gb119, 2, none⟩ = some (.int .i64 0) := (blk_cell BK119.out 2).trans rfl; have hfz22_0 := blk_frozen BK119.out 0; have hfz22_1 := blk_frozen BK119.out 1; have hfz22_2 := blk_frozen BK119.out 2
           go_wp2
           go_meet
           case rel => exact ⟨_, (decide (a1 > (wrap64 (((rd_T37 l0 x8_2).f0) + ((rd_T37 l0 x8_2).f1))))), (by first | rfl | (simp; done) | (simp [*]; done)), H', ⟨by have := HJ5.out; have := HK2.out; first | omega | exact Nat.le_refl _⟩, ⟨by (with_reducible repeat (first | refine blk_drewN ?_ _ | refine blk_drew ?_ | refine blk_alloc ?_ _)); refine blk_far ?_ NB116_119.out _; (with_reducible repeat (first | refine blk_drewN ?_ _ | refine blk_drew ?_ | refine blk_alloc ?_ _)); refine blk_far ?_ NB116_119.out _; (with_reducible repeat (first | refine blk_drewN ?_ _ | refine blk_drew ?_ | refine blk_alloc ?_ _)); refine blk_far ?_ NB116_119.out _; (with_reducible repeat (first | refine blk_drewN ?_ _ | refine blk_drew ?_ | refine blk_alloc ?_ _)); exact BK116.out⟩, ⟨by (with_reducible repeat (first | refine blk_drewN ?_ _ | refine blk_drew ?_ | refine blk_alloc ?_ _)); refine blk_put (cs := #[.int .i64 ((rd_T37 l0 x8_2).f0), .int .i64 ((rd_T37 l0 x8_2).f1), .int .i64 0]) ?_ 2 _ rfl; (with_reducible repeat (first | refine blk_drewN ?_ _ | refine blk_drew ?_ | refine blk_alloc ?_ _)); refine blk_put (cs := #[.int .i64 ((rd_T37 l0 x8_2).f0), .int .i64 0, .int .i64 0]) ?_ 1 _ rfl; (with_reducible repeat (first | refine blk_drewN ?_ _ | refine blk_drew ?_ | refine blk_alloc ?_ _)); refine blk_put (cs := #[.int .i64 0, .int .i64 0, .int .i64 0]) ?_ 0 _ rfl; (with_reducible repeat (first | refine blk_drewN ?_ _ | refine blk_drew ?_ | refine blk_alloc ?_ _)); exact BK119.out⟩, ⟨by repeat (first | (with_reducible first | exact HB.out | apply below_alloc | apply pw_below_drewN | apply below_drew1 | refine below_set ?_ GE116.out | refine below_set ?_ GE119.out) | exact HB.out)⟩⟩
         case rest =>
          clear HC14
          (try clear c1); (try clear p1); (try clear q1); (try clear hx1); (try clear c2); (try clear p2); (try clear c5); (try clear p6); (try clear c9); (try clear c9b0); (try clear c10); (try clear p11); (try clear q11); (try clear hx11); (try clear c12); (try clear c12b0); (try clear c13); (try clear c13b0); (try clear c15); (try clear c16); (try clear c18); (try clear c18b0); (try clear c19); (try clear c21); (try clear hcz11_0); (try clear hcz11_1); (try clear hcz11_2); (try clear hcz11_3); (try clear hcz17_0); (try clear hcz17_1); (try clear hcz17_2); (try clear hcz20_0); (try clear hcz20_1); (try clear hcz20_2); (try clear hcz22_0); (try clear hcz22_1); (try clear hcz22_2); (try clear hfz11_0); (try clear hfz11_1); (try clear hfz11_2); (try clear hfz11_3); (try clear hfz17_0); (try clear hfz17_1); (try clear hfz17_2); (try clear hfz20_0); (try clear hfz20_1); (try clear hfz20_2); (try clear hfz22_0); (try clear hfz22_1); (try clear hfz22_2); (try clear hx118_0); (try clear hx118_1); (try clear hx118_2); (try clear p118); (try clear p2); (try clear q118)
          obtain ⟨kq, x48_13, rfl, HA, HJ13, BK116, BK119, HB⟩ := hcut
          cases kq with
          | zero => exact absurd HA.out (by simp [emenderref08_Map.j2])
          | succ kj13 =>
           have H := HA.out
           clear HA
           simp only [emenderref08_Map.j2] at H
           by_cases c23 : x48_13 = true
           ·subst c23
            have H1 : (emenderref08_Map.l0 kj13 l0 a1 a2 (wrap64 (x8_2 + 1))) = some (r1, r2, r3, r4, r5) := by rw [if_pos rfl] at H; exact H
            clear H
            have H := H1
            clear H1
            have H' := Aside0.mk H
            clear H
            go_wp2
            go_roundg kj13
            case measure => have := HJ5.out; have := HK2.out; have := HJ13.out; omega
            case rel => exact ⟨(wrap64 (x8_2 + 1)), (x117000_2), (x117001_2), (x117002_2), (x117003_2), (by first | rfl | (simp; done) | (simp [*]; done)), H', ⟨by have := HJ5.out; have := HK2.out; have := HJ13.out; omega⟩, ⟨by (with_reducible repeat (first | refine blk_drewN ?_ _ | refine blk_drew ?_ | refine blk_alloc ?_ _)); exact BK116.out⟩, ⟨by repeat (first | (with_reducible first | exact HB.out | apply below_alloc | apply pw_below_drewN | apply below_drew1 | refine below_set ?_ GE116.out | refine below_set ?_ GE119.out) | exact HB.out)⟩⟩
           ·replace c23 := Bool.eq_false_iff.mpr c23
            subst c23
            have H1 : (if ((rd_T37 l0 x8_2).f1) > 0 then (emenderref08_Map.j3 kj13 l0 a1 a2 x8_2 (wrap64 (((rd_T37 l0 x8_2).f0) + ((rd_T37 l0 x8_2).f1))) (decide (a2 < 0)) (a1 == ((rd_T37 l0 x8_2).f0)) ((rd_T37 l0 x8_2).f0) ((rd_T37 l0 x8_2).f1) ((rd_T37 l0 x8_2).f2)) else (emenderref08_Map.j3 kj13 l0 a1 a2 x8_2 (wrap64 (((rd_T37 l0 x8_2).f0) + ((rd_T37 l0 x8_2).f1))) (decide (a2 < 0)) false ((rd_T37 l0 x8_2).f0) ((rd_T37 l0 x8_2).f1) ((rd_T37 l0 x8_2).f2))) = some (r1, r2, r3, r4, r5) := by rw [if_neg (show ¬ (false = true) by decide)] at H; exact H
            clear H
            have H := H1
            clear H1
            have HC24 := Aside0.mk H
            clear H
            go_upto_region 12 with (fail)
            go_cut [59] (fun v59 wc => ∃ (kq : Nat) (x59_23 : Bool), v59 = .bool x59_23 ∧ Aside0 (emenderref08_Map.j3 kq l0 a1 a2 x8_2 (wrap64 (((rd_T37 l0 x8_2).f0) + ((rd_T37 l0 x8_2).f1))) (decide (a2 < 0)) x59_23 ((rd_T37 l0 x8_2).f0) ((rd_T37 l0 x8_2).f1) ((rd_T37 l0 x8_2).f2) = some (r1, r2, r3, r4, r5)) ∧ Aside0 (kq ≤ kj13) ∧ Aside0 (wc.heap[gb116]? = some (.cells #[.int .i64 x117000_2, .bool x117001_2, .int .i64 x117002_2, .int .i64 x117003_2] 24 (0, 0))) ∧ Aside0 (wc.heap[gb119]? = some (.cells #[.int .i64 ((rd_T37 l0 x8_2).f0), .int .i64 ((rd_T37 l0 x8_2).f1), .int .i64 ((rd_T37 l0 x8_2).f2)] 37 (0, 0))) ∧ Aside0 (Below w.heap.size w wc))
            case first =>
             have H := HC24.out
             clear HC24
             by_cases c25 : ((rd_T37 l0 x8_2).f1) > 0
             ·rw [if_pos c25] at H
              have c25b0 : decide (0 < ((rd_T37 l0 x8_2).f1)) = true := decide_eq_true c25
              clear c25
              (first | rw [c25b0] | (simp only [i64_w, i32_w]; rw [c25b0]) | skip)
              have H' := Aside0.mk H
              clear H
              have hnb26 := NB119_116.out
              have hnc26 := NB116_119.out
              have hcz27_0 : wc.cell? ⟨gb119, 0, none⟩ = some (.int .i64 ((rd_T37 l0 x8_2).f0)) := (blk_cell BK119.out 0).trans rfl; have hcz27_1 : wc.cell? ⟨gb119, 1, none⟩ = some (.int .i64 ((rd_T37 l0 x8_2).f1)) := (blk_cell BK119.out 1).trans rfl; have hcz27_2 : wc.cell? ⟨gb119, 2, none⟩ = some (.int .i64 ((rd_T37 l0 x8_2).f2)) := (blk_cell BK119.out 2).trans rfl; have hfz27_0 := blk_frozen BK119.out 0; have hfz27_1 := blk_frozen BK119.out 1; have hfz27_2 := blk_frozen BK119.out 2
              go_wp2
              go_meet
              case rel => exact ⟨_, ((a1 == ((rd_T37 l0 x8_2).f0))), (by first | rfl | (simp; done) | (simp [*]; done)), H', ⟨by have := HJ5.out; have := HK2.out; have := HJ13.out; first | omega | exact Nat.le_refl _⟩, ⟨by (with_reducible repeat (first | refine blk_drewN ?_ _ | refine blk_drew ?_ | refine blk_alloc ?_ _)); exact BK116.out⟩, ⟨by (with_reducible repeat (first | refine blk_drewN ?_ _ | refine blk_drew ?_ | refine blk_alloc ?_ _)); exact BK119.out⟩, ⟨by repeat (first | (with_reducible first | exact HB.out | apply below_alloc | apply pw_below_drewN | apply below_drew1 | refine below_set ?_ GE116.out | refine below_set ?_ GE119.out) | exact HB.out)⟩⟩
             ·rw [if_neg c25] at H
              have c25b0 : decide (0 < ((rd_T37 l0 x8_2).f1)) = false := decide_eq_false c25
              clear c25
              (first | rw [c25b0] | (simp only [i64_w, i32_w]; rw [c25b0]) | skip)
              have H' := Aside0.mk H
              clear H
              have hnb28 := NB119_116.out
              have hnc28 := NB116_119.out
              have hcz29_0 : wc.cell? ⟨gb119, 0, none⟩ = some (.int .i64 ((rd_T37 l0 x8_2).f0)) := (blk_cell BK119.out 0).trans rfl; have hcz29_1 : wc.cell? ⟨gb119, 1, none⟩ = some (.int .i64 ((rd_T37 l0 x8_2).f1)) := (blk_cell BK119.out 1).trans rfl; have hcz29_2 : wc.cell? ⟨gb119, 2, none⟩ = some (.int .i64 ((rd_T37 l0 x8_2).f2)) := (blk_cell BK119.out 2).trans rfl; have hfz29_0 := blk_frozen BK119.out 0; have hfz29_1 := blk_frozen BK119.out 1; have hfz29_2 := blk_frozen BK119.out 2
              go_wp2
              go_meet
              case rel => exact ⟨_, (false), (by first | rfl | (simp; done) | (simp [*]; done)), H', ⟨by have := HJ5.out; have := HK2.out; have := HJ13.out; first | omega | exact Nat.le_refl _⟩, ⟨by (with_reducible repeat (first | refine blk_drewN ?_ _ | refine blk_drew ?_ | refine blk_alloc ?_ _)); exact BK116.out⟩, ⟨by (with_reducible repeat (first | refine blk_drewN ?_ _ | refine blk_drew ?_ | refine blk_alloc ?_ _)); exact BK119.out⟩, ⟨by repeat (first | (with_reducible first | exact HB.out | apply below_alloc | apply pw_below_drewN | apply below_drew1 | refine below_set ?_ GE116.out | refine below_set ?_ GE119.out) | exact HB.out)⟩⟩
            case rest =>
             clear HC24
             (try clear c1); (try clear p1); (try clear q1); (try clear hx1); (try clear c2); (try clear p2); (try clear c5); (try clear p6); (try clear c9); (try clear c9b0); (try clear c10); (try clear p11); (try clear q11); (try clear hx11); (try clear c12); (try clear c12b0); (try clear c13); (try clear c13b0); (try clear c15); (try clear c16); (try clear c18); (try clear c18b0); (try clear c19); (try clear c21); (try clear c23); (try clear c25); (try clear c25b0); (try clear c26); (try clear c28); (try clear hcz11_0); (try clear hcz11_1); (try clear hcz11_2); (try clear hcz11_3); (try clear hcz17_0); (try clear hcz17_1); (try clear hcz17_2); (try clear hcz20_0); (try clear hcz20_1); (try clear hcz20_2); (try clear hcz22_0); (try clear hcz22_1); (try clear hcz22_2); (try clear hcz27_0); (try clear hcz27_1); (try clear hcz27_2); (try clear hcz29_0); (try clear hcz29_1); (try clear hcz29_2); (try clear hfz11_0); (try clear hfz11_1); (try clear hfz11_2); (try clear hfz11_3); (try clear hfz17_0); (try clear hfz17_1); (try clear hfz17_2); (try clear hfz20_0); (try clear hfz20_1); (try clear hfz20_2); (try clear hfz22_0); (try clear hfz22_1); (try clear hfz22_2); (try clear hfz27_0); (try clear hfz27_1); (try clear hfz27_2); (try clear hfz29_0); (try clear hfz29_1); (try clear hfz29_2); (try clear hx118_0); (try clear hx118_1); (try clear hx118_2); (try clear p1); (try clear p11); (try clear p118); (try clear p2); (try clear p6); (try clear q1); (try clear q11); (try clear q118)
             obtain ⟨kq, x59_23, rfl, HA, HJ23, BK116, BK119, HB⟩ := hcut
             cases kq with
             | zero => exact absurd HA.out (by simp [emenderref08_Map.j3])
             | succ kj23 =>
              have H := HA.out
              clear HA
              simp only [emenderref08_Map.j3] at H
              have HC30 := Aside0.mk H
              clear H
              go_upto_if 59 with (fail)
              go_cut [11] (fun v11 wc => ∃ (kq : Nat) (x11_29 : Bool), v11 = .bool x11_29 ∧ Aside0 (emenderref08_Map.j4 kq l0 a1 a2 x8_2 (wrap64 (((rd_T37 l0 x8_2).f0) + ((rd_T37 l0 x8_2).f1))) x11_29 ((rd_T37 l0 x8_2).f0) ((rd_T37 l0 x8_2).f1) ((rd_T37 l0 x8_2).f2) = some (r1, r2, r3, r4, r5)) ∧ Aside0 (kq ≤ kj23) ∧ Aside0 (wc.heap[gb116]? = some (.cells #[.int .i64 x117000_2, .bool x117001_2, .int .i64 x117002_2, .int .i64 x117003_2] 24 (0, 0))) ∧ Aside0 (wc.heap[gb119]? = some (.cells #[.int .i64 ((rd_T37 l0 x8_2).f0), .int .i64 ((rd_T37 l0 x8_2).f1), .int .i64 ((rd_T37 l0 x8_2).f2)] 37 (0, 0))) ∧ Aside0 (Below w.heap.size w wc))
              case first =>
               have H := HC30.out
               clear HC30
               by_cases c31 : x59_23 = true
               ·subst c31
                have H1 : (emenderref08_Map.j4 kj23 l0 a1 a2 x8_2 (wrap64 (((rd_T37 l0 x8_2).f0) + ((rd_T37 l0 x8_2).f1))) true ((rd_T37 l0 x8_2).f0) ((rd_T37 l0 x8_2).f1) ((rd_T37 l0 x8_2).f2)) = some (r1, r2, r3, r4, r5) := by rw [if_pos rfl] at H; exact H
                clear H
                have H := H1
                clear H1
                have H' := Aside0.mk H
                clear H
                go_wp2
                go_meet
                case rel => exact ⟨_, (true), (by first | rfl | (simp; done) | (simp [*]; done)), H', ⟨by have := HJ5.out; have := HK2.out; have := HJ13.out; have := HJ23.out; first | omega | exact Nat.le_refl _⟩, ⟨by (with_reducible repeat (first | refine blk_drewN ?_ _ | refine blk_drew ?_ | refine blk_alloc ?_ _)); exact BK116.out⟩, ⟨by (with_reducible repeat (first | refine blk_drewN ?_ _ | refine blk_drew ?_ | refine blk_alloc ?_ _)); exact BK119.out⟩, ⟨by repeat (first | (with_reducible first | exact HB.out | apply below_alloc | apply pw_below_drewN | apply below_drew1 | refine below_set ?_ GE116.out | refine below_set ?_ GE119.out) | exact HB.out)⟩⟩
               ·replace c31 := Bool.eq_false_iff.mpr c31
                subst c31
                have H1 : (emenderref08_Map.j4 kj23 l0 a1 a2 x8_2 (wrap64 (((rd_T37 l0 x8_2).f0) + ((rd_T37 l0 x8_2).f1))) (decide (a2 < 0)) ((rd_T37 l0 x8_2).f0) ((rd_T37 l0 x8_2).f1) ((rd_T37 l0 x8_2).f2)) = some (r1, r2, r3, r4, r5) := by rw [if_neg (show ¬ (false = true) by decide)] at H; exact H
                clear H
                have H := H1
                clear H1
                have H' := Aside0.mk H
                clear H
                go_wp2
                go_meet
                case rel => exact ⟨_, ((decide (a2 < 0))), (by first | rfl | (simp; done) | (simp [*]; done)), H', ⟨by have := HJ5.out; have := HK2.out; have := HJ13.out; have := HJ23.out; first | omega | exact Nat.le_refl _⟩, ⟨by (with_reducible repeat (first | refine blk_drewN ?_ _ | refine blk_drew ?_ | refine blk_alloc ?_ _)); exact BK116.out⟩, ⟨by (with_reducible repeat (first | refine blk_drewN ?_ _ | refine blk_drew ?_ | refine blk_alloc ?_ _)); exact BK119.out⟩, ⟨by repeat (first | (with_reducible first | exact HB.out | apply below_alloc | apply pw_below_drewN | apply below_drew1 | refine below_set ?_ GE116.out | refine below_set ?_ GE119.out) | exact HB.out)⟩⟩
              case rest =>
               clear HC30
               (try clear c1); (try clear p1); (try clear q1); (try clear hx1); (try clear c2); (try clear p2); (try clear c3); (try clear c5); (try clear p6); (try clear c9); (try clear c9b0); (try clear c10); (try clear p11); (try clear q11); (try clear hx11); (try clear c12); (try clear c12b0); (try clear c13); (try clear c13b0); (try clear c15); (try clear c16); (try clear c18); (try clear c18b0); (try clear c19); (try clear c21); (try clear c23); (try clear c25); (try clear c25b0); (try clear c26); (try clear c28); (try clear c31); (try clear hcz11_0); (try clear hcz11_1); (try clear hcz11_2); (try clear hcz11_3); (try clear hcz17_0); (try clear hcz17_1); (try clear hcz17_2); (try clear hcz20_0); (try clear hcz20_1); (try clear hcz20_2); (try clear hcz22_0); (try clear hcz22_1); (try clear hcz22_2); (try clear hcz27_0); (try clear hcz27_1); (try clear hcz27_2); (try clear hcz29_0); (try clear hcz29_1); (try clear hcz29_2); (try clear hfz11_0); (try clear hfz11_1); (try clear hfz11_2); (try clear hfz11_3); (try clear hfz17_0); (try clear hfz17_1); (try clear hfz17_2); (try clear hfz20_0); (try clear hfz20_1); (try clear hfz20_2); (try clear hfz22_0); (try clear hfz22_1); (try clear hfz22_2); (try clear hfz27_0); (try clear hfz27_1); (try clear hfz27_2); (try clear hfz29_0); (try clear hfz29_1); (try clear hfz29_2); (try clear hx118_0); (try clear hx118_1); (try clear hx118_2); (try clear p1); (try clear p11); (try clear p118); (try clear p2); (try clear p6); (try clear q1); (try clear q11); (try clear q118)
               obtain ⟨kq, x11_29, rfl, HA, HJ29, BK116, BK119, HB⟩ := hcut
               cases kq with
               | zero => exact absurd HA.out (by simp [emenderref08_Map.j4])
               | succ kj29 =>
                have H := HA.out
                clear HA
                simp only [emenderref08_Map.j4] at H
                have HC32 := Aside0.mk H
                clear H
                go_upto_region 14 with (fail)
                go_cut [67] (fun v67 wc => ∃ (kq : Nat) (x67_31 : Bool), v67 = .bool x67_31 ∧ Aside0 (emenderref08_Map.j5 kq l0 a1 a2 x8_2 (wrap64 (((rd_T37 l0 x8_2).f0) + ((rd_T37 l0 x8_2).f1))) x11_29 x67_31 ((rd_T37 l0 x8_2).f0) ((rd_T37 l0 x8_2).f1) ((rd_T37 l0 x8_2).f2) = some (r1, r2, r3, r4, r5)) ∧ Aside0 (kq ≤ kj29) ∧ Aside0 (wc.heap[gb116]? = some (.cells #[.int .i64 x117000_2, .bool x117001_2, .int .i64 x117002_2, .int .i64 x117003_2] 24 (0, 0))) ∧ Aside0 (wc.heap[gb119]? = some (.cells #[.int .i64 ((rd_T37 l0 x8_2).f0), .int .i64 ((rd_T37 l0 x8_2).f1), .int .i64 ((rd_T37 l0 x8_2).f2)] 37 (0, 0))) ∧ Aside0 (Below w.heap.size w wc))
                case first =>
                 have H := HC32.out
                 clear HC32
                 by_cases c33 : ((rd_T37 l0 x8_2).f1) > 0
                 ·rw [if_pos c33] at H
                  have c33b0 : decide (0 < ((rd_T37 l0 x8_2).f1)) = true := decide_eq_true c33
                  clear c33
                  (first | rw [c33b0] | (simp only [i64_w, i32_w]; rw [c33b0]) | skip)
                  have H' := Aside0.mk H
                  clear H
                  have hnb34 := NB119_116.out
                  have hnc34 := NB116_119.out
                  have hcz35_0 : wc.cell? ⟨gb119, 0, none⟩ = some (.int .i64 ((rd_T37 l0 x8_2).f0)) := (blk_cell BK119.out 0).trans rfl; have hcz35_1 : wc.cell? ⟨gb119, 1, none⟩ = some (.int .i64 ((rd_T37 l0 x8_2).f1)) := (blk_cell BK119.out 1).trans rfl; have hcz35_2 : wc.cell? ⟨gb119, 2, none⟩ = some (.int .i64 ((rd_T37 l0 x8_2).f2)) := (blk_cell BK119.out 2).trans rfl; have hfz35_0 := blk_frozen BK119.out 0; have hfz35_1 := blk_frozen BK119.out 1; have hfz35_2 := blk_frozen BK119.out 2
                  go_wp2
                  go_meet
                  case rel => exact ⟨_, ((a1 == (wrap64 (((rd_T37 l0 x8_2).f0) + ((rd_T37 l0 x8_2).f1))))), (by first | rfl | (simp; done) | (simp [*]; done)), H', ⟨by have := HJ5.out; have := HK2.out; have := HJ13.out; have := HJ23.out; have := HJ29.out; first | omega | exact Nat.le_refl _⟩, ⟨by (with_reducible repeat (first | refine blk_drewN ?_ _ | refine blk_drew ?_ | refine blk_alloc ?_ _)); exact BK116.out⟩, ⟨by (with_reducible repeat (first | refine blk_drewN ?_ _ | refine blk_drew ?_ | refine blk_alloc ?_ _)); exact BK119.out⟩, ⟨by repeat (first | (with_reducible first | exact HB.out | apply below_alloc | apply pw_below_drewN | apply below_drew1 | refine below_set ?_ GE116.out | refine below_set ?_ GE119.out) | exact HB.out)⟩⟩
                 ·rw [if_neg c33] at H
                  have c33b0 : decide (0 < ((rd_T37 l0 x8_2).f1)) = false := decide_eq_false c33
                  clear c33
                  (first | rw [c33b0] | (simp only [i64_w, i32_w]; rw [c33b0]) | skip)
                  have H' := Aside0.mk H
                  clear H
                  have hnb36 := NB119_116.out
                  have hnc36 := NB116_119.out
                  have hcz37_0 : wc.cell? ⟨gb119, 0, none⟩ = some (.int .i64 ((rd_T37 l0 x8_2).f0)) := (blk_cell BK119.out 0).trans rfl; have hcz37_1 : wc.cell? ⟨gb119, 1, none⟩ = some (.int .i64 ((rd_T37 l0 x8_2).f1)) := (blk_cell BK119.out 1).trans rfl; have hcz37_2 : wc.cell? ⟨gb119, 2, none⟩ = some (.int .i64 ((rd_T37 l0 x8_2).f2)) := (blk_cell BK119.out 2).trans rfl; have hfz37_0 := blk_frozen BK119.out 0; have hfz37_1 := blk_frozen BK119.out 1; have hfz37_2 := blk_frozen BK119.out 2
                  go_wp2
                  go_meet
                  case rel => exact ⟨_, (false), (by first | rfl | (simp; done) | (simp [*]; done)), H', ⟨by have := HJ5.out; have := HK2.out; have := HJ13.out; have := HJ23.out; have := HJ29.out; first | omega | exact Nat.le_refl _⟩, ⟨by (with_reducible repeat (first | refine blk_drewN ?_ _ | refine blk_drew ?_ | refine blk_alloc ?_ _)); exact BK116.out⟩, ⟨by (with_reducible repeat (first | refine blk_drewN ?_ _ | refine blk_drew ?_ | refine blk_alloc ?_ _)); exact BK119.out⟩, ⟨by repeat (first | (with_reducible first | exact HB.out | apply below_alloc | apply pw_below_drewN | apply below_drew1 | refine below_set ?_ GE116.out | refine below_set ?_ GE119.out) | exact HB.out)⟩⟩
                case rest =>
                 clear HC32
                 (try clear c1); (try clear p1); (try clear q1); (try clear hx1); (try clear c2); (try clear p2); (try clear c3); (try clear c5); (try clear p6); (try clear c9); (try clear c9b0); (try clear c10); (try clear p11); (try clear q11); (try clear hx11); (try clear c12); (try clear c12b0); (try clear c13); (try clear c13b0); (try clear c15); (try clear c16); (try clear c18); (try clear c18b0); (try clear c19); (try clear c21); (try clear c23); (try clear c25); (try clear c25b0); (try clear c26); (try clear c28); (try clear c31); (try clear c33); (try clear c33b0); (try clear c34); (try clear c36); (try clear hcz11_0); (try clear hcz11_1); (try clear hcz11_2); (try clear hcz11_3); (try clear hcz17_0); (try clear hcz17_1); (try clear hcz17_2); (try clear hcz20_0); (try clear hcz20_1); (try clear hcz20_2); (try clear hcz22_0); (try clear hcz22_1); (try clear hcz22_2); (try clear hcz27_0); (try clear hcz27_1); (try clear hcz27_2); (try clear hcz29_0); (try clear hcz29_1); (try clear hcz29_2); (try clear hcz35_0); (try clear hcz35_1); (try clear hcz35_2); (try clear hcz37_0); (try clear hcz37_1); (try clear hcz37_2); (try clear hfz11_0); (try clear hfz11_1); (try clear hfz11_2); (try clear hfz11_3); (try clear hfz17_0); (try clear hfz17_1); (try clear hfz17_2); (try clear hfz20_0); (try clear hfz20_1); (try clear hfz20_2); (try clear hfz22_0); (try clear hfz22_1); (try clear hfz22_2); (try clear hfz27_0); (try clear hfz27_1); (try clear hfz27_2); (try clear hfz29_0); (try clear hfz29_1); (try clear hfz29_2); (try clear hfz35_0); (try clear hfz35_1); (try clear hfz35_2); (try clear hfz37_0); (try clear hfz37_1); (try clear hfz37_2); (try clear hx118_0); (try clear hx118_1); (try clear hx118_2); (try clear p1); (try clear p11); (try clear p118); (try clear p2); (try clear p6); (try clear q1); (try clear q11); (try clear q118)
                 obtain ⟨kq, x67_31, rfl, HA, HJ31, BK116, BK119, HB⟩ := hcut
                 cases kq with
                 | zero => exact absurd HA.out (by simp [emenderref08_Map.j5])
                 | succ kj31 =>
                  have H := HA.out
                  clear HA
                  simp only [emenderref08_Map.j5] at H
                  have HC38 := Aside0.mk H
                  clear H
                  go_upto_if 67 with (fail)
                  go_cut [11] (fun v11 wc => ∃ (kq : Nat) (x11_37 : Bool), v11 = .bool x11_37 ∧ Aside0 (emenderref08_Map.j6 kq l0 a1 a2 x8_2 (wrap64 (((rd_T37 l0 x8_2).f0) + ((rd_T37 l0 x8_2).f1))) x11_37 ((rd_T37 l0 x8_2).f0) ((rd_T37 l0 x8_2).f1) ((rd_T37 l0 x8_2).f2) = some (r1, r2, r3, r4, r5)) ∧ Aside0 (kq ≤ kj31) ∧ Aside0 (wc.heap[gb116]? = some (.cells #[.int .i64 x117000_2, .bool x117001_2, .int .i64 x117002_2, .int .i64 x117003_2] 24 (0, 0))) ∧ Aside0 (wc.heap[gb119]? = some (.cells #[.int .i64 ((rd_T37 l0 x8_2).f0), .int .i64 ((rd_T37 l0 x8_2).f1), .int .i64 ((rd_T37 l0 x8_2).f2)] 37 (0, 0))) ∧ Aside0 (Below w.heap.size w wc))
                  case first =>
                   have H := HC38.out
                   clear HC38
                   by_cases c39 : x67_31 = true
                   ·subst c39
                    have H1 : (emenderref08_Map.j6 kj31 l0 a1 a2 x8_2 (wrap64 (((rd_T37 l0 x8_2).f0) + ((rd_T37 l0 x8_2).f1))) false ((rd_T37 l0 x8_2).f0) ((rd_T37 l0 x8_2).f1) ((rd_T37 l0 x8_2).f2)) = some (r1, r2, r3, r4, r5) := by rw [if_pos rfl] at H; exact H
                    clear H
                    have H := H1
                    clear H1
                    have H' := Aside0.mk H
                    clear H
                    go_wp2
                    go_meet
                    case rel => exact ⟨_, (false), (by first | rfl | (simp; done) | (simp [*]; done)), H', ⟨by have := HJ5.out; have := HK2.out; have := HJ13.out; have := HJ23.out; have := HJ29.out; have := HJ31.out; first | omega | exact Nat.le_refl _⟩, ⟨by (with_reducible repeat (first | refine blk_drewN ?_ _ | refine blk_drew ?_ | refine blk_alloc ?_ _)); exact BK116.out⟩, ⟨by (with_reducible repeat (first | refine blk_drewN ?_ _ | refine blk_drew ?_ | refine blk_alloc ?_ _)); exact BK119.out⟩, ⟨by repeat (first | (with_reducible first | exact HB.out | apply below_alloc | apply pw_below_drewN | apply below_drew1 | refine below_set ?_ GE116.out | refine below_set ?_ GE119.out) | exact HB.out)⟩⟩
                   ·replace c39 := Bool.eq_false_iff.mpr c39
                    subst c39
                    have H1 : (emenderref08_Map.j6 kj31 l0 a1 a2 x8_2 (wrap64 (((rd_T37 l0 x8_2).f0) + ((rd_T37 l0 x8_2).f1))) x11_29 ((rd_T37 l0 x8_2).f0) ((rd_T37 l0 x8_2).f1) ((rd_T37 l0 x8_2).f2)) = some (r1, r2, r3, r4, r5) := by rw [if_neg (show ¬ (false = true) by decide)] at H; exact H
                    clear H
                    have H := H1
                    clear H1
                    have H' := Aside0.mk H
                    clear H
                    go_wp2
                    go_meet
                    case rel => exact ⟨_, (x11_29), (by first | rfl | (simp; done) | (simp [*]; done)), H', ⟨by have := HJ5.out; have := HK2.out; have := HJ13.out; have := HJ23.out; have := HJ29.out; have := HJ31.out; first | omega | exact Nat.le_refl _⟩, ⟨by (with_reducible repeat (first | refine blk_drewN ?_ _ | refine blk_drew ?_ | refine blk_alloc ?_ _)); exact BK116.out⟩, ⟨by (with_reducible repeat (first | refine blk_drewN ?_ _ | refine blk_drew ?_ | refine blk_alloc ?_ _)); exact BK119.out⟩, ⟨by repeat (first | (with_reducible first | exact HB.out | apply below_alloc | apply pw_below_drewN | apply below_drew1 | refine below_set ?_ GE116.out | refine below_set ?_ GE119.out) | exact HB.out)⟩⟩
                  case rest =>
                   clear HC38
                   (try clear c1); (try clear p1); (try clear q1); (try clear hx1); (try clear c2); (try clear p2); (try clear c3); (try clear c5); (try clear p6); (try clear c9); (try clear c9b0); (try clear c10); (try clear p11); (try clear q11); (try clear hx11); (try clear c12); (try clear c12b0); (try clear c13); (try clear c13b0); (try clear c15); (try clear c16); (try clear c18); (try clear c18b0); (try clear c19); (try clear c21); (try clear c23); (try clear c25); (try clear c25b0); (try clear c26); (try clear c28); (try clear c31); (try clear c33); (try clear c33b0); (try clear c34); (try clear c36); (try clear c39); (try clear hcz11_0); (try clear hcz11_1); (try clear hcz11_2); (try clear hcz11_3); (try clear hcz17_0); (try clear hcz17_1); (try clear hcz17_2); (try clear hcz20_0); (try clear hcz20_1); (try clear hcz20_2); (try clear hcz22_0); (try clear hcz22_1); (try clear hcz22_2); (try clear hcz27_0); (try clear hcz27_1); (try clear hcz27_2); (try clear hcz29_0); (try clear hcz29_1); (try clear hcz29_2); (try clear hcz35_0); (try clear hcz35_1); (try clear hcz35_2); (try clear hcz37_0); (try clear hcz37_1); (try clear hcz37_2); (try clear hfz11_0); (try clear hfz11_1); (try clear hfz11_2); (try clear hfz11_3); (try clear hfz17_0); (try clear hfz17_1); (try clear hfz17_2); (try clear hfz20_0); (try clear hfz20_1); (try clear hfz20_2); (try clear hfz22_0); (try clear hfz22_1); (try clear hfz22_2); (try clear hfz27_0); (try clear hfz27_1); (try clear hfz27_2); (try clear hfz29_0); (try clear hfz29_1); (try clear hfz29_2); (try clear hfz35_0); (try clear hfz35_1); (try clear hfz35_2); (try clear hfz37_0); (try clear hfz37_1); (try clear hfz37_2); (try clear hx118_0); (try clear hx118_1); (try clear hx118_2); (try clear p1); (try clear p11); (try clear p118); (try clear p2); (try clear p6); (try clear q1); (try clear q11); (try clear q118)
                   obtain ⟨kq, x11_37, rfl, HA, HJ37, BK116, BK119, HB⟩ := hcut
                   cases kq with
                   | zero => exact absurd HA.out (by simp [emenderref08_Map.j6])
                   | succ kj37 =>
                    have H := HA.out
                    clear HA
                    simp only [emenderref08_Map.j6] at H
                    by_cases c40 : a1 > ((rd_T37 l0 x8_2).f0)
                    ·rw [if_pos c40] at H
                     have c40b0 : decide (((rd_T37 l0 x8_2).f0) < a1) = true := decide_eq_true c40
                     clear c40
                     replace H := Option.bind_eq_some_iff.mp H
                     obtain ⟨t125, A410, H⟩ := H
                     replace H : (if x11_37 = true then (emenderref08_Map.j7 kj37 a1 a2 (wrap64 (((rd_T37 l0 x8_2).f0) + ((rd_T37 l0 x8_2).f1))) ((rd_T37 l0 x8_2).f0) ((rd_T37 l0 x8_2).f1) ((rd_T37 l0 x8_2).f2) (wrap64 (((rd_T37 l0 x8_2).f0) + t125)) (decide (a1 < (wrap64 (((rd_T37 l0 x8_2).f0) + ((rd_T37 l0 x8_2).f1))))) x8_2 (wrap64 (a1 - ((rd_T37 l0 x8_2).f0)))) else (emenderref08_Map.j7 kj37 a1 a2 (wrap64 (((rd_T37 l0 x8_2).f0) + ((rd_T37 l0 x8_2).f1))) ((rd_T37 l0 x8_2).f0) ((rd_T37 l0 x8_2).f1) ((rd_T37 l0 x8_2).f2) (wrap64 ((wrap64 (((rd_T37 l0 x8_2).f0) + t125)) + ((rd_T37 l0 x8_2).f2))) (decide (a1 < (wrap64 (((rd_T37 l0 x8_2).f0) + ((rd_T37 l0 x8_2).f1))))) x8_2 (wrap64 (a1 - ((rd_T37 l0 x8_2).f0))))) = some (r1, r2, r3, r4, r5) := H
                     have A41 := Aside0.mk A410
                     clear A410
                     have HC42 := Aside0.mk H
                     clear H
                     try go_wp2
                     have n0_ := Aside0.mk (blk_drew BK116.out)
                     have n1_ := Aside0.mk (blk_drew BK119.out)
                     have n2_ := Aside0.mk (below_drew1 HB.out)
                     clear BK116
                     clear BK119
                     clear HB
                     have BK116 := n0_
                     have BK119 := n1_
                     have HB := n2_
                     clear n0_ n1_ n2_
                     refine start_ (n := 23) (S := fun w' => w'.cell? ⟨gb119, 0, none⟩ = some (.int .i64 ((rd_T37 l0 x8_2).f0)) ∧ w'.cell? ⟨gb119, 1, none⟩ = some (.int .i64 ((rd_T37 l0 x8_2).f1)) ∧ w'.cell? ⟨gb119, 2, none⟩ = some (.int .i64 ((rd_T37 l0 x8_2).f2))) (ds := []) #[false, false, false, false, false, false, false, false, false, false, false, false, false, false, false, false, false, false, false, false, false, false, false] (by kernel_rfl) rfl rfl ⟨(blk_cell BK119.out 0).trans rfl, (blk_cell BK119.out 1).trans rfl, (blk_cell BK119.out 2).trans rfl⟩ (fun hHeld => ?_); refine with_tabW emenderref08_Map.tab16 emenderref08_Map.bits16 (fun HT_ HW_ => ?_)
                     generalize wc.drew = w43 at BK116 BK119 HB hHeld ⊢
                     refine pure_ (i := 0) (N := some 68) (v := ?_) (a' := ?_) #[true, false, false, false, false, false, false, false, false, false, false, false, false, false, false, false, false, false, false, false, false, false, false] rfl rfl (any_of HT_.out (by kernel_rfl)) (fun _ _ _ h => h) (Or.inl ⟨by rfl, ?_⟩) ?_ ?_
                     rotate_left
                     ·intro w'; go_simp; with_reducible rfl
                     rotate_left
                     ·simp only [Act.put, List.setIfInBounds_toArray, List.set_cons_zero, List.set_cons_succ, i64_w, i32_w]; rfl
                     refine pure_ (i := 2) (N := some 70) (v := ?_) (a' := ?_) #[true, false, true, false, false, false, false, false, false, false, false, false, false, false, false, false, false, false, false, false, false, false, false] rfl rfl (any_of HT_.out (by kernel_rfl)) (fun _ _ _ h => h) (Or.inl ⟨by rfl, ?_⟩) ?_ ?_
                     rotate_left
                     ·intro w'; go_simp; with_reducible rfl
                     rotate_left
                     ·simp only [Act.put, List.setIfInBounds_toArray, List.set_cons_zero, List.set_cons_succ, i64_w, i32_w]; rfl
                     refine pure_ (i := 3) (N := some 71) (v := ?_) (a' := ?_) #[true, false, true, true, false, false, false, false, false, false, false, false, false, false, false, false, false, false, false, false, false, false, false] rfl rfl (any_of HT_.out (by kernel_rfl)) (fun _ _ _ h => h) (Or.inl ⟨by rfl, ?_⟩) ?_ ?_
                     rotate_left
                     ·intro w'; go_simp; with_reducible rfl
                     rotate_left
                     ·simp only [Act.put, List.setIfInBounds_toArray, List.set_cons_zero, List.set_cons_succ, i64_w, i32_w]; rfl
                     refine pure_ (i := 6) (N := some 74) (v := ?_) (a' := ?_) #[true, false, true, true, false, false, true, false, false, false, false, false, false, false, false, false, false, false, false, false, false, false, false] rfl rfl (any_of HT_.out (by kernel_rfl)) (fun _ _ _ h => h) (Or.inl ⟨by rfl, ?_⟩) ?_ ?_
                     rotate_left
                     ·intro w'; go_simp; with_reducible rfl
                     rotate_left
                     ·simp only [Act.put, List.setIfInBounds_toArray, List.set_cons_zero, List.set_cons_succ, i64_w, i32_w]; rfl
                     refine pure_ (i := 7) (N := some 75) (v := ?_) (a' := ?_) #[true, false, true, true, false, false, true, true, false, false, false, false, false, false, false, false, false, false, false, false, false, false, false] rfl rfl (any_of HT_.out (by kernel_rfl)) (fun _ _ _ h => h) (Or.inl ⟨by rfl, ?_⟩) ?_ ?_
                     rotate_left
                     ·intro w'; go_simp; with_reducible rfl
                     rotate_left
                     ·simp only [Act.put, List.setIfInBounds_toArray, List.set_cons_zero, List.set_cons_succ, i64_w, i32_w]; rfl
                     refine pure_ (i := 15) (N := some 83) (v := ?_) (a' := ?_) #[true, false, true, true, false, false, true, true, false, false, false, false, false, false, false, true, false, false, false, false, false, false, false] rfl rfl (any_of HT_.out (by kernel_rfl)) (fun _ _ _ h => h) (Or.inl ⟨by rfl, ?_⟩) ?_ ?_
                     rotate_left
                     ·intro w'; go_simp; with_reducible rfl
                     rotate_left
                     ·simp only [Act.put, List.setIfInBounds_toArray, List.set_cons_zero, List.set_cons_succ, i64_w, i32_w]; rfl
                     refine pure_ (i := 16) (N := some 84) (v := ?_) (a' := ?_) #[true, false, true, true, false, false, true, true, false, false, false, false, false, false, false, true, true, false, false, false, false, false, false] rfl rfl (any_of HT_.out (by kernel_rfl)) (fun _ _ _ h => h) (Or.inl ⟨by rfl, ?_⟩) ?_ ?_
                     rotate_left
                     ·intro w'; go_simp; with_reducible rfl
                     rotate_left
                     ·simp only [Act.put, List.setIfInBounds_toArray, List.set_cons_zero, List.set_cons_succ, i64_w, i32_w]; rfl
                     refine pure_ (i := 17) (N := some 85) (v := ?_) (a' := ?_) #[true, false, true, true, false, false, true, true, false, false, false, false, false, false, false, true, true, true, false, false, false, false, false] rfl rfl (any_of HT_.out (by kernel_rfl)) (fun _ _ _ h => h) (Or.inl ⟨by rfl, ?_⟩) ?_ ?_
                     rotate_left
                     ·intro w'; go_simp; with_reducible rfl
                     rotate_left
                     ·simp only [Act.put, List.setIfInBounds_toArray, List.set_cons_zero, List.set_cons_succ, i64_w, i32_w]; rfl
                     refine take_ (i := 1) (N := some 69) (v := ?_) (a' := ?_) #[true, true, true, true, false, false, true, true, false, false, false, false, false, false, false, true, true, true, false, false, false, false, false] rfl rfl (take_ofW HT_.out HW_.out (by kernel_rfl)) (fun _ _ _ h => h) (Or.inl ⟨by rfl, ?_⟩) hHeld ?_ ?_
                     rotate_left
                     ·rintro w' ⟨s0, s1, s2⟩
                      go_simp
                      with_reducible rfl
                     rotate_left
                     ·simp only [Act.put, List.setIfInBounds_toArray, List.set_cons_zero, List.set_cons_succ, i64_w, i32_w]; rfl
                     refine take_ (i := 8) (N := some 76) (v := ?_) (a' := ?_) #[true, true, true, true, false, false, true, true, true, false, false, false, false, false, false, true, true, true, false, false, false, false, false] rfl rfl (take_ofW HT_.out HW_.out (by kernel_rfl)) (fun _ _ _ h => h) (Or.inl ⟨by rfl, ?_⟩) hHeld ?_ ?_
                     rotate_left
                     ·rintro w' ⟨s0, s1, s2⟩
                      go_simp
                      with_reducible rfl
                     rotate_left
                     ·simp only [Act.put, List.setIfInBounds_toArray, List.set_cons_zero, List.set_cons_succ, i64_w, i32_w]; rfl
                     refine pure_ (i := 9) (N := some 77) (v := ?_) (a' := ?_) #[true, true, true, true, false, false, true, true, true, true, false, false, false, false, false, true, true, true, false, false, false, false, false] rfl rfl (any_of HT_.out (by kernel_rfl)) (fun _ _ _ h => h) (Or.inl ⟨by rfl, ?_⟩) ?_ ?_
                     rotate_left
                     ·intro w'; go_simp; with_reducible rfl
                     rotate_left
                     ·simp only [Act.put, List.setIfInBounds_toArray, List.set_cons_zero, List.set_cons_succ, i64_w, i32_w]; rfl
                     refine take_ (i := 18) (N := some 86) (v := ?_) (a' := ?_) #[true, true, true, true, false, false, true, true, true, true, false, false, false, false, false, true, true, true, true, false, false, false, false] rfl rfl (take_ofW HT_.out HW_.out (by kernel_rfl)) (fun _ _ _ h => h) (Or.inl ⟨by rfl, ?_⟩) hHeld ?_ ?_
                     rotate_left
                     ·rintro w' ⟨s0, s1, s2⟩
                      go_simp
                      with_reducible rfl
                     rotate_left
                     ·simp only [Act.put, List.setIfInBounds_toArray, List.set_cons_zero, List.set_cons_succ, i64_w, i32_w]; rfl
                     refine pure_ (i := 19) (N := some 87) (v := ?_) (a' := ?_) #[true, true, true, true, false, false, true, true, true, true, false, false, false, false, false, true, true, true, true, true, false, false, false] rfl rfl (any_of HT_.out (by kernel_rfl)) (fun _ _ _ h => h) (Or.inl ⟨by rfl, ?_⟩) ?_ ?_
                     rotate_left
                     ·intro w'; go_simp; with_reducible rfl
                     rotate_left
                     ·simp only [Act.put, List.setIfInBounds_toArray, List.set_cons_zero, List.set_cons_succ, i64_w, i32_w]; rfl
                     refine join_ (σ := Nat) 1 #[true, true, true, true, true, true, true, true, true, true, true, true, true, true, true, true, true, true, true, true, true, true, false] (fun s_ => [(72, .int .i64 t125), (12, .pointer (some ⟨s_, 0, none⟩)), (73, .int .i64 (wrap64 (((rd_T37 l0 x8_2).f0) + t125))), (78, .bool (decide (a1 > ((rd_T37 l0 x8_2).f0)))), (79, .int .i64 a1), (80, .int .i64 (wrap64 (((rd_T37 l0 x8_2).f0) + ((rd_T37 l0 x8_2).f1)))), (81, .bool (decide (a1 < (wrap64 (((rd_T37 l0 x8_2).f0) + ((rd_T37 l0 x8_2).f1)))))), (82, .bool (decide (a1 < (wrap64 (((rd_T37 l0 x8_2).f0) + ((rd_T37 l0 x8_2).f1)))))), (88, .agg #[.int .i64 (wrap64 (((rd_T37 l0 x8_2).f0) + t125)), .bool (decide (a1 < (wrap64 (((rd_T37 l0 x8_2).f0) + ((rd_T37 l0 x8_2).f1))))), .int .i64 x8_2, .int .i64 (wrap64 (a1 - ((rd_T37 l0 x8_2).f0)))])]) (fun s_ w' => (w'.cell? ⟨gb119, 0, none⟩ = some (.int .i64 ((rd_T37 l0 x8_2).f0)) ∧ w'.cell? ⟨gb119, 1, none⟩ = some (.int .i64 ((rd_T37 l0 x8_2).f1)) ∧ w'.cell? ⟨gb119, 2, none⟩ = some (.int .i64 ((rd_T37 l0 x8_2).f2))) ∧ (w'.heap[gb116]? = some (.cells #[.int .i64 x117000_2, .bool x117001_2, .int .i64 x117002_2, .int .i64 x117003_2] 24 (0, 0))) ∧ (w'.heap[gb119]? = some (.cells #[.int .i64 ((rd_T37 l0 x8_2).f0), .int .i64 ((rd_T37 l0 x8_2).f1), .int .i64 ((rd_T37 l0 x8_2).f2)] 37 (0, 0))) ∧ (w'.heap[s_]? = some (.cells #[.int .i64 0, .bool false, .int .i64 0, .int .i64 0] 24 (0, 0))) ∧ (w.heap.size ≤ s_) ∧ (w.heap.size ≤ s_) ∧ (gb116 ≠ s_) ∧ (s_ ≠ gb116) ∧ (gb119 ≠ s_) ∧ (s_ ≠ gb119) ∧ (Below w.heap.size w w')) ?_ ?_
                     rotate_left
                     ·intro hCont
                      refine two_ (i := 4) (j := 21) (Ni := some 72) (Nj := some 12) #[true, true, true, true, true, false, true, true, true, true, false, false, false, false, false, true, true, true, true, true, false, false, false] #[true, true, true, true, false, false, true, true, true, true, false, false, false, false, false, true, true, true, true, true, false, true, false] rfl rfl rfl rfl (two_of HT_.out (by kernel_rfl)) (by decide) (by decide) (fun K hK => ?_) (fun K hK => ?_)
                      ·skip
                       refine goes_ Try.func32 (by kernel_rfl) rfl #[.slice (some ad118) l0.length c0, .int .i64 x8_2] (by rfl) rfl rfl (by (try simp only [List.map_toArray, List.map_cons, List.map_nil]); first | done | rfl | (simp only [List.length_drop, List.length_take]; rfl)) ?_
                       with_reducible refine (emenderref08_shift.calls kj37 _ _ l0 x8_2 t125 _ ?side1 ?side2 A41.out).mono ?_
                       (case side1 => repeat (first | exact (Kd.C_below HR0.out HB.out) | (with_reducible refine Kd.C_alloc ?_ _) | (with_reducible refine Kd.C_drewN ?_ _) | (with_reducible refine Kd.C_drew ?_)))
                       (case side2 => exact HC0.out)
                       rintro e w' ⟨rfl, ⟨nd, rfl⟩⟩
                       refine ⟨_, rfl, ?_⟩
                       refine hK.out _ _ ⟨(blk_cell BK119.out 0).trans rfl, (blk_cell BK119.out 1).trans rfl, (blk_cell BK119.out 2).trans rfl⟩ (fun hHeld => ?_)
                       clear hK K
                       refine norm_ (a' := ?_) ?_ ?_
                       rotate_left
                       ·show Act.put _ (some 72) _ = _
                        simp only [Act.put, List.setIfInBounds_toArray, List.set_cons_zero, List.set_cons_succ, i64_w, i32_w]
                        rfl
                       refine pure_ (i := 5) (N := some 73) (v := ?_) (a' := ?_) #[true, true, true, true, true, true, true, true, true, true, false, false, false, false, false, true, true, true, true, true, false, false, false] rfl rfl (any_of HT_.out (by kernel_rfl)) (fun _ _ _ h => h) (Or.inl ⟨by rfl, ?_⟩) ?_ ?_
                       rotate_left
                       ·intro w'; go_simp; with_reducible rfl
                       rotate_left
                       ·simp only [Act.put, List.setIfInBounds_toArray, List.set_cons_zero, List.set_cons_succ, i64_w, i32_w]; rfl
                       refine pure_ (i := 10) (N := some 78) (v := ?_) (a' := ?_) #[true, true, true, true, true, true, true, true, true, true, true, false, false, false, false, true, true, true, true, true, false, false, false] rfl rfl (any_of HT_.out (by kernel_rfl)) (fun _ _ _ h => h) (Or.inl ⟨by rfl, ?_⟩) ?_ ?_
                       rotate_left
                       ·intro w'; go_simp; with_reducible rfl
                       rotate_left
                       ·simp only [Act.put, List.setIfInBounds_toArray, List.set_cons_zero, List.set_cons_succ, i64_w, i32_w]; rfl
                       refine pure_ (i := 11) (N := some 79) (v := ?_) (a' := ?_) #[true, true, true, true, true, true, true, true, true, true, true, true, false, false, false, true, true, true, true, true, false, false, false] rfl rfl (any_of HT_.out (by kernel_rfl)) (fun _ _ _ h => h) (Or.inl ⟨by rfl, ?_⟩) ?_ ?_
                       rotate_left
                       ·intro w'; go_simp; with_reducible rfl
                       rotate_left
                       ·simp only [Act.put, List.setIfInBounds_toArray, List.set_cons_zero, List.set_cons_succ, i64_w, i32_w]; rfl
                       refine pure_ (i := 12) (N := some 80) (v := ?_) (a' := ?_) #[true, true, true, true, true, true, true, true, true, true, true, true, true, false, false, true, true, true, true, true, false, false, false] rfl rfl (any_of HT_.out (by kernel_rfl)) (fun _ _ _ h => h) (Or.inl ⟨by rfl, ?_⟩) ?_ ?_
                       rotate_left
                       ·intro w'; go_simp; with_reducible rfl
                       rotate_left
                       ·simp only [Act.put, List.setIfInBounds_toArray, List.set_cons_zero, List.set_cons_succ, i64_w, i32_w]; rfl
                       refine pure_ (i := 13) (N := some 81) (v := ?_) (a' := ?_) #[true, true, true, true, true, true, true, true, true, true, true, true, true, true, false, true, true, true, true, true, false, false, false] rfl rfl (any_of HT_.out (by kernel_rfl)) (fun _ _ _ h => h) (Or.inl ⟨by rfl, ?_⟩) ?_ ?_
                       rotate_left
                       ·intro w'; go_simp; with_reducible rfl
                       rotate_left
                       ·simp only [Act.put, List.setIfInBounds_toArray, List.set_cons_zero, List.set_cons_succ, i64_w, i32_w]; rfl
                       refine pure_ (i := 14) (N := some 82) (v := ?_) (a' := ?_) #[true, true, true, true, true, true, true, true, true, true, true, true, true, true, true, true, true, true, true, true, false, false, false] rfl rfl (any_of HT_.out (by kernel_rfl)) (fun _ _ _ h => h) (Or.inl ⟨by rfl, ?_⟩) ?_ ?_
                       rotate_left
                       ·intro w'; go_simp; with_reducible rfl
                       rotate_left
                       ·simp only [Act.put, List.setIfInBounds_toArray, List.set_cons_zero, List.set_cons_succ, i64_w, i32_w]; rfl
                       refine pure_ (i := 20) (N := some 88) (v := ?_) (a' := ?_) #[true, true, true, true, true, true, true, true, true, true, true, true, true, true, true, true, true, true, true, true, true, false, false] rfl rfl (any_of HT_.out (by kernel_rfl)) (fun _ _ _ h => h) (Or.inl ⟨by rfl, ?_⟩) ?_ ?_
                       rotate_left
                       ·intro w'; go_simp; with_reducible rfl
                       rotate_left
                       ·simp only [Act.put, List.setIfInBounds_toArray, List.set_cons_zero, List.set_cons_succ, i64_w, i32_w]; rfl
                       refine one_ (i := 21) (N := some 12) #[true, true, true, true, true, true, true, true, true, true, true, true, true, true, true, true, true, true, true, true, true, true, false] rfl rfl (one_of HT_.out (by kernel_rfl)) (by decide) (fun K hK => ?_)
                       refine box_step ?hg (N := 12) ?hd (cs := #[.int .i64 0, .bool false, .int .i64 0, .int .i64 0]) (t := 24) ?hr ?_; (case hd => rfl); (case hg => rfl); (case hr => first | (go_simp; done) | (go_simp; rfl))
                       intro gb126 hg w44 hbox hb
                       have n0_ := Aside0.mk (blk_below (g := gb116) (o := .cells #[.int .i64 x117000_2, .bool x117001_2, .int .i64 x117002_2, .int .i64 x117003_2] 24 (0, 0)) (by (with_reducible repeat (first | refine blk_drewN ?_ _ | refine blk_drew ?_ | refine blk_alloc ?_ _)); exact BK116.out) hb)
                       have n1_ := Aside0.mk (blk_below (g := gb119) (o := .cells #[.int .i64 ((rd_T37 l0 x8_2).f0), .int .i64 ((rd_T37 l0 x8_2).f1), .int .i64 ((rd_T37 l0 x8_2).f2)] 37 (0, 0)) (by (with_reducible repeat (first | refine blk_drewN ?_ _ | refine blk_drew ?_ | refine blk_alloc ?_ _)); exact BK119.out) hb)
                       have n2_ := Aside0.mk (below_step (by repeat (first | (with_reducible first | exact HB.out | apply below_alloc | apply pw_below_drewN | apply below_drew1 | refine below_set ?_ GE116.out | refine below_set ?_ GE119.out) | exact HB.out)) hb)
                       have n3_ := Aside0.mk (hbox)
                       have n4_ := Aside0.mk ((by rw [hg]; exact (below_size (by repeat (first | (with_reducible first | exact HB.out | apply below_alloc | apply pw_below_drewN | apply below_drew1 | refine below_set ?_ GE116.out | refine below_set ?_ GE119.out) | exact HB.out))) : w.heap.size ≤ gb126))
                       have n5_ := Aside0.mk ((by rw [hg]; exact (below_size (by repeat (first | (with_reducible first | exact HB.out | apply below_alloc | apply pw_below_drewN | apply below_drew1 | refine below_set ?_ GE116.out | refine below_set ?_ GE119.out) | exact HB.out))) : w.heap.size ≤ gb126))
                       have n6_ := Aside0.mk ((by rw [hg]; exact Nat.ne_of_lt (blk_lt (g := gb116) (o := .cells #[.int .i64 x117000_2, .bool x117001_2, .int .i64 x117002_2, .int .i64 x117003_2] 24 (0, 0)) (by (with_reducible repeat (first | refine blk_drewN ?_ _ | refine blk_drew ?_ | refine blk_alloc ?_ _)); exact BK116.out)) : gb116 ≠ gb126))
                       have n7_ := Aside0.mk ((by rw [hg]; exact Nat.ne_of_gt (blk_lt (g := gb116) (o := .cells #[.int .i64 x117000_2, .bool x117001_2, .int .i64 x117002_2, .int .i64 x117003_2] 24 (0, 0)) (by (with_reducible repeat (first | refine blk_drewN ?_ _ | refine blk_drew ?_ | refine blk_alloc ?_ _)); exact BK116.out)) : gb126 ≠ gb116))
                       have n8_ := Aside0.mk ((by rw [hg]; exact Nat.ne_of_lt (blk_lt (g := gb119) (o := .cells #[.int .i64 ((rd_T37 l0 x8_2).f0), .int .i64 ((rd_T37 l0 x8_2).f1), .int .i64 ((rd_T37 l0 x8_2).f2)] 37 (0, 0)) (by (with_reducible repeat (first | refine blk_drewN ?_ _ | refine blk_drew ?_ | refine blk_alloc ?_ _)); exact BK119.out)) : gb119 ≠ gb126))
                       have n9_ := Aside0.mk ((by rw [hg]; exact Nat.ne_of_gt (blk_lt (g := gb119) (o := .cells #[.int .i64 ((rd_T37 l0 x8_2).f0), .int .i64 ((rd_T37 l0 x8_2).f1), .int .i64 ((rd_T37 l0 x8_2).f2)] 37 (0, 0)) (by (with_reducible repeat (first | refine blk_drewN ?_ _ | refine blk_drew ?_ | refine blk_alloc ?_ _)); exact BK119.out)) : gb126 ≠ gb119))
                       clear BK116
                       clear BK119
                       clear HB
                       have BK116 := n0_
                       have BK119 := n1_
                       have HB := n2_
                       have BK126 := n3_
                       have GW126 := n4_
                       have GE126 := n5_
                       have NB116_126 := n6_
                       have NB126_116 := n7_
                       have NB119_126 := n8_
                       have NB126_119 := n9_
                       clear n0_ n1_ n2_ n3_ n4_ n5_ n6_ n7_ n8_ n9_
                       clear hb hbox hg
                       refine hK.out _ _ ⟨(blk_cell BK119.out 0).trans rfl, (blk_cell BK119.out 1).trans rfl, (blk_cell BK119.out 2).trans rfl⟩ (fun hHeld => ?_)
                       clear hK K
                       refine norm_ (a' := ?_) ?_ ?_
                       rotate_left
                       ·show Act.put _ (some 12) _ = _
                        simp only [Act.put, List.setIfInBounds_toArray, List.set_cons_zero, List.set_cons_succ, i64_w, i32_w]
                        rfl
                       exact norm_ (by simp only [putAll, Act.put, List.setIfInBounds_toArray, List.set_cons_zero, List.set_cons_succ] <;> simp only [gt_iff_lt, *]) (hCont (gb126) _ ⟨hHeld, (by (with_reducible repeat (first | refine blk_drewN ?_ _ | refine blk_drew ?_ | refine blk_alloc ?_ _)); exact BK116.out), (by (with_reducible repeat (first | refine blk_drewN ?_ _ | refine blk_drew ?_ | refine blk_alloc ?_ _)); exact BK119.out), (by (with_reducible repeat (first | refine blk_drewN ?_ _ | refine blk_drew ?_ | refine blk_alloc ?_ _)); exact BK126.out), GW126.out, GE126.out, NB116_126.out, NB126_116.out, NB119_126.out, NB126_119.out, (by repeat (first | (with_reducible first | exact HB.out | apply below_alloc | apply pw_below_drewN | apply below_drew1 | refine below_set ?_ GE116.out | refine below_set ?_ GE119.out | refine below_set ?_ GE126.out) | exact HB.out))⟩)
                      ·skip
                       refine box_step ?hg (N := 12) ?hd (cs := #[.int .i64 0, .bool false, .int .i64 0, .int .i64 0]) (t := 24) ?hr ?_; (case hd => rfl); (case hg => rfl); (case hr => first | (go_simp; done) | (go_simp; rfl))
                       intro gb126 hg w44 hbox hb
                       have n0_ := Aside0.mk (blk_below (g := gb116) (o := .cells #[.int .i64 x117000_2, .bool x117001_2, .int .i64 x117002_2, .int .i64 x117003_2] 24 (0, 0)) (by (with_reducible repeat (first | refine blk_drewN ?_ _ | refine blk_drew ?_ | refine blk_alloc ?_ _)); exact BK116.out) hb)
                       have n1_ := Aside0.mk (blk_below (g := gb119) (o := .cells #[.int .i64 ((rd_T37 l0 x8_2).f0), .int .i64 ((rd_T37 l0 x8_2).f1), .int .i64 ((rd_T37 l0 x8_2).f2)] 37 (0, 0)) (by (with_reducible repeat (first | refine blk_drewN ?_ _ | refine blk_drew ?_ | refine blk_alloc ?_ _)); exact BK119.out) hb)
                       have n2_ := Aside0.mk (below_step (by repeat (first | (with_reducible first | exact HB.out | apply below_alloc | apply pw_below_drewN | apply below_drew1 | refine below_set ?_ GE116.out | refine below_set ?_ GE119.out) | exact HB.out)) hb)
                       have n3_ := Aside0.mk (hbox)
                       have n4_ := Aside0.mk ((by rw [hg]; exact (below_size (by repeat (first | (with_reducible first | exact HB.out | apply below_alloc | apply pw_below_drewN | apply below_drew1 | refine below_set ?_ GE116.out | refine below_set ?_ GE119.out) | exact HB.out))) : w.heap.size ≤ gb126))
                       have n5_ := Aside0.mk ((by rw [hg]; exact (below_size (by repeat (first | (with_reducible first | exact HB.out | apply below_alloc | apply pw_below_drewN | apply below_drew1 | refine below_set ?_ GE116.out | refine below_set ?_ GE119.out) | exact HB.out))) : w.heap.size ≤ gb126))
                       have n6_ := Aside0.mk ((by rw [hg]; exact Nat.ne_of_lt (blk_lt (g := gb116) (o := .cells #[.int .i64 x117000_2, .bool x117001_2, .int .i64 x117002_2, .int .i64 x117003_2] 24 (0, 0)) (by (with_reducible repeat (first | refine blk_drewN ?_ _ | refine blk_drew ?_ | refine blk_alloc ?_ _)); exact BK116.out)) : gb116 ≠ gb126))
                       have n7_ := Aside0.mk ((by rw [hg]; exact Nat.ne_of_gt (blk_lt (g := gb116) (o := .cells #[.int .i64 x117000_2, .bool x117001_2, .int .i64 x117002_2, .int .i64 x117003_2] 24 (0, 0)) (by (with_reducible repeat (first | refine blk_drewN ?_ _ | refine blk_drew ?_ | refine blk_alloc ?_ _)); exact BK116.out)) : gb126 ≠ gb116))
                       have n8_ := Aside0.mk ((by rw [hg]; exact Nat.ne_of_lt (blk_lt (g := gb119) (o := .cells #[.int .i64 ((rd_T37 l0 x8_2).f0), .int .i64 ((rd_T37 l0 x8_2).f1), .int .i64 ((rd_T37 l0 x8_2).f2)] 37 (0, 0)) (by (with_reducible repeat (first | refine blk_drewN ?_ _ | refine blk_drew ?_ | refine blk_alloc ?_ _)); exact BK119.out)) : gb119 ≠ gb126))
                       have n9_ := Aside0.mk ((by rw [hg]; exact Nat.ne_of_gt (blk_lt (g := gb119) (o := .cells #[.int .i64 ((rd_T37 l0 x8_2).f0), .int .i64 ((rd_T37 l0 x8_2).f1), .int .i64 ((rd_T37 l0 x8_2).f2)] 37 (0, 0)) (by (with_reducible repeat (first | refine blk_drewN ?_ _ | refine blk_drew ?_ | refine blk_alloc ?_ _)); exact BK119.out)) : gb126 ≠ gb119))
                       clear BK116
                       clear BK119
                       clear HB
                       have BK116 := n0_
                       have BK119 := n1_
                       have HB := n2_
                       have BK126 := n3_
                       have GW126 := n4_
                       have GE126 := n5_
                       have NB116_126 := n6_
                       have NB126_116 := n7_
                       have NB119_126 := n8_
                       have NB126_119 := n9_
                       clear n0_ n1_ n2_ n3_ n4_ n5_ n6_ n7_ n8_ n9_
                       clear hb hbox hg
                       refine hK.out _ _ ⟨(blk_cell BK119.out 0).trans rfl, (blk_cell BK119.out 1).trans rfl, (blk_cell BK119.out 2).trans rfl⟩ (fun hHeld => ?_)
                       clear hK K
                       refine norm_ (a' := ?_) ?_ ?_
                       rotate_left
                       ·show Act.put _ (some 12) _ = _
                        simp only [Act.put, List.setIfInBounds_toArray, List.set_cons_zero, List.set_cons_succ, i64_w, i32_w]
                        rfl
                       refine one_ (i := 4) (N := some 72) #[true, true, true, true, true, false, true, true, true, true, false, false, false, false, false, true, true, true, true, true, false, true, false] rfl rfl (one_of HT_.out (by kernel_rfl)) (by decide) (fun K hK => ?_)
                       refine goes_ Try.func32 (by kernel_rfl) rfl #[.slice (some ad118) l0.length c0, .int .i64 x8_2] (by rfl) rfl rfl (by (try simp only [List.map_toArray, List.map_cons, List.map_nil]); first | done | rfl | (simp only [List.length_drop, List.length_take]; rfl)) ?_
                       with_reducible refine (emenderref08_shift.calls kj37 _ _ l0 x8_2 t125 _ ?side1 ?side2 A41.out).mono ?_
                       (case side1 => repeat (first | exact (Kd.C_below HR0.out HB.out) | (with_reducible refine Kd.C_alloc ?_ _) | (with_reducible refine Kd.C_drewN ?_ _) | (with_reducible refine Kd.C_drew ?_)))
                       (case side2 => exact HC0.out)
                       rintro e w' ⟨rfl, ⟨nd, rfl⟩⟩
                       refine ⟨_, rfl, ?_⟩
                       refine hK.out _ _ ⟨(blk_cell BK119.out 0).trans rfl, (blk_cell BK119.out 1).trans rfl, (blk_cell BK119.out 2).trans rfl⟩ (fun hHeld => ?_)
                       clear hK K
                       refine norm_ (a' := ?_) ?_ ?_
                       rotate_left
                       ·show Act.put _ (some 72) _ = _
                        simp only [Act.put, List.setIfInBounds_toArray, List.set_cons_zero, List.set_cons_succ, i64_w, i32_w]
                        rfl
                       refine pure_ (i := 5) (N := some 73) (v := ?_) (a' := ?_) #[true, true, true, true, true, true, true, true, true, true, false, false, false, false, false, true, true, true, true, true, false, true, false] rfl rfl (any_of HT_.out (by kernel_rfl)) (fun _ _ _ h => h) (Or.inl ⟨by rfl, ?_⟩) ?_ ?_
                       rotate_left
                       ·intro w'; go_simp; with_reducible rfl
                       rotate_left
                       ·simp only [Act.put, List.setIfInBounds_toArray, List.set_cons_zero, List.set_cons_succ, i64_w, i32_w]; rfl
                       refine pure_ (i := 10) (N := some 78) (v := ?_) (a' := ?_) #[true, true, true, true, true, true, true, true, true, true, true, false, false, false, false, true, true, true, true, true, false, true, false] rfl rfl (any_of HT_.out (by kernel_rfl)) (fun _ _ _ h => h) (Or.inl ⟨by rfl, ?_⟩) ?_ ?_
                       rotate_left
                       ·intro w'; go_simp; with_reducible rfl
                       rotate_left
                       ·simp only [Act.put, List.setIfInBounds_toArray, List.set_cons_zero, List.set_cons_succ, i64_w, i32_w]; rfl
                       refine pure_ (i := 11) (N := some 79) (v := ?_) (a' := ?_) #[true, true, true, true, true, true, true, true, true, true, true, true, false, false, false, true, true, true, true, true, false, true, false] rfl rfl (any_of HT_.out (by kernel_rfl)) (fun _ _ _ h => h) (Or.inl ⟨by rfl, ?_⟩) ?_ ?_
                       rotate_left
                       ·intro w'; go_simp; with_reducible rfl
                       rotate_left
                       ·simp only [Act.put, List.setIfInBounds_toArray, List.set_cons_zero, List.set_cons_succ, i64_w, i32_w]; rfl
                       refine pure_ (i := 12) (N := some 80) (v := ?_) (a' := ?_) #[true, true, true, true, true, true, true, true, true, true, true, true, true, false, false, true, true, true, true, true, false, true, false] rfl rfl (any_of HT_.out (by kernel_rfl)) (fun _ _ _ h => h) (Or.inl ⟨by rfl, ?_⟩) ?_ ?_
                       rotate_left
                       ·intro w'; go_simp; with_reducible rfl
                       rotate_left
                       ·simp only [Act.put, List.setIfInBounds_toArray, List.set_cons_zero, List.set_cons_succ, i64_w, i32_w]; rfl
                       refine pure_ (i := 13) (N := some 81) (v := ?_) (a' := ?_) #[true, true, true, true, true, true, true, true, true, true, true, true, true, true, false, true, true, true, true, true, false, true, false] rfl rfl (any_of HT_.out (by kernel_rfl)) (fun _ _ _ h => h) (Or.inl ⟨by rfl, ?_⟩) ?_ ?_
                       rotate_left
                       ·intro w'; go_simp; with_reducible rfl
                       rotate_left
                       ·simp only [Act.put, List.setIfInBounds_toArray, List.set_cons_zero, List.set_cons_succ, i64_w, i32_w]; rfl
                       refine pure_ (i := 14) (N := some 82) (v := ?_) (a' := ?_) #[true, true, true, true, true, true, true, true, true, true, true, true, true, true, true, true, true, true, true, true, false, true, false] rfl rfl (any_of HT_.out (by kernel_rfl)) (fun _ _ _ h => h) (Or.inl ⟨by rfl, ?_⟩) ?_ ?_
                       rotate_left
                       ·intro w'; go_simp; with_reducible rfl
                       rotate_left
                       ·simp only [Act.put, List.setIfInBounds_toArray, List.set_cons_zero, List.set_cons_succ, i64_w, i32_w]; rfl
                       refine pure_ (i := 20) (N := some 88) (v := ?_) (a' := ?_) #[true, true, true, true, true, true, true, true, true, true, true, true, true, true, true, true, true, true, true, true, true, true, false] rfl rfl (any_of HT_.out (by kernel_rfl)) (fun _ _ _ h => h) (Or.inl ⟨by rfl, ?_⟩) ?_ ?_
                       rotate_left
                       ·intro w'; go_simp; with_reducible rfl
                       rotate_left
                       ·simp only [Act.put, List.setIfInBounds_toArray, List.set_cons_zero, List.set_cons_succ, i64_w, i32_w]; rfl
                       exact norm_ (by simp only [putAll, Act.put, List.setIfInBounds_toArray, List.set_cons_zero, List.set_cons_succ] <;> simp only [gt_iff_lt, *]) (hCont (gb126) _ ⟨hHeld, (by (with_reducible repeat (first | refine blk_drewN ?_ _ | refine blk_drew ?_ | refine blk_alloc ?_ _)); exact BK116.out), (by (with_reducible repeat (first | refine blk_drewN ?_ _ | refine blk_drew ?_ | refine blk_alloc ?_ _)); exact BK119.out), (by (with_reducible repeat (first | refine blk_drewN ?_ _ | refine blk_drew ?_ | refine blk_alloc ?_ _)); exact BK126.out), GW126.out, GE126.out, NB116_126.out, NB126_116.out, NB119_126.out, NB126_119.out, (by repeat (first | (with_reducible first | exact HB.out | apply below_alloc | apply pw_below_drewN | apply below_drew1 | refine below_set ?_ GE116.out | refine below_set ?_ GE119.out | refine below_set ?_ GE126.out) | exact HB.out))⟩)
                     rintro gb126 w45 ⟨hS_, h0_, h1_, h2_, h3_, h4_, h5_, h6_, h7_, h8_, h9_⟩
                     have n0_ : Aside0 (w45.heap[gb116]? = some (.cells #[.int .i64 x117000_2, .bool x117001_2, .int .i64 x117002_2, .int .i64 x117003_2] 24 (0, 0))) := ⟨h0_⟩
                     have n1_ : Aside0 (w45.heap[gb119]? = some (.cells #[.int .i64 ((rd_T37 l0 x8_2).f0), .int .i64 ((rd_T37 l0 x8_2).f1), .int .i64 ((rd_T37 l0 x8_2).f2)] 37 (0, 0))) := ⟨h1_⟩
                     have n2_ : Aside0 (w45.heap[gb126]? = some (.cells #[.int .i64 0, .bool false, .int .i64 0, .int .i64 0] 24 (0, 0))) := ⟨h2_⟩
                     have n3_ : Aside0 (w.heap.size ≤ gb126) := ⟨h3_⟩
                     have n4_ : Aside0 (w.heap.size ≤ gb126) := ⟨h4_⟩
                     have n5_ : Aside0 (gb116 ≠ gb126) := ⟨h5_⟩
                     have n6_ : Aside0 (gb126 ≠ gb116) := ⟨h6_⟩
                     have n7_ : Aside0 (gb119 ≠ gb126) := ⟨h7_⟩
                     have n8_ : Aside0 (gb126 ≠ gb119) := ⟨h8_⟩
                     have n9_ : Aside0 (Below w.heap.size w w45) := ⟨h9_⟩
                     clear BK116
                     clear BK119
                     clear HB
                     clear h0_ h1_ h2_ h3_ h4_ h5_ h6_ h7_ h8_ h9_
                     have BK116 := n0_
                     have BK119 := n1_
                     have BK126 := n2_
                     have GW126 := n3_
                     have GE126 := n4_
                     have NB116_126 := n5_
                     have NB126_116 := n6_
                     have NB119_126 := n7_
                     have NB126_119 := n8_
                     have HB := n9_
                     clear n0_ n1_ n2_ n3_ n4_ n5_ n6_ n7_ n8_ n9_
                     have hHeld : w45.cell? ⟨gb119, 0, none⟩ = some (.int .i64 ((rd_T37 l0 x8_2).f0)) ∧ w45.cell? ⟨gb119, 1, none⟩ = some (.int .i64 ((rd_T37 l0 x8_2).f1)) ∧ w45.cell? ⟨gb119, 2, none⟩ = some (.int .i64 ((rd_T37 l0 x8_2).f2)) := hS_
                     refine norm_ (a' := ?_) ?_ ?_
                     rotate_left
                     ·simp only [putAll, Act.put, List.setIfInBounds_toArray, List.set_cons_zero, List.set_cons_succ]
                      rfl
                     refine one_ (i := 22) (N := none) #[true, true, true, true, true, true, true, true, true, true, true, true, true, true, true, true, true, true, true, true, true, true, true] rfl rfl (one_of HT_.out (by kernel_rfl)) (by decide) (fun K hK => ?_)
                     have hs46 : w45.cell? ⟨gb126, 0, none⟩ = some (.int .i64 0) := (blk_cell BK126.out 0).trans rfl
                     have hfs46 := blk_frozen BK126.out 0
                     have hns46_0 := NB116_126.out
                     have hns46_1 := NB119_126.out
                     have hms46_0 := NB126_116.out
                     have hms46_1 := NB126_119.out
                     have hs47 : w45.cell? ⟨gb126, 1, none⟩ = some (.bool false) := (blk_cell BK126.out 1).trans rfl
                     have hfs47 := blk_frozen BK126.out 1
                     have hns47_0 := NB116_126.out
                     have hns47_1 := NB119_126.out
                     have hms47_0 := NB126_116.out
                     have hms47_1 := NB126_119.out
                     have hs48 : w45.cell? ⟨gb126, 2, none⟩ = some (.int .i64 0) := (blk_cell BK126.out 2).trans rfl
                     have hfs48 := blk_frozen BK126.out 2
                     have hns48_0 := NB116_126.out
                     have hns48_1 := NB119_126.out
                     have hms48_0 := NB126_116.out
                     have hms48_1 := NB126_119.out
                     have hs49 : w45.cell? ⟨gb126, 3, none⟩ = some (.int .i64 0) := (blk_cell BK126.out 3).trans rfl
                     have hfs49 := blk_frozen BK126.out 3
                     have hns49_0 := NB116_126.out
                     have hns49_1 := NB119_126.out
                     have hms49_0 := NB126_116.out
                     have hms49_1 := NB126_119.out
                     refine skip_ (w1 := ?_) (by rfl) rfl ?_ ?_
                     rotate_left
                     ·go_simp
                      rfl
                     refine hK.out _ _ ⟨((cell_far (p := ⟨gb126, _, none⟩) NB119_126.out _).trans (((cell_far (p := ⟨gb126, _, none⟩) NB119_126.out _).trans (((cell_far (p := ⟨gb126, _, none⟩) NB119_126.out _).trans (((cell_far (p := ⟨gb126, _, none⟩) NB119_126.out _).trans (hHeld.1)))))))), ((cell_far (p := ⟨gb126, _, none⟩) NB119_126.out _).trans (((cell_far (p := ⟨gb126, _, none⟩) NB119_126.out _).trans (((cell_far (p := ⟨gb126, _, none⟩) NB119_126.out _).trans (((cell_far (p := ⟨gb126, _, none⟩) NB119_126.out _).trans (hHeld.2.1)))))))), ((cell_far (p := ⟨gb126, _, none⟩) NB119_126.out _).trans (((cell_far (p := ⟨gb126, _, none⟩) NB119_126.out _).trans (((cell_far (p := ⟨gb126, _, none⟩) NB119_126.out _).trans (((cell_far (p := ⟨gb126, _, none⟩) NB119_126.out _).trans (hHeld.2.2))))))))⟩ (fun hHeld => ?_)
                     clear hK K
                     refine done_ (done_of HT_.out (by kernel_rfl)) ?_
                     go_upto_if 90 with (fail)
                     go_cut [] (fun wc => ∃ (kq : Nat) (x127000_41 : Int), Aside0 (emenderref08_Map.j7 kq a1 a2 (wrap64 (((rd_T37 l0 x8_2).f0) + ((rd_T37 l0 x8_2).f1))) ((rd_T37 l0 x8_2).f0) ((rd_T37 l0 x8_2).f1) ((rd_T37 l0 x8_2).f2) x127000_41 (decide (a1 < (wrap64 (((rd_T37 l0 x8_2).f0) + ((rd_T37 l0 x8_2).f1))))) x8_2 (wrap64 (a1 - ((rd_T37 l0 x8_2).f0))) = some (r1, r2, r3, r4, r5)) ∧ Aside0 (kq ≤ kj37) ∧ Aside0 (wc.heap[gb116]? = some (.cells #[.int .i64 x117000_2, .bool x117001_2, .int .i64 x117002_2, .int .i64 x117003_2] 24 (0, 0))) ∧ Aside0 (wc.heap[gb119]? = some (.cells #[.int .i64 ((rd_T37 l0 x8_2).f0), .int .i64 ((rd_T37 l0 x8_2).f1), .int .i64 ((rd_T37 l0 x8_2).f2)] 37 (0, 0))) ∧ Aside0 (wc.heap[gb126]? = some (.cells #[.int .i64 x127000_41, .bool (decide (a1 < (wrap64 (((rd_T37 l0 x8_2).f0) + ((rd_T37 l0 x8_2).f1))))), .int .i64 x8_2, .int .i64 (wrap64 (a1 - ((rd_T37 l0 x8_2).f0)))] 24 (0, 0))) ∧ Aside0 (Below w.heap.size w wc))
                     case first =>
                      have H := HC42.out
                      clear HC42
                      by_cases c50 : x11_37 = true
                      ·subst c50
                       have H1 : (emenderref08_Map.j7 kj37 a1 a2 (wrap64 (((rd_T37 l0 x8_2).f0) + ((rd_T37 l0 x8_2).f1))) ((rd_T37 l0 x8_2).f0) ((rd_T37 l0 x8_2).f1) ((rd_T37 l0 x8_2).f2) (wrap64 (((rd_T37 l0 x8_2).f0) + t125)) (decide (a1 < (wrap64 (((rd_T37 l0 x8_2).f0) + ((rd_T37 l0 x8_2).f1))))) x8_2 (wrap64 (a1 - ((rd_T37 l0 x8_2).f0)))) = some (r1, r2, r3, r4, r5) := by rw [if_pos rfl] at H; exact H
                       clear H
                       have H := H1
                       clear H1
                       have H' := Aside0.mk H
                       clear H
                       go_wp2
                       go_meet
                       case rel => exact ⟨_, (wrap64 (((rd_T37 l0 x8_2).f0) + t125)), H', ⟨by have := HJ5.out; have := HK2.out; have := HJ13.out; have := HJ23.out; have := HJ29.out; have := HJ31.out; have := HJ37.out; first | omega | exact Nat.le_refl _⟩, ⟨by (with_reducible repeat (first | refine blk_drewN ?_ _ | refine blk_drew ?_ | refine blk_alloc ?_ _)); refine blk_far ?_ NB116_126.out _; (with_reducible repeat (first | refine blk_drewN ?_ _ | refine blk_drew ?_ | refine blk_alloc ?_ _)); refine blk_far ?_ NB116_126.out _; (with_reducible repeat (first | refine blk_drewN ?_ _ | refine blk_drew ?_ | refine blk_alloc ?_ _)); refine blk_far ?_ NB116_126.out _; (with_reducible repeat (first | refine blk_drewN ?_ _ | refine blk_drew ?_ | refine blk_alloc ?_ _)); refine blk_far ?_ NB116_126.out _; (with_reducible repeat (first | refine blk_drewN ?_ _ | refine blk_drew ?_ | refine blk_alloc ?_ _)); exact BK116.out⟩, ⟨by (with_reducible repeat (first | refine blk_drewN ?_ _ | refine blk_drew ?_ | refine blk_alloc ?_ _)); refine blk_far ?_ NB119_126.out _; (with_reducible repeat (first | refine blk_drewN ?_ _ | refine blk_drew ?_ | refine blk_alloc ?_ _)); refine blk_far ?_ NB119_126.out _; (with_reducible repeat (first | refine blk_drewN ?_ _ | refine blk_drew ?_ | refine blk_alloc ?_ _)); refine blk_far ?_ NB119_126.out _; (with_reducible repeat (first | refine blk_drewN ?_ _ | refine blk_drew ?_ | refine blk_alloc ?_ _)); refine blk_far ?_ NB119_126.out _; (with_reducible repeat (first | refine blk_drewN ?_ _ | refine blk_drew ?_ | refine blk_alloc ?_ _)); exact BK119.out⟩, ⟨by (with_reducible repeat (first | refine blk_drewN ?_ _ | refine blk_drew ?_ | refine blk_alloc ?_ _)); refine blk_put (cs := #[.int .i64 (wrap64 (((rd_T37 l0 x8_2).f0) + t125)), .bool (decide (a1 < (wrap64 (((rd_T37 l0 x8_2).f0) + ((rd_T37 l0 x8_2).f1))))), .int .i64 x8_2, .int .i64 0]) ?_ 3 _ rfl; (with_reducible repeat (first | refine blk_drewN ?_ _ | refine blk_drew ?_ | refine blk_alloc ?_ _)); refine blk_put (cs := #[.int .i64 (wrap64 (((rd_T37 l0 x8_2).f0) + t125)), .bool (decide (a1 < (wrap64 (((rd_T37 l0 x8_2).f0) + ((rd_T37 l0 x8_2).f1))))), .int .i64 0, .int .i64 0]) ?_ 2 _ rfl; (with_reducible repeat (first | refine blk_drewN ?_ _ | refine blk_drew ?_ | refine blk_alloc ?_ _)); refine blk_put (cs := #[.int .i64 (wrap64 (((rd_T37 l0 x8_2).f0) + t125)), .bool false, .int .i64 0, .int .i64 0]) ?_ 1 _ rfl; (with_reducible repeat (first | refine blk_drewN ?_ _ | refine blk_drew ?_ | refine blk_alloc ?_ _)); refine blk_put (cs := #[.int .i64 0, .bool false, .int .i64 0, .int .i64 0]) ?_ 0 _ rfl; (with_reducible repeat (first | refine blk_drewN ?_ _ | refine blk_drew ?_ | refine blk_alloc ?_ _)); exact BK126.out⟩, ⟨by repeat (first | (with_reducible first | exact HB.out | apply below_alloc | apply pw_below_drewN | apply below_drew1 | refine below_set ?_ GE116.out | refine below_set ?_ GE119.out | refine below_set ?_ GE126.out) | exact HB.out)⟩⟩
                      ·replace c50 := Bool.eq_false_iff.mpr c50
                       subst c50
                       have H1 : (emenderref08_Map.j7 kj37 a1 a2 (wrap64 (((rd_T37 l0 x8_2).f0) + ((rd_T37 l0 x8_2).f1))) ((rd_T37 l0 x8_2).f0) ((rd_T37 l0 x8_2).f1) ((rd_T37 l0 x8_2).f2) (wrap64 ((wrap64 (((rd_T37 l0 x8_2).f0) + t125)) + ((rd_T37 l0 x8_2).f2))) (decide (a1 < (wrap64 (((rd_T37 l0 x8_2).f0) + ((rd_T37 l0 x8_2).f1))))) x8_2 (wrap64 (a1 - ((rd_T37 l0 x8_2).f0)))) = some (r1, r2, r3, r4, r5) := by rw [if_neg (show ¬ (false = true) by decide)] at H; exact H
                       clear H
                       have H := H1
                       clear H1
                       have H' := Aside0.mk H
                       clear H
                       have hnb51 := NB126_116.out
                       have hnc51 := NB116_126.out
                       have hnb52 := NB126_119.out
                       have hnc52 := NB119_126.out
                       have hcz53_0 : w45.cell? ⟨gb126, 0, none⟩ = some (.int .i64 0) := (blk_cell BK126.out 0).trans rfl; have hcz53_1 : w45.cell? ⟨gb126, 1, none⟩ = some (.bool false) := (blk_cell BK126.out 1).trans rfl; have hcz53_2 : w45.cell? ⟨gb126, 2, none⟩ = some (.int .i64 0) := (blk_cell BK126.out 2).trans rfl; have hcz53_3 : w45.cell? ⟨gb126, 3, none⟩ = some (.int .i64 0) := (blk_cell BK126.out 3).trans rfl; have hfz53_0 := blk_frozen BK126.out 0; have hfz53_1 := blk_frozen BK126.out 1; have hfz53_2 := blk_frozen BK126.out 2; have hfz53_3 := blk_frozen BK126.out 3
                       have hnb54 := NB119_116.out
                       have hnc54 := NB116_119.out
                       have hcz55_0 : w45.cell? ⟨gb119, 0, none⟩ = some (.int .i64 ((rd_T37 l0 x8_2).f0)) := (blk_cell BK119.out 0).trans rfl; have hcz55_1 : w45.cell? ⟨gb119, 1, none⟩ = some (.int .i64 ((rd_T37 l0 x8_2).f1)) := (blk_cell BK119.out 1).trans rfl; have hcz55_2 : w45.cell? ⟨gb119, 2, none⟩ = some (.int .i64 ((rd_T37 l0 x8_2).f2)) := (blk_cell BK119.out 2).trans rfl; have hfz55_0 := blk_frozen BK119.out 0; have hfz55_1 := blk_frozen BK119.out 1; have hfz55_2 := blk_frozen BK119.out 2
                       go_wp2
                       go_meet
                       case rel => exact ⟨_, (wrap64 ((wrap64 (((rd_T37 l0 x8_2).f0) + t125)) + ((rd_T37 l0 x8_2).f2))), H', ⟨by have := HJ5.out; have := HK2.out; have := HJ13.out; have := HJ23.out; have := HJ29.out; have := HJ31.out; have := HJ37.out; first | omega | exact Nat.le_refl _⟩, ⟨by (with_reducible repeat (first | refine blk_drewN ?_ _ | refine blk_drew ?_ | refine blk_alloc ?_ _)); refine blk_far ?_ NB116_126.out _; (with_reducible repeat (first | refine blk_drewN ?_ _ | refine blk_drew ?_ | refine blk_alloc ?_ _)); refine blk_far ?_ NB116_126.out _; (with_reducible repeat (first | refine blk_drewN ?_ _ | refine blk_drew ?_ | refine blk_alloc ?_ _)); refine blk_far ?_ NB116_126.out _; (with_reducible repeat (first | refine blk_drewN ?_ _ | refine blk_drew ?_ | refine blk_alloc ?_ _)); refine blk_far ?_ NB116_126.out _; (with_reducible repeat (first | refine blk_drewN ?_ _ | refine blk_drew ?_ | refine blk_alloc ?_ _)); refine blk_far ?_ NB116_126.out _; (with_reducible repeat (first | refine blk_drewN ?_ _ | refine blk_drew ?_ | refine blk_alloc ?_ _)); exact BK116.out⟩, ⟨by (with_reducible repeat (first | refine blk_drewN ?_ _ | refine blk_drew ?_ | refine blk_alloc ?_ _)); refine blk_far ?_ NB119_126.out _; (with_reducible repeat (first | refine blk_drewN ?_ _ | refine blk_drew ?_ | refine blk_alloc ?_ _)); refine blk_far ?_ NB119_126.out _; (with_reducible repeat (first | refine blk_drewN ?_ _ | refine blk_drew ?_ | refine blk_alloc ?_ _)); refine blk_far ?_ NB119_126.out _; (with_reducible repeat (first | refine blk_drewN ?_ _ | refine blk_drew ?_ | refine blk_alloc ?_ _)); refine blk_far ?_ NB119_126.out _; (with_reducible repeat (first | refine blk_drewN ?_ _ | refine blk_drew ?_ | refine blk_alloc ?_ _)); refine blk_far ?_ NB119_126.out _; (with_reducible repeat (first | refine blk_drewN ?_ _ | refine blk_drew ?_ | refine blk_alloc ?_ _)); exact BK119.out⟩, ⟨by (with_reducible repeat (first | refine blk_drewN ?_ _ | refine blk_drew ?_ | refine blk_alloc ?_ _)); refine blk_put (cs := #[.int .i64 (wrap64 (((rd_T37 l0 x8_2).f0) + t125)), .bool (decide (a1 < (wrap64 (((rd_T37 l0 x8_2).f0) + ((rd_T37 l0 x8_2).f1))))), .int .i64 x8_2, .int .i64 (wrap64 (a1 - ((rd_T37 l0 x8_2).f0)))]) ?_ 0 _ rfl; (with_reducible repeat (first | refine blk_drewN ?_ _ | refine blk_drew ?_ | refine blk_alloc ?_ _)); refine blk_put (cs := #[.int .i64 (wrap64 (((rd_T37 l0 x8_2).f0) + t125)), .bool (decide (a1 < (wrap64 (((rd_T37 l0 x8_2).f0) + ((rd_T37 l0 x8_2).f1))))), .int .i64 x8_2, .int .i64 0]) ?_ 3 _ rfl; (with_reducible repeat (first | refine blk_drewN ?_ _ | refine blk_drew ?_ | refine blk_alloc ?_ _)); refine blk_put (cs := #[.int .i64 (wrap64 (((rd_T37 l0 x8_2).f0) + t125)), .bool (decide (a1 < (wrap64 (((rd_T37 l0 x8_2).f0) + ((rd_T37 l0 x8_2).f1))))), .int .i64 0, .int .i64 0]) ?_ 2 _ rfl; (with_reducible repeat (first | refine blk_drewN ?_ _ | refine blk_drew ?_ | refine blk_alloc ?_ _)); refine blk_put (cs := #[.int .i64 (wrap64 (((rd_T37 l0 x8_2).f0) + t125)), .bool false, .int .i64 0, .int .i64 0]) ?_ 1 _ rfl; (with_reducible repeat (first | refine blk_drewN ?_ _ | refine blk_drew ?_ | refine blk_alloc ?_ _)); refine blk_put (cs := #[.int .i64 0, .bool false, .int .i64 0, .int .i64 0]) ?_ 0 _ rfl; (with_reducible repeat (first | refine blk_drewN ?_ _ | refine blk_drew ?_ | refine blk_alloc ?_ _)); exact BK126.out⟩, ⟨by repeat (first | (with_reducible first | exact HB.out | apply below_alloc | apply pw_below_drewN | apply below_drew1 | refine below_set ?_ GE116.out | refine below_set ?_ GE119.out | refine below_set ?_ GE126.out) | exact HB.out)⟩⟩
                     case rest =>
                      clear HC42
                      (try clear c1); (try clear p1); (try clear q1); (try clear hx1); (try clear c2); (try clear p2); (try clear c3); (try clear c4); (try clear c5); (try clear p6); (try clear c9); (try clear c9b0); (try clear c10); (try clear p11); (try clear q11); (try clear hx11); (try clear c12); (try clear c12b0); (try clear c13); (try clear c13b0); (try clear c15); (try clear c16); (try clear c18); (try clear c18b0); (try clear c19); (try clear c21); (try clear c23); (try clear c25); (try clear c25b0); (try clear c26); (try clear c28); (try clear c31); (try clear c32); (try clear c33); (try clear c33b0); (try clear c34); (try clear c36); (try clear c39); (try clear c40); (try clear c40b0); (try clear c50); (try clear c51); (try clear c52); (try clear c54); (try clear hcz11_0); (try clear hcz11_1); (try clear hcz11_2); (try clear hcz11_3); (try clear hcz17_0); (try clear hcz17_1); (try clear hcz17_2); (try clear hcz20_0); (try clear hcz20_1); (try clear hcz20_2); (try clear hcz22_0); (try clear hcz22_1); (try clear hcz22_2); (try clear hcz27_0); (try clear hcz27_1); (try clear hcz27_2); (try clear hcz29_0); (try clear hcz29_1); (try clear hcz29_2); (try clear hcz35_0); (try clear hcz35_1); (try clear hcz35_2); (try clear hcz37_0); (try clear hcz37_1); (try clear hcz37_2); (try clear hcz53_0); (try clear hcz53_1); (try clear hcz53_2); (try clear hcz53_3); (try clear hcz55_0); (try clear hcz55_1); (try clear hcz55_2); (try clear hfz11_0); (try clear hfz11_1); (try clear hfz11_2); (try clear hfz11_3); (try clear hfz17_0); (try clear hfz17_1); (try clear hfz17_2); (try clear hfz20_0); (try clear hfz20_1); (try clear hfz20_2); (try clear hfz22_0); (try clear hfz22_1); (try clear hfz22_2); (try clear hfz27_0); (try clear hfz27_1); (try clear hfz27_2); (try clear hfz29_0); (try clear hfz29_1); (try clear hfz29_2); (try clear hfz35_0); (try clear hfz35_1); (try clear hfz35_2); (try clear hfz37_0); (try clear hfz37_1); (try clear hfz37_2); (try clear hfz53_0); (try clear hfz53_1); (try clear hfz53_2); (try clear hfz53_3); (try clear hfz55_0); (try clear hfz55_1); (try clear hfz55_2); (try clear hx118_0); (try clear hx118_1); (try clear hx118_2); (try clear p1); (try clear p11); (try clear p118); (try clear p2); (try clear p6); (try clear q1); (try clear q11); (try clear q118)
                      obtain ⟨kq, x127000_41, HA, HJ41, BK116, BK119, BK126, HB⟩ := hcut
                      cases kq with
                      | zero => exact absurd HA.out (by simp [emenderref08_Map.j7])
                      | succ kj41 =>
                       have H := HA.out
                       clear HA
                       simp only [emenderref08_Map.j7] at H
                       have HC56 := Aside0.mk H
                       clear H
                       go_upto_region 19 with (fail)
                       go_cut [113] (fun v113 wc => ∃ (kq : Nat) (x113_55 : Bool), v113 = .bool x113_55 ∧ Aside0 (emenderref08_Map.j8 kq x113_55 x127000_41 (decide (a1 < (wrap64 (((rd_T37 l0 x8_2).f0) + ((rd_T37 l0 x8_2).f1))))) x8_2 (wrap64 (a1 - ((rd_T37 l0 x8_2).f0))) = some (r1, r2, r3, r4, r5)) ∧ Aside0 (kq ≤ kj41) ∧ Aside0 (wc.heap[gb116]? = some (.cells #[.int .i64 x117000_2, .bool x117001_2, .int .i64 x117002_2, .int .i64 x117003_2] 24 (0, 0))) ∧ Aside0 (wc.heap[gb119]? = some (.cells #[.int .i64 ((rd_T37 l0 x8_2).f0), .int .i64 ((rd_T37 l0 x8_2).f1), .int .i64 ((rd_T37 l0 x8_2).f2)] 37 (0, 0))) ∧ Aside0 (wc.heap[gb126]? = some (.cells #[.int .i64 x127000_41, .bool (decide (a1 < (wrap64 (((rd_T37 l0 x8_2).f0) + ((rd_T37 l0 x8_2).f1))))), .int .i64 x8_2, .int .i64 (wrap64 (a1 - ((rd_T37 l0 x8_2).f0)))] 24 (0, 0))) ∧ Aside0 (Below w.heap.size w wc))
                       case first =>
                        have H := HC56.out
                        clear HC56
                        by_cases c57 : a2 < 0
                        ·rw [if_pos c57] at H
                         have c57b0 : decide (a2 < 0) = true := decide_eq_true c57
                         clear c57
                         (first | rw [c57b0] | (simp only [i64_w, i32_w]; rw [c57b0]) | skip)
                         by_cases c58 : a1 = ((rd_T37 l0 x8_2).f0)
                         ·rw [if_pos c58] at H
                          have c58b0 : (a1 == ((rd_T37 l0 x8_2).f0)) = true := beq_iff_eq.mpr c58
                          have c58b1 : (a1 != ((rd_T37 l0 x8_2).f0)) = false := bne_eq_false_iff_eq.mpr c58
                          clear c58
                          have H' := Aside0.mk H
                          clear H
                          have hnb59 := NB119_116.out
                          have hnc59 := NB116_119.out
                          have hnb60 := NB119_126.out
                          have hnc60 := NB126_119.out
                          have hcz61_0 : wc.cell? ⟨gb119, 0, none⟩ = some (.int .i64 ((rd_T37 l0 x8_2).f0)) := (blk_cell BK119.out 0).trans rfl; have hcz61_1 : wc.cell? ⟨gb119, 1, none⟩ = some (.int .i64 ((rd_T37 l0 x8_2).f1)) := (blk_cell BK119.out 1).trans rfl; have hcz61_2 : wc.cell? ⟨gb119, 2, none⟩ = some (.int .i64 ((rd_T37 l0 x8_2).f2)) := (blk_cell BK119.out 2).trans rfl; have hfz61_0 := blk_frozen BK119.out 0; have hfz61_1 := blk_frozen BK119.out 1; have hfz61_2 := blk_frozen BK119.out 2
                          go_wp2
                          go_meet
                          case rel => exact ⟨_, (true), (by first | rfl | (simp; done) | (simp [*]; done)), H', ⟨by have := HJ5.out; have := HK2.out; have := HJ13.out; have := HJ23.out; have := HJ29.out; have := HJ31.out; have := HJ37.out; have := HJ41.out; first | omega | exact Nat.le_refl _⟩, ⟨by (with_reducible repeat (first | refine blk_drewN ?_ _ | refine blk_drew ?_ | refine blk_alloc ?_ _)); exact BK116.out⟩, ⟨by (with_reducible repeat (first | refine blk_drewN ?_ _ | refine blk_drew ?_ | refine blk_alloc ?_ _)); exact BK119.out⟩, ⟨by (with_reducible repeat (first | refine blk_drewN ?_ _ | refine blk_drew ?_ | refine blk_alloc ?_ _)); exact BK126.out⟩, ⟨by repeat (first | (with_reducible first | exact HB.out | apply below_alloc | apply pw_below_drewN | apply below_drew1 | refine below_set ?_ GE116.out | refine below_set ?_ GE119.out | refine below_set ?_ GE126.out) | exact HB.out)⟩⟩
                         ·rw [if_neg c58] at H
                          have c58b0 : (a1 == ((rd_T37 l0 x8_2).f0)) = false := beq_eq_false_iff_ne.mpr c58
                          have c58b1 : (a1 != ((rd_T37 l0 x8_2).f0)) = true := bne_iff_ne.mpr c58
                          by_cases c62 : a2 ≥ 0
                          ·rw [if_pos c62] at H
                           have c62b0 : decide (0 ≤ a2) = true := decide_eq_true c62
                           clear c62
                           have H' := Aside0.mk H
                           clear H
                           have hnb63 := NB119_116.out
                           have hnc63 := NB116_119.out
                           have hnb64 := NB119_126.out
                           have hnc64 := NB126_119.out
                           have hcz65_0 : wc.cell? ⟨gb119, 0, none⟩ = some (.int .i64 ((rd_T37 l0 x8_2).f0)) := (blk_cell BK119.out 0).trans rfl; have hcz65_1 : wc.cell? ⟨gb119, 1, none⟩ = some (.int .i64 ((rd_T37 l0 x8_2).f1)) := (blk_cell BK119.out 1).trans rfl; have hcz65_2 : wc.cell? ⟨gb119, 2, none⟩ = some (.int .i64 ((rd_T37 l0 x8_2).f2)) := (blk_cell BK119.out 2).trans rfl; have hfz65_0 := blk_frozen BK119.out 0; have hfz65_1 := blk_frozen BK119.out 1; have hfz65_2 := blk_frozen BK119.out 2
                           go_wp2
                           go_meet
                           case rel => exact ⟨_, ((a1 == (wrap64 (((rd_T37 l0 x8_2).f0) + ((rd_T37 l0 x8_2).f1))))), (by first | rfl | (simp; done) | (simp [*]; done)), H', ⟨by have := HJ5.out; have := HK2.out; have := HJ13.out; have := HJ23.out; have := HJ29.out; have := HJ31.out; have := HJ37.out; have := HJ41.out; first | omega | exact Nat.le_refl _⟩, ⟨by (with_reducible repeat (first | refine blk_drewN ?_ _ | refine blk_drew ?_ | refine blk_alloc ?_ _)); exact BK116.out⟩, ⟨by (with_reducible repeat (first | refine blk_drewN ?_ _ | refine blk_drew ?_ | refine blk_alloc ?_ _)); exact BK119.out⟩, ⟨by (with_reducible repeat (first | refine blk_drewN ?_ _ | refine blk_drew ?_ | refine blk_alloc ?_ _)); exact BK126.out⟩, ⟨by repeat (first | (with_reducible first | exact HB.out | apply below_alloc | apply pw_below_drewN | apply below_drew1 | refine below_set ?_ GE116.out | refine below_set ?_ GE119.out | refine below_set ?_ GE126.out) | exact HB.out)⟩⟩
                          ·rw [if_neg c62] at H
                           have c62b0 : decide (0 ≤ a2) = false := decide_eq_false c62
                           clear c62
                           have H' := Aside0.mk H
                           clear H
                           have hnb66 := NB119_116.out
                           have hnc66 := NB116_119.out
                           have hnb67 := NB119_126.out
                           have hnc67 := NB126_119.out
                           have hcz68_0 : wc.cell? ⟨gb119, 0, none⟩ = some (.int .i64 ((rd_T37 l0 x8_2).f0)) := (blk_cell BK119.out 0).trans rfl; have hcz68_1 : wc.cell? ⟨gb119, 1, none⟩ = some (.int .i64 ((rd_T37 l0 x8_2).f1)) := (blk_cell BK119.out 1).trans rfl; have hcz68_2 : wc.cell? ⟨gb119, 2, none⟩ = some (.int .i64 ((rd_T37 l0 x8_2).f2)) := (blk_cell BK119.out 2).trans rfl; have hfz68_0 := blk_frozen BK119.out 0; have hfz68_1 := blk_frozen BK119.out 1; have hfz68_2 := blk_frozen BK119.out 2
                           go_wp2
                           go_meet
                           case rel => exact ⟨_, (false), (by first | rfl | (simp; done) | (simp [*]; done)), H', ⟨by have := HJ5.out; have := HK2.out; have := HJ13.out; have := HJ23.out; have := HJ29.out; have := HJ31.out; have := HJ37.out; have := HJ41.out; first | omega | exact Nat.le_refl _⟩, ⟨by (with_reducible repeat (first | refine blk_drewN ?_ _ | refine blk_drew ?_ | refine blk_alloc ?_ _)); exact BK116.out⟩, ⟨by (with_reducible repeat (first | refine blk_drewN ?_ _ | refine blk_drew ?_ | refine blk_alloc ?_ _)); exact BK119.out⟩, ⟨by (with_reducible repeat (first | refine blk_drewN ?_ _ | refine blk_drew ?_ | refine blk_alloc ?_ _)); exact BK126.out⟩, ⟨by repeat (first | (with_reducible first | exact HB.out | apply below_alloc | apply pw_below_drewN | apply below_drew1 | refine below_set ?_ GE116.out | refine below_set ?_ GE119.out | refine below_set ?_ GE126.out) | exact HB.out)⟩⟩
                        ·rw [if_neg c57] at H
                         have c57b0 : decide (a2 < 0) = false := decide_eq_false c57
                         clear c57
                         (first | rw [c57b0] | (simp only [i64_w, i32_w]; rw [c57b0]) | skip)
                         by_cases c69 : a2 ≥ 0
                         ·rw [if_pos c69] at H
                          have c69b0 : decide (0 ≤ a2) = true := decide_eq_true c69
                          clear c69
                          have H' := Aside0.mk H
                          clear H
                          go_wp2
                          go_meet
                          case rel => exact ⟨_, ((a1 == (wrap64 (((rd_T37 l0 x8_2).f0) + ((rd_T37 l0 x8_2).f1))))), (by first | rfl | (simp; done) | (simp [*]; done)), H', ⟨by have := HJ5.out; have := HK2.out; have := HJ13.out; have := HJ23.out; have := HJ29.out; have := HJ31.out; have := HJ37.out; have := HJ41.out; first | omega | exact Nat.le_refl _⟩, ⟨by (with_reducible repeat (first | refine blk_drewN ?_ _ | refine blk_drew ?_ | refine blk_alloc ?_ _)); exact BK116.out⟩, ⟨by (with_reducible repeat (first | refine blk_drewN ?_ _ | refine blk_drew ?_ | refine blk_alloc ?_ _)); exact BK119.out⟩, ⟨by (with_reducible repeat (first | refine blk_drewN ?_ _ | refine blk_drew ?_ | refine blk_alloc ?_ _)); exact BK126.out⟩, ⟨by repeat (first | (with_reducible first | exact HB.out | apply below_alloc | apply pw_below_drewN | apply below_drew1 | refine below_set ?_ GE116.out | refine below_set ?_ GE119.out | refine below_set ?_ GE126.out) | exact HB.out)⟩⟩
                         ·rw [if_neg c69] at H
                          have c69b0 : decide (0 ≤ a2) = false := decide_eq_false c69
                          clear c69
                          have H' := Aside0.mk H
                          clear H
                          go_wp2
                          go_meet
                          case rel => exact ⟨_, (false), (by first | rfl | (simp; done) | (simp [*]; done)), H', ⟨by have := HJ5.out; have := HK2.out; have := HJ13.out; have := HJ23.out; have := HJ29.out; have := HJ31.out; have := HJ37.out; have := HJ41.out; first | omega | exact Nat.le_refl _⟩, ⟨by (with_reducible repeat (first | refine blk_drewN ?_ _ | refine blk_drew ?_ | refine blk_alloc ?_ _)); exact BK116.out⟩, ⟨by (with_reducible repeat (first | refine blk_drewN ?_ _ | refine blk_drew ?_ | refine blk_alloc ?_ _)); exact BK119.out⟩, ⟨by (with_reducible repeat (first | refine blk_drewN ?_ _ | refine blk_drew ?_ | refine blk_alloc ?_ _)); exact BK126.out⟩, ⟨by repeat (first | (with_reducible first | exact HB.out | apply below_alloc | apply pw_below_drewN | apply below_drew1 | refine below_set ?_ GE116.out | refine below_set ?_ GE119.out | refine below_set ?_ GE126.out) | exact HB.out)⟩⟩
                       case rest =>
                        clear HC56
                        (try clear c1); (try clear p1); (try clear q1); (try clear hx1); (try clear c2); (try clear p2); (try clear c3); (try clear c4); (try clear c5); (try clear c6); (try clear p6); (try clear c9); (try clear c9b0); (try clear c10); (try clear p11); (try clear q11); (try clear hx11); (try clear c12); (try clear c12b0); (try clear c13); (try clear c13b0); (try clear c15); (try clear c16); (try clear c18); (try clear c18b0); (try clear c19); (try clear c21); (try clear c23); (try clear c25); (try clear c25b0); (try clear c26); (try clear c28); (try clear c31); (try clear c32); (try clear c33); (try clear c33b0); (try clear c34); (try clear c36); (try clear c39); (try clear c40); (try clear c40b0); (try clear c50); (try clear c51); (try clear c52); (try clear c54); (try clear c57); (try clear c57b0); (try clear c58); (try clear c58b0); (try clear c58b1); (try clear c59); (try clear c60); (try clear c62); (try clear c62b0); (try clear c63); (try clear c64); (try clear p64); (try clear c66); (try clear c67); (try clear c69); (try clear c69b0); (try clear hcz11_0); (try clear hcz11_1); (try clear hcz11_2); (try clear hcz11_3); (try clear hcz17_0); (try clear hcz17_1); (try clear hcz17_2); (try clear hcz20_0); (try clear hcz20_1); (try clear hcz20_2); (try clear hcz22_0); (try clear hcz22_1); (try clear hcz22_2); (try clear hcz27_0); (try clear hcz27_1); (try clear hcz27_2); (try clear hcz29_0); (try clear hcz29_1); (try clear hcz29_2); (try clear hcz35_0); (try clear hcz35_1); (try clear hcz35_2); (try clear hcz37_0); (try clear hcz37_1); (try clear hcz37_2); (try clear hcz53_0); (try clear hcz53_1); (try clear hcz53_2); (try clear hcz53_3); (try clear hcz55_0); (try clear hcz55_1); (try clear hcz55_2); (try clear hcz61_0); (try clear hcz61_1); (try clear hcz61_2); (try clear hcz65_0); (try clear hcz65_1); (try clear hcz65_2); (try clear hcz68_0); (try clear hcz68_1); (try clear hcz68_2); (try clear hfz11_0); (try clear hfz11_1); (try clear hfz11_2); (try clear hfz11_3); (try clear hfz17_0); (try clear hfz17_1); (try clear hfz17_2); (try clear hfz20_0); (try clear hfz20_1); (try clear hfz20_2); (try clear hfz22_0); (try clear hfz22_1); (try clear hfz22_2); (try clear hfz27_0); (try clear hfz27_1); (try clear hfz27_2); (try clear hfz29_0); (try clear hfz29_1); (try clear hfz29_2); (try clear hfz35_0); (try clear hfz35_1); (try clear hfz35_2); (try clear hfz37_0); (try clear hfz37_1); (try clear hfz37_2); (try clear hfz53_0); (try clear hfz53_1); (try clear hfz53_2); (try clear hfz53_3); (try clear hfz55_0); (try clear hfz55_1); (try clear hfz55_2); (try clear hfz61_0); (try clear hfz61_1); (try clear hfz61_2); (try clear hfz65_0); (try clear hfz65_1); (try clear hfz65_2); (try clear hfz68_0); (try clear hfz68_1); (try clear hfz68_2); (try clear hx118_0); (try clear hx118_1); (try clear hx118_2); (try clear p1); (try clear p11); (try clear p118); (try clear p2); (try clear p6); (try clear q1); (try clear q11); (try clear q118)
                        obtain ⟨kq, x113_55, rfl, HA, HJ55, BK116, BK119, BK126, HB⟩ := hcut
                        cases kq with
                        | zero => exact absurd HA.out (by simp [emenderref08_Map.j8])
                        | succ kj55 =>
                         have H := HA.out
                         clear HA
                         simp only [emenderref08_Map.j8] at H
                         by_cases c70 : x113_55 = true
                         ·subst c70
                          have H1 : (some (x127000_41, (decide (a1 < (wrap64 (((rd_T37 l0 x8_2).f0) + ((rd_T37 l0 x8_2).f1))))), (-1), 0, 0)) = some (r1, r2, r3, r4, r5) := by rw [if_pos rfl] at H; exact H
                          clear H
                          have H := H1
                          clear H1
                          simp only [Option.some.injEq, Prod.mk.injEq] at H
                          obtain ⟨rfl, rfl, rfl, rfl, rfl⟩ := H
                          have hnb71 := NB126_116.out
                          have hnc71 := NB116_126.out
                          have hnb72 := NB126_119.out
                          have hnc72 := NB119_126.out
                          have hcz73_0 : wc.cell? ⟨gb126, 0, none⟩ = some (.int .i64 x127000_41) := (blk_cell BK126.out 0).trans rfl; have hcz73_1 : wc.cell? ⟨gb126, 1, none⟩ = some (.bool (decide (a1 < (wrap64 (((rd_T37 l0 x8_2).f0) + ((rd_T37 l0 x8_2).f1)))))) := (blk_cell BK126.out 1).trans rfl; have hcz73_2 : wc.cell? ⟨gb126, 2, none⟩ = some (.int .i64 x8_2) := (blk_cell BK126.out 2).trans rfl; have hcz73_3 : wc.cell? ⟨gb126, 3, none⟩ = some (.int .i64 (wrap64 (a1 - ((rd_T37 l0 x8_2).f0)))) := (blk_cell BK126.out 3).trans rfl; have hfz73_0 := blk_frozen BK126.out 0; have hfz73_1 := blk_frozen BK126.out 1; have hfz73_2 := blk_frozen BK126.out 2; have hfz73_3 := blk_frozen BK126.out 3
                          have hnb74 := NB116_119.out
                          have hnc74 := NB119_116.out
                          have hcz75_0 : wc.cell? ⟨gb116, 0, none⟩ = some (.int .i64 x117000_2) := (blk_cell BK116.out 0).trans rfl; have hcz75_1 : wc.cell? ⟨gb116, 1, none⟩ = some (.bool x117001_2) := (blk_cell BK116.out 1).trans rfl; have hcz75_2 : wc.cell? ⟨gb116, 2, none⟩ = some (.int .i64 x117002_2) := (blk_cell BK116.out 2).trans rfl; have hcz75_3 : wc.cell? ⟨gb116, 3, none⟩ = some (.int .i64 x117003_2) := (blk_cell BK116.out 3).trans rfl; have hfz75_0 := blk_frozen BK116.out 0; have hfz75_1 := blk_frozen BK116.out 1; have hfz75_2 := blk_frozen BK116.out 2; have hfz75_3 := blk_frozen BK116.out 3
                          go_wp2
                          refine bodyPost_ret (results_ct rfl _ _ gb116 24 #[.int .i64 x127000_41, .bool (decide (a1 < (wrap64 (((rd_T37 l0 x8_2).f0) + ((rd_T37 l0 x8_2).f1))))), .int .i64 (-1), .int .i64 0] (0, 0) _ rfl (by (with_reducible repeat (first | refine blk_drewN ?_ _ | refine blk_drew ?_ | refine blk_alloc ?_ _)); refine blk_put (cs := #[.int .i64 x127000_41, .bool (decide (a1 < (wrap64 (((rd_T37 l0 x8_2).f0) + ((rd_T37 l0 x8_2).f1))))), .int .i64 (-1), .int .i64 x117003_2]) ?_ 3 _ rfl; (with_reducible repeat (first | refine blk_drewN ?_ _ | refine blk_drew ?_ | refine blk_alloc ?_ _)); refine blk_put (cs := #[.int .i64 x127000_41, .bool (decide (a1 < (wrap64 (((rd_T37 l0 x8_2).f0) + ((rd_T37 l0 x8_2).f1))))), .int .i64 x117002_2, .int .i64 x117003_2]) ?_ 2 _ rfl; (with_reducible repeat (first | refine blk_drewN ?_ _ | refine blk_drew ?_ | refine blk_alloc ?_ _)); refine blk_put (cs := #[.int .i64 x127000_41, .bool x117001_2, .int .i64 x117002_2, .int .i64 x117003_2]) ?_ 1 _ rfl; (with_reducible repeat (first | refine blk_drewN ?_ _ | refine blk_drew ?_ | refine blk_alloc ?_ _)); refine blk_put (cs := #[.int .i64 x117000_2, .bool x117001_2, .int .i64 x117002_2, .int .i64 x117003_2]) ?_ 0 _ rfl; (with_reducible repeat (first | refine blk_drewN ?_ _ | refine blk_drew ?_ | refine blk_alloc ?_ _)); refine blk_far ?_ NB116_126.out _; (with_reducible repeat (first | refine blk_drewN ?_ _ | refine blk_drew ?_ | refine blk_alloc ?_ _)); refine blk_far ?_ NB116_126.out _; (with_reducible repeat (first | refine blk_drewN ?_ _ | refine blk_drew ?_ | refine blk_alloc ?_ _)); exact BK116.out) Try.underlying24 rfl (by kernel_rfl)) rfl ?_
                          exact ⟨by first | rfl | (simp [errW_none, errW_some] <;> rfl) | (simp [*, errW_none, errW_some] <;> rfl), by repeat (first | (with_reducible first | exact HB.out | apply below_alloc | apply pw_below_drewN | apply below_drew1 | refine below_set ?_ GE116.out | refine below_set ?_ GE119.out | refine below_set ?_ GE126.out) | exact HB.out)⟩
                         ·replace c70 := Bool.eq_false_iff.mpr c70
                          subst c70
                          have H1 : (some (x127000_41, (decide (a1 < (wrap64 (((rd_T37 l0 x8_2).f0) + ((rd_T37 l0 x8_2).f1))))), x8_2, (wrap64 (a1 - ((rd_T37 l0 x8_2).f0))), 0)) = some (r1, r2, r3, r4, r5) := by rw [if_neg (show ¬ (false = true) by decide)] at H; exact H
                          clear H
                          have H := H1
                          clear H1
                          simp only [Option.some.injEq, Prod.mk.injEq] at H
                          obtain ⟨rfl, rfl, rfl, rfl, rfl⟩ := H
                          have hnb76 := NB126_116.out
                          have hnc76 := NB116_126.out
                          have hnb77 := NB126_119.out
                          have hnc77 := NB119_126.out
                          have hcz78_0 : wc.cell? ⟨gb126, 0, none⟩ = some (.int .i64 x127000_41) := (blk_cell BK126.out 0).trans rfl; have hcz78_1 : wc.cell? ⟨gb126, 1, none⟩ = some (.bool (decide (a1 < (wrap64 (((rd_T37 l0 x8_2).f0) + ((rd_T37 l0 x8_2).f1)))))) := (blk_cell BK126.out 1).trans rfl; have hcz78_2 : wc.cell? ⟨gb126, 2, none⟩ = some (.int .i64 x8_2) := (blk_cell BK126.out 2).trans rfl; have hcz78_3 : wc.cell? ⟨gb126, 3, none⟩ = some (.int .i64 (wrap64 (a1 - ((rd_T37 l0 x8_2).f0)))) := (blk_cell BK126.out 3).trans rfl; have hfz78_0 := blk_frozen BK126.out 0; have hfz78_1 := blk_frozen BK126.out 1; have hfz78_2 := blk_frozen BK126.out 2; have hfz78_3 := blk_frozen BK126.out 3
                          have hnb79 := NB116_119.out
                          have hnc79 := NB119_116.out
                          have hcz80_0 : wc.cell? ⟨gb116, 0, none⟩ = some (.int .i64 x117000_2) := (blk_cell BK116.out 0).trans rfl; have hcz80_1 : wc.cell? ⟨gb116, 1, none⟩ = some (.bool x117001_2) := (blk_cell BK116.out 1).trans rfl; have hcz80_2 : wc.cell? ⟨gb116, 2, none⟩ = some (.int .i64 x117002_2) := (blk_cell BK116.out 2).trans rfl; have hcz80_3 : wc.cell? ⟨gb116, 3, none⟩ = some (.int .i64 x117003_2) := (blk_cell BK116.out 3).trans rfl; have hfz80_0 := blk_frozen BK116.out 0; have hfz80_1 := blk_frozen BK116.out 1; have hfz80_2 := blk_frozen BK116.out 2; have hfz80_3 := blk_frozen BK116.out 3
                          go_wp2
                          refine bodyPost_ret (results_ct rfl _ _ gb116 24 #[.int .i64 x127000_41, .bool (decide (a1 < (wrap64 (((rd_T37 l0 x8_2).f0) + ((rd_T37 l0 x8_2).f1))))), .int .i64 x8_2, .int .i64 (wrap64 (a1 - ((rd_T37 l0 x8_2).f0)))] (0, 0) _ rfl (by (with_reducible repeat (first | refine blk_drewN ?_ _ | refine blk_drew ?_ | refine blk_alloc ?_ _)); refine blk_put (cs := #[.int .i64 x127000_41, .bool (decide (a1 < (wrap64 (((rd_T37 l0 x8_2).f0) + ((rd_T37 l0 x8_2).f1))))), .int .i64 x8_2, .int .i64 x117003_2]) ?_ 3 _ rfl; (with_reducible repeat (first | refine blk_drewN ?_ _ | refine blk_drew ?_ | refine blk_alloc ?_ _)); refine blk_put (cs := #[.int .i64 x127000_41, .bool (decide (a1 < (wrap64 (((rd_T37 l0 x8_2).f0) + ((rd_T37 l0 x8_2).f1))))), .int .i64 x117002_2, .int .i64 x117003_2]) ?_ 2 _ rfl; (with_reducible repeat (first | refine blk_drewN ?_ _ | refine blk_drew ?_ | refine blk_alloc ?_ _)); refine blk_put (cs := #[.int .i64 x127000_41, .bool x117001_2, .int .i64 x117002_2, .int .i64 x117003_2]) ?_ 1 _ rfl; (with_reducible repeat (first | refine blk_drewN ?_ _ | refine blk_drew ?_ | refine blk_alloc ?_ _)); refine blk_put (cs := #[.int .i64 x117000_2, .bool x117001_2, .int .i64 x117002_2, .int .i64 x117003_2]) ?_ 0 _ rfl; (with_reducible repeat (first | refine blk_drewN ?_ _ | refine blk_drew ?_ | refine blk_alloc ?_ _)); exact BK116.out) Try.underlying24 rfl (by kernel_rfl)) rfl ?_
                          exact ⟨by first | rfl | (simp [errW_none, errW_some] <;> rfl) | (simp [*, errW_none, errW_some] <;> rfl), by repeat (first | (with_reducible first | exact HB.out | apply below_alloc | apply pw_below_drewN | apply below_drew1 | refine below_set ?_ GE116.out | refine below_set ?_ GE119.out | refine below_set ?_ GE126.out) | exact HB.out)⟩
                    ·rw [if_neg c40] at H
                     have c40b0 : decide (((rd_T37 l0 x8_2).f0) < a1) = false := decide_eq_false c40
                     clear c40
                     replace H := Option.bind_eq_some_iff.mp H
                     obtain ⟨t129, A810, H⟩ := H
                     replace H : (if x11_37 = true then (emenderref08_Map.j9 kj37 a1 a2 (wrap64 (((rd_T37 l0 x8_2).f0) + ((rd_T37 l0 x8_2).f1))) ((rd_T37 l0 x8_2).f0) ((rd_T37 l0 x8_2).f1) ((rd_T37 l0 x8_2).f2) (wrap64 (((rd_T37 l0 x8_2).f0) + t129)) false x8_2 (wrap64 (a1 - ((rd_T37 l0 x8_2).f0)))) else (emenderref08_Map.j9 kj37 a1 a2 (wrap64 (((rd_T37 l0 x8_2).f0) + ((rd_T37 l0 x8_2).f1))) ((rd_T37 l0 x8_2).f0) ((rd_T37 l0 x8_2).f1) ((rd_T37 l0 x8_2).f2) (wrap64 ((wrap64 (((rd_T37 l0 x8_2).f0) + t129)) + ((rd_T37 l0 x8_2).f2))) false x8_2 (wrap64 (a1 - ((rd_T37 l0 x8_2).f0))))) = some (r1, r2, r3, r4, r5) := H
                     have A81 := Aside0.mk A810
                     clear A810
                     have HC82 := Aside0.mk H
                     clear H
                     try go_wp2
                     have n0_ := Aside0.mk (blk_drew BK116.out)
                     have n1_ := Aside0.mk (blk_drew BK119.out)
                     have n2_ := Aside0.mk (below_drew1 HB.out)
                     clear BK116
                     clear BK119
                     clear HB
                     have BK116 := n0_
                     have BK119 := n1_
                     have HB := n2_
                     clear n0_ n1_ n2_
                     refine start_ (n := 23) (S := fun w' => w'.cell? ⟨gb119, 0, none⟩ = some (.int .i64 ((rd_T37 l0 x8_2).f0)) ∧ w'.cell? ⟨gb119, 1, none⟩ = some (.int .i64 ((rd_T37 l0 x8_2).f1)) ∧ w'.cell? ⟨gb119, 2, none⟩ = some (.int .i64 ((rd_T37 l0 x8_2).f2))) (ds := []) #[false, false, false, false, false, false, false, false, false, false, false, false, false, false, false, false, false, false, false, false, false, false, false] (by kernel_rfl) rfl rfl ⟨(blk_cell BK119.out 0).trans rfl, (blk_cell BK119.out 1).trans rfl, (blk_cell BK119.out 2).trans rfl⟩ (fun hHeld => ?_); refine with_tabW emenderref08_Map.tab16 emenderref08_Map.bits16 (fun HT_ HW_ => ?_)
                     generalize wc.drew = w83 at BK116 BK119 HB hHeld ⊢
                     refine pure_ (i := 0) (N := some 68) (v := ?_) (a' := ?_) #[true, false, false, false, false, false, false, false, false, false, false, false, false, false, false, false, false, false, false, false, false, false, false] rfl rfl (any_of HT_.out (by kernel_rfl)) (fun _ _ _ h => h) (Or.inl ⟨by rfl, ?_⟩) ?_ ?_
                     rotate_left
                     ·intro w'; go_simp; with_reducible rfl
                     rotate_left
                     ·simp only [Act.put, List.setIfInBounds_toArray, List.set_cons_zero, List.set_cons_succ, i64_w, i32_w]; rfl
                     refine pure_ (i := 2) (N := some 70) (v := ?_) (a' := ?_) #[true, false, true, false, false, false, false, false, false, false, false, false, false, false, false, false, false, false, false, false, false, false, false] rfl rfl (any_of HT_.out (by kernel_rfl)) (fun _ _ _ h => h) (Or.inl ⟨by rfl, ?_⟩) ?_ ?_
                     rotate_left
                     ·intro w'; go_simp; with_reducible rfl
                     rotate_left
                     ·simp only [Act.put, List.setIfInBounds_toArray, List.set_cons_zero, List.set_cons_succ, i64_w, i32_w]; rfl
                     refine pure_ (i := 3) (N := some 71) (v := ?_) (a' := ?_) #[true, false, true, true, false, false, false, false, false, false, false, false, false, false, false, false, false, false, false, false, false, false, false] rfl rfl (any_of HT_.out (by kernel_rfl)) (fun _ _ _ h => h) (Or.inl ⟨by rfl, ?_⟩) ?_ ?_
                     rotate_left
                     ·intro w'; go_simp; with_reducible rfl
                     rotate_left
                     ·simp only [Act.put, List.setIfInBounds_toArray, List.set_cons_zero, List.set_cons_succ, i64_w, i32_w]; rfl
                     refine pure_ (i := 6) (N := some 74) (v := ?_) (a' := ?_) #[true, false, true, true, false, false, true, false, false, false, false, false, false, false, false, false, false, false, false, false, false, false, false] rfl rfl (any_of HT_.out (by kernel_rfl)) (fun _ _ _ h => h) (Or.inl ⟨by rfl, ?_⟩) ?_ ?_
                     rotate_left
                     ·intro w'; go_simp; with_reducible rfl
                     rotate_left
                     ·simp only [Act.put, List.setIfInBounds_toArray, List.set_cons_zero, List.set_cons_succ, i64_w, i32_w]; rfl
                     refine pure_ (i := 7) (N := some 75) (v := ?_) (a' := ?_) #[true, false, true, true, false, false, true, true, false, false, false, false, false, false, false, false, false, false, false, false, false, false, false] rfl rfl (any_of HT_.out (by kernel_rfl)) (fun _ _ _ h => h) (Or.inl ⟨by rfl, ?_⟩) ?_ ?_
                     rotate_left
                     ·intro w'; go_simp; with_reducible rfl
                     rotate_left
                     ·simp only [Act.put, List.setIfInBounds_toArray, List.set_cons_zero, List.set_cons_succ, i64_w, i32_w]; rfl
                     refine pure_ (i := 15) (N := some 83) (v := ?_) (a' := ?_) #[true, false, true, true, false, false, true, true, false, false, false, false, false, false, false, true, false, false, false, false, false, false, false] rfl rfl (any_of HT_.out (by kernel_rfl)) (fun _ _ _ h => h) (Or.inl ⟨by rfl, ?_⟩) ?_ ?_
                     rotate_left
                     ·intro w'; go_simp; with_reducible rfl
                     rotate_left
                     ·simp only [Act.put, List.setIfInBounds_toArray, List.set_cons_zero, List.set_cons_succ, i64_w, i32_w]; rfl
                     refine pure_ (i := 16) (N := some 84) (v := ?_) (a' := ?_) #[true, false, true, true, false, false, true, true, false, false, false, false, false, false, false, true, true, false, false, false, false, false, false] rfl rfl (any_of HT_.out (by kernel_rfl)) (fun _ _ _ h => h) (Or.inl ⟨by rfl, ?_⟩) ?_ ?_
                     rotate_left
                     ·intro w'; go_simp; with_reducible rfl
                     rotate_left
                     ·simp only [Act.put, List.setIfInBounds_toArray, List.set_cons_zero, List.set_cons_succ, i64_w, i32_w]; rfl
                     refine pure_ (i := 17) (N := some 85) (v := ?_) (a' := ?_) #[true, false, true, true, false, false, true, true, false, false, false, false, false, false, false, true, true, true, false, false, false, false, false] rfl rfl (any_of HT_.out (by kernel_rfl)) (fun _ _ _ h => h) (Or.inl ⟨by rfl, ?_⟩) ?_ ?_
                     rotate_left
                     ·intro w'; go_simp; with_reducible rfl
                     rotate_left
                     ·simp only [Act.put, List.setIfInBounds_toArray, List.set_cons_zero, List.set_cons_succ, i64_w, i32_w]; rfl
                     refine take_ (i := 1) (N := some 69) (v := ?_) (a' := ?_) #[true, true, true, true, false, false, true, true, false, false, false, false, false, false, false, true, true, true, false, false, false, false, false] rfl rfl (take_ofW HT_.out HW_.out (by kernel_rfl)) (fun _ _ _ h => h) (Or.inl ⟨by rfl, ?_⟩) hHeld ?_ ?_
                     rotate_left
                     ·rintro w' ⟨s0, s1, s2⟩
                      go_simp
                      with_reducible rfl
                     rotate_left
                     ·simp only [Act.put, List.setIfInBounds_toArray, List.set_cons_zero, List.set_cons_succ, i64_w, i32_w]; rfl
                     refine take_ (i := 8) (N := some 76) (v := ?_) (a' := ?_) #[true, true, true, true, false, false, true, true, true, false, false, false, false, false, false, true, true, true, false, false, false, false, false] rfl rfl (take_ofW HT_.out HW_.out (by kernel_rfl)) (fun _ _ _ h => h) (Or.inl ⟨by rfl, ?_⟩) hHeld ?_ ?_
                     rotate_left
                     ·rintro w' ⟨s0, s1, s2⟩
                      go_simp
                      with_reducible rfl
                     rotate_left
                     ·simp only [Act.put, List.setIfInBounds_toArray, List.set_cons_zero, List.set_cons_succ, i64_w, i32_w]; rfl
                     refine pure_ (i := 9) (N := some 77) (v := ?_) (a' := ?_) #[true, true, true, true, false, false, true, true, true, true, false, false, false, false, false, true, true, true, false, false, false, false, false] rfl rfl (any_of HT_.out (by kernel_rfl)) (fun _ _ _ h => h) (Or.inl ⟨by rfl, ?_⟩) ?_ ?_
                     rotate_left
                     ·intro w'; go_simp; with_reducible rfl
                     rotate_left
                     ·simp only [Act.put, List.setIfInBounds_toArray, List.set_cons_zero, List.set_cons_succ, i64_w, i32_w]; rfl
                     refine take_ (i := 18) (N := some 86) (v := ?_) (a' := ?_) #[true, true, true, true, false, false, true, true, true, true, false, false, false, false, false, true, true, true, true, false, false, false, false] rfl rfl (take_ofW HT_.out HW_.out (by kernel_rfl)) (fun _ _ _ h => h) (Or.inl ⟨by rfl, ?_⟩) hHeld ?_ ?_
                     rotate_left
                     ·rintro w' ⟨s0, s1, s2⟩
                      go_simp
                      with_reducible rfl
                     rotate_left
                     ·simp only [Act.put, List.setIfInBounds_toArray, List.set_cons_zero, List.set_cons_succ, i64_w, i32_w]; rfl
                     refine pure_ (i := 19) (N := some 87) (v := ?_) (a' := ?_) #[true, true, true, true, false, false, true, true, true, true, false, false, false, false, false, true, true, true, true, true, false, false, false] rfl rfl (any_of HT_.out (by kernel_rfl)) (fun _ _ _ h => h) (Or.inl ⟨by rfl, ?_⟩) ?_ ?_
                     rotate_left
                     ·intro w'; go_simp; with_reducible rfl
                     rotate_left
                     ·simp only [Act.put, List.setIfInBounds_toArray, List.set_cons_zero, List.set_cons_succ, i64_w, i32_w]; rfl
                     refine join_ (σ := Nat) 1 #[true, true, true, true, true, true, true, true, true, true, true, true, true, true, true, true, true, true, true, true, true, true, false] (fun s_ => [(72, .int .i64 t129), (12, .pointer (some ⟨s_, 0, none⟩)), (73, .int .i64 (wrap64 (((rd_T37 l0 x8_2).f0) + t129))), (78, .bool (decide (a1 > ((rd_T37 l0 x8_2).f0)))), (79, undef), (80, undef), (81, undef), (82, .bool false), (88, .agg #[.int .i64 (wrap64 (((rd_T37 l0 x8_2).f0) + t129)), .bool false, .int .i64 x8_2, .int .i64 (wrap64 (a1 - ((rd_T37 l0 x8_2).f0)))])]) (fun s_ w' => (w'.cell? ⟨gb119, 0, none⟩ = some (.int .i64 ((rd_T37 l0 x8_2).f0)) ∧ w'.cell? ⟨gb119, 1, none⟩ = some (.int .i64 ((rd_T37 l0 x8_2).f1)) ∧ w'.cell? ⟨gb119, 2, none⟩ = some (.int .i64 ((rd_T37 l0 x8_2).f2))) ∧ (w'.heap[gb116]? = some (.cells #[.int .i64 x117000_2, .bool x117001_2, .int .i64 x117002_2, .int .i64 x117003_2] 24 (0, 0))) ∧ (w'.heap[gb119]? = some (.cells #[.int .i64 ((rd_T37 l0 x8_2).f0), .int .i64 ((rd_T37 l0 x8_2).f1), .int .i64 ((rd_T37 l0 x8_2).f2)] 37 (0, 0))) ∧ (w'.heap[s_]? = some (.cells #[.int .i64 0, .bool false, .int .i64 0, .int .i64 0] 24 (0, 0))) ∧ (w.heap.size ≤ s_) ∧ (w.heap.size ≤ s_) ∧ (gb116 ≠ s_) ∧ (s_ ≠ gb116) ∧ (gb119 ≠ s_) ∧ (s_ ≠ gb119) ∧ (Below w.heap.size w w')) ?_ ?_
                     rotate_left
                     ·intro hCont
                      refine two_ (i := 4) (j := 21) (Ni := some 72) (Nj := some 12) #[true, true, true, true, true, false, true, true, true, true, false, false, false, false, false, true, true, true, true, true, false, false, false] #[true, true, true, true, false, false, true, true, true, true, false, false, false, false, false, true, true, true, true, true, false, true, false] rfl rfl rfl rfl (two_of HT_.out (by kernel_rfl)) (by decide) (by decide) (fun K hK => ?_) (fun K hK => ?_)
                      ·skip
                       refine goes_ Try.func32 (by kernel_rfl) rfl #[.slice (some ad118) l0.length c0, .int .i64 x8_2] (by rfl) rfl rfl (by (try simp only [List.map_toArray, List.map_cons, List.map_nil]); first | done | rfl | (simp only [List.length_drop, List.length_take]; rfl)) ?_
                       with_reducible refine (emenderref08_shift.calls kj37 _ _ l0 x8_2 t129 _ ?side1 ?side2 A81.out).mono ?_
                       (case side1 => repeat (first | exact (Kd.C_below HR0.out HB.out) | (with_reducible refine Kd.C_alloc ?_ _) | (with_reducible refine Kd.C_drewN ?_ _) | (with_reducible refine Kd.C_drew ?_)))
                       (case side2 => exact HC0.out)
                       rintro e w' ⟨rfl, ⟨nd, rfl⟩⟩
                       refine ⟨_, rfl, ?_⟩
                       refine hK.out _ _ ⟨(blk_cell BK119.out 0).trans rfl, (blk_cell BK119.out 1).trans rfl, (blk_cell BK119.out 2).trans rfl⟩ (fun hHeld => ?_)
                       clear hK K
                       refine norm_ (a' := ?_) ?_ ?_
                       rotate_left
                       ·show Act.put _ (some 72) _ = _
                        simp only [Act.put, List.setIfInBounds_toArray, List.set_cons_zero, List.set_cons_succ, i64_w, i32_w]
                        rfl
                       refine pure_ (i := 5) (N := some 73) (v := ?_) (a' := ?_) #[true, true, true, true, true, true, true, true, true, true, false, false, false, false, false, true, true, true, true, true, false, false, false] rfl rfl (any_of HT_.out (by kernel_rfl)) (fun _ _ _ h => h) (Or.inl ⟨by rfl, ?_⟩) ?_ ?_
                       rotate_left
                       ·intro w'; go_simp; with_reducible rfl
                       rotate_left
                       ·simp only [Act.put, List.setIfInBounds_toArray, List.set_cons_zero, List.set_cons_succ, i64_w, i32_w]; rfl
                       refine pure_ (i := 10) (N := some 78) (v := ?_) (a' := ?_) #[true, true, true, true, true, true, true, true, true, true, true, false, false, false, false, true, true, true, true, true, false, false, false] rfl rfl (any_of HT_.out (by kernel_rfl)) (fun _ _ _ h => h) (Or.inl ⟨by rfl, ?_⟩) ?_ ?_
                       rotate_left
                       ·intro w'; go_simp; with_reducible rfl
                       rotate_left
                       ·simp only [Act.put, List.setIfInBounds_toArray, List.set_cons_zero, List.set_cons_succ, i64_w, i32_w]; rfl
                       refine pure_ (i := 11) (N := some 79) (v := undef) (a' := ?_) #[true, true, true, true, true, true, true, true, true, true, true, true, false, false, false, true, true, true, true, true, false, false, false] rfl rfl (any_of HT_.out (by kernel_rfl)) (fun _ _ _ h => h) (Or.inr ⟨by rfl, rfl⟩) ?_ ?_
                       rotate_left
                       ·simp only [Act.put, List.setIfInBounds_toArray, List.set_cons_zero, List.set_cons_succ, i64_w, i32_w]; rfl
                       refine pure_ (i := 12) (N := some 80) (v := undef) (a' := ?_) #[true, true, true, true, true, true, true, true, true, true, true, true, true, false, false, true, true, true, true, true, false, false, false] rfl rfl (any_of HT_.out (by kernel_rfl)) (fun _ _ _ h => h) (Or.inr ⟨by rfl, rfl⟩) ?_ ?_
                       rotate_left
                       ·simp only [Act.put, List.setIfInBounds_toArray, List.set_cons_zero, List.set_cons_succ, i64_w, i32_w]; rfl
                       refine pure_ (i := 13) (N := some 81) (v := undef) (a' := ?_) #[true, true, true, true, true, true, true, true, true, true, true, true, true, true, false, true, true, true, true, true, false, false, false] rfl rfl (any_of HT_.out (by kernel_rfl)) (fun _ _ _ h => h) (Or.inr ⟨by rfl, rfl⟩) ?_ ?_
                       rotate_left
                       ·simp only [Act.put, List.setIfInBounds_toArray, List.set_cons_zero, List.set_cons_succ, i64_w, i32_w]; rfl
                       refine pure_ (i := 14) (N := some 82) (v := ?_) (a' := ?_) #[true, true, true, true, true, true, true, true, true, true, true, true, true, true, true, true, true, true, true, true, false, false, false] rfl rfl (any_of HT_.out (by kernel_rfl)) (fun _ _ _ h => h) (Or.inl ⟨by rfl, ?_⟩) ?_ ?_
                       rotate_left
                       ·intro w'; go_simp; with_reducible rfl
                       rotate_left
                       ·simp only [Act.put, List.setIfInBounds_toArray, List.set_cons_zero, List.set_cons_succ, i64_w, i32_w]; rfl
                       refine pure_ (i := 20) (N := some 88) (v := ?_) (a' := ?_) #[true, true, true, true, true, true, true, true, true, true, true, true, true, true, true, true, true, true, true, true, true, false, false] rfl rfl (any_of HT_.out (by kernel_rfl)) (fun _ _ _ h => h) (Or.inl ⟨by rfl, ?_⟩) ?_ ?_
                       rotate_left
                       ·intro w'; go_simp; with_reducible rfl
                       rotate_left
                       ·simp only [Act.put, List.setIfInBounds_toArray, List.set_cons_zero, List.set_cons_succ, i64_w, i32_w]; rfl
                       refine one_ (i := 21) (N := some 12) #[true, true, true, true, true, true, true, true, true, true, true, true, true, true, true, true, true, true, true, true, true, true, false] rfl rfl (one_of HT_.out (by kernel_rfl)) (by decide) (fun K hK => ?_)
                       refine box_step ?hg (N := 12) ?hd (cs := #[.int .i64 0, .bool false, .int .i64 0, .int .i64 0]) (t := 24) ?hr ?_; (case hd => rfl); (case hg => rfl); (case hr => first | (go_simp; done) | (go_simp; rfl))
                       intro gb130 hg w84 hbox hb
                       have n0_ := Aside0.mk (blk_below (g := gb116) (o := .cells #[.int .i64 x117000_2, .bool x117001_2, .int .i64 x117002_2, .int .i64 x117003_2] 24 (0, 0)) (by (with_reducible repeat (first | refine blk_drewN ?_ _ | refine blk_drew ?_ | refine blk_alloc ?_ _)); exact BK116.out) hb)
                       have n1_ := Aside0.mk (blk_below (g := gb119) (o := .cells #[.int .i64 ((rd_T37 l0 x8_2).f0), .int .i64 ((rd_T37 l0 x8_2).f1), .int .i64 ((rd_T37 l0 x8_2).f2)] 37 (0, 0)) (by (with_reducible repeat (first | refine blk_drewN ?_ _ | refine blk_drew ?_ | refine blk_alloc ?_ _)); exact BK119.out) hb)
                       have n2_ := Aside0.mk (below_step (by repeat (first | (with_reducible first | exact HB.out | apply below_alloc | apply pw_below_drewN | apply below_drew1 | refine below_set ?_ GE116.out | refine below_set ?_ GE119.out) | exact HB.out)) hb)
                       have n3_ := Aside0.mk (hbox)
                       have n4_ := Aside0.mk ((by rw [hg]; exact (below_size (by repeat (first | (with_reducible first | exact HB.out | apply below_alloc | apply pw_below_drewN | apply below_drew1 | refine below_set ?_ GE116.out | refine below_set ?_ GE119.out) | exact HB.out))) : w.heap.size ≤ gb130))
                       have n5_ := Aside0.mk ((by rw [hg]; exact (below_size (by repeat (first | (with_reducible first | exact HB.out | apply below_alloc | apply pw_below_drewN | apply below_drew1 | refine below_set ?_ GE116.out | refine below_set ?_ GE119.out) | exact HB.out))) : w.heap.size ≤ gb130))
                       have n6_ := Aside0.mk ((by rw [hg]; exact Nat.ne_of_lt (blk_lt (g := gb116) (o := .cells #[.int .i64 x117000_2, .bool x117001_2, .int .i64 x117002_2, .int .i64 x117003_2] 24 (0, 0)) (by (with_reducible repeat (first | refine blk_drewN ?_ _ | refine blk_drew ?_ | refine blk_alloc ?_ _)); exact BK116.out)) : gb116 ≠ gb130))
                       have n7_ := Aside0.mk ((by rw [hg]; exact Nat.ne_of_gt (blk_lt (g := gb116) (o := .cells #[.int .i64 x117000_2, .bool x117001_2, .int .i64 x117002_2, .int .i64 x117003_2] 24 (0, 0)) (by (with_reducible repeat (first | refine blk_drewN ?_ _ | refine blk_drew ?_ | refine blk_alloc ?_ _)); exact BK116.out)) : gb130 ≠ gb116))
                       have n8_ := Aside0.mk ((by rw [hg]; exact Nat.ne_of_lt (blk_lt (g := gb119) (o := .cells #[.int .i64 ((rd_T37 l0 x8_2).f0), .int .i64 ((rd_T37 l0 x8_2).f1), .int .i64 ((rd_T37 l0 x8_2).f2)] 37 (0, 0)) (by (with_reducible repeat (first | refine blk_drewN ?_ _ | refine blk_drew ?_ | refine blk_alloc ?_ _)); exact BK119.out)) : gb119 ≠ gb130))
                       have n9_ := Aside0.mk ((by rw [hg]; exact Nat.ne_of_gt (blk_lt (g := gb119) (o := .cells #[.int .i64 ((rd_T37 l0 x8_2).f0), .int .i64 ((rd_T37 l0 x8_2).f1), .int .i64 ((rd_T37 l0 x8_2).f2)] 37 (0, 0)) (by (with_reducible repeat (first | refine blk_drewN ?_ _ | refine blk_drew ?_ | refine blk_alloc ?_ _)); exact BK119.out)) : gb130 ≠ gb119))
                       clear BK116
                       clear BK119
                       clear HB
                       have BK116 := n0_
                       have BK119 := n1_
                       have HB := n2_
                       have BK130 := n3_
                       have GW130 := n4_
                       have GE130 := n5_
                       have NB116_130 := n6_
                       have NB130_116 := n7_
                       have NB119_130 := n8_
                       have NB130_119 := n9_
                       clear n0_ n1_ n2_ n3_ n4_ n5_ n6_ n7_ n8_ n9_
                       clear hb hbox hg
                       refine hK.out _ _ ⟨(blk_cell BK119.out 0).trans rfl, (blk_cell BK119.out 1).trans rfl, (blk_cell BK119.out 2).trans rfl⟩ (fun hHeld => ?_)
                       clear hK K
                       refine norm_ (a' := ?_) ?_ ?_
                       rotate_left
                       ·show Act.put _ (some 12) _ = _
                        simp only [Act.put, List.setIfInBounds_toArray, List.set_cons_zero, List.set_cons_succ, i64_w, i32_w]
                        rfl
                       exact norm_ (by simp only [putAll, Act.put, List.setIfInBounds_toArray, List.set_cons_zero, List.set_cons_succ] <;> simp only [gt_iff_lt, *]) (hCont (gb130) _ ⟨hHeld, (by (with_reducible repeat (first | refine blk_drewN ?_ _ | refine blk_drew ?_ | refine blk_alloc ?_ _)); exact BK116.out), (by (with_reducible repeat (first | refine blk_drewN ?_ _ | refine blk_drew ?_ | refine blk_alloc ?_ _)); exact BK119.out), (by (with_reducible repeat (first | refine blk_drewN ?_ _ | refine blk_drew ?_ | refine blk_alloc ?_ _)); exact BK130.out), GW130.out, GE130.out, NB116_130.out, NB130_116.out, NB119_130.out, NB130_119.out, (by repeat (first | (with_reducible first | exact HB.out | apply below_alloc | apply pw_below_drewN | apply below_drew1 | refine below_set ?_ GE116.out | refine below_set ?_ GE119.out | refine below_set ?_ GE130.out) | exact HB.out))⟩)
                      ·skip
                       refine box_step ?hg (N := 12) ?hd (cs := #[.int .i64 0, .bool false, .int .i64 0, .int .i64 0]) (t := 24) ?hr ?_; (case hd => rfl); (case hg => rfl); (case hr => first | (go_simp; done) | (go_simp; rfl))
                       intro gb130 hg w84 hbox hb
                       have n0_ := Aside0.mk (blk_below (g := gb116) (o := .cells #[.int .i64 x117000_2, .bool x117001_2, .int .i64 x117002_2, .int .i64 x117003_2] 24 (0, 0)) (by (with_reducible repeat (first | refine blk_drewN ?_ _ | refine blk_drew ?_ | refine blk_alloc ?_ _)); exact BK116.out) hb)
                       have n1_ := Aside0.mk (blk_below (g := gb119) (o := .cells #[.int .i64 ((rd_T37 l0 x8_2).f0), .int .i64 ((rd_T37 l0 x8_2).f1), .int .i64 ((rd_T37 l0 x8_2).f2)] 37 (0, 0)) (by (with_reducible repeat (first | refine blk_drewN ?_ _ | refine blk_drew ?_ | refine blk_alloc ?_ _)); exact BK119.out) hb)
                       have n2_ := Aside0.mk (below_step (by repeat (first | (with_reducible first | exact HB.out | apply below_alloc | apply pw_below_drewN | apply below_drew1 | refine below_set ?_ GE116.out | refine below_set ?_ GE119.out) | exact HB.out)) hb)
                       have n3_ := Aside0.mk (hbox)
                       have n4_ := Aside0.mk ((by rw [hg]; exact (below_size (by repeat (first | (with_reducible first | exact HB.out | apply below_alloc | apply pw_below_drewN | apply below_drew1 | refine below_set ?_ GE116.out | refine below_set ?_ GE119.out) | exact HB.out))) : w.heap.size ≤ gb130))
                       have n5_ := Aside0.mk ((by rw [hg]; exact (below_size (by repeat (first | (with_reducible first | exact HB.out | apply below_alloc | apply pw_below_drewN | apply below_drew1 | refine below_set ?_ GE116.out | refine below_set ?_ GE119.out) | exact HB.out))) : w.heap.size ≤ gb130))
                       have n6_ := Aside0.mk ((by rw [hg]; exact Nat.ne_of_lt (blk_lt (g := gb116) (o := .cells #[.int .i64 x117000_2, .bool x117001_2, .int .i64 x117002_2, .int .i64 x117003_2] 24 (0, 0)) (by (with_reducible repeat (first | refine blk_drewN ?_ _ | refine blk_drew ?_ | refine blk_alloc ?_ _)); exact BK116.out)) : gb116 ≠ gb130))
                       have n7_ := Aside0.mk ((by rw [hg]; exact Nat.ne_of_gt (blk_lt (g := gb116) (o := .cells #[.int .i64 x117000_2, .bool x117001_2, .int .i64 x117002_2, .int .i64 x117003_2] 24 (0, 0)) (by (with_reducible repeat (first | refine blk_drewN ?_ _ | refine blk_drew ?_ | refine blk_alloc ?_ _)); exact BK116.out)) : gb130 ≠ gb116))
                       have n8_ := Aside0.mk ((by rw [hg]; exact Nat.ne_of_lt (blk_lt (g := gb119) (o := .cells #[.int .i64 ((rd_T37 l0 x8_2).f0), .int .i64 ((rd_T37 l0 x8_2).f1), .int .i64 ((rd_T37 l0 x8_2).f2)] 37 (0, 0)) (by (with_reducible repeat (first | refine blk_drewN ?_ _ | refine blk_drew ?_ | refine blk_alloc ?_ _)); exact BK119.out)) : gb119 ≠ gb130))
                       have n9_ := Aside0.mk ((by rw [hg]; exact Nat.ne_of_gt (blk_lt (g := gb119) (o := .cells #[.int .i64 ((rd_T37 l0 x8_2).f0), .int .i64 ((rd_T37 l0 x8_2).f1), .int .i64 ((rd_T37 l0 x8_2).f2)] 37 (0, 0)) (by (with_reducible repeat (first | refine blk_drewN ?_ _ | refine blk_drew ?_ | refine blk_alloc ?_ _)); exact BK119.out)) : gb130 ≠ gb119))
                       clear BK116
                       clear BK119
                       clear HB
                       have BK116 := n0_
                       have BK119 := n1_
                       have HB := n2_
                       have BK130 := n3_
                       have GW130 := n4_
                       have GE130 := n5_
                       have NB116_130 := n6_
                       have NB130_116 := n7_
                       have NB119_130 := n8_
                       have NB130_119 := n9_
                       clear n0_ n1_ n2_ n3_ n4_ n5_ n6_ n7_ n8_ n9_
                       clear hb hbox hg
                       refine hK.out _ _ ⟨(blk_cell BK119.out 0).trans rfl, (blk_cell BK119.out 1).trans rfl, (blk_cell BK119.out 2).trans rfl⟩ (fun hHeld => ?_)
                       clear hK K
                       refine norm_ (a' := ?_) ?_ ?_
                       rotate_left
                       ·show Act.put _ (some 12) _ = _
                        simp only [Act.put, List.setIfInBounds_toArray, List.set_cons_zero, List.set_cons_succ, i64_w, i32_w]
                        rfl
                       refine one_ (i := 4) (N := some 72) #[true, true, true, true, true, false, true, true, true, true, false, false, false, false, false, true, true, true, true, true, false, true, false] rfl rfl (one_of HT_.out (by kernel_rfl)) (by decide) (fun K hK => ?_)
                       refine goes_ Try.func32 (by kernel_rfl) rfl #[.slice (some ad118) l0.length c0, .int .i64 x8_2] (by rfl) rfl rfl (by (try simp only [List.map_toArray, List.map_cons, List.map_nil]); first | done | rfl | (simp only [List.length_drop, List.length_take]; rfl)) ?_
                       with_reducible refine (emenderref08_shift.calls kj37 _ _ l0 x8_2 t129 _ ?side1 ?side2 A81.out).mono ?_
                       (case side1 => repeat (first | exact (Kd.C_below HR0.out HB.out) | (with_reducible refine Kd.C_alloc ?_ _) | (with_reducible refine Kd.C_drewN ?_ _) | (with_reducible refine Kd.C_drew ?_)))
                       (case side2 => exact HC0.out)
                       rintro e w' ⟨rfl, ⟨nd, rfl⟩⟩
                       refine ⟨_, rfl, ?_⟩
                       refine hK.out _ _ ⟨(blk_cell BK119.out 0).trans rfl, (blk_cell BK119.out 1).trans rfl, (blk_cell BK119.out 2).trans rfl⟩ (fun hHeld => ?_)
                       clear hK K
                       refine norm_ (a' := ?_) ?_ ?_
                       rotate_left
                       ·show Act.put _ (some 72) _ = _
                        simp only [Act.put, List.setIfInBounds_toArray, List.set_cons_zero, List.set_cons_succ, i64_w, i32_w]
                        rfl
                       refine pure_ (i := 5) (N := some 73) (v := ?_) (a' := ?_) #[true, true, true, true, true, true, true, true, true, true, false, false, false, false, false, true, true, true, true, true, false, true, false] rfl rfl (any_of HT_.out (by kernel_rfl)) (fun _ _ _ h => h) (Or.inl ⟨by rfl, ?_⟩) ?_ ?_
                       rotate_left
                       ·intro w'; go_simp; with_reducible rfl
                       rotate_left
                       ·simp only [Act.put, List.setIfInBounds_toArray, List.set_cons_zero, List.set_cons_succ, i64_w, i32_w]; rfl
                       refine pure_ (i := 10) (N := some 78) (v := ?_) (a' := ?_) #[true, true, true, true, true, true, true, true, true, true, true, false, false, false, false, true, true, true, true, true, false, true, false] rfl rfl (any_of HT_.out (by kernel_rfl)) (fun _ _ _ h => h) (Or.inl ⟨by rfl, ?_⟩) ?_ ?_
                       rotate_left
                       ·intro w'; go_simp; with_reducible rfl
                       rotate_left
                       ·simp only [Act.put, List.setIfInBounds_toArray, List.set_cons_zero, List.set_cons_succ, i64_w, i32_w]; rfl
                       refine pure_ (i := 11) (N := some 79) (v := undef) (a' := ?_) #[true, true, true, true, true, true, true, true, true, true, true, true, false, false, false, true, true, true, true, true, false, true, false] rfl rfl (any_of HT_.out (by kernel_rfl)) (fun _ _ _ h => h) (Or.inr ⟨by rfl, rfl⟩) ?_ ?_
                       rotate_left
                       ·simp only [Act.put, List.setIfInBounds_toArray, List.set_cons_zero, List.set_cons_succ, i64_w, i32_w]; rfl
                       refine pure_ (i := 12) (N := some 80) (v := undef) (a' := ?_) #[true, true, true, true, true, true, true, true, true, true, true, true, true, false, false, true, true, true, true, true, false, true, false] rfl rfl (any_of HT_.out (by kernel_rfl)) (fun _ _ _ h => h) (Or.inr ⟨by rfl, rfl⟩) ?_ ?_
                       rotate_left
                       ·simp only [Act.put, List.setIfInBounds_toArray, List.set_cons_zero, List.set_cons_succ, i64_w, i32_w]; rfl
                       refine pure_ (i := 13) (N := some 81) (v := undef) (a' := ?_) #[true, true, true, true, true, true, true, true, true, true, true, true, true, true, false, true, true, true, true, true, false, true, false] rfl rfl (any_of HT_.out (by kernel_rfl)) (fun _ _ _ h => h) (Or.inr ⟨by rfl, rfl⟩) ?_ ?_
                       rotate_left
                       ·simp only [Act.put, List.setIfInBounds_toArray, List.set_cons_zero, List.set_cons_succ, i64_w, i32_w]; rfl
                       refine pure_ (i := 14) (N := some 82) (v := ?_) (a' := ?_) #[true, true, true, true, true, true, true, true, true, true, true, true, true, true, true, true, true, true, true, true, false, true, false] rfl rfl (any_of HT_.out (by kernel_rfl)) (fun _ _ _ h => h) (Or.inl ⟨by rfl, ?_⟩) ?_ ?_
                       rotate_left
                       ·intro w'; go_simp; with_reducible rfl
                       rotate_left
                       ·simp only [Act.put, List.setIfInBounds_toArray, List.set_cons_zero, List.set_cons_succ, i64_w, i32_w]; rfl
                       refine pure_ (i := 20) (N := some 88) (v := ?_) (a' := ?_) #[true, true, true, true, true, true, true, true, true, true, true, true, true, true, true, true, true, true, true, true, true, true, false] rfl rfl (any_of HT_.out (by kernel_rfl)) (fun _ _ _ h => h) (Or.inl ⟨by rfl, ?_⟩) ?_ ?_
                       rotate_left
                       ·intro w'; go_simp; with_reducible rfl
                       rotate_left
                       ·simp only [Act.put, List.setIfInBounds_toArray, List.set_cons_zero, List.set_cons_succ, i64_w, i32_w]; rfl
                       exact norm_ (by simp only [putAll, Act.put, List.setIfInBounds_toArray, List.set_cons_zero, List.set_cons_succ] <;> simp only [gt_iff_lt, *]) (hCont (gb130) _ ⟨hHeld, (by (with_reducible repeat (first | refine blk_drewN ?_ _ | refine blk_drew ?_ | refine blk_alloc ?_ _)); exact BK116.out), (by (with_reducible repeat (first | refine blk_drewN ?_ _ | refine blk_drew ?_ | refine blk_alloc ?_ _)); exact BK119.out), (by (with_reducible repeat (first | refine blk_drewN ?_ _ | refine blk_drew ?_ | refine blk_alloc ?_ _)); exact BK130.out), GW130.out, GE130.out, NB116_130.out, NB130_116.out, NB119_130.out, NB130_119.out, (by repeat (first | (with_reducible first | exact HB.out | apply below_alloc | apply pw_below_drewN | apply below_drew1 | refine below_set ?_ GE116.out | refine below_set ?_ GE119.out | refine below_set ?_ GE130.out) | exact HB.out))⟩)
                     rintro gb130 w85 ⟨hS_, h0_, h1_, h2_, h3_, h4_, h5_, h6_, h7_, h8_, h9_⟩
                     have n0_ : Aside0 (w85.heap[gb116]? = some (.cells #[.int .i64 x117000_2, .bool x117001_2, .int .i64 x117002_2, .int .i64 x117003_2] 24 (0, 0))) := ⟨h0_⟩
                     have n1_ : Aside0 (w85.heap[gb119]? = some (.cells #[.int .i64 ((rd_T37 l0 x8_2).f0), .int .i64 ((rd_T37 l0 x8_2).f1), .int .i64 ((rd_T37 l0 x8_2).f2)] 37 (0, 0))) := ⟨h1_⟩
                     have n2_ : Aside0 (w85.heap[gb130]? = some (.cells #[.int .i64 0, .bool false, .int .i64 0, .int .i64 0] 24 (0, 0))) := ⟨h2_⟩
                     have n3_ : Aside0 (w.heap.size ≤ gb130) := ⟨h3_⟩
                     have n4_ : Aside0 (w.heap.size ≤ gb130) := ⟨h4_⟩
                     have n5_ : Aside0 (gb116 ≠ gb130) := ⟨h5_⟩
                     have n6_ : Aside0 (gb130 ≠ gb116) := ⟨h6_⟩
                     have n7_ : Aside0 (gb119 ≠ gb130) := ⟨h7_⟩
                     have n8_ : Aside0 (gb130 ≠ gb119) := ⟨h8_⟩
                     have n9_ : Aside0 (Below w.heap.size w w85) := ⟨h9_⟩
                     clear BK116
                     clear BK119
                     clear HB
                     clear h0_ h1_ h2_ h3_ h4_ h5_ h6_ h7_ h8_ h9_
                     have BK116 := n0_
                     have BK119 := n1_
                     have BK130 := n2_
                     have GW130 := n3_
                     have GE130 := n4_
                     have NB116_130 := n5_
                     have NB130_116 := n6_
                     have NB119_130 := n7_
                     have NB130_119 := n8_
                     have HB := n9_
                     clear n0_ n1_ n2_ n3_ n4_ n5_ n6_ n7_ n8_ n9_
                     have hHeld : w85.cell? ⟨gb119, 0, none⟩ = some (.int .i64 ((rd_T37 l0 x8_2).f0)) ∧ w85.cell? ⟨gb119, 1, none⟩ = some (.int .i64 ((rd_T37 l0 x8_2).f1)) ∧ w85.cell? ⟨gb119, 2, none⟩ = some (.int .i64 ((rd_T37 l0 x8_2).f2)) := hS_
                     refine norm_ (a' := ?_) ?_ ?_
                     rotate_left
                     ·simp only [putAll, Act.put, List.setIfInBounds_toArray, List.set_cons_zero, List.set_cons_succ]
                      rfl
                     refine one_ (i := 22) (N := none) #[true, true, true, true, true, true, true, true, true, true, true, true, true, true, true, true, true, true, true, true, true, true, true] rfl rfl (one_of HT_.out (by kernel_rfl)) (by decide) (fun K hK => ?_)
                     have hs86 : w85.cell? ⟨gb130, 0, none⟩ = some (.int .i64 0) := (blk_cell BK130.out 0).trans rfl
                     have hfs86 := blk_frozen BK130.out 0
                     have hns86_0 := NB116_130.out
                     have hns86_1 := NB119_130.out
                     have hms86_0 := NB130_116.out
                     have hms86_1 := NB130_119.out
                     have hs87 : w85.cell? ⟨gb130, 1, none⟩ = some (.bool false) := (blk_cell BK130.out 1).trans rfl
                     have hfs87 := blk_frozen BK130.out 1
                     have hns87_0 := NB116_130.out
                     have hns87_1 := NB119_130.out
                     have hms87_0 := NB130_116.out
                     have hms87_1 := NB130_119.out
                     have hs88 : w85.cell? ⟨gb130, 2, none⟩ = some (.int .i64 0) := (blk_cell BK130.out 2).trans rfl
                     have hfs88 := blk_frozen BK130.out 2
                     have hns88_0 := NB116_130.out
                     have hns88_1 := NB119_130.out
                     have hms88_0 := NB130_116.out
                     have hms88_1 := NB130_119.out
                     have hs89 : w85.cell? ⟨gb130, 3, none⟩ = some (.int .i64 0) := (blk_cell BK130.out 3).trans rfl
                     have hfs89 := blk_frozen BK130.out 3
                     have hns89_0 := NB116_130.out
                     have hns89_1 := NB119_130.out
                     have hms89_0 := NB130_116.out
                     have hms89_1 := NB130_119.out
                     refine skip_ (w1 := ?_) (by rfl) rfl ?_ ?_
                     rotate_left
                     ·go_simp
                      rfl
                     refine hK.out _ _ ⟨((cell_far (p := ⟨gb130, _, none⟩) NB119_130.out _).trans (((cell_far (p := ⟨gb130, _, none⟩) NB119_130.out _).trans (((cell_far (p := ⟨gb130, _, none⟩) NB119_130.out _).trans (((cell_far (p := ⟨gb130, _, none⟩) NB119_130.out _).trans (hHeld.1)))))))), ((cell_far (p := ⟨gb130, _, none⟩) NB119_130.out _).trans (((cell_far (p := ⟨gb130, _, none⟩) NB119_130.out _).trans (((cell_far (p := ⟨gb130, _, none⟩) NB119_130.out _).trans (((cell_far (p := ⟨gb130, _, none⟩) NB119_130.out _).trans (hHeld.2.1)))))))), ((cell_far (p := ⟨gb130, _, none⟩) NB119_130.out _).trans (((cell_far (p := ⟨gb130, _, none⟩) NB119_130.out _).trans (((cell_far (p := ⟨gb130, _, none⟩) NB119_130.out _).trans (((cell_far (p := ⟨gb130, _, none⟩) NB119_130.out _).trans (hHeld.2.2))))))))⟩ (fun hHeld => ?_)
                     clear hK K
                     refine done_ (done_of HT_.out (by kernel_rfl)) ?_
                     go_upto_if 90 with (fail)
                     go_cut [] (fun wc => ∃ (kq : Nat) (x131000_81 : Int), Aside0 (emenderref08_Map.j9 kq a1 a2 (wrap64 (((rd_T37 l0 x8_2).f0) + ((rd_T37 l0 x8_2).f1))) ((rd_T37 l0 x8_2).f0) ((rd_T37 l0 x8_2).f1) ((rd_T37 l0 x8_2).f2) x131000_81 false x8_2 (wrap64 (a1 - ((rd_T37 l0 x8_2).f0))) = some (r1, r2, r3, r4, r5)) ∧ Aside0 (kq ≤ kj37) ∧ Aside0 (wc.heap[gb116]? = some (.cells #[.int .i64 x117000_2, .bool x117001_2, .int .i64 x117002_2, .int .i64 x117003_2] 24 (0, 0))) ∧ Aside0 (wc.heap[gb119]? = some (.cells #[.int .i64 ((rd_T37 l0 x8_2).f0), .int .i64 ((rd_T37 l0 x8_2).f1), .int .i64 ((rd_T37 l0 x8_2).f2)] 37 (0, 0))) ∧ Aside0 (wc.heap[gb130]? = some (.cells #[.int .i64 x131000_81, .bool false, .int .i64 x8_2, .int .i64 (wrap64 (a1 - ((rd_T37 l0 x8_2).f0)))] 24 (0, 0))) ∧ Aside0 (Below w.heap.size w wc))
                     case first =>
                      have H := HC82.out
                      clear HC82
                      by_cases c90 : x11_37 = true
                      ·subst c90
                       have H1 : (emenderref08_Map.j9 kj37 a1 a2 (wrap64 (((rd_T37 l0 x8_2).f0) + ((rd_T37 l0 x8_2).f1))) ((rd_T37 l0 x8_2).f0) ((rd_T37 l0 x8_2).f1) ((rd_T37 l0 x8_2).f2) (wrap64 (((rd_T37 l0 x8_2).f0) + t129)) false x8_2 (wrap64 (a1 - ((rd_T37 l0 x8_2).f0)))) = some (r1, r2, r3, r4, r5) := by rw [if_pos rfl] at H; exact H
                       clear H
                       have H := H1
                       clear H1
                       have H' := Aside0.mk H
                       clear H
                       go_wp2
                       go_meet
                       case rel => exact ⟨_, (wrap64 (((rd_T37 l0 x8_2).f0) + t129)), H', ⟨by have := HJ5.out; have := HK2.out; have := HJ13.out; have := HJ23.out; have := HJ29.out; have := HJ31.out; have := HJ37.out; first | omega | exact Nat.le_refl _⟩, ⟨by (with_reducible repeat (first | refine blk_drewN ?_ _ | refine blk_drew ?_ | refine blk_alloc ?_ _)); refine blk_far ?_ NB116_130.out _; (with_reducible repeat (first | refine blk_drewN ?_ _ | refine blk_drew ?_ | refine blk_alloc ?_ _)); refine blk_far ?_ NB116_130.out _; (with_reducible repeat (first | refine blk_drewN ?_ _ | refine blk_drew ?_ | refine blk_alloc ?_ _)); refine blk_far ?_ NB116_130.out _; (with_reducible repeat (first | refine blk_drewN ?_ _ | refine blk_drew ?_ | refine blk_alloc ?_ _)); refine blk_far ?_ NB116_130.out _; (with_reducible repeat (first | refine blk_drewN ?_ _ | refine blk_drew ?_ | refine blk_alloc ?_ _)); exact BK116.out⟩, ⟨by (with_reducible repeat (first | refine blk_drewN ?_ _ | refine blk_drew ?_ | refine blk_alloc ?_ _)); refine blk_far ?_ NB119_130.out _; (with_reducible repeat (first | refine blk_drewN ?_ _ | refine blk_drew ?_ | refine blk_alloc ?_ _)); refine blk_far ?_ NB119_130.out _; (with_reducible repeat (first | refine blk_drewN ?_ _ | refine blk_drew ?_ | refine blk_alloc ?_ _)); refine blk_far ?_ NB119_130.out _; (with_reducible repeat (first | refine blk_drewN ?_ _ | refine blk_drew ?_ | refine blk_alloc ?_ _)); refine blk_far ?_ NB119_130.out _; (with_reducible repeat (first | refine blk_drewN ?_ _ | refine blk_drew ?_ | refine blk_alloc ?_ _)); exact BK119.out⟩, ⟨by (with_reducible repeat (first | refine blk_drewN ?_ _ | refine blk_drew ?_ | refine blk_alloc ?_ _)); refine blk_put (cs := #[.int .i64 (wrap64 (((rd_T37 l0 x8_2).f0) + t129)), .bool false, .int .i64 x8_2, .int .i64 0]) ?_ 3 _ rfl; (with_reducible repeat (first | refine blk_drewN ?_ _ | refine blk_drew ?_ | refine blk_alloc ?_ _)); refine blk_put (cs := #[.int .i64 (wrap64 (((rd_T37 l0 x8_2).f0) + t129)), .bool false, .int .i64 0, .int .i64 0]) ?_ 2 _ rfl; (with_reducible repeat (first | refine blk_drewN ?_ _ | refine blk_drew ?_ | refine blk_alloc ?_ _)); refine blk_put (cs := #[.int .i64 (wrap64 (((rd_T37 l0 x8_2).f0) + t129)), .bool false, .int .i64 0, .int .i64 0]) ?_ 1 _ rfl; (with_reducible repeat (first | refine blk_drewN ?_ _ | refine blk_drew ?_ | refine blk_alloc ?_ _)); refine blk_put (cs := #[.int .i64 0, .bool false, .int .i64 0, .int .i64 0]) ?_ 0 _ rfl; (with_reducible repeat (first | refine blk_drewN ?_ _ | refine blk_drew ?_ | refine blk_alloc ?_ _)); exact BK130.out⟩, ⟨by repeat (first | (with_reducible first | exact HB.out | apply below_alloc | apply pw_below_drewN | apply below_drew1 | refine below_set ?_ GE116.out | refine below_set ?_ GE119.out | refine below_set ?_ GE130.out) | exact HB.out)⟩⟩
                      ·replace c90 := Bool.eq_false_iff.mpr c90
                       subst c90
                       have H1 : (emenderref08_Map.j9 kj37 a1 a2 (wrap64 (((rd_T37 l0 x8_2).f0) + ((rd_T37 l0 x8_2).f1))) ((rd_T37 l0 x8_2).f0) ((rd_T37 l0 x8_2).f1) ((rd_T37 l0 x8_2).f2) (wrap64 ((wrap64 (((rd_T37 l0 x8_2).f0) + t129)) + ((rd_T37 l0 x8_2).f2))) false x8_2 (wrap64 (a1 - ((rd_T37 l0 x8_2).f0)))) = some (r1, r2, r3, r4, r5) := by rw [if_neg (show ¬ (false = true) by decide)] at H; exact H
                       clear H
                       have H := H1
                       clear H1
                       have H' := Aside0.mk H
                       clear H
                       have hnb91 := NB130_116.out
                       have hnc91 := NB116_130.out
                       have hnb92 := NB130_119.out
                       have hnc92 := NB119_130.out
                       have hcz93_0 : w85.cell? ⟨gb130, 0, none⟩ = some (.int .i64 0) := (blk_cell BK130.out 0).trans rfl; have hcz93_1 : w85.cell? ⟨gb130, 1, none⟩ = some (.bool false) := (blk_cell BK130.out 1).trans rfl; have hcz93_2 : w85.cell? ⟨gb130, 2, none⟩ = some (.int .i64 0) := (blk_cell BK130.out 2).trans rfl; have hcz93_3 : w85.cell? ⟨gb130, 3, none⟩ = some (.int .i64 0) := (blk_cell BK130.out 3).trans rfl; have hfz93_0 := blk_frozen BK130.out 0; have hfz93_1 := blk_frozen BK130.out 1; have hfz93_2 := blk_frozen BK130.out 2; have hfz93_3 := blk_frozen BK130.out 3
                       have hnb94 := NB119_116.out
                       have hnc94 := NB116_119.out
                       have hcz95_0 : w85.cell? ⟨gb119, 0, none⟩ = some (.int .i64 ((rd_T37 l0 x8_2).f0)) := (blk_cell BK119.out 0).trans rfl; have hcz95_1 : w85.cell? ⟨gb119, 1, none⟩ = some (.int .i64 ((rd_T37 l0 x8_2).f1)) := (blk_cell BK119.out 1).trans rfl; have hcz95_2 : w85.cell? ⟨gb119, 2, none⟩ = some (.int .i64 ((rd_T37 l0 x8_2).f2)) := (blk_cell BK119.out 2).trans rfl; have hfz95_0 := blk_frozen BK119.out 0; have hfz95_1 := blk_frozen BK119.out 1; have hfz95_2 := blk_frozen BK119.out 2
                       go_wp2
                       go_meet
                       case rel => exact ⟨_, (wrap64 ((wrap64 (((rd_T37 l0 x8_2).f0) + t129)) + ((rd_T37 l0 x8_2).f2))), H', ⟨by have := HJ5.out; have := HK2.out; have := HJ13.out; have := HJ23.out; have := HJ29.out; have := HJ31.out; have := HJ37.out; first | omega | exact Nat.le_refl _⟩, ⟨by (with_reducible repeat (first | refine blk_drewN ?_ _ | refine blk_drew ?_ | refine blk_alloc ?_ _)); refine blk_far ?_ NB116_130.out _; (with_reducible repeat (first | refine blk_drewN ?_ _ | refine blk_drew ?_ | refine blk_alloc ?_ _)); refine blk_far ?_ NB116_130.out _; (with_reducible repeat (first | refine blk_drewN ?_ _ | refine blk_drew ?_ | refine blk_alloc ?_ _)); refine blk_far ?_ NB116_130.out _; (with_reducible repeat (first | refine blk_drewN ?_ _ | refine blk_drew ?_ | refine blk_alloc ?_ _)); refine blk_far ?_ NB116_130.out _; (with_reducible repeat (first | refine blk_drewN ?_ _ | refine blk_drew ?_ | refine blk_alloc ?_ _)); refine blk_far ?_ NB116_130.out _; (with_reducible repeat (first | refine blk_drewN ?_ _ | refine blk_drew ?_ | refine blk_alloc ?_ _)); exact BK116.out⟩, ⟨by (with_reducible repeat (first | refine blk_drewN ?_ _ | refine blk_drew ?_ | refine blk_alloc ?_ _)); refine blk_far ?_ NB119_130.out _; (with_reducible repeat (first | refine blk_drewN ?_ _ | refine blk_drew ?_ | refine blk_alloc ?_ _)); refine blk_far ?_ NB119_130.out _; (with_reducible repeat (first | refine blk_drewN ?_ _ | refine blk_drew ?_ | refine blk_alloc ?_ _)); refine blk_far ?_ NB119_130.out _; (with_reducible repeat (first | refine blk_drewN ?_ _ | refine blk_drew ?_ | refine blk_alloc ?_ _)); refine blk_far ?_ NB119_130.out _; (with_reducible repeat (first | refine blk_drewN ?_ _ | refine blk_drew ?_ | refine blk_alloc ?_ _)); refine blk_far ?_ NB119_130.out _; (with_reducible repeat (first | refine blk_drewN ?_ _ | refine blk_drew ?_ | refine blk_alloc ?_ _)); exact BK119.out⟩, ⟨by (with_reducible repeat (first | refine blk_drewN ?_ _ | refine blk_drew ?_ | refine blk_alloc ?_ _)); refine blk_put (cs := #[.int .i64 (wrap64 (((rd_T37 l0 x8_2).f0) + t129)), .bool false, .int .i64 x8_2, .int .i64 (wrap64 (a1 - ((rd_T37 l0 x8_2).f0)))]) ?_ 0 _ rfl; (with_reducible repeat (first | refine blk_drewN ?_ _ | refine blk_drew ?_ | refine blk_alloc ?_ _)); refine blk_put (cs := #[.int .i64 (wrap64 (((rd_T37 l0 x8_2).f0) + t129)), .bool false, .int .i64 x8_2, .int .i64 0]) ?_ 3 _ rfl; (with_reducible repeat (first | refine blk_drewN ?_ _ | refine blk_drew ?_ | refine blk_alloc ?_ _)); refine blk_put (cs := #[.int .i64 (wrap64 (((rd_T37 l0 x8_2).f0) + t129)), .bool false, .int .i64 0, .int .i64 0]) ?_ 2 _ rfl; (with_reducible repeat (first | refine blk_drewN ?_ _ | refine blk_drew ?_ | refine blk_alloc ?_ _)); refine blk_put (cs := #[.int .i64 (wrap64 (((rd_T37 l0 x8_2).f0) + t129)), .bool false, .int .i64 0, .int .i64 0]) ?_ 1 _ rfl; (with_reducible repeat (first | refine blk_drewN ?_ _ | refine blk_drew ?_ | refine blk_alloc ?_ _)); refine blk_put (cs := #[.int .i64 0, .bool false, .int .i64 0, .int .i64 0]) ?_ 0 _ rfl; (with_reducible repeat (first | refine blk_drewN ?_ _ | refine blk_drew ?_ | refine blk_alloc ?_ _)); exact BK130.out⟩, ⟨by repeat (first | (with_reducible first | exact HB.out | apply below_alloc | apply pw_below_drewN | apply below_drew1 | refine below_set ?_ GE116.out | refine below_set ?_ GE119.out | refine below_set ?_ GE130.out) | exact HB.out)⟩⟩
                     case rest =>
                      clear HC82
                      (try clear p1); (try clear q1); (try clear hx1); (try clear p2); (try clear c3); (try clear c4); (try clear c6); (try clear p6); (try clear c7); (try clear c9); (try clear p11); (try clear q11); (try clear hx11); (try clear c32); (try clear c40); (try clear c40b0); (try clear p64); (try clear c67); (try clear c69); (try clear c69b0); (try clear c70); (try clear c71); (try clear c72); (try clear c74); (try clear c76); (try clear c77); (try clear c79); (try clear c90); (try clear c91); (try clear c92); (try clear c94); (try clear hcz11_0); (try clear hcz11_1); (try clear hcz11_2); (try clear hcz11_3); (try clear hcz17_0); (try clear hcz17_1); (try clear hcz17_2); (try clear hcz20_0); (try clear hcz20_1); (try clear hcz20_2); (try clear hcz22_0); (try clear hcz22_1); (try clear hcz22_2); (try clear hcz27_0); (try clear hcz27_1); (try clear hcz27_2); (try clear hcz29_0); (try clear hcz29_1); (try clear hcz29_2); (try clear hcz35_0); (try clear hcz35_1); (try clear hcz35_2); (try clear hcz37_0); (try clear hcz37_1); (try clear hcz37_2); (try clear hcz53_0); (try clear hcz53_1); (try clear hcz53_2); (try clear hcz53_3); (try clear hcz55_0); (try clear hcz55_1); (try clear hcz55_2); (try clear hcz61_0); (try clear hcz61_1); (try clear hcz61_2); (try clear hcz65_0); (try clear hcz65_1); (try clear hcz65_2); (try clear hcz68_0); (try clear hcz68_1); (try clear hcz68_2); (try clear hcz73_0); (try clear hcz73_1); (try clear hcz73_2); (try clear hcz73_3); (try clear hcz75_0); (try clear hcz75_1); (try clear hcz75_2); (try clear hcz75_3); (try clear hcz78_0); (try clear hcz78_1); (try clear hcz78_2); (try clear hcz78_3); (try clear hcz80_0); (try clear hcz80_1); (try clear hcz80_2); (try clear hcz80_3); (try clear hcz93_0); (try clear hcz93_1); (try clear hcz93_2); (try clear hcz93_3); (try clear hcz95_0); (try clear hcz95_1); (try clear hcz95_2); (try clear hfz11_0); (try clear hfz11_1); (try clear hfz11_2); (try clear hfz11_3); (try clear hfz17_0); (try clear hfz17_1); (try clear hfz17_2); (try clear hfz20_0); (try clear hfz20_1); (try clear hfz20_2); (try clear hfz22_0); (try clear hfz22_1); (try clear hfz22_2); (try clear hfz27_0); (try clear hfz27_1); (try clear hfz27_2); (try clear hfz29_0); (try clear hfz29_1); (try clear hfz29_2); (try clear hfz35_0); (try clear hfz35_1); (try clear hfz35_2); (try clear hfz37_0); (try clear hfz37_1); (try clear hfz37_2); (try clear hfz53_0); (try clear hfz53_1); (try clear hfz53_2); (try clear hfz53_3); (try clear hfz55_0); (try clear hfz55_1); (try clear hfz55_2); (try clear hfz61_0); (try clear hfz61_1); (try clear hfz61_2); (try clear hfz65_0); (try clear hfz65_1); (try clear hfz65_2); (try clear hfz68_0); (try clear hfz68_1); (try clear hfz68_2); (try clear hfz73_0); (try clear hfz73_1); (try clear hfz73_2); (try clear hfz73_3); (try clear hfz75_0); (try clear hfz75_1); (try clear hfz75_2); (try clear hfz75_3); (try clear hfz78_0); (try clear hfz78_1); (try clear hfz78_2); (try clear hfz78_3); (try clear hfz80_0); (try clear hfz80_1); (try clear hfz80_2); (try clear hfz80_3); (try clear hfz93_0); (try clear hfz93_1); (try clear hfz93_2); (try clear hfz93_3); (try clear hfz95_0); (try clear hfz95_1); (try clear hfz95_2); (try clear hx118_0); (try clear hx118_1); (try clear hx118_2); (try clear p1); (try clear p11); (try clear p118); (try clear p2); (try clear p6); (try clear q1); (try clear q11); (try clear q118)
                      obtain ⟨kq, x131000_81, HA, HJ81, BK116, BK119, BK130, HB⟩ := hcut
                      cases kq with
                      | zero => exact absurd HA.out (by simp [emenderref08_Map.j9])
                      | succ kj81 =>
                       have H := HA.out
                       clear HA
                       simp only [emenderref08_Map.j9] at H
                       have HC96 := Aside0.mk H
                       clear H
                       go_upto_region 19 with (fail)
                       go_cut [113] (fun v113 wc => ∃ (kq : Nat) (x113_95 : Bool), v113 = .bool x113_95 ∧ Aside0 (emenderref08_Map.j10 kq x113_95 x131000_81 false x8_2 (wrap64 (a1 - ((rd_T37 l0 x8_2).f0))) = some (r1, r2, r3, r4, r5)) ∧ Aside0 (kq ≤ kj81) ∧ Aside0 (wc.heap[gb116]? = some (.cells #[.int .i64 x117000_2, .bool x117001_2, .int .i64 x117002_2, .int .i64 x117003_2] 24 (0, 0))) ∧ Aside0 (wc.heap[gb119]? = some (.cells #[.int .i64 ((rd_T37 l0 x8_2).f0), .int .i64 ((rd_T37 l0 x8_2).f1), .int .i64 ((rd_T37 l0 x8_2).f2)] 37 (0, 0))) ∧ Aside0 (wc.heap[gb130]? = some (.cells #[.int .i64 x131000_81, .bool false, .int .i64 x8_2, .int .i64 (wrap64 (a1 - ((rd_T37 l0 x8_2).f0)))] 24 (0, 0))) ∧ Aside0 (Below w.heap.size w wc))
                       case first =>
                        have H := HC96.out
                        clear HC96
                        by_cases c97 : a2 < 0
                        ·rw [if_pos c97] at H
                         have c97b0 : decide (a2 < 0) = true := decide_eq_true c97
                         clear c97
                         (first | rw [c97b0] | (simp only [i64_w, i32_w]; rw [c97b0]) | skip)
                         by_cases c98 : a1 = ((rd_T37 l0 x8_2).f0)
                         ·rw [if_pos c98] at H
                          have c98b0 : (a1 == ((rd_T37 l0 x8_2).f0)) = true := beq_iff_eq.mpr c98
                          have c98b1 : (a1 != ((rd_T37 l0 x8_2).f0)) = false := bne_eq_false_iff_eq.mpr c98
                          clear c98
                          have H' := Aside0.mk H
                          clear H
                          have hnb99 := NB119_116.out
                          have hnc99 := NB116_119.out
                          have hnb100 := NB119_130.out
                          have hnc100 := NB130_119.out
                          have hcz101_0 : wc.cell? ⟨gb119, 0, none⟩ = some (.int .i64 ((rd_T37 l0 x8_2).f0)) := (blk_cell BK119.out 0).trans rfl; have hcz101_1 : wc.cell? ⟨gb119, 1, none⟩ = some (.int .i64 ((rd_T37 l0 x8_2).f1)) := (blk_cell BK119.out 1).trans rfl; have hcz101_2 : wc.cell? ⟨gb119, 2, none⟩ = some (.int .i64 ((rd_T37 l0 x8_2).f2)) := (blk_cell BK119.out 2).trans rfl; have hfz101_0 := blk_frozen BK119.out 0; have hfz101_1 := blk_frozen BK119.out 1; have hfz101_2 := blk_frozen BK119.out 2
                          go_wp2
                          go_meet
                          case rel => exact ⟨_, (true), (by first | rfl | (simp; done) | (simp [*]; done)), H', ⟨by have := HJ5.out; have := HK2.out; have := HJ13.out; have := HJ23.out; have := HJ29.out; have := HJ31.out; have := HJ37.out; have := HJ81.out; first | omega | exact Nat.le_refl _⟩, ⟨by (with_reducible repeat (first | refine blk_drewN ?_ _ | refine blk_drew ?_ | refine blk_alloc ?_ _)); exact BK116.out⟩, ⟨by (with_reducible repeat (first | refine blk_drewN ?_ _ | refine blk_drew ?_ | refine blk_alloc ?_ _)); exact BK119.out⟩, ⟨by (with_reducible repeat (first | refine blk_drewN ?_ _ | refine blk_drew ?_ | refine blk_alloc ?_ _)); exact BK130.out⟩, ⟨by repeat (first | (with_reducible first | exact HB.out | apply below_alloc | apply pw_below_drewN | apply below_drew1 | refine below_set ?_ GE116.out | refine below_set ?_ GE119.out | refine below_set ?_ GE130.out) | exact HB.out)⟩⟩
                         ·rw [if_neg c98] at H
                          have c98b0 : (a1 == ((rd_T37 l0 x8_2).f0)) = false := beq_eq_false_iff_ne.mpr c98
                          have c98b1 : (a1 != ((rd_T37 l0 x8_2).f0)) = true := bne_iff_ne.mpr c98
                          by_cases c102 : a2 ≥ 0
                          ·rw [if_pos c102] at H
                           have c102b0 : decide (0 ≤ a2) = true := decide_eq_true c102
                           clear c102
                           have H' := Aside0.mk H
                           clear H
                           have hnb103 := NB119_116.out
                           have hnc103 := NB116_119.out
                           have hnb104 := NB119_130.out
                           have hnc104 := NB130_119.out
                           have hcz105_0 : wc.cell? ⟨gb119, 0, none⟩ = some (.int .i64 ((rd_T37 l0 x8_2).f0)) := (blk_cell BK119.out 0).trans rfl; have hcz105_1 : wc.cell? ⟨gb119, 1, none⟩ = some (.int .i64 ((rd_T37 l0 x8_2).f1)) := (blk_cell BK119.out 1).trans rfl; have hcz105_2 : wc.cell? ⟨gb119, 2, none⟩ = some (.int .i64 ((rd_T37 l0 x8_2).f2)) := (blk_cell BK119.out 2).trans rfl; have hfz105_0 := blk_frozen BK119.out 0; have hfz105_1 := blk_frozen BK119.out 1; have hfz105_2 := blk_frozen BK119.out 2
                           go_wp2
                           go_meet
                           case rel => exact ⟨_, ((a1 == (wrap64 (((rd_T37 l0 x8_2).f0) + ((rd_T37 l0 x8_2).f1))))), (by first | rfl | (simp; done) | (simp [*]; done)), H', ⟨by have := HJ5.out; have := HK2.out; have := HJ13.out; have := HJ23.out; have := HJ29.out; have := HJ31.out; have := HJ37.out; have := HJ81.out; first | omega | exact Nat.le_refl _⟩, ⟨by (with_reducible repeat (first | refine blk_drewN ?_ _ | refine blk_drew ?_ | refine blk_alloc ?_ _)); exact BK116.out⟩, ⟨by (with_reducible repeat (first | refine blk_drewN ?_ _ | refine blk_drew ?_ | refine blk_alloc ?_ _)); exact BK119.out⟩, ⟨by (with_reducible repeat (first | refine blk_drewN ?_ _ | refine blk_drew ?_ | refine blk_alloc ?_ _)); exact BK130.out⟩, ⟨by repeat (first | (with_reducible first | exact HB.out | apply below_alloc | apply pw_below_drewN | apply below_drew1 | refine below_set ?_ GE116.out | refine below_set ?_ GE119.out | refine below_set ?_ GE130.out) | exact HB.out)⟩⟩
                          ·rw [if_neg c102] at H
                           have c102b0 : decide (0 ≤ a2) = false := decide_eq_false c102
                           clear c102
                           have H' := Aside0.mk H
                           clear H
                           have hnb106 := NB119_116.out
                           have hnc106 := NB116_119.out
                           have hnb107 := NB119_130.out
                           have hnc107 := NB130_119.out
                           have hcz108_0 : wc.cell? ⟨gb119, 0, none⟩ = some (.int .i64 ((rd_T37 l0 x8_2).f0)) := (blk_cell BK119.out 0).trans rfl; have hcz108_1 : wc.cell? ⟨gb119, 1, none⟩ = some (.int .i64 ((rd_T37 l0 x8_2).f1)) := (blk_cell BK119.out 1).trans rfl; have hcz108_2 : wc.cell? ⟨gb119, 2, none⟩ = some (.int .i64 ((rd_T37 l0 x8_2).f2)) := (blk_cell BK119.out 2).trans rfl; have hfz108_0 := blk_frozen BK119.out 0; have hfz108_1 := blk_frozen BK119.out 1; have hfz108_2 := blk_frozen BK119.out 2
                           go_wp2
                           go_meet
                           case rel => exact ⟨_, (false), (by first | rfl | (simp; done) | (simp [*]; done)), H', ⟨by have := HJ5.out; have := HK2.out; have := HJ13.out; have := HJ23.out; have := HJ29.out; have := HJ31.out; have := HJ37.out; have := HJ81.out; first | omega | exact Nat.le_refl _⟩, ⟨by (with_reducible repeat (first | refine blk_drewN ?_ _ | refine blk_drew ?_ | refine blk_alloc ?_ _)); exact BK116.out⟩, ⟨by (with_reducible repeat (first | refine blk_drewN ?_ _ | refine blk_drew ?_ | refine blk_alloc ?_ _)); exact BK119.out⟩, ⟨by (with_reducible repeat (first | refine blk_drewN ?_ _ | refine blk_drew ?_ | refine blk_alloc ?_ _)); exact BK130.out⟩, ⟨by repeat (first | (with_reducible first | exact HB.out | apply below_alloc | apply pw_below_drewN | apply below_drew1 | refine below_set ?_ GE116.out | refine below_set ?_ GE119.out | refine below_set ?_ GE130.out) | exact HB.out)⟩⟩
                        ·rw [if_neg c97] at H
                         have c97b0 : decide (a2 < 0) = false := decide_eq_false c97
                         clear c97
                         (first | rw [c97b0] | (simp only [i64_w, i32_w]; rw [c97b0]) | skip)
                         by_cases c109 : a2 ≥ 0
                         ·rw [if_pos c109] at H
                          have c109b0 : decide (0 ≤ a2) = true := decide_eq_true c109
                          clear c109
                          have H' := Aside0.mk H
                          clear H
                          go_wp2
                          go_meet
                          case rel => exact ⟨_, ((a1 == (wrap64 (((rd_T37 l0 x8_2).f0) + ((rd_T37 l0 x8_2).f1))))), (by first | rfl | (simp; done) | (simp [*]; done)), H', ⟨by have := HJ5.out; have := HK2.out; have := HJ13.out; have := HJ23.out; have := HJ29.out; have := HJ31.out; have := HJ37.out; have := HJ81.out; first | omega | exact Nat.le_refl _⟩, ⟨by (with_reducible repeat (first | refine blk_drewN ?_ _ | refine blk_drew ?_ | refine blk_alloc ?_ _)); exact BK116.out⟩, ⟨by (with_reducible repeat (first | refine blk_drewN ?_ _ | refine blk_drew ?_ | refine blk_alloc ?_ _)); exact BK119.out⟩, ⟨by (with_reducible repeat (first | refine blk_drewN ?_ _ | refine blk_drew ?_ | refine blk_alloc ?_ _)); exact BK130.out⟩, ⟨by repeat (first | (with_reducible first | exact HB.out | apply below_alloc | apply pw_below_drewN | apply below_drew1 | refine below_set ?_ GE116.out | refine below_set ?_ GE119.out | refine below_set ?_ GE130.out) | exact HB.out)⟩⟩
                         ·rw [if_neg c109] at H
                          have c109b0 : decide (0 ≤ a2) = false := decide_eq_false c109
                          clear c109
                          have H' := Aside0.mk H
                          clear H
                          go_wp2
                          go_meet
                          case rel => exact ⟨_, (false), (by first | rfl | (simp; done) | (simp [*]; done)), H', ⟨by have := HJ5.out; have := HK2.out; have := HJ13.out; have := HJ23.out; have := HJ29.out; have := HJ31.out; have := HJ37.out; have := HJ81.out; first | omega | exact Nat.le_refl _⟩, ⟨by (with_reducible repeat (first | refine blk_drewN ?_ _ | refine blk_drew ?_ | refine blk_alloc ?_ _)); exact BK116.out⟩, ⟨by (with_reducible repeat (first | refine blk_drewN ?_ _ | refine blk_drew ?_ | refine blk_alloc ?_ _)); exact BK119.out⟩, ⟨by (with_reducible repeat (first | refine blk_drewN ?_ _ | refine blk_drew ?_ | refine blk_alloc ?_ _)); exact BK130.out⟩, ⟨by repeat (first | (with_reducible first | exact HB.out | apply below_alloc | apply pw_below_drewN | apply below_drew1 | refine below_set ?_ GE116.out | refine below_set ?_ GE119.out | refine below_set ?_ GE130.out) | exact HB.out)⟩⟩
                       case rest =>
                        clear HC96
                        (try clear c1); (try clear p1); (try clear q1); (try clear hx1); (try clear p2); (try clear c3); (try clear c4); (try clear c6); (try clear p6); (try clear c7); (try clear c9); (try clear c10); (try clear p11); (try clear q11); (try clear hx11); (try clear c32); (try clear c40); (try clear c40b0); (try clear p64); (try clear c67); (try clear c69); (try clear c69b0); (try clear c70); (try clear c71); (try clear c72); (try clear c74); (try clear c76); (try clear c77); (try clear c79); (try clear c90); (try clear c91); (try clear c92); (try clear c94); (try clear c97); (try clear c97b0); (try clear c98); (try clear c98b0); (try clear c98b1); (try clear c99); (try clear c100); (try clear c102); (try clear c102b0); (try clear c103); (try clear c104); (try clear c106); (try clear c107); (try clear c109); (try clear c109b0); (try clear hcz101_0); (try clear hcz101_1); (try clear hcz101_2); (try clear hcz105_0); (try clear hcz105_1); (try clear hcz105_2); (try clear hcz108_0); (try clear hcz108_1); (try clear hcz108_2); (try clear hcz11_0); (try clear hcz11_1); (try clear hcz11_2); (try clear hcz11_3); (try clear hcz17_0); (try clear hcz17_1); (try clear hcz17_2); (try clear hcz20_0); (try clear hcz20_1); (try clear hcz20_2); (try clear hcz22_0); (try clear hcz22_1); (try clear hcz22_2); (try clear hcz27_0); (try clear hcz27_1); (try clear hcz27_2); (try clear hcz29_0); (try clear hcz29_1); (try clear hcz29_2); (try clear hcz35_0); (try clear hcz35_1); (try clear hcz35_2); (try clear hcz37_0); (try clear hcz37_1); (try clear hcz37_2); (try clear hcz53_0); (try clear hcz53_1); (try clear hcz53_2); (try clear hcz53_3); (try clear hcz55_0); (try clear hcz55_1); (try clear hcz55_2); (try clear hcz61_0); (try clear hcz61_1); (try clear hcz61_2); (try clear hcz65_0); (try clear hcz65_1); (try clear hcz65_2); (try clear hcz68_0); (try clear hcz68_1); (try clear hcz68_2); (try clear hcz73_0); (try clear hcz73_1); (try clear hcz73_2); (try clear hcz73_3); (try clear hcz75_0); (try clear hcz75_1); (try clear hcz75_2); (try clear hcz75_3); (try clear hcz78_0); (try clear hcz78_1); (try clear hcz78_2); (try clear hcz78_3); (try clear hcz80_0); (try clear hcz80_1); (try clear hcz80_2); (try clear hcz80_3); (try clear hcz93_0); (try clear hcz93_1); (try clear hcz93_2); (try clear hcz93_3); (try clear hcz95_0); (try clear hcz95_1); (try clear hcz95_2); (try clear hfz101_0); (try clear hfz101_1); (try clear hfz101_2); (try clear hfz105_0); (try clear hfz105_1); (try clear hfz105_2); (try clear hfz108_0); (try clear hfz108_1); (try clear hfz108_2); (try clear hfz11_0); (try clear hfz11_1); (try clear hfz11_2); (try clear hfz11_3); (try clear hfz17_0); (try clear hfz17_1); (try clear hfz17_2); (try clear hfz20_0); (try clear hfz20_1); (try clear hfz20_2); (try clear hfz22_0); (try clear hfz22_1); (try clear hfz22_2); (try clear hfz27_0); (try clear hfz27_1); (try clear hfz27_2); (try clear hfz29_0); (try clear hfz29_1); (try clear hfz29_2); (try clear hfz35_0); (try clear hfz35_1); (try clear hfz35_2); (try clear hfz37_0); (try clear hfz37_1); (try clear hfz37_2); (try clear hfz53_0); (try clear hfz53_1); (try clear hfz53_2); (try clear hfz53_3); (try clear hfz55_0); (try clear hfz55_1); (try clear hfz55_2); (try clear hfz61_0); (try clear hfz61_1); (try clear hfz61_2); (try clear hfz65_0); (try clear hfz65_1); (try clear hfz65_2); (try clear hfz68_0); (try clear hfz68_1); (try clear hfz68_2); (try clear hfz73_0); (try clear hfz73_1); (try clear hfz73_2); (try clear hfz73_3); (try clear hfz75_0); (try clear hfz75_1); (try clear hfz75_2); (try clear hfz75_3); (try clear hfz78_0); (try clear hfz78_1); (try clear hfz78_2); (try clear hfz78_3); (try clear hfz80_0); (try clear hfz80_1); (try clear hfz80_2); (try clear hfz80_3); (try clear hfz93_0); (try clear hfz93_1); (try clear hfz93_2); (try clear hfz93_3); (try clear hfz95_0); (try clear hfz95_1); (try clear hfz95_2); (try clear hx118_0); (try clear hx118_1); (try clear hx118_2); (try clear p1); (try clear p11); (try clear p118); (try clear p2); (try clear p6); (try clear p64); (try clear q1); (try clear q11); (try clear q118)
                        obtain ⟨kq, x113_95, rfl, HA, HJ95, BK116, BK119, BK130, HB⟩ := hcut
                        cases kq with
                        | zero => exact absurd HA.out (by simp [emenderref08_Map.j10])
                        | succ kj95 =>
                         have H := HA.out
                         clear HA
                         simp only [emenderref08_Map.j10] at H
                         by_cases c110 : x113_95 = true
                         ·subst c110
                          have H1 : (some (x131000_81, false, (-1), 0, 0)) = some (r1, r2, r3, r4, r5) := by rw [if_pos rfl] at H; exact H
                          clear H
                          have H := H1
                          clear H1
                          simp only [Option.some.injEq, Prod.mk.injEq] at H
                          obtain ⟨rfl, rfl, rfl, rfl, rfl⟩ := H
                          have hnb111 := NB130_116.out
                          have hnc111 := NB116_130.out
                          have hnb112 := NB130_119.out
                          have hnc112 := NB119_130.out
                          have hcz113_0 : wc.cell? ⟨gb130, 0, none⟩ = some (.int .i64 x131000_81) := (blk_cell BK130.out 0).trans rfl; have hcz113_1 : wc.cell? ⟨gb130, 1, none⟩ = some (.bool false) := (blk_cell BK130.out 1).trans rfl; have hcz113_2 : wc.cell? ⟨gb130, 2, none⟩ = some (.int .i64 x8_2) := (blk_cell BK130.out 2).trans rfl; have hcz113_3 : wc.cell? ⟨gb130, 3, none⟩ = some (.int .i64 (wrap64 (a1 - ((rd_T37 l0 x8_2).f0)))) := (blk_cell BK130.out 3).trans rfl; have hfz113_0 := blk_frozen BK130.out 0; have hfz113_1 := blk_frozen BK130.out 1; have hfz113_2 := blk_frozen BK130.out 2; have hfz113_3 := blk_frozen BK130.out 3
                          have hnb114 := NB116_119.out
                          have hnc114 := NB119_116.out
                          have hcz115_0 : wc.cell? ⟨gb116, 0, none⟩ = some (.int .i64 x117000_2) := (blk_cell BK116.out 0).trans rfl; have hcz115_1 : wc.cell? ⟨gb116, 1, none⟩ = some (.bool x117001_2) := (blk_cell BK116.out 1).trans rfl; have hcz115_2 : wc.cell? ⟨gb116, 2, none⟩ = some (.int .i64 x117002_2) := (blk_cell BK116.out 2).trans rfl; have hcz115_3 : wc.cell? ⟨gb116, 3, none⟩ = some (.int .i64 x117003_2) := (blk_cell BK116.out 3).trans rfl; have hfz115_0 := blk_frozen BK116.out 0; have hfz115_1 := blk_frozen BK116.out 1; have hfz115_2 := blk_frozen BK116.out 2; have hfz115_3 := blk_frozen BK116.out 3
                          go_wp2
                          refine bodyPost_ret (results_ct rfl _ _ gb116 24 #[.int .i64 x131000_81, .bool false, .int .i64 (-1), .int .i64 0] (0, 0) _ rfl (by (with_reducible repeat (first | refine blk_drewN ?_ _ | refine blk_drew ?_ | refine blk_alloc ?_ _)); refine blk_put (cs := #[.int .i64 x131000_81, .bool false, .int .i64 (-1), .int .i64 x117003_2]) ?_ 3 _ rfl; (with_reducible repeat (first | refine blk_drewN ?_ _ | refine blk_drew ?_ | refine blk_alloc ?_ _)); refine blk_put (cs := #[.int .i64 x131000_81, .bool false, .int .i64 x117002_2, .int .i64 x117003_2]) ?_ 2 _ rfl; (with_reducible repeat (first | refine blk_drewN ?_ _ | refine blk_drew ?_ | refine blk_alloc ?_ _)); refine blk_put (cs := #[.int .i64 x131000_81, .bool x117001_2, .int .i64 x117002_2, .int .i64 x117003_2]) ?_ 1 _ rfl; (with_reducible repeat (first | refine blk_drewN ?_ _ | refine blk_drew ?_ | refine blk_alloc ?_ _)); refine blk_put (cs := #[.int .i64 x117000_2, .bool x117001_2, .int .i64 x117002_2, .int .i64 x117003_2]) ?_ 0 _ rfl; (with_reducible repeat (first | refine blk_drewN ?_ _ | refine blk_drew ?_ | refine blk_alloc ?_ _)); refine blk_far ?_ NB116_130.out _; (with_reducible repeat (first | refine blk_drewN ?_ _ | refine blk_drew ?_ | refine blk_alloc ?_ _)); refine blk_far ?_ NB116_130.out _; (with_reducible repeat (first | refine blk_drewN ?_ _ | refine blk_drew ?_ | refine blk_alloc ?_ _)); exact BK116.out) Try.underlying24 rfl (by kernel_rfl)) rfl ?_
                          exact ⟨by first | rfl | (simp [errW_none, errW_some] <;> rfl) | (simp [*, errW_none, errW_some] <;> rfl), by repeat (first | (with_reducible first | exact HB.out | apply below_alloc | apply pw_below_drewN | apply below_drew1 | refine below_set ?_ GE116.out | refine below_set ?_ GE119.out | refine below_set ?_ GE130.out) | exact HB.out)⟩
                         ·replace c110 := Bool.eq_false_iff.mpr c110
                          subst c110
                          have H1 : (some (x131000_81, false, x8_2, (wrap64 (a1 - ((rd_T37 l0 x8_2).f0))), 0)) = some (r1, r2, r3, r4, r5) := by rw [if_neg (show ¬ (false = true) by decide)] at H; exact H
                          clear H
                          have H := H1
                          clear H1
                          simp only [Option.some.injEq, Prod.mk.injEq] at H
                          obtain ⟨rfl, rfl, rfl, rfl, rfl⟩ := H
                          have hnb116 := NB130_116.out
                          have hnc116 := NB116_130.out
                          have hnb117 := NB130_119.out
                          have hnc117 := NB119_130.out
                          have hcz118_0 : wc.cell? ⟨gb130, 0, none⟩ = some (.int .i64 x131000_81) := (blk_cell BK130.out 0).trans rfl; have hcz118_1 : wc.cell? ⟨gb130, 1, none⟩ = some (.bool false) := (blk_cell BK130.out 1).trans rfl; have hcz118_2 : wc.cell? ⟨gb130, 2, none⟩ = some (.int .i64 x8_2) := (blk_cell BK130.out 2).trans rfl; have hcz118_3 : wc.cell? ⟨gb130, 3, none⟩ = some (.int .i64 (wrap64 (a1 - ((rd_T37 l0 x8_2).f0)))) := (blk_cell BK130.out 3).trans rfl; have hfz118_0 := blk_frozen BK130.out 0; have hfz118_1 := blk_frozen BK130.out 1; have hfz118_2 := blk_frozen BK130.out 2; have hfz118_3 := blk_frozen BK130.out 3
                          have hnb119 := NB116_119.out
                          have hnc119 := NB119_116.out
                          have hcz120_0 : wc.cell? ⟨gb116, 0, none⟩ = some (.int .i64 x117000_2) := (blk_cell BK116.out 0).trans rfl; have hcz120_1 : wc.cell? ⟨gb116, 1, none⟩ = some (.bool x117001_2) := (blk_cell BK116.out 1).trans rfl; have hcz120_2 : wc.cell? ⟨gb116, 2, none⟩ = some (.int .i64 x117002_2) := (blk_cell BK116.out 2).trans rfl; have hcz120_3 : wc.cell? ⟨gb116, 3, none⟩ = some (.int .i64 x117003_2) := (blk_cell BK116.out 3).trans rfl; have hfz120_0 := blk_frozen BK116.out 0; have hfz120_1 := blk_frozen BK116.out 1; have hfz120_2 := blk_frozen BK116.out 2; have hfz120_3 := blk_frozen BK116.out 3
                          go_wp2
                          refine bodyPost_ret (results_ct rfl _ _ gb116 24 #[.int .i64 x131000_81, .bool false, .int .i64 x8_2, .int .i64 (wrap64 (a1 - ((rd_T37 l0 x8_2).f0)))] (0, 0) _ rfl (by (with_reducible repeat (first | refine blk_drewN ?_ _ | refine blk_drew ?_ | refine blk_alloc ?_ _)); refine blk_put (cs := #[.int .i64 x131000_81, .bool false, .int .i64 x8_2, .int .i64 x117003_2]) ?_ 3 _ rfl; (with_reducible repeat (first | refine blk_drewN ?_ _ | refine blk_drew ?_ | refine blk_alloc ?_ _)); refine blk_put (cs := #[.int .i64 x131000_81, .bool false, .int .i64 x117002_2, .int .i64 x117003_2]) ?_ 2 _ rfl; (with_reducible repeat (first | refine blk_drewN ?_ _ | refine blk_drew ?_ | refine blk_alloc ?_ _)); refine blk_put (cs := #[.int .i64 x131000_81, .bool x117001_2, .int .i64 x117002_2, .int .i64 x117003_2]) ?_ 1 _ rfl; (with_reducible repeat (first | refine blk_drewN ?_ _ | refine blk_drew ?_ | refine blk_alloc ?_ _)); refine blk_put (cs := #[.int .i64 x117000_2, .bool x117001_2, .int .i64 x117002_2, .int .i64 x117003_2]) ?_ 0 _ rfl; (with_reducible repeat (first | refine blk_drewN ?_ _ | refine blk_drew ?_ | refine blk_alloc ?_ _)); exact BK116.out) Try.underlying24 rfl (by kernel_rfl)) rfl ?_
                          exact ⟨by first | rfl | (simp [errW_none, errW_some] <;> rfl) | (simp [*, errW_none, errW_some] <;> rfl), by repeat (first | (with_reducible first | exact HB.out | apply below_alloc | apply pw_below_drewN | apply below_drew1 | refine below_set ?_ GE116.out | refine below_set ?_ GE119.out | refine below_set ?_ GE130.out) | exact HB.out)⟩
        ·rw [if_neg c13] at H
         exact absurd H (by simp)
       ·rw [if_neg c12] at H
        have c12b0 : decide (x8_2 < (l0.length : Int)) = false := decide_eq_false c12
        clear c12
        have H' := Aside0.mk H
        clear H
        go_wp2
        go_loopg [13] k2 (fun kq v13 w' => ∃ (x13_3 : Int), v13 = .int .i64 x13_3 ∧ Aside0 (emenderref08_Map.l1 kq l0 a1 x13_3 = some (r1, r2, r3, r4, r5)) ∧ Aside0 (kq ≤ k2) ∧ Aside0 (w'.heap[gb116]? = some (.cells #[.int .i64 x117000_2, .bool x117001_2, .int .i64 x117002_2, .int .i64 x117003_2] 24 (0, 0))) ∧ Aside0 (Below w.heap.size w w'))
        case atStart => exact ⟨(0), (by first | rfl | (simp; done) | (simp [*]; done)), H', ⟨Nat.le_refl _⟩, ⟨by (with_reducible repeat (first | refine blk_drewN ?_ _ | refine blk_drew ?_ | refine blk_alloc ?_ _)); exact BK116.out⟩, ⟨by repeat (first | (with_reducible first | exact HB.out | apply below_alloc | apply pw_below_drewN | apply below_drew1 | refine below_set ?_ GE116.out) | exact HB.out)⟩⟩
        case round =>
         clear H'
         (try clear c1); (try clear p1); (try clear q1); (try clear hx1); (try clear p2); (try clear c3); (try clear c4); (try clear c6); (try clear p6); (try clear c7); (try clear c9); (try clear c10); (try clear c11); (try clear p11); (try clear q11); (try clear hx11); (try clear c12); (try clear c12b0); (try clear c13); (try clear c32); (try clear c40); (try clear c40b0); (try clear p64); (try clear c67); (try clear c69); (try clear c69b0); (try clear c70); (try clear c71); (try clear c72); (try clear c74); (try clear c76); (try clear c77); (try clear c79); (try clear c90); (try clear c91); (try clear c92); (try clear c94); (try clear c97); (try clear c97b0); (try clear c98); (try clear c98b0); (try clear c98b1); (try clear c99); (try clear c100); (try clear c102); (try clear c102b0); (try clear c103); (try clear c104); (try clear c106); (try clear c107); (try clear c109); (try clear c109b0); (try clear c110); (try clear c111); (try clear c112); (try clear c114); (try clear c116); (try clear c117); (try clear p118); (try clear q118); (try clear hx118); (try clear c119); (try clear hcz101_0); (try clear hcz101_1); (try clear hcz101_2); (try clear hcz105_0); (try clear hcz105_1); (try clear hcz105_2); (try clear hcz108_0); (try clear hcz108_1); (try clear hcz108_2); (try clear hcz113_0); (try clear hcz113_1); (try clear hcz113_2); (try clear hcz113_3); (try clear hcz115_0); (try clear hcz115_1); (try clear hcz115_2); (try clear hcz115_3); (try clear hcz118_0); (try clear hcz118_1); (try clear hcz118_2); (try clear hcz118_3); (try clear hcz11_0); (try clear hcz11_1); (try clear hcz11_2); (try clear hcz11_3); (try clear hcz120_0); (try clear hcz120_1); (try clear hcz120_2); (try clear hcz120_3); (try clear hcz17_0); (try clear hcz17_1); (try clear hcz17_2); (try clear hcz20_0); (try clear hcz20_1); (try clear hcz20_2); (try clear hcz22_0); (try clear hcz22_1); (try clear hcz22_2); (try clear hcz27_0); (try clear hcz27_1); (try clear hcz27_2); (try clear hcz29_0); (try clear hcz29_1); (try clear hcz29_2); (try clear hcz35_0); (try clear hcz35_1); (try clear hcz35_2); (try clear hcz37_0); (try clear hcz37_1); (try clear hcz37_2); (try clear hcz53_0); (try clear hcz53_1); (try clear hcz53_2); (try clear hcz53_3); (try clear hcz55_0); (try clear hcz55_1); (try clear hcz55_2); (try clear hcz61_0); (try clear hcz61_1); (try clear hcz61_2); (try clear hcz65_0); (try clear hcz65_1); (try clear hcz65_2); (try clear hcz68_0); (try clear hcz68_1); (try clear hcz68_2); (try clear hcz73_0); (try clear hcz73_1); (try clear hcz73_2); (try clear hcz73_3); (try clear hcz75_0); (try clear hcz75_1); (try clear hcz75_2); (try clear hcz75_3); (try clear hcz78_0); (try clear hcz78_1); (try clear hcz78_2); (try clear hcz78_3); (try clear hcz80_0); (try clear hcz80_1); (try clear hcz80_2); (try clear hcz80_3); (try clear hcz93_0); (try clear hcz93_1); (try clear hcz93_2); (try clear hcz93_3); (try clear hcz95_0); (try clear hcz95_1); (try clear hcz95_2); (try clear hfz101_0); (try clear hfz101_1); (try clear hfz101_2); (try clear hfz105_0); (try clear hfz105_1); (try clear hfz105_2); (try clear hfz108_0); (try clear hfz108_1); (try clear hfz108_2); (try clear hfz113_0); (try clear hfz113_1); (try clear hfz113_2); (try clear hfz113_3); (try clear hfz115_0); (try clear hfz115_1); (try clear hfz115_2); (try clear hfz115_3); (try clear hfz118_0); (try clear hfz118_1); (try clear hfz118_2); (try clear hfz118_3); (try clear hfz11_0); (try clear hfz11_1); (try clear hfz11_2); (try clear hfz11_3); (try clear hfz120_0); (try clear hfz120_1); (try clear hfz120_2); (try clear hfz120_3); (try clear hfz17_0); (try clear hfz17_1); (try clear hfz17_2); (try clear hfz20_0); (try clear hfz20_1); (try clear hfz20_2); (try clear hfz22_0); (try clear hfz22_1); (try clear hfz22_2); (try clear hfz27_0); (try clear hfz27_1); (try clear hfz27_2); (try clear hfz29_0); (try clear hfz29_1); (try clear hfz29_2); (try clear hfz35_0); (try clear hfz35_1); (try clear hfz35_2); (try clear hfz37_0); (try clear hfz37_1); (try clear hfz37_2); (try clear hfz53_0); (try clear hfz53_1); (try clear hfz53_2); (try clear hfz53_3); (try clear hfz55_0); (try clear hfz55_1); (try clear hfz55_2); (try clear hfz61_0); (try clear hfz61_1); (try clear hfz61_2); (try clear hfz65_0); (try clear hfz65_1); (try clear hfz65_2); (try clear hfz68_0); (try clear hfz68_1); (try clear hfz68_2); (try clear hfz73_0); (try clear hfz73_1); (try clear hfz73_2); (try clear hfz73_3); (try clear hfz75_0); (try clear hfz75_1); (try clear hfz75_2); (try clear hfz75_3); (try clear hfz78_0); (try clear hfz78_1); (try clear hfz78_2); (try clear hfz78_3); (try clear hfz80_0); (try clear hfz80_1); (try clear hfz80_2); (try clear hfz80_3); (try clear hfz93_0); (try clear hfz93_1); (try clear hfz93_2); (try clear hfz93_3); (try clear hfz95_0); (try clear hfz95_1); (try clear hfz95_2); (try clear hx118_0); (try clear hx118_1); (try clear hx118_2); (try clear p1); (try clear p11); (try clear p118); (try clear p2); (try clear p6); (try clear p64); (try clear q1); (try clear q11); (try clear q118)
         obtain ⟨x13_3, rfl, HA, HK3, BK116, HB⟩ := hrel
         cases gk with
         | zero => exact absurd HA.out (by simp [emenderref08_Map.l1])
         | succ k3 =>
          have H := HA.out
          clear HA
          simp only [emenderref08_Map.l1] at H
          have HC121 := Aside0.mk H
          clear H
          go_upto_region 24 with (fail)
          go_cut [129] (fun v129 wc => ∃ (kq : Nat) (x129_120 : Bool), v129 = .bool x129_120 ∧ Aside0 (emenderref08_Map.j12 kq l0 a1 x13_3 x129_120 = some (r1, r2, r3, r4, r5)) ∧ Aside0 (kq ≤ k3) ∧ Aside0 (wc.heap[gb116]? = some (.cells #[.int .i64 x117000_2, .bool x117001_2, .int .i64 x117002_2, .int .i64 x117003_2] 24 (0, 0))) ∧ Aside0 (Below w.heap.size w wc))
          case first =>
           have H := HC121.out
           clear HC121
           by_cases c122 : x13_3 < (l0.length : Int)
           ·rw [if_pos c122] at H
            have c122b0 : decide (x13_3 < (l0.length : Int)) = true := decide_eq_true c122
            clear c122
            (first | rw [c122b0] | (simp only [i64_w, i32_w]; rw [c122b0]) | skip)
            by_cases c123 : 0 ≤ x13_3
            ·rw [if_pos c123] at H
             have c123b0 : decide (0 ≤ x13_3) = true := decide_eq_true c123
             clear c123
             have H' := Aside0.mk H
             clear H
             have p131 : 0 ≤ (x13_3 : Int) := of_decide_eq_true (by first | (with_reducible assumption) | assumption)
             have q131 : x13_3 < (l0.length : Int) := of_decide_eq_true (by first | (with_reducible assumption) | assumption)
             obtain ⟨ad131, e131, hx131_0, hx131_1, hx131_2⟩ := at_T37 HR0.out x13_3 p131 q131
             cases e131
             replace hx131_0 := (HB.out.cell (World.block_lt_of_cell? w _ hx131_0)).trans hx131_0
             replace hx131_1 := (HB.out.cell (World.block_lt_of_cell? w _ hx131_1)).trans hx131_1
             replace hx131_2 := (HB.out.cell (World.block_lt_of_cell? w _ hx131_2)).trans hx131_2
             replace p131 := eq_true p131
             replace q131 := eq_true q131
             go_wp2
             go_meet
             case rel => exact ⟨_, (decide (((rd_T37 l0 x13_3).f0) < a1)), (by first | rfl | (simp; done) | (simp [*]; done)), H', ⟨by have := HJ5.out; have := HK2.out; have := HK3.out; first | omega | exact Nat.le_refl _⟩, ⟨by (with_reducible repeat (first | refine blk_drewN ?_ _ | refine blk_drew ?_ | refine blk_alloc ?_ _)); exact BK116.out⟩, ⟨by repeat (first | (with_reducible first | exact HB.out | apply below_alloc | apply pw_below_drewN | apply below_drew1 | refine below_set ?_ GE116.out) | exact HB.out)⟩⟩
            ·rw [if_neg c123] at H
             exact absurd H (by simp)
           ·rw [if_neg c122] at H
            have c122b0 : decide (x13_3 < (l0.length : Int)) = false := decide_eq_false c122
            clear c122
            (first | rw [c122b0] | (simp only [i64_w, i32_w]; rw [c122b0]) | skip)
            have H' := Aside0.mk H
            clear H
            go_wp2
            go_meet
            case rel => exact ⟨_, (false), (by first | rfl | (simp; done) | (simp [*]; done)), H', ⟨by have := HJ5.out; have := HK2.out; have := HK3.out; first | omega | exact Nat.le_refl _⟩, ⟨by (with_reducible repeat (first | refine blk_drewN ?_ _ | refine blk_drew ?_ | refine blk_alloc ?_ _)); exact BK116.out⟩, ⟨by repeat (first | (with_reducible first | exact HB.out | apply below_alloc | apply pw_below_drewN | apply below_drew1 | refine below_set ?_ GE116.out) | exact HB.out)⟩⟩
          case rest =>
           clear HC121
           (try clear c1); (try clear p1); (try clear q1); (try clear hx1); (try clear p2); (try clear c3); (try clear c4); (try clear c6); (try clear p6); (try clear c7); (try clear c9); (try clear c10); (try clear c11); (try clear p11); (try clear q11); (try clear hx11); (try clear c12); (try clear c12b0); (try clear c13); (try clear p13); (try clear q13); (try clear hx13); (try clear c32); (try clear c40); (try clear c40b0); (try clear p64); (try clear c67); (try clear c69); (try clear c69b0); (try clear c70); (try clear c71); (try clear c72); (try clear c74); (try clear c76); (try clear c77); (try clear c79); (try clear c90); (try clear c91); (try clear c92); (try clear c94); (try clear c97); (try clear c97b0); (try clear c98); (try clear c98b0); (try clear c98b1); (try clear c99); (try clear c100); (try clear c102); (try clear c102b0); (try clear c103); (try clear c104); (try clear c106); (try clear c107); (try clear c109); (try clear c109b0); (try clear c110); (try clear c111); (try clear c112); (try clear c114); (try clear c116); (try clear c117); (try clear p118); (try clear q118); (try clear hx118); (try clear c119); (try clear c122); (try clear c122b0); (try clear c123); (try clear c123b0); (try clear hcz101_0); (try clear hcz101_1); (try clear hcz101_2); (try clear hcz105_0); (try clear hcz105_1); (try clear hcz105_2); (try clear hcz108_0); (try clear hcz108_1); (try clear hcz108_2); (try clear hcz113_0); (try clear hcz113_1); (try clear hcz113_2); (try clear hcz113_3); (try clear hcz115_0); (try clear hcz115_1); (try clear hcz115_2); (try clear hcz115_3); (try clear hcz118_0); (try clear hcz118_1); (try clear hcz118_2); (try clear hcz118_3); (try clear hcz11_0); (try clear hcz11_1); (try clear hcz11_2); (try clear hcz11_3); (try clear hcz120_0); (try clear hcz120_1); (try clear hcz120_2); (try clear hcz120_3); (try clear hcz17_0); (try clear hcz17_1); (try clear hcz17_2); (try clear hcz20_0); (try clear hcz20_1); (try clear hcz20_2); (try clear hcz22_0); (try clear hcz22_1); (try clear hcz22_2); (try clear hcz27_0); (try clear hcz27_1); (try clear hcz27_2); (try clear hcz29_0); (try clear hcz29_1); (try clear hcz29_2); (try clear hcz35_0); (try clear hcz35_1); (try clear hcz35_2); (try clear hcz37_0); (try clear hcz37_1); (try clear hcz37_2); (try clear hcz53_0); (try clear hcz53_1); (try clear hcz53_2); (try clear hcz53_3); (try clear hcz55_0); (try clear hcz55_1); (try clear hcz55_2); (try clear hcz61_0); (try clear hcz61_1); (try clear hcz61_2); (try clear hcz65_0); (try clear hcz65_1); (try clear hcz65_2); (try clear hcz68_0); (try clear hcz68_1); (try clear hcz68_2); (try clear hcz73_0); (try clear hcz73_1); (try clear hcz73_2); (try clear hcz73_3); (try clear hcz75_0); (try clear hcz75_1); (try clear hcz75_2); (try clear hcz75_3); (try clear hcz78_0); (try clear hcz78_1); (try clear hcz78_2); (try clear hcz78_3); (try clear hcz80_0); (try clear hcz80_1); (try clear hcz80_2); (try clear hcz80_3); (try clear hcz93_0); (try clear hcz93_1); (try clear hcz93_2); (try clear hcz93_3); (try clear hcz95_0); (try clear hcz95_1); (try clear hcz95_2); (try clear hfz101_0); (try clear hfz101_1); (try clear hfz101_2); (try clear hfz105_0); (try clear hfz105_1); (try clear hfz105_2); (try clear hfz108_0); (try clear hfz108_1); (try clear hfz108_2); (try clear hfz113_0); (try clear hfz113_1); (try clear hfz113_2); (try clear hfz113_3); (try clear hfz115_0); (try clear hfz115_1); (try clear hfz115_2); (try clear hfz115_3); (try clear hfz118_0); (try clear hfz118_1); (try clear hfz118_2); (try clear hfz118_3); (try clear hfz11_0); (try clear hfz11_1); (try clear hfz11_2); (try clear hfz11_3); (try clear hfz120_0); (try clear hfz120_1); (try clear hfz120_2); (try clear hfz120_3); (try clear hfz17_0); (try clear hfz17_1); (try clear hfz17_2); (try clear hfz20_0); (try clear hfz20_1); (try clear hfz20_2); (try clear hfz22_0); (try clear hfz22_1); (try clear hfz22_2); (try clear hfz27_0); (try clear hfz27_1); (try clear hfz27_2); (try clear hfz29_0); (try clear hfz29_1); (try clear hfz29_2); (try clear hfz35_0); (try clear hfz35_1); (try clear hfz35_2); (try clear hfz37_0); (try clear hfz37_1); (try clear hfz37_2); (try clear hfz53_0); (try clear hfz53_1); (try clear hfz53_2); (try clear hfz53_3); (try clear hfz55_0); (try clear hfz55_1); (try clear hfz55_2); (try clear hfz61_0); (try clear hfz61_1); (try clear hfz61_2); (try clear hfz65_0); (try clear hfz65_1); (try clear hfz65_2); (try clear hfz68_0); (try clear hfz68_1); (try clear hfz68_2); (try clear hfz73_0); (try clear hfz73_1); (try clear hfz73_2); (try clear hfz73_3); (try clear hfz75_0); (try clear hfz75_1); (try clear hfz75_2); (try clear hfz75_3); (try clear hfz78_0); (try clear hfz78_1); (try clear hfz78_2); (try clear hfz78_3); (try clear hfz80_0); (try clear hfz80_1); (try clear hfz80_2); (try clear hfz80_3); (try clear hfz93_0); (try clear hfz93_1); (try clear hfz93_2); (try clear hfz93_3); (try clear hfz95_0); (try clear hfz95_1); (try clear hfz95_2); (try clear hx118_0); (try clear hx118_1); (try clear hx118_2); (try clear hx131_0); (try clear hx131_1); (try clear hx131_2); (try clear p1); (try clear p11); (try clear p118); (try clear p131); (try clear p2); (try clear p6); (try clear p64); (try clear q1); (try clear q11); (try clear q118); (try clear q131)
           obtain ⟨kq, x129_120, rfl, HA, HJ120, BK116, HB⟩ := hcut
           cases kq with
           | zero => exact absurd HA.out (by simp [emenderref08_Map.j12])
           | succ kj120 =>
            have H := HA.out
            clear HA
            simp only [emenderref08_Map.j12] at H
            by_cases c124 : x129_120 = true
            ·subst c124
             have H1 : (emenderref08_Map.l1 kj120 l0 a1 (wrap64 (x13_3 + 1))) = some (r1, r2, r3, r4, r5) := by rw [if_pos rfl] at H; exact H
             clear H
             have H := H1
             clear H1
             have H' := Aside0.mk H
             clear H
             go_wp2
             go_roundg kj120
             case measure => have := HJ5.out; have := HK2.out; have := HK3.out; have := HJ120.out; omega
             case rel => exact ⟨(wrap64 (x13_3 + 1)), (by first | rfl | (simp; done) | (simp [*]; done)), H', ⟨by have := HJ5.out; have := HK2.out; have := HK3.out; have := HJ120.out; omega⟩, ⟨by (with_reducible repeat (first | refine blk_drewN ?_ _ | refine blk_drew ?_ | refine blk_alloc ?_ _)); exact BK116.out⟩, ⟨by repeat (first | (with_reducible first | exact HB.out | apply below_alloc | apply pw_below_drewN | apply below_drew1 | refine below_set ?_ GE116.out) | exact HB.out)⟩⟩
            ·replace c124 := Bool.eq_false_iff.mpr c124
             subst c124
             have H1 : ((emenderref08_shift.f kj120 l0 x13_3).bind fun t132 => (some (wrap64 (a1 + t132), false, (-1), 0, 0))) = some (r1, r2, r3, r4, r5) := by rw [if_neg (show ¬ (false = true) by decide)] at H; exact H
             clear H
             have H := H1
             clear H1
             replace H := Option.bind_eq_some_iff.mp H
             obtain ⟨t132, A1250, H⟩ := H
             replace H : (some (wrap64 (a1 + t132), false, (-1), 0, 0)) = some (r1, r2, r3, r4, r5) := H
             have A125 := Aside0.mk A1250
             clear A1250
             simp only [Option.some.injEq, Prod.mk.injEq] at H
             obtain ⟨rfl, rfl, rfl, rfl, rfl⟩ := H
             go_wp2_with (first | ((with_reducible refine gate_callee (f := 32) rfl ?_); refine goesL_ (some 135) rfl rfl Try.func32 (by kernel_rfl) rfl #[.slice A0 l0.length c0, .int .i64 x13_3] rfl (by (try simp only [List.map_toArray, List.map_cons, List.map_nil]); first | done | rfl | (simp only [List.length_drop, List.length_take]; rfl)) ?_; (with_reducible refine (emenderref08_shift.calls kj120 _ _ l0 x13_3 t132 _ ?side1 ?side2 A125.out).mono ?_); (case side1 => repeat (first | exact (Kd.C_below HR0.out HB.out) | (with_reducible refine Kd.C_alloc ?_ _) | (with_reducible refine Kd.C_drewN ?_ _) | (with_reducible refine Kd.C_drew ?_))); (case side2 => exact HC0.out); rintro e w' ⟨rfl, ⟨nd, rfl⟩⟩; refine ⟨_, rfl, ?_⟩; (try (rw [drewN_self wc]; generalize hq_ : World.drewN wc _ = wc; have n0_ : Aside0 (wc.heap[gb116]? = some (.cells #[.int .i64 x117000_2, .bool x117001_2, .int .i64 x117002_2, .int .i64 x117003_2] 24 (0, 0))) := ⟨by rw [← hq_]; exact (by (with_reducible repeat (first | refine blk_drewN ?_ _ | refine blk_drew ?_ | refine blk_alloc ?_ _)); exact BK116.out)⟩; have n1_ : Aside0 (Below w.heap.size w wc) := ⟨by rw [← hq_]; exact (by repeat (first | (with_reducible first | exact HB.out | apply below_alloc | apply pw_below_drewN | apply below_drew1 | refine below_set ?_ GE116.out) | exact HB.out))⟩; clear BK116 HB hq_; have BK116 := n0_; have HB := n1_; clear n0_ n1_)); have hcz126_0 : wc.cell? ⟨gb116, 0, none⟩ = some (.int .i64 x117000_2) := (blk_cell BK116.out 0).trans rfl; have hcz126_1 : wc.cell? ⟨gb116, 1, none⟩ = some (.bool x117001_2) := (blk_cell BK116.out 1).trans rfl; have hcz126_2 : wc.cell? ⟨gb116, 2, none⟩ = some (.int .i64 x117002_2) := (blk_cell BK116.out 2).trans rfl; have hcz126_3 : wc.cell? ⟨gb116, 3, none⟩ = some (.int .i64 x117003_2) := (blk_cell BK116.out 3).trans rfl; have hfz126_0 := blk_frozen BK116.out 0; have hfz126_1 := blk_frozen BK116.out 1; have hfz126_2 := blk_frozen BK116.out 2; have hfz126_3 := blk_frozen BK116.out 3))
             refine bodyPost_ret (results_ct rfl _ _ gb116 24 #[.int .i64 (wrap64 (a1 + t132)), .bool false, .int .i64 (-1), .int .i64 0] (0, 0) _ rfl (by (with_reducible repeat (first | refine blk_drewN ?_ _ | refine blk_drew ?_ | refine blk_alloc ?_ _)); refine blk_put (cs := #[.int .i64 (wrap64 (a1 + t132)), .bool false, .int .i64 (-1), .int .i64 x117003_2]) ?_ 3 _ rfl; (with_reducible repeat (first | refine blk_drewN ?_ _ | refine blk_drew ?_ | refine blk_alloc ?_ _)); refine blk_put (cs := #[.int .i64 (wrap64 (a1 + t132)), .bool false, .int .i64 x117002_2, .int .i64 x117003_2]) ?_ 2 _ rfl; (with_reducible repeat (first | refine blk_drewN ?_ _ | refine blk_drew ?_ | refine blk_alloc ?_ _)); refine blk_put (cs := #[.int .i64 (wrap64 (a1 + t132)), .bool x117001_2, .int .i64 x117002_2, .int .i64 x117003_2]) ?_ 1 _ rfl; (with_reducible repeat (first | refine blk_drewN ?_ _ | refine blk_drew ?_ | refine blk_alloc ?_ _)); refine blk_put (cs := #[.int .i64 x117000_2, .bool x117001_2, .int .i64 x117002_2, .int .i64 x117003_2]) ?_ 0 _ rfl; (with_reducible repeat (first | refine blk_drewN ?_ _ | refine blk_drew ?_ | refine blk_alloc ?_ _)); exact BK116.out) Try.underlying24 rfl (by kernel_rfl)) rfl ?_
             exact ⟨by first | rfl | (simp [errW_none, errW_some] <;> rfl) | (simp [*, errW_none, errW_some] <;> rfl), by repeat (first | (with_reducible first | exact HB.out | apply below_alloc | apply pw_below_drewN | apply below_drew1 | refine below_set ?_ GE116.out) | exact HB.out)⟩
 ·replace c5 := Bool.eq_false_iff.mpr c5
  subst c5
  have H1 : (some (0, false, 0, 0, 4)) = some (r1, r2, r3, r4, r5) := by rw [if_neg (show ¬ (false = true) by decide)] at H; exact H
  clear H
  have H := H1
  clear H1
  simp only [Option.some.injEq, Prod.mk.injEq] at H
  obtain ⟨rfl, rfl, rfl, rfl, rfl⟩ := H
  go_enter Try.func13, Try.ntmps13
  go_wp2_with (first | ((with_reducible refine gate_dst (N := 6) rfl ?_); refine box_event ?hg (N := 6) ?hd (cs := #[.int .i64 0, .bool false, .int .i64 0, .int .i64 0]) (t := 24) ?hr ?_; (case hd => rfl); (case hg => rfl); (case hr => first | (go_simp; done) | (go_simp; rfl)); intro gb116 hg w127 hbox hb; have n0_ := Aside0.mk (below_step (by repeat (first | (with_reducible first | exact HB.out | apply below_alloc | apply pw_below_drewN | apply below_drew1) | exact HB.out)) hb); have n1_ := Aside0.mk (hbox); have n2_ := Aside0.mk ((by rw [hg]; exact (below_size (by repeat (first | (with_reducible first | exact HB.out | apply below_alloc | apply pw_below_drewN | apply below_drew1) | exact HB.out))) : w.heap.size ≤ gb116)); have n3_ := Aside0.mk ((by rw [hg]; exact (below_size (by repeat (first | (with_reducible first | exact HB.out | apply below_alloc | apply pw_below_drewN | apply below_drew1) | exact HB.out))) : w.heap.size ≤ gb116)); clear HB; have HB := n0_; have BK116 := n1_; have GW116 := n2_; have GE116 := n3_; clear n0_ n1_ n2_ n3_; clear hb hbox hg) | ((with_reducible refine gate_callee (f := 15) rfl ?_); refine goesL_ (some 15) rfl rfl Try.func15 (by kernel_rfl) rfl #[.slice A0 l0.length c0] rfl (by (try simp only [List.map_toArray, List.map_cons, List.map_nil]); first | done | rfl | (simp only [List.length_drop, List.length_take]; rfl)) ?_; (with_reducible refine (emenderref08_Right.calls k _ _ l0 false _ ?side1 ?side2 A4.out).mono ?_); (case side1 => repeat (first | exact (Kd.C_below HR0.out HB.out) | (with_reducible refine Kd.C_alloc ?_ _) | (with_reducible refine Kd.C_drewN ?_ _) | (with_reducible refine Kd.C_drew ?_))); (case side2 => exact HC0.out); rintro e w128 ⟨rfl, hb⟩; refine ⟨_, rfl, ?_⟩; have n0_ := Aside0.mk (blk_below (g := gb116) (o := .cells #[.int .i64 0, .bool false, .int .i64 0, .int .i64 0] 24 (0, 0)) (by (with_reducible repeat (first | refine blk_drewN ?_ _ | refine blk_drew ?_ | refine blk_alloc ?_ _)); exact BK116.out) hb); have n1_ := Aside0.mk (below_step (by repeat (first | (with_reducible first | exact HB.out | apply below_alloc | apply pw_below_drewN | apply below_drew1 | refine below_set ?_ GE116.out) | exact HB.out)) hb); clear BK116; clear HB; have BK116 := n0_; have HB := n1_; clear n0_ n1_; (try clear hb); (try clear hb2); (try clear hk); (try clear hi); have hcz129_0 : w128.cell? ⟨gb116, 0, none⟩ = some (.int .i64 0) := (blk_cell BK116.out 0).trans rfl; have hcz129_1 : w128.cell? ⟨gb116, 1, none⟩ = some (.bool false) := (blk_cell BK116.out 1).trans rfl; have hcz129_2 : w128.cell? ⟨gb116, 2, none⟩ = some (.int .i64 0) := (blk_cell BK116.out 2).trans rfl; have hcz129_3 : w128.cell? ⟨gb116, 3, none⟩ = some (.int .i64 0) := (blk_cell BK116.out 3).trans rfl; have hfz129_0 := blk_frozen BK116.out 0; have hfz129_1 := blk_frozen BK116.out 1; have hfz129_2 := blk_frozen BK116.out 2; have hfz129_3 := blk_frozen BK116.out 3))
  refine bodyPost_ret (results_ct rfl _ _ gb116 24 #[.int .i64 0, .bool false, .int .i64 0, .int .i64 0] (0, 0) _ rfl (by (with_reducible repeat (first | refine blk_drewN ?_ _ | refine blk_drew ?_ | refine blk_alloc ?_ _)); refine blk_put (cs := #[.int .i64 0, .bool false, .int .i64 0, .int .i64 0]) ?_ 3 _ rfl; (with_reducible repeat (first | refine blk_drewN ?_ _ | refine blk_drew ?_ | refine blk_alloc ?_ _)); refine blk_put (cs := #[.int .i64 0, .bool false, .int .i64 0, .int .i64 0]) ?_ 2 _ rfl; (with_reducible repeat (first | refine blk_drewN ?_ _ | refine blk_drew ?_ | refine blk_alloc ?_ _)); refine blk_put (cs := #[.int .i64 0, .bool false, .int .i64 0, .int .i64 0]) ?_ 1 _ rfl; (with_reducible repeat (first | refine blk_drewN ?_ _ | refine blk_drew ?_ | refine blk_alloc ?_ _)); refine blk_put (cs := #[.int .i64 0, .bool false, .int .i64 0, .int .i64 0]) ?_ 0 _ rfl; (with_reducible repeat (first | refine blk_drewN ?_ _ | refine blk_drew ?_ | refine blk_alloc ?_ _)); exact BK116.out) Try.underlying24 rfl (by kernel_rfl)) rfl ?_
  exact ⟨by first | rfl | (simp [errW_none, errW_some] <;> rfl) | (simp [*, errW_none, errW_some] <;> rfl), by repeat (first | (with_reducible first | exact HB.out | apply below_alloc | apply pw_below_drewN | apply below_drew1 | refine below_set ?_ GE116.out) | exact HB.out)⟩

end Go.Proofs.Ytcoolajjjnkfpaa.PPd
