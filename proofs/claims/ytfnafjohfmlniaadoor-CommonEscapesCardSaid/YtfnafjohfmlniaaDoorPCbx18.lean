-- Written for this claim by a program (the kit's print, with hand-made contracts for what it does not take).
import Derived.Test.YtfnafjohfmlniaaDoorPCbx0
import Derived.Test.YtfnafjohfmlniaaDoorPCbx12
import Derived.Test.YtfnafjohfmlniaaDoorPCbx13
import Derived.Test.YtfnafjohfmlniaaDoorPCbx14
namespace Go.Proofs.YtfnafjohfmlniaaDoor.PCb
open Go.RowKit Go.Proofs.YtfnafjohfmlniaaDoorW.PrintWords Go.Proofs.YtfnafjohfmlniaaDoorW.PrintLast Go.Proofs.YtfnafjohfmlniaaDoorW.PrintMore
attribute [local go_sem] max2_int min2_int max_two min_two max_three min_three max_four min_four   -- for this text's walks alone
set_option linter.unusedVariables false
set_option linter.unusedSimpArgs false

/-! ### emenderlaw28_CommonEscapes: function 8 -/
mutual
def emenderlaw28_CommonEscapes.j0 : Nat → List Int → Int → Bool → Option (Bool)
  | 0, _, _, _ => none
  | k + 1, x1, x5, x36 => if x36 = true then ((emenderlaw28_awake.f).bind fun t167 => (some t167)) else (emenderlaw28_CommonEscapes.l0 k x1 x5 (⟨#[]⟩ : ByteArray) 0)
def emenderlaw28_CommonEscapes.j2 : Nat → Int → ByteArray → Option (Bool)
  | 0, _, _ => none
  | k + 1, x5, x6 => if x6.size + 1 ≤ 9223372036854775807 then ((some (([x5] : List Int) : List Int)).bind fun y172 => (if (x6 ++ (⟨#[92]⟩ : ByteArray)).size + (strOfNums y172).size ≤ 9223372036854775807 then (if ((x6 ++ (⟨#[92]⟩ : ByteArray)) ++ (strOfNums y172)).size + x6.size ≤ 9223372036854775807 then ((common_Parse.f (((x6 ++ (⟨#[92]⟩ : ByteArray)) ++ (strOfNums y172)) ++ x6)).bind fun bt175 => (if bt175.2.2 = 0 then ((flat_Text.f bt175.1).bind fun t188 => ((some (([x5] : List Int) : List Int)).bind fun y189 => (if x6.size + (strOfNums y189).size ≤ 9223372036854775807 then (if (x6 ++ (strOfNums y189)).size + x6.size ≤ 9223372036854775807 then (if t188.toList = ((x6 ++ (strOfNums y189)) ++ x6).toList then (emenderlaw28_CommonEscapes.l1 k bt175.1 0) else (none)) else (none)) else (none)))) else (none))) else (none)) else (none))) else (none)
def emenderlaw28_CommonEscapes.l1 : Nat → List (S43) → Int → Option (Bool)
  | 0, _, _ => none
  | k + 1, x8, x11 => if x11 < (x8.length : Int) then (if 0 ≤ x11 then (if ((rd_T43 x8 x11).f3) = 0 then (emenderlaw28_CommonEscapes.l1 k x8 (wrap64 (x11 + 1))) else (none)) else (none)) else ((emenderlaw28_awake.f).bind fun t193 => (some t193))
def emenderlaw28_CommonEscapes.l0 : Nat → List Int → Int → ByteArray → Int → Option (Bool)
  | 0, _, _, _, _ => none
  | k + 1, x1, x5, x6, x7 => if x7 < (x1.length : Int) then (if x7 < 50 then (if 0 ≤ x7 then ((some (([(97 + (Int.tmod (rd x1 x7) 26)) % 256] : List Int) : List Int)).bind fun y169 => (if x6.size + (strOfNums y169).size ≤ 9223372036854775807 then (emenderlaw28_CommonEscapes.l0 k x1 x5 (x6 ++ (strOfNums y169)) (wrap64 (x7 + 1))) else (none))) else (none)) else (emenderlaw28_CommonEscapes.j2 k x5 x6)) else (emenderlaw28_CommonEscapes.j2 k x5 x6)
end
def emenderlaw28_CommonEscapes.f (k : Nat) (a0 : Int) (l1 : List Int) : Option (Bool) := if ((33 + (Int.tmod a0 94)) % 256) ≥ 48 then (if ((33 + (Int.tmod a0 94)) % 256) ≤ 57 then (emenderlaw28_CommonEscapes.j0 k l1 ((33 + (Int.tmod a0 94)) % 256) true) else (if ((33 + (Int.tmod a0 94)) % 256) ≥ 65 then (if ((33 + (Int.tmod a0 94)) % 256) ≤ 90 then (emenderlaw28_CommonEscapes.j0 k l1 ((33 + (Int.tmod a0 94)) % 256) true) else (if ((33 + (Int.tmod a0 94)) % 256) ≥ 97 then (emenderlaw28_CommonEscapes.j0 k l1 ((33 + (Int.tmod a0 94)) % 256) (decide (((33 + (Int.tmod a0 94)) % 256) ≤ 122))) else (emenderlaw28_CommonEscapes.j0 k l1 ((33 + (Int.tmod a0 94)) % 256) false))) else (if ((33 + (Int.tmod a0 94)) % 256) ≥ 97 then (emenderlaw28_CommonEscapes.j0 k l1 ((33 + (Int.tmod a0 94)) % 256) (decide (((33 + (Int.tmod a0 94)) % 256) ≤ 122))) else (emenderlaw28_CommonEscapes.j0 k l1 ((33 + (Int.tmod a0 94)) % 256) false)))) else (if ((33 + (Int.tmod a0 94)) % 256) ≥ 65 then (if ((33 + (Int.tmod a0 94)) % 256) ≤ 90 then (emenderlaw28_CommonEscapes.j0 k l1 ((33 + (Int.tmod a0 94)) % 256) true) else (if ((33 + (Int.tmod a0 94)) % 256) ≥ 97 then (emenderlaw28_CommonEscapes.j0 k l1 ((33 + (Int.tmod a0 94)) % 256) (decide (((33 + (Int.tmod a0 94)) % 256) ≤ 122))) else (emenderlaw28_CommonEscapes.j0 k l1 ((33 + (Int.tmod a0 94)) % 256) false))) else (if ((33 + (Int.tmod a0 94)) % 256) ≥ 97 then (emenderlaw28_CommonEscapes.j0 k l1 ((33 + (Int.tmod a0 94)) % 256) (decide (((33 + (Int.tmod a0 94)) % 256) ≤ 122))) else (emenderlaw28_CommonEscapes.j0 k l1 ((33 + (Int.tmod a0 94)) % 256) false)))
theorem emenderlaw28_CommonEscapes.mono_l : ∀ k, (∀ y0 y1 y2, LeO (emenderlaw28_CommonEscapes.j0 k y0 y1 y2) (emenderlaw28_CommonEscapes.j0 (k + 1) y0 y1 y2)) ∧ (∀ y0 y1, LeO (emenderlaw28_CommonEscapes.j2 k y0 y1) (emenderlaw28_CommonEscapes.j2 (k + 1) y0 y1)) ∧ (∀ y0 y1, LeO (emenderlaw28_CommonEscapes.l1 k y0 y1) (emenderlaw28_CommonEscapes.l1 (k + 1) y0 y1)) ∧ (∀ y0 y1 y2 y3, LeO (emenderlaw28_CommonEscapes.l0 k y0 y1 y2 y3) (emenderlaw28_CommonEscapes.l0 (k + 1) y0 y1 y2 y3))
  | 0 => ⟨fun _ _ _ r h => by simp [emenderlaw28_CommonEscapes.j0] at h, fun _ _ r h => by simp [emenderlaw28_CommonEscapes.j2] at h, fun _ _ r h => by simp [emenderlaw28_CommonEscapes.l1] at h, fun _ _ _ _ r h => by simp [emenderlaw28_CommonEscapes.l0] at h⟩
  | k + 1 => by
    obtain ⟨ih0, ih1, ih2, ih3⟩ := emenderlaw28_CommonEscapes.mono_l k
    refine ⟨?_, ?_, ?_, ?_⟩
    · intro y0 y1 y2
      unfold emenderlaw28_CommonEscapes.j0
      repeat' first
      | (with_reducible exact ih0 _ _ _)
      | (with_reducible exact ih1 _ _)
      | (with_reducible exact ih2 _ _)
      | (with_reducible exact ih3 _ _ _ _)
      | (with_reducible exact LeO.refl _)
      | (with_reducible exact LeO.none _)
      | (with_reducible refine LeO.ite ?_ ?_)
      | (with_reducible refine LeO.bind ?_ (fun _ => ?_))
      | exact ih0 _ _ _
      | exact ih1 _ _
      | exact ih2 _ _
      | exact ih3 _ _ _ _
      | exact LeO.none _
      | refine LeO.ite ?_ ?_
      | refine LeO.bind ?_ (fun _ => ?_)
    · intro y0 y1
      unfold emenderlaw28_CommonEscapes.j2
      repeat' first
      | (with_reducible exact ih0 _ _ _)
      | (with_reducible exact ih1 _ _)
      | (with_reducible exact ih2 _ _)
      | (with_reducible exact ih3 _ _ _ _)
      | (with_reducible exact LeO.refl _)
      | (with_reducible exact LeO.none _)
      | (with_reducible refine LeO.ite ?_ ?_)
      | (with_reducible refine LeO.bind ?_ (fun _ => ?_))
      | exact ih0 _ _ _
      | exact ih1 _ _
      | exact ih2 _ _
      | exact ih3 _ _ _ _
      | exact LeO.none _
      | refine LeO.ite ?_ ?_
      | refine LeO.bind ?_ (fun _ => ?_)
    · intro y0 y1
      unfold emenderlaw28_CommonEscapes.l1
      repeat' first
      | (with_reducible exact ih0 _ _ _)
      | (with_reducible exact ih1 _ _)
      | (with_reducible exact ih2 _ _)
      | (with_reducible exact ih3 _ _ _ _)
      | (with_reducible exact LeO.refl _)
      | (with_reducible exact LeO.none _)
      | (with_reducible refine LeO.ite ?_ ?_)
      | (with_reducible refine LeO.bind ?_ (fun _ => ?_))
      | exact ih0 _ _ _
      | exact ih1 _ _
      | exact ih2 _ _
      | exact ih3 _ _ _ _
      | exact LeO.none _
      | refine LeO.ite ?_ ?_
      | refine LeO.bind ?_ (fun _ => ?_)
    · intro y0 y1 y2 y3
      unfold emenderlaw28_CommonEscapes.l0
      repeat' first
      | (with_reducible exact ih0 _ _ _)
      | (with_reducible exact ih1 _ _)
      | (with_reducible exact ih2 _ _)
      | (with_reducible exact ih3 _ _ _ _)
      | (with_reducible exact LeO.refl _)
      | (with_reducible exact LeO.none _)
      | (with_reducible refine LeO.ite ?_ ?_)
      | (with_reducible refine LeO.bind ?_ (fun _ => ?_))
      | exact ih0 _ _ _
      | exact ih1 _ _
      | exact ih2 _ _
      | exact ih3 _ _ _ _
      | exact LeO.none _
      | refine LeO.ite ?_ ?_
      | refine LeO.bind ?_ (fun _ => ?_)
theorem emenderlaw28_CommonEscapes.mono : ∀ a0 a1 k, LeO (emenderlaw28_CommonEscapes.f k a0 a1) (emenderlaw28_CommonEscapes.f (k + 1) a0 a1) := by
  intro a0 a1 k
  obtain ⟨ih0, ih1, ih2, ih3⟩ := emenderlaw28_CommonEscapes.mono_l k
  unfold emenderlaw28_CommonEscapes.f
  repeat' first
      | (with_reducible exact ih0 _ _ _)
      | (with_reducible exact ih1 _ _)
      | (with_reducible exact ih2 _ _)
      | (with_reducible exact ih3 _ _ _ _)
      | (with_reducible exact LeO.refl _)
      | (with_reducible exact LeO.none _)
      | (with_reducible refine LeO.ite ?_ ?_)
      | (with_reducible refine LeO.bind ?_ (fun _ => ?_))
      | exact ih0 _ _ _
      | exact ih1 _ _
      | exact ih2 _ _
      | exact ih3 _ _ _ _
      | exact LeO.none _
      | refine LeO.ite ?_ ?_
      | refine LeO.bind ?_ (fun _ => ?_)
def emenderlaw28_CommonEscapes.T10 : Bool × List (List Nat × List Nat) := (true, [([], []), ([0], [0]), ([1], [1]), ([2], [2]), ([3, 2, 2], [2, 3]), ([2], [2]), ([2], [2]), ([6, 2], [2, 6]), ([7, 2], [2, 7]), ([5, 8, 2], [2, 5, 8]), ([2], [2]), ([9, 10, 2], [2, 9, 10]), ([4, 11, 2], [2, 4, 11]), ([2, 12], [2, 12])])
def emenderlaw28_CommonEscapes.B10 : List Nat := [0, 1, 3, 7, 15, 7, 7, 71, 199, 487, 7, 2023, 4095, 8191]
theorem emenderlaw28_CommonEscapes.tab10 : rtab .any (opsOf Tryd.f8 10) = emenderlaw28_CommonEscapes.T10 := by kernel_rfl
theorem emenderlaw28_CommonEscapes.bits10 : waitsOk emenderlaw28_CommonEscapes.T10.2 emenderlaw28_CommonEscapes.B10 = true := by kernel_rfl
set_option maxHeartbeats 8000000 in
set_option maxRecDepth 100000 in
theorem emenderlaw28_CommonEscapes.calls (k : Nat) (a0 : Int) (A1 : Option Addr) (c1 : Nat) (l1 : List Int) (r : Bool) (w : World) (HT_ : Aside0 (Lib.Utf8Tabs 0 1 w)) (hr1 : Kd.C (Kd.int .u8) w A1 l1.length l1) (hc1 : l1.length ≤ c1) (h : emenderlaw28_CommonEscapes.f k a0 l1 = some r) :
    Calls Tryd.prog 8 #[.int .u8 a0, .slice A1 l1.length c1] w fun e w' => e = .returned (.bool r) ∧ Below w.heap.size w w' := by
  have HU8_ := HT_
  have HR1 := Aside0.mk hr1
  have HC1 := Aside0.mk hc1
  clear hr1 hc1
  have HB := Aside0.mk (Below.refl w.heap.size w)
  have H : (if ((33 + (Int.tmod a0 94)) % 256) ≥ 48 then (if ((33 + (Int.tmod a0 94)) % 256) ≤ 57 then (emenderlaw28_CommonEscapes.j0 k l1 ((33 + (Int.tmod a0 94)) % 256) true) else (if ((33 + (Int.tmod a0 94)) % 256) ≥ 65 then (if ((33 + (Int.tmod a0 94)) % 256) ≤ 90 then (emenderlaw28_CommonEscapes.j0 k l1 ((33 + (Int.tmod a0 94)) % 256) true) else (if ((33 + (Int.tmod a0 94)) % 256) ≥ 97 then (emenderlaw28_CommonEscapes.j0 k l1 ((33 + (Int.tmod a0 94)) % 256) (decide (((33 + (Int.tmod a0 94)) % 256) ≤ 122))) else (emenderlaw28_CommonEscapes.j0 k l1 ((33 + (Int.tmod a0 94)) % 256) false))) else (if ((33 + (Int.tmod a0 94)) % 256) ≥ 97 then (emenderlaw28_CommonEscapes.j0 k l1 ((33 + (Int.tmod a0 94)) % 256) (decide (((33 + (Int.tmod a0 94)) % 256) ≤ 122))) else (emenderlaw28_CommonEscapes.j0 k l1 ((33 + (Int.tmod a0 94)) % 256) false)))) else (if ((33 + (Int.tmod a0 94)) % 256) ≥ 65 then (if ((33 + (Int.tmod a0 94)) % 256) ≤ 90 then (emenderlaw28_CommonEscapes.j0 k l1 ((33 + (Int.tmod a0 94)) % 256) true) else (if ((33 + (Int.tmod a0 94)) % 256) ≥ 97 then (emenderlaw28_CommonEscapes.j0 k l1 ((33 + (Int.tmod a0 94)) % 256) (decide (((33 + (Int.tmod a0 94)) % 256) ≤ 122))) else (emenderlaw28_CommonEscapes.j0 k l1 ((33 + (Int.tmod a0 94)) % 256) false))) else (if ((33 + (Int.tmod a0 94)) % 256) ≥ 97 then (emenderlaw28_CommonEscapes.j0 k l1 ((33 + (Int.tmod a0 94)) % 256) (decide (((33 + (Int.tmod a0 94)) % 256) ≤ 122))) else (emenderlaw28_CommonEscapes.j0 k l1 ((33 + (Int.tmod a0 94)) % 256) false)))) = some r := h
  clear h
  have HC3 := Aside0.mk H
  clear H
  go_enter Tryd.func8, Tryd.ntmps8
  go_upto_region 2 with (fail)
  go_cut [36] (fun v36 wc => ∃ (kq : Nat) (x36_2 : Bool), v36 = .bool x36_2 ∧ Aside0 (emenderlaw28_CommonEscapes.j0 kq l1 ((33 + (Int.tmod a0 94)) % 256) x36_2 = some r) ∧ Aside0 (kq ≤ k) ∧ Aside0 (Below w.heap.size w wc))
  case first =>
    have H := HC3.out
    clear HC3
    by_cases c4 : ((33 + (Int.tmod a0 94)) % 256) ≥ 48
    · rw [if_pos c4] at H
      have c4b0 : decide (48 ≤ ((33 + (Int.tmod a0 94)) % 256)) = true := decide_eq_true c4
      clear c4
      (first | rw [c4b0] | (simp only [i64_w, i32_w]; rw [c4b0]) | skip)
      by_cases c5 : ((33 + (Int.tmod a0 94)) % 256) ≤ 57
      · rw [if_pos c5] at H
        have c5b0 : decide (((33 + (Int.tmod a0 94)) % 256) ≤ 57) = true := decide_eq_true c5
        clear c5
        have H' := Aside0.mk H
        clear H
        go_wp2
        go_meet
        case rel => exact ⟨_, (true), (by first | rfl | (simp; done) | (simp [*]; done)), H', ⟨by first | omega | exact Nat.le_refl _⟩, ⟨by repeat (first | (with_reducible first | exact HB.out | apply below_alloc | apply pw_below_drewN | apply below_drew1) | exact HB.out)⟩⟩
      · rw [if_neg c5] at H
        have c5b0 : decide (((33 + (Int.tmod a0 94)) % 256) ≤ 57) = false := decide_eq_false c5
        clear c5
        by_cases c6 : ((33 + (Int.tmod a0 94)) % 256) ≥ 65
        · rw [if_pos c6] at H
          have c6b0 : decide (65 ≤ ((33 + (Int.tmod a0 94)) % 256)) = true := decide_eq_true c6
          clear c6
          by_cases c7 : ((33 + (Int.tmod a0 94)) % 256) ≤ 90
          · rw [if_pos c7] at H
            have c7b0 : decide (((33 + (Int.tmod a0 94)) % 256) ≤ 90) = true := decide_eq_true c7
            clear c7
            have H' := Aside0.mk H
            clear H
            go_wp2
            go_meet
            case rel => exact ⟨_, (true), (by first | rfl | (simp; done) | (simp [*]; done)), H', ⟨by first | omega | exact Nat.le_refl _⟩, ⟨by repeat (first | (with_reducible first | exact HB.out | apply below_alloc | apply pw_below_drewN | apply below_drew1) | exact HB.out)⟩⟩
          · rw [if_neg c7] at H
            have c7b0 : decide (((33 + (Int.tmod a0 94)) % 256) ≤ 90) = false := decide_eq_false c7
            clear c7
            by_cases c8 : ((33 + (Int.tmod a0 94)) % 256) ≥ 97
            · rw [if_pos c8] at H
              have c8b0 : decide (97 ≤ ((33 + (Int.tmod a0 94)) % 256)) = true := decide_eq_true c8
              clear c8
              have H' := Aside0.mk H
              clear H
              go_wp2
              go_meet
              case rel => exact ⟨_, (decide (((33 + (Int.tmod a0 94)) % 256) ≤ 122)), (by first | rfl | (simp; done) | (simp [*]; done)), H', ⟨by first | omega | exact Nat.le_refl _⟩, ⟨by repeat (first | (with_reducible first | exact HB.out | apply below_alloc | apply pw_below_drewN | apply below_drew1) | exact HB.out)⟩⟩
            · rw [if_neg c8] at H
              have c8b0 : decide (97 ≤ ((33 + (Int.tmod a0 94)) % 256)) = false := decide_eq_false c8
              clear c8
              have H' := Aside0.mk H
              clear H
              go_wp2
              go_meet
              case rel => exact ⟨_, (false), (by first | rfl | (simp; done) | (simp [*]; done)), H', ⟨by first | omega | exact Nat.le_refl _⟩, ⟨by repeat (first | (with_reducible first | exact HB.out | apply below_alloc | apply pw_below_drewN | apply below_drew1) | exact HB.out)⟩⟩
        · rw [if_neg c6] at H
          have c6b0 : decide (65 ≤ ((33 + (Int.tmod a0 94)) % 256)) = false := decide_eq_false c6
          clear c6
          by_cases c9 : ((33 + (Int.tmod a0 94)) % 256) ≥ 97
          · rw [if_pos c9] at H
            have c9b0 : decide (97 ≤ ((33 + (Int.tmod a0 94)) % 256)) = true := decide_eq_true c9
            clear c9
            have H' := Aside0.mk H
            clear H
            go_wp2
            go_meet
            case rel => exact ⟨_, (decide (((33 + (Int.tmod a0 94)) % 256) ≤ 122)), (by first | rfl | (simp; done) | (simp [*]; done)), H', ⟨by first | omega | exact Nat.le_refl _⟩, ⟨by repeat (first | (with_reducible first | exact HB.out | apply below_alloc | apply pw_below_drewN | apply below_drew1) | exact HB.out)⟩⟩
          · rw [if_neg c9] at H
            have c9b0 : decide (97 ≤ ((33 + (Int.tmod a0 94)) % 256)) = false := decide_eq_false c9
            clear c9
            have H' := Aside0.mk H
            clear H
            go_wp2
            go_meet
            case rel => exact ⟨_, (false), (by first | rfl | (simp; done) | (simp [*]; done)), H', ⟨by first | omega | exact Nat.le_refl _⟩, ⟨by repeat (first | (with_reducible first | exact HB.out | apply below_alloc | apply pw_below_drewN | apply below_drew1) | exact HB.out)⟩⟩
    · rw [if_neg c4] at H
      have c4b0 : decide (48 ≤ ((33 + (Int.tmod a0 94)) % 256)) = false := decide_eq_false c4
      clear c4
      (first | rw [c4b0] | (simp only [i64_w, i32_w]; rw [c4b0]) | skip)
      by_cases c10 : ((33 + (Int.tmod a0 94)) % 256) ≥ 65
      · rw [if_pos c10] at H
        have c10b0 : decide (65 ≤ ((33 + (Int.tmod a0 94)) % 256)) = true := decide_eq_true c10
        clear c10
        by_cases c11 : ((33 + (Int.tmod a0 94)) % 256) ≤ 90
        · rw [if_pos c11] at H
          have c11b0 : decide (((33 + (Int.tmod a0 94)) % 256) ≤ 90) = true := decide_eq_true c11
          clear c11
          have H' := Aside0.mk H
          clear H
          go_wp2
          go_meet
          case rel => exact ⟨_, (true), (by first | rfl | (simp; done) | (simp [*]; done)), H', ⟨by first | omega | exact Nat.le_refl _⟩, ⟨by repeat (first | (with_reducible first | exact HB.out | apply below_alloc | apply pw_below_drewN | apply below_drew1) | exact HB.out)⟩⟩
        · rw [if_neg c11] at H
          have c11b0 : decide (((33 + (Int.tmod a0 94)) % 256) ≤ 90) = false := decide_eq_false c11
          clear c11
          by_cases c12 : ((33 + (Int.tmod a0 94)) % 256) ≥ 97
          · rw [if_pos c12] at H
            have c12b0 : decide (97 ≤ ((33 + (Int.tmod a0 94)) % 256)) = true := decide_eq_true c12
            clear c12
            have H' := Aside0.mk H
            clear H
            go_wp2
            go_meet
            case rel => exact ⟨_, (decide (((33 + (Int.tmod a0 94)) % 256) ≤ 122)), (by first | rfl | (simp; done) | (simp [*]; done)), H', ⟨by first | omega | exact Nat.le_refl _⟩, ⟨by repeat (first | (with_reducible first | exact HB.out | apply below_alloc | apply pw_below_drewN | apply below_drew1) | exact HB.out)⟩⟩
          · rw [if_neg c12] at H
            have c12b0 : decide (97 ≤ ((33 + (Int.tmod a0 94)) % 256)) = false := decide_eq_false c12
            clear c12
            have H' := Aside0.mk H
            clear H
            go_wp2
            go_meet
            case rel => exact ⟨_, (false), (by first | rfl | (simp; done) | (simp [*]; done)), H', ⟨by first | omega | exact Nat.le_refl _⟩, ⟨by repeat (first | (with_reducible first | exact HB.out | apply below_alloc | apply pw_below_drewN | apply below_drew1) | exact HB.out)⟩⟩
      · rw [if_neg c10] at H
        have c10b0 : decide (65 ≤ ((33 + (Int.tmod a0 94)) % 256)) = false := decide_eq_false c10
        clear c10
        by_cases c13 : ((33 + (Int.tmod a0 94)) % 256) ≥ 97
        · rw [if_pos c13] at H
          have c13b0 : decide (97 ≤ ((33 + (Int.tmod a0 94)) % 256)) = true := decide_eq_true c13
          clear c13
          have H' := Aside0.mk H
          clear H
          go_wp2
          go_meet
          case rel => exact ⟨_, (decide (((33 + (Int.tmod a0 94)) % 256) ≤ 122)), (by first | rfl | (simp; done) | (simp [*]; done)), H', ⟨by first | omega | exact Nat.le_refl _⟩, ⟨by repeat (first | (with_reducible first | exact HB.out | apply below_alloc | apply pw_below_drewN | apply below_drew1) | exact HB.out)⟩⟩
        · rw [if_neg c13] at H
          have c13b0 : decide (97 ≤ ((33 + (Int.tmod a0 94)) % 256)) = false := decide_eq_false c13
          clear c13
          have H' := Aside0.mk H
          clear H
          go_wp2
          go_meet
          case rel => exact ⟨_, (false), (by first | rfl | (simp; done) | (simp [*]; done)), H', ⟨by first | omega | exact Nat.le_refl _⟩, ⟨by repeat (first | (with_reducible first | exact HB.out | apply below_alloc | apply pw_below_drewN | apply below_drew1) | exact HB.out)⟩⟩
  case rest =>
    clear HC3
    try clear c1
    try clear p2
    try clear c4
    try clear c4b0
    try clear c5
    try clear c5b0
    try clear c6
    try clear c6b0
    try clear c7
    try clear c7b0
    try clear c8
    try clear c8b0
    try clear c9
    try clear c9b0
    try clear c10
    try clear c10b0
    try clear c11
    try clear c11b0
    try clear c12
    try clear c12b0
    try clear c13
    try clear c13b0
    obtain ⟨kq, x36_2, rfl, HA, HJ2, HB⟩ := hcut
    cases kq with
    | zero => exact absurd HA.out (by simp [emenderlaw28_CommonEscapes.j0])
    | succ kj2 =>
      have H := HA.out
      clear HA
      simp only [emenderlaw28_CommonEscapes.j0] at H
      by_cases c14 : x36_2 = true
      · subst c14
        have H1 : ((emenderlaw28_awake.f).bind fun t167 => (some t167)) = some r := by rw [if_pos rfl] at H; exact H
        clear H
        have H := H1
        clear H1
        replace H := Option.bind_eq_some_iff.mp H
        obtain ⟨t167, A150, H⟩ := H
        replace H : (some t167) = some r := H
        have A15 := Aside0.mk A150
        clear A150
        obtain rfl := Option.some.inj H
        go_wp2_with (first | ((with_reducible refine gate_callee (f := 9) rfl ?_); refine goesL_ (some 37) rfl rfl Tryd.func9 (by kernel_rfl) rfl #[] rfl (by (try simp only [List.map_toArray, List.map_cons, List.map_nil]); first | done | rfl | (simp only [List.length_drop, List.length_take]; rfl)) ?_; (with_reducible refine (emenderlaw28_awake.calls  t167 _ A15.out).mono ?_); rintro e w16 ⟨rfl, hb⟩; refine ⟨_, rfl, ?_⟩; have n0_ := Aside0.mk (below_step (by repeat (first | (with_reducible first | exact HB.out | apply below_alloc | apply pw_below_drewN | apply below_drew1) | exact HB.out)) hb); clear HB; have HB := n0_; clear n0_; (try clear hb); (try clear hb2); (try clear hk); (try clear hi)))
        go_ret
        exact ⟨by first | rfl | (simp [errW_none, errW_some] <;> rfl) | (simp [*, errW_none, errW_some] <;> rfl), by repeat (first | (with_reducible first | exact HB.out | apply below_alloc | apply pw_below_drewN | apply below_drew1) | exact HB.out)⟩
      · replace c14 := Bool.eq_false_iff.mpr c14
        subst c14
        have H1 : (emenderlaw28_CommonEscapes.l0 kj2 l1 ((33 + (Int.tmod a0 94)) % 256) (⟨#[]⟩ : ByteArray) 0) = some r := by rw [if_neg (show ¬ (false = true) by decide)] at H; exact H
        clear H
        have H := H1
        clear H1
        have HC17 := Aside0.mk H
        clear H
        go_upto_block 0 with (fail)
        go_cut [6] (fun v6 wc => ∃ (kq : Nat) (x6_16 : ByteArray), v6 = .string x6_16 ∧ Aside0 (emenderlaw28_CommonEscapes.j2 kq ((33 + (Int.tmod a0 94)) % 256) x6_16 = some r) ∧ Aside0 (kq ≤ kj2) ∧ Aside0 (Below w.heap.size w wc))
        case first =>
          have H := HC17.out
          clear HC17
          have H' := Aside0.mk H
          clear H
          go_wp2
          go_loopg [6, 7] kj2 (fun kq v6 v7 w' => ∃ (x6_2 : ByteArray) (x7_2 : Int), v6 = .string x6_2 ∧ v7 = .int .i64 x7_2 ∧ Aside0 (emenderlaw28_CommonEscapes.l0 kq l1 ((33 + (Int.tmod a0 94)) % 256) x6_2 x7_2 = some r) ∧ Aside0 (kq ≤ kj2) ∧ Aside0 (Below w.heap.size w w'))
          case atStart => exact ⟨((⟨#[]⟩ : ByteArray)), (0), (by first | rfl | (simp; done) | (simp [*]; done)), (by first | rfl | (simp; done) | (simp [*]; done)), H', ⟨Nat.le_refl _⟩, ⟨by repeat (first | (with_reducible first | exact HB.out | apply below_alloc | apply pw_below_drewN | apply below_drew1) | exact HB.out)⟩⟩
          case round =>
            clear H'
            try clear c1
            try clear p2
            try clear c4
            try clear c4b0
            try clear c5
            try clear c5b0
            try clear c6
            try clear c6b0
            try clear c7
            try clear c7b0
            try clear c8
            try clear c8b0
            try clear c9
            try clear c9b0
            try clear c10
            try clear c10b0
            try clear c11
            try clear c11b0
            try clear c12
            try clear c12b0
            try clear c13
            try clear c13b0
            try clear c14
            try clear p2
            obtain ⟨x6_2, x7_2, rfl, rfl, HA, HK2, HB⟩ := hrel
            cases gk with
            | zero => exact absurd HA.out (by simp [emenderlaw28_CommonEscapes.l0])
            | succ k2 =>
              have H := HA.out
              clear HA
              simp only [emenderlaw28_CommonEscapes.l0] at H
              by_cases c18 : x7_2 < (l1.length : Int)
              · rw [if_pos c18] at H
                have c18b0 : decide (x7_2 < (l1.length : Int)) = true := decide_eq_true c18
                clear c18
                (first | rw [c18b0] | (simp only [i64_w, i32_w]; rw [c18b0]) | skip)
                by_cases c19 : x7_2 < 50
                · rw [if_pos c19] at H
                  have c19b0 : decide (x7_2 < 50) = true := decide_eq_true c19
                  clear c19
                  by_cases c20 : 0 ≤ x7_2
                  · rw [if_pos c20] at H
                    have c20b0 : decide (0 ≤ x7_2) = true := decide_eq_true c20
                    clear c20
                    obtain ⟨y169, hy169⟩ : ∃ y_ : List Int, y_ = (([(97 + (Int.tmod (rd l1 x7_2) 26)) % 256] : List Int)) := ⟨_, rfl⟩
                    replace H : (if x6_2.size + (strOfNums y169).size ≤ 9223372036854775807 then (emenderlaw28_CommonEscapes.l0 k2 l1 ((33 + (Int.tmod a0 94)) % 256) (x6_2 ++ (strOfNums y169)) (wrap64 (x7_2 + 1))) else (none)) = some r := by first | (rw [hy169]; with_reducible exact H) | (have H2_ := (Option.bind_some _ _).symm.trans H; rw [hy169]; with_reducible exact H2_) | (have H2_ := (Option.bind_some _ _).symm.trans H; with_reducible exact H2_) | with_reducible exact H | (rw [hy169]; exact H) | exact H
                    have Ny169 := Aside0.mk hy169
                    clear hy169
                    by_cases c21 : x6_2.size + (strOfNums y169).size ≤ 9223372036854775807
                    · rw [if_pos c21] at H
                      have c21b0 := eq_true c21
                      have c21b1 : decide (x6_2.size + (strOfNums y169).size ≤ 9223372036854775807) = true := decide_eq_true c21
                      try have c21b2 : (9223372036854775807 < x6_2.size + (strOfNums y169).size) = False := eq_false (Nat.not_lt.2 c21)
                      have H' := Aside0.mk H
                      clear H
                      have p168 : 0 ≤ (x7_2 : Int) := of_decide_eq_true (by first | (with_reducible assumption) | assumption)
                      have q168 : x7_2 < (l1.length : Int) := of_decide_eq_true (by first | (with_reducible assumption) | assumption)
                      obtain ⟨ad168, e168, hx168_0⟩ := Kd.at_int HR1.out x7_2 p168 q168
                      cases e168
                      replace hx168_0 := (HB.out.cell (World.block_lt_of_cell? w _ hx168_0)).trans hx168_0
                      replace p168 := eq_true p168
                      replace q168 := eq_true q168
                      go_wp2_with (first | ((with_reducible refine gate_dst (N := 55) rfl ?_); (try (refine gate_guard (by rfl) ?_; dsimp only)); refine Kd.R_lit (Kd.int .u8) _ 5 ?hg (N := 55) ?hd (xs := ([(97 + (Int.tmod (rd l1 x7_2) 26)) % 256] : List Int)) (inner := [.int .u8 ((97 + (Int.tmod (rd l1 x7_2) 26)) % 256)]) (ok := fun _ => True) (okp := fun _ => True) ?hr ?hp (fun _ hk => hk) trivial (Below.refl _ _) (Nat.le_refl _) (by simp) ?_; (case hd => rfl); (case hg => rfl); (case hr => first | (go_simp; done) | (go_simp; rfl)); (case hp => exact (Reps.one (show Kd.M (Kd.int .u8) _ _ _ ((97 + (Int.tmod (rd l1 x7_2) 26)) % 256) [.int .u8 ((97 + (Int.tmod (rd l1 x7_2) 26)) % 256)] from rfl) (Reps.none _ _))); intro v170 w22 ho23 hb hg_ hnew_; clear hg_ hnew_; (first | rw [← Ny169.out] at ho23 | (simp only [Int.reduceToNat] at ho23; rw [← Ny169.out] at ho23)); have n0_ := Aside0.mk (Kd.R_lower ho23 (below_size (by repeat (first | (with_reducible first | exact HB.out | apply below_alloc | apply pw_below_drewN | apply below_drew1) | exact HB.out)))); have n1_ := Aside0.mk (below_step (by repeat (first | (with_reducible first | exact HB.out | apply below_alloc | apply pw_below_drewN | apply below_drew1) | exact HB.out)) hb); clear HB; have HO171 := n0_; have HB := n1_; clear n0_ n1_; clear hb ho23; have hcv24 := own_string (P := Tryd.prog) Tryd.underlying40 Tryd.underlying5 Tryd.underlying9 (Kd.own_of_R HO171.out)))
                      go_roundg k2
                      case measure => have := HJ2.out; have := HK2.out; omega
                      case rel => exact ⟨(x6_2 ++ (strOfNums y169)), (wrap64 (x7_2 + 1)), (by first | rfl | (simp; done) | (simp [*]; done)), (by first | rfl | (simp; done) | (simp [*]; done)), H', ⟨by have := HJ2.out; have := HK2.out; omega⟩, ⟨by repeat (first | (with_reducible first | exact HB.out | apply below_alloc | apply pw_below_drewN | apply below_drew1) | exact HB.out)⟩⟩
                    · rw [if_neg c21] at H
                      exact absurd H (by simp)
                  · rw [if_neg c20] at H
                    exact absurd H (by simp)
                · rw [if_neg c19] at H
                  have c19b0 : decide (x7_2 < 50) = false := decide_eq_false c19
                  clear c19
                  have H' := Aside0.mk H
                  clear H
                  go_wp2
                  go_meet
                  case rel => exact ⟨_, (x6_2), (by first | rfl | (simp; done) | (simp [*]; done)), H', ⟨by have := HJ2.out; have := HK2.out; first | omega | exact Nat.le_refl _⟩, ⟨by repeat (first | (with_reducible first | exact HB.out | apply below_alloc | apply pw_below_drewN | apply below_drew1) | exact HB.out)⟩⟩
              · rw [if_neg c18] at H
                have c18b0 : decide (x7_2 < (l1.length : Int)) = false := decide_eq_false c18
                clear c18
                (first | rw [c18b0] | (simp only [i64_w, i32_w]; rw [c18b0]) | skip)
                have H' := Aside0.mk H
                clear H
                go_wp2
                go_meet
                case rel => exact ⟨_, (x6_2), (by first | rfl | (simp; done) | (simp [*]; done)), H', ⟨by have := HJ2.out; have := HK2.out; first | omega | exact Nat.le_refl _⟩, ⟨by repeat (first | (with_reducible first | exact HB.out | apply below_alloc | apply pw_below_drewN | apply below_drew1) | exact HB.out)⟩⟩
        case rest =>
          clear HC17
          try clear c1
          try clear p1
          try clear q1
          try clear hx1
          try clear c2
          try clear p2
          try clear hcv2
          try clear c4
          try clear c4b0
          try clear c5
          try clear c5b0
          try clear c6
          try clear c6b0
          try clear p6
          try clear c7
          try clear c7b0
          try clear c8
          try clear c8b0
          try clear c9
          try clear c9b0
          try clear c10
          try clear c10b0
          try clear c11
          try clear c11b0
          try clear c12
          try clear c12b0
          try clear c13
          try clear c13b0
          try clear c14
          try clear p16
          try clear q16
          try clear hx16
          try clear c18
          try clear c18b0
          try clear c19
          try clear c19b0
          try clear c20
          try clear c20b0
          try clear c21
          try clear c21b0
          try clear c21b1
          try clear c21b2
          try clear hcv24
          try clear hx168_0
          try clear p168
          try clear p2
          try clear q168
          obtain ⟨kq, x6_16, rfl, HA, HJ16, HB⟩ := hcut
          cases kq with
          | zero => exact absurd HA.out (by simp [emenderlaw28_CommonEscapes.j2])
          | succ kj16 =>
            have H := HA.out
            clear HA
            simp only [emenderlaw28_CommonEscapes.j2] at H
            by_cases c25 : x6_16.size + 1 ≤ 9223372036854775807
            · rw [if_pos c25] at H
              have c25b0 := eq_true c25
              have c25b1 : decide (x6_16.size + 1 ≤ 9223372036854775807) = true := decide_eq_true c25
              try have c25b2 : (9223372036854775807 < x6_16.size + 1) = False := eq_false (Nat.not_lt.2 c25)
              obtain ⟨y172, hy172⟩ : ∃ y_ : List Int, y_ = (([((33 + (Int.tmod a0 94)) % 256)] : List Int)) := ⟨_, rfl⟩
              replace H : (if (x6_16 ++ (⟨#[92]⟩ : ByteArray)).size + (strOfNums y172).size ≤ 9223372036854775807 then (if ((x6_16 ++ (⟨#[92]⟩ : ByteArray)) ++ (strOfNums y172)).size + x6_16.size ≤ 9223372036854775807 then ((common_Parse.f (((x6_16 ++ (⟨#[92]⟩ : ByteArray)) ++ (strOfNums y172)) ++ x6_16)).bind fun bt175 => (if bt175.2.2 = 0 then ((flat_Text.f bt175.1).bind fun t188 => ((some (([((33 + (Int.tmod a0 94)) % 256)] : List Int) : List Int)).bind fun y189 => (if x6_16.size + (strOfNums y189).size ≤ 9223372036854775807 then (if (x6_16 ++ (strOfNums y189)).size + x6_16.size ≤ 9223372036854775807 then (if t188.toList = ((x6_16 ++ (strOfNums y189)) ++ x6_16).toList then (emenderlaw28_CommonEscapes.l1 kj16 bt175.1 0) else (none)) else (none)) else (none)))) else (none))) else (none)) else (none)) = some r := by first | (rw [hy172]; with_reducible exact H) | (have H2_ := (Option.bind_some _ _).symm.trans H; rw [hy172]; with_reducible exact H2_) | (have H2_ := (Option.bind_some _ _).symm.trans H; with_reducible exact H2_) | with_reducible exact H | (rw [hy172]; exact H) | exact H
              have Ny172 := Aside0.mk hy172
              clear hy172
              by_cases c26 : (x6_16 ++ (⟨#[92]⟩ : ByteArray)).size + (strOfNums y172).size ≤ 9223372036854775807
              · rw [if_pos c26] at H
                have c26b0 := eq_true c26
                have c26b1 : decide ((x6_16 ++ (⟨#[92]⟩ : ByteArray)).size + (strOfNums y172).size ≤ 9223372036854775807) = true := decide_eq_true c26
                try have c26b2 : (9223372036854775807 < (x6_16 ++ (⟨#[92]⟩ : ByteArray)).size + (strOfNums y172).size) = False := eq_false (Nat.not_lt.2 c26)
                try have c26b3 : (9223372036854775807 < x6_16.size + 1 + (strOfNums y172).size) = False := by have h_ := c26; simp only [ByteArray.size_append] at h_; exact eq_false (Nat.not_lt.2 h_)
                by_cases c27 : ((x6_16 ++ (⟨#[92]⟩ : ByteArray)) ++ (strOfNums y172)).size + x6_16.size ≤ 9223372036854775807
                · rw [if_pos c27] at H
                  have c27b0 := eq_true c27
                  have c27b1 : decide (((x6_16 ++ (⟨#[92]⟩ : ByteArray)) ++ (strOfNums y172)).size + x6_16.size ≤ 9223372036854775807) = true := decide_eq_true c27
                  try have c27b2 : (9223372036854775807 < ((x6_16 ++ (⟨#[92]⟩ : ByteArray)) ++ (strOfNums y172)).size + x6_16.size) = False := eq_false (Nat.not_lt.2 c27)
                  try have c27b3 : (9223372036854775807 < x6_16.size + 1 + (strOfNums y172).size + x6_16.size) = False := by have h_ := c27; simp only [ByteArray.size_append] at h_; exact eq_false (Nat.not_lt.2 h_)
                  replace H := Option.bind_eq_some_iff.mp H
                  obtain ⟨⟨t175, t176, t177⟩, A280, H⟩ := H
                  replace H : (if t177 = 0 then ((flat_Text.f t175).bind fun t188 => ((some (([((33 + (Int.tmod a0 94)) % 256)] : List Int) : List Int)).bind fun y189 => (if x6_16.size + (strOfNums y189).size ≤ 9223372036854775807 then (if (x6_16 ++ (strOfNums y189)).size + x6_16.size ≤ 9223372036854775807 then (if t188.toList = ((x6_16 ++ (strOfNums y189)) ++ x6_16).toList then (emenderlaw28_CommonEscapes.l1 kj16 t175 0) else (none)) else (none)) else (none)))) else (none)) = some r := H
                  have A28 := Aside0.mk A280
                  clear A280
                  by_cases c29 : t177 = 0
                  · rw [if_pos c29] at H
                    have c29b0 : (t177 == 0) = true := beq_iff_eq.mpr c29
                    have c29b1 : (t177 != 0) = false := bne_eq_false_iff_eq.mpr c29
                    clear c29
                    replace H := Option.bind_eq_some_iff.mp H
                    obtain ⟨t188, A300, H⟩ := H
                    replace H : ((some (([((33 + (Int.tmod a0 94)) % 256)] : List Int) : List Int)).bind fun y189 => (if x6_16.size + (strOfNums y189).size ≤ 9223372036854775807 then (if (x6_16 ++ (strOfNums y189)).size + x6_16.size ≤ 9223372036854775807 then (if t188.toList = ((x6_16 ++ (strOfNums y189)) ++ x6_16).toList then (emenderlaw28_CommonEscapes.l1 kj16 t175 0) else (none)) else (none)) else (none))) = some r := H
                    have A30 := Aside0.mk A300
                    clear A300
                    obtain ⟨y189, hy189⟩ : ∃ y_ : List Int, y_ = (([((33 + (Int.tmod a0 94)) % 256)] : List Int)) := ⟨_, rfl⟩
                    replace H : (if x6_16.size + (strOfNums y189).size ≤ 9223372036854775807 then (if (x6_16 ++ (strOfNums y189)).size + x6_16.size ≤ 9223372036854775807 then (if t188.toList = ((x6_16 ++ (strOfNums y189)) ++ x6_16).toList then (emenderlaw28_CommonEscapes.l1 kj16 t175 0) else (none)) else (none)) else (none)) = some r := by first | (rw [hy189]; with_reducible exact H) | (have H2_ := (Option.bind_some _ _).symm.trans H; rw [hy189]; with_reducible exact H2_) | (have H2_ := (Option.bind_some _ _).symm.trans H; with_reducible exact H2_) | with_reducible exact H | (rw [hy189]; exact H) | exact H
                    have Ny189 := Aside0.mk hy189
                    clear hy189
                    by_cases c31 : x6_16.size + (strOfNums y189).size ≤ 9223372036854775807
                    · rw [if_pos c31] at H
                      have c31b0 := eq_true c31
                      have c31b1 : decide (x6_16.size + (strOfNums y189).size ≤ 9223372036854775807) = true := decide_eq_true c31
                      try have c31b2 : (9223372036854775807 < x6_16.size + (strOfNums y189).size) = False := eq_false (Nat.not_lt.2 c31)
                      by_cases c32 : (x6_16 ++ (strOfNums y189)).size + x6_16.size ≤ 9223372036854775807
                      · rw [if_pos c32] at H
                        have c32b0 := eq_true c32
                        have c32b1 : decide ((x6_16 ++ (strOfNums y189)).size + x6_16.size ≤ 9223372036854775807) = true := decide_eq_true c32
                        try have c32b2 : (9223372036854775807 < (x6_16 ++ (strOfNums y189)).size + x6_16.size) = False := eq_false (Nat.not_lt.2 c32)
                        try have c32b3 : (9223372036854775807 < x6_16.size + (strOfNums y189).size + x6_16.size) = False := by have h_ := c32; simp only [ByteArray.size_append] at h_; exact eq_false (Nat.not_lt.2 h_)
                        by_cases c33 : t188.toList = ((x6_16 ++ (strOfNums y189)) ++ x6_16).toList
                        · rw [if_pos c33] at H
                          have c33b0 : (t188.toList == ((x6_16 ++ (strOfNums y189)) ++ x6_16).toList) = true := beq_iff_eq.mpr c33
                          have c33b1 : (t188.toList != ((x6_16 ++ (strOfNums y189)) ++ x6_16).toList) = false := bne_eq_false_iff_eq.mpr c33
                          clear c33
                          have H' := Aside0.mk H
                          clear H
                          try go_wp2_with (first | ((with_reducible refine gate_dst (N := 62) rfl ?_); (try (refine gate_guard (by rfl) ?_; dsimp only)); refine Kd.R_lit (Kd.int .u8) _ 5 ?hg (N := 62) ?hd (xs := ([((33 + (Int.tmod a0 94)) % 256)] : List Int)) (inner := [.int .u8 ((33 + (Int.tmod a0 94)) % 256)]) (ok := fun _ => True) (okp := fun _ => True) ?hr ?hp (fun _ hk => hk) trivial (Below.refl _ _) (Nat.le_refl _) (by simp) ?_; (case hd => rfl); (case hg => rfl); (case hr => first | (go_simp; done) | (go_simp; rfl)); (case hp => exact (Reps.one (show Kd.M (Kd.int .u8) _ _ _ ((33 + (Int.tmod a0 94)) % 256) [.int .u8 ((33 + (Int.tmod a0 94)) % 256)] from rfl) (Reps.none _ _))); intro v173 w34 ho35 hb hg_ hnew_; clear hg_ hnew_; (first | rw [← Ny172.out] at ho35 | (simp only [Int.reduceToNat] at ho35; rw [← Ny172.out] at ho35)); have n0_ := Aside0.mk (Kd.R_lower ho35 (below_size (by repeat (first | (with_reducible first | exact HB.out | apply below_alloc | apply pw_below_drewN | apply below_drew1) | exact HB.out)))); have n1_ := Aside0.mk (below_step (by repeat (first | (with_reducible first | exact HB.out | apply below_alloc | apply pw_below_drewN | apply below_drew1) | exact HB.out)) hb); clear HB; have HO174 := n0_; have HB := n1_; clear n0_ n1_; clear hb ho35; have hcv36 := own_string (P := Tryd.prog) Tryd.underlying40 Tryd.underlying5 Tryd.underlying9 (Kd.own_of_R HO174.out)) | ((with_reducible refine gate_callee (f := 10) rfl ?_); refine goesL_ (some 67) rfl rfl Tryd.func10 (by kernel_rfl) rfl #[.string (((x6_16 ++ (⟨#[92]⟩ : ByteArray)) ++ (strOfNums y172)) ++ x6_16)] rfl (by (try simp only [List.map_toArray, List.map_cons, List.map_nil]); first | done | rfl | (simp only [List.length_drop, List.length_take]; rfl)) ?_; (with_reducible refine (common_Parse.calls (((x6_16 ++ (⟨#[92]⟩ : ByteArray)) ++ (strOfNums y172)) ++ x6_16) t175 t176 t177 _ A28.out).mono ?_); rintro e w37 ⟨v178, rfl, ho0, hb⟩; refine ⟨_, rfl, ?_⟩; have n0_ := Aside0.mk (Kd.R_below (by (with_reducible repeat (first | apply Kd.R_alloc | apply Kd.R_drewN | apply Kd.R_drew)); exact HO174.out) hb); have n1_ := Aside0.mk (Kd.R_lower ho0 (below_size (by repeat (first | (with_reducible first | exact HB.out | apply below_alloc | apply pw_below_drewN | apply below_drew1) | exact HB.out)))); have n2_ := Aside0.mk (below_step (by repeat (first | (with_reducible first | exact HB.out | apply below_alloc | apply pw_below_drewN | apply below_drew1) | exact HB.out)) hb); clear HO174; clear HB; have HO174 := n0_; have HO179 := n1_; have HB := n2_; clear n0_ n1_ n2_; (try clear hb); (try clear hb2); (try clear hk); (try clear hi); (try clear ho0); obtain ⟨Ao38, co38, eo38⟩ := Kd.R_slice HO179.out; subst eo38))
                          have n0_ := Aside0.mk (Kd.R_drew HO174.out)
                          have n1_ := Aside0.mk (Kd.R_drew HO179.out)
                          have n2_ := Aside0.mk (below_drew1 HB.out)
                          clear HO174
                          clear HO179
                          clear HB
                          have HO174 := n0_
                          have HO179 := n1_
                          have HB := n2_
                          clear n0_ n1_ n2_
                          refine start_ (n := 14) (S := fun w' => True) (ds := []) #[false, false, false, false, false, false, false, false, false, false, false, false, false, false] (by kernel_rfl) rfl rfl trivial (fun hHeld => ?_); refine with_tabW emenderlaw28_CommonEscapes.tab10 emenderlaw28_CommonEscapes.bits10 (fun HT_ HW_ => ?_)
                          generalize w37.drew = w39 at HO174 HO179 HB hHeld ⊢
                          refine pure_ (i := 0) (N := some 71) (v := ?_) (a' := ?_) #[true, false, false, false, false, false, false, false, false, false, false, false, false, false] rfl rfl (any_of HT_.out (by kernel_rfl)) (fun _ _ _ h => h) (Or.inl ⟨by rfl, ?_⟩) ?_ ?_
                          rotate_left
                          · intro w'
                            go_simp
                            with_reducible rfl
                          rotate_left
                          · simp only [Act.put, List.setIfInBounds_toArray, List.set_cons_zero, List.set_cons_succ, i64_w, i32_w]
                            rfl
                          refine pure_ (i := 1) (N := some 72) (v := ?_) (a' := ?_) #[true, true, false, false, false, false, false, false, false, false, false, false, false, false] rfl rfl (any_of HT_.out (by kernel_rfl)) (fun _ _ _ h => h) (Or.inl ⟨by rfl, ?_⟩) ?_ ?_
                          rotate_left
                          · intro w'
                            go_simp
                            with_reducible rfl
                          rotate_left
                          · simp only [Act.put, List.setIfInBounds_toArray, List.set_cons_zero, List.set_cons_succ, i64_w, i32_w]
                            rfl
                          refine pure_ (i := 2) (N := some 73) (v := ?_) (a' := ?_) #[true, true, true, false, false, false, false, false, false, false, false, false, false, false] rfl rfl (any_of HT_.out (by kernel_rfl)) (fun _ _ _ h => h) (Or.inl ⟨by rfl, ?_⟩) ?_ ?_
                          rotate_left
                          · intro w'
                            go_simp
                            with_reducible rfl
                          rotate_left
                          · simp only [Act.put, List.setIfInBounds_toArray, List.set_cons_zero, List.set_cons_succ, i64_w, i32_w]
                            rfl
                          refine pure_ (i := 3) (N := some 74) (v := ?_) (a' := ?_) #[true, true, true, true, false, false, false, false, false, false, false, false, false, false] rfl rfl (any_of HT_.out (by kernel_rfl)) (fun _ _ _ h => h) (Or.inl ⟨by rfl, ?_⟩) ?_ ?_
                          rotate_left
                          · intro w'
                            go_simp
                            with_reducible rfl
                          rotate_left
                          · simp only [Act.put, List.setIfInBounds_toArray, List.set_cons_zero, List.set_cons_succ, i64_w, i32_w]
                            rfl
                          refine pure_ (i := 5) (N := some 76) (v := ?_) (a' := ?_) #[true, true, true, true, false, true, false, false, false, false, false, false, false, false] rfl rfl (any_of HT_.out (by kernel_rfl)) (fun _ _ _ h => h) (Or.inl ⟨by rfl, ?_⟩) ?_ ?_
                          rotate_left
                          · intro w'
                            go_simp
                            with_reducible rfl
                          rotate_left
                          · simp only [Act.put, List.setIfInBounds_toArray, List.set_cons_zero, List.set_cons_succ, i64_w, i32_w]
                            rfl
                          refine pure_ (i := 6) (N := some 77) (v := ?_) (a' := ?_) #[true, true, true, true, false, true, true, false, false, false, false, false, false, false] rfl rfl (any_of HT_.out (by kernel_rfl)) (fun _ _ _ h => h) (Or.inl ⟨by rfl, ?_⟩) ?_ ?_
                          rotate_left
                          · intro w'
                            go_simp
                            with_reducible rfl
                          rotate_left
                          · simp only [Act.put, List.setIfInBounds_toArray, List.set_cons_zero, List.set_cons_succ, i64_w, i32_w]
                            rfl
                          refine pure_ (i := 10) (N := some 81) (v := ?_) (a' := ?_) #[true, true, true, true, false, true, true, false, false, false, true, false, false, false] rfl rfl (any_of HT_.out (by kernel_rfl)) (fun _ _ _ h => h) (Or.inl ⟨by rfl, ?_⟩) ?_ ?_
                          rotate_left
                          · intro w'
                            go_simp
                            with_reducible rfl
                          rotate_left
                          · simp only [Act.put, List.setIfInBounds_toArray, List.set_cons_zero, List.set_cons_succ, i64_w, i32_w]
                            rfl
                          refine join_ (σ := Value) 2 #[true, true, true, true, true, true, true, true, true, true, true, true, false, false] (fun s_ => [(75, .string t188), (78, s_), (79, .string (strOfNums y189)), (80, .string (x6_16 ++ (strOfNums y189))), (82, .string ((x6_16 ++ (strOfNums y189)) ++ x6_16))]) (fun s_ w' => (Kd.R (Kd.int .u8) 5 w' w.heap.size (fun k_ => some k_ ≠ (s_ : Value).ownBlock) v173 y172) ∧ (Kd.R k43 43 w' w.heap.size (fun _ => True) (.slice Ao38 t175.length co38) t175) ∧ (Kd.R (Kd.int .u8) 5 w' w.heap.size (fun k_ => some k_ ≠ (v173 : Value).ownBlock) s_ y189) ∧ (Below w.heap.size w w')) ?_ ?_
                          rotate_left
                          · intro hCont
                            refine two_ (i := 4) (j := 7) (Ni := some 75) (Nj := some 78) #[true, true, true, true, true, true, true, false, false, false, true, false, false, false] #[true, true, true, true, false, true, true, true, false, false, true, false, false, false] rfl rfl rfl rfl (two_of HT_.out (by kernel_rfl)) (by decide) (by decide) (fun K hK => ?_) (fun K hK => ?_)
                            · skip
                              refine goes_ Tryd.func15 (by kernel_rfl) rfl #[.slice Ao38 t175.length co38] (by rfl) rfl rfl (by (try simp only [List.map_toArray, List.map_cons, List.map_nil]); first | done | rfl | (simp only [List.length_drop, List.length_take]; rfl)) ?_
                              with_reducible refine (flat_Text.calls _ _ t175 t188 _ ?side1 ?side2 A30.out).mono ?_
                              (case side1 => repeat (first | exact (Kd.R_reads' HO179.out).2.2 | (with_reducible refine Kd.C_alloc ?_ _) | (with_reducible refine Kd.C_drewN ?_ _) | (with_reducible refine Kd.C_drew ?_)))
                              (case side2 => exact (Kd.R_reads' HO179.out).2.1)
                              rintro e w40 ⟨rfl, hb⟩
                              refine ⟨_, rfl, ?_⟩
                              have n0_ := Aside0.mk (Kd.R_below (by (with_reducible repeat (first | apply Kd.R_alloc | apply Kd.R_drewN | apply Kd.R_drew)); exact HO174.out) hb)
                              have n1_ := Aside0.mk (Kd.R_below (by (with_reducible repeat (first | apply Kd.R_alloc | apply Kd.R_drewN | apply Kd.R_drew)); exact HO179.out) hb)
                              have n2_ := Aside0.mk (below_step (by repeat (first | (with_reducible first | exact HB.out | apply below_alloc | apply pw_below_drewN | apply below_drew1) | exact HB.out)) hb)
                              clear HO174
                              clear HO179
                              clear HB
                              have HO174 := n0_
                              have HO179 := n1_
                              have HB := n2_
                              clear n0_ n1_ n2_
                              (try clear hb)
                              (try clear hb2)
                              (try clear hk)
                              (try clear hi)
                              refine hK.out _ _ trivial (fun hHeld => ?_)
                              clear hK K
                              refine norm_ (a' := ?_) ?_ ?_
                              rotate_left
                              · show Act.put _ (some 75) _ = _
                                simp only [Act.put, List.setIfInBounds_toArray, List.set_cons_zero, List.set_cons_succ, i64_w, i32_w]
                                rfl
                              refine one_ (i := 7) (N := some 78) #[true, true, true, true, true, true, true, true, false, false, true, false, false, false] rfl rfl (one_of HT_.out (by kernel_rfl)) (by decide) (fun K hK => ?_)
                              refine Kd.R_lit_step (Kd.int .u8) _ 5 ?hg (N := 78) ?hd (xs := ([((33 + (Int.tmod a0 94)) % 256)] : List Int)) (inner := [.int .u8 ((33 + (Int.tmod a0 94)) % 256)]) (ok := fun _ => True) (okp := fun _ => True) ?hr ?hp (fun _ hk => hk) trivial (Below.refl _ _) (Nat.le_refl _) (by simp) ?_; (case hd => rfl); (case hg => rfl); (case hr => first | (go_simp; done) | (go_simp; rfl)); (case hp => exact (Reps.one (show Kd.M (Kd.int .u8) _ _ _ ((33 + (Int.tmod a0 94)) % 256) [.int .u8 ((33 + (Int.tmod a0 94)) % 256)] from rfl) (Reps.none _ _)))
                              intro v190 w41 ho42 hb hg_ hnew_
                              clear hg_ hnew_
                              (first | rw [← Ny189.out] at ho42 | (simp only [Int.reduceToNat] at ho42; rw [← Ny189.out] at ho42))
                              have n0_ := Aside0.mk (Kd.R_elder' (by (with_reducible repeat (first | apply Kd.R_alloc | apply Kd.R_drewN | apply Kd.R_drew)); exact HO174.out) (Kd.R_base ho42) hb)
                              have n1_ := Aside0.mk (Kd.R_below (by (with_reducible repeat (first | apply Kd.R_alloc | apply Kd.R_drewN | apply Kd.R_drew)); exact HO179.out) hb)
                              have n2_ := Aside0.mk (Kd.R_lower (Kd.R_new' ho42 (Kd.R_lt (by (with_reducible repeat (first | apply Kd.R_alloc | apply Kd.R_drewN | apply Kd.R_drew)); exact HO174.out))) (below_size (by repeat (first | (with_reducible first | exact HB.out | apply below_alloc | apply pw_below_drewN | apply below_drew1) | exact HB.out))))
                              have n3_ := Aside0.mk (below_step (by repeat (first | (with_reducible first | exact HB.out | apply below_alloc | apply pw_below_drewN | apply below_drew1) | exact HB.out)) hb)
                              clear HO174
                              clear HO179
                              clear HB
                              have HO174 := n0_
                              have HO179 := n1_
                              have HO191 := n2_
                              have HB := n3_
                              clear n0_ n1_ n2_ n3_
                              clear hb ho42
                              refine hK.out _ _ trivial (fun hHeld => ?_)
                              clear hK K
                              refine norm_ (a' := ?_) ?_ ?_
                              rotate_left
                              · show Act.put _ (some 78) _ = _
                                simp only [Act.put, List.setIfInBounds_toArray, List.set_cons_zero, List.set_cons_succ, i64_w, i32_w]
                                rfl
                              refine one_ (i := 8) (N := some 79) #[true, true, true, true, true, true, true, true, true, false, true, false, false, false] rfl rfl (one_of HT_.out (by kernel_rfl)) (by decide) (fun K hK => ?_)
                              have hcv43 := own_string (P := Tryd.prog) Tryd.underlying40 Tryd.underlying5 Tryd.underlying9 (Kd.own_of_R HO191.out)
                              refine value_ (w1 := ?_) (v := ?_) (by rfl) rfl ?_ ?_
                              rotate_left 2
                              · go_simp
                                constructor
                                · rfl
                                · rfl
                              clear hcv43
                              refine hK.out _ _ trivial (fun hHeld => ?_)
                              clear hK K
                              refine norm_ (a' := ?_) ?_ ?_
                              rotate_left
                              · show Act.put _ (some 79) _ = _
                                simp only [Act.put, List.setIfInBounds_toArray, List.set_cons_zero, List.set_cons_succ, i64_w, i32_w]
                                rfl
                              refine pure_ (i := 9) (N := some 80) (v := ?_) (a' := ?_) #[true, true, true, true, true, true, true, true, true, true, true, false, false, false] rfl rfl (any_of HT_.out (by kernel_rfl)) (fun _ _ _ h => h) (Or.inl ⟨by rfl, ?_⟩) ?_ ?_
                              rotate_left
                              · intro w'
                                go_simp
                                with_reducible rfl
                              rotate_left
                              · simp only [Act.put, List.setIfInBounds_toArray, List.set_cons_zero, List.set_cons_succ, i64_w, i32_w]
                                rfl
                              refine pure_ (i := 11) (N := some 82) (v := ?_) (a' := ?_) #[true, true, true, true, true, true, true, true, true, true, true, true, false, false] rfl rfl (any_of HT_.out (by kernel_rfl)) (fun _ _ _ h => h) (Or.inl ⟨by rfl, ?_⟩) ?_ ?_
                              rotate_left
                              · intro w'
                                go_simp
                                with_reducible rfl
                              rotate_left
                              · simp only [Act.put, List.setIfInBounds_toArray, List.set_cons_zero, List.set_cons_succ, i64_w, i32_w]
                                rfl
                              exact norm_ (by simp only [putAll, Act.put, List.setIfInBounds_toArray, List.set_cons_zero, List.set_cons_succ]) (hCont (v190) _ ⟨(by (with_reducible repeat (first | apply Kd.R_alloc | apply Kd.R_drewN | apply Kd.R_drew)); exact Kd.R_mono HO174.out (fun _ hk => hk.2)), (by (with_reducible repeat (first | apply Kd.R_alloc | apply Kd.R_drewN | apply Kd.R_drew)); exact HO179.out), (by (with_reducible repeat (first | apply Kd.R_alloc | apply Kd.R_drewN | apply Kd.R_drew)); exact Kd.R_mono HO191.out (fun _ hk => hk.2)), (by repeat (first | (with_reducible first | exact HB.out | apply below_alloc | apply pw_below_drewN | apply below_drew1) | exact HB.out))⟩)
                            · skip
                              refine Kd.R_lit_step (Kd.int .u8) _ 5 ?hg (N := 78) ?hd (xs := ([((33 + (Int.tmod a0 94)) % 256)] : List Int)) (inner := [.int .u8 ((33 + (Int.tmod a0 94)) % 256)]) (ok := fun _ => True) (okp := fun _ => True) ?hr ?hp (fun _ hk => hk) trivial (Below.refl _ _) (Nat.le_refl _) (by simp) ?_; (case hd => rfl); (case hg => rfl); (case hr => first | (go_simp; done) | (go_simp; rfl)); (case hp => exact (Reps.one (show Kd.M (Kd.int .u8) _ _ _ ((33 + (Int.tmod a0 94)) % 256) [.int .u8 ((33 + (Int.tmod a0 94)) % 256)] from rfl) (Reps.none _ _)))
                              intro v190 w40 ho41 hb hg_ hnew_
                              clear hg_ hnew_
                              (first | rw [← Ny189.out] at ho41 | (simp only [Int.reduceToNat] at ho41; rw [← Ny189.out] at ho41))
                              have n0_ := Aside0.mk (Kd.R_elder' (by (with_reducible repeat (first | apply Kd.R_alloc | apply Kd.R_drewN | apply Kd.R_drew)); exact HO174.out) (Kd.R_base ho41) hb)
                              have n1_ := Aside0.mk (Kd.R_below (by (with_reducible repeat (first | apply Kd.R_alloc | apply Kd.R_drewN | apply Kd.R_drew)); exact HO179.out) hb)
                              have n2_ := Aside0.mk (Kd.R_lower (Kd.R_new' ho41 (Kd.R_lt (by (with_reducible repeat (first | apply Kd.R_alloc | apply Kd.R_drewN | apply Kd.R_drew)); exact HO174.out))) (below_size (by repeat (first | (with_reducible first | exact HB.out | apply below_alloc | apply pw_below_drewN | apply below_drew1) | exact HB.out))))
                              have n3_ := Aside0.mk (below_step (by repeat (first | (with_reducible first | exact HB.out | apply below_alloc | apply pw_below_drewN | apply below_drew1) | exact HB.out)) hb)
                              clear HO174
                              clear HO179
                              clear HB
                              have HO174 := n0_
                              have HO179 := n1_
                              have HO191 := n2_
                              have HB := n3_
                              clear n0_ n1_ n2_ n3_
                              clear hb ho41
                              refine hK.out _ _ trivial (fun hHeld => ?_)
                              clear hK K
                              refine norm_ (a' := ?_) ?_ ?_
                              rotate_left
                              · show Act.put _ (some 78) _ = _
                                simp only [Act.put, List.setIfInBounds_toArray, List.set_cons_zero, List.set_cons_succ, i64_w, i32_w]
                                rfl
                              refine two_ (i := 4) (j := 8) (Ni := some 75) (Nj := some 79) #[true, true, true, true, true, true, true, true, false, false, true, false, false, false] #[true, true, true, true, false, true, true, true, true, false, true, false, false, false] rfl rfl rfl rfl (two_of HT_.out (by kernel_rfl)) (by decide) (by decide) (fun K hK => ?_) (fun K hK => ?_)
                              · skip
                                refine goes_ Tryd.func15 (by kernel_rfl) rfl #[.slice Ao38 t175.length co38] (by rfl) rfl rfl (by (try simp only [List.map_toArray, List.map_cons, List.map_nil]); first | done | rfl | (simp only [List.length_drop, List.length_take]; rfl)) ?_
                                with_reducible refine (flat_Text.calls _ _ t175 t188 _ ?side1 ?side2 A30.out).mono ?_
                                (case side1 => repeat (first | exact (Kd.R_reads' HO179.out).2.2 | (with_reducible refine Kd.C_alloc ?_ _) | (with_reducible refine Kd.C_drewN ?_ _) | (with_reducible refine Kd.C_drew ?_)))
                                (case side2 => exact (Kd.R_reads' HO179.out).2.1)
                                rintro e w42 ⟨rfl, hb⟩
                                refine ⟨_, rfl, ?_⟩
                                have n0_ := Aside0.mk (Kd.R_below (by (with_reducible repeat (first | apply Kd.R_alloc | apply Kd.R_drewN | apply Kd.R_drew)); exact HO174.out) hb)
                                have n1_ := Aside0.mk (Kd.R_below (by (with_reducible repeat (first | apply Kd.R_alloc | apply Kd.R_drewN | apply Kd.R_drew)); exact HO179.out) hb)
                                have n2_ := Aside0.mk (Kd.R_below (by (with_reducible repeat (first | apply Kd.R_alloc | apply Kd.R_drewN | apply Kd.R_drew)); exact HO191.out) hb)
                                have n3_ := Aside0.mk (below_step (by repeat (first | (with_reducible first | exact HB.out | apply below_alloc | apply pw_below_drewN | apply below_drew1) | exact HB.out)) hb)
                                clear HO174
                                clear HO179
                                clear HO191
                                clear HB
                                have HO174 := n0_
                                have HO179 := n1_
                                have HO191 := n2_
                                have HB := n3_
                                clear n0_ n1_ n2_ n3_
                                (try clear hb)
                                (try clear hb2)
                                (try clear hk)
                                (try clear hi)
                                refine hK.out _ _ trivial (fun hHeld => ?_)
                                clear hK K
                                refine norm_ (a' := ?_) ?_ ?_
                                rotate_left
                                · show Act.put _ (some 75) _ = _
                                  simp only [Act.put, List.setIfInBounds_toArray, List.set_cons_zero, List.set_cons_succ, i64_w, i32_w]
                                  rfl
                                refine one_ (i := 8) (N := some 79) #[true, true, true, true, true, true, true, true, true, false, true, false, false, false] rfl rfl (one_of HT_.out (by kernel_rfl)) (by decide) (fun K hK => ?_)
                                have hcv43 := own_string (P := Tryd.prog) Tryd.underlying40 Tryd.underlying5 Tryd.underlying9 (Kd.own_of_R HO191.out)
                                refine value_ (w1 := ?_) (v := ?_) (by rfl) rfl ?_ ?_
                                rotate_left 2
                                · go_simp
                                  constructor
                                  · rfl
                                  · rfl
                                clear hcv43
                                refine hK.out _ _ trivial (fun hHeld => ?_)
                                clear hK K
                                refine norm_ (a' := ?_) ?_ ?_
                                rotate_left
                                · show Act.put _ (some 79) _ = _
                                  simp only [Act.put, List.setIfInBounds_toArray, List.set_cons_zero, List.set_cons_succ, i64_w, i32_w]
                                  rfl
                                refine pure_ (i := 9) (N := some 80) (v := ?_) (a' := ?_) #[true, true, true, true, true, true, true, true, true, true, true, false, false, false] rfl rfl (any_of HT_.out (by kernel_rfl)) (fun _ _ _ h => h) (Or.inl ⟨by rfl, ?_⟩) ?_ ?_
                                rotate_left
                                · intro w'
                                  go_simp
                                  with_reducible rfl
                                rotate_left
                                · simp only [Act.put, List.setIfInBounds_toArray, List.set_cons_zero, List.set_cons_succ, i64_w, i32_w]
                                  rfl
                                refine pure_ (i := 11) (N := some 82) (v := ?_) (a' := ?_) #[true, true, true, true, true, true, true, true, true, true, true, true, false, false] rfl rfl (any_of HT_.out (by kernel_rfl)) (fun _ _ _ h => h) (Or.inl ⟨by rfl, ?_⟩) ?_ ?_
                                rotate_left
                                · intro w'
                                  go_simp
                                  with_reducible rfl
                                rotate_left
                                · simp only [Act.put, List.setIfInBounds_toArray, List.set_cons_zero, List.set_cons_succ, i64_w, i32_w]
                                  rfl
                                exact norm_ (by simp only [putAll, Act.put, List.setIfInBounds_toArray, List.set_cons_zero, List.set_cons_succ]) (hCont (v190) _ ⟨(by (with_reducible repeat (first | apply Kd.R_alloc | apply Kd.R_drewN | apply Kd.R_drew)); exact Kd.R_mono HO174.out (fun _ hk => hk.2)), (by (with_reducible repeat (first | apply Kd.R_alloc | apply Kd.R_drewN | apply Kd.R_drew)); exact HO179.out), (by (with_reducible repeat (first | apply Kd.R_alloc | apply Kd.R_drewN | apply Kd.R_drew)); exact Kd.R_mono HO191.out (fun _ hk => hk.2)), (by repeat (first | (with_reducible first | exact HB.out | apply below_alloc | apply pw_below_drewN | apply below_drew1) | exact HB.out))⟩)
                              · skip
                                have hcv42 := own_string (P := Tryd.prog) Tryd.underlying40 Tryd.underlying5 Tryd.underlying9 (Kd.own_of_R HO191.out)
                                refine value_ (w1 := ?_) (v := ?_) (by rfl) rfl ?_ ?_
                                rotate_left 2
                                · go_simp
                                  constructor
                                  · rfl
                                  · rfl
                                clear hcv42
                                refine hK.out _ _ trivial (fun hHeld => ?_)
                                clear hK K
                                refine norm_ (a' := ?_) ?_ ?_
                                rotate_left
                                · show Act.put _ (some 79) _ = _
                                  simp only [Act.put, List.setIfInBounds_toArray, List.set_cons_zero, List.set_cons_succ, i64_w, i32_w]
                                  rfl
                                refine pure_ (i := 9) (N := some 80) (v := ?_) (a' := ?_) #[true, true, true, true, false, true, true, true, true, true, true, false, false, false] rfl rfl (any_of HT_.out (by kernel_rfl)) (fun _ _ _ h => h) (Or.inl ⟨by rfl, ?_⟩) ?_ ?_
                                rotate_left
                                · intro w'
                                  go_simp
                                  with_reducible rfl
                                rotate_left
                                · simp only [Act.put, List.setIfInBounds_toArray, List.set_cons_zero, List.set_cons_succ, i64_w, i32_w]
                                  rfl
                                refine pure_ (i := 11) (N := some 82) (v := ?_) (a' := ?_) #[true, true, true, true, false, true, true, true, true, true, true, true, false, false] rfl rfl (any_of HT_.out (by kernel_rfl)) (fun _ _ _ h => h) (Or.inl ⟨by rfl, ?_⟩) ?_ ?_
                                rotate_left
                                · intro w'
                                  go_simp
                                  with_reducible rfl
                                rotate_left
                                · simp only [Act.put, List.setIfInBounds_toArray, List.set_cons_zero, List.set_cons_succ, i64_w, i32_w]
                                  rfl
                                refine one_ (i := 4) (N := some 75) #[true, true, true, true, true, true, true, true, true, true, true, true, false, false] rfl rfl (one_of HT_.out (by kernel_rfl)) (by decide) (fun K hK => ?_)
                                refine goes_ Tryd.func15 (by kernel_rfl) rfl #[.slice Ao38 t175.length co38] (by rfl) rfl rfl (by (try simp only [List.map_toArray, List.map_cons, List.map_nil]); first | done | rfl | (simp only [List.length_drop, List.length_take]; rfl)) ?_
                                with_reducible refine (flat_Text.calls _ _ t175 t188 _ ?side1 ?side2 A30.out).mono ?_
                                (case side1 => repeat (first | exact (Kd.R_reads' HO179.out).2.2 | (with_reducible refine Kd.C_alloc ?_ _) | (with_reducible refine Kd.C_drewN ?_ _) | (with_reducible refine Kd.C_drew ?_)))
                                (case side2 => exact (Kd.R_reads' HO179.out).2.1)
                                rintro e w43 ⟨rfl, hb⟩
                                refine ⟨_, rfl, ?_⟩
                                have n0_ := Aside0.mk (Kd.R_below (by (with_reducible repeat (first | apply Kd.R_alloc | apply Kd.R_drewN | apply Kd.R_drew)); exact HO174.out) hb)
                                have n1_ := Aside0.mk (Kd.R_below (by (with_reducible repeat (first | apply Kd.R_alloc | apply Kd.R_drewN | apply Kd.R_drew)); exact HO179.out) hb)
                                have n2_ := Aside0.mk (Kd.R_below (by (with_reducible repeat (first | apply Kd.R_alloc | apply Kd.R_drewN | apply Kd.R_drew)); exact HO191.out) hb)
                                have n3_ := Aside0.mk (below_step (by repeat (first | (with_reducible first | exact HB.out | apply below_alloc | apply pw_below_drewN | apply below_drew1) | exact HB.out)) hb)
                                clear HO174
                                clear HO179
                                clear HO191
                                clear HB
                                have HO174 := n0_
                                have HO179 := n1_
                                have HO191 := n2_
                                have HB := n3_
                                clear n0_ n1_ n2_ n3_
                                (try clear hb)
                                (try clear hb2)
                                (try clear hk)
                                (try clear hi)
                                refine hK.out _ _ trivial (fun hHeld => ?_)
                                clear hK K
                                refine norm_ (a' := ?_) ?_ ?_
                                rotate_left
                                · show Act.put _ (some 75) _ = _
                                  simp only [Act.put, List.setIfInBounds_toArray, List.set_cons_zero, List.set_cons_succ, i64_w, i32_w]
                                  rfl
                                exact norm_ (by simp only [putAll, Act.put, List.setIfInBounds_toArray, List.set_cons_zero, List.set_cons_succ]) (hCont (v190) _ ⟨(by (with_reducible repeat (first | apply Kd.R_alloc | apply Kd.R_drewN | apply Kd.R_drew)); exact Kd.R_mono HO174.out (fun _ hk => hk.2)), (by (with_reducible repeat (first | apply Kd.R_alloc | apply Kd.R_drewN | apply Kd.R_drew)); exact HO179.out), (by (with_reducible repeat (first | apply Kd.R_alloc | apply Kd.R_drewN | apply Kd.R_drew)); exact Kd.R_mono HO191.out (fun _ hk => hk.2)), (by repeat (first | (with_reducible first | exact HB.out | apply below_alloc | apply pw_below_drewN | apply below_drew1) | exact HB.out))⟩)
                          rintro v190 w44 ⟨h0_, h1_, h2_, h3_⟩
                          have n0_ : Aside0 (Kd.R (Kd.int .u8) 5 w44 w.heap.size (fun k_ => some k_ ≠ (v190 : Value).ownBlock) v173 y172) := ⟨h0_⟩
                          have n1_ : Aside0 (Kd.R k43 43 w44 w.heap.size (fun _ => True) (.slice Ao38 t175.length co38) t175) := ⟨h1_⟩
                          have n2_ : Aside0 (Kd.R (Kd.int .u8) 5 w44 w.heap.size (fun k_ => some k_ ≠ (v173 : Value).ownBlock) v190 y189) := ⟨h2_⟩
                          have n3_ : Aside0 (Below w.heap.size w w44) := ⟨h3_⟩
                          clear HO174
                          clear HO179
                          clear HB
                          clear h0_ h1_ h2_ h3_
                          have HO174 := n0_
                          have HO179 := n1_
                          have HO191 := n2_
                          have HB := n3_
                          clear n0_ n1_ n2_ n3_
                          have hHeld := trivial
                          refine norm_ (a' := ?_) ?_ ?_
                          rotate_left
                          · simp only [putAll, Act.put, List.setIfInBounds_toArray, List.set_cons_zero, List.set_cons_succ]
                            rfl
                          refine pure_ (i := 12) (N := some 83) (v := ?_) (a' := ?_) #[true, true, true, true, true, true, true, true, true, true, true, true, true, false] rfl rfl (any_of HT_.out (by kernel_rfl)) (fun _ _ _ h => h) (Or.inl ⟨by rfl, ?_⟩) ?_ ?_
                          rotate_left
                          · intro w'
                            go_simp
                            with_reducible rfl
                          rotate_left
                          · simp only [Act.put, List.setIfInBounds_toArray, List.set_cons_zero, List.set_cons_succ, i64_w, i32_w]
                            rfl
                          refine pure_ (i := 13) (N := some 84) (v := ?_) (a' := ?_) #[true, true, true, true, true, true, true, true, true, true, true, true, true, true] rfl rfl (any_of HT_.out (by kernel_rfl)) (fun _ _ _ h => h) (Or.inl ⟨by rfl, ?_⟩) ?_ ?_
                          rotate_left
                          · intro w'
                            go_simp
                            with_reducible rfl
                          rotate_left
                          · simp only [Act.put, List.setIfInBounds_toArray, List.set_cons_zero, List.set_cons_succ, i64_w, i32_w]
                            rfl
                          refine done_ (done_of HT_.out (by kernel_rfl)) ?_
                          try go_wp2
                          go_loopg [11] kj16 (fun kq v11 w' => ∃ (x11_3 : Int), v11 = .int .i64 x11_3 ∧ Aside0 (emenderlaw28_CommonEscapes.l1 kq t175 x11_3 = some r) ∧ Aside0 (kq ≤ kj16) ∧ Aside0 (Kd.R k43 43 w' w.heap.size (fun _ => True) (.slice Ao38 t175.length co38) t175) ∧ Aside0 (Below w.heap.size w w'))
                          case atStart => exact ⟨(0), (by first | rfl | (simp; done) | (simp [*]; done)), H', ⟨Nat.le_refl _⟩, ⟨by (with_reducible repeat (first | apply Kd.R_alloc | apply Kd.R_drewN | apply Kd.R_drew)); exact HO179.out⟩, ⟨by repeat (first | (with_reducible first | exact HB.out | apply below_alloc | apply pw_below_drewN | apply below_drew1) | exact HB.out)⟩⟩
                          case round =>
                            clear H'
                            try clear c1
                            try clear p1
                            try clear q1
                            try clear hx1
                            try clear c2
                            try clear p2
                            try clear hcv2
                            try clear c3
                            try clear hcv3
                            try clear c4
                            try clear c4b0
                            try clear hcv4
                            try clear c5
                            try clear c5b0
                            try clear c6
                            try clear c6b0
                            try clear p6
                            try clear c7
                            try clear c7b0
                            try clear c8
                            try clear c8b0
                            try clear c9
                            try clear c9b0
                            try clear c10
                            try clear c10b0
                            try clear c11
                            try clear c11b0
                            try clear c12
                            try clear c12b0
                            try clear c13
                            try clear c13b0
                            try clear c14
                            try clear c15
                            try clear p16
                            try clear q16
                            try clear hx16
                            try clear c18
                            try clear c18b0
                            try clear c19
                            try clear c19b0
                            try clear c20
                            try clear c20b0
                            try clear c21
                            try clear c21b0
                            try clear c21b1
                            try clear c21b2
                            try clear hcv24
                            try clear c25
                            try clear c25b0
                            try clear c25b1
                            try clear c25b2
                            try clear c26
                            try clear c26b0
                            try clear c26b1
                            try clear c26b2
                            try clear c27
                            try clear c27b0
                            try clear c27b1
                            try clear c27b2
                            try clear c29
                            try clear c29b0
                            try clear c29b1
                            try clear c31
                            try clear c31b0
                            try clear c31b1
                            try clear c31b2
                            try clear c32
                            try clear c32b0
                            try clear c32b1
                            try clear c32b2
                            try clear c33
                            try clear c33b0
                            try clear c33b1
                            try clear hcv36
                            try clear hcv42
                            try clear hcv43
                            try clear hx168_0
                            try clear p1
                            try clear p16
                            try clear p168
                            try clear p2
                            try clear p6
                            try clear q1
                            try clear q16
                            try clear q168
                            obtain ⟨x11_3, rfl, HA, HK3, HO_8, HB⟩ := hrel
                            cases gk with
                            | zero => exact absurd HA.out (by simp [emenderlaw28_CommonEscapes.l1])
                            | succ k3 =>
                              have H := HA.out
                              clear HA
                              simp only [emenderlaw28_CommonEscapes.l1] at H
                              by_cases c45 : x11_3 < (t175.length : Int)
                              · rw [if_pos c45] at H
                                have c45b0 : decide (x11_3 < (t175.length : Int)) = true := decide_eq_true c45
                                clear c45
                                by_cases c46 : 0 ≤ x11_3
                                · rw [if_pos c46] at H
                                  have c46b0 : decide (0 ≤ x11_3) = true := decide_eq_true c46
                                  clear c46
                                  by_cases c47 : ((rd_T43 t175 x11_3).f3) = 0
                                  · rw [if_pos c47] at H
                                    have c47b0 : (((rd_T43 t175 x11_3).f3) == 0) = true := beq_iff_eq.mpr c47
                                    have c47b1 : (((rd_T43 t175 x11_3).f3) != 0) = false := bne_eq_false_iff_eq.mpr c47
                                    clear c47
                                    have H' := Aside0.mk H
                                    clear H
                                    have p192 : 0 ≤ (x11_3 : Int) := of_decide_eq_true (by first | (with_reducible assumption) | assumption)
                                    have q192 : x11_3 < (t175.length : Int) := of_decide_eq_true (by first | (with_reducible assumption) | assumption)
                                    obtain ⟨ad192, e192, hx192_0, hx192_1, hx192_2, hx192_3⟩ := at_T43 (Kd.R_reads' HO_8.out).2.2 x11_3 p192 q192
                                    cases e192
                                    replace p192 := eq_true p192
                                    replace q192 := eq_true q192
                                    go_wp2
                                    go_roundg k3
                                    case measure => have := HJ2.out; have := HJ16.out; have := HK3.out; omega
                                    case rel => exact ⟨(wrap64 (x11_3 + 1)), (by first | rfl | (simp; done) | (simp [*]; done)), H', ⟨by have := HJ2.out; have := HJ16.out; have := HK3.out; omega⟩, ⟨by (with_reducible repeat (first | apply Kd.R_alloc | apply Kd.R_drewN | apply Kd.R_drew)); exact HO_8.out⟩, ⟨by repeat (first | (with_reducible first | exact HB.out | apply below_alloc | apply pw_below_drewN | apply below_drew1) | exact HB.out)⟩⟩
                                  · rw [if_neg c47] at H
                                    exact absurd H (by simp)
                                · rw [if_neg c46] at H
                                  exact absurd H (by simp)
                              · rw [if_neg c45] at H
                                have c45b0 : decide (x11_3 < (t175.length : Int)) = false := decide_eq_false c45
                                clear c45
                                replace H := Option.bind_eq_some_iff.mp H
                                obtain ⟨t193, A480, H⟩ := H
                                replace H : (some t193) = some r := H
                                have A48 := Aside0.mk A480
                                clear A480
                                obtain rfl := Option.some.inj H
                                go_wp2_with (first | ((with_reducible refine gate_callee (f := 9) rfl ?_); refine goesL_ (some 97) rfl rfl Tryd.func9 (by kernel_rfl) rfl #[] rfl (by (try simp only [List.map_toArray, List.map_cons, List.map_nil]); first | done | rfl | (simp only [List.length_drop, List.length_take]; rfl)) ?_; (with_reducible refine (emenderlaw28_awake.calls  t193 _ A48.out).mono ?_); rintro e w49 ⟨rfl, hb⟩; refine ⟨_, rfl, ?_⟩; have n0_ := Aside0.mk (Kd.R_below (by (with_reducible repeat (first | apply Kd.R_alloc | apply Kd.R_drewN | apply Kd.R_drew)); exact HO_8.out) hb); have n1_ := Aside0.mk (below_step (by repeat (first | (with_reducible first | exact HB.out | apply below_alloc | apply pw_below_drewN | apply below_drew1) | exact HB.out)) hb); clear HO_8; clear HB; have HO_8 := n0_; have HB := n1_; clear n0_ n1_; (try clear hb); (try clear hb2); (try clear hk); (try clear hi)))
                                go_ret
                                exact ⟨by first | rfl | (simp [errW_none, errW_some] <;> rfl) | (simp [*, errW_none, errW_some] <;> rfl), by repeat (first | (with_reducible first | exact HB.out | apply below_alloc | apply pw_below_drewN | apply below_drew1) | exact HB.out)⟩
                        · rw [if_neg c33] at H
                          exact absurd H (by simp)
                      · rw [if_neg c32] at H
                        exact absurd H (by simp)
                    · rw [if_neg c31] at H
                      exact absurd H (by simp)
                  · rw [if_neg c29] at H
                    have c29b0 : (t177 == 0) = false := beq_eq_false_iff_ne.mpr c29
                    have c29b1 : (t177 != 0) = true := bne_iff_ne.mpr c29
                    exact absurd H (by simp)
                · rw [if_neg c27] at H
                  exact absurd H (by simp)
              · rw [if_neg c26] at H
                exact absurd H (by simp)
            · rw [if_neg c25] at H
              exact absurd H (by simp)

/-- THE ONE PURE STATEMENT of emenderlaw28_CommonEscapes: yours. -/
def emenderlaw28_CommonEscapes.Pure : Prop := ∀ (a0 : Int) (l1 : List Int), (Lit.int .u8 a0).wf = true → l1.length ≤ maxLen → l1.length * 1 ≤ 140737488351232 → (∀ x ∈ l1, (Lit.int .u8 x).wf = true) → ∃ k, emenderlaw28_CommonEscapes.f k a0 l1 = some true
theorem emenderlaw28_CommonEscapes.walk (P : emenderlaw28_CommonEscapes.Pure) (a0 : Int) (a1 : Option Addr) (len1 cap1 : Nat) (z1 : List Int) (w : World) (HT_ : Aside0 (Lib.Utf8Tabs 0 1 w)) (w0 : (Lit.int .u8 a0).wf = true) (w1 : (a1 = none ∧ len1 = 0 ∧ cap1 = 0 ∧ z1 = []) ∨ ∃ x, a1 = some x ∧ len1 ≤ cap1 ∧ cap1 ≤ maxLen ∧ z1.length = cap1 ∧ (∀ i, i < z1.length → w.cell? (x.add i) = some (.int .u8 (z1.getD i 0))) ∧ ∀ n ∈ z1, (Lit.int .u8 n).wf = true) (y1 : len1 * 1 ≤ 140737488351232) :
    Calls Tryd.prog 8 #[.int .u8 a0, .slice a1 len1 cap1] w fun e w' => e = .returned (.bool true) ∧ Below w.heap.size w w' := by
  obtain ⟨l1, rfl, hr1, hm1, hw1, hc1⟩ := ReadsInt.ofRowC w1
  obtain ⟨k, h⟩ := P a0 l1 w0 hm1 y1 hw1
  refine (emenderlaw28_CommonEscapes.calls k a0 _ _ l1 true w HT_ (Kd.C_of_reads (d := (0 : Int)) (h1 := fun _ => rfl) hr1) hc1 h).mono ?_
  rintro e w' ⟨rfl, hd⟩
  exact ⟨rfl, hd⟩

end Go.Proofs.YtfnafjohfmlniaaDoor.PCb
