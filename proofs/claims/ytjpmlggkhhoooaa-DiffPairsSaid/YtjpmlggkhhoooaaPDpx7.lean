-- Written for this claim by a program (the kit's print, with hand-made contracts for what it does not take).
import Derived.Test.YtjpmlggkhhoooaaPDpx0
import Derived.Test.YtjpmlggkhhoooaaPDpx2
namespace Go.Proofs.Ytjpmlggkhhoooaa.PDp
open Go.RowKit Go.Proofs.YtjpmlggkhhoooaaW.PrintWords Go.Proofs.YtjpmlggkhhoooaaW.PrintLast Go.Proofs.YtjpmlggkhhoooaaW.PrintMore
attribute [local go_sem] max2_int min2_int max_two min_two max_three min_three max_four min_four   -- for this text's walks alone
set_option linter.unusedVariables false
set_option linter.unusedSimpArgs false

attribute [local go_sem high] eqA64
/-! ### emenderref23_Ends: function 10 -/
mutual
def emenderref23_Ends.j1 : Nat → List (S64) → List (S64) → Int → Option (Int × Int)
  | 0, _, _, _ => none
  | k + 1, x0, x1, x6 => emenderref23_Ends.l1 k x0 x1 x6 0
def emenderref23_Ends.l1 : Nat → List (S64) → List (S64) → Int → Int → Option (Int × Int)
  | 0, _, _, _, _ => none
  | k + 1, x0, x1, x6, x7 => if x7 < (wrap64 ((x0.length : Int) - x6)) then (if x7 < (wrap64 ((x1.length : Int) - x6)) then (if 0 ≤ (wrap64 ((wrap64 ((x0.length : Int) - 1)) - x7)) then (if (wrap64 ((wrap64 ((x0.length : Int) - 1)) - x7)) < (x0.length : Int) then (if 0 ≤ (wrap64 ((wrap64 ((x1.length : Int) - 1)) - x7)) then (if (wrap64 ((wrap64 ((x1.length : Int) - 1)) - x7)) < (x1.length : Int) then (if (((rd_T64 x0 (wrap64 ((wrap64 ((x0.length : Int) - 1)) - x7))).f0) == ((rd_T64 x1 (wrap64 ((wrap64 ((x1.length : Int) - 1)) - x7))).f0) && (((rd_T64 x0 (wrap64 ((wrap64 ((x0.length : Int) - 1)) - x7))).f1) == ((rd_T64 x1 (wrap64 ((wrap64 ((x1.length : Int) - 1)) - x7))).f1) && (((rd_T64 x0 (wrap64 ((wrap64 ((x0.length : Int) - 1)) - x7))).f2) == ((rd_T64 x1 (wrap64 ((wrap64 ((x1.length : Int) - 1)) - x7))).f2) && (((rd_T64 x0 (wrap64 ((wrap64 ((x0.length : Int) - 1)) - x7))).f3) == ((rd_T64 x1 (wrap64 ((wrap64 ((x1.length : Int) - 1)) - x7))).f3))))) = true then (emenderref23_Ends.l1 k x0 x1 x6 (wrap64 (x7 + 1))) else (some (x6, x7))) else (none)) else (none)) else (none)) else (none)) else (some (x6, x7))) else (some (x6, x7))
def emenderref23_Ends.l0 : Nat → List (S64) → List (S64) → Int → Option (Int × Int)
  | 0, _, _, _ => none
  | k + 1, x0, x1, x6 => if x6 < (x0.length : Int) then (if x6 < (x1.length : Int) then (if 0 ≤ x6 then (if (((rd_T64 x0 x6).f0) == ((rd_T64 x1 x6).f0) && (((rd_T64 x0 x6).f1) == ((rd_T64 x1 x6).f1) && (((rd_T64 x0 x6).f2) == ((rd_T64 x1 x6).f2) && (((rd_T64 x0 x6).f3) == ((rd_T64 x1 x6).f3))))) = true then (emenderref23_Ends.l0 k x0 x1 (wrap64 (x6 + 1))) else (emenderref23_Ends.j1 k x0 x1 x6)) else (none)) else (emenderref23_Ends.j1 k x0 x1 x6)) else (emenderref23_Ends.j1 k x0 x1 x6)
end
def emenderref23_Ends.f (k : Nat) (l0 : List (S64)) (l1 : List (S64)) : Option (Int × Int) := emenderref23_Ends.l0 k l0 l1 0
theorem emenderref23_Ends.mono_l : ∀ k, (∀ y0 y1 y2, LeO (emenderref23_Ends.j1 k y0 y1 y2) (emenderref23_Ends.j1 (k + 1) y0 y1 y2)) ∧ (∀ y0 y1 y2 y3, LeO (emenderref23_Ends.l1 k y0 y1 y2 y3) (emenderref23_Ends.l1 (k + 1) y0 y1 y2 y3)) ∧ (∀ y0 y1 y2, LeO (emenderref23_Ends.l0 k y0 y1 y2) (emenderref23_Ends.l0 (k + 1) y0 y1 y2))
  | 0 => ⟨fun _ _ _ r h => by simp [emenderref23_Ends.j1] at h, fun _ _ _ _ r h => by simp [emenderref23_Ends.l1] at h, fun _ _ _ r h => by simp [emenderref23_Ends.l0] at h⟩
  | k + 1 => by
    obtain ⟨ih0, ih1, ih2⟩ := emenderref23_Ends.mono_l k
    refine ⟨?_, ?_, ?_⟩
    · intro y0 y1 y2
      unfold emenderref23_Ends.j1
      repeat' first
      | (with_reducible exact ih0 _ _ _)
      | (with_reducible exact ih1 _ _ _ _)
      | (with_reducible exact ih2 _ _ _)
      | (with_reducible exact LeO.refl _)
      | (with_reducible exact LeO.none _)
      | (with_reducible refine LeO.ite ?_ ?_)
      | (with_reducible refine LeO.bind ?_ (fun _ => ?_))
      | exact ih0 _ _ _
      | exact ih1 _ _ _ _
      | exact ih2 _ _ _
      | exact LeO.none _
      | refine LeO.ite ?_ ?_
      | refine LeO.bind ?_ (fun _ => ?_)
    · intro y0 y1 y2 y3
      unfold emenderref23_Ends.l1
      repeat' first
      | (with_reducible exact ih0 _ _ _)
      | (with_reducible exact ih1 _ _ _ _)
      | (with_reducible exact ih2 _ _ _)
      | (with_reducible exact LeO.refl _)
      | (with_reducible exact LeO.none _)
      | (with_reducible refine LeO.ite ?_ ?_)
      | (with_reducible refine LeO.bind ?_ (fun _ => ?_))
      | exact ih0 _ _ _
      | exact ih1 _ _ _ _
      | exact ih2 _ _ _
      | exact LeO.none _
      | refine LeO.ite ?_ ?_
      | refine LeO.bind ?_ (fun _ => ?_)
    · intro y0 y1 y2
      unfold emenderref23_Ends.l0
      repeat' first
      | (with_reducible exact ih0 _ _ _)
      | (with_reducible exact ih1 _ _ _ _)
      | (with_reducible exact ih2 _ _ _)
      | (with_reducible exact LeO.refl _)
      | (with_reducible exact LeO.none _)
      | (with_reducible refine LeO.ite ?_ ?_)
      | (with_reducible refine LeO.bind ?_ (fun _ => ?_))
      | exact ih0 _ _ _
      | exact ih1 _ _ _ _
      | exact ih2 _ _ _
      | exact LeO.none _
      | refine LeO.ite ?_ ?_
      | refine LeO.bind ?_ (fun _ => ?_)
theorem emenderref23_Ends.mono : ∀ a0 a1 k, LeO (emenderref23_Ends.f k a0 a1) (emenderref23_Ends.f (k + 1) a0 a1) := by
  intro a0 a1 k
  obtain ⟨ih0, ih1, ih2⟩ := emenderref23_Ends.mono_l k
  unfold emenderref23_Ends.f
  repeat' first
      | (with_reducible exact ih0 _ _ _)
      | (with_reducible exact ih1 _ _ _ _)
      | (with_reducible exact ih2 _ _ _)
      | (with_reducible exact LeO.refl _)
      | (with_reducible exact LeO.none _)
      | (with_reducible refine LeO.ite ?_ ?_)
      | (with_reducible refine LeO.bind ?_ (fun _ => ?_))
      | exact ih0 _ _ _
      | exact ih1 _ _ _ _
      | exact ih2 _ _ _
      | exact LeO.none _
      | refine LeO.ite ?_ ?_
      | refine LeO.bind ?_ (fun _ => ?_)
set_option maxHeartbeats 8000000 in
set_option maxRecDepth 100000 in
theorem emenderref23_Ends.calls (k : Nat) (A0 : Option Addr) (c0 : Nat) (l0 : List (S64)) (A1 : Option Addr) (c1 : Nat) (l1 : List (S64)) (r1 : Int) (r2 : Int) (w : World) (hr0 : Kd.C k64 w A0 l0.length l0) (hc0 : l0.length ≤ c0) (hr1 : Kd.C k64 w A1 l1.length l1) (hc1 : l1.length ≤ c1) (h : emenderref23_Ends.f k l0 l1 = some (r1, r2)) :
    Calls Try.prog 10 #[.slice A0 l0.length c0, .slice A1 l1.length c1] w fun e w' => e = .returned (.tuple #[.int .i64 r1, .int .i64 r2]) ∧ Drawn0 w w' := by
  have hu64 := Try.underlying64
  have HR0 := Aside0.mk hr0
  have HC0 := Aside0.mk hc0
  clear hr0 hc0
  have HR1 := Aside0.mk hr1
  have HC1 := Aside0.mk hc1
  clear hr1 hc1
  have H : (emenderref23_Ends.l0 k l0 l1 0) = some (r1, r2) := h
  clear h
  have HC3 := Aside0.mk H
  clear H
  go_enter Try.func10, Try.ntmps10
  go_upto_block 0 with (fail)
  repeat (go_quiet (fail); go_upto_block 0 with (fail))
  go_cut [6] (fun v6 wc => ∃ (kq : Nat) (x6_2 : Int), v6 = .int .i64 x6_2 ∧ Aside0 (emenderref23_Ends.j1 kq l0 l1 x6_2 = some (r1, r2)) ∧ Aside0 (kq ≤ k) ∧ Drawn0 w wc)
  case first =>
    have H := HC3.out
    clear HC3
    have H' := Aside0.mk H
    clear H
    go_wp2
    repeat (go_quiet (fail); try go_wp2)
    go_loopg [6] k (fun kq v6 w' => ∃ (x6_1 : Int), v6 = .int .i64 x6_1 ∧ Aside0 (emenderref23_Ends.l0 kq l0 l1 x6_1 = some (r1, r2)) ∧ Aside0 (kq ≤ k) ∧ Drawn0 w w')
    case atStart => exact ⟨(0), (by first | rfl | (simp; done) | (simp [*]; done)), H', ⟨Nat.le_refl _⟩, by repeat (first | exact Drawn0.refl _ | apply Drawn0.step)⟩
    case round =>
      clear H'
      try clear c1
      try clear p2
      obtain ⟨x6_1, rfl, HA, HK1, ⟨m1, rfl⟩⟩ := hrel
      cases gk with
      | zero => exact absurd HA.out (by simp [emenderref23_Ends.l0])
      | succ k1 =>
        have H := HA.out
        clear HA
        simp only [emenderref23_Ends.l0] at H
        by_cases c4 : x6_1 < (l0.length : Int)
        · rw [if_pos c4] at H
          have c4b0 : decide (x6_1 < (l0.length : Int)) = true := decide_eq_true c4
          clear c4
          (first | rw [c4b0] | (simp only [i64_w, i32_w]; rw [c4b0]) | skip)
          by_cases c5 : x6_1 < (l1.length : Int)
          · rw [if_pos c5] at H
            have c5b0 : decide (x6_1 < (l1.length : Int)) = true := decide_eq_true c5
            clear c5
            by_cases c6 : 0 ≤ x6_1
            · rw [if_pos c6] at H
              have c6b0 : decide (0 ≤ x6_1) = true := decide_eq_true c6
              clear c6
              by_cases c7 : (((rd_T64 l0 x6_1).f0) == ((rd_T64 l1 x6_1).f0) && (((rd_T64 l0 x6_1).f1) == ((rd_T64 l1 x6_1).f1) && (((rd_T64 l0 x6_1).f2) == ((rd_T64 l1 x6_1).f2) && (((rd_T64 l0 x6_1).f3) == ((rd_T64 l1 x6_1).f3))))) = true
              · rw [if_pos c7] at H
                have c7b0 : (((rd_T64 l0 x6_1).f0) == ((rd_T64 l1 x6_1).f0) && (((rd_T64 l0 x6_1).f1) == ((rd_T64 l1 x6_1).f1) && (((rd_T64 l0 x6_1).f2) == ((rd_T64 l1 x6_1).f2) && (((rd_T64 l0 x6_1).f3) == ((rd_T64 l1 x6_1).f3))))) = true := c7
                (try (have c7b1 : decide (((rd_T64 l0 x6_1).f0) = ((rd_T64 l1 x6_1).f0) && (((rd_T64 l0 x6_1).f1) == ((rd_T64 l1 x6_1).f1) && (((rd_T64 l0 x6_1).f2) == ((rd_T64 l1 x6_1).f2) && (((rd_T64 l0 x6_1).f3) == ((rd_T64 l1 x6_1).f3))))) = true := by simpa using c7))
                (try (have c7b2 : (((rd_T64 l0 x6_1).f0) == ((rd_T64 l1 x6_1).f0) && (((rd_T64 l0 x6_1).f1) == ((rd_T64 l1 x6_1).f1) && (((rd_T64 l0 x6_1).f2) == ((rd_T64 l1 x6_1).f2) && (((rd_T64 l0 x6_1).f3) == ((rd_T64 l1 x6_1).f3))))) = true := by simpa using c7))
                clear c7
                have H' := Aside0.mk H
                clear H
                have p139 : 0 ≤ (x6_1 : Int) := of_decide_eq_true (by first | (with_reducible assumption) | assumption)
                have q139 : x6_1 < (l0.length : Int) := of_decide_eq_true (by first | (with_reducible assumption) | assumption)
                obtain ⟨ad139, e139, hx139_0, hx139_1, hx139_2, hx139_3⟩ := at_T64 HR0.out x6_1 p139 q139
                cases e139
                replace p139 := eq_true p139
                replace q139 := eq_true q139
                have p140 : 0 ≤ (x6_1 : Int) := of_decide_eq_true (by first | (with_reducible assumption) | assumption)
                have q140 : x6_1 < (l1.length : Int) := of_decide_eq_true (by first | (with_reducible assumption) | assumption)
                obtain ⟨ad140, e140, hx140_0, hx140_1, hx140_2, hx140_3⟩ := at_T64 HR1.out x6_1 p140 q140
                cases e140
                replace p140 := eq_true p140
                replace q140 := eq_true q140
                go_wp2
                repeat (go_quiet (fail); try go_wp2)
                go_roundg k1
                case measure => have := HK1.out; omega
                case rel => exact ⟨(wrap64 (x6_1 + 1)), (by first | rfl | (simp; done) | (simp [*]; done)), H', ⟨by have := HK1.out; omega⟩, by repeat (first | exact Drawn0.refl _ | apply Drawn0.step)⟩
              · rw [if_neg c7] at H
                have c7b0 : (((rd_T64 l0 x6_1).f0) == ((rd_T64 l1 x6_1).f0) && (((rd_T64 l0 x6_1).f1) == ((rd_T64 l1 x6_1).f1) && (((rd_T64 l0 x6_1).f2) == ((rd_T64 l1 x6_1).f2) && (((rd_T64 l0 x6_1).f3) == ((rd_T64 l1 x6_1).f3))))) = false := by simpa using c7
                (try (have c7b1 : decide (((rd_T64 l0 x6_1).f0) = ((rd_T64 l1 x6_1).f0) && (((rd_T64 l0 x6_1).f1) == ((rd_T64 l1 x6_1).f1) && (((rd_T64 l0 x6_1).f2) == ((rd_T64 l1 x6_1).f2) && (((rd_T64 l0 x6_1).f3) == ((rd_T64 l1 x6_1).f3))))) = false := by simpa using c7))
                (try (have c7b2 : (((rd_T64 l0 x6_1).f0) == ((rd_T64 l1 x6_1).f0) && (((rd_T64 l0 x6_1).f1) == ((rd_T64 l1 x6_1).f1) && (((rd_T64 l0 x6_1).f2) == ((rd_T64 l1 x6_1).f2) && (((rd_T64 l0 x6_1).f3) == ((rd_T64 l1 x6_1).f3))))) = false := by simpa using c7))
                (try (have c7b3 : ¬ (((rd_T64 l0 x6_1).f0) = ((rd_T64 l1 x6_1).f0) && (((rd_T64 l0 x6_1).f1) == ((rd_T64 l1 x6_1).f1) && (((rd_T64 l0 x6_1).f2) == ((rd_T64 l1 x6_1).f2) && (((rd_T64 l0 x6_1).f3) == ((rd_T64 l1 x6_1).f3))))) := by simpa using c7))
                clear c7
                have H' := Aside0.mk H
                clear H
                have p139 : 0 ≤ (x6_1 : Int) := of_decide_eq_true (by first | (with_reducible assumption) | assumption)
                have q139 : x6_1 < (l0.length : Int) := of_decide_eq_true (by first | (with_reducible assumption) | assumption)
                obtain ⟨ad139, e139, hx139_0, hx139_1, hx139_2, hx139_3⟩ := at_T64 HR0.out x6_1 p139 q139
                cases e139
                replace p139 := eq_true p139
                replace q139 := eq_true q139
                have p140 : 0 ≤ (x6_1 : Int) := of_decide_eq_true (by first | (with_reducible assumption) | assumption)
                have q140 : x6_1 < (l1.length : Int) := of_decide_eq_true (by first | (with_reducible assumption) | assumption)
                obtain ⟨ad140, e140, hx140_0, hx140_1, hx140_2, hx140_3⟩ := at_T64 HR1.out x6_1 p140 q140
                cases e140
                replace p140 := eq_true p140
                replace q140 := eq_true q140
                go_wp2
                repeat (go_quiet (fail); try go_wp2)
                go_meet
                case rel => exact ⟨_, (x6_1), (by first | rfl | (simp; done) | (simp [*]; done)), H', ⟨by have := HK1.out; first | omega | exact Nat.le_refl _⟩, by repeat (first | exact Drawn0.refl _ | apply Drawn0.step)⟩
            · rw [if_neg c6] at H
              exact absurd H (by simp)
          · rw [if_neg c5] at H
            have c5b0 : decide (x6_1 < (l1.length : Int)) = false := decide_eq_false c5
            clear c5
            have H' := Aside0.mk H
            clear H
            go_wp2
            repeat (go_quiet (fail); try go_wp2)
            go_meet
            case rel => exact ⟨_, (x6_1), (by first | rfl | (simp; done) | (simp [*]; done)), H', ⟨by have := HK1.out; first | omega | exact Nat.le_refl _⟩, by repeat (first | exact Drawn0.refl _ | apply Drawn0.step)⟩
        · rw [if_neg c4] at H
          have c4b0 : decide (x6_1 < (l0.length : Int)) = false := decide_eq_false c4
          clear c4
          (first | rw [c4b0] | (simp only [i64_w, i32_w]; rw [c4b0]) | skip)
          have H' := Aside0.mk H
          clear H
          go_wp2
          repeat (go_quiet (fail); try go_wp2)
          go_meet
          case rel => exact ⟨_, (x6_1), (by first | rfl | (simp; done) | (simp [*]; done)), H', ⟨by have := HK1.out; first | omega | exact Nat.le_refl _⟩, by repeat (first | exact Drawn0.refl _ | apply Drawn0.step)⟩
  case rest =>
    clear HC3
    try clear c1
    try clear p1
    try clear q1
    try clear hx1
    try clear p2
    try clear c4
    try clear c4b0
    try clear c5
    try clear c5b0
    try clear c6
    try clear c6b0
    try clear p6
    try clear c7
    try clear c7b0
    try clear c7b1
    try clear c7b2
    try clear hx139_0
    try clear hx139_1
    try clear hx139_2
    try clear hx139_3
    try clear hx140_0
    try clear hx140_1
    try clear hx140_2
    try clear hx140_3
    try clear p139
    try clear p140
    try clear p2
    try clear q139
    try clear q140
    obtain ⟨kq, x6_2, rfl, HA, HJ2, ⟨mc2, rfl⟩⟩ := hcut
    cases kq with
    | zero => exact absurd HA.out (by simp [emenderref23_Ends.j1])
    | succ kj2 =>
      have H := HA.out
      clear HA
      simp only [emenderref23_Ends.j1] at H
      have H' := Aside0.mk H
      clear H
      go_wp2
      repeat (go_quiet (fail); try go_wp2)
      go_loopg [7] kj2 (fun kq v7 w' => ∃ (x7_2 : Int), v7 = .int .i64 x7_2 ∧ Aside0 (emenderref23_Ends.l1 kq l0 l1 x6_2 x7_2 = some (r1, r2)) ∧ Aside0 (kq ≤ kj2) ∧ Drawn0 w w')
      case atStart => exact ⟨(0), (by first | rfl | (simp; done) | (simp [*]; done)), H', ⟨Nat.le_refl _⟩, by repeat (first | exact Drawn0.refl _ | apply Drawn0.step)⟩
      case round =>
        clear H'
        try clear c1
        try clear p1
        try clear q1
        try clear hx1
        try clear c2
        try clear p2
        try clear c4
        try clear c4b0
        try clear c5
        try clear c5b0
        try clear c6
        try clear c6b0
        try clear p6
        try clear c7
        try clear c7b0
        try clear c7b1
        try clear c7b2
        try clear hx139_0
        try clear hx139_1
        try clear hx139_2
        try clear hx139_3
        try clear hx140_0
        try clear hx140_1
        try clear hx140_2
        try clear hx140_3
        try clear p1
        try clear p139
        try clear p140
        try clear p2
        try clear p6
        try clear q1
        try clear q139
        try clear q140
        obtain ⟨x7_2, rfl, HA, HK2, ⟨m2, rfl⟩⟩ := hrel
        cases gk with
        | zero => exact absurd HA.out (by simp [emenderref23_Ends.l1])
        | succ k2 =>
          have H := HA.out
          clear HA
          simp only [emenderref23_Ends.l1] at H
          by_cases c8 : x7_2 < (wrap64 ((l0.length : Int) - x6_2))
          · rw [if_pos c8] at H
            have c8b0 : decide (x7_2 < (wrap64 ((l0.length : Int) - x6_2))) = true := decide_eq_true c8
            clear c8
            by_cases c9 : x7_2 < (wrap64 ((l1.length : Int) - x6_2))
            · rw [if_pos c9] at H
              have c9b0 : decide (x7_2 < (wrap64 ((l1.length : Int) - x6_2))) = true := decide_eq_true c9
              clear c9
              obtain ⟨ji10, hji10⟩ : ∃ j_ : Int, (wrap64 ((wrap64 ((l0.length : Int) - 1)) - x7_2)) = j_ := ⟨_, rfl⟩
              replace H : (if 0 ≤ (ji10) then (if (ji10) < (l0.length : Int) then (if 0 ≤ (wrap64 ((wrap64 ((l1.length : Int) - 1)) - x7_2)) then (if (wrap64 ((wrap64 ((l1.length : Int) - 1)) - x7_2)) < (l1.length : Int) then (if (((rd_T64 l0 (ji10)).f0) == ((rd_T64 l1 (wrap64 ((wrap64 ((l1.length : Int) - 1)) - x7_2))).f0) && (((rd_T64 l0 (ji10)).f1) == ((rd_T64 l1 (wrap64 ((wrap64 ((l1.length : Int) - 1)) - x7_2))).f1) && (((rd_T64 l0 (ji10)).f2) == ((rd_T64 l1 (wrap64 ((wrap64 ((l1.length : Int) - 1)) - x7_2))).f2) && (((rd_T64 l0 (ji10)).f3) == ((rd_T64 l1 (wrap64 ((wrap64 ((l1.length : Int) - 1)) - x7_2))).f3))))) = true then (emenderref23_Ends.l1 k2 l0 l1 x6_2 (wrap64 (x7_2 + 1))) else (some (x6_2, x7_2))) else (none)) else (none)) else (none)) else (none)) = some (r1, r2) := by first | (rw [hji10] at H; exact H) | (simp only [hji10] at H ⊢; exact H)
              have hji10w : (IntKind.i64.wrap ((wrap64 ((l0.length : Int) - 1)) - x7_2)) = ji10 := (i64_w _).trans hji10
              by_cases c11 : 0 ≤ (ji10)
              · rw [if_pos c11] at H
                have c11b0 : decide (0 ≤ (ji10)) = true := decide_eq_true c11
                clear c11
                by_cases c12 : (ji10) < (l0.length : Int)
                · rw [if_pos c12] at H
                  have c12b0 : decide ((ji10) < (l0.length : Int)) = true := decide_eq_true c12
                  clear c12
                  obtain ⟨ji13, hji13⟩ : ∃ j_ : Int, (wrap64 ((wrap64 ((l1.length : Int) - 1)) - x7_2)) = j_ := ⟨_, rfl⟩
                  replace H : (if 0 ≤ (ji13) then (if (ji13) < (l1.length : Int) then (if (((rd_T64 l0 (ji10)).f0) == ((rd_T64 l1 (ji13)).f0) && (((rd_T64 l0 (ji10)).f1) == ((rd_T64 l1 (ji13)).f1) && (((rd_T64 l0 (ji10)).f2) == ((rd_T64 l1 (ji13)).f2) && (((rd_T64 l0 (ji10)).f3) == ((rd_T64 l1 (ji13)).f3))))) = true then (emenderref23_Ends.l1 k2 l0 l1 x6_2 (wrap64 (x7_2 + 1))) else (some (x6_2, x7_2))) else (none)) else (none)) = some (r1, r2) := by first | (rw [hji13] at H; exact H) | (simp only [hji13] at H ⊢; exact H)
                  have hji13w : (IntKind.i64.wrap ((wrap64 ((l1.length : Int) - 1)) - x7_2)) = ji13 := (i64_w _).trans hji13
                  by_cases c14 : 0 ≤ (ji13)
                  · rw [if_pos c14] at H
                    have c14b0 : decide (0 ≤ (ji13)) = true := decide_eq_true c14
                    clear c14
                    by_cases c15 : (ji13) < (l1.length : Int)
                    · rw [if_pos c15] at H
                      have c15b0 : decide ((ji13) < (l1.length : Int)) = true := decide_eq_true c15
                      clear c15
                      by_cases c16 : (((rd_T64 l0 (ji10)).f0) == ((rd_T64 l1 (ji13)).f0) && (((rd_T64 l0 (ji10)).f1) == ((rd_T64 l1 (ji13)).f1) && (((rd_T64 l0 (ji10)).f2) == ((rd_T64 l1 (ji13)).f2) && (((rd_T64 l0 (ji10)).f3) == ((rd_T64 l1 (ji13)).f3))))) = true
                      · rw [if_pos c16] at H
                        have c16b0 : (((rd_T64 l0 (ji10)).f0) == ((rd_T64 l1 (ji13)).f0) && (((rd_T64 l0 (ji10)).f1) == ((rd_T64 l1 (ji13)).f1) && (((rd_T64 l0 (ji10)).f2) == ((rd_T64 l1 (ji13)).f2) && (((rd_T64 l0 (ji10)).f3) == ((rd_T64 l1 (ji13)).f3))))) = true := c16
                        (try (have c16b1 : decide (((rd_T64 l0 (ji10)).f0) = ((rd_T64 l1 (ji13)).f0) && (((rd_T64 l0 (ji10)).f1) == ((rd_T64 l1 (ji13)).f1) && (((rd_T64 l0 (ji10)).f2) == ((rd_T64 l1 (ji13)).f2) && (((rd_T64 l0 (ji10)).f3) == ((rd_T64 l1 (ji13)).f3))))) = true := by simpa using c16))
                        (try (have c16b2 : (((rd_T64 l0 (ji10)).f0) == ((rd_T64 l1 (ji13)).f0) && (((rd_T64 l0 (ji10)).f1) == ((rd_T64 l1 (ji13)).f1) && (((rd_T64 l0 (ji10)).f2) == ((rd_T64 l1 (ji13)).f2) && (((rd_T64 l0 (ji10)).f3) == ((rd_T64 l1 (ji13)).f3))))) = true := by simpa using c16))
                        clear c16
                        have H' := Aside0.mk H
                        clear H
                        have p141 : 0 ≤ ((ji10) : Int) := of_decide_eq_true (by first | (with_reducible assumption) | assumption)
                        have q141 : (ji10) < (l0.length : Int) := of_decide_eq_true (by first | (with_reducible assumption) | assumption)
                        obtain ⟨ad141, e141, hx141_0, hx141_1, hx141_2, hx141_3⟩ := at_T64 HR0.out (ji10) p141 q141
                        cases e141
                        replace p141 := eq_true p141
                        replace q141 := eq_true q141
                        have p142 : 0 ≤ ((ji13) : Int) := of_decide_eq_true (by first | (with_reducible assumption) | assumption)
                        have q142 : (ji13) < (l1.length : Int) := of_decide_eq_true (by first | (with_reducible assumption) | assumption)
                        obtain ⟨ad142, e142, hx142_0, hx142_1, hx142_2, hx142_3⟩ := at_T64 HR1.out (ji13) p142 q142
                        cases e142
                        replace p142 := eq_true p142
                        replace q142 := eq_true q142
                        go_wp2
                        repeat (go_quiet (fail); try go_wp2)
                        go_roundg k2
                        case measure => have := HJ2.out; have := HK2.out; omega
                        case rel => exact ⟨(wrap64 (x7_2 + 1)), (by first | rfl | (simp; done) | (simp [*]; done)), H', ⟨by have := HJ2.out; have := HK2.out; omega⟩, by repeat (first | exact Drawn0.refl _ | apply Drawn0.step)⟩
                      · rw [if_neg c16] at H
                        have c16b0 : (((rd_T64 l0 (ji10)).f0) == ((rd_T64 l1 (ji13)).f0) && (((rd_T64 l0 (ji10)).f1) == ((rd_T64 l1 (ji13)).f1) && (((rd_T64 l0 (ji10)).f2) == ((rd_T64 l1 (ji13)).f2) && (((rd_T64 l0 (ji10)).f3) == ((rd_T64 l1 (ji13)).f3))))) = false := by simpa using c16
                        (try (have c16b1 : decide (((rd_T64 l0 (ji10)).f0) = ((rd_T64 l1 (ji13)).f0) && (((rd_T64 l0 (ji10)).f1) == ((rd_T64 l1 (ji13)).f1) && (((rd_T64 l0 (ji10)).f2) == ((rd_T64 l1 (ji13)).f2) && (((rd_T64 l0 (ji10)).f3) == ((rd_T64 l1 (ji13)).f3))))) = false := by simpa using c16))
                        (try (have c16b2 : (((rd_T64 l0 (ji10)).f0) == ((rd_T64 l1 (ji13)).f0) && (((rd_T64 l0 (ji10)).f1) == ((rd_T64 l1 (ji13)).f1) && (((rd_T64 l0 (ji10)).f2) == ((rd_T64 l1 (ji13)).f2) && (((rd_T64 l0 (ji10)).f3) == ((rd_T64 l1 (ji13)).f3))))) = false := by simpa using c16))
                        (try (have c16b3 : ¬ (((rd_T64 l0 (ji10)).f0) = ((rd_T64 l1 (ji13)).f0) && (((rd_T64 l0 (ji10)).f1) == ((rd_T64 l1 (ji13)).f1) && (((rd_T64 l0 (ji10)).f2) == ((rd_T64 l1 (ji13)).f2) && (((rd_T64 l0 (ji10)).f3) == ((rd_T64 l1 (ji13)).f3))))) := by simpa using c16))
                        clear c16
                        simp only [Option.some.injEq, Prod.mk.injEq] at H
                        obtain ⟨rfl, rfl⟩ := H
                        have p141 : 0 ≤ ((ji10) : Int) := of_decide_eq_true (by first | (with_reducible assumption) | assumption)
                        have q141 : (ji10) < (l0.length : Int) := of_decide_eq_true (by first | (with_reducible assumption) | assumption)
                        obtain ⟨ad141, e141, hx141_0, hx141_1, hx141_2, hx141_3⟩ := at_T64 HR0.out (ji10) p141 q141
                        cases e141
                        replace p141 := eq_true p141
                        replace q141 := eq_true q141
                        have p142 : 0 ≤ ((ji13) : Int) := of_decide_eq_true (by first | (with_reducible assumption) | assumption)
                        have q142 : (ji13) < (l1.length : Int) := of_decide_eq_true (by first | (with_reducible assumption) | assumption)
                        obtain ⟨ad142, e142, hx142_0, hx142_1, hx142_2, hx142_3⟩ := at_T64 HR1.out (ji13) p142 q142
                        cases e142
                        replace p142 := eq_true p142
                        replace q142 := eq_true q142
                        go_wp2
                        repeat (go_quiet (fail); try go_wp2)
                        go_ret2
                        exact ⟨by first | rfl | (simp; done) | (simp only [← hji10, ← hji13] <;> (first | rfl | simp)) | (simp [*]; done), by repeat (first | exact Drawn0.refl _ | apply Drawn0.step)⟩
                    · rw [if_neg c15] at H
                      exact absurd H (by simp)
                  · rw [if_neg c14] at H
                    exact absurd H (by simp)
                · rw [if_neg c12] at H
                  exact absurd H (by simp)
              · rw [if_neg c11] at H
                exact absurd H (by simp)
            · rw [if_neg c9] at H
              have c9b0 : decide (x7_2 < (wrap64 ((l1.length : Int) - x6_2))) = false := decide_eq_false c9
              clear c9
              simp only [Option.some.injEq, Prod.mk.injEq] at H
              obtain ⟨rfl, rfl⟩ := H
              go_wp2
              repeat (go_quiet (fail); try go_wp2)
              go_ret2
              exact ⟨by first | rfl | (simp; done) | (simp [*]; done), by repeat (first | exact Drawn0.refl _ | apply Drawn0.step)⟩
          · rw [if_neg c8] at H
            have c8b0 : decide (x7_2 < (wrap64 ((l0.length : Int) - x6_2))) = false := decide_eq_false c8
            clear c8
            simp only [Option.some.injEq, Prod.mk.injEq] at H
            obtain ⟨rfl, rfl⟩ := H
            go_wp2
            repeat (go_quiet (fail); try go_wp2)
            go_ret2
            exact ⟨by first | rfl | (simp; done) | (simp [*]; done), by repeat (first | exact Drawn0.refl _ | apply Drawn0.step)⟩

end Go.Proofs.Ytjpmlggkhhoooaa.PDp
