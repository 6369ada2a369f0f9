-- Written for this claim by a program (printed texts under one roof).
import Derived.Test.YtfnafjohfmlniaaDoorPCsx0
import Derived.Test.YtfnafjohfmlniaaDoorPCsy0
import Derived.Test.YtfnafjohfmlniaaDoorPCsy3
import Derived.Test.YtfnafjohfmlniaaDoorPCsy1
import Derived.Test.YtfnafjohfmlniaaDoorPCsy2
-- Written for this claim by a program (the kit's print, with hand-made contracts for what it does not take).
namespace Go.Proofs.YtfnafjohfmlniaaDoor.PCs
open Go.RowKit Go.Proofs.YtfnafjohfmlniaaDoorW.PrintWords Go.Proofs.YtfnafjohfmlniaaDoorW.PrintLast Go.Proofs.YtfnafjohfmlniaaDoorW.PrintMore
attribute [local go_sem] max2_int min2_int max_two min_two max_three min_three max_four min_four   -- for this text's walks alone
set_option linter.unusedVariables false
set_option linter.unusedSimpArgs false

/-! ### mark_Right: function 25 -/
def mark_Right.f (a0 : Int) : Option (Bool) := if a0 ≥ 0 then (some (decide (a0 ≤ 4))) else (some false)
set_option maxHeartbeats 8000000 in
set_option maxRecDepth 100000 in
theorem mark_Right.calls (a0 : Int) (r : Bool) (w : World) (h : mark_Right.f a0 = some r) :
    Calls Tryd.prog 25 #[.int .i64 a0] w fun e w' => e = .returned (.bool r) ∧ Drawn0 w w' := by
  have H : (if a0 ≥ 0 then (some (decide (a0 ≤ 4))) else (some false)) = some r := h
  clear h
  by_cases c2 : a0 ≥ 0
  · rw [if_pos c2] at H
    have c2b0 : decide (0 ≤ a0) = true := decide_eq_true c2
    clear c2
    obtain rfl := Option.some.inj H
    go_enter Tryd.func25, Tryd.ntmps25
    go_wp2
    go_ret
    exact ⟨by first | rfl | (simp; done) | (simp [*]; done), by repeat (first | exact Drawn0.refl _ | apply Drawn0.step)⟩
  · rw [if_neg c2] at H
    have c2b0 : decide (0 ≤ a0) = false := decide_eq_false c2
    clear c2
    obtain rfl := Option.some.inj H
    go_enter Tryd.func25, Tryd.ntmps25
    go_wp2
    go_ret
    exact ⟨by first | rfl | (simp; done) | (simp [*]; done), by repeat (first | exact Drawn0.refl _ | apply Drawn0.step)⟩

/-! ### mark_place: function 62 -/
def mark_place.l0 : Nat → Int → Int → Option (Int)
  | 0, _, _ => none
  | k + 1, x0, x3 => if x3 < 3 then (if 0 ≤ x3 then (if x0 = (shl .i64 1 x3) then (some x3) else (mark_place.l0 k x0 (wrap64 (x3 + 1)))) else (none)) else (some 3)
def mark_place.f (k : Nat) (a0 : Int) : Option (Int) := mark_place.l0 k a0 0
theorem mark_place.mono_l : ∀ k, (∀ y0 y1, LeO (mark_place.l0 k y0 y1) (mark_place.l0 (k + 1) y0 y1))
  | 0 => fun _ _ r h => by simp [mark_place.l0] at h
  | k + 1 => by
    have ih0 := mark_place.mono_l k
    · intro y0 y1
      unfold mark_place.l0
      repeat' first
      | (with_reducible exact ih0 _ _)
      | (with_reducible exact LeO.refl _)
      | (with_reducible exact LeO.none _)
      | (with_reducible refine LeO.ite ?_ ?_)
      | (with_reducible refine LeO.bind ?_ (fun _ => ?_))
      | exact ih0 _ _
      | exact LeO.none _
      | refine LeO.ite ?_ ?_
      | refine LeO.bind ?_ (fun _ => ?_)
theorem mark_place.mono : ∀ a0 k, LeO (mark_place.f k a0) (mark_place.f (k + 1) a0) := by
  intro a0 k
  have ih0 := mark_place.mono_l k
  unfold mark_place.f
  repeat' first
      | (with_reducible exact ih0 _ _)
      | (with_reducible exact LeO.refl _)
      | (with_reducible exact LeO.none _)
      | (with_reducible refine LeO.ite ?_ ?_)
      | (with_reducible refine LeO.bind ?_ (fun _ => ?_))
      | exact ih0 _ _
      | exact LeO.none _
      | refine LeO.ite ?_ ?_
      | refine LeO.bind ?_ (fun _ => ?_)
set_option maxHeartbeats 8000000 in
set_option maxRecDepth 100000 in
theorem mark_place.calls (k : Nat) (a0 : Int) (r : Int) (w : World) (h : mark_place.f k a0 = some r) :
    Calls Tryd.prog 62 #[.int .i64 a0] w fun e w' => e = .returned (.int .i64 r) ∧ Drawn0 w w' := by
  have H : (mark_place.l0 k a0 0) = some r := h
  clear h
  have H' := Aside0.mk H
  clear H
  go_enter Tryd.func62, Tryd.ntmps62
  go_wp2
  go_loopg [3] k (fun kq v3 w' => ∃ (x3_1 : Int), v3 = .int .i64 x3_1 ∧ Aside0 (mark_place.l0 kq a0 x3_1 = some r) ∧ Aside0 (kq ≤ k) ∧ Drawn0 w w')
  case atStart => exact ⟨(0), (by first | rfl | (simp; done) | (simp [*]; done)), H', ⟨Nat.le_refl _⟩, by repeat (first | exact Drawn0.refl _ | apply Drawn0.step)⟩
  case round =>
    clear H'
    obtain ⟨x3_1, rfl, HA, HK1, ⟨m1, rfl⟩⟩ := hrel
    cases gk with
    | zero => exact absurd HA.out (by simp [mark_place.l0])
    | succ k1 =>
      have H := HA.out
      clear HA
      simp only [mark_place.l0] at H
      by_cases c2 : x3_1 < 3
      · rw [if_pos c2] at H
        have c2b0 : decide (x3_1 < 3) = true := decide_eq_true c2
        clear c2
        by_cases c3 : 0 ≤ x3_1
        · rw [if_pos c3] at H
          have c3b0 := eq_true c3
          have c3b1 : decide (0 ≤ x3_1) = true := decide_eq_true c3
          clear c3
          obtain ⟨ji4, hji4⟩ : ∃ j_ : Int, (shl .i64 1 x3_1) = j_ := ⟨_, rfl⟩
          replace H : (if a0 = (ji4) then (some x3_1) else (mark_place.l0 k1 a0 (wrap64 (x3_1 + 1)))) = some r := by first | (rw [hji4] at H; exact H) | (simp only [hji4] at H ⊢; exact H)
          have hji4_ : (IntKind.i64.wrap (1 * 2 ^ min x3_1.toNat 64)) = ji4 := hji4
          have hji4z : x3_1 ≤ 64 → (IntKind.i64.wrap (1 * 2 ^ x3_1.toNat)) = ji4 := shl_small hji4
          have hji4u : (IntKind.i64.wrap (2 ^ min x3_1.toNat 64)) = ji4 := by have h_ := hji4_; rw [Int.one_mul] at h_; exact h_
          have hji4v : x3_1 ≤ 64 → (IntKind.i64.wrap (2 ^ x3_1.toNat)) = ji4 := fun hle_ => by have h_ := hji4z hle_; rw [Int.one_mul] at h_; exact h_
          have hji4y : (wrap64 (1 * 2 ^ min x3_1.toNat 64)) = ji4 := (i64_w _).symm.trans hji4_
          have hji4x : x3_1 ≤ 64 → (wrap64 (1 * 2 ^ x3_1.toNat)) = ji4 := fun h_ => (i64_w _).symm.trans (hji4z h_)
          by_cases c5 : a0 = (ji4)
          · rw [if_pos c5] at H
            have c5b0 : (a0 == (ji4)) = true := beq_iff_eq.mpr c5
            have c5b1 : (a0 != (ji4)) = false := bne_eq_false_iff_eq.mpr c5
            clear c5
            obtain rfl := Option.some.inj H
            go_wp2
            go_ret
            exact ⟨by first | rfl | (simp; done) | (simp only [← hji4] <;> (first | rfl | simp)) | (simp [*]; done), by repeat (first | exact Drawn0.refl _ | apply Drawn0.step)⟩
          · rw [if_neg c5] at H
            have c5b0 : (a0 == (ji4)) = false := beq_eq_false_iff_ne.mpr c5
            have c5b1 : (a0 != (ji4)) = true := bne_iff_ne.mpr c5
            have H' := Aside0.mk H
            clear H
            go_wp2
            go_roundg k1
            case measure => have := HK1.out; omega
            case rel => exact ⟨(wrap64 (x3_1 + 1)), (by first | rfl | (simp; done) | (simp [*]; done)), H', ⟨by have := HK1.out; omega⟩, by repeat (first | exact Drawn0.refl _ | apply Drawn0.step)⟩
        · rw [if_neg c3] at H
          exact absurd H (by simp)
      · rw [if_neg c2] at H
        have c2b0 : decide (x3_1 < 3) = false := decide_eq_false c2
        clear c2
        obtain rfl := Option.some.inj H
        go_wp2
        go_ret
        exact ⟨by first | rfl | (simp; done) | (simp [*]; done), by repeat (first | exact Drawn0.refl _ | apply Drawn0.step)⟩

/-! ### mark_may: function 58 -/
def mark_may.f (k : Nat) (a0 : Int) (a1 : Int) : Option (Int) := (mark_place.f k a1).bind fun t101 => (if t101 = 3 then (some 1) else ((mark_Right.f a0).bind fun t102 => (if t102 = true then (some 0) else (some 4))))
theorem mark_may.mono : ∀ a0 a1 k, LeO (mark_may.f k a0 a1) (mark_may.f (k + 1) a0 a1) := by
  intro a0 a1 k
  unfold mark_may.f
  repeat' first
      | (with_reducible exact mark_place.mono _ _)
      | (with_reducible exact LeO.refl _)
      | (with_reducible exact LeO.none _)
      | (with_reducible refine LeO.ite ?_ ?_)
      | (with_reducible refine LeO.bind ?_ (fun _ => ?_))
      | exact mark_place.mono _ _
      | exact LeO.none _
      | refine LeO.ite ?_ ?_
      | refine LeO.bind ?_ (fun _ => ?_)
set_option maxHeartbeats 8000000 in
set_option maxRecDepth 100000 in
theorem mark_may.calls (k : Nat) (a0 : Int) (a1 : Int) (r : Int) (w : World) (h : mark_may.f k a0 a1 = some r) :
    Calls Tryd.prog 58 #[.int .i64 a0, .int .i64 a1] w fun e w' => e = .returned (.int .i64 r) ∧ Drawn0 w w' := by
  have H : ((mark_place.f k a1).bind fun t101 => (if t101 = 3 then (some 1) else ((mark_Right.f a0).bind fun t102 => (if t102 = true then (some 0) else (some 4))))) = some r := h
  clear h
  replace H := Option.bind_eq_some_iff.mp H
  obtain ⟨t101, A30, H⟩ := H
  replace H : (if t101 = 3 then (some 1) else ((mark_Right.f a0).bind fun t102 => (if t102 = true then (some 0) else (some 4)))) = some r := H
  have A3 := Aside0.mk A30
  clear A30
  by_cases c4 : t101 = 3
  · rw [if_pos c4] at H
    have c4b0 : (t101 == 3) = true := beq_iff_eq.mpr c4
    have c4b1 : (t101 != 3) = false := bne_eq_false_iff_eq.mpr c4
    clear c4
    obtain rfl := Option.some.inj H
    go_enter Tryd.func58, Tryd.ntmps58
    go_wp2_with (first | ((with_reducible refine gate_callee (f := 62) rfl ?_); refine goesL_ (some 7) rfl rfl Tryd.func62 (by kernel_rfl) rfl #[.int .i64 a1] rfl (by (try simp only [List.map_toArray, List.map_cons, List.map_nil]); first | done | rfl | (simp only [List.length_drop, List.length_take]; rfl)) ?_; (with_reducible refine (mark_place.calls k a1 t101 _ A3.out).mono ?_); rintro e w' ⟨rfl, ⟨nd, rfl⟩⟩; refine ⟨_, rfl, ?_⟩))
    go_ret
    exact ⟨by first | rfl | (simp; done) | (simp [*]; done), by repeat (first | exact Drawn0.refl _ | apply Drawn0.step)⟩
  · rw [if_neg c4] at H
    have c4b0 : (t101 == 3) = false := beq_eq_false_iff_ne.mpr c4
    have c4b1 : (t101 != 3) = true := bne_iff_ne.mpr c4
    replace H := Option.bind_eq_some_iff.mp H
    obtain ⟨t102, A50, H⟩ := H
    replace H : (if t102 = true then (some 0) else (some 4)) = some r := H
    have A5 := Aside0.mk A50
    clear A50
    by_cases c6 : t102 = true
    · subst c6
      have H1 : (some 0) = some r := by rw [if_pos rfl] at H; exact H
      clear H
      have H := H1
      clear H1
      obtain rfl := Option.some.inj H
      go_enter Tryd.func58, Tryd.ntmps58
      go_wp2_with (first | ((with_reducible refine gate_callee (f := 62) rfl ?_); refine goesL_ (some 7) rfl rfl Tryd.func62 (by kernel_rfl) rfl #[.int .i64 a1] rfl (by (try simp only [List.map_toArray, List.map_cons, List.map_nil]); first | done | rfl | (simp only [List.length_drop, List.length_take]; rfl)) ?_; (with_reducible refine (mark_place.calls k a1 t101 _ A3.out).mono ?_); rintro e w' ⟨rfl, ⟨nd, rfl⟩⟩; refine ⟨_, rfl, ?_⟩) | ((with_reducible refine gate_callee (f := 25) rfl ?_); refine goesL_ (some 11) rfl rfl Tryd.func25 (by kernel_rfl) rfl #[.int .i64 a0] rfl (by (try simp only [List.map_toArray, List.map_cons, List.map_nil]); first | done | rfl | (simp only [List.length_drop, List.length_take]; rfl)) ?_; (with_reducible refine (mark_Right.calls a0 true _ A5.out).mono ?_); rintro e w' ⟨rfl, ⟨nd, rfl⟩⟩; refine ⟨_, rfl, ?_⟩))
      go_ret
      exact ⟨by first | rfl | (simp; done) | (simp [*]; done), by repeat (first | exact Drawn0.refl _ | apply Drawn0.step)⟩
    · replace c6 := Bool.eq_false_iff.mpr c6
      subst c6
      have H1 : (some 4) = some r := by rw [if_neg (show ¬ (false = true) by decide)] at H; exact H
      clear H
      have H := H1
      clear H1
      obtain rfl := Option.some.inj H
      go_enter Tryd.func58, Tryd.ntmps58
      go_wp2_with (first | ((with_reducible refine gate_callee (f := 62) rfl ?_); refine goesL_ (some 7) rfl rfl Tryd.func62 (by kernel_rfl) rfl #[.int .i64 a1] rfl (by (try simp only [List.map_toArray, List.map_cons, List.map_nil]); first | done | rfl | (simp only [List.length_drop, List.length_take]; rfl)) ?_; (with_reducible refine (mark_place.calls k a1 t101 _ A3.out).mono ?_); rintro e w' ⟨rfl, ⟨nd, rfl⟩⟩; refine ⟨_, rfl, ?_⟩) | ((with_reducible refine gate_callee (f := 25) rfl ?_); refine goesL_ (some 11) rfl rfl Tryd.func25 (by kernel_rfl) rfl #[.int .i64 a0] rfl (by (try simp only [List.map_toArray, List.map_cons, List.map_nil]); first | done | rfl | (simp only [List.length_drop, List.length_take]; rfl)) ?_; (with_reducible refine (mark_Right.calls a0 false _ A5.out).mono ?_); rintro e w' ⟨rfl, ⟨nd, rfl⟩⟩; refine ⟨_, rfl, ?_⟩))
      go_ret
      exact ⟨by first | rfl | (simp; done) | (simp [*]; done), by repeat (first | exact Drawn0.refl _ | apply Drawn0.step)⟩

/-! ### mark_Add: function 50 -/
def mark_Add.f (k : Nat) (a0 : Int) (a1 : Int) : Option (Int × Int) := (mark_may.f k a0 a1).bind fun t103 => (if t103 = 0 then (if a0 = 4 then (some (4, 0)) else (if a1 = 4 then (some (4, 0)) else (some (Go.bits .or .i64 a0 a1, 0)))) else (some (0, t103)))
theorem mark_Add.mono : ∀ a0 a1 k, LeO (mark_Add.f k a0 a1) (mark_Add.f (k + 1) a0 a1) := by
  intro a0 a1 k
  unfold mark_Add.f
  repeat' first
      | (with_reducible exact mark_may.mono _ _ _)
      | (with_reducible exact LeO.refl _)
      | (with_reducible exact LeO.none _)
      | (with_reducible refine LeO.ite ?_ ?_)
      | (with_reducible refine LeO.bind ?_ (fun _ => ?_))
      | exact mark_may.mono _ _ _
      | exact LeO.none _
      | refine LeO.ite ?_ ?_
      | refine LeO.bind ?_ (fun _ => ?_)
set_option maxHeartbeats 8000000 in
set_option maxRecDepth 100000 in
theorem mark_Add.calls (k : Nat) (a0 : Int) (a1 : Int) (r1 : Int) (r2 : Int) (w : World) (h : mark_Add.f k a0 a1 = some (r1, r2)) :
    Calls Tryd.prog 50 #[.int .i64 a0, .int .i64 a1] w fun e w' => e = .returned (.tuple #[.int .i64 r1, .int .i64 r2]) ∧ Drawn0 w w' := by
  have H : ((mark_may.f k a0 a1).bind fun t103 => (if t103 = 0 then (if a0 = 4 then (some (4, 0)) else (if a1 = 4 then (some (4, 0)) else (some (Go.bits .or .i64 a0 a1, 0)))) else (some (0, t103)))) = some (r1, r2) := h
  clear h
  replace H := Option.bind_eq_some_iff.mp H
  obtain ⟨t103, A30, H⟩ := H
  replace H : (if t103 = 0 then (if a0 = 4 then (some (4, 0)) else (if a1 = 4 then (some (4, 0)) else (some (Go.bits .or .i64 a0 a1, 0)))) else (some (0, t103))) = some (r1, r2) := H
  have A3 := Aside0.mk A30
  clear A30
  by_cases c4 : t103 = 0
  · rw [if_pos c4] at H
    have c4b0 : (t103 == 0) = true := beq_iff_eq.mpr c4
    have c4b1 : (t103 != 0) = false := bne_eq_false_iff_eq.mpr c4
    clear c4
    by_cases c5 : a0 = 4
    · rw [if_pos c5] at H
      have c5b0 : (a0 == 4) = true := beq_iff_eq.mpr c5
      have c5b1 : (a0 != 4) = false := bne_eq_false_iff_eq.mpr c5
      clear c5
      simp only [Option.some.injEq, Prod.mk.injEq] at H
      obtain ⟨rfl, rfl⟩ := H
      go_enter Tryd.func50, Tryd.ntmps50
      go_wp2_with (first | ((with_reducible refine gate_callee (f := 58) rfl ?_); refine goesL_ (some 9) rfl rfl Tryd.func58 (by kernel_rfl) rfl #[.int .i64 a0, .int .i64 a1] rfl (by (try simp only [List.map_toArray, List.map_cons, List.map_nil]); first | done | rfl | (simp only [List.length_drop, List.length_take]; rfl)) ?_; (with_reducible refine (mark_may.calls k a0 a1 t103 _ A3.out).mono ?_); rintro e w' ⟨rfl, ⟨nd, rfl⟩⟩; refine ⟨_, rfl, ?_⟩))
      go_ret2
      exact ⟨by first | rfl | (simp; done) | (simp [*]; done), by repeat (first | exact Drawn0.refl _ | apply Drawn0.step)⟩
    · rw [if_neg c5] at H
      have c5b0 : (a0 == 4) = false := beq_eq_false_iff_ne.mpr c5
      have c5b1 : (a0 != 4) = true := bne_iff_ne.mpr c5
      by_cases c6 : a1 = 4
      · rw [if_pos c6] at H
        have c6b0 : (a1 == 4) = true := beq_iff_eq.mpr c6
        have c6b1 : (a1 != 4) = false := bne_eq_false_iff_eq.mpr c6
        clear c6
        simp only [Option.some.injEq, Prod.mk.injEq] at H
        obtain ⟨rfl, rfl⟩ := H
        go_enter Tryd.func50, Tryd.ntmps50
        go_wp2_with (first | ((with_reducible refine gate_callee (f := 58) rfl ?_); refine goesL_ (some 9) rfl rfl Tryd.func58 (by kernel_rfl) rfl #[.int .i64 a0, .int .i64 a1] rfl (by (try simp only [List.map_toArray, List.map_cons, List.map_nil]); first | done | rfl | (simp only [List.length_drop, List.length_take]; rfl)) ?_; (with_reducible refine (mark_may.calls k a0 a1 t103 _ A3.out).mono ?_); rintro e w' ⟨rfl, ⟨nd, rfl⟩⟩; refine ⟨_, rfl, ?_⟩))
        go_ret2
        exact ⟨by first | rfl | (simp; done) | (simp [*]; done), by repeat (first | exact Drawn0.refl _ | apply Drawn0.step)⟩
      · rw [if_neg c6] at H
        have c6b0 : (a1 == 4) = false := beq_eq_false_iff_ne.mpr c6
        have c6b1 : (a1 != 4) = true := bne_iff_ne.mpr c6
        simp only [Option.some.injEq, Prod.mk.injEq] at H
        obtain ⟨rfl, rfl⟩ := H
        go_enter Tryd.func50, Tryd.ntmps50
        go_wp2_with (first | ((with_reducible refine gate_callee (f := 58) rfl ?_); refine goesL_ (some 9) rfl rfl Tryd.func58 (by kernel_rfl) rfl #[.int .i64 a0, .int .i64 a1] rfl (by (try simp only [List.map_toArray, List.map_cons, List.map_nil]); first | done | rfl | (simp only [List.length_drop, List.length_take]; rfl)) ?_; (with_reducible refine (mark_may.calls k a0 a1 t103 _ A3.out).mono ?_); rintro e w' ⟨rfl, ⟨nd, rfl⟩⟩; refine ⟨_, rfl, ?_⟩))
        go_ret2
        exact ⟨by first | rfl | (simp; done) | (simp [*]; done), by repeat (first | exact Drawn0.refl _ | apply Drawn0.step)⟩
  · rw [if_neg c4] at H
    have c4b0 : (t103 == 0) = false := beq_eq_false_iff_ne.mpr c4
    have c4b1 : (t103 != 0) = true := bne_iff_ne.mpr c4
    simp only [Option.some.injEq, Prod.mk.injEq] at H
    obtain ⟨rfl, rfl⟩ := H
    go_enter Tryd.func50, Tryd.ntmps50
    go_wp2_with (first | ((with_reducible refine gate_callee (f := 58) rfl ?_); refine goesL_ (some 9) rfl rfl Tryd.func58 (by kernel_rfl) rfl #[.int .i64 a0, .int .i64 a1] rfl (by (try simp only [List.map_toArray, List.map_cons, List.map_nil]); first | done | rfl | (simp only [List.length_drop, List.length_take]; rfl)) ?_; (with_reducible refine (mark_may.calls k a0 a1 t103 _ A3.out).mono ?_); rintro e w' ⟨rfl, ⟨nd, rfl⟩⟩; refine ⟨_, rfl, ?_⟩))
    go_ret2
    exact ⟨by first | rfl | (simp; done) | (simp [*]; done), by repeat (first | exact Drawn0.refl _ | apply Drawn0.step)⟩

end Go.Proofs.YtfnafjohfmlniaaDoor.PCs
-- Written for this claim by a program (the kit's print, with hand-made contracts for what it does not take).
namespace Go.Proofs.YtfnafjohfmlniaaDoor.PCs
open Go.RowKit Go.Proofs.YtfnafjohfmlniaaDoorW.PrintWords Go.Proofs.YtfnafjohfmlniaaDoorW.PrintLast Go.Proofs.YtfnafjohfmlniaaDoorW.PrintMore
attribute [local go_sem] max2_int min2_int max_two min_two max_three min_three max_four min_four   -- for this text's walks alone
set_option linter.unusedVariables false
set_option linter.unusedSimpArgs false

/-! ### common_line_pair: function 35 -/
/-! ### A pair of runs -/
def addM (x m : Int) : Int := if 0 ≤ x ∧ x ≤ 4 then (if x = 4 then 4 else Go.bits .or .i64 x m) else 0
theorem place_f (m : Int) (hm : m = 1 ∨ m = 2) : ∃ t, mark_place.f 6 m = some t ∧ t ≠ 3 := by
  unfold mark_place.f
  rcases hm with rfl | rfl
  · rw [mark_place.l0, if_pos (by decide), if_pos (by decide), if_pos (by rfl)]
    exact ⟨_, rfl, by decide⟩
  · rw [mark_place.l0, if_pos (by decide), if_pos (by decide), if_neg (by decide), show wrap64 (0 + 1) = 1 from by (unfold wrap64; omega), mark_place.l0, if_pos (by decide), if_pos (by decide), if_pos (by rfl)]
    exact ⟨_, rfl, by decide⟩
theorem addM_f (x m : Int) (hm : m = 1 ∨ m = 2) : ∃ e, mark_Add.f 6 x m = some (addM x m, e) := by
  obtain ⟨t, ht, h3⟩ := place_f m hm
  have m4 : m ≠ 4 := by rcases hm with rfl | rfl <;> decide
  unfold mark_Add.f mark_may.f mark_Right.f
  rw [ht, Option.bind_some, if_neg h3]
  by_cases h0 : 0 ≤ x
  · rw [if_pos (show x ≥ 0 from h0), Option.bind_some]
    by_cases h4 : x ≤ 4
    · have hA : addM x m = if x = 4 then 4 else Go.bits .or .i64 x m := if_pos ⟨h0, h4⟩
      rw [if_pos (by simpa using h4), Option.bind_some, if_pos rfl, hA]
      by_cases e : x = 4
      · rw [if_pos e, if_pos e]; exact ⟨_, rfl⟩
      · rw [if_neg e, if_neg e, if_neg m4]; exact ⟨_, rfl⟩
    · have hA : addM x m = 0 := if_neg (fun h => h4 h.2)
      rw [if_neg (by simpa using h4), Option.bind_some, if_neg (by decide), hA]; exact ⟨_, rfl⟩
  · have hA : addM x m = 0 := if_neg (fun h => h0 h.1)
    rw [if_neg (show ¬ x ≥ 0 from h0), Option.bind_some, if_neg (by decide), Option.bind_some, if_neg (by decide), hA]; exact ⟨_, rfl⟩
def prtMark (m : Int) (x : Prt) : Prt := ⟨⟨x.tok.f0, x.tok.f1, x.tok.f2, addM x.tok.f3 m⟩, x.run, x.left, true⟩
def prtLeft (n : Int) (x : Prt) : Prt := ⟨x.tok, x.run, x.left - n, x.passed⟩
/-- The mark on all from a place on (so many). -/
def common_pair.marks (m : Int) (out : List Prt) (i : Int) : Nat → List Prt
  | 0 => out
  | k + 1 => common_pair.marks m (out.set i.toNat (prtMark m (prtAt out i))) (i + 1) k
def common_pair.two (out : List Prt) (i j : Int) : Bool := decide (1 < (prtAt out i).left) && decide (1 < (prtAt out j).left)
def common_pair.take (n : Int) (out : List Prt) (i : Int) : List Prt := out.set i.toNat (prtLeft n (prtAt out i))
def common_pair.f (out : List Prt) (i j : Int) : List Prt :=
  if common_pair.two out i j = true then common_pair.take 2 (common_pair.take 2 (common_pair.marks 1 out (i + 1) (j - i - 1).toNat) i) j
  else common_pair.take 1 (common_pair.take 1 (common_pair.marks 2 out (i + 1) (j - i - 1).toNat) i) j
theorem common_pair.marks_len (m : Int) : ∀ (k : Nat) (out : List Prt) (i : Int), (common_pair.marks m out i k).length = out.length
  | 0, _, _ => rfl
  | k + 1, out, i => by rw [common_pair.marks, common_pair.marks_len m k, List.length_set]
theorem common_pair.len (out : List Prt) (i j : Int) : (common_pair.f out i j).length = out.length := by
  unfold common_pair.f common_pair.take
  split <;> simp only [List.length_set, common_pair.marks_len]
def common_pair.T1 : Bool × List (List Nat × List Nat) := (true, [([], []), ([0], [0]), ([1], [1]), ([2], [2]), ([], []), ([3, 4], [3, 4]), ([5], [5]), ([6], [6]), ([], []), ([8], [8]), ([9], [9]), ([10], [10]), ([], []), ([11, 12], [11, 12]), ([13], [13]), ([14], [14]), ([7, 15], [7, 15]), ([16], [16])])
def common_pair.B1 : List Nat := [0, 1, 3, 7, 0, 31, 63, 127, 0, 256, 768, 1792, 0, 7936, 16128, 32512, 65535, 131071]
theorem common_pair.tab1 : rtab .any (opsOf Tryd.f35 1) = common_pair.T1 := by kernel_rfl
theorem common_pair.bits1 : waitsOk common_pair.T1.2 common_pair.B1 = true := by kernel_rfl
def common_pair.T6 : Bool × List (List Nat × List Nat) := (true, [([], []), ([0], [0]), ([1], [1]), ([2], [2]), ([], []), ([], []), ([5], [5]), ([6], [6]), ([7], [7]), ([], []), ([8, 9], [8, 9]), ([10], [10]), ([11], [11]), ([12], [12]), ([], []), ([13, 14], [13, 14]), ([15], [15]), ([16], [16]), ([16], [16]), ([3, 4, 0, 1, 2, 3, 4, 5, 6, 7, 8, 9, 10, 11, 12, 13, 14, 15, 16, 17], [3, 4]), ([19, 0, 1, 2, 3, 4, 5, 6, 7, 8, 9, 10, 11, 12, 13, 14, 15, 16, 17], [19]), ([20, 0, 1, 2, 3, 4, 5, 6, 7, 8, 9, 10, 11, 12, 13, 14, 15, 16, 17], [20]), ([21, 17, 15, 0, 1, 2, 3, 4, 5, 6, 7, 8, 9, 10, 11, 12, 13, 14, 15, 16, 17], [17, 21])])
def common_pair.B6 : List Nat := [0, 1, 3, 7, 0, 0, 32, 96, 224, 0, 992, 2016, 4064, 8160, 0, 32736, 65504, 131040, 131040, 262143, 786431, 1835007, 3932159]
theorem common_pair.tab6 : rtab .any (opsOf Tryd.f35 6) = common_pair.T6 := by kernel_rfl
theorem common_pair.bits6 : waitsOk common_pair.T6.2 common_pair.B6 = true := by kernel_rfl
/-- What is kept of the line while its parts are written. -/
structure common_pair.K (B b cp : Nat) (A : Option Addr) (c n co : Nat) (p : List S79) (w0 wI : World) (o : List Prt) (W : World) : Prop where
  map : W.heap[b]? = some (.cells #[.slice A p.length c, .slice (some ⟨cp, 0, none⟩) n co] 54 (0, 0))
  pts : Kd.R k79 79 W B (fun _ => True) (.slice A p.length c) p
  row : Kd.R kPrt 57 W B (fun _ => True) (.slice (some ⟨cp, 0, none⟩) n co) o
  base : B ≤ b
  below : Below B w0 W
  runs : ∀ (g : Nat) (cs : Array Value), wI.heap[g]? = some (.cells cs 38 (0, 0)) → W.heap[g]? = some (.cells cs 38 (0, 0))
theorem common_pair.K.line {B b cp : Nat} {A : Option Addr} {c n co : Nat} {p : List S79} {w0 wI : World} {o : List Prt} {W : World} (h : common_pair.K B b cp A c n co p w0 wI o W) : common_L B b A c p o W :=
  ⟨⟨_, h.map, h.pts, h.row⟩, h.base⟩
theorem common_pair.K.weak {B b cp : Nat} {A : Option Addr} {c n co : Nat} {p : List S79} {w0 wI : World} {o : List Prt} {W W1 : World} (h : common_pair.K B b cp A c n co p w0 wI o W) (hb : Below W.heap.size W W1) : common_pair.K B b cp A c n co p w0 wI o W1 :=
  ⟨blk_below h.map hb, Kd.R_below h.pts hb, Kd.R_below h.row hb, h.base, h.below.trans (hb.mono (Nat.le_of_lt (Nat.lt_of_le_of_lt h.base (blk_lt h.map)))), fun g cs hg => blk_below (h.runs g cs hg) hb⟩
theorem common_pair.K.put {B b cp : Nat} {A : Option Addr} {c n co : Nat} {p : List S79} {w0 wI : World} {o : List Prt} {W : World} (h : common_pair.K B b cp A c n co p w0 wI o W) (i : Int) (h0 : 0 ≤ i) (h1 : i < n) (j : Nat) (hj : j < 7) (u : Value) (hu : u.oneCell' = true) (x' : Prt) (hx : ∀ v, (prtCells (prtAt o i) v).set j u = prtCells x' v) (hr : x'.run = (prtAt o i).run) :
    common_pair.K B b cp A c n co p w0 wI (o.set i.toNat x') (W.setCell ⟨cp, i.toNat * 7 + j, none⟩ u) ∧ W.frozen? ⟨cp, i.toNat * 7 + j, none⟩ = false := by
  obtain ⟨p1, p2, p3⟩ := prt_put h.row i h0 h1 j hj u hu x' hx hr
  have hcp : b ≠ cp := fun e => by subst e; exact Kd.R_ne h.row h.map (by decide) rfl
  obtain ⟨cs, hcs⟩ := Kd.R_typed h.row cp (by simp [Value.ownBlock])
  exact ⟨⟨blk_far (p := ⟨cp, i.toNat * 7 + j, none⟩) h.map hcp u, Kd.R_set h.pts hcs (by decide) _ u, p1, h.base, h.below.setCell (p := ⟨cp, i.toNat * 7 + j, none⟩) (Kd.R_base h.row cp (by simp [Value.ownBlock])) u, fun g cs' hg => blk_far (p := ⟨cp, i.toNat * 7 + j, none⟩) (h.runs g cs' hg) (fun e => blk_ne hcs (h.runs g cs' hg) (by decide) e.symm) u⟩, p3⟩
theorem common_pair.K.len {B b cp : Nat} {A : Option Addr} {c n co : Nat} {p : List S79} {w0 wI : World} {o : List Prt} {W : World} (h : common_pair.K B b cp A c n co p w0 wI o W) : n = o.length := (Kd.R_reads' h.row).1
theorem prtAt_set_self {o : List Prt} {i : Int} (h0 : 0 ≤ i) (h1 : i < (o.length : Int)) (x : Prt) : prtAt (o.set i.toNat x) i = x := by
  unfold prtAt
  rw [List.getD_eq_getElem?_getD, List.getElem?_set_self (by omega)]
  rfl
theorem prtAt_set_ne {o : List Prt} {i j : Int} (h0 : 0 ≤ i) (h1 : 0 ≤ j) (h : i ≠ j) (x : Prt) : prtAt (o.set i.toNat x) j = prtAt o j := by
  unfold prtAt
  simp only [List.getD_eq_getElem?_getD]
  rw [List.getElem?_set_ne (by omega)]
set_option maxRecDepth 100000 in
set_option maxHeartbeats 16000000 in
theorem common_pair.calls (B b : Nat) (A : Option Addr) (c : Nat) (p : List S79) (out : List Prt) (i j : Int) (w0 w : World) (h : common_L B b A c p out w) (hB : Below B w0 w) (h0 : 0 ≤ i) (hij : i < j) (hj : j < (out.length : Int)) (hl : out.length ≤ 4000) (hL : ∀ x ∈ out, -1000000 ≤ x.left ∧ x.left ≤ 1000000) :
    Calls Tryd.prog 35 #[.pointer (some ⟨b, 0, none⟩), .int .i64 i, .int .i64 j] w fun e w' => e = .returned (.tuple #[]) ∧ common_L B b A c p (common_pair.f out i j) w' ∧ Below B w0 w' ∧ ∀ (g : Nat) (cs : Array Value), w.heap[g]? = some (.cells cs 38 (0, 0)) → w'.heap[g]? = some (.cells cs 38 (0, 0)) := by
  have hu54 := Tryd.underlying54
  have hu57 := Tryd.underlying57
  have hu43 := Tryd.underlying43
  obtain ⟨Ao, co, h1, h2, h3, h4⟩ := h.open
  obtain ⟨cp, rfl⟩ := prt_row h3 (by omega)
  have K0 := Aside0.mk (show common_pair.K B b cp A c out.length co p w0 w out w from ⟨h1, h2, h3, h4, hB, fun _ _ h => h⟩)
  have NN := Aside0.mk (And.intro h0 (And.intro hij (And.intro hj hl)))
  have LI := Aside0.mk (hL _ (prtAt_mem h0 (by omega)))
  have LJ := Aside0.mk (hL _ (prtAt_mem (show 0 ≤ j by omega) hj))
  have i0t := eq_true h0
  have i1t := eq_true (show i < (out.length : Int) by omega)
  have j0t := eq_true (show 0 ≤ j by omega)
  have j1t := eq_true hj
  obtain ⟨_, _, _, _, _, _, _, ai, _⟩ := prt_at h3 i h0 (by omega)
  obtain ⟨_, _, _, _, _, _, _, aj, _⟩ := prt_at h3 j (by omega) hj
  have s1 : w.cell? ⟨b, 1, none⟩ = some (.slice (some ⟨cp, 0, none⟩) out.length co) := (blk_cell h1 1).trans rfl
  have HW1 := Aside0.mk (show wrap64 (i + 1) = i + 1 from by unfold wrap64; omega)
  clear h hB h1 h2 h3 h4 h0 hij hj hl hL
  go_enter Tryd.func35, Tryd.ntmps35
  go_wp2
  refine start_ (n := 18) (S := fun w' => w'.cell? ⟨b, 1, none⟩ = some (.slice (some ⟨cp, 0, none⟩) out.length co) ∧ w'.cell? ⟨cp, i.toNat * 7 + 5, none⟩ = some (.int .i64 (prtAt out i).left) ∧ w'.cell? ⟨cp, j.toNat * 7 + 5, none⟩ = some (.int .i64 (prtAt out j).left)) (ds := []) #[Ff,Ff,Ff,Ff,Ff,Ff,Ff,Ff,Ff,Ff,Ff,Ff,Ff,Ff,Ff,Ff,Ff,Ff] (by kernel_rfl) rfl rfl ⟨s1, ai, aj⟩ (fun hHeld => ?_)
  refine with_tabW common_pair.tab1 common_pair.bits1 (fun HT_ HW_ => ?_)
  have K1 := Aside0.mk (K0.out.weak (Below.drew (Below.refl _ w)))
  clear K0 s1 ai aj
  generalize w.drew = w1 at *
  refine pure_ (i := 0) (N := some 9) (v := ?_) (a' := ?_) #[Tt,Ff,Ff,Ff,Ff,Ff,Ff,Ff,Ff,Ff,Ff,Ff,Ff,Ff,Ff,Ff,Ff,Ff] rfl rfl (any_of HT_.out (by kernel_rfl)) (fun _ _ _ h => h) (Or.inl ⟨by rfl, ?_⟩) ?_ ?_;rotate_left;(intro w';go_simp;with_reducible rfl);rotate_left;(simp only [Act.put, List.setIfInBounds_toArray, List.set_cons_zero, List.set_cons_succ, i64_w, i32_w];rfl)
  refine pure_ (i := 1) (N := some 10) (v := ?_) (a' := ?_) #[Tt,Tt,Ff,Ff,Ff,Ff,Ff,Ff,Ff,Ff,Ff,Ff,Ff,Ff,Ff,Ff,Ff,Ff] rfl rfl (any_of HT_.out (by kernel_rfl)) (fun _ _ _ h => h) (Or.inl ⟨by rfl, ?_⟩) ?_ ?_;rotate_left;(intro w';go_simp;with_reducible rfl);rotate_left;(simp only [Act.put, List.setIfInBounds_toArray, List.set_cons_zero, List.set_cons_succ, i64_w, i32_w];rfl)
  refine pure_ (i := 2) (N := some 11) (v := ?_) (a' := ?_) #[Tt,Tt,Tt,Ff,Ff,Ff,Ff,Ff,Ff,Ff,Ff,Ff,Ff,Ff,Ff,Ff,Ff,Ff] rfl rfl (any_of HT_.out (by kernel_rfl)) (fun _ _ _ h => h) (Or.inl ⟨by rfl, ?_⟩) ?_ ?_;rotate_left;(intro w';go_simp;with_reducible rfl);rotate_left;(simp only [Act.put, List.setIfInBounds_toArray, List.set_cons_zero, List.set_cons_succ, i64_w, i32_w];rfl)
  refine take_ (i := 3) (N := some 12) (v := ?_) (a' := ?_) #[Tt,Tt,Tt,Tt,Ff,Ff,Ff,Ff,Ff,Ff,Ff,Ff,Ff,Ff,Ff,Ff,Ff,Ff] rfl rfl (take_ofW HT_.out HW_.out (by kernel_rfl)) (fun _ _ _ h => h) (Or.inl ⟨by rfl, ?_⟩) hHeld ?_ ?_;rotate_left;(rintro w' ⟨s0, s1, s2⟩;go_simp;with_reducible rfl);rotate_left;(simp only [Act.put, List.setIfInBounds_toArray, List.set_cons_zero, List.set_cons_succ, i64_w, i32_w];rfl)
  refine pure_ (i := 4) (N := some 13) (v := ?_) (a' := ?_) #[Tt,Tt,Tt,Tt,Tt,Ff,Ff,Ff,Ff,Ff,Ff,Ff,Ff,Ff,Ff,Ff,Ff,Ff] rfl rfl (any_of HT_.out (by kernel_rfl)) (fun _ _ _ h => h) (Or.inl ⟨by rfl, ?_⟩) ?_ ?_;rotate_left;(intro w';go_simp;with_reducible rfl);rotate_left;(simp only [Act.put, List.setIfInBounds_toArray, List.set_cons_zero, List.set_cons_succ, i64_w, i32_w];rfl)
  refine pure_ (i := 5) (N := some 14) (v := ?_) (a' := ?_) #[Tt,Tt,Tt,Tt,Tt,Tt,Ff,Ff,Ff,Ff,Ff,Ff,Ff,Ff,Ff,Ff,Ff,Ff] rfl rfl (any_of HT_.out (by kernel_rfl)) (fun _ _ _ h => h) (Or.inl ⟨by rfl, ?_⟩) ?_ ?_;rotate_left;(intro w';go_simp;with_reducible rfl);rotate_left;(simp only [Act.put, List.setIfInBounds_toArray, List.set_cons_zero, List.set_cons_succ, i64_w, i32_w];rfl)
  refine pure_ (i := 6) (N := some 15) (v := ?_) (a' := ?_) #[Tt,Tt,Tt,Tt,Tt,Tt,Tt,Ff,Ff,Ff,Ff,Ff,Ff,Ff,Ff,Ff,Ff,Ff] rfl rfl (any_of HT_.out (by kernel_rfl)) (fun _ _ _ h => h) (Or.inl ⟨by rfl, ?_⟩) ?_ ?_;rotate_left;(intro w';go_simp;with_reducible rfl);rotate_left;(simp only [Act.put, List.setIfInBounds_toArray, List.set_cons_zero, List.set_cons_succ, i64_w, i32_w];rfl)
  refine take_ (i := 7) (N := some 16) (v := ?_) (a' := ?_) #[Tt,Tt,Tt,Tt,Tt,Tt,Tt,Tt,Ff,Ff,Ff,Ff,Ff,Ff,Ff,Ff,Ff,Ff] rfl rfl (take_ofW HT_.out HW_.out (by kernel_rfl)) (fun _ _ _ h => h) (Or.inl ⟨by rfl, ?_⟩) hHeld ?_ ?_;rotate_left;(rintro w' ⟨s0, s1, s2⟩;go_simp;with_reducible rfl);rotate_left;(simp only [Act.put, List.setIfInBounds_toArray, List.set_cons_zero, List.set_cons_succ, i64_w, i32_w];rfl)
  refine pure_ (i := 8) (N := some 17) (v := ?_) (a' := ?_) #[Tt,Tt,Tt,Tt,Tt,Tt,Tt,Tt,Tt,Ff,Ff,Ff,Ff,Ff,Ff,Ff,Ff,Ff] rfl rfl (any_of HT_.out (by kernel_rfl)) (fun _ _ _ h => h) (Or.inl ⟨by rfl, ?_⟩) ?_ ?_;rotate_left;(intro w';go_simp;with_reducible rfl);rotate_left;(simp only [Act.put, List.setIfInBounds_toArray, List.set_cons_zero, List.set_cons_succ, i64_w, i32_w];rfl)
  refine pure_ (i := 9) (N := some 18) (v := ?_) (a' := ?_) #[Tt,Tt,Tt,Tt,Tt,Tt,Tt,Tt,Tt,Tt,Ff,Ff,Ff,Ff,Ff,Ff,Ff,Ff] rfl rfl (any_of HT_.out (by kernel_rfl)) (fun _ _ _ h => h) (Or.inl ⟨by rfl, ?_⟩) ?_ ?_;rotate_left;(intro w';go_simp;with_reducible rfl);rotate_left;(simp only [Act.put, List.setIfInBounds_toArray, List.set_cons_zero, List.set_cons_succ, i64_w, i32_w];rfl)
  refine pure_ (i := 10) (N := some 19) (v := ?_) (a' := ?_) #[Tt,Tt,Tt,Tt,Tt,Tt,Tt,Tt,Tt,Tt,Tt,Ff,Ff,Ff,Ff,Ff,Ff,Ff] rfl rfl (any_of HT_.out (by kernel_rfl)) (fun _ _ _ h => h) (Or.inl ⟨by rfl, ?_⟩) ?_ ?_;rotate_left;(intro w';go_simp;with_reducible rfl);rotate_left;(simp only [Act.put, List.setIfInBounds_toArray, List.set_cons_zero, List.set_cons_succ, i64_w, i32_w];rfl)
  refine take_ (i := 11) (N := some 20) (v := ?_) (a' := ?_) #[Tt,Tt,Tt,Tt,Tt,Tt,Tt,Tt,Tt,Tt,Tt,Tt,Ff,Ff,Ff,Ff,Ff,Ff] rfl rfl (take_ofW HT_.out HW_.out (by kernel_rfl)) (fun _ _ _ h => h) (Or.inl ⟨by rfl, ?_⟩) hHeld ?_ ?_;rotate_left;(rintro w' ⟨s0, s1, s2⟩;go_simp;with_reducible rfl);rotate_left;(simp only [Act.put, List.setIfInBounds_toArray, List.set_cons_zero, List.set_cons_succ, i64_w, i32_w];rfl)
  refine pure_ (i := 12) (N := some 21) (v := ?_) (a' := ?_) #[Tt,Tt,Tt,Tt,Tt,Tt,Tt,Tt,Tt,Tt,Tt,Tt,Tt,Ff,Ff,Ff,Ff,Ff] rfl rfl (any_of HT_.out (by kernel_rfl)) (fun _ _ _ h => h) (Or.inl ⟨by rfl, ?_⟩) ?_ ?_;rotate_left;(intro w';go_simp;with_reducible rfl);rotate_left;(simp only [Act.put, List.setIfInBounds_toArray, List.set_cons_zero, List.set_cons_succ, i64_w, i32_w];rfl)
  refine pure_ (i := 13) (N := some 22) (v := ?_) (a' := ?_) #[Tt,Tt,Tt,Tt,Tt,Tt,Tt,Tt,Tt,Tt,Tt,Tt,Tt,Tt,Ff,Ff,Ff,Ff] rfl rfl (any_of HT_.out (by kernel_rfl)) (fun _ _ _ h => h) (Or.inl ⟨by rfl, ?_⟩) ?_ ?_;rotate_left;(intro w';go_simp;with_reducible rfl);rotate_left;(simp only [Act.put, List.setIfInBounds_toArray, List.set_cons_zero, List.set_cons_succ, i64_w, i32_w];rfl)
  refine pure_ (i := 14) (N := some 23) (v := ?_) (a' := ?_) #[Tt,Tt,Tt,Tt,Tt,Tt,Tt,Tt,Tt,Tt,Tt,Tt,Tt,Tt,Tt,Ff,Ff,Ff] rfl rfl (any_of HT_.out (by kernel_rfl)) (fun _ _ _ h => h) (Or.inl ⟨by rfl, ?_⟩) ?_ ?_;rotate_left;(intro w';go_simp;with_reducible rfl);rotate_left;(simp only [Act.put, List.setIfInBounds_toArray, List.set_cons_zero, List.set_cons_succ, i64_w, i32_w];rfl)
  refine take_ (i := 15) (N := some 24) (v := ?_) (a' := ?_) #[Tt,Tt,Tt,Tt,Tt,Tt,Tt,Tt,Tt,Tt,Tt,Tt,Tt,Tt,Tt,Tt,Ff,Ff] rfl rfl (take_ofW HT_.out HW_.out (by kernel_rfl)) (fun _ _ _ h => h) (Or.inl ⟨by rfl, ?_⟩) hHeld ?_ ?_;rotate_left;(rintro w' ⟨s0, s1, s2⟩;go_simp;with_reducible rfl);rotate_left;(simp only [Act.put, List.setIfInBounds_toArray, List.set_cons_zero, List.set_cons_succ, i64_w, i32_w];rfl)
  refine pure_ (i := 16) (N := some 25) (v := ?_) (a' := ?_) #[Tt,Tt,Tt,Tt,Tt,Tt,Tt,Tt,Tt,Tt,Tt,Tt,Tt,Tt,Tt,Tt,Tt,Ff] rfl rfl (any_of HT_.out (by kernel_rfl)) (fun _ _ _ h => h) (Or.inl ⟨by rfl, ?_⟩) ?_ ?_;rotate_left;(intro w';go_simp;with_reducible rfl);rotate_left;(simp only [Act.put, List.setIfInBounds_toArray, List.set_cons_zero, List.set_cons_succ, i64_w, i32_w];rfl)
  refine pure_ (i := 17) (N := some 26) (v := ?_) (a' := ?_) #[Tt,Tt,Tt,Tt,Tt,Tt,Tt,Tt,Tt,Tt,Tt,Tt,Tt,Tt,Tt,Tt,Tt,Tt] rfl rfl (any_of HT_.out (by kernel_rfl)) (fun _ _ _ h => h) (Or.inl ⟨by rfl, ?_⟩) ?_ ?_;rotate_left;(intro w';go_simp;with_reducible rfl);rotate_left;(simp only [Act.put, List.setIfInBounds_toArray, List.set_cons_zero, List.set_cons_succ, i64_w, i32_w];rfl)
  refine done_ (done_of HT_.out (by kernel_rfl)) ?_
  obtain ⟨mn, hmn⟩ : ∃ z, z = (if (prtAt out j).left < (prtAt out i).left then (prtAt out j).left else (prtAt out i).left) := ⟨_, rfl⟩
  rw [← hmn]
  by_cases c2 : common_pair.two out i j = true
  · have mb : decide (1 < mn) = true := decide_eq_true (by
      unfold common_pair.two at c2
      simp only [Bool.and_eq_true, decide_eq_true_eq] at c2
      rw [hmn]
      split <;> omega)
    have mt : (1 < mn) = True := eq_true (of_decide_eq_true mb)
    have E := Aside0.mk (show common_pair.f out i j = common_pair.take 2 (common_pair.take 2 (common_pair.marks 1 out (i + 1) (j - i - 1).toNat) i) j from if_pos c2)
    clear c2 hmn
    rw [mb]
    go_wp2
    go_loopg [8] (j - i - 1).toNat (fun kq v8 w' => ∃ (q : Int) (o : List Prt), v8 = .int .i64 q ∧ Aside0 (i < q ∧ q ≤ j ∧ (kq : Int) = j - q ∧ common_pair.K B b cp A c out.length co p w0 w o w' ∧ common_pair.marks 1 o q kq = common_pair.marks 1 out (i + 1) (j - i - 1).toNat ∧ prtAt o i = prtAt out i ∧ prtAt o j = prtAt out j))
    case atStart => exact ⟨i + 1, out, by rw [HW1.out], ⟨by omega, by have := NN.out; omega, by have := NN.out; omega, K1.out, rfl, rfl, rfl⟩⟩
    case round =>
      clear K1 mb mt
      obtain ⟨q, o, rfl, HI⟩ := hrel
      cases gk with
      | zero =>
        have e : q = j := by have := HI.out.2.2.1; omega
        subst e
        have c5b : decide (q < q) = false := decide_eq_false (by omega)
        have MK := Aside0.mk (show o = common_pair.marks 1 out (i + 1) (q - i - 1).toNat from HI.out.2.2.2.2.1)
        have KK := Aside0.mk HI.out.2.2.2.1
        have hn : o.length = out.length := (HI.out.2.2.2.1.len).symm
        have PI := Aside0.mk HI.out.2.2.2.2.2.1
        have PJ := Aside0.mk HI.out.2.2.2.2.2.2
        have IQ := Aside0.mk HI.out.1
        have s1 : wr.cell? ⟨b, 1, none⟩ = some (.slice (some ⟨cp, 0, none⟩) out.length co) := (blk_cell KK.out.map 1).trans rfl
        obtain ⟨_, _, _, _, _, _, _, ai, _⟩ := prt_at KK.out.row i NN.out.1 (by have := NN.out; omega)
        obtain ⟨k1, f1⟩ := KK.out.put i NN.out.1 (by have := NN.out; omega) 5 (by decide) (.int .i64 ((prtAt o i).left - 2)) rfl (prtLeft 2 (prtAt o i)) (fun _ => rfl) rfl
        have hwi : wrap64 ((prtAt o i).left - 2) = (prtAt o i).left - 2 := by rw [PI.out]; have := LI.out; unfold wrap64; omega
        have s1b : (wr.setCell ⟨cp, i.toNat * 7 + 5, none⟩ (.int .i64 ((prtAt o i).left - 2))).cell? ⟨b, 1, none⟩ = some (.slice (some ⟨cp, 0, none⟩) out.length co) := (blk_cell k1.map 1).trans rfl
        obtain ⟨_, _, _, _, _, _, _, aj, _⟩ := prt_at k1.row q (by have := NN.out; omega) (by have := NN.out; omega)
        obtain ⟨k2, f2⟩ := k1.put q (by have := NN.out; omega) (by have := NN.out; omega) 5 (by decide) (.int .i64 ((prtAt (o.set i.toNat (prtLeft 2 (prtAt o i))) q).left - 2)) rfl (prtLeft 2 (prtAt (o.set i.toNat (prtLeft 2 (prtAt o i))) q)) (fun _ => rfl) rfl
        have hpj : prtAt (o.set i.toNat (prtLeft 2 (prtAt o i))) q = prtAt out q := (prtAt_set_ne NN.out.1 (by have := NN.out; omega) (by have := IQ.out; omega) _).trans PJ.out
        have hwj : wrap64 ((prtAt (o.set i.toNat (prtLeft 2 (prtAt o i))) q).left - 2) = (prtAt (o.set i.toNat (prtLeft 2 (prtAt o i))) q).left - 2 := by rw [hpj]; have := LJ.out; unfold wrap64; omega
        have K2 := Aside0.mk k2
        have FIN := Aside0.mk (show common_pair.f out i q = (o.set i.toNat (prtLeft 2 (prtAt o i))).set q.toNat (prtLeft 2 (prtAt (o.set i.toNat (prtLeft 2 (prtAt o i))) q)) from by rw [E.out, ← MK.out]; rfl)
        clear k1 k2 hpj HI KK hn
        go_wp2
        go_end0
        exact ⟨rfl, by rw [FIN.out]; exact K2.out.line, K2.out.below, K2.out.runs⟩
      | succ f =>
        have qj : q < j := by have := HI.out.2.2.1; omega
        have c5b : decide (q < j) = true := decide_eq_true qj
        have q0 : 0 ≤ q := by have := NN.out; have := HI.out.1; omega
        have q1 : q < (out.length : Int) := by have := NN.out; omega
        have q0t := eq_true q0
        have q1t := eq_true q1
        have HQ := Aside0.mk (And.intro q0 (And.intro q1 (And.intro qj HI.out.1)))
        have KK := Aside0.mk HI.out.2.2.2.1
        have hn : o.length = out.length := (HI.out.2.2.2.1.len).symm
        have s1 : wr.cell? ⟨b, 1, none⟩ = some (.slice (some ⟨cp, 0, none⟩) out.length co) := (blk_cell KK.out.map 1).trans rfl
        obtain ⟨_, _, _, _, _, a3, _, _, _⟩ := prt_at KK.out.row q q0 q1
        have HM := Aside0.mk HI.out.2.2.2.2.1
        have HP := Aside0.mk HI.out.2.2.2.2.2
        have HF := Aside0.mk HI.out.2.2.1
        have hwq : wrap64 (q + 1) = q + 1 := by have := NN.out; unfold wrap64; omega
        clear HI q0 q1 qj
        go_wp2
        refine start_ (n := 23) (S := fun w' => w'.cell? ⟨b, 1, none⟩ = some (.slice (some ⟨cp, 0, none⟩) out.length co) ∧ w'.cell? ⟨cp, q.toNat * 7 + 3, none⟩ = some (.int .i64 (prtAt o q).tok.f3)) (ds := [22]) #[Ff,Ff,Ff,Ff,Ff,Ff,Ff,Ff,Ff,Ff,Ff,Ff,Ff,Ff,Ff,Ff,Ff,Ff,Ff,Ff,Ff,Ff,Ff] (by kernel_rfl) rfl rfl ⟨s1, a3⟩ (fun hHeld => ?_)
        refine with_tabW common_pair.tab6 common_pair.bits6 (fun HT_ HW_ => ?_)
        have K2 := Aside0.mk (KK.out.weak (Below.drew (Below.refl _ wr)))
        clear KK s1 a3
        generalize wr.drew = w2 at *
        refine pure_ (i := 0) (N := some 35) (v := ?_) (a' := ?_) #[Tt,Ff,Ff,Ff,Ff,Ff,Ff,Ff,Ff,Ff,Ff,Ff,Ff,Ff,Ff,Ff,Ff,Ff,Ff,Ff,Ff,Ff,Ff] rfl rfl (any_of HT_.out (by kernel_rfl)) (fun _ _ _ h => h) (Or.inl ⟨by rfl, ?_⟩) ?_ ?_;rotate_left;(intro w';go_simp;with_reducible rfl);rotate_left;(simp only [Act.put, List.setIfInBounds_toArray, List.set_cons_zero, List.set_cons_succ, i64_w, i32_w];rfl)
        refine pure_ (i := 1) (N := some 36) (v := ?_) (a' := ?_) #[Tt,Tt,Ff,Ff,Ff,Ff,Ff,Ff,Ff,Ff,Ff,Ff,Ff,Ff,Ff,Ff,Ff,Ff,Ff,Ff,Ff,Ff,Ff] rfl rfl (any_of HT_.out (by kernel_rfl)) (fun _ _ _ h => h) (Or.inl ⟨by rfl, ?_⟩) ?_ ?_;rotate_left;(intro w';go_simp;with_reducible rfl);rotate_left;(simp only [Act.put, List.setIfInBounds_toArray, List.set_cons_zero, List.set_cons_succ, i64_w, i32_w];rfl)
        refine pure_ (i := 2) (N := some 37) (v := ?_) (a' := ?_) #[Tt,Tt,Tt,Ff,Ff,Ff,Ff,Ff,Ff,Ff,Ff,Ff,Ff,Ff,Ff,Ff,Ff,Ff,Ff,Ff,Ff,Ff,Ff] rfl rfl (any_of HT_.out (by kernel_rfl)) (fun _ _ _ h => h) (Or.inl ⟨by rfl, ?_⟩) ?_ ?_;rotate_left;(intro w';go_simp;with_reducible rfl);rotate_left;(simp only [Act.put, List.setIfInBounds_toArray, List.set_cons_zero, List.set_cons_succ, i64_w, i32_w];rfl)
        refine take_ (i := 3) (N := some 38) (v := ?_) (a' := ?_) #[Tt,Tt,Tt,Tt,Ff,Ff,Ff,Ff,Ff,Ff,Ff,Ff,Ff,Ff,Ff,Ff,Ff,Ff,Ff,Ff,Ff,Ff,Ff] rfl rfl (take_ofW HT_.out HW_.out (by kernel_rfl)) (fun _ _ _ h => h) (Or.inl ⟨by rfl, ?_⟩) hHeld ?_ ?_;rotate_left;(rintro w' ⟨s0, s1⟩;go_simp;with_reducible rfl);rotate_left;(simp only [Act.put, List.setIfInBounds_toArray, List.set_cons_zero, List.set_cons_succ, i64_w, i32_w];rfl)
        refine pure_ (i := 4) (N := some 39) (v := ?_) (a' := ?_) #[Tt,Tt,Tt,Tt,Tt,Ff,Ff,Ff,Ff,Ff,Ff,Ff,Ff,Ff,Ff,Ff,Ff,Ff,Ff,Ff,Ff,Ff,Ff] rfl rfl (any_of HT_.out (by kernel_rfl)) (fun _ _ _ h => h) (Or.inl ⟨by rfl, ?_⟩) ?_ ?_;rotate_left;(intro w';go_simp;with_reducible rfl);rotate_left;(simp only [Act.put, List.setIfInBounds_toArray, List.set_cons_zero, List.set_cons_succ, i64_w, i32_w];rfl)
        refine pure_ (i := 5) (N := some 40) (v := ?_) (a' := ?_) #[Tt,Tt,Tt,Tt,Tt,Tt,Ff,Ff,Ff,Ff,Ff,Ff,Ff,Ff,Ff,Ff,Ff,Ff,Ff,Ff,Ff,Ff,Ff] rfl rfl (any_of HT_.out (by kernel_rfl)) (fun _ _ _ h => h) (Or.inl ⟨by rfl, ?_⟩) ?_ ?_;rotate_left;(intro w';go_simp;with_reducible rfl);rotate_left;(simp only [Act.put, List.setIfInBounds_toArray, List.set_cons_zero, List.set_cons_succ, i64_w, i32_w];rfl)
        refine pure_ (i := 6) (N := some 41) (v := ?_) (a' := ?_) #[Tt,Tt,Tt,Tt,Tt,Tt,Tt,Ff,Ff,Ff,Ff,Ff,Ff,Ff,Ff,Ff,Ff,Ff,Ff,Ff,Ff,Ff,Ff] rfl rfl (any_of HT_.out (by kernel_rfl)) (fun _ _ _ h => h) (Or.inl ⟨by rfl, ?_⟩) ?_ ?_;rotate_left;(intro w';go_simp;with_reducible rfl);rotate_left;(simp only [Act.put, List.setIfInBounds_toArray, List.set_cons_zero, List.set_cons_succ, i64_w, i32_w];rfl)
        refine pure_ (i := 7) (N := some 42) (v := ?_) (a' := ?_) #[Tt,Tt,Tt,Tt,Tt,Tt,Tt,Tt,Ff,Ff,Ff,Ff,Ff,Ff,Ff,Ff,Ff,Ff,Ff,Ff,Ff,Ff,Ff] rfl rfl (any_of HT_.out (by kernel_rfl)) (fun _ _ _ h => h) (Or.inl ⟨by rfl, ?_⟩) ?_ ?_;rotate_left;(intro w';go_simp;with_reducible rfl);rotate_left;(simp only [Act.put, List.setIfInBounds_toArray, List.set_cons_zero, List.set_cons_succ, i64_w, i32_w];rfl)
        refine take_ (i := 8) (N := some 43) (v := ?_) (a' := ?_) #[Tt,Tt,Tt,Tt,Tt,Tt,Tt,Tt,Tt,Ff,Ff,Ff,Ff,Ff,Ff,Ff,Ff,Ff,Ff,Ff,Ff,Ff,Ff] rfl rfl (take_ofW HT_.out HW_.out (by kernel_rfl)) (fun _ _ _ h => h) (Or.inl ⟨by rfl, ?_⟩) hHeld ?_ ?_;rotate_left;(rintro w' ⟨s0, s1⟩;go_simp;with_reducible rfl);rotate_left;(simp only [Act.put, List.setIfInBounds_toArray, List.set_cons_zero, List.set_cons_succ, i64_w, i32_w];rfl)
        refine pure_ (i := 9) (N := some 44) (v := ?_) (a' := ?_) #[Tt,Tt,Tt,Tt,Tt,Tt,Tt,Tt,Tt,Tt,Ff,Ff,Ff,Ff,Ff,Ff,Ff,Ff,Ff,Ff,Ff,Ff,Ff] rfl rfl (any_of HT_.out (by kernel_rfl)) (fun _ _ _ h => h) (Or.inl ⟨by rfl, ?_⟩) ?_ ?_;rotate_left;(intro w';go_simp;with_reducible rfl);rotate_left;(simp only [Act.put, List.setIfInBounds_toArray, List.set_cons_zero, List.set_cons_succ, i64_w, i32_w];rfl)
        refine pure_ (i := 10) (N := some 45) (v := ?_) (a' := ?_) #[Tt,Tt,Tt,Tt,Tt,Tt,Tt,Tt,Tt,Tt,Tt,Ff,Ff,Ff,Ff,Ff,Ff,Ff,Ff,Ff,Ff,Ff,Ff] rfl rfl (any_of HT_.out (by kernel_rfl)) (fun _ _ _ h => h) (Or.inl ⟨by rfl, ?_⟩) ?_ ?_;rotate_left;(intro w';go_simp;with_reducible rfl);rotate_left;(simp only [Act.put, List.setIfInBounds_toArray, List.set_cons_zero, List.set_cons_succ, i64_w, i32_w];rfl)
        refine pure_ (i := 11) (N := some 46) (v := ?_) (a' := ?_) #[Tt,Tt,Tt,Tt,Tt,Tt,Tt,Tt,Tt,Tt,Tt,Tt,Ff,Ff,Ff,Ff,Ff,Ff,Ff,Ff,Ff,Ff,Ff] rfl rfl (any_of HT_.out (by kernel_rfl)) (fun _ _ _ h => h) (Or.inl ⟨by rfl, ?_⟩) ?_ ?_;rotate_left;(intro w';go_simp;with_reducible rfl);rotate_left;(simp only [Act.put, List.setIfInBounds_toArray, List.set_cons_zero, List.set_cons_succ, i64_w, i32_w];rfl)
        refine pure_ (i := 12) (N := some 47) (v := ?_) (a' := ?_) #[Tt,Tt,Tt,Tt,Tt,Tt,Tt,Tt,Tt,Tt,Tt,Tt,Tt,Ff,Ff,Ff,Ff,Ff,Ff,Ff,Ff,Ff,Ff] rfl rfl (any_of HT_.out (by kernel_rfl)) (fun _ _ _ h => h) (Or.inl ⟨by rfl, ?_⟩) ?_ ?_;rotate_left;(intro w';go_simp;with_reducible rfl);rotate_left;(simp only [Act.put, List.setIfInBounds_toArray, List.set_cons_zero, List.set_cons_succ, i64_w, i32_w];rfl)
        refine take_ (i := 13) (N := some 48) (v := ?_) (a' := ?_) #[Tt,Tt,Tt,Tt,Tt,Tt,Tt,Tt,Tt,Tt,Tt,Tt,Tt,Tt,Ff,Ff,Ff,Ff,Ff,Ff,Ff,Ff,Ff] rfl rfl (take_ofW HT_.out HW_.out (by kernel_rfl)) (fun _ _ _ h => h) (Or.inl ⟨by rfl, ?_⟩) hHeld ?_ ?_;rotate_left;(rintro w' ⟨s0, s1⟩;go_simp;with_reducible rfl);rotate_left;(simp only [Act.put, List.setIfInBounds_toArray, List.set_cons_zero, List.set_cons_succ, i64_w, i32_w];rfl)
        refine pure_ (i := 14) (N := some 49) (v := ?_) (a' := ?_) #[Tt,Tt,Tt,Tt,Tt,Tt,Tt,Tt,Tt,Tt,Tt,Tt,Tt,Tt,Tt,Ff,Ff,Ff,Ff,Ff,Ff,Ff,Ff] rfl rfl (any_of HT_.out (by kernel_rfl)) (fun _ _ _ h => h) (Or.inl ⟨by rfl, ?_⟩) ?_ ?_;rotate_left;(intro w';go_simp;with_reducible rfl);rotate_left;(simp only [Act.put, List.setIfInBounds_toArray, List.set_cons_zero, List.set_cons_succ, i64_w, i32_w];rfl)
        obtain ⟨er, her⟩ := addM_f (prtAt o q).tok.f3 1 (by decide)
        refine one_ (i := 15) (N := some 50) #[Tt,Tt,Tt,Tt,Tt,Tt,Tt,Tt,Tt,Tt,Tt,Tt,Tt,Tt,Tt,Tt,Ff,Ff,Ff,Ff,Ff,Ff,Ff] rfl rfl (one_of HT_.out (by kernel_rfl)) (by decide) (fun K hK => ?_)
        refine goes_ Tryd.func50 (by kernel_rfl) rfl #[.int .i64 (prtAt o q).tok.f3, .int .i64 1] (by rfl) rfl rfl (by simp only [List.map_toArray, List.map_cons, List.map_nil]; rfl) ?_
        refine (mark_Add.calls 6 _ _ _ _ _ her).mono ?_
        rintro e w3 ⟨rfl, hd⟩
        refine ⟨_, rfl, ?_⟩
        have K3 := Aside0.mk (K2.out.weak hd.below)
        clear K2 hd her
        obtain ⟨k4, f3⟩ := K3.out.put q HQ.out.1 HQ.out.2.1 3 (by decide) (.int .i64 (addM (prtAt o q).tok.f3 1)) rfl ⟨⟨(prtAt o q).tok.f0, (prtAt o q).tok.f1, (prtAt o q).tok.f2, addM (prtAt o q).tok.f3 1⟩, (prtAt o q).run, (prtAt o q).left, (prtAt o q).passed⟩ (fun _ => rfl) rfl
        have K4 := Aside0.mk k4
        obtain ⟨_, _, _, _, _, a3, _, _, _⟩ := prt_at K3.out.row q HQ.out.1 HQ.out.2.1
        clear k4
        have s1 : w3.cell? ⟨b, 1, none⟩ = some (.slice (some ⟨cp, 0, none⟩) out.length co) := (blk_cell K3.out.map 1).trans rfl
        refine hK.out _ _ ⟨s1, a3⟩ (fun hHeld => ?_)
        clear hK K s1
        refine norm_ (a' := ?_) ?_ ?_
        rotate_left
        · show Act.put _ (some 50) _ = _
          simp only [Act.put, List.setIfInBounds_toArray, List.set_cons_zero, List.set_cons_succ, i64_w, i32_w]
          rfl
        refine pure_ (i := 16) (N := some 34) (v := ?_) (a' := ?_) #[Tt,Tt,Tt,Tt,Tt,Tt,Tt,Tt,Tt,Tt,Tt,Tt,Tt,Tt,Tt,Tt,Tt,Ff,Ff,Ff,Ff,Ff,Ff] rfl rfl (any_of HT_.out (by kernel_rfl)) (fun _ _ _ h => h) (Or.inl ⟨by rfl, ?_⟩) ?_ ?_;rotate_left;(intro w';go_simp;with_reducible rfl);rotate_left;(simp only [Act.put, List.setIfInBounds_toArray, List.set_cons_zero, List.set_cons_succ, i64_w, i32_w];rfl)
        refine pure_ (i := 17) (N := some 51) (v := ?_) (a' := ?_) #[Tt,Tt,Tt,Tt,Tt,Tt,Tt,Tt,Tt,Tt,Tt,Tt,Tt,Tt,Tt,Tt,Tt,Tt,Ff,Ff,Ff,Ff,Ff] rfl rfl (any_of HT_.out (by kernel_rfl)) (fun _ _ _ h => h) (Or.inl ⟨by rfl, ?_⟩) ?_ ?_;rotate_left;(intro w';go_simp;with_reducible rfl);rotate_left;(simp only [Act.put, List.setIfInBounds_toArray, List.set_cons_zero, List.set_cons_succ, i64_w, i32_w];rfl)
        refine pure_ (i := 18) (N := some 52) (v := ?_) (a' := ?_) #[Tt,Tt,Tt,Tt,Tt,Tt,Tt,Tt,Tt,Tt,Tt,Tt,Tt,Tt,Tt,Tt,Tt,Tt,Tt,Ff,Ff,Ff,Ff] rfl rfl (any_of HT_.out (by kernel_rfl)) (fun _ _ _ h => h) (Or.inl ⟨by rfl, ?_⟩) ?_ ?_;rotate_left;(intro w';go_simp;with_reducible rfl);rotate_left;(simp only [Act.put, List.setIfInBounds_toArray, List.set_cons_zero, List.set_cons_succ, i64_w, i32_w];rfl)
        refine pure_ (i := 19) (N := some 53) (v := ?_) (a' := ?_) #[Tt,Tt,Tt,Tt,Tt,Tt,Tt,Tt,Tt,Tt,Tt,Tt,Tt,Tt,Tt,Tt,Tt,Tt,Tt,Tt,Ff,Ff,Ff] rfl rfl (any_of HT_.out (by kernel_rfl)) (fun _ _ _ h => h) (Or.inl ⟨by rfl, ?_⟩) ?_ ?_;rotate_left;(intro w';go_simp;with_reducible rfl);rotate_left;(simp only [Act.put, List.setIfInBounds_toArray, List.set_cons_zero, List.set_cons_succ, i64_w, i32_w];rfl)
        refine pure_ (i := 20) (N := some 54) (v := ?_) (a' := ?_) #[Tt,Tt,Tt,Tt,Tt,Tt,Tt,Tt,Tt,Tt,Tt,Tt,Tt,Tt,Tt,Tt,Tt,Tt,Tt,Tt,Tt,Ff,Ff] rfl rfl (any_of HT_.out (by kernel_rfl)) (fun _ _ _ h => h) (Or.inl ⟨by rfl, ?_⟩) ?_ ?_;rotate_left;(intro w';go_simp;with_reducible rfl);rotate_left;(simp only [Act.put, List.setIfInBounds_toArray, List.set_cons_zero, List.set_cons_succ, i64_w, i32_w];rfl)
        refine pure_ (i := 21) (N := some 55) (v := ?_) (a' := ?_) #[Tt,Tt,Tt,Tt,Tt,Tt,Tt,Tt,Tt,Tt,Tt,Tt,Tt,Tt,Tt,Tt,Tt,Tt,Tt,Tt,Tt,Tt,Ff] rfl rfl (any_of HT_.out (by kernel_rfl)) (fun _ _ _ h => h) (Or.inl ⟨by rfl, ?_⟩) ?_ ?_;rotate_left;(intro w';go_simp;with_reducible rfl);rotate_left;(simp only [Act.put, List.setIfInBounds_toArray, List.set_cons_zero, List.set_cons_succ, i64_w, i32_w];rfl)
        refine last_ (i := 22) (N := none) #[Tt,Tt,Tt,Tt,Tt,Tt,Tt,Tt,Tt,Tt,Tt,Tt,Tt,Tt,Tt,Tt,Tt,Tt,Tt,Tt,Tt,Tt,Tt] rfl rfl (one_of HT_.out (by kernel_rfl)) (by decide) (fun K hK => ?_)
        refine skip_ (w1 := ?_) (by rfl) rfl ?_ ?_
        rotate_left
        · go_simp
          rfl
        refine hK.out _ _ ?_
        clear hK K
        refine done_ (done_of HT_.out (by kernel_rfl)) ?_
        clear f3 a3 K3
        generalize w3.setCell ⟨cp, q.toNat * 7 + 3, none⟩ (.int .i64 (addM (prtAt o q).tok.f3 1)) = w4 at *
        have s1 : w4.cell? ⟨b, 1, none⟩ = some (.slice (some ⟨cp, 0, none⟩) out.length co) := (blk_cell K4.out.map 1).trans rfl
        obtain ⟨k5, f6⟩ := K4.out.put q HQ.out.1 HQ.out.2.1 6 (by decide) (.bool true) rfl (prtMark 1 (prtAt o q)) (fun _ => by rw [prtAt_set_self HQ.out.1 (by have := HQ.out.2.1; omega)]; rfl) (by rw [prtAt_set_self HQ.out.1 (by have := HQ.out.2.1; omega)]; rfl)
        rw [List.set_set] at k5
        obtain ⟨_, _, _, _, _, _, _, _, a6⟩ := prt_at K4.out.row q HQ.out.1 HQ.out.2.1
        have K5 := Aside0.mk k5
        clear k5 K4 hn
        go_wp2
        go_roundg f
        case measure => omega
        case rel => exact ⟨q + 1, _, by rw [hwq], ⟨by have := HQ.out; omega, by have := HQ.out; omega, by have := HF.out; omega, K5.out, HM.out, (prtAt_set_ne HQ.out.1 NN.out.1 (by have := HQ.out; omega) _).trans HP.out.1, (prtAt_set_ne HQ.out.1 (by have := NN.out; omega) (by have := HQ.out; omega) _).trans HP.out.2⟩⟩
  · have mb : decide (1 < mn) = false := decide_eq_false (by
      unfold common_pair.two at c2
      simp only [Bool.and_eq_true, decide_eq_true_eq] at c2
      rw [hmn]
      split <;> omega)
    have mt : (1 < mn) = False := eq_false (of_decide_eq_false mb)
    have E := Aside0.mk (show common_pair.f out i j = common_pair.take 1 (common_pair.take 1 (common_pair.marks 2 out (i + 1) (j - i - 1).toNat) i) j from if_neg c2)
    clear c2 hmn
    rw [mb]
    go_wp2
    go_loopg [8] (j - i - 1).toNat (fun kq v8 w' => ∃ (q : Int) (o : List Prt), v8 = .int .i64 q ∧ Aside0 (i < q ∧ q ≤ j ∧ (kq : Int) = j - q ∧ common_pair.K B b cp A c out.length co p w0 w o w' ∧ common_pair.marks 2 o q kq = common_pair.marks 2 out (i + 1) (j - i - 1).toNat ∧ prtAt o i = prtAt out i ∧ prtAt o j = prtAt out j))
    case atStart => exact ⟨i + 1, out, by rw [HW1.out], ⟨by omega, by have := NN.out; omega, by have := NN.out; omega, K1.out, rfl, rfl, rfl⟩⟩
    case round =>
      clear K1 mb mt
      obtain ⟨q, o, rfl, HI⟩ := hrel
      cases gk with
      | zero =>
        have e : q = j := by have := HI.out.2.2.1; omega
        subst e
        have c5b : decide (q < q) = false := decide_eq_false (by omega)
        have MK := Aside0.mk (show o = common_pair.marks 2 out (i + 1) (q - i - 1).toNat from HI.out.2.2.2.2.1)
        have KK := Aside0.mk HI.out.2.2.2.1
        have hn : o.length = out.length := (HI.out.2.2.2.1.len).symm
        have PI := Aside0.mk HI.out.2.2.2.2.2.1
        have PJ := Aside0.mk HI.out.2.2.2.2.2.2
        have IQ := Aside0.mk HI.out.1
        have s1 : wr.cell? ⟨b, 1, none⟩ = some (.slice (some ⟨cp, 0, none⟩) out.length co) := (blk_cell KK.out.map 1).trans rfl
        obtain ⟨_, _, _, _, _, _, _, ai, _⟩ := prt_at KK.out.row i NN.out.1 (by have := NN.out; omega)
        obtain ⟨k1, f1⟩ := KK.out.put i NN.out.1 (by have := NN.out; omega) 5 (by decide) (.int .i64 ((prtAt o i).left - 1)) rfl (prtLeft 1 (prtAt o i)) (fun _ => rfl) rfl
        have hwi : wrap64 ((prtAt o i).left - 1) = (prtAt o i).left - 1 := by rw [PI.out]; have := LI.out; unfold wrap64; omega
        have s1b : (wr.setCell ⟨cp, i.toNat * 7 + 5, none⟩ (.int .i64 ((prtAt o i).left - 1))).cell? ⟨b, 1, none⟩ = some (.slice (some ⟨cp, 0, none⟩) out.length co) := (blk_cell k1.map 1).trans rfl
        obtain ⟨_, _, _, _, _, _, _, aj, _⟩ := prt_at k1.row q (by have := NN.out; omega) (by have := NN.out; omega)
        obtain ⟨k2, f2⟩ := k1.put q (by have := NN.out; omega) (by have := NN.out; omega) 5 (by decide) (.int .i64 ((prtAt (o.set i.toNat (prtLeft 1 (prtAt o i))) q).left - 1)) rfl (prtLeft 1 (prtAt (o.set i.toNat (prtLeft 1 (prtAt o i))) q)) (fun _ => rfl) rfl
        have hpj : prtAt (o.set i.toNat (prtLeft 1 (prtAt o i))) q = prtAt out q := (prtAt_set_ne NN.out.1 (by have := NN.out; omega) (by have := IQ.out; omega) _).trans PJ.out
        have hwj : wrap64 ((prtAt (o.set i.toNat (prtLeft 1 (prtAt o i))) q).left - 1) = (prtAt (o.set i.toNat (prtLeft 1 (prtAt o i))) q).left - 1 := by rw [hpj]; have := LJ.out; unfold wrap64; omega
        have K2 := Aside0.mk k2
        have FIN := Aside0.mk (show common_pair.f out i q = (o.set i.toNat (prtLeft 1 (prtAt o i))).set q.toNat (prtLeft 1 (prtAt (o.set i.toNat (prtLeft 1 (prtAt o i))) q)) from by rw [E.out, ← MK.out]; rfl)
        clear k1 k2 hpj HI KK hn
        go_wp2
        go_end0
        exact ⟨rfl, by rw [FIN.out]; exact K2.out.line, K2.out.below, K2.out.runs⟩
      | succ f =>
        have qj : q < j := by have := HI.out.2.2.1; omega
        have c5b : decide (q < j) = true := decide_eq_true qj
        have q0 : 0 ≤ q := by have := NN.out; have := HI.out.1; omega
        have q1 : q < (out.length : Int) := by have := NN.out; omega
        have q0t := eq_true q0
        have q1t := eq_true q1
        have HQ := Aside0.mk (And.intro q0 (And.intro q1 (And.intro qj HI.out.1)))
        have KK := Aside0.mk HI.out.2.2.2.1
        have hn : o.length = out.length := (HI.out.2.2.2.1.len).symm
        have s1 : wr.cell? ⟨b, 1, none⟩ = some (.slice (some ⟨cp, 0, none⟩) out.length co) := (blk_cell KK.out.map 1).trans rfl
        obtain ⟨_, _, _, _, _, a3, _, _, _⟩ := prt_at KK.out.row q q0 q1
        have HM := Aside0.mk HI.out.2.2.2.2.1
        have HP := Aside0.mk HI.out.2.2.2.2.2
        have HF := Aside0.mk HI.out.2.2.1
        have hwq : wrap64 (q + 1) = q + 1 := by have := NN.out; unfold wrap64; omega
        clear HI q0 q1 qj
        go_wp2
        refine start_ (n := 23) (S := fun w' => w'.cell? ⟨b, 1, none⟩ = some (.slice (some ⟨cp, 0, none⟩) out.length co) ∧ w'.cell? ⟨cp, q.toNat * 7 + 3, none⟩ = some (.int .i64 (prtAt o q).tok.f3)) (ds := [22]) #[Ff,Ff,Ff,Ff,Ff,Ff,Ff,Ff,Ff,Ff,Ff,Ff,Ff,Ff,Ff,Ff,Ff,Ff,Ff,Ff,Ff,Ff,Ff] (by kernel_rfl) rfl rfl ⟨s1, a3⟩ (fun hHeld => ?_)
        refine with_tabW common_pair.tab6 common_pair.bits6 (fun HT_ HW_ => ?_)
        have K2 := Aside0.mk (KK.out.weak (Below.drew (Below.refl _ wr)))
        clear KK s1 a3
        generalize wr.drew = w2 at *
        refine pure_ (i := 0) (N := some 35) (v := ?_) (a' := ?_) #[Tt,Ff,Ff,Ff,Ff,Ff,Ff,Ff,Ff,Ff,Ff,Ff,Ff,Ff,Ff,Ff,Ff,Ff,Ff,Ff,Ff,Ff,Ff] rfl rfl (any_of HT_.out (by kernel_rfl)) (fun _ _ _ h => h) (Or.inl ⟨by rfl, ?_⟩) ?_ ?_;rotate_left;(intro w';go_simp;with_reducible rfl);rotate_left;(simp only [Act.put, List.setIfInBounds_toArray, List.set_cons_zero, List.set_cons_succ, i64_w, i32_w];rfl)
        refine pure_ (i := 1) (N := some 36) (v := ?_) (a' := ?_) #[Tt,Tt,Ff,Ff,Ff,Ff,Ff,Ff,Ff,Ff,Ff,Ff,Ff,Ff,Ff,Ff,Ff,Ff,Ff,Ff,Ff,Ff,Ff] rfl rfl (any_of HT_.out (by kernel_rfl)) (fun _ _ _ h => h) (Or.inl ⟨by rfl, ?_⟩) ?_ ?_;rotate_left;(intro w';go_simp;with_reducible rfl);rotate_left;(simp only [Act.put, List.setIfInBounds_toArray, List.set_cons_zero, List.set_cons_succ, i64_w, i32_w];rfl)
        refine pure_ (i := 2) (N := some 37) (v := ?_) (a' := ?_) #[Tt,Tt,Tt,Ff,Ff,Ff,Ff,Ff,Ff,Ff,Ff,Ff,Ff,Ff,Ff,Ff,Ff,Ff,Ff,Ff,Ff,Ff,Ff] rfl rfl (any_of HT_.out (by kernel_rfl)) (fun _ _ _ h => h) (Or.inl ⟨by rfl, ?_⟩) ?_ ?_;rotate_left;(intro w';go_simp;with_reducible rfl);rotate_left;(simp only [Act.put, List.setIfInBounds_toArray, List.set_cons_zero, List.set_cons_succ, i64_w, i32_w];rfl)
        refine take_ (i := 3) (N := some 38) (v := ?_) (a' := ?_) #[Tt,Tt,Tt,Tt,Ff,Ff,Ff,Ff,Ff,Ff,Ff,Ff,Ff,Ff,Ff,Ff,Ff,Ff,Ff,Ff,Ff,Ff,Ff] rfl rfl (take_ofW HT_.out HW_.out (by kernel_rfl)) (fun _ _ _ h => h) (Or.inl ⟨by rfl, ?_⟩) hHeld ?_ ?_;rotate_left;(rintro w' ⟨s0, s1⟩;go_simp;with_reducible rfl);rotate_left;(simp only [Act.put, List.setIfInBounds_toArray, List.set_cons_zero, List.set_cons_succ, i64_w, i32_w];rfl)
        refine pure_ (i := 4) (N := some 39) (v := ?_) (a' := ?_) #[Tt,Tt,Tt,Tt,Tt,Ff,Ff,Ff,Ff,Ff,Ff,Ff,Ff,Ff,Ff,Ff,Ff,Ff,Ff,Ff,Ff,Ff,Ff] rfl rfl (any_of HT_.out (by kernel_rfl)) (fun _ _ _ h => h) (Or.inl ⟨by rfl, ?_⟩) ?_ ?_;rotate_left;(intro w';go_simp;with_reducible rfl);rotate_left;(simp only [Act.put, List.setIfInBounds_toArray, List.set_cons_zero, List.set_cons_succ, i64_w, i32_w];rfl)
        refine pure_ (i := 5) (N := some 40) (v := ?_) (a' := ?_) #[Tt,Tt,Tt,Tt,Tt,Tt,Ff,Ff,Ff,Ff,Ff,Ff,Ff,Ff,Ff,Ff,Ff,Ff,Ff,Ff,Ff,Ff,Ff] rfl rfl (any_of HT_.out (by kernel_rfl)) (fun _ _ _ h => h) (Or.inl ⟨by rfl, ?_⟩) ?_ ?_;rotate_left;(intro w';go_simp;with_reducible rfl);rotate_left;(simp only [Act.put, List.setIfInBounds_toArray, List.set_cons_zero, List.set_cons_succ, i64_w, i32_w];rfl)
        refine pure_ (i := 6) (N := some 41) (v := ?_) (a' := ?_) #[Tt,Tt,Tt,Tt,Tt,Tt,Tt,Ff,Ff,Ff,Ff,Ff,Ff,Ff,Ff,Ff,Ff,Ff,Ff,Ff,Ff,Ff,Ff] rfl rfl (any_of HT_.out (by kernel_rfl)) (fun _ _ _ h => h) (Or.inl ⟨by rfl, ?_⟩) ?_ ?_;rotate_left;(intro w';go_simp;with_reducible rfl);rotate_left;(simp only [Act.put, List.setIfInBounds_toArray, List.set_cons_zero, List.set_cons_succ, i64_w, i32_w];rfl)
        refine pure_ (i := 7) (N := some 42) (v := ?_) (a' := ?_) #[Tt,Tt,Tt,Tt,Tt,Tt,Tt,Tt,Ff,Ff,Ff,Ff,Ff,Ff,Ff,Ff,Ff,Ff,Ff,Ff,Ff,Ff,Ff] rfl rfl (any_of HT_.out (by kernel_rfl)) (fun _ _ _ h => h) (Or.inl ⟨by rfl, ?_⟩) ?_ ?_;rotate_left;(intro w';go_simp;with_reducible rfl);rotate_left;(simp only [Act.put, List.setIfInBounds_toArray, List.set_cons_zero, List.set_cons_succ, i64_w, i32_w];rfl)
        refine take_ (i := 8) (N := some 43) (v := ?_) (a' := ?_) #[Tt,Tt,Tt,Tt,Tt,Tt,Tt,Tt,Tt,Ff,Ff,Ff,Ff,Ff,Ff,Ff,Ff,Ff,Ff,Ff,Ff,Ff,Ff] rfl rfl (take_ofW HT_.out HW_.out (by kernel_rfl)) (fun _ _ _ h => h) (Or.inl ⟨by rfl, ?_⟩) hHeld ?_ ?_;rotate_left;(rintro w' ⟨s0, s1⟩;go_simp;with_reducible rfl);rotate_left;(simp only [Act.put, List.setIfInBounds_toArray, List.set_cons_zero, List.set_cons_succ, i64_w, i32_w];rfl)
        refine pure_ (i := 9) (N := some 44) (v := ?_) (a' := ?_) #[Tt,Tt,Tt,Tt,Tt,Tt,Tt,Tt,Tt,Tt,Ff,Ff,Ff,Ff,Ff,Ff,Ff,Ff,Ff,Ff,Ff,Ff,Ff] rfl rfl (any_of HT_.out (by kernel_rfl)) (fun _ _ _ h => h) (Or.inl ⟨by rfl, ?_⟩) ?_ ?_;rotate_left;(intro w';go_simp;with_reducible rfl);rotate_left;(simp only [Act.put, List.setIfInBounds_toArray, List.set_cons_zero, List.set_cons_succ, i64_w, i32_w];rfl)
        refine pure_ (i := 10) (N := some 45) (v := ?_) (a' := ?_) #[Tt,Tt,Tt,Tt,Tt,Tt,Tt,Tt,Tt,Tt,Tt,Ff,Ff,Ff,Ff,Ff,Ff,Ff,Ff,Ff,Ff,Ff,Ff] rfl rfl (any_of HT_.out (by kernel_rfl)) (fun _ _ _ h => h) (Or.inl ⟨by rfl, ?_⟩) ?_ ?_;rotate_left;(intro w';go_simp;with_reducible rfl);rotate_left;(simp only [Act.put, List.setIfInBounds_toArray, List.set_cons_zero, List.set_cons_succ, i64_w, i32_w];rfl)
        refine pure_ (i := 11) (N := some 46) (v := ?_) (a' := ?_) #[Tt,Tt,Tt,Tt,Tt,Tt,Tt,Tt,Tt,Tt,Tt,Tt,Ff,Ff,Ff,Ff,Ff,Ff,Ff,Ff,Ff,Ff,Ff] rfl rfl (any_of HT_.out (by kernel_rfl)) (fun _ _ _ h => h) (Or.inl ⟨by rfl, ?_⟩) ?_ ?_;rotate_left;(intro w';go_simp;with_reducible rfl);rotate_left;(simp only [Act.put, List.setIfInBounds_toArray, List.set_cons_zero, List.set_cons_succ, i64_w, i32_w];rfl)
        refine pure_ (i := 12) (N := some 47) (v := ?_) (a' := ?_) #[Tt,Tt,Tt,Tt,Tt,Tt,Tt,Tt,Tt,Tt,Tt,Tt,Tt,Ff,Ff,Ff,Ff,Ff,Ff,Ff,Ff,Ff,Ff] rfl rfl (any_of HT_.out (by kernel_rfl)) (fun _ _ _ h => h) (Or.inl ⟨by rfl, ?_⟩) ?_ ?_;rotate_left;(intro w';go_simp;with_reducible rfl);rotate_left;(simp only [Act.put, List.setIfInBounds_toArray, List.set_cons_zero, List.set_cons_succ, i64_w, i32_w];rfl)
        refine take_ (i := 13) (N := some 48) (v := ?_) (a' := ?_) #[Tt,Tt,Tt,Tt,Tt,Tt,Tt,Tt,Tt,Tt,Tt,Tt,Tt,Tt,Ff,Ff,Ff,Ff,Ff,Ff,Ff,Ff,Ff] rfl rfl (take_ofW HT_.out HW_.out (by kernel_rfl)) (fun _ _ _ h => h) (Or.inl ⟨by rfl, ?_⟩) hHeld ?_ ?_;rotate_left;(rintro w' ⟨s0, s1⟩;go_simp;with_reducible rfl);rotate_left;(simp only [Act.put, List.setIfInBounds_toArray, List.set_cons_zero, List.set_cons_succ, i64_w, i32_w];rfl)
        refine pure_ (i := 14) (N := some 49) (v := ?_) (a' := ?_) #[Tt,Tt,Tt,Tt,Tt,Tt,Tt,Tt,Tt,Tt,Tt,Tt,Tt,Tt,Tt,Ff,Ff,Ff,Ff,Ff,Ff,Ff,Ff] rfl rfl (any_of HT_.out (by kernel_rfl)) (fun _ _ _ h => h) (Or.inl ⟨by rfl, ?_⟩) ?_ ?_;rotate_left;(intro w';go_simp;with_reducible rfl);rotate_left;(simp only [Act.put, List.setIfInBounds_toArray, List.set_cons_zero, List.set_cons_succ, i64_w, i32_w];rfl)
        obtain ⟨er, her⟩ := addM_f (prtAt o q).tok.f3 2 (by decide)
        refine one_ (i := 15) (N := some 50) #[Tt,Tt,Tt,Tt,Tt,Tt,Tt,Tt,Tt,Tt,Tt,Tt,Tt,Tt,Tt,Tt,Ff,Ff,Ff,Ff,Ff,Ff,Ff] rfl rfl (one_of HT_.out (by kernel_rfl)) (by decide) (fun K hK => ?_)
        refine goes_ Tryd.func50 (by kernel_rfl) rfl #[.int .i64 (prtAt o q).tok.f3, .int .i64 2] (by rfl) rfl rfl (by simp only [List.map_toArray, List.map_cons, List.map_nil]; rfl) ?_
        refine (mark_Add.calls 6 _ _ _ _ _ her).mono ?_
        rintro e w3 ⟨rfl, hd⟩
        refine ⟨_, rfl, ?_⟩
        have K3 := Aside0.mk (K2.out.weak hd.below)
        clear K2 hd her
        obtain ⟨k4, f3⟩ := K3.out.put q HQ.out.1 HQ.out.2.1 3 (by decide) (.int .i64 (addM (prtAt o q).tok.f3 2)) rfl ⟨⟨(prtAt o q).tok.f0, (prtAt o q).tok.f1, (prtAt o q).tok.f2, addM (prtAt o q).tok.f3 2⟩, (prtAt o q).run, (prtAt o q).left, (prtAt o q).passed⟩ (fun _ => rfl) rfl
        have K4 := Aside0.mk k4
        obtain ⟨_, _, _, _, _, a3, _, _, _⟩ := prt_at K3.out.row q HQ.out.1 HQ.out.2.1
        clear k4
        have s1 : w3.cell? ⟨b, 1, none⟩ = some (.slice (some ⟨cp, 0, none⟩) out.length co) := (blk_cell K3.out.map 1).trans rfl
        refine hK.out _ _ ⟨s1, a3⟩ (fun hHeld => ?_)
        clear hK K s1
        refine norm_ (a' := ?_) ?_ ?_
        rotate_left
        · show Act.put _ (some 50) _ = _
          simp only [Act.put, List.setIfInBounds_toArray, List.set_cons_zero, List.set_cons_succ, i64_w, i32_w]
          rfl
        refine pure_ (i := 16) (N := some 34) (v := ?_) (a' := ?_) #[Tt,Tt,Tt,Tt,Tt,Tt,Tt,Tt,Tt,Tt,Tt,Tt,Tt,Tt,Tt,Tt,Tt,Ff,Ff,Ff,Ff,Ff,Ff] rfl rfl (any_of HT_.out (by kernel_rfl)) (fun _ _ _ h => h) (Or.inl ⟨by rfl, ?_⟩) ?_ ?_;rotate_left;(intro w';go_simp;with_reducible rfl);rotate_left;(simp only [Act.put, List.setIfInBounds_toArray, List.set_cons_zero, List.set_cons_succ, i64_w, i32_w];rfl)
        refine pure_ (i := 17) (N := some 51) (v := ?_) (a' := ?_) #[Tt,Tt,Tt,Tt,Tt,Tt,Tt,Tt,Tt,Tt,Tt,Tt,Tt,Tt,Tt,Tt,Tt,Tt,Ff,Ff,Ff,Ff,Ff] rfl rfl (any_of HT_.out (by kernel_rfl)) (fun _ _ _ h => h) (Or.inl ⟨by rfl, ?_⟩) ?_ ?_;rotate_left;(intro w';go_simp;with_reducible rfl);rotate_left;(simp only [Act.put, List.setIfInBounds_toArray, List.set_cons_zero, List.set_cons_succ, i64_w, i32_w];rfl)
        refine pure_ (i := 18) (N := some 52) (v := ?_) (a' := ?_) #[Tt,Tt,Tt,Tt,Tt,Tt,Tt,Tt,Tt,Tt,Tt,Tt,Tt,Tt,Tt,Tt,Tt,Tt,Tt,Ff,Ff,Ff,Ff] rfl rfl (any_of HT_.out (by kernel_rfl)) (fun _ _ _ h => h) (Or.inl ⟨by rfl, ?_⟩) ?_ ?_;rotate_left;(intro w';go_simp;with_reducible rfl);rotate_left;(simp only [Act.put, List.setIfInBounds_toArray, List.set_cons_zero, List.set_cons_succ, i64_w, i32_w];rfl)
        refine pure_ (i := 19) (N := some 53) (v := ?_) (a' := ?_) #[Tt,Tt,Tt,Tt,Tt,Tt,Tt,Tt,Tt,Tt,Tt,Tt,Tt,Tt,Tt,Tt,Tt,Tt,Tt,Tt,Ff,Ff,Ff] rfl rfl (any_of HT_.out (by kernel_rfl)) (fun _ _ _ h => h) (Or.inl ⟨by rfl, ?_⟩) ?_ ?_;rotate_left;(intro w';go_simp;with_reducible rfl);rotate_left;(simp only [Act.put, List.setIfInBounds_toArray, List.set_cons_zero, List.set_cons_succ, i64_w, i32_w];rfl)
        refine pure_ (i := 20) (N := some 54) (v := ?_) (a' := ?_) #[Tt,Tt,Tt,Tt,Tt,Tt,Tt,Tt,Tt,Tt,Tt,Tt,Tt,Tt,Tt,Tt,Tt,Tt,Tt,Tt,Tt,Ff,Ff] rfl rfl (any_of HT_.out (by kernel_rfl)) (fun _ _ _ h => h) (Or.inl ⟨by rfl, ?_⟩) ?_ ?_;rotate_left;(intro w';go_simp;with_reducible rfl);rotate_left;(simp only [Act.put, List.setIfInBounds_toArray, List.set_cons_zero, List.set_cons_succ, i64_w, i32_w];rfl)
        refine pure_ (i := 21) (N := some 55) (v := ?_) (a' := ?_) #[Tt,Tt,Tt,Tt,Tt,Tt,Tt,Tt,Tt,Tt,Tt,Tt,Tt,Tt,Tt,Tt,Tt,Tt,Tt,Tt,Tt,Tt,Ff] rfl rfl (any_of HT_.out (by kernel_rfl)) (fun _ _ _ h => h) (Or.inl ⟨by rfl, ?_⟩) ?_ ?_;rotate_left;(intro w';go_simp;with_reducible rfl);rotate_left;(simp only [Act.put, List.setIfInBounds_toArray, List.set_cons_zero, List.set_cons_succ, i64_w, i32_w];rfl)
        refine last_ (i := 22) (N := none) #[Tt,Tt,Tt,Tt,Tt,Tt,Tt,Tt,Tt,Tt,Tt,Tt,Tt,Tt,Tt,Tt,Tt,Tt,Tt,Tt,Tt,Tt,Tt] rfl rfl (one_of HT_.out (by kernel_rfl)) (by decide) (fun K hK => ?_)
        refine skip_ (w1 := ?_) (by rfl) rfl ?_ ?_
        rotate_left
        · go_simp
          rfl
        refine hK.out _ _ ?_
        clear hK K
        refine done_ (done_of HT_.out (by kernel_rfl)) ?_
        clear f3 a3 K3
        generalize w3.setCell ⟨cp, q.toNat * 7 + 3, none⟩ (.int .i64 (addM (prtAt o q).tok.f3 2)) = w4 at *
        have s1 : w4.cell? ⟨b, 1, none⟩ = some (.slice (some ⟨cp, 0, none⟩) out.length co) := (blk_cell K4.out.map 1).trans rfl
        obtain ⟨k5, f6⟩ := K4.out.put q HQ.out.1 HQ.out.2.1 6 (by decide) (.bool true) rfl (prtMark 2 (prtAt o q)) (fun _ => by rw [prtAt_set_self HQ.out.1 (by have := HQ.out.2.1; omega)]; rfl) (by rw [prtAt_set_self HQ.out.1 (by have := HQ.out.2.1; omega)]; rfl)
        rw [List.set_set] at k5
        obtain ⟨_, _, _, _, _, _, _, _, a6⟩ := prt_at K4.out.row q HQ.out.1 HQ.out.2.1
        have K5 := Aside0.mk k5
        clear k5 K4 hn
        go_wp2
        go_roundg f
        case measure => omega
        case rel => exact ⟨q + 1, _, by rw [hwq], ⟨by have := HQ.out; omega, by have := HQ.out; omega, by have := HF.out; omega, K5.out, HM.out, (prtAt_set_ne HQ.out.1 NN.out.1 (by have := HQ.out; omega) _).trans HP.out.1, (prtAt_set_ne HQ.out.1 (by have := NN.out; omega) (by have := HQ.out; omega) _).trans HP.out.2⟩⟩

end Go.Proofs.YtfnafjohfmlniaaDoor.PCs
-- Written for this claim by a program (the kit's print, with hand-made contracts for what it does not take).
namespace Go.Proofs.YtfnafjohfmlniaaDoor.PCs
open Go.RowKit Go.Proofs.YtfnafjohfmlniaaDoorW.PrintWords Go.Proofs.YtfnafjohfmlniaaDoorW.PrintLast Go.Proofs.YtfnafjohfmlniaaDoorW.PrintMore
attribute [local go_sem] max2_int min2_int max_two min_two max_three min_three max_four min_four   -- for this text's walks alone
set_option linter.unusedVariables false
set_option linter.unusedSimpArgs false

/-! ### common_line_match: function 19 -/
/-! ### All pairs -/
def prtGood (x : Prt) : Prop := (0 ≤ x.left ∧ x.left ≤ 4000) ∧ ∀ r, x.run = some r → (0 ≤ r.f1 ∧ r.f1 ≤ 4000) ∧ 0 ≤ r.f2 ∧ r.f2 ≤ 255
def prtsGood (o : List Prt) : Prop := ∀ x ∈ o, prtGood x
theorem prtsGood.ok {o : List Prt} (h : prtsGood o) : prtOk o := fun x hx r hr => ((h x hx).2 r hr).1
theorem prtsGood.at {o : List Prt} (h : prtsGood o) {i : Int} (h0 : 0 ≤ i) (h1 : i < (o.length : Int)) : prtGood (prtAt o i) := h _ (prtAt_mem h0 h1)
theorem prtsGood.set {o : List Prt} (h : prtsGood o) (i : Nat) {x : Prt} (hx : prtGood x) : prtsGood (o.set i x) := by
  intro y hy
  rcases List.mem_or_eq_of_mem_set hy with hy | rfl
  · exact h y hy
  · exact hx
theorem prtMark_good {x : Prt} (m : Int) (h : prtGood x) : prtGood (prtMark m x) := h
theorem prtLeft_good {x : Prt} {n : Int} (h : prtGood x) (h0 : 0 ≤ n) (h1 : n ≤ x.left) : prtGood (prtLeft n x) := ⟨⟨by show 0 ≤ x.left - n; omega, by have := h.1.2; show x.left - n ≤ 4000; omega⟩, h.2⟩
theorem marks_good (m : Int) : ∀ (k : Nat) {o : List Prt} {i : Int}, prtsGood o → 0 ≤ i → i + k ≤ (o.length : Int) → prtsGood (common_pair.marks m o i k)
  | 0, _, _, h, _, _ => h
  | k + 1, o, i, h, h0, h1 => by
    rw [common_pair.marks]
    exact marks_good m k (h.set _ (prtMark_good m (h.at h0 (by omega)))) (by omega) (by rw [List.length_set]; omega)
theorem marks_at (m : Int) : ∀ (k : Nat) (o : List Prt) (i j : Int), 0 ≤ i → 0 ≤ j → (j < i ∨ i + k ≤ j) → prtAt (common_pair.marks m o i k) j = prtAt o j
  | 0, _, _, _, _, _, _ => rfl
  | k + 1, o, i, j, h0, hj, h => by
    rw [common_pair.marks, marks_at m k _ (i + 1) j (by omega) hj (by omega), prtAt_set_ne h0 hj (by omega)]
theorem marks_run (m : Int) : ∀ (k : Nat) (o : List Prt) (i j : Int), 0 ≤ i → i + k ≤ (o.length : Int) → 0 ≤ j → (prtAt (common_pair.marks m o i k) j).run = (prtAt o j).run
  | 0, _, _, _, _, _, _ => rfl
  | k + 1, o, i, j, h0, h1, hj => by
    rw [common_pair.marks, marks_run m k _ (i + 1) j (by omega) (by rw [List.length_set]; omega) hj]
    by_cases e : i = j
    · subst e; rw [prtAt_set_self h0 (by omega)]; rfl
    · rw [prtAt_set_ne h0 hj e]
theorem common_pair.facts {o : List Prt} {i j : Int} (h : prtsGood o) (h0 : 0 ≤ i) (hij : i < j) (hj : j < (o.length : Int)) (hi1 : 1 ≤ (prtAt o i).left) (hj1 : 1 ≤ (prtAt o j).left) :
    prtsGood (common_pair.f o i j) ∧ (common_pair.f o i j).length = o.length ∧ (prtAt (common_pair.f o i j) j).left < (prtAt o j).left ∧ (∀ k, 0 ≤ k → (prtAt (common_pair.f o i j) k).run = (prtAt o k).run) := by
  have key : ∀ (n m : Int), 1 ≤ n → n ≤ (prtAt o i).left → n ≤ (prtAt o j).left → prtsGood (common_pair.take n (common_pair.take n (common_pair.marks m o (i + 1) (j - i - 1).toNat) i) j) ∧ (prtAt (common_pair.take n (common_pair.take n (common_pair.marks m o (i + 1) (j - i - 1).toNat) i) j) j).left < (prtAt o j).left ∧ (∀ k, 0 ≤ k → (prtAt (common_pair.take n (common_pair.take n (common_pair.marks m o (i + 1) (j - i - 1).toNat) i) j) k).run = (prtAt o k).run) := by
    intro n m hn hni hnj
    have hlen := common_pair.marks_len m (j - i - 1).toNat o (i + 1)
    have e1 := marks_at m (j - i - 1).toNat o (i + 1) i (by omega) h0 (by omega)
    have e2 := marks_at m (j - i - 1).toNat o (i + 1) j (by omega) (by omega) (by omega)
    have g1 := marks_good m (j - i - 1).toNat (o := o) (i := i + 1) h (by omega) (by omega)
    have r1 := fun k hk => marks_run m (j - i - 1).toNat o (i + 1) k (by omega) (by omega) hk
    generalize common_pair.marks m o (i + 1) (j - i - 1).toNat = l at *
    unfold common_pair.take
    have e3 : prtAt (l.set i.toNat (prtLeft n (prtAt l i))) j = prtAt o j := (prtAt_set_ne h0 (by omega) (by omega) _).trans e2
    have hj2 : j < ((l.set i.toNat (prtLeft n (prtAt l i))).length : Int) := by rw [List.length_set]; omega
    refine ⟨?_, ?_, fun k hk => ?_⟩
    · refine (g1.set _ (prtLeft_good (g1.at h0 (by omega)) (by omega) (by rw [e1]; exact hni))).set _ (prtLeft_good ?_ (by omega) ?_)
      · rw [e3]; exact h.at (by omega) hj
      · rw [e3]; exact hnj
    · rw [prtAt_set_self (by omega) hj2, e3]
      show (prtAt o j).left - n < _
      omega
    · by_cases ek : j = k
      · subst ek; rw [prtAt_set_self (by omega) hj2, e3]; rfl
      · rw [prtAt_set_ne (by omega) hk ek]
        by_cases ek2 : i = k
        · subst ek2; rw [prtAt_set_self h0 (by omega)]; exact r1 i h0
        · rw [prtAt_set_ne h0 hk ek2]; exact r1 k hk
  refine ⟨?_, common_pair.len o i j, ?_⟩
  · unfold common_pair.f
    by_cases c : common_pair.two o i j = true
    · rw [if_pos c]
      unfold common_pair.two at c
      simp only [Bool.and_eq_true, decide_eq_true_eq] at c
      exact (key 2 1 (by omega) (by omega) (by omega)).1
    · rw [if_neg c]
      exact (key 1 2 (by omega) hi1 hj1).1
  · unfold common_pair.f
    by_cases c : common_pair.two o i j = true
    · rw [if_pos c]
      unfold common_pair.two at c
      simp only [Bool.and_eq_true, decide_eq_true_eq] at c
      exact (key 2 1 (by omega) (by omega) (by omega)).2
    · rw [if_neg c]
      exact (key 1 2 (by omega) hi1 hj1).2
theorem common_opener.go_spec (o : List Prt) (r : S38) : ∀ k : Nat, common_opener.go o r k = -1 ∨ (0 ≤ common_opener.go o r k ∧ common_opener.go o r k < (k : Int) ∧ common_opener.ok (prtAt o (common_opener.go o r k)) r = true)
  | 0 => .inl rfl
  | k + 1 => by
    rw [common_opener.go]
    by_cases c : common_opener.ok (prtAt o (k : Int)) r = true
    · rw [if_pos c]
      exact .inr ⟨by omega, by omega, c⟩
    · rw [if_neg c]
      rcases common_opener.go_spec o r k with h | ⟨h1, h2, h3⟩
      · exact .inl h
      · exact .inr ⟨h1, by omega, h3⟩
theorem common_opener.ok_left {x : Prt} {r : S38} (h : common_opener.ok x r = true) : x.left ≠ 0 := by
  unfold common_opener.ok at h
  split at h
  · cases h
  · simp only [Bool.and_eq_true, decide_eq_true_eq] at h
    exact h.2.1
def prtPass (v : Bool) (x : Prt) : Prt := ⟨x.tok, x.run, x.left, v⟩
def common_match.inn (j : Int) (r : S38) : Nat → List Prt → List Prt
  | 0, o => o
  | f + 1, o =>
    if 0 < (prtAt o j).left then
      (if common_opener.go o r j.toNat < 0 then o.set j.toNat (prtPass (!r.f3) (prtAt o j))
       else common_match.inn j r f (common_pair.f o (common_opener.go o r j.toNat) j))
    else o
def common_match.one (o : List Prt) (j : Int) : List Prt :=
  match (prtAt o j).run with
  | none => o
  | some r => if r.f4 = true then common_match.inn j r 4001 o else o
def common_match.out : Nat → Int → List Prt → List Prt
  | 0, _, o => o
  | k + 1, j, o => common_match.out k (j + 1) (common_match.one o j)
def common_match.f (o : List Prt) : List Prt := common_match.out o.length 0 o
structure common_match.I (B b : Nat) (A : Option Addr) (c : Nat) (p : List S79) (w0 : World) (n : Nat) (o : List Prt) (W : World) : Prop where
  line : common_L B b A c p o W
  below : Below B w0 W
  good : prtsGood o
  len : o.length = n
def common_match.T8 : Bool × List (List Nat × List Nat) := (true, [([], []), ([0], [0]), ([1], [1]), ([2], [2]), ([], []), ([], []), ([5], [5]), ([6], [6]), ([7], [7]), ([8], [8]), ([3, 4, 0, 1, 2, 3, 4, 5, 6, 7, 8, 9], [3, 4]), ([10, 0, 1, 2, 3, 4, 5, 6, 7, 8, 9], [10]), ([11, 9, 0, 1, 2, 3, 4, 5, 6, 7, 8, 9], [9, 11])])
def common_match.B8 : List Nat := [0, 1, 3, 7, 0, 0, 32, 96, 224, 480, 1023, 2047, 4095]
theorem common_match.tab8 : rtab .any (opsOf Tryd.f19 8) = common_match.T8 := by kernel_rfl
theorem common_match.bits8 : waitsOk common_match.T8.2 common_match.B8 = true := by kernel_rfl
set_option maxRecDepth 100000 in
set_option maxHeartbeats 16000000 in
theorem common_match.calls (B b : Nat) (A : Option Addr) (c : Nat) (p : List S79) (out : List Prt) (w0 w : World) (h : common_L B b A c p out w) (hB : Below B w0 w) (hl : out.length ≤ 4000) (hg : prtsGood out) :
    Calls Tryd.prog 19 #[.pointer (some ⟨b, 0, none⟩)] w fun e w' => e = .returned (.tuple #[]) ∧ common_L B b A c p (common_match.f out) w' ∧ Below B w0 w' ∧ prtsGood (common_match.f out) ∧ (common_match.f out).length = out.length := by
  have hu54 := Tryd.underlying54
  have hu57 := Tryd.underlying57
  have hu38 := Tryd.underlying38
  have I0 := Aside0.mk (show common_match.I B b A c p w0 out.length out w from ⟨h, hB, hg, rfl⟩)
  have HL := Aside0.mk hl
  obtain ⟨Ao0, co0, h1, h2, h3, h4⟩ := h.open
  have s1 : w.cell? ⟨b, 1, none⟩ = some (.slice Ao0 out.length co0) := (blk_cell h1 1).trans rfl
  clear h hB hl hg h1 h2 h3 h4
  go_enter Tryd.func19, Tryd.ntmps19
  go_wp2
  go_loopg [10] out.length (fun kq v10 w' => ∃ (j : Int) (o : List Prt), v10 = .int .i64 j ∧ Aside0 (0 ≤ j ∧ (kq : Int) = (out.length : Int) - j ∧ common_match.out kq j o = common_match.f out ∧ common_match.I B b A c p w0 out.length o w'))
  case atStart => exact ⟨0, out, rfl, ⟨by omega, by omega, rfl, I0.out⟩⟩
  case round =>
    clear I0 s1
    obtain ⟨j, o, rfl, HI⟩ := hrel
    cases gk with
    | zero =>
      have e : j = (out.length : Int) := by have := HI.out.2.1; omega
      subst e
      have c5b : decide (out.length < out.length) = false := decide_eq_false (by omega)
      have HG := Aside0.mk (show o = common_match.f out from HI.out.2.2.1)
      go_wp2
      go_end0
      exact ⟨rfl, by rw [← HG.out]; exact HI.out.2.2.2.line, HI.out.2.2.2.below, by rw [← HG.out]; exact HI.out.2.2.2.good, by rw [← HG.out]; exact HI.out.2.2.2.len⟩
    | succ f =>
    have jn : j < (out.length : Int) := by have := HI.out.2.1; omega
    have c5b : decide (j < (out.length : Int)) = true := decide_eq_true jn
    have j0 : 0 ≤ j := HI.out.1
    have j0t := eq_true j0
    have j1t := eq_true jn
    have LO := Aside0.mk HI.out.2.2.2.len
    have hgo := HI.out.2.2.1
    rw [common_match.out] at hgo
    obtain ⟨Ao, co, h1, h2, h3, h4⟩ := HI.out.2.2.2.line.open
    obtain ⟨cp, rfl⟩ := prt_row h3 (by have := LO.out; omega)
    obtain ⟨v, hv, _, _, _, _, x4, x5, _⟩ := prt_at h3 j j0 (by have := LO.out; omega)
    rw [LO.out] at h1
    have s1 : wr.cell? ⟨b, 1, none⟩ = some (.slice (some ⟨cp, 0, none⟩) out.length co) := (blk_cell h1 1).trans rfl
    have hwj : wrap64 (j + 1) = j + 1 := by have := HL.out; unfold wrap64; omega
    have JJ := Aside0.mk (And.intro j0 (And.intro jn HI.out.2.1))
    have II := Aside0.mk HI.out.2.2.2
    clear h1 h2 h3 h4 HI j0 jn
    cases hrun : (prtAt o j).run with
    | none =>
      rw [hrun] at hv
      obtain rfl : v = .pointer none := hv
      have HG := Aside0.mk (show common_match.out f (j + 1) o = common_match.f out from by rw [common_match.one, hrun] at hgo; exact hgo)
      clear hgo hrun
      go_wp2
      go_roundg f
      case measure => omega
      case rel => exact ⟨j + 1, o, by rw [hwj], ⟨by have := JJ.out; omega, by have := JJ.out; omega, HG.out, II.out⟩⟩
    | some r =>
      rw [hrun] at hv
      obtain ⟨gr, rfl, _, hgr⟩ := hv
      have yf4 : wr.cell? ⟨gr, 4, none⟩ = some (.bool r.f4) := (blk_cell hgr 4).trans rfl
      cases hcl : r.f4 with
      | false =>
        rw [hcl] at yf4
        have HG := Aside0.mk (show common_match.out f (j + 1) o = common_match.f out from by rw [common_match.one, hrun] at hgo; simpa [hcl] using hgo)
        clear hgo hrun hcl hgr
        go_wp2
        go_roundg f
        case measure => omega
        case rel => exact ⟨j + 1, o, by rw [hwj], ⟨by have := JJ.out; omega, by have := JJ.out; omega, HG.out, II.out⟩⟩
      | true =>
        rw [hcl] at yf4
        have HG := Aside0.mk (show common_match.out f (j + 1) (common_match.inn j r 4001 o) = common_match.f out from by rw [common_match.one, hrun] at hgo; simpa [hcl] using hgo)
        have RUN0 := Aside0.mk (show (prtAt o j).run = some r ∧ (prtAt o j).left ≤ 4000 ∧ wr.heap[gr]? = some (.cells (encRun r) 38 (0, 0)) from ⟨hrun, (II.out.good.at JJ.out.1 (by have := LO.out; have := JJ.out; omega)).1.2, hgr⟩)
        clear hgo hrun hcl hgr
        go_wp2
        go_loopg [4] 4001 (fun kq2 v4 w' => ∃ (o' : List Prt), Aside0 (common_match.inn j r kq2 o' = common_match.inn j r 4001 o ∧ common_match.I B b A c p w0 out.length o' w' ∧ (prtAt o' j).run = some r ∧ (prtAt o' j).left < (kq2 : Int) ∧ w'.heap[gr]? = some (.cells (encRun r) 38 (0, 0))))
        case atStart => exact ⟨o, ⟨rfl, II.out, RUN0.out.1, by have := RUN0.out.2.1; omega, RUN0.out.2.2⟩⟩
        case round =>
          clear II RUN0 s1 x4 x5 yf4 LO
          obtain ⟨o', HI⟩ := hrel
          cases gk with
          | zero => have := HI.out.2.2.2.1; have := (HI.out.2.1.good.at JJ.out.1 (by have := HI.out.2.1.len; have := JJ.out; omega)).1; omega
          | succ f2 =>
          have hgo := HI.out.1
          rw [common_match.inn] at hgo
          have LO := Aside0.mk HI.out.2.1.len
          obtain ⟨Ao, co, h1, h2, h3, h4⟩ := HI.out.2.1.line.open
          obtain ⟨cp2, rfl⟩ := prt_row h3 (by have := LO.out; have := JJ.out; omega)
          obtain ⟨v, hv, _, _, _, _, _, x5, _⟩ := prt_at h3 j JJ.out.1 (by have := LO.out; have := JJ.out; omega)
          rw [LO.out] at h1
          have s1 : wr.cell? ⟨b, 1, none⟩ = some (.slice (some ⟨cp2, 0, none⟩) out.length co) := (blk_cell h1 1).trans rfl
          have GJ := Aside0.mk (HI.out.2.1.good.at JJ.out.1 (by have := LO.out; have := JJ.out; omega))
          have II := Aside0.mk HI.out.2.1
          have RR := Aside0.mk HI.out.2.2
          clear h1 h2 h3 h4 HI hv
          by_cases c6 : 0 < (prtAt o' j).left
          · have c6b : decide (0 < (prtAt o' j).left) = true := decide_eq_true c6
            rw [if_pos c6] at hgo
            have HG2 := Aside0.mk hgo
            have C6 := Aside0.mk c6
            clear hgo c6
            go_wp2_with fail
            refine (common_opener.calls B b A c p o' j r _ II.out.line II.out.good.ok JJ.out.1 (by have := LO.out; have := JJ.out; omega) (by have := LO.out; have := HL.out; omega) RR.out.1).mono ?_
            rintro e w2 ⟨rfl, hb⟩
            have SP := Aside0.mk (common_opener.go_spec o' r j.toNat)
            have L2 := Aside0.mk (II.out.line.below hb)
            have B2 := Aside0.mk (II.out.below.trans (hb.mono (by obtain ⟨_, h1, _⟩ := II.out.line.ex; exact Nat.le_of_lt (Nat.lt_of_le_of_lt II.out.line.base (blk_lt h1)))))
            have G2 := Aside0.mk (blk_below RR.out.2.2 hb)
            have GD := Aside0.mk (And.intro II.out.good RR.out.2.1)
            have RU := Aside0.mk RR.out.1
            clear hb s1 x5 II RR
            generalize common_opener.go o' r j.toNat = a at *
            by_cases c7 : a < 0
            · have c7b : decide (a < 0) = true := decide_eq_true c7
              have hgo := HG2.out
              rw [if_pos c7] at hgo
              have HG3 := Aside0.mk hgo
              obtain ⟨Ao, co2, h1, h2, h3, h4⟩ := L2.out.open
              obtain ⟨cp3, rfl⟩ := prt_row h3 (by have := LO.out; have := JJ.out; omega)
              have KK := Aside0.mk (show common_pair.K B b cp3 A c o'.length co2 p w0 w2 o' w2 from ⟨h1, h2, h3, h4, B2.out, fun _ _ h => h⟩)
              have s1 : w2.cell? ⟨b, 1, none⟩ = some (.slice (some ⟨cp3, 0, none⟩) o'.length co2) := (blk_cell h1 1).trans rfl
              have y3 : w2.cell? ⟨gr, 3, none⟩ = some (.bool r.f3) := (blk_cell G2.out 3).trans rfl
              have jl := eq_true (show j < (o'.length : Int) by have := LO.out; have := JJ.out; omega)
              clear hgo c7 h1 h2 h3 h4 HG2 L2 B2 SP
              go_wp2
              refine start_ (n := 13) (S := fun w' => w'.cell? ⟨b, 1, none⟩ = some (.slice (some ⟨cp3, 0, none⟩) o'.length co2) ∧ w'.cell? ⟨gr, 3, none⟩ = some (.bool r.f3)) (ds := [12]) #[Ff,Ff,Ff,Ff,Ff,Ff,Ff,Ff,Ff,Ff,Ff,Ff,Ff] (by kernel_rfl) rfl rfl ⟨s1, y3⟩ (fun hHeld => ?_)
              refine with_tabW common_match.tab8 common_match.bits8 (fun HT_ HW_ => ?_)
              have K2 := Aside0.mk (KK.out.weak (Below.drew (Below.refl _ w2)))
              clear KK s1 y3 G2
              generalize w2.drew = w4 at *
              refine pure_ (i := 0) (N := some 44) (v := ?_) (a' := ?_) #[Tt,Ff,Ff,Ff,Ff,Ff,Ff,Ff,Ff,Ff,Ff,Ff,Ff] rfl rfl (any_of HT_.out (by kernel_rfl)) (fun _ _ _ h => h) (Or.inl ⟨by rfl, ?_⟩) ?_ ?_;rotate_left;(intro w';go_simp;with_reducible rfl);rotate_left;(simp only [Act.put, List.setIfInBounds_toArray, List.set_cons_zero, List.set_cons_succ, i64_w, i32_w];rfl)
              refine pure_ (i := 1) (N := some 45) (v := ?_) (a' := ?_) #[Tt,Tt,Ff,Ff,Ff,Ff,Ff,Ff,Ff,Ff,Ff,Ff,Ff] rfl rfl (any_of HT_.out (by kernel_rfl)) (fun _ _ _ h => h) (Or.inl ⟨by rfl, ?_⟩) ?_ ?_;rotate_left;(intro w';go_simp;with_reducible rfl);rotate_left;(simp only [Act.put, List.setIfInBounds_toArray, List.set_cons_zero, List.set_cons_succ, i64_w, i32_w];rfl)
              refine pure_ (i := 2) (N := some 46) (v := ?_) (a' := ?_) #[Tt,Tt,Tt,Ff,Ff,Ff,Ff,Ff,Ff,Ff,Ff,Ff,Ff] rfl rfl (any_of HT_.out (by kernel_rfl)) (fun _ _ _ h => h) (Or.inl ⟨by rfl, ?_⟩) ?_ ?_;rotate_left;(intro w';go_simp;with_reducible rfl);rotate_left;(simp only [Act.put, List.setIfInBounds_toArray, List.set_cons_zero, List.set_cons_succ, i64_w, i32_w];rfl)
              refine take_ (i := 3) (N := some 47) (v := ?_) (a' := ?_) #[Tt,Tt,Tt,Tt,Ff,Ff,Ff,Ff,Ff,Ff,Ff,Ff,Ff] rfl rfl (take_ofW HT_.out HW_.out (by kernel_rfl)) (fun _ _ _ h => h) (Or.inl ⟨by rfl, ?_⟩) hHeld ?_ ?_;rotate_left;(rintro w' ⟨s0, s1⟩;go_simp;with_reducible rfl);rotate_left;(simp only [Act.put, List.setIfInBounds_toArray, List.set_cons_zero, List.set_cons_succ, i64_w, i32_w];rfl)
              refine pure_ (i := 4) (N := some 48) (v := ?_) (a' := ?_) #[Tt,Tt,Tt,Tt,Tt,Ff,Ff,Ff,Ff,Ff,Ff,Ff,Ff] rfl rfl (any_of HT_.out (by kernel_rfl)) (fun _ _ _ h => h) (Or.inl ⟨by rfl, ?_⟩) ?_ ?_;rotate_left;(intro w';go_simp;with_reducible rfl);rotate_left;(simp only [Act.put, List.setIfInBounds_toArray, List.set_cons_zero, List.set_cons_succ, i64_w, i32_w];rfl)
              refine pure_ (i := 5) (N := some 49) (v := ?_) (a' := ?_) #[Tt,Tt,Tt,Tt,Tt,Tt,Ff,Ff,Ff,Ff,Ff,Ff,Ff] rfl rfl (any_of HT_.out (by kernel_rfl)) (fun _ _ _ h => h) (Or.inl ⟨by rfl, ?_⟩) ?_ ?_;rotate_left;(intro w';go_simp;with_reducible rfl);rotate_left;(simp only [Act.put, List.setIfInBounds_toArray, List.set_cons_zero, List.set_cons_succ, i64_w, i32_w];rfl)
              refine pure_ (i := 6) (N := some 50) (v := ?_) (a' := ?_) #[Tt,Tt,Tt,Tt,Tt,Tt,Tt,Ff,Ff,Ff,Ff,Ff,Ff] rfl rfl (any_of HT_.out (by kernel_rfl)) (fun _ _ _ h => h) (Or.inl ⟨by rfl, ?_⟩) ?_ ?_;rotate_left;(intro w';go_simp;with_reducible rfl);rotate_left;(simp only [Act.put, List.setIfInBounds_toArray, List.set_cons_zero, List.set_cons_succ, i64_w, i32_w];rfl)
              refine pure_ (i := 7) (N := some 51) (v := ?_) (a' := ?_) #[Tt,Tt,Tt,Tt,Tt,Tt,Tt,Tt,Ff,Ff,Ff,Ff,Ff] rfl rfl (any_of HT_.out (by kernel_rfl)) (fun _ _ _ h => h) (Or.inl ⟨by rfl, ?_⟩) ?_ ?_;rotate_left;(intro w';go_simp;with_reducible rfl);rotate_left;(simp only [Act.put, List.setIfInBounds_toArray, List.set_cons_zero, List.set_cons_succ, i64_w, i32_w];rfl)
              refine take_ (i := 8) (N := some 52) (v := ?_) (a' := ?_) #[Tt,Tt,Tt,Tt,Tt,Tt,Tt,Tt,Tt,Ff,Ff,Ff,Ff] rfl rfl (take_ofW HT_.out HW_.out (by kernel_rfl)) (fun _ _ _ h => h) (Or.inl ⟨by rfl, ?_⟩) hHeld ?_ ?_;rotate_left;(rintro w' ⟨s0, s1⟩;go_simp;with_reducible rfl);rotate_left;(simp only [Act.put, List.setIfInBounds_toArray, List.set_cons_zero, List.set_cons_succ, i64_w, i32_w];rfl)
              refine pure_ (i := 9) (N := some 53) (v := ?_) (a' := ?_) #[Tt,Tt,Tt,Tt,Tt,Tt,Tt,Tt,Tt,Tt,Ff,Ff,Ff] rfl rfl (any_of HT_.out (by kernel_rfl)) (fun _ _ _ h => h) (Or.inl ⟨by rfl, ?_⟩) ?_ ?_;rotate_left;(intro w';go_simp;with_reducible rfl);rotate_left;(simp only [Act.put, List.setIfInBounds_toArray, List.set_cons_zero, List.set_cons_succ, i64_w, i32_w];rfl)
              refine pure_ (i := 10) (N := some 54) (v := ?_) (a' := ?_) #[Tt,Tt,Tt,Tt,Tt,Tt,Tt,Tt,Tt,Tt,Tt,Ff,Ff] rfl rfl (any_of HT_.out (by kernel_rfl)) (fun _ _ _ h => h) (Or.inl ⟨by rfl, ?_⟩) ?_ ?_;rotate_left;(intro w';go_simp;with_reducible rfl);rotate_left;(simp only [Act.put, List.setIfInBounds_toArray, List.set_cons_zero, List.set_cons_succ, i64_w, i32_w];rfl)
              refine pure_ (i := 11) (N := some 55) (v := ?_) (a' := ?_) #[Tt,Tt,Tt,Tt,Tt,Tt,Tt,Tt,Tt,Tt,Tt,Tt,Ff] rfl rfl (any_of HT_.out (by kernel_rfl)) (fun _ _ _ h => h) (Or.inl ⟨by rfl, ?_⟩) ?_ ?_;rotate_left;(intro w';go_simp;with_reducible rfl);rotate_left;(simp only [Act.put, List.setIfInBounds_toArray, List.set_cons_zero, List.set_cons_succ, i64_w, i32_w];rfl)
              obtain ⟨k4, f6⟩ := K2.out.put j JJ.out.1 (by have := LO.out; have := JJ.out; omega) 6 (by decide) (.bool (!r.f3)) rfl (prtPass (!r.f3) (prtAt o' j)) (fun _ => rfl) rfl
              have K4 := Aside0.mk k4
              obtain ⟨_, _, _, _, _, _, _, _, a6⟩ := prt_at K2.out.row j JJ.out.1 (by have := LO.out; have := JJ.out; omega)
              clear k4
              refine last_ (i := 12) (N := none) #[Tt,Tt,Tt,Tt,Tt,Tt,Tt,Tt,Tt,Tt,Tt,Tt,Tt] rfl rfl (one_of HT_.out (by kernel_rfl)) (by decide) (fun K hK => ?_)
              refine skip_ (w1 := ?_) (by rfl) rfl ?_ ?_
              rotate_left
              · go_simp
                rfl
              refine hK.out _ _ ?_
              clear hK K
              refine done_ (done_of HT_.out (by kernel_rfl)) ?_
              go_wp2
              go_roundg f
              case measure => omega
              case rel => exact ⟨j + 1, _, by rw [hwj], ⟨by have := JJ.out; omega, by have := JJ.out; omega, by rw [HG3.out]; exact HG.out, ⟨K4.out.line, K4.out.below, GD.out.1.set _ GJ.out, by rw [List.length_set]; exact LO.out⟩⟩⟩
            · have c7b : decide (a < 0) = false := decide_eq_false c7
              have hgo := HG2.out
              rw [if_neg c7] at hgo
              have HG3 := Aside0.mk hgo
              have S2 := Aside0.mk (SP.out.resolve_left (by omega))
              have A1 : Aside0 (1 ≤ (prtAt o' a).left) := ⟨by have := (GD.out.1.at S2.out.1 (by have := S2.out.2.1; have := LO.out; have := JJ.out; omega)).1; have := common_opener.ok_left S2.out.2.2; omega⟩
              have FA := Aside0.mk (common_pair.facts (i := a) (j := j) GD.out.1 S2.out.1 (by have := S2.out.2.1; have := JJ.out; omega) (by have := LO.out; have := JJ.out; omega) A1.out (by have := C6.out; omega))
              clear hgo c7 HG2 SP
              go_wp2_with fail
              refine (common_pair.calls B b A c p o' a j w0 _ L2.out B2.out S2.out.1 (by have := S2.out.2.1; have := JJ.out; omega) (by have := LO.out; have := JJ.out; omega) (by have := LO.out; have := HL.out; omega) (fun x hx => by have := (GD.out.1 x hx).1; omega)).mono ?_
              rintro e w3 ⟨rfl, g1, g2, g3⟩
              have Q1 := Aside0.mk (And.intro g1 (And.intro g2 (g3 _ _ G2.out)))
              clear g1 g2 g3
              go_wp2
              go_roundg f2
              case measure => omega
              case rel => exact ⟨_, ⟨HG3.out, ⟨Q1.out.1, Q1.out.2.1, FA.out.1, FA.out.2.1.trans LO.out⟩, (FA.out.2.2.2 j JJ.out.1).trans RU.out, by have := FA.out.2.2.1; have := GD.out.2; omega, Q1.out.2.2⟩⟩
          · have c6b : decide (0 < (prtAt o' j).left) = false := decide_eq_false c6
            rw [if_neg c6] at hgo
            have HG3 := Aside0.mk hgo
            clear hgo c6
            go_wp2
            go_roundg f
            case measure => omega
            case rel => exact ⟨j + 1, o', by rw [hwj], ⟨by have := JJ.out; omega, by have := JJ.out; omega, by rw [HG3.out]; exact HG.out, II.out⟩⟩

end Go.Proofs.YtfnafjohfmlniaaDoor.PCs
-- Written for this claim by a program (the kit's print, with hand-made contracts for what it does not take).
namespace Go.Proofs.YtfnafjohfmlniaaDoor.PCs
open Go.RowKit Go.Proofs.YtfnafjohfmlniaaDoorW.PrintWords Go.Proofs.YtfnafjohfmlniaaDoorW.PrintLast Go.Proofs.YtfnafjohfmlniaaDoorW.PrintMore
attribute [local go_sem] max2_int min2_int max_two min_two max_three min_three max_four min_four   -- for this text's walks alone
set_option linter.unusedVariables false
set_option linter.unusedSimpArgs false

/-! ### common_Parse: function 10 -/
theorem common_points.scan_facts (s : ByteArray) : ∀ (f i : Nat), (common_points.scan s f i).2.length ≤ s.size - i ∧ ∀ x ∈ (common_points.scan s f i).2, 0 ≤ x.f0 ∧ x.f0 ≤ 1114111
  | 0, _ => ⟨Nat.zero_le _, fun x hx => by cases hx⟩
  | f + 1, i => by
    rw [common_points.scan]
    by_cases h : i < s.size
    · rw [if_pos h]
      split
      · exact ⟨Nat.zero_le _, fun x hx => by cases hx⟩
      · obtain ⟨h1, h2⟩ := common_points.scan_facts s f (i + width s i)
        have := width_pos s i h
        refine ⟨by simp only [List.length_cons]; omega, fun x hx => ?_⟩
        rcases List.mem_cons.1 hx with rfl | hx
        · exact rune_le s i
        · exact h2 x hx
    · rw [if_neg h]
      exact ⟨Nat.zero_le _, fun x hx => by cases hx⟩
theorem common_points.facts (s : ByteArray) : (common_points.f s).1.length ≤ 4000 ∧ ∀ x ∈ (common_points.f s).1, 0 ≤ x.f0 ∧ x.f0 ≤ 1114111 := by
  unfold common_points.f
  by_cases h : s.size > 4000
  · rw [if_pos h]
    exact ⟨Nat.zero_le _, fun x hx => by cases hx⟩
  · rw [if_neg h]
    unfold common_points.res
    obtain ⟨h1, h2⟩ := common_points.scan_facts s s.size 0
    split
    · exact ⟨Nat.zero_le _, fun x hx => by cases hx⟩
    · exact ⟨by dsimp only; omega, h2⟩
theorem common_plain.good (p : List S79) (i j m : Int) : prtsGood (common_plain.f p i j m) := by
  intro x hx
  obtain ⟨y, _, rfl⟩ := List.mem_map.1 hx
  exact ⟨⟨Int.le_refl 0, by show (0 : Int) ≤ 4000; omega⟩, fun r hr => by cases hr⟩
theorem prtsGood.append {a b : List Prt} (h : prtsGood a) (k : prtsGood b) : prtsGood (a ++ b) := fun x hx => (List.mem_append.1 hx).elim (h x) (k x)
theorem common_split.good (p : List S79) (hp : p.length ≤ 4000) : ∀ (f : Nat) (i : Int), 0 ≤ i → prtsGood (common_split.go p f i)
  | 0, _, _ => fun x hx => by cases hx
  | f + 1, i, h0 => by
    rw [common_split.go]
    by_cases h : i < (p.length : Int)
    · have hb := common_row.bound p i h0 h
      rw [if_pos h]
      by_cases h1 : (rd_T79 p i).f0 = 96
      · rw [if_pos h1]
        by_cases h2 : common_fence.f p (i + common_row.f p i) (common_row.f p i) < 0
        · rw [if_pos h2]
          exact (common_plain.good p _ _ _).append (common_split.good p hp f _ (by omega))
        · rw [if_neg h2]
          refine prtsGood.append ?_ (common_split.good p hp f _ (by omega))
          unfold common_code.f
          split <;> exact common_plain.good p _ _ _
      · rw [if_neg h1]
        by_cases h3 : (rd_T79 p i).f0 = 42 ∨ (rd_T79 p i).f0 = 95
        · rw [if_pos h3]
          intro x hx
          rcases List.mem_cons.1 hx with rfl | hx
          · refine ⟨by dsimp only; omega, fun r hr => ?_⟩
            obtain rfl := Option.some.inj hr
            unfold common_run.f common_run.mk
            split <;> (dsimp only; omega)
          · exact common_split.good p hp f _ (by omega) x hx
        · rw [if_neg h3]
          split
          · exact (common_plain.good p _ _ _).append (common_split.good p hp f _ (by omega))
          · exact (common_plain.good p _ _ _).append (common_split.good p hp f _ (by omega))
    · rw [if_neg h]
      exact fun x hx => by cases hx
theorem common_split.len (p : List S79) : ∀ (f : Nat) (i : Int), 0 ≤ i → i ≤ (p.length : Int) → ((common_split.go p f i).length : Int) ≤ (p.length : Int) - i
  | 0, i, _, h => by rw [common_split.go]; simp only [List.length_nil]; omega
  | f + 1, i, h0, hi => by
    rw [common_split.go]
    by_cases h : i < (p.length : Int)
    · have hb := common_row.bound p i h0 h
      rw [if_pos h]
      by_cases h1 : (rd_T79 p i).f0 = 96
      · rw [if_pos h1]
        by_cases h2 : common_fence.f p (i + common_row.f p i) (common_row.f p i) < 0
        · rw [if_pos h2]
          have := common_split.len p f (i + common_row.f p i) (by omega) (by omega)
          have := common_plain.len p i (i + common_row.f p i) 0 h0 (by omega) (by omega)
          rw [List.length_append]
          omega
        · rw [if_neg h2]
          have hf := common_fence.bound p (i + common_row.f p i) (common_row.f p i) (by omega) h2
          have := common_split.len p f (common_fence.f p (i + common_row.f p i) (common_row.f p i) + common_row.f p i) (by omega) (by omega)
          have := common_code.len p (i + common_row.f p i) (common_fence.f p (i + common_row.f p i) (common_row.f p i)) (by omega) (by omega) (by omega)
          rw [List.length_append]
          omega
      · rw [if_neg h1]
        by_cases h3 : (rd_T79 p i).f0 = 42 ∨ (rd_T79 p i).f0 = 95
        · rw [if_pos h3]
          have := common_split.len p f (i + common_row.f p i) (by omega) (by omega)
          rw [List.length_cons]
          omega
        · rw [if_neg h3]
          by_cases h4 : (rd_T79 p i).f0 = 92 ∧ sg (common_at.f p (i + 1)) = true
          · rw [if_pos h4]
            have hs := common_sg_at p (i + 1) h4.2
            have := common_split.len p f (i + 1 + 1) (by omega) (by omega)
            have := common_plain.len p (i + 1) (i + 1 + 1) 0 (by omega) (by omega) (by omega)
            rw [List.length_append]
            omega
          · rw [if_neg h4]
            have := common_split.len p f (i + 1) (by omega) (by omega)
            have := common_plain.len p i (i + 1) 0 h0 (by omega) (by omega)
            rw [List.length_append]
            omega
    · rw [if_neg h]
      simp only [List.length_nil]
      omega
def common_Parse.toks (x : Prt) : List S43 := match x.run with
  | none => [x.tok]
  | some r => List.replicate x.left.toNat ⟨0, 0, r.f2, x.tok.f3⟩
def common_Parse.f (s : ByteArray) : Option (List S43 × Int × Int) :=
  if (common_points.f s).2.2 = 0 then some ((common_match.f (common_split.f (common_points.f s).1)).flatMap common_Parse.toks, (s.size : Int), 0)
  else some ([], (common_points.f s).2.1, (common_points.f s).2.2)
def common_Parse.Post (r1 : List S43) (r2 r3 : Int) (w : World) (e : Ending) (w' : World) : Prop := ∃ v0_ : Value, e = .returned (.tuple #[v0_, .int .i64 r2, .int .i64 r3]) ∧ Kd.R k43 43 w' w.heap.size (fun _ => True) v0_ r1 ∧ Below w.heap.size w w'
theorem common_Parse.toks_len {x : Prt} (h : prtGood x) : (common_Parse.toks x).length ≤ 4000 := by
  unfold common_Parse.toks
  split
  · simp
  · rw [List.length_replicate]; have := h.1; omega
theorem common_Parse.all_len : ∀ (o : List Prt), prtsGood o → (o.flatMap common_Parse.toks).length ≤ 4000 * o.length
  | [], _ => Nat.zero_le _
  | x :: o, h => by
    rw [List.flatMap_cons, List.length_append, List.length_cons]
    have h1 := common_Parse.toks_len (h x (by simp))
    have h2 := common_Parse.all_len o (fun y hy => h y (by simp [hy]))
    omega
theorem common_Parse.take_succ (o : List Prt) (k : Nat) (h : k < o.length) : (o.take (k + 1)).flatMap common_Parse.toks = (o.take k).flatMap common_Parse.toks ++ common_Parse.toks (prtAt o (k : Int)) := by
  rw [List.take_add_one, List.flatMap_append, List.getElem?_eq_getElem h]
  unfold prtAt
  rw [Int.toNat_natCast, List.getD_eq_getElem?_getD, List.getElem?_eq_getElem h]
  simp
/-- What is known at the loop: the tokens so far, the parts. -/
structure common_Parse.I (w : World) (cp n co : Nat) (o : List Prt) (k : Nat) (v : Value) (acc : List S43) (W : World) : Prop where
  toks : Kd.R k43 43 W w.heap.size (fun _ => True) v acc
  row : Kd.R kPrt 57 W w.heap.size (fun _ => True) (.slice (some ⟨cp, 0, none⟩) n co) o
  below : Below w.heap.size w W
theorem prt_grown {W w1 : World} {B : Nat} {v v' : Value} {o : List Prt} {l : List S43} (h : Kd.R kPrt 57 W B (fun _ => True) v o) (hr : Kd.R k43 43 W B (fun _ => True) v' l) (hg : W.grownBy w1 v'.ownBlock) : Kd.R kPrt 57 w1 B (fun _ => True) v o :=
  Kd.R_mono (Kd.R_grown (Kd.R_bound h) hg (fun k hk => by obtain ⟨_, _, _, q_, hq_, cs_, hc_⟩ := hk; exact Kd.R_ne hr hc_ (by rintro rfl; revert hq_; decide))) (fun _ hk => hk.1)
def common_Parse.T15 : Bool × List (List Nat × List Nat) := (true, [([], []), ([], []), ([1], [1]), ([2], [2]), ([3], [3]), ([4], [4]), ([5], [5]), ([], []), ([7], [7]), ([8], [8]), ([6, 9], [6, 9]), ([10], [10]), ([0, 11], [0, 11]), ([12, 12, 0, 1, 2, 3, 4, 5, 6, 7, 8, 9, 10, 11, 12], [0, 12])])
def common_Parse.B15 : List Nat := [0, 0, 2, 6, 14, 30, 62, 0, 128, 384, 1022, 2046, 4095, 8191]
theorem common_Parse.tab15 : rtab .any (opsOf Tryd.f10 15) = common_Parse.T15 := by kernel_rfl
theorem common_Parse.bits15 : waitsOk common_Parse.T15.2 common_Parse.B15 = true := by kernel_rfl
set_option maxHeartbeats 16000000 in
set_option maxRecDepth 100000 in
theorem common_Parse.calls (a0 : ByteArray) (r1 : List S43) (r2 r3 : Int) (w : World) (h : common_Parse.f a0 = some (r1, r2, r3)) (hT_ : Lib.Utf8Tabs 0 1 w := by first | exact u8_below HU8_.out (by repeat (first | (with_reducible first | exact HB.out | apply below_alloc | apply pw_below_drewN | apply below_drew1) | exact HB.out)) | exact u8_below HT_.out (by repeat (first | (with_reducible first | exact HB.out | apply below_alloc | apply pw_below_drewN | apply below_drew1) | exact HB.out))) :
    Calls Tryd.prog 10 #[.string a0] w (common_Parse.Post r1 r2 r3 w) := by
  have hu54 := Tryd.underlying54
  have hu57 := Tryd.underlying57
  have hu43 := Tryd.underlying43
  have hu38 := Tryd.underlying38
  have HT := Aside0.mk hT_
  have FA := Aside0.mk (common_points.facts a0)
  clear hT_
  unfold common_Parse.f at h
  have PC := Aside0.mk (common_points.calls a0 w HT.out)
  generalize common_points.f a0 = q at *
  obtain ⟨p, n1, e1⟩ := q
  dsimp only at h FA
  have H := Aside0.mk h
  clear h
  go_enter Tryd.func10, Tryd.ntmps10
  go_wp2_with fail
  refine PC.out.mono ?_
  rintro e w1 ⟨v0, rfl, hr, hb⟩
  have HB := Aside0.mk hb
  have HR := Aside0.mk hr
  clear hr hb PC
  dsimp only at HR
  obtain ⟨A, c, hv⟩ := Kd.R_slice HR.out
  subst hv
  by_cases c1 : e1 = 0
  · have c1b : (e1 != 0) = false := bne_eq_false_iff_eq.mpr c1
    have h := H.out
    rw [if_pos c1] at h
    simp only [Option.some.injEq, Prod.mk.injEq] at h
    obtain ⟨h1, h2, h3⟩ := h
    have H1 := Aside0.mk h1
    have H2 := Aside0.mk h2
    have H3 := Aside0.mk h3
    clear h1 h2 h3 c1 H
    go_wp2_with (first | ((with_reducible refine gate_dst (N := 24) rfl ?_); refine box_event ?hg (N := 24) ?hd (cs := #[.slice A p.length c, .slice none 0 0]) (t := 54) ?hr ?_; (case hd => rfl); (case hg => rfl); (case hr => first | (go_simp; done) | (go_simp; rfl)); intro b hg w3 hbox hb; have n0_ := Aside0.mk (below_step HB.out hb); have HL := Aside0.mk (show common_L w.heap.size b A c p [] w3 from ⟨⟨_, hbox, Kd.R_below HR.out hb, Kd.R_nil _ _ _ _ _⟩, by rw [hg]; exact below_size HB.out⟩); clear HB hb hbox hg; have HB := n0_; clear n0_))
    refine (common_split.calls w.heap.size b A c p w _ HL.out HB.out FA.out.1 FA.out.2).mono ?_
    rintro e w4 ⟨rfl, g1, g2⟩
    have HL4 := Aside0.mk g1
    have HB4 := Aside0.mk g2
    have GS := Aside0.mk (common_split.good p FA.out.1 (p.length + 1) 0 (by omega))
    have LS := Aside0.mk (common_split.len p (p.length + 1) 0 (by omega) (by omega))
    clear g1 g2 HL HB
    go_wp2_with fail
    refine (common_match.calls w.heap.size b A c p (common_split.f p) w _ HL4.out HB4.out (by have := LS.out; have := FA.out.1; unfold common_split.f; omega) GS.out).mono ?_
    rintro e w5 ⟨rfl, g1, g2, g3, g4⟩
    have GO := Aside0.mk g3
    have LO : Aside0 ((common_match.f (common_split.f p)).length ≤ 4000) := ⟨by rw [g4]; have := LS.out; have := FA.out.1; unfold common_split.f; omega⟩
    have HB5 := Aside0.mk g2
    obtain ⟨Ao, co, h1, h2, h3, h4⟩ := g1.open
    clear g1 g2 g3 g4 HL4 HB4 GS LS
    generalize common_match.f (common_split.f p) = o at *
    have s1 : w5.cell? ⟨b, 1, none⟩ = some (.slice Ao o.length co) := (blk_cell h1 1).trans rfl
    by_cases cn : o.length = 0
    · have hn : o = [] := List.length_eq_zero_iff.1 cn
      subst hn
      clear cn
      go_wp2
      go_loopg [9, 34] 0 (fun kq v9 v34 w' => v9 = .slice none 0 0 ∧ v34 = .int .i64 0 ∧ Aside0 (Below w.heap.size w w'))
      case atStart => exact ⟨rfl, rfl, HB5⟩
      case round =>
        clear HB5 s1 h1 h2 h3
        obtain ⟨rfl, rfl, HI⟩ := hrel
        go_wp2
        go_ret3
        exact ⟨_, by rw [← H2.out, ← H3.out]; rfl, by rw [← H1.out]; exact Kd.R_nil _ _ _ _ _, HI.out⟩
    · obtain ⟨cp, rfl⟩ := prt_row h3 (by omega)
      have I0 := Aside0.mk (show common_Parse.I w cp o.length co o 0 (.slice none 0 0) [] w5 from ⟨Kd.R_nil _ _ _ _ _, h3, HB5.out⟩)
      clear h1 h2 h3 h4 HB5 cn
      go_wp2
      go_loopg [9, 34] o.length (fun kq v9 v34 w' => ∃ (k : Nat), v34 = .int .i64 (k : Int) ∧ Aside0 (k + kq = o.length ∧ common_Parse.I w cp o.length co o k v9 ((o.take k).flatMap common_Parse.toks) w'))
      case atStart => exact ⟨0, rfl, ⟨by omega, I0.out⟩⟩
      case round =>
        clear I0 s1
        obtain ⟨k, rfl, HI⟩ := hrel
        cases gk with
        | zero =>
          have e : k = o.length := by have := HI.out.1; omega
          subst e
          have hI := HI.out.2
          rw [List.take_length] at hI
          have c5b : decide (o.length < o.length) = false := decide_eq_false (by omega)
          have HX := Aside0.mk hI
          clear hI HI
          go_wp2
          go_ret3
          exact ⟨_, by rw [← H2.out, ← H3.out]; rfl, by rw [← H1.out]; exact HX.out.toks, HX.out.below⟩
        | succ f =>
        have kn : (k : Int) < (o.length : Int) := by have := HI.out.1; omega
        have knt := eq_true kn
        have k0t := eq_true (show (0 : Int) ≤ (k : Int) by omega)
        have c5b : decide ((k : Int) < (o.length : Int)) = true := decide_eq_true kn
        obtain ⟨v, hv, x0, x1, x2, x3, x4, x5, x6⟩ := prt_at HI.out.2.row (k : Int) (by omega) kn
        rw [Int.toNat_natCast] at x0 x1 x2 x3 x4 x5 x6
        have NX := Aside0.mk (common_Parse.take_succ o k (by omega))
        have GX := Aside0.mk (GO.out.at (show (0 : Int) ≤ (k : Int) by omega) kn)
        have KK := Aside0.mk HI.out.1
        have II := Aside0.mk HI.out.2
        have AL : Aside0 (((o.take k).flatMap common_Parse.toks).length ≤ 16000000) := ⟨by have h := common_Parse.all_len (o.take k) (fun y hy => GO.out y (List.mem_of_mem_take hy)); rw [List.length_take] at h; have := LO.out; omega⟩
        have hwk : wrap64 ((k : Int) + 1) = ((k + 1 : Nat) : Int) := by have := LO.out; unfold wrap64; omega
        clear HI kn
        generalize (o.take k).flatMap common_Parse.toks = acc at *
        generalize prtAt o (k : Int) = x at *
        obtain ⟨⟨t0, t1, t2, t3⟩, run, left, passed⟩ := x
        dsimp only at hv x0 x1 x2 x3 x4 x5 x6
        cases run with
        | none =>
          obtain rfl : v = .pointer none := hv
          have zb := blk_new wr (.cells #[.int .i64 t0, .int .i64 t1, .int .i64 t2, .int .i64 t3, .pointer none, .int .i64 left, .bool passed] 57)
          have z0 := (blk_cell zb 0).trans (show _ = some (.int .i64 t0) from rfl)
          have z1 := (blk_cell zb 1).trans (show _ = some (.int .i64 t1) from rfl)
          have z2 := (blk_cell zb 2).trans (show _ = some (.int .i64 t2) from rfl)
          have z3 := (blk_cell zb 3).trans (show _ = some (.int .i64 t3) from rfl)
          have z4 := (blk_cell zb 4).trans (show _ = some (.pointer none) from rfl)
          have TR_ := Aside0.mk (Kd.R_alloc II.out.toks (.cells #[.int .i64 t0, .int .i64 t1, .int .i64 t2, .int .i64 t3, .pointer none, .int .i64 left, .bool passed] 57))
          have RR_ := Aside0.mk (Kd.R_alloc II.out.row (.cells #[.int .i64 t0, .int .i64 t1, .int .i64 t2, .int .i64 t3, .pointer none, .int .i64 left, .bool passed] 57))
          have HB6 := Aside0.mk (below_alloc II.out.below (.cells #[.int .i64 t0, .int .i64 t1, .int .i64 t2, .int .i64 t3, .pointer none, .int .i64 left, .bool passed] 57))
          have TK_ : Aside0 (common_Parse.toks ⟨⟨t0, t1, t2, t3⟩, none, left, passed⟩ = [⟨t0, t1, t2, t3⟩]) := ⟨rfl⟩
          clear zb II
          go_wp2_with (first | (at_builtin; refine Kd.R_append k43 (w0 := w) w.heap.size rfl (.tmp 41) (.tmp 44) 23 43 (.agg #[.int .i64 0, .int .i64 0, .int .i64 0, .int .i64 0]) 32 rfl Tryd.underlying23 info43 rfl (by decide) (by decide) u9 acc (⟨t0, t1, t2, t3⟩ : S43) [.int .i64 t0, .int .i64 t1, .int .i64 t2, .int .i64 t3] (fun _ => True) (fun _ => False) rfl (by first | rfl | (go_simp; done) | (go_simp; rfl) | simp) (k43_mkM _ _ _ _) (fun _ h => h.elim) (fun _ _ => trivial) TR_.out HB6.out HB6.out.size (by have := AL.out; omega) ?_; intro v1 w8 ho hb hg hat; have n0_ := Aside0.mk (show common_Parse.I w cp o.length co o (k + 1) v1 (acc ++ [(⟨t0, t1, t2, t3⟩ : S43)]) w8 from ⟨ho, prt_grown RR_.out TR_.out hg, hb⟩); clear ho hb hg hat TR_ RR_ HB6))
          go_roundg f
          case measure => omega
          case rel => exact ⟨k + 1, by rw [hwk], ⟨by have := KK.out; omega, by rw [NX.out, TK_.out]; exact n0_.out⟩⟩
        | some r =>
          obtain ⟨gr, rfl, _, hgr⟩ := hv
          have RB := Aside0.mk (GX.out.2 r rfl).2
          have LB := Aside0.mk GX.out.1
          have zb := blk_new wr (.cells #[.int .i64 t0, .int .i64 t1, .int .i64 t2, .int .i64 t3, .pointer (some ⟨gr, 0, none⟩), .int .i64 left, .bool passed] 57)
          have z4 := (blk_cell zb 4).trans (show _ = some (.pointer (some ⟨gr, 0, none⟩)) from rfl)
          have z5 := (blk_cell zb 5).trans (show _ = some (.int .i64 left) from rfl)
          have J0 := Aside0.mk (show common_Parse.I w cp o.length co o k u9 acc (wr.alloc (.cells #[.int .i64 t0, .int .i64 t1, .int .i64 t2, .int .i64 t3, .pointer (some ⟨gr, 0, none⟩), .int .i64 left, .bool passed] 57)) ∧ (wr.alloc (.cells #[.int .i64 t0, .int .i64 t1, .int .i64 t2, .int .i64 t3, .pointer (some ⟨gr, 0, none⟩), .int .i64 left, .bool passed] 57)).heap[wr.heap.size]? = some (.cells #[.int .i64 t0, .int .i64 t1, .int .i64 t2, .int .i64 t3, .pointer (some ⟨gr, 0, none⟩), .int .i64 left, .bool passed] 57 (0, 0)) ∧ (wr.alloc (.cells #[.int .i64 t0, .int .i64 t1, .int .i64 t2, .int .i64 t3, .pointer (some ⟨gr, 0, none⟩), .int .i64 left, .bool passed] 57)).heap[gr]? = some (.cells (encRun r) 38 (0, 0))
            from ⟨⟨Kd.R_alloc II.out.toks _, Kd.R_alloc II.out.row _, below_alloc II.out.below _⟩, zb, blk_alloc hgr _⟩)
          have TK_ : Aside0 (common_Parse.toks ⟨⟨t0, t1, t2, t3⟩, some r, left, passed⟩ = List.replicate left.toNat (⟨0, 0, r.f2, t3⟩ : S43)) := ⟨rfl⟩
          have hwr : wrap64 r.f2 = r.f2 := by have := RB.out; unfold wrap64; omega
          have hwr2 : IntKind.i64.wrap r.f2 = r.f2 := (i64_w _).trans hwr
          clear zb II hgr GX
          go_wp2
          generalize wr.alloc (.cells #[.int .i64 t0, .int .i64 t1, .int .i64 t2, .int .i64 t3, .pointer (some ⟨gr, 0, none⟩), .int .i64 left, .bool passed] 57) = w6 at *
          generalize wr.heap.size = gb at *
          go_loopg [9, 48] left.toNat (fun kq2 v9 v48 w' => ∃ (m : Nat), v48 = .int .i64 (m : Int) ∧ Aside0 (m + kq2 = left.toNat ∧ common_Parse.I w cp o.length co o k v9 (acc ++ List.replicate m (⟨0, 0, r.f2, t3⟩ : S43)) w' ∧ w'.heap[gb]? = some (.cells #[.int .i64 t0, .int .i64 t1, .int .i64 t2, .int .i64 t3, .pointer (some ⟨gr, 0, none⟩), .int .i64 left, .bool passed] 57 (0, 0)) ∧ w'.heap[gr]? = some (.cells (encRun r) 38 (0, 0))))
          case atStart => exact ⟨0, rfl, ⟨by omega, by rw [List.replicate_zero, List.append_nil]; exact J0.out.1, J0.out.2.1, J0.out.2.2⟩⟩
          case round =>
            clear J0 z4 z5
            obtain ⟨m, rfl, HJ⟩ := hrel
            cases gk with
            | zero =>
              have e : m = left.toNat := by have := HJ.out.1; omega
              have c6b : decide ((m : Int) < left) = false := decide_eq_false (by have := LB.out; omega)
              have c6f : ((m : Int) < left) = False := eq_false (by have := LB.out; omega)
              have HX := Aside0.mk HJ.out.2.1
              rw [e] at HX
              clear HJ
              go_wp2
              go_roundg f
              case measure => omega
              case rel => exact ⟨k + 1, by rw [hwk], ⟨by have := KK.out; omega, by rw [NX.out, TK_.out]; exact ⟨HX.out.toks, HX.out.row, HX.out.below⟩⟩⟩
            | succ f2 =>
              have c6b : decide ((m : Int) < left) = true := decide_eq_true (by have := HJ.out.1; omega)
              have c6t : ((m : Int) < left) = True := eq_true (by have := HJ.out.1; omega)
              have y4 := (blk_cell HJ.out.2.2.1 4).trans (show _ = some (.pointer (some ⟨gr, 0, none⟩)) from rfl)
              have y3 := (blk_cell HJ.out.2.2.1 3).trans (show _ = some (.int .i64 t3) from rfl)
              have yr := (blk_cell HJ.out.2.2.2 2).trans (show _ = some (.int .u8 r.f2) from rfl)
              have M1 := Aside0.mk HJ.out.1
              have II := Aside0.mk HJ.out.2
              have hwm : wrap64 ((m : Int) + 1) = ((m + 1 : Nat) : Int) := by have := LB.out; have := M1.out; unfold wrap64; omega
              have RP := Aside0.mk (show acc ++ List.replicate m (⟨0, 0, r.f2, t3⟩ : S43) ++ [⟨0, 0, r.f2, t3⟩] = acc ++ List.replicate (m + 1) (⟨0, 0, r.f2, t3⟩ : S43) from by rw [List.append_assoc, ← List.replicate_succ'])
              have AM : Aside0 ((acc ++ List.replicate m (⟨0, 0, r.f2, t3⟩ : S43)).length ≤ 16100000) := ⟨by rw [List.length_append, List.length_replicate]; have := AL.out; have := M1.out; have := LB.out; omega⟩
              clear HJ
              generalize acc ++ List.replicate m (⟨0, 0, r.f2, t3⟩ : S43) = ac at *
              go_wp2
              refine start_ (n := 14) (S := fun w' => w'.cell? ⟨gb, 4, none⟩ = some (.pointer (some ⟨gr, 0, none⟩)) ∧ w'.cell? ⟨gr, 2, none⟩ = some (.int .u8 r.f2) ∧ w'.cell? ⟨gb, 3, none⟩ = some (.int .i64 t3)) (ds := [12]) #[Ff,Ff,Ff,Ff,Ff,Ff,Ff,Ff,Ff,Ff,Ff,Ff,Ff,Ff] (by kernel_rfl) rfl rfl ⟨y4, yr, y3⟩ (fun hHeld => ?_)
              refine with_tabW common_Parse.tab15 common_Parse.bits15 (fun HT_ HW_ => ?_)
              have TW := Aside0.mk (Kd.R_drew II.out.1.toks)
              have RW := Aside0.mk (Kd.R_drew II.out.1.row)
              have BW := Aside0.mk (show Below w.heap.size w wr.drew from Below.drew II.out.1.below)
              have ZB := Aside0.mk (blk_drew II.out.2.1)
              have ZR := Aside0.mk (blk_drew II.out.2.2)
              clear II y4 yr y3
              generalize wr.drew = w7 at *
              refine pure_ (i := 0) (N := some 50) (v := ?_) (a' := ?_) #[Tt,Ff,Ff,Ff,Ff,Ff,Ff,Ff,Ff,Ff,Ff,Ff,Ff,Ff] rfl rfl (any_of HT_.out (by kernel_rfl)) (fun _ _ _ h => h) (Or.inl ⟨by rfl, ?_⟩) ?_ ?_;rotate_left;(intro w';go_simp;with_reducible rfl);rotate_left;(simp only [Act.put, List.setIfInBounds_toArray, List.set_cons_zero, List.set_cons_succ, i64_w, i32_w];rfl)
              refine pure_ (i := 1) (N := some 51) (v := ?_) (a' := ?_) #[Tt,Tt,Ff,Ff,Ff,Ff,Ff,Ff,Ff,Ff,Ff,Ff,Ff,Ff] rfl rfl (any_of HT_.out (by kernel_rfl)) (fun _ _ _ h => h) (Or.inl ⟨by rfl, ?_⟩) ?_ ?_;rotate_left;(intro w';go_simp;with_reducible rfl);rotate_left;(simp only [Act.put, List.setIfInBounds_toArray, List.set_cons_zero, List.set_cons_succ, i64_w, i32_w];rfl)
              refine take_ (i := 2) (N := some 52) (v := ?_) (a' := ?_) #[Tt,Tt,Tt,Ff,Ff,Ff,Ff,Ff,Ff,Ff,Ff,Ff,Ff,Ff] rfl rfl (take_ofW HT_.out HW_.out (by kernel_rfl)) (fun _ _ _ h => h) (Or.inl ⟨by rfl, ?_⟩) hHeld ?_ ?_;rotate_left;(rintro w' ⟨s0, s1, s2⟩;go_simp;with_reducible rfl);rotate_left;(simp only [Act.put, List.setIfInBounds_toArray, List.set_cons_zero, List.set_cons_succ, i64_w, i32_w];rfl)
              refine pure_ (i := 3) (N := some 53) (v := ?_) (a' := ?_) #[Tt,Tt,Tt,Tt,Ff,Ff,Ff,Ff,Ff,Ff,Ff,Ff,Ff,Ff] rfl rfl (any_of HT_.out (by kernel_rfl)) (fun _ _ _ h => h) (Or.inl ⟨by rfl, ?_⟩) ?_ ?_;rotate_left;(intro w';go_simp;with_reducible rfl);rotate_left;(simp only [Act.put, List.setIfInBounds_toArray, List.set_cons_zero, List.set_cons_succ, i64_w, i32_w];rfl)
              refine pure_ (i := 4) (N := some 54) (v := ?_) (a' := ?_) #[Tt,Tt,Tt,Tt,Tt,Ff,Ff,Ff,Ff,Ff,Ff,Ff,Ff,Ff] rfl rfl (any_of HT_.out (by kernel_rfl)) (fun _ _ _ h => h) (Or.inl ⟨by rfl, ?_⟩) ?_ ?_;rotate_left;(intro w';go_simp;with_reducible rfl);rotate_left;(simp only [Act.put, List.setIfInBounds_toArray, List.set_cons_zero, List.set_cons_succ, i64_w, i32_w];rfl)
              refine take_ (i := 5) (N := some 55) (v := ?_) (a' := ?_) #[Tt,Tt,Tt,Tt,Tt,Tt,Ff,Ff,Ff,Ff,Ff,Ff,Ff,Ff] rfl rfl (take_ofW HT_.out HW_.out (by kernel_rfl)) (fun _ _ _ h => h) (Or.inl ⟨by rfl, ?_⟩) hHeld ?_ ?_;rotate_left;(rintro w' ⟨s0, s1, s2⟩;go_simp;with_reducible rfl);rotate_left;(simp only [Act.put, List.setIfInBounds_toArray, List.set_cons_zero, List.set_cons_succ, i64_w, i32_w];rfl)
              refine pure_ (i := 6) (N := some 56) (v := ?_) (a' := ?_) #[Tt,Tt,Tt,Tt,Tt,Tt,Tt,Ff,Ff,Ff,Ff,Ff,Ff,Ff] rfl rfl (any_of HT_.out (by kernel_rfl)) (fun _ _ _ h => h) (Or.inl ⟨by rfl, ?_⟩) ?_ ?_;rotate_left;(intro w';go_simp;with_reducible rfl);rotate_left;(simp only [Act.put, List.setIfInBounds_toArray, List.set_cons_zero, List.set_cons_succ, i64_w, i32_w];rfl)
              refine pure_ (i := 7) (N := some 57) (v := ?_) (a' := ?_) #[Tt,Tt,Tt,Tt,Tt,Tt,Tt,Tt,Ff,Ff,Ff,Ff,Ff,Ff] rfl rfl (any_of HT_.out (by kernel_rfl)) (fun _ _ _ h => h) (Or.inl ⟨by rfl, ?_⟩) ?_ ?_;rotate_left;(intro w';go_simp;with_reducible rfl);rotate_left;(simp only [Act.put, List.setIfInBounds_toArray, List.set_cons_zero, List.set_cons_succ, i64_w, i32_w];rfl)
              refine pure_ (i := 8) (N := some 58) (v := ?_) (a' := ?_) #[Tt,Tt,Tt,Tt,Tt,Tt,Tt,Tt,Tt,Ff,Ff,Ff,Ff,Ff] rfl rfl (any_of HT_.out (by kernel_rfl)) (fun _ _ _ h => h) (Or.inl ⟨by rfl, ?_⟩) ?_ ?_;rotate_left;(intro w';go_simp;with_reducible rfl);rotate_left;(simp only [Act.put, List.setIfInBounds_toArray, List.set_cons_zero, List.set_cons_succ, i64_w, i32_w];rfl)
              refine take_ (i := 9) (N := some 59) (v := ?_) (a' := ?_) #[Tt,Tt,Tt,Tt,Tt,Tt,Tt,Tt,Tt,Tt,Ff,Ff,Ff,Ff] rfl rfl (take_ofW HT_.out HW_.out (by kernel_rfl)) (fun _ _ _ h => h) (Or.inl ⟨by rfl, ?_⟩) hHeld ?_ ?_;rotate_left;(rintro w' ⟨s0, s1, s2⟩;go_simp;with_reducible rfl);rotate_left;(simp only [Act.put, List.setIfInBounds_toArray, List.set_cons_zero, List.set_cons_succ, i64_w, i32_w];rfl)
              refine pure_ (i := 10) (N := some 60) (v := ?_) (a' := ?_) #[Tt,Tt,Tt,Tt,Tt,Tt,Tt,Tt,Tt,Tt,Tt,Ff,Ff,Ff] rfl rfl (any_of HT_.out (by kernel_rfl)) (fun _ _ _ h => h) (Or.inl ⟨by rfl, ?_⟩) ?_ ?_;rotate_left;(intro w';go_simp;with_reducible rfl);rotate_left;(simp only [Act.put, List.setIfInBounds_toArray, List.set_cons_zero, List.set_cons_succ, i64_w, i32_w];rfl)
              refine one_ (i := 11) (N := some 61) #[Tt,Tt,Tt,Tt,Tt,Tt,Tt,Tt,Tt,Tt,Tt,Tt,Ff,Ff] rfl rfl (one_of HT_.out (by kernel_rfl)) (by decide) (fun K hK => ?_)
              refine value_ (w1 := ?_) (v := ?_) (by rfl) rfl ?_ ?_
              rotate_left 2
              · go_simp
                constructor
                · rfl
                · rfl
              refine hK.out _ _ ⟨cell_grown (World.grownBy_alloc w7 (.cells #[.int .i64 0, .int .i64 0, .int .i64 r.f2, .int .i64 t3] 43 (0, 0)) none) hHeld.1 (by simp), cell_grown (World.grownBy_alloc w7 (.cells #[.int .i64 0, .int .i64 0, .int .i64 r.f2, .int .i64 t3] 43 (0, 0)) none) hHeld.2.1 (by simp), cell_grown (World.grownBy_alloc w7 (.cells #[.int .i64 0, .int .i64 0, .int .i64 r.f2, .int .i64 t3] 43 (0, 0)) none) hHeld.2.2 (by simp)⟩ (fun hHeld => ?_)
              clear hK K
              refine norm_ (a' := ?_) ?_ ?_
              rotate_left
              · show Act.put _ (some 61) _ = _
                simp only [Act.put, List.setIfInBounds_toArray, List.set_cons_zero, List.set_cons_succ, i64_w, i32_w]
                rfl
              refine last_ (i := 12) (N := some 62) #[Tt,Tt,Tt,Tt,Tt,Tt,Tt,Tt,Tt,Tt,Tt,Tt,Tt,Ff] rfl rfl (one_of HT_.out (by kernel_rfl)) (by decide) (fun K hK => ?_)
              refine Kd.R_append_step k43 (w0 := w) w.heap.size (by rfl) (.tmp 50) (.tmp 61) 23 43 (.agg #[.int .i64 0, .int .i64 0, .int .i64 0, .int .i64 0]) 32 rfl Tryd.underlying23 info43 rfl (by decide) (by omega) u9 ac (⟨0, 0, r.f2, t3⟩ : S43) [.int .i64 0, .int .i64 0, .int .i64 r.f2, .int .i64 t3] (fun _ => True) (fun _ => False) rfl rfl (k43_mkM _ _ _ _) (fun _ hk => hk.elim) (fun _ _ => trivial) TW.out BW.out BW.out.size (by have := AM.out; omega) ?_
              intro v1 w9 hR1 hb9 hg1 hat1
              have N1 := Aside0.mk (show common_Parse.I w cp o.length co o k v1 (ac ++ [(⟨0, 0, r.f2, t3⟩ : S43)]) w9 ∧ w9.heap[gb]? = some (.cells #[.int .i64 t0, .int .i64 t1, .int .i64 t2, .int .i64 t3, .pointer (some ⟨gr, 0, none⟩), .int .i64 left, .bool passed] 57 (0, 0)) ∧ w9.heap[gr]? = some (.cells (encRun r) 38 (0, 0)) from ⟨⟨hR1, prt_grown RW.out TW.out hg1, hb9⟩, blk_grown ZB.out hg1 (Kd.R_ne TW.out ZB.out (by decide)), blk_grown ZR.out hg1 (Kd.R_ne TW.out ZR.out (by decide))⟩)
              clear hR1 hb9 hg1 hat1 TW RW BW ZB ZR
              refine hK.out _ _ ?_
              clear hK K
              refine norm_ (a' := ?_) ?_ ?_
              rotate_left
              · show Act.put _ (some 62) _ = _
                simp only [Act.put, List.setIfInBounds_toArray, List.set_cons_zero, List.set_cons_succ, i64_w, i32_w]
                rfl
              refine pure_ (i := 13) (N := some 9) (v := ?_) (a' := ?_) #[Tt,Tt,Tt,Tt,Tt,Tt,Tt,Tt,Tt,Tt,Tt,Tt,Tt,Tt] rfl rfl (any_of HT_.out (by kernel_rfl)) (fun _ _ _ h => h) (Or.inl ⟨by rfl, ?_⟩) ?_ ?_;rotate_left;(intro w';go_simp;with_reducible rfl);rotate_left;(simp only [Act.put, List.setIfInBounds_toArray, List.set_cons_zero, List.set_cons_succ, i64_w, i32_w];rfl)
              refine done_ (done_of HT_.out (by kernel_rfl)) ?_
              go_wp2
              go_roundg f2
              case measure => omega
              case rel => exact ⟨m + 1, by rw [hwm], ⟨by have := M1.out; omega, by rw [← RP.out]; exact N1.out.1, N1.out.2.1, N1.out.2.2⟩⟩
  · have c1b : (e1 != 0) = true := bne_iff_ne.mpr c1
    have h := H.out
    rw [if_neg c1] at h
    simp only [Option.some.injEq, Prod.mk.injEq] at h
    obtain ⟨rfl, rfl, rfl⟩ := h
    clear c1 H
    go_wp2
    go_ret3
    exact ⟨_, rfl, Kd.R_nil _ _ _ _ _, HB.out⟩

end Go.Proofs.YtfnafjohfmlniaaDoor.PCs
-- Written for this claim by a program (the kit's print, with hand-made contracts for what it does not take).
namespace Go.Proofs.YtfnafjohfmlniaaDoor.PCs
open Go.RowKit Go.Proofs.YtfnafjohfmlniaaDoorW.PrintWords Go.Proofs.YtfnafjohfmlniaaDoorW.PrintLast Go.Proofs.YtfnafjohfmlniaaDoorW.PrintMore
attribute [local go_sem] max2_int min2_int max_two min_two max_three min_three max_four min_four   -- for this text's walks alone
set_option linter.unusedVariables false
set_option linter.unusedSimpArgs false

/-! ### emenderlaw28_awake: function 9 -/
def emenderlaw28_awake.f  : Option (Bool) := (common_Parse.f (⟨#[42, 97, 42]⟩ : ByteArray)).bind fun bt104 => (if bt104.2.2 = 0 then (if (bt104.1.length : Int) = 1 then (if 0 < (bt104.1.length : Int) then (some (((rd_T43 bt104.1 0).f3) == 2)) else (none)) else (some false)) else (some false))
set_option maxHeartbeats 8000000 in
set_option maxRecDepth 100000 in
theorem emenderlaw28_awake.calls  (r : Bool) (w : World) (h : emenderlaw28_awake.f  = some r) (hT_ : Lib.Utf8Tabs 0 1 w := by first | exact u8_below HU8_.out (by repeat (first | (with_reducible first | exact HB.out | apply below_alloc | apply pw_below_drewN | apply below_drew1) | exact HB.out)) | exact u8_below HT_.out (by repeat (first | (with_reducible first | exact HB.out | apply below_alloc | apply pw_below_drewN | apply below_drew1) | exact HB.out))) :
    Calls Tryd.prog 9 #[] w fun e w' => e = .returned (.bool r) ∧ Below w.heap.size w w' := by
  have HT_ := Aside0.mk hT_
  clear hT_
  have HB := Aside0.mk (Below.refl w.heap.size w)
  have H : ((common_Parse.f (⟨#[42, 97, 42]⟩ : ByteArray)).bind fun bt104 => (if bt104.2.2 = 0 then (if (bt104.1.length : Int) = 1 then (if 0 < (bt104.1.length : Int) then (some (((rd_T43 bt104.1 0).f3) == 2)) else (none)) else (some false)) else (some false))) = some r := h
  clear h
  replace H := Option.bind_eq_some_iff.mp H
  obtain ⟨⟨t104, t105, t106⟩, A10, H⟩ := H
  replace H : (if t106 = 0 then (if (t104.length : Int) = 1 then (if 0 < (t104.length : Int) then (some (((rd_T43 t104 0).f3) == 2)) else (none)) else (some false)) else (some false)) = some r := H
  have A1 := Aside0.mk A10
  clear A10
  by_cases c2 : t106 = 0
  · rw [if_pos c2] at H
    have c2b0 : (t106 == 0) = true := beq_iff_eq.mpr c2
    have c2b1 : (t106 != 0) = false := bne_eq_false_iff_eq.mpr c2
    clear c2
    by_cases c3 : (t104.length : Int) = 1
    · rw [if_pos c3] at H
      have c3b0 : ((t104.length : Int) == 1) = true := beq_iff_eq.mpr c3
      have c3b1 : ((t104.length : Int) != 1) = false := bne_eq_false_iff_eq.mpr c3
      clear c3
      by_cases c4 : 0 < (t104.length : Int)
      · rw [if_pos c4] at H
        have c4b0 : decide (0 < (t104.length : Int)) = true := decide_eq_true c4
        have c4b1 : decide (0 < t104.length) = true := decide_eq_true (by omega)
        clear c4
        obtain rfl := Option.some.inj H
        go_enter Tryd.func9, Tryd.ntmps9
        go_wp2_with (first | ((with_reducible refine gate_callee (f := 10) rfl ?_); refine goesL_ (some 5) rfl rfl Tryd.func10 (by kernel_rfl) rfl #[.string (⟨#[42, 97, 42]⟩ : ByteArray)] rfl (by (try simp only [List.map_toArray, List.map_cons, List.map_nil]); first | done | rfl | (simp only [List.length_drop, List.length_take]; rfl)) ?_; (with_reducible refine (common_Parse.calls (⟨#[42, 97, 42]⟩ : ByteArray) t104 t105 t106 _ A1.out).mono ?_); rintro e w5 ⟨v107, rfl, ho0, hb⟩; refine ⟨_, rfl, ?_⟩; have n0_ := Aside0.mk (Kd.R_lower ho0 (below_size (by repeat (first | (with_reducible first | exact HB.out | apply below_alloc | apply pw_below_drewN | apply below_drew1) | exact HB.out)))); have n1_ := Aside0.mk (below_step (by repeat (first | (with_reducible first | exact HB.out | apply below_alloc | apply pw_below_drewN | apply below_drew1) | exact HB.out)) hb); clear HB; have HO108 := n0_; have HB := n1_; clear n0_ n1_; (try clear hb); (try clear hb2); (try clear hk); (try clear hi); (try clear ho0); obtain ⟨Ao6, co6, eo6⟩ := Kd.R_slice HO108.out; subst eo6; have p109 : 0 ≤ (0 : Int) := (by omega); have q109 : 0 < (t104.length : Int) := of_decide_eq_true (by first | (with_reducible assumption) | assumption); obtain ⟨ad109, e109, hx109_0, hx109_1, hx109_2, hx109_3⟩ := at_T43 (Kd.R_reads' HO108.out).2.2 0 p109 q109; cases e109; have qi109 : (0 < t104.length) = True := eq_true (by omega); (try rw [show ((0 : Int)).toNat = 0 from rfl] at hx109_0); (try rw [show 0 * 4 = 0 from rfl] at hx109_0); (try rw [Addr.add_zero'] at hx109_0); (try rw [show ((0 : Int)).toNat = 0 from rfl] at hx109_1); (try rw [show 0 * 4 = 0 from rfl] at hx109_1); (try rw [Addr.add_zero'] at hx109_1); (try rw [show ((0 : Int)).toNat = 0 from rfl] at hx109_2); (try rw [show 0 * 4 = 0 from rfl] at hx109_2); (try rw [Addr.add_zero'] at hx109_2); (try rw [show ((0 : Int)).toNat = 0 from rfl] at hx109_3); (try rw [show 0 * 4 = 0 from rfl] at hx109_3); (try rw [Addr.add_zero'] at hx109_3); replace p109 := eq_true p109; replace q109 := eq_true q109))
        go_ret
        exact ⟨by first | rfl | (simp [errW_none, errW_some] <;> rfl) | (simp [*, errW_none, errW_some] <;> rfl), by repeat (first | (with_reducible first | exact HB.out | apply below_alloc | apply pw_below_drewN | apply below_drew1) | exact HB.out)⟩
      · rw [if_neg c4] at H
        exact absurd H (by simp)
    · rw [if_neg c3] at H
      have c3b0 : ((t104.length : Int) == 1) = false := beq_eq_false_iff_ne.mpr c3
      have c3b1 : ((t104.length : Int) != 1) = true := bne_iff_ne.mpr c3
      obtain rfl := Option.some.inj H
      go_enter Tryd.func9, Tryd.ntmps9
      go_wp2_with (first | ((with_reducible refine gate_callee (f := 10) rfl ?_); refine goesL_ (some 5) rfl rfl Tryd.func10 (by kernel_rfl) rfl #[.string (⟨#[42, 97, 42]⟩ : ByteArray)] rfl (by (try simp only [List.map_toArray, List.map_cons, List.map_nil]); first | done | rfl | (simp only [List.length_drop, List.length_take]; rfl)) ?_; (with_reducible refine (common_Parse.calls (⟨#[42, 97, 42]⟩ : ByteArray) t104 t105 t106 _ A1.out).mono ?_); rintro e w7 ⟨v107, rfl, ho0, hb⟩; refine ⟨_, rfl, ?_⟩; have n0_ := Aside0.mk (Kd.R_lower ho0 (below_size (by repeat (first | (with_reducible first | exact HB.out | apply below_alloc | apply pw_below_drewN | apply below_drew1) | exact HB.out)))); have n1_ := Aside0.mk (below_step (by repeat (first | (with_reducible first | exact HB.out | apply below_alloc | apply pw_below_drewN | apply below_drew1) | exact HB.out)) hb); clear HB; have HO108 := n0_; have HB := n1_; clear n0_ n1_; (try clear hb); (try clear hb2); (try clear hk); (try clear hi); (try clear ho0); obtain ⟨Ao8, co8, eo8⟩ := Kd.R_slice HO108.out; subst eo8))
      go_ret
      exact ⟨by first | rfl | (simp [errW_none, errW_some] <;> rfl) | (simp [*, errW_none, errW_some] <;> rfl), by repeat (first | (with_reducible first | exact HB.out | apply below_alloc | apply pw_below_drewN | apply below_drew1) | exact HB.out)⟩
  · rw [if_neg c2] at H
    have c2b0 : (t106 == 0) = false := beq_eq_false_iff_ne.mpr c2
    have c2b1 : (t106 != 0) = true := bne_iff_ne.mpr c2
    obtain rfl := Option.some.inj H
    go_enter Tryd.func9, Tryd.ntmps9
    go_wp2_with (first | ((with_reducible refine gate_callee (f := 10) rfl ?_); refine goesL_ (some 5) rfl rfl Tryd.func10 (by kernel_rfl) rfl #[.string (⟨#[42, 97, 42]⟩ : ByteArray)] rfl (by (try simp only [List.map_toArray, List.map_cons, List.map_nil]); first | done | rfl | (simp only [List.length_drop, List.length_take]; rfl)) ?_; (with_reducible refine (common_Parse.calls (⟨#[42, 97, 42]⟩ : ByteArray) t104 t105 t106 _ A1.out).mono ?_); rintro e w9 ⟨v107, rfl, ho0, hb⟩; refine ⟨_, rfl, ?_⟩; have n0_ := Aside0.mk (Kd.R_lower ho0 (below_size (by repeat (first | (with_reducible first | exact HB.out | apply below_alloc | apply pw_below_drewN | apply below_drew1) | exact HB.out)))); have n1_ := Aside0.mk (below_step (by repeat (first | (with_reducible first | exact HB.out | apply below_alloc | apply pw_below_drewN | apply below_drew1) | exact HB.out)) hb); clear HB; have HO108 := n0_; have HB := n1_; clear n0_ n1_; (try clear hb); (try clear hb2); (try clear hk); (try clear hi); (try clear ho0)))
    go_ret
    exact ⟨by first | rfl | (simp [errW_none, errW_some] <;> rfl) | (simp [*, errW_none, errW_some] <;> rfl), by repeat (first | (with_reducible first | exact HB.out | apply below_alloc | apply pw_below_drewN | apply below_drew1) | exact HB.out)⟩

/-! ### emenderref04_Point: function 59 -/
def emenderref04_Point.f (a0 : Int) : Option (Bool) := if a0 ≥ 0 then (if a0 ≤ 1114111 then (if a0 < 55296 then (some true) else (some (decide (a0 > 57343)))) else (some false)) else (some false)
set_option maxHeartbeats 8000000 in
set_option maxRecDepth 100000 in
theorem emenderref04_Point.calls (a0 : Int) (r : Bool) (w : World) (h : emenderref04_Point.f a0 = some r) :
    Calls Tryd.prog 59 #[.int .i64 a0] w fun e w' => e = .returned (.bool r) ∧ Drawn0 w w' := by
  have H : (if a0 ≥ 0 then (if a0 ≤ 1114111 then (if a0 < 55296 then (some true) else (some (decide (a0 > 57343)))) else (some false)) else (some false)) = some r := h
  clear h
  by_cases c2 : a0 ≥ 0
  · rw [if_pos c2] at H
    have c2b0 : decide (0 ≤ a0) = true := decide_eq_true c2
    clear c2
    by_cases c3 : a0 ≤ 1114111
    · rw [if_pos c3] at H
      have c3b0 : decide (a0 ≤ 1114111) = true := decide_eq_true c3
      clear c3
      by_cases c4 : a0 < 55296
      · rw [if_pos c4] at H
        have c4b0 : decide (a0 < 55296) = true := decide_eq_true c4
        clear c4
        obtain rfl := Option.some.inj H
        go_enter Tryd.func59, Tryd.ntmps59
        go_wp2
        go_ret
        exact ⟨by first | rfl | (simp; done) | (simp [*]; done), by repeat (first | exact Drawn0.refl _ | apply Drawn0.step)⟩
      · rw [if_neg c4] at H
        have c4b0 : decide (a0 < 55296) = false := decide_eq_false c4
        clear c4
        obtain rfl := Option.some.inj H
        go_enter Tryd.func59, Tryd.ntmps59
        go_wp2
        go_ret
        exact ⟨by first | rfl | (simp; done) | (simp [*]; done), by repeat (first | exact Drawn0.refl _ | apply Drawn0.step)⟩
    · rw [if_neg c3] at H
      have c3b0 : decide (a0 ≤ 1114111) = false := decide_eq_false c3
      clear c3
      obtain rfl := Option.some.inj H
      go_enter Tryd.func59, Tryd.ntmps59
      go_wp2
      go_ret
      exact ⟨by first | rfl | (simp; done) | (simp [*]; done), by repeat (first | exact Drawn0.refl _ | apply Drawn0.step)⟩
  · rw [if_neg c2] at H
    have c2b0 : decide (0 ≤ a0) = false := decide_eq_false c2
    clear c2
    obtain rfl := Option.some.inj H
    go_enter Tryd.func59, Tryd.ntmps59
    go_wp2
    go_ret
    exact ⟨by first | rfl | (simp; done) | (simp [*]; done), by repeat (first | exact Drawn0.refl _ | apply Drawn0.step)⟩

end Go.Proofs.YtfnafjohfmlniaaDoor.PCs
-- Written for this claim by a program (the kit's print, with hand-made contracts for what it does not take).
namespace Go.Proofs.YtfnafjohfmlniaaDoor.PCs
open Go.RowKit Go.Proofs.YtfnafjohfmlniaaDoorW.PrintWords Go.Proofs.YtfnafjohfmlniaaDoorW.PrintLast Go.Proofs.YtfnafjohfmlniaaDoorW.PrintMore
attribute [local go_sem] max2_int min2_int max_two min_two max_three min_three max_four min_four   -- for this text's walks alone
set_option linter.unusedVariables false
set_option linter.unusedSimpArgs false

/-! ### emenderref14_Point: function 51 -/
mutual
def emenderref14_Point.j2 : Nat → ByteArray → Int → Int → Int → Int → Option (Int × Int)
  | 0, _, _, _, _, _ => none
  | k + 1, x0, x1, x6, x7, x8 => if x6 = 0 then (emenderref14_Point.j3 k x0 x1 x6 x7 x8 true) else (emenderref14_Point.j3 k x0 x1 x6 x7 x8 (decide ((wrap64 (x1 + x6)) > (x0.size : Int))))
def emenderref14_Point.j3 : Nat → ByteArray → Int → Int → Int → Int → Bool → Option (Int × Int)
  | 0, _, _, _, _, _, _ => none
  | k + 1, x0, x1, x6, x7, x8, x54 => if x54 = true then (some (0, 0)) else (emenderref14_Point.l0 k x0 x1 x6 x7 x8 1)
def emenderref14_Point.l0 : Nat → ByteArray → Int → Int → Int → Int → Int → Option (Int × Int)
  | 0, _, _, _, _, _, _ => none
  | k + 1, x0, x1, x6, x7, x8, x9 => if x9 < x6 then (if 0 ≤ (wrap64 (x1 + x9)) then (if (wrap64 (x1 + x9)) < (x0.size : Int) then (if (Go.bits .and .u8 (bt x0 (wrap64 (x1 + x9))) 192) = 128 then (emenderref14_Point.l0 k x0 x1 x6 x7 (Go.bits .or .i64 (wrap64 (x8 * 64)) (wrap64 (Go.bits .and .u8 (bt x0 (wrap64 (x1 + x9))) 63))) (wrap64 (x9 + 1))) else (some (0, 0))) else (none)) else (none)) else (if x8 < x7 then (some (0, 0)) else ((emenderref04_Point.f x8).bind fun t110 => (if t110 = true then (some (x8, x6)) else (some (0, 0)))))
def emenderref14_Point.j0 : Nat → ByteArray → Int → Int → Int → Int → Bool → Option (Int × Int)
  | 0, _, _, _, _, _, _ => none
  | k + 1, x0, x1, x6, x7, x8, x18 => if x18 = true then (emenderref14_Point.j2 k x0 x1 2 128 (Go.bits .and .i64 x8 31)) else (if x8 ≥ 224 then (emenderref14_Point.j1 k x0 x1 x6 x7 x8 (decide (x8 < 240))) else (emenderref14_Point.j1 k x0 x1 x6 x7 x8 false))
def emenderref14_Point.j1 : Nat → ByteArray → Int → Int → Int → Int → Bool → Option (Int × Int)
  | 0, _, _, _, _, _, _ => none
  | k + 1, x0, x1, x6, x7, x8, x27 => if x27 = true then (emenderref14_Point.j2 k x0 x1 3 2048 (Go.bits .and .i64 x8 15)) else (if x8 ≥ 240 then (if x8 < 248 then (emenderref14_Point.j2 k x0 x1 4 65536 (Go.bits .and .i64 x8 7)) else (emenderref14_Point.j2 k x0 x1 x6 x7 x8)) else (emenderref14_Point.j2 k x0 x1 x6 x7 x8))
end
def emenderref14_Point.f (k : Nat) (a0 : ByteArray) (a1 : Int) : Option (Int × Int) := if 0 ≤ a1 then (if a1 < (a0.size : Int) then (if (wrap64 (bt a0 a1)) < 128 then (some (wrap64 (bt a0 a1), 1)) else (if (wrap64 (bt a0 a1)) ≥ 192 then (emenderref14_Point.j0 k a0 a1 0 0 (wrap64 (bt a0 a1)) (decide ((wrap64 (bt a0 a1)) < 224))) else (emenderref14_Point.j0 k a0 a1 0 0 (wrap64 (bt a0 a1)) false))) else (none)) else (none)
theorem emenderref14_Point.mono_l : ∀ k, (∀ y0 y1 y2 y3 y4, LeO (emenderref14_Point.j2 k y0 y1 y2 y3 y4) (emenderref14_Point.j2 (k + 1) y0 y1 y2 y3 y4)) ∧ (∀ y0 y1 y2 y3 y4 y5, LeO (emenderref14_Point.j3 k y0 y1 y2 y3 y4 y5) (emenderref14_Point.j3 (k + 1) y0 y1 y2 y3 y4 y5)) ∧ (∀ y0 y1 y2 y3 y4 y5, LeO (emenderref14_Point.l0 k y0 y1 y2 y3 y4 y5) (emenderref14_Point.l0 (k + 1) y0 y1 y2 y3 y4 y5)) ∧ (∀ y0 y1 y2 y3 y4 y5, LeO (emenderref14_Point.j0 k y0 y1 y2 y3 y4 y5) (emenderref14_Point.j0 (k + 1) y0 y1 y2 y3 y4 y5)) ∧ (∀ y0 y1 y2 y3 y4 y5, LeO (emenderref14_Point.j1 k y0 y1 y2 y3 y4 y5) (emenderref14_Point.j1 (k + 1) y0 y1 y2 y3 y4 y5))
  | 0 => ⟨fun _ _ _ _ _ r h => by simp [emenderref14_Point.j2] at h, fun _ _ _ _ _ _ r h => by simp [emenderref14_Point.j3] at h, fun _ _ _ _ _ _ r h => by simp [emenderref14_Point.l0] at h, fun _ _ _ _ _ _ r h => by simp [emenderref14_Point.j0] at h, fun _ _ _ _ _ _ r h => by simp [emenderref14_Point.j1] at h⟩
  | k + 1 => by
    obtain ⟨ih0, ih1, ih2, ih3, ih4⟩ := emenderref14_Point.mono_l k
    refine ⟨?_, ?_, ?_, ?_, ?_⟩
    · intro y0 y1 y2 y3 y4
      unfold emenderref14_Point.j2
      repeat' first
      | (with_reducible exact ih0 _ _ _ _ _)
      | (with_reducible exact ih1 _ _ _ _ _ _)
      | (with_reducible exact ih2 _ _ _ _ _ _)
      | (with_reducible exact ih3 _ _ _ _ _ _)
      | (with_reducible exact ih4 _ _ _ _ _ _)
      | (with_reducible exact LeO.refl _)
      | (with_reducible exact LeO.none _)
      | (with_reducible refine LeO.ite ?_ ?_)
      | (with_reducible refine LeO.bind ?_ (fun _ => ?_))
      | exact ih0 _ _ _ _ _
      | exact ih1 _ _ _ _ _ _
      | exact ih2 _ _ _ _ _ _
      | exact ih3 _ _ _ _ _ _
      | exact ih4 _ _ _ _ _ _
      | exact LeO.none _
      | refine LeO.ite ?_ ?_
      | refine LeO.bind ?_ (fun _ => ?_)
    · intro y0 y1 y2 y3 y4 y5
      unfold emenderref14_Point.j3
      repeat' first
      | (with_reducible exact ih0 _ _ _ _ _)
      | (with_reducible exact ih1 _ _ _ _ _ _)
      | (with_reducible exact ih2 _ _ _ _ _ _)
      | (with_reducible exact ih3 _ _ _ _ _ _)
      | (with_reducible exact ih4 _ _ _ _ _ _)
      | (with_reducible exact LeO.refl _)
      | (with_reducible exact LeO.none _)
      | (with_reducible refine LeO.ite ?_ ?_)
      | (with_reducible refine LeO.bind ?_ (fun _ => ?_))
      | exact ih0 _ _ _ _ _
      | exact ih1 _ _ _ _ _ _
      | exact ih2 _ _ _ _ _ _
      | exact ih3 _ _ _ _ _ _
      | exact ih4 _ _ _ _ _ _
      | exact LeO.none _
      | refine LeO.ite ?_ ?_
      | refine LeO.bind ?_ (fun _ => ?_)
    · intro y0 y1 y2 y3 y4 y5
      unfold emenderref14_Point.l0
      repeat' first
      | (with_reducible exact ih0 _ _ _ _ _)
      | (with_reducible exact ih1 _ _ _ _ _ _)
      | (with_reducible exact ih2 _ _ _ _ _ _)
      | (with_reducible exact ih3 _ _ _ _ _ _)
      | (with_reducible exact ih4 _ _ _ _ _ _)
      | (with_reducible exact LeO.refl _)
      | (with_reducible exact LeO.none _)
      | (with_reducible refine LeO.ite ?_ ?_)
      | (with_reducible refine LeO.bind ?_ (fun _ => ?_))
      | exact ih0 _ _ _ _ _
      | exact ih1 _ _ _ _ _ _
      | exact ih2 _ _ _ _ _ _
      | exact ih3 _ _ _ _ _ _
      | exact ih4 _ _ _ _ _ _
      | exact LeO.none _
      | refine LeO.ite ?_ ?_
      | refine LeO.bind ?_ (fun _ => ?_)
    · intro y0 y1 y2 y3 y4 y5
      unfold emenderref14_Point.j0
      repeat' first
      | (with_reducible exact ih0 _ _ _ _ _)
      | (with_reducible exact ih1 _ _ _ _ _ _)
      | (with_reducible exact ih2 _ _ _ _ _ _)
      | (with_reducible exact ih3 _ _ _ _ _ _)
      | (with_reducible exact ih4 _ _ _ _ _ _)
      | (with_reducible exact LeO.refl _)
      | (with_reducible exact LeO.none _)
      | (with_reducible refine LeO.ite ?_ ?_)
      | (with_reducible refine LeO.bind ?_ (fun _ => ?_))
      | exact ih0 _ _ _ _ _
      | exact ih1 _ _ _ _ _ _
      | exact ih2 _ _ _ _ _ _
      | exact ih3 _ _ _ _ _ _
      | exact ih4 _ _ _ _ _ _
      | exact LeO.none _
      | refine LeO.ite ?_ ?_
      | refine LeO.bind ?_ (fun _ => ?_)
    · intro y0 y1 y2 y3 y4 y5
      unfold emenderref14_Point.j1
      repeat' first
      | (with_reducible exact ih0 _ _ _ _ _)
      | (with_reducible exact ih1 _ _ _ _ _ _)
      | (with_reducible exact ih2 _ _ _ _ _ _)
      | (with_reducible exact ih3 _ _ _ _ _ _)
      | (with_reducible exact ih4 _ _ _ _ _ _)
      | (with_reducible exact LeO.refl _)
      | (with_reducible exact LeO.none _)
      | (with_reducible refine LeO.ite ?_ ?_)
      | (with_reducible refine LeO.bind ?_ (fun _ => ?_))
      | exact ih0 _ _ _ _ _
      | exact ih1 _ _ _ _ _ _
      | exact ih2 _ _ _ _ _ _
      | exact ih3 _ _ _ _ _ _
      | exact ih4 _ _ _ _ _ _
      | exact LeO.none _
      | refine LeO.ite ?_ ?_
      | refine LeO.bind ?_ (fun _ => ?_)
theorem emenderref14_Point.mono : ∀ a0 a1 k, LeO (emenderref14_Point.f k a0 a1) (emenderref14_Point.f (k + 1) a0 a1) := by
  intro a0 a1 k
  obtain ⟨ih0, ih1, ih2, ih3, ih4⟩ := emenderref14_Point.mono_l k
  unfold emenderref14_Point.f
  repeat' first
      | (with_reducible exact ih0 _ _ _ _ _)
      | (with_reducible exact ih1 _ _ _ _ _ _)
      | (with_reducible exact ih2 _ _ _ _ _ _)
      | (with_reducible exact ih3 _ _ _ _ _ _)
      | (with_reducible exact ih4 _ _ _ _ _ _)
      | (with_reducible exact LeO.refl _)
      | (with_reducible exact LeO.none _)
      | (with_reducible refine LeO.ite ?_ ?_)
      | (with_reducible refine LeO.bind ?_ (fun _ => ?_))
      | exact ih0 _ _ _ _ _
      | exact ih1 _ _ _ _ _ _
      | exact ih2 _ _ _ _ _ _
      | exact ih3 _ _ _ _ _ _
      | exact ih4 _ _ _ _ _ _
      | exact LeO.none _
      | refine LeO.ite ?_ ?_
      | refine LeO.bind ?_ (fun _ => ?_)
set_option maxHeartbeats 8000000 in
set_option maxRecDepth 100000 in
theorem emenderref14_Point.calls (k : Nat) (a0 : ByteArray) (a1 : Int) (r1 : Int) (r2 : Int) (w : World) (h : emenderref14_Point.f k a0 a1 = some (r1, r2)) :
    Calls Tryd.prog 51 #[.string a0, .int .i64 a1] w fun e w' => e = .returned (.tuple #[.int .i64 r1, .int .i64 r2]) ∧ Drawn0 w w' := by
  have H : (if 0 ≤ a1 then (if a1 < (a0.size : Int) then (if (wrap64 (bt a0 a1)) < 128 then (some (wrap64 (bt a0 a1), 1)) else (if (wrap64 (bt a0 a1)) ≥ 192 then (emenderref14_Point.j0 k a0 a1 0 0 (wrap64 (bt a0 a1)) (decide ((wrap64 (bt a0 a1)) < 224))) else (emenderref14_Point.j0 k a0 a1 0 0 (wrap64 (bt a0 a1)) false))) else (none)) else (none)) = some (r1, r2) := h
  clear h
  by_cases c3 : 0 ≤ a1
  · rw [if_pos c3] at H
    have c3b0 : decide (0 ≤ a1) = true := decide_eq_true c3
    clear c3
    by_cases c4 : a1 < (a0.size : Int)
    · rw [if_pos c4] at H
      have c4b0 : decide (a1 < (a0.size : Int)) = true := decide_eq_true c4
      clear c4
      have HC6 := Aside0.mk H
      clear H
      have p5 : 0 ≤ (a1 : Int) := of_decide_eq_true (by first | (with_reducible assumption) | assumption)
      have q5 : a1 < (a0.size : Int) := of_decide_eq_true (by first | (with_reducible assumption) | assumption)
      have hx5 := bt_at a0 a1
      replace p5 := eq_true p5
      replace q5 := eq_true q5
      go_enter Tryd.func51, Tryd.ntmps51
      go_upto_block 0 with (fail)
      go_cut [6, 7, 8] (fun v6 v7 v8 wc => ∃ (kq : Nat) (x6_5 : Int) (x7_5 : Int) (x8_5 : Int), v6 = .int .i64 x6_5 ∧ v7 = .int .i64 x7_5 ∧ v8 = .int .i64 x8_5 ∧ Aside0 (emenderref14_Point.j2 kq a0 a1 x6_5 x7_5 x8_5 = some (r1, r2)) ∧ Aside0 (kq ≤ k) ∧ Drawn0 w wc)
      case first =>
        have H := HC6.out
        clear HC6
        by_cases c7 : (wrap64 (bt a0 a1)) < 128
        · rw [if_pos c7] at H
          have c7b0 : decide ((wrap64 (bt a0 a1)) < 128) = true := decide_eq_true c7
          clear c7
          (first | rw [c7b0] | (simp only [i64_w, i32_w]; rw [c7b0]) | skip)
          simp only [Option.some.injEq, Prod.mk.injEq] at H
          obtain ⟨rfl, rfl⟩ := H
          go_wp2
          go_ret2
          exact ⟨by first | rfl | (simp; done) | (simp [*]; done), by repeat (first | exact Drawn0.refl _ | apply Drawn0.step)⟩
        · rw [if_neg c7] at H
          have c7b0 : decide ((wrap64 (bt a0 a1)) < 128) = false := decide_eq_false c7
          clear c7
          (first | rw [c7b0] | (simp only [i64_w, i32_w]; rw [c7b0]) | skip)
          have HC8 := Aside0.mk H
          clear H
          go_upto_region 6 with (fail)
          go_cut [18] (fun v18 wc => ∃ (kq : Nat) (x18_7 : Bool), v18 = .bool x18_7 ∧ Aside0 (emenderref14_Point.j0 kq a0 a1 0 0 (wrap64 (bt a0 a1)) x18_7 = some (r1, r2)) ∧ Aside0 (kq ≤ k) ∧ Drawn0 w wc)
          case first =>
            have H := HC8.out
            clear HC8
            by_cases c9 : (wrap64 (bt a0 a1)) ≥ 192
            · rw [if_pos c9] at H
              have c9b0 : decide (192 ≤ (wrap64 (bt a0 a1))) = true := decide_eq_true c9
              clear c9
              (first | rw [c9b0] | (simp only [i64_w, i32_w]; rw [c9b0]) | skip)
              have H' := Aside0.mk H
              clear H
              go_wp2
              go_meet
              case rel => exact ⟨_, (decide ((wrap64 (bt a0 a1)) < 224)), (by first | rfl | (simp; done) | (simp [*]; done)), H', ⟨by first | omega | exact Nat.le_refl _⟩, by repeat (first | exact Drawn0.refl _ | apply Drawn0.step)⟩
            · rw [if_neg c9] at H
              have c9b0 : decide (192 ≤ (wrap64 (bt a0 a1))) = false := decide_eq_false c9
              clear c9
              (first | rw [c9b0] | (simp only [i64_w, i32_w]; rw [c9b0]) | skip)
              have H' := Aside0.mk H
              clear H
              go_wp2
              go_meet
              case rel => exact ⟨_, (false), (by first | rfl | (simp; done) | (simp [*]; done)), H', ⟨by first | omega | exact Nat.le_refl _⟩, by repeat (first | exact Drawn0.refl _ | apply Drawn0.step)⟩
          case rest =>
            clear HC8
            try clear p2
            try clear c3
            try clear c3b0
            try clear c4
            try clear c4b0
            try clear c5
            try clear p5
            try clear q5
            try clear hx5
            try clear p6
            try clear c7
            try clear c7b0
            try clear c9
            try clear c9b0
            try clear p5
            try clear q5
            obtain ⟨kq, x18_7, rfl, HA, HJ7, ⟨mc7, rfl⟩⟩ := hcut
            cases kq with
            | zero => exact absurd HA.out (by simp [emenderref14_Point.j0])
            | succ kj7 =>
              have H := HA.out
              clear HA
              simp only [emenderref14_Point.j0] at H
              by_cases c10 : x18_7 = true
              · subst c10
                have H1 : (emenderref14_Point.j2 kj7 a0 a1 2 128 (Go.bits .and .i64 (wrap64 (bt a0 a1)) 31)) = some (r1, r2) := by rw [if_pos rfl] at H; exact H
                clear H
                have H := H1
                clear H1
                have H' := Aside0.mk H
                clear H
                go_wp2
                go_meet
                case rel => exact ⟨_, (2), (128), (Go.bits .and .i64 (wrap64 (bt a0 a1)) 31), (by first | rfl | (simp; done) | (simp [*]; done)), (by first | rfl | (simp; done) | (simp [*]; done)), (by first | rfl | (simp; done) | (simp [*]; done)), H', ⟨by have := HJ7.out; first | omega | exact Nat.le_refl _⟩, by repeat (first | exact Drawn0.refl _ | apply Drawn0.step)⟩
              · replace c10 := Bool.eq_false_iff.mpr c10
                subst c10
                have H1 : (if (wrap64 (bt a0 a1)) ≥ 224 then (emenderref14_Point.j1 kj7 a0 a1 0 0 (wrap64 (bt a0 a1)) (decide ((wrap64 (bt a0 a1)) < 240))) else (emenderref14_Point.j1 kj7 a0 a1 0 0 (wrap64 (bt a0 a1)) false)) = some (r1, r2) := by rw [if_neg (show ¬ (false = true) by decide)] at H; exact H
                clear H
                have H := H1
                clear H1
                have HC11 := Aside0.mk H
                clear H
                go_upto_region 10 with (fail)
                go_cut [27] (fun v27 wc => ∃ (kq : Nat) (x27_10 : Bool), v27 = .bool x27_10 ∧ Aside0 (emenderref14_Point.j1 kq a0 a1 0 0 (wrap64 (bt a0 a1)) x27_10 = some (r1, r2)) ∧ Aside0 (kq ≤ kj7) ∧ Drawn0 w wc)
                case first =>
                  have H := HC11.out
                  clear HC11
                  by_cases c12 : (wrap64 (bt a0 a1)) ≥ 224
                  · rw [if_pos c12] at H
                    have c12b0 : decide (224 ≤ (wrap64 (bt a0 a1))) = true := decide_eq_true c12
                    clear c12
                    (first | rw [c12b0] | (simp only [i64_w, i32_w]; rw [c12b0]) | skip)
                    have H' := Aside0.mk H
                    clear H
                    go_wp2
                    go_meet
                    case rel => exact ⟨_, (decide ((wrap64 (bt a0 a1)) < 240)), (by first | rfl | (simp; done) | (simp [*]; done)), H', ⟨by have := HJ7.out; first | omega | exact Nat.le_refl _⟩, by repeat (first | exact Drawn0.refl _ | apply Drawn0.step)⟩
                  · rw [if_neg c12] at H
                    have c12b0 : decide (224 ≤ (wrap64 (bt a0 a1))) = false := decide_eq_false c12
                    clear c12
                    (first | rw [c12b0] | (simp only [i64_w, i32_w]; rw [c12b0]) | skip)
                    have H' := Aside0.mk H
                    clear H
                    go_wp2
                    go_meet
                    case rel => exact ⟨_, (false), (by first | rfl | (simp; done) | (simp [*]; done)), H', ⟨by have := HJ7.out; first | omega | exact Nat.le_refl _⟩, by repeat (first | exact Drawn0.refl _ | apply Drawn0.step)⟩
                case rest =>
                  clear HC11
                  try clear c1
                  try clear p2
                  try clear c3
                  try clear c3b0
                  try clear c4
                  try clear c4b0
                  try clear c5
                  try clear p5
                  try clear q5
                  try clear hx5
                  try clear p6
                  try clear c7
                  try clear c7b0
                  try clear c9
                  try clear c9b0
                  try clear c10
                  try clear c12
                  try clear c12b0
                  try clear p2
                  try clear p5
                  try clear p6
                  try clear q5
                  obtain ⟨kq, x27_10, rfl, HA, HJ10, ⟨mc10, rfl⟩⟩ := hcut
                  cases kq with
                  | zero => exact absurd HA.out (by simp [emenderref14_Point.j1])
                  | succ kj10 =>
                    have H := HA.out
                    clear HA
                    simp only [emenderref14_Point.j1] at H
                    by_cases c13 : x27_10 = true
                    · subst c13
                      have H1 : (emenderref14_Point.j2 kj10 a0 a1 3 2048 (Go.bits .and .i64 (wrap64 (bt a0 a1)) 15)) = some (r1, r2) := by rw [if_pos rfl] at H; exact H
                      clear H
                      have H := H1
                      clear H1
                      have H' := Aside0.mk H
                      clear H
                      go_wp2
                      go_meet
                      case rel => exact ⟨_, (3), (2048), (Go.bits .and .i64 (wrap64 (bt a0 a1)) 15), (by first | rfl | (simp; done) | (simp [*]; done)), (by first | rfl | (simp; done) | (simp [*]; done)), (by first | rfl | (simp; done) | (simp [*]; done)), H', ⟨by have := HJ7.out; have := HJ10.out; first | omega | exact Nat.le_refl _⟩, by repeat (first | exact Drawn0.refl _ | apply Drawn0.step)⟩
                    · replace c13 := Bool.eq_false_iff.mpr c13
                      subst c13
                      have H1 : (if (wrap64 (bt a0 a1)) ≥ 240 then (if (wrap64 (bt a0 a1)) < 248 then (emenderref14_Point.j2 kj10 a0 a1 4 65536 (Go.bits .and .i64 (wrap64 (bt a0 a1)) 7)) else (emenderref14_Point.j2 kj10 a0 a1 0 0 (wrap64 (bt a0 a1)))) else (emenderref14_Point.j2 kj10 a0 a1 0 0 (wrap64 (bt a0 a1)))) = some (r1, r2) := by rw [if_neg (show ¬ (false = true) by decide)] at H; exact H
                      clear H
                      have H := H1
                      clear H1
                      by_cases c14 : (wrap64 (bt a0 a1)) ≥ 240
                      · rw [if_pos c14] at H
                        have c14b0 : decide (240 ≤ (wrap64 (bt a0 a1))) = true := decide_eq_true c14
                        clear c14
                        by_cases c15 : (wrap64 (bt a0 a1)) < 248
                        · rw [if_pos c15] at H
                          have c15b0 : decide ((wrap64 (bt a0 a1)) < 248) = true := decide_eq_true c15
                          clear c15
                          have H' := Aside0.mk H
                          clear H
                          go_wp2
                          go_meet
                          case rel => exact ⟨_, (4), (65536), (Go.bits .and .i64 (wrap64 (bt a0 a1)) 7), (by first | rfl | (simp; done) | (simp [*]; done)), (by first | rfl | (simp; done) | (simp [*]; done)), (by first | rfl | (simp; done) | (simp [*]; done)), H', ⟨by have := HJ7.out; have := HJ10.out; first | omega | exact Nat.le_refl _⟩, by repeat (first | exact Drawn0.refl _ | apply Drawn0.step)⟩
                        · rw [if_neg c15] at H
                          have c15b0 : decide ((wrap64 (bt a0 a1)) < 248) = false := decide_eq_false c15
                          clear c15
                          have H' := Aside0.mk H
                          clear H
                          go_wp2
                          go_meet
                          case rel => exact ⟨_, (0), (0), ((wrap64 (bt a0 a1))), (by first | rfl | (simp; done) | (simp [*]; done)), (by first | rfl | (simp; done) | (simp [*]; done)), (by first | rfl | (simp; done) | (simp [*]; done)), H', ⟨by have := HJ7.out; have := HJ10.out; first | omega | exact Nat.le_refl _⟩, by repeat (first | exact Drawn0.refl _ | apply Drawn0.step)⟩
                      · rw [if_neg c14] at H
                        have c14b0 : decide (240 ≤ (wrap64 (bt a0 a1))) = false := decide_eq_false c14
                        clear c14
                        have H' := Aside0.mk H
                        clear H
                        go_wp2
                        go_meet
                        case rel => exact ⟨_, (0), (0), ((wrap64 (bt a0 a1))), (by first | rfl | (simp; done) | (simp [*]; done)), (by first | rfl | (simp; done) | (simp [*]; done)), (by first | rfl | (simp; done) | (simp [*]; done)), H', ⟨by have := HJ7.out; have := HJ10.out; first | omega | exact Nat.le_refl _⟩, by repeat (first | exact Drawn0.refl _ | apply Drawn0.step)⟩
      case rest =>
        clear HC6
        try clear c1
        try clear p2
        try clear c3
        try clear c3b0
        try clear c4
        try clear c4b0
        try clear c5
        try clear p5
        try clear q5
        try clear hx5
        try clear p6
        try clear c7
        try clear c7b0
        try clear c9
        try clear c9b0
        try clear c10
        try clear c12
        try clear c12b0
        try clear c13
        try clear c14
        try clear c14b0
        try clear c15
        try clear c15b0
        try clear p2
        try clear p5
        try clear p6
        try clear q5
        obtain ⟨kq, x6_5, x7_5, x8_5, rfl, rfl, rfl, HA, HJ5, ⟨mc5, rfl⟩⟩ := hcut
        cases kq with
        | zero => exact absurd HA.out (by simp [emenderref14_Point.j2])
        | succ kj5 =>
          have H := HA.out
          clear HA
          simp only [emenderref14_Point.j2] at H
          have HC16 := Aside0.mk H
          clear H
          go_upto_region 18 with (fail)
          go_cut [54] (fun v54 wc => ∃ (kq : Nat) (x54_15 : Bool), v54 = .bool x54_15 ∧ Aside0 (emenderref14_Point.j3 kq a0 a1 x6_5 x7_5 x8_5 x54_15 = some (r1, r2)) ∧ Aside0 (kq ≤ kj5) ∧ Drawn0 w wc)
          case first =>
            have H := HC16.out
            clear HC16
            by_cases c17 : x6_5 = 0
            · rw [if_pos c17] at H
              have c17b0 : (x6_5 == 0) = true := beq_iff_eq.mpr c17
              have c17b1 : (x6_5 != 0) = false := bne_eq_false_iff_eq.mpr c17
              clear c17
              (first | rw [c17b0] | (simp only [i64_w, i32_w]; rw [c17b0]) | skip)
              have H' := Aside0.mk H
              clear H
              go_wp2
              go_meet
              case rel => exact ⟨_, (true), (by first | rfl | (simp; done) | (simp [*]; done)), H', ⟨by have := HJ5.out; first | omega | exact Nat.le_refl _⟩, by repeat (first | exact Drawn0.refl _ | apply Drawn0.step)⟩
            · rw [if_neg c17] at H
              have c17b0 : (x6_5 == 0) = false := beq_eq_false_iff_ne.mpr c17
              have c17b1 : (x6_5 != 0) = true := bne_iff_ne.mpr c17
              (first | rw [c17b0] | (simp only [i64_w, i32_w]; rw [c17b0]) | skip)
              have H' := Aside0.mk H
              clear H
              go_wp2
              go_meet
              case rel => exact ⟨_, (decide ((wrap64 (a1 + x6_5)) > (a0.size : Int))), (by first | rfl | (simp; done) | (simp [*]; done)), H', ⟨by have := HJ5.out; first | omega | exact Nat.le_refl _⟩, by repeat (first | exact Drawn0.refl _ | apply Drawn0.step)⟩
          case rest =>
            clear HC16
            try clear c1
            try clear p2
            try clear c3
            try clear c3b0
            try clear c4
            try clear c4b0
            try clear c5
            try clear p5
            try clear q5
            try clear hx5
            try clear p6
            try clear c7
            try clear c7b0
            try clear c9
            try clear c9b0
            try clear c10
            try clear c12
            try clear c12b0
            try clear c13
            try clear c14
            try clear c14b0
            try clear c15
            try clear c15b0
            try clear c17
            try clear c17b0
            try clear c17b1
            try clear p2
            try clear p5
            try clear p6
            try clear q5
            obtain ⟨kq, x54_15, rfl, HA, HJ15, ⟨mc15, rfl⟩⟩ := hcut
            cases kq with
            | zero => exact absurd HA.out (by simp [emenderref14_Point.j3])
            | succ kj15 =>
              have H := HA.out
              clear HA
              simp only [emenderref14_Point.j3] at H
              by_cases c18 : x54_15 = true
              · subst c18
                have H1 : (some (0, 0)) = some (r1, r2) := by rw [if_pos rfl] at H; exact H
                clear H
                have H := H1
                clear H1
                simp only [Option.some.injEq, Prod.mk.injEq] at H
                obtain ⟨rfl, rfl⟩ := H
                go_wp2
                go_ret2
                exact ⟨by first | rfl | (simp; done) | (simp [*]; done), by repeat (first | exact Drawn0.refl _ | apply Drawn0.step)⟩
              · replace c18 := Bool.eq_false_iff.mpr c18
                subst c18
                have H1 : (emenderref14_Point.l0 kj15 a0 a1 x6_5 x7_5 x8_5 1) = some (r1, r2) := by rw [if_neg (show ¬ (false = true) by decide)] at H; exact H
                clear H
                have H := H1
                clear H1
                have H' := Aside0.mk H
                clear H
                go_wp2
                go_loopg [8, 9] kj15 (fun kq v8 v9 w' => ∃ (x8_3 : Int) (x9_3 : Int), v8 = .int .i64 x8_3 ∧ v9 = .int .i64 x9_3 ∧ Aside0 (emenderref14_Point.l0 kq a0 a1 x6_5 x7_5 x8_3 x9_3 = some (r1, r2)) ∧ Aside0 (kq ≤ kj15) ∧ Drawn0 w w')
                case atStart => exact ⟨(x8_5), (1), (by first | rfl | (simp; done) | (simp [*]; done)), (by first | rfl | (simp; done) | (simp [*]; done)), H', ⟨Nat.le_refl _⟩, by repeat (first | exact Drawn0.refl _ | apply Drawn0.step)⟩
                case round =>
                  clear H'
                  try clear c1
                  try clear p2
                  try clear c3
                  try clear c3b0
                  try clear c4
                  try clear c4b0
                  try clear c5
                  try clear p5
                  try clear q5
                  try clear hx5
                  try clear p6
                  try clear c7
                  try clear c7b0
                  try clear c9
                  try clear c9b0
                  try clear c10
                  try clear c12
                  try clear c12b0
                  try clear c13
                  try clear c14
                  try clear c14b0
                  try clear c15
                  try clear c15b0
                  try clear c17
                  try clear c17b0
                  try clear c17b1
                  try clear c18
                  try clear p2
                  try clear p5
                  try clear p6
                  try clear q5
                  obtain ⟨x8_3, x9_3, rfl, rfl, HA, HK3, ⟨m3, rfl⟩⟩ := hrel
                  cases gk with
                  | zero => exact absurd HA.out (by simp [emenderref14_Point.l0])
                  | succ k3 =>
                    have H := HA.out
                    clear HA
                    simp only [emenderref14_Point.l0] at H
                    by_cases c19 : x9_3 < x6_5
                    · rw [if_pos c19] at H
                      have c19b0 : decide (x9_3 < x6_5) = true := decide_eq_true c19
                      clear c19
                      obtain ⟨ji20, hji20⟩ : ∃ j_ : Int, (wrap64 (a1 + x9_3)) = j_ := ⟨_, rfl⟩
                      replace H : (if 0 ≤ (ji20) then (if (ji20) < (a0.size : Int) then (if (Go.bits .and .u8 (bt a0 (ji20)) 192) = 128 then (emenderref14_Point.l0 k3 a0 a1 x6_5 x7_5 (Go.bits .or .i64 (wrap64 (x8_3 * 64)) (wrap64 (Go.bits .and .u8 (bt a0 (ji20)) 63))) (wrap64 (x9_3 + 1))) else (some (0, 0))) else (none)) else (none)) = some (r1, r2) := by first | (rw [hji20] at H; exact H) | (simp only [hji20] at H ⊢; exact H)
                      have hji20w : (IntKind.i64.wrap (a1 + x9_3)) = ji20 := (i64_w _).trans hji20
                      by_cases c21 : 0 ≤ (ji20)
                      · rw [if_pos c21] at H
                        have c21b0 : decide (0 ≤ (ji20)) = true := decide_eq_true c21
                        clear c21
                        by_cases c22 : (ji20) < (a0.size : Int)
                        · rw [if_pos c22] at H
                          have c22b0 : decide ((ji20) < (a0.size : Int)) = true := decide_eq_true c22
                          clear c22
                          by_cases c24 : (Go.bits .and .u8 (bt a0 (ji20)) 192) = 128
                          · rw [if_pos c24] at H
                            have c24b0 : ((Go.bits .and .u8 (bt a0 (ji20)) 192) == 128) = true := beq_iff_eq.mpr c24
                            have c24b1 : ((Go.bits .and .u8 (bt a0 (ji20)) 192) != 128) = false := bne_eq_false_iff_eq.mpr c24
                            clear c24
                            have H' := Aside0.mk H
                            clear H
                            have p23 : 0 ≤ ((ji20) : Int) := of_decide_eq_true (by first | (with_reducible assumption) | assumption)
                            have q23 : (ji20) < (a0.size : Int) := of_decide_eq_true (by first | (with_reducible assumption) | assumption)
                            have hx23 := bt_at a0 (ji20)
                            replace p23 := eq_true p23
                            replace q23 := eq_true q23
                            have p25 : 0 ≤ ((ji20) : Int) := of_decide_eq_true (by first | (with_reducible assumption) | assumption)
                            have q25 : (ji20) < (a0.size : Int) := of_decide_eq_true (by first | (with_reducible assumption) | assumption)
                            have hx25 := bt_at a0 (ji20)
                            replace p25 := eq_true p25
                            replace q25 := eq_true q25
                            go_wp2
                            go_roundg k3
                            case measure => have := HJ5.out; have := HJ15.out; have := HK3.out; omega
                            case rel => exact ⟨(Go.bits .or .i64 (wrap64 (x8_3 * 64)) (wrap64 (Go.bits .and .u8 (bt a0 (ji20)) 63))), (wrap64 (x9_3 + 1)), (by first | rfl | (simp; done) | (simp only [← hji20] <;> (first | rfl | simp)) | (simp [*]; done)), (by first | rfl | (simp; done) | (simp [*]; done)), H', ⟨by have := HJ5.out; have := HJ15.out; have := HK3.out; omega⟩, by repeat (first | exact Drawn0.refl _ | apply Drawn0.step)⟩
                          · rw [if_neg c24] at H
                            have c24b0 : ((Go.bits .and .u8 (bt a0 (ji20)) 192) == 128) = false := beq_eq_false_iff_ne.mpr c24
                            have c24b1 : ((Go.bits .and .u8 (bt a0 (ji20)) 192) != 128) = true := bne_iff_ne.mpr c24
                            simp only [Option.some.injEq, Prod.mk.injEq] at H
                            obtain ⟨rfl, rfl⟩ := H
                            have p23 : 0 ≤ ((ji20) : Int) := of_decide_eq_true (by first | (with_reducible assumption) | assumption)
                            have q23 : (ji20) < (a0.size : Int) := of_decide_eq_true (by first | (with_reducible assumption) | assumption)
                            have hx23 := bt_at a0 (ji20)
                            replace p23 := eq_true p23
                            replace q23 := eq_true q23
                            go_wp2
                            go_ret2
                            exact ⟨by first | rfl | (simp; done) | (simp only [← hji20] <;> (first | rfl | simp)) | (simp [*]; done), by repeat (first | exact Drawn0.refl _ | apply Drawn0.step)⟩
                        · rw [if_neg c22] at H
                          exact absurd H (by simp)
                      · rw [if_neg c21] at H
                        exact absurd H (by simp)
                    · rw [if_neg c19] at H
                      have c19b0 : decide (x9_3 < x6_5) = false := decide_eq_false c19
                      clear c19
                      by_cases c26 : x8_3 < x7_5
                      · rw [if_pos c26] at H
                        have c26b0 : decide (x8_3 < x7_5) = true := decide_eq_true c26
                        clear c26
                        simp only [Option.some.injEq, Prod.mk.injEq] at H
                        obtain ⟨rfl, rfl⟩ := H
                        go_wp2
                        go_ret2
                        exact ⟨by first | rfl | (simp; done) | (simp [*]; done), by repeat (first | exact Drawn0.refl _ | apply Drawn0.step)⟩
                      · rw [if_neg c26] at H
                        have c26b0 : decide (x8_3 < x7_5) = false := decide_eq_false c26
                        clear c26
                        replace H := Option.bind_eq_some_iff.mp H
                        obtain ⟨t110, A270, H⟩ := H
                        replace H : (if t110 = true then (some (x8_3, x6_5)) else (some (0, 0))) = some (r1, r2) := H
                        have A27 := Aside0.mk A270
                        clear A270
                        by_cases c28 : t110 = true
                        · subst c28
                          have H1 : (some (x8_3, x6_5)) = some (r1, r2) := by rw [if_pos rfl] at H; exact H
                          clear H
                          have H := H1
                          clear H1
                          simp only [Option.some.injEq, Prod.mk.injEq] at H
                          obtain ⟨rfl, rfl⟩ := H
                          go_wp2_with (first | (go_at_call 59; (with_reducible refine (emenderref04_Point.calls x8_3 true _ A27.out).mono ?_); rintro e w' ⟨rfl, ⟨nd, rfl⟩⟩))
                          go_ret2
                          exact ⟨by first | rfl | (simp; done) | (simp [*]; done), by repeat (first | exact Drawn0.refl _ | apply Drawn0.step)⟩
                        · replace c28 := Bool.eq_false_iff.mpr c28
                          subst c28
                          have H1 : (some (0, 0)) = some (r1, r2) := by rw [if_neg (show ¬ (false = true) by decide)] at H; exact H
                          clear H
                          have H := H1
                          clear H1
                          simp only [Option.some.injEq, Prod.mk.injEq] at H
                          obtain ⟨rfl, rfl⟩ := H
                          go_wp2_with (first | (go_at_call 59; (with_reducible refine (emenderref04_Point.calls x8_3 false _ A27.out).mono ?_); rintro e w' ⟨rfl, ⟨nd, rfl⟩⟩))
                          go_ret2
                          exact ⟨by first | rfl | (simp; done) | (simp [*]; done), by repeat (first | exact Drawn0.refl _ | apply Drawn0.step)⟩
    · rw [if_neg c4] at H
      exact absurd H (by simp)
  · rw [if_neg c3] at H
    exact absurd H (by simp)

end Go.Proofs.YtfnafjohfmlniaaDoor.PCs
