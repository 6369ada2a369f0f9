-- Written for this claim by a program (printed texts under one roof).
import Derived.Test.YtfcfomconcoimaaDoorPFax0
import Derived.Test.YtfcfomconcoimaaDoorPFay4
namespace Go.Proofs.YtfcfomconcoimaaDoor.PFa
open Go.RowKit Go.Proofs.YtfcfomconcoimaaDoorW.PrintWords Go.Proofs.YtfcfomconcoimaaDoorW.PrintLast Go.Proofs.YtfcfomconcoimaaDoorW.PrintMore
attribute [local go_sem] max2_int min2_int max_two min_two max_three min_three max_four min_four
set_option linter.unusedVariables false
set_option linter.unusedSimpArgs false
mutual
def emenderref26_right.l0 : Nat → List (S48) → List (S28) → Int → Int → Option (Bool)
|0, _, _, _, _ => none
|k + 1, x0, x1, x5, x6 => if x6 < (x1.length : Int) then (if 0 ≤ x6 then (if ((rd_T28 x1 x6).f0) < x5 then (emenderref26_right.j1 k x0 x1 x6 ((rd_T28 x1 x6).f0) ((rd_T28 x1 x6).f1) true) else (if ((rd_T28 x1 x6).f0) ≥ ((rd_T28 x1 x6).f1) then (emenderref26_right.j1 k x0 x1 x6 ((rd_T28 x1 x6).f0) ((rd_T28 x1 x6).f1) true) else (emenderref26_right.j1 k x0 x1 x6 ((rd_T28 x1 x6).f0) ((rd_T28 x1 x6).f1) (decide (((rd_T28 x1 x6).f1) > (x0.length : Int)))))) else (none)) else (some true)
def emenderref26_right.j1 : Nat → List (S48) → List (S28) → Int → Int → Int → Bool → Option (Bool)
|0, _, _, _, _, _, _ => none
|k + 1, x0, x1, x6, x7, x8, x39 => if x39 = true then (some false) else (emenderref26_right.l1 k x0 x1 x6 x8 x7)
def emenderref26_right.l1 : Nat → List (S48) → List (S28) → Int → Int → Int → Option (Bool)
|0, _, _, _, _, _ => none
|k + 1, x0, x1, x6, x8, x9 => if x9 < x8 then (if 0 ≤ x9 then (if x9 < (x0.length : Int) then (if ((rd_T48 x0 x9).f0) = 0 then (emenderref26_right.l1 k x0 x1 x6 x8 (wrap64 (x9 + 1))) else (some false)) else (none)) else (none)) else (emenderref26_right.l0 k x0 x1 x8 (wrap64 (x6 + 1)))
end
def emenderref26_right.f (k : Nat) (l0 : List (S48)) (l1 : List (S28)) : Option (Bool) := emenderref26_right.l0 k l0 l1 0 0
set_option maxHeartbeats 8000000 in
set_option maxRecDepth 100000 in
theorem emenderref26_right.calls (k : Nat) (A0 : Option Addr) (c0 : Nat) (l0 : List (S48)) (A1 : Option Addr) (c1 : Nat) (l1 : List (S28)) (r : Bool) (w : World) (hr0 : Kd.C k48 w A0 l0.length l0) (hc0 : l0.length ≤ c0) (hr1 : Kd.C k28 w A1 l1.length l1) (hc1 : l1.length ≤ c1) (h : emenderref26_right.f k l0 l1 = some r) :
  Calls Tryd.prog 26 #[.slice A0 l0.length c0, .slice A1 l1.length c1] w fun e w' => e = .returned (.bool r) ∧ Drawn0 w w' := by
 have HR0 := aM hr0
 have HC0 := aM hc0
 clear hr0 hc0
 have HR1 := aM hr1
 have HC1 := aM hc1
 clear hr1 hc1
 have H : (emenderref26_right.l0 k l0 l1 0 0) = some r := h
 clear h
 have H' := aM H
 clear H
 go_enter Tryd.func26, Tryd.ntmps26
 go_wp2
 go_loopg [5, 6] k (fun kq v5 v6 w' => ∃ (x5_1 : Int) (x6_1 : Int), v5 = .int .i64 x5_1 ∧ v6 = .int .i64 x6_1 ∧ Aside0 (emenderref26_right.l0 kq l0 l1 x5_1 x6_1 = some r) ∧ Aside0 (kq ≤ k) ∧ Drawn0 w w')
 case atStart => exact ⟨(0), (0), (by first|rfl|(simp; done)|(simp [*]; done)), (by first|rfl|(simp; done)|(simp [*]; done)), H', ⟨Nat.le_refl _⟩, by repeat (first|exact Drawn0.refl _|apply Drawn0.step)⟩
 case round =>
  clear H'
  obtain ⟨x5_1, x6_1, rfl, rfl, HA, HK1, ⟨m1, rfl⟩⟩ := hrel
  cases gk with
 |zero => exact absurd HA.out (by simp [emenderref26_right.l0])
 |succ k1 =>
   have H := HA.out
   clear HA
   simp only [emenderref26_right.l0] at H
   by_cases c3 : x6_1 < (l1.length : Int)
   ·rw [if_pos c3] at H
    have c3b0 : decide (x6_1 < (l1.length : Int)) = true := decide_eq_true c3
    clear c3
    replace H := ifS H; obtain ⟨c4, H⟩ := H
    have c4b0 : decide (0 ≤ x6_1) = true := decide_eq_true c4
    clear c4
    have HC5 := aM H
    clear H
    have p330 : 0 ≤ (x6_1 : Int) := of_decide_eq_true (by assumption)
    have q330 : x6_1 < (l1.length : Int) := of_decide_eq_true (by assumption)
    obtain ⟨ad330, e330, hx330_0, hx330_1⟩ := at_T28 HR1.out x6_1 p330 q330
    cases e330
    replace p330 := eq_true p330
    replace q330 := eq_true q330
    have p331 : 0 ≤ (x6_1 : Int) := of_decide_eq_true (by assumption)
    have q331 : x6_1 < (l1.length : Int) := of_decide_eq_true (by assumption)
    obtain ⟨ad331, e331, hx331_0, hx331_1⟩ := at_T28 HR1.out x6_1 p331 q331
    obtain rfl : ad330 = ad331 := (by injection e331)
    replace p331 := eq_true p331
    replace q331 := eq_true q331
    go_upto_region 7 with (fail)
    go_cut [39] (fun v39 wc => ∃ (kq : Nat) (x39_4 : Bool), v39 = .bool x39_4 ∧ Aside0 (emenderref26_right.j1 kq l0 l1 x6_1 ((rd_T28 l1 x6_1).f0) ((rd_T28 l1 x6_1).f1) x39_4 = some r) ∧ Aside0 (kq ≤ k1) ∧ Drawn0 w wc)
    case first =>
     have H := HC5.out
     clear HC5
     by_cases c6 : ((rd_T28 l1 x6_1).f0) < x5_1
     ·rw [if_pos c6] at H
      have c6b0 : decide (((rd_T28 l1 x6_1).f0) < x5_1) = true := decide_eq_true c6
      clear c6
      (first|rw [c6b0]|(simp only [i64_w, i32_w]; rw [c6b0])|skip)
      have H' := aM H
      clear H
      go_wp2
      go_meet
      case rel => exact ⟨_, (true), (by first|rfl|(simp; done)|(simp [*]; done)), H', ⟨by have := HK1.out; first|omega|exact Nat.le_refl _⟩, by repeat (first|exact Drawn0.refl _|apply Drawn0.step)⟩
     ·rw [if_neg c6] at H
      have c6b0 : decide (((rd_T28 l1 x6_1).f0) < x5_1) = false := decide_eq_false c6
      clear c6
      (first|rw [c6b0]|(simp only [i64_w, i32_w]; rw [c6b0])|skip)
      by_cases c7 : ((rd_T28 l1 x6_1).f0) ≥ ((rd_T28 l1 x6_1).f1)
      ·rw [if_pos c7] at H
       have c7b0 : decide (((rd_T28 l1 x6_1).f1) ≤ ((rd_T28 l1 x6_1).f0)) = true := decide_eq_true c7
       clear c7
       have H' := aM H
       clear H
       go_wp2
       go_meet
       case rel => exact ⟨_, (true), (by first|rfl|(simp; done)|(simp [*]; done)), H', ⟨by have := HK1.out; first|omega|exact Nat.le_refl _⟩, by repeat (first|exact Drawn0.refl _|apply Drawn0.step)⟩
      ·rw [if_neg c7] at H
       have c7b0 : decide (((rd_T28 l1 x6_1).f1) ≤ ((rd_T28 l1 x6_1).f0)) = false := decide_eq_false c7
       clear c7
       have H' := aM H
       clear H
       go_wp2
       go_meet
       case rel => exact ⟨_, (decide (((rd_T28 l1 x6_1).f1) > (l0.length : Int))), (by first|rfl|(simp; done)|(simp [*]; done)), H', ⟨by have := HK1.out; first|omega|exact Nat.le_refl _⟩, by repeat (first|exact Drawn0.refl _|apply Drawn0.step)⟩
    case rest =>
     clear HC5
     obtain ⟨kq, x39_4, rfl, HA, HJ4, ⟨mc4, rfl⟩⟩ := hcut
     cases kq with
    |zero => exact absurd HA.out (by simp [emenderref26_right.j1])
    |succ kj4 =>
      have H := HA.out
      clear HA
      simp only [emenderref26_right.j1] at H
      by_cases c8 : x39_4 = true
      ·subst c8
       have H1 : (some false) = some r := by rw [if_pos rfl] at H; exact H
       clear H
       have H := H1
       clear H1
       obtain rfl := Option.some.inj H
       go_wp2
       go_ret
       exact ⟨by first|rfl|(simp; done)|(simp [*]; done), by repeat (first|exact Drawn0.refl _|apply Drawn0.step)⟩
      ·replace c8 := Bool.eq_false_iff.mpr c8
       subst c8
       have H1 : (emenderref26_right.l1 kj4 l0 l1 x6_1 ((rd_T28 l1 x6_1).f1) ((rd_T28 l1 x6_1).f0)) = some r := by rw [if_neg (show ¬ (false = true) by decide)] at H; exact H
       clear H
       have H := H1
       clear H1
       have H' := aM H
       clear H
       go_wp2
       go_loopg [9] kj4 (fun kq v9 w' => ∃ (x9_3 : Int), v9 = .int .i64 x9_3 ∧ Aside0 (emenderref26_right.l1 kq l0 l1 x6_1 ((rd_T28 l1 x6_1).f1) x9_3 = some r) ∧ Aside0 (kq ≤ kj4) ∧ Drawn0 w w')
       case atStart => exact ⟨(((rd_T28 l1 x6_1).f0)), (by first|rfl|(simp; done)|(simp [*]; done)), H', ⟨Nat.le_refl _⟩, by repeat (first|exact Drawn0.refl _|apply Drawn0.step)⟩
       case round =>
        clear H'
        obtain ⟨x9_3, rfl, HA, HK3, ⟨m3, rfl⟩⟩ := hrel
        cases gk with
       |zero => exact absurd HA.out (by simp [emenderref26_right.l1])
       |succ k3 =>
         have H := HA.out
         clear HA
         simp only [emenderref26_right.l1] at H
         by_cases c9 : x9_3 < ((rd_T28 l1 x6_1).f1)
         ·rw [if_pos c9] at H
          have c9b0 : decide (x9_3 < ((rd_T28 l1 x6_1).f1)) = true := decide_eq_true c9
          clear c9
          replace H := ifS H; obtain ⟨c10, H⟩ := H
          have c10b0 : decide (0 ≤ x9_3) = true := decide_eq_true c10
          clear c10
          replace H := ifS H; obtain ⟨c11, H⟩ := H
          have c11b0 : decide (x9_3 < (l0.length : Int)) = true := decide_eq_true c11
          clear c11
          by_cases c12 : ((rd_T48 l0 x9_3).f0) = 0
          ·rw [if_pos c12] at H
           have c12b0 : (((rd_T48 l0 x9_3).f0) == 0) = true := beq_iff_eq.mpr c12
           have c12b1 : (((rd_T48 l0 x9_3).f0) != 0) = false := bne_eq_false_iff_eq.mpr c12
           clear c12
           have H' := aM H
           clear H
           have p332 : 0 ≤ (x9_3 : Int) := of_decide_eq_true (by assumption)
           have q332 : x9_3 < (l0.length : Int) := of_decide_eq_true (by assumption)
           obtain ⟨ad332, e332, hx332_0, hx332_1, hx332_2, hx332_3⟩ := at_T48 HR0.out x9_3 p332 q332
           cases e332
           replace p332 := eq_true p332
           replace q332 := eq_true q332
           go_wp2
           go_roundg k3
           case measure => have := HK1.out; have := HJ4.out; have := HK3.out; omega
           case rel => exact ⟨(wrap64 (x9_3 + 1)), (by first|rfl|(simp; done)|(simp [*]; done)), H', ⟨by have := HK1.out; have := HJ4.out; have := HK3.out; omega⟩, by repeat (first|exact Drawn0.refl _|apply Drawn0.step)⟩
          ·rw [if_neg c12] at H
           have c12b0 : (((rd_T48 l0 x9_3).f0) == 0) = false := beq_eq_false_iff_ne.mpr c12
           have c12b1 : (((rd_T48 l0 x9_3).f0) != 0) = true := bne_iff_ne.mpr c12
           obtain rfl := Option.some.inj H
           have p332 : 0 ≤ (x9_3 : Int) := of_decide_eq_true (by assumption)
           have q332 : x9_3 < (l0.length : Int) := of_decide_eq_true (by assumption)
           obtain ⟨ad332, e332, hx332_0, hx332_1, hx332_2, hx332_3⟩ := at_T48 HR0.out x9_3 p332 q332
           cases e332
           replace p332 := eq_true p332
           replace q332 := eq_true q332
           go_wp2
           go_ret
           exact ⟨by first|rfl|(simp; done)|(simp [*]; done), by repeat (first|exact Drawn0.refl _|apply Drawn0.step)⟩
         ·rw [if_neg c9] at H
          have c9b0 : decide (x9_3 < ((rd_T28 l1 x6_1).f1)) = false := decide_eq_false c9
          clear c9
          have H' := aM H
          clear H
          go_wp2
          go_roundg k3
          case measure => have := HK1.out; have := HJ4.out; have := HK3.out; omega
          case rel => exact ⟨(((rd_T28 l1 x6_1).f1)), (wrap64 (x6_1 + 1)), (by first|rfl|(simp; done)|(simp [*]; done)), (by first|rfl|(simp; done)|(simp [*]; done)), H', ⟨by have := HK1.out; have := HJ4.out; have := HK3.out; omega⟩, by repeat (first|exact Drawn0.refl _|apply Drawn0.step)⟩
   ·rw [if_neg c3] at H
    have c3b0 : decide (x6_1 < (l1.length : Int)) = false := decide_eq_false c3
    clear c3
    obtain rfl := Option.some.inj H
    go_wp2
    go_ret
    exact ⟨by first|rfl|(simp; done)|(simp [*]; done), by repeat (first|exact Drawn0.refl _|apply Drawn0.step)⟩
mutual
def emenderref14_Point.j2 : Nat → ByteArray → Int → Int → Int → Int → Option (Int × Int)
|0, _, _, _, _, _ => none
|k + 1, x0, x1, x6, x7, x8 => if x6 = 0 then (emenderref14_Point.j3 k x0 x1 x6 x7 x8 true) else (emenderref14_Point.j3 k x0 x1 x6 x7 x8 (decide ((wrap64 (x1 + x6)) > (x0.size : Int))))
def emenderref14_Point.j3 : Nat → ByteArray → Int → Int → Int → Int → Bool → Option (Int × Int)
|0, _, _, _, _, _, _ => none
|k + 1, x0, x1, x6, x7, x8, x54 => if x54 = true then (some (0, 0)) else (emenderref14_Point.l0 k x0 x1 x6 x7 x8 1)
def emenderref14_Point.l0 : Nat → ByteArray → Int → Int → Int → Int → Int → Option (Int × Int)
|0, _, _, _, _, _, _ => none
|k + 1, x0, x1, x6, x7, x8, x9 => if x9 < x6 then (if 0 ≤ (wrap64 (x1 + x9)) then (if (wrap64 (x1 + x9)) < (x0.size : Int) then (if (Go.bits .and .u8 (bt x0 (wrap64 (x1 + x9))) 192) = 128 then (emenderref14_Point.l0 k x0 x1 x6 x7 (Go.bits .or .i64 (wrap64 (x8 * 64)) (wrap64 (Go.bits .and .u8 (bt x0 (wrap64 (x1 + x9))) 63))) (wrap64 (x9 + 1))) else (some (0, 0))) else (none)) else (none)) else (if x8 < x7 then (some (0, 0)) else ((emenderref04_Point.f x8).bind fun t333 => (if t333 = true then (some (x8, x6)) else (some (0, 0)))))
def emenderref14_Point.j0 : Nat → ByteArray → Int → Int → Int → Int → Bool → Option (Int × Int)
|0, _, _, _, _, _, _ => none
|k + 1, x0, x1, x6, x7, x8, x18 => if x18 = true then (emenderref14_Point.j2 k x0 x1 2 128 (Go.bits .and .i64 x8 31)) else (if x8 ≥ 224 then (emenderref14_Point.j1 k x0 x1 x6 x7 x8 (decide (x8 < 240))) else (emenderref14_Point.j1 k x0 x1 x6 x7 x8 false))
def emenderref14_Point.j1 : Nat → ByteArray → Int → Int → Int → Int → Bool → Option (Int × Int)
|0, _, _, _, _, _, _ => none
|k + 1, x0, x1, x6, x7, x8, x27 => if x27 = true then (emenderref14_Point.j2 k x0 x1 3 2048 (Go.bits .and .i64 x8 15)) else (if x8 ≥ 240 then (if x8 < 248 then (emenderref14_Point.j2 k x0 x1 4 65536 (Go.bits .and .i64 x8 7)) else (emenderref14_Point.j2 k x0 x1 x6 x7 x8)) else (emenderref14_Point.j2 k x0 x1 x6 x7 x8))
end
def emenderref14_Point.f (k : Nat) (a0 : ByteArray) (a1 : Int) : Option (Int × Int) := if 0 ≤ a1 then (if a1 < (a0.size : Int) then (if (wrap64 (bt a0 a1)) < 128 then (some (wrap64 (bt a0 a1), 1)) else (if (wrap64 (bt a0 a1)) ≥ 192 then (emenderref14_Point.j0 k a0 a1 0 0 (wrap64 (bt a0 a1)) (decide ((wrap64 (bt a0 a1)) < 224))) else (emenderref14_Point.j0 k a0 a1 0 0 (wrap64 (bt a0 a1)) false))) else (none)) else (none)
set_option maxHeartbeats 8000000 in
set_option maxRecDepth 100000 in
theorem emenderref14_Point.calls (k : Nat) (a0 : ByteArray) (a1 : Int) (r1 : Int) (r2 : Int) (w : World) (h : emenderref14_Point.f k a0 a1 = some (r1, r2)) :
  Calls Tryd.prog 41 #[.string a0, .int .i64 a1] w fun e w' => e = .returned (.tuple #[.int .i64 r1, .int .i64 r2]) ∧ Drawn0 w w' := by
 have H : (if 0 ≤ a1 then (if a1 < (a0.size : Int) then (if (wrap64 (bt a0 a1)) < 128 then (some (wrap64 (bt a0 a1), 1)) else (if (wrap64 (bt a0 a1)) ≥ 192 then (emenderref14_Point.j0 k a0 a1 0 0 (wrap64 (bt a0 a1)) (decide ((wrap64 (bt a0 a1)) < 224))) else (emenderref14_Point.j0 k a0 a1 0 0 (wrap64 (bt a0 a1)) false))) else (none)) else (none)) = some (r1, r2) := h
 clear h
 replace H := ifS H; obtain ⟨c3, H⟩ := H
 have c3b0 : decide (0 ≤ a1) = true := decide_eq_true c3
 clear c3
 replace H := ifS H; obtain ⟨c4, H⟩ := H
 have c4b0 : decide (a1 < (a0.size : Int)) = true := decide_eq_true c4
 clear c4
 have HC6 := aM H
 clear H
 have p5 : 0 ≤ (a1 : Int) := of_decide_eq_true (by assumption)
 have q5 : a1 < (a0.size : Int) := of_decide_eq_true (by assumption)
 have hx5 := bt_at a0 a1
 replace p5 := eq_true p5
 replace q5 := eq_true q5
 go_enter Tryd.func41, Tryd.ntmps41
 go_upto_block 0 with (fail)
 go_cut [6, 7, 8] (fun v6 v7 v8 wc => ∃ (kq : Nat) (x6_5 : Int) (x7_5 : Int) (x8_5 : Int), v6 = .int .i64 x6_5 ∧ v7 = .int .i64 x7_5 ∧ v8 = .int .i64 x8_5 ∧ Aside0 (emenderref14_Point.j2 kq a0 a1 x6_5 x7_5 x8_5 = some (r1, r2)) ∧ Aside0 (kq ≤ k) ∧ Drawn0 w wc)
 case first =>
  have H := HC6.out
  clear HC6
  by_cases c7 : (wrap64 (bt a0 a1)) < 128
  ·rw [if_pos c7] at H
   have c7b0 : decide ((wrap64 (bt a0 a1)) < 128) = true := decide_eq_true c7
   clear c7
   (first|rw [c7b0]|(simp only [i64_w, i32_w]; rw [c7b0])|skip)
   simp only [Option.some.injEq, Prod.mk.injEq] at H
   obtain ⟨rfl, rfl⟩ := H
   go_wp2
   go_ret2
   exact ⟨by first|rfl|(simp; done)|(simp [*]; done), by repeat (first|exact Drawn0.refl _|apply Drawn0.step)⟩
  ·rw [if_neg c7] at H
   have c7b0 : decide ((wrap64 (bt a0 a1)) < 128) = false := decide_eq_false c7
   clear c7
   (first|rw [c7b0]|(simp only [i64_w, i32_w]; rw [c7b0])|skip)
   have HC8 := aM H
   clear H
   go_upto_region 6 with (fail)
   go_cut [18] (fun v18 wc => ∃ (kq : Nat) (x18_7 : Bool), v18 = .bool x18_7 ∧ Aside0 (emenderref14_Point.j0 kq a0 a1 0 0 (wrap64 (bt a0 a1)) x18_7 = some (r1, r2)) ∧ Aside0 (kq ≤ k) ∧ Drawn0 w wc)
   case first =>
    have H := HC8.out
    clear HC8
    by_cases c9 : (wrap64 (bt a0 a1)) ≥ 192
    ·rw [if_pos c9] at H
     have c9b0 : decide (192 ≤ (wrap64 (bt a0 a1))) = true := decide_eq_true c9
     clear c9
     (first|rw [c9b0]|(simp only [i64_w, i32_w]; rw [c9b0])|skip)
     have H' := aM H
     clear H
     go_wp2
     go_meet
     case rel => exact ⟨_, (decide ((wrap64 (bt a0 a1)) < 224)), (by first|rfl|(simp; done)|(simp [*]; done)), H', ⟨by first|omega|exact Nat.le_refl _⟩, by repeat (first|exact Drawn0.refl _|apply Drawn0.step)⟩
    ·rw [if_neg c9] at H
     have c9b0 : decide (192 ≤ (wrap64 (bt a0 a1))) = false := decide_eq_false c9
     clear c9
     (first|rw [c9b0]|(simp only [i64_w, i32_w]; rw [c9b0])|skip)
     have H' := aM H
     clear H
     go_wp2
     go_meet
     case rel => exact ⟨_, (false), (by first|rfl|(simp; done)|(simp [*]; done)), H', ⟨by first|omega|exact Nat.le_refl _⟩, by repeat (first|exact Drawn0.refl _|apply Drawn0.step)⟩
   case rest =>
    clear HC8
    obtain ⟨kq, x18_7, rfl, HA, HJ7, ⟨mc7, rfl⟩⟩ := hcut
    cases kq with
   |zero => exact absurd HA.out (by simp [emenderref14_Point.j0])
   |succ kj7 =>
     have H := HA.out
     clear HA
     simp only [emenderref14_Point.j0] at H
     by_cases c10 : x18_7 = true
     ·subst c10
      have H1 : (emenderref14_Point.j2 kj7 a0 a1 2 128 (Go.bits .and .i64 (wrap64 (bt a0 a1)) 31)) = some (r1, r2) := by rw [if_pos rfl] at H; exact H
      clear H
      have H := H1
      clear H1
      have H' := aM H
      clear H
      go_wp2
      go_meet
      case rel => exact ⟨_, (2), (128), (Go.bits .and .i64 (wrap64 (bt a0 a1)) 31), (by first|rfl|(simp; done)|(simp [*]; done)), (by first|rfl|(simp; done)|(simp [*]; done)), (by first|rfl|(simp; done)|(simp [*]; done)), H', ⟨by have := HJ7.out; first|omega|exact Nat.le_refl _⟩, by repeat (first|exact Drawn0.refl _|apply Drawn0.step)⟩
     ·replace c10 := Bool.eq_false_iff.mpr c10
      subst c10
      have H1 : (if (wrap64 (bt a0 a1)) ≥ 224 then (emenderref14_Point.j1 kj7 a0 a1 0 0 (wrap64 (bt a0 a1)) (decide ((wrap64 (bt a0 a1)) < 240))) else (emenderref14_Point.j1 kj7 a0 a1 0 0 (wrap64 (bt a0 a1)) false)) = some (r1, r2) := by rw [if_neg (show ¬ (false = true) by decide)] at H; exact H
      clear H
      have H := H1
      clear H1
      have HC11 := aM H
      clear H
      go_upto_region 10 with (fail)
      go_cut [27] (fun v27 wc => ∃ (kq : Nat) (x27_10 : Bool), v27 = .bool x27_10 ∧ Aside0 (emenderref14_Point.j1 kq a0 a1 0 0 (wrap64 (bt a0 a1)) x27_10 = some (r1, r2)) ∧ Aside0 (kq ≤ kj7) ∧ Drawn0 w wc)
      case first =>
       have H := HC11.out
       clear HC11
       by_cases c12 : (wrap64 (bt a0 a1)) ≥ 224
       ·rw [if_pos c12] at H
        have c12b0 : decide (224 ≤ (wrap64 (bt a0 a1))) = true := decide_eq_true c12
        clear c12
        (first|rw [c12b0]|(simp only [i64_w, i32_w]; rw [c12b0])|skip)
        have H' := aM H
        clear H
        go_wp2
        go_meet
        case rel => exact ⟨_, (decide ((wrap64 (bt a0 a1)) < 240)), (by first|rfl|(simp; done)|(simp [*]; done)), H', ⟨by have := HJ7.out; first|omega|exact Nat.le_refl _⟩, by repeat (first|exact Drawn0.refl _|apply Drawn0.step)⟩
       ·rw [if_neg c12] at H
        have c12b0 : decide (224 ≤ (wrap64 (bt a0 a1))) = false := decide_eq_false c12
        clear c12
        (first|rw [c12b0]|(simp only [i64_w, i32_w]; rw [c12b0])|skip)
        have H' := aM H
        clear H
        go_wp2
        go_meet
        case rel => exact ⟨_, (false), (by first|rfl|(simp; done)|(simp [*]; done)), H', ⟨by have := HJ7.out; first|omega|exact Nat.le_refl _⟩, by repeat (first|exact Drawn0.refl _|apply Drawn0.step)⟩
      case rest =>
       clear HC11
       obtain ⟨kq, x27_10, rfl, HA, HJ10, ⟨mc10, rfl⟩⟩ := hcut
       cases kq with
      |zero => exact absurd HA.out (by simp [emenderref14_Point.j1])
      |succ kj10 =>
        have H := HA.out
        clear HA
        simp only [emenderref14_Point.j1] at H
        by_cases c13 : x27_10 = true
        ·subst c13
         have H1 : (emenderref14_Point.j2 kj10 a0 a1 3 2048 (Go.bits .and .i64 (wrap64 (bt a0 a1)) 15)) = some (r1, r2) := by rw [if_pos rfl] at H; exact H
         clear H
         have H := H1
         clear H1
         have H' := aM H
         clear H
         go_wp2
         go_meet
         case rel => exact ⟨_, (3), (2048), (Go.bits .and .i64 (wrap64 (bt a0 a1)) 15), (by first|rfl|(simp; done)|(simp [*]; done)), (by first|rfl|(simp; done)|(simp [*]; done)), (by first|rfl|(simp; done)|(simp [*]; done)), H', ⟨by have := HJ7.out; have := HJ10.out; first|omega|exact Nat.le_refl _⟩, by repeat (first|exact Drawn0.refl _|apply Drawn0.step)⟩
        ·replace c13 := Bool.eq_false_iff.mpr c13
         subst c13
         have H1 : (if (wrap64 (bt a0 a1)) ≥ 240 then (if (wrap64 (bt a0 a1)) < 248 then (emenderref14_Point.j2 kj10 a0 a1 4 65536 (Go.bits .and .i64 (wrap64 (bt a0 a1)) 7)) else (emenderref14_Point.j2 kj10 a0 a1 0 0 (wrap64 (bt a0 a1)))) else (emenderref14_Point.j2 kj10 a0 a1 0 0 (wrap64 (bt a0 a1)))) = some (r1, r2) := by rw [if_neg (show ¬ (false = true) by decide)] at H; exact H
         clear H
         have H := H1
         clear H1
         by_cases c14 : (wrap64 (bt a0 a1)) ≥ 240
         ·rw [if_pos c14] at H
          have c14b0 : decide (240 ≤ (wrap64 (bt a0 a1))) = true := decide_eq_true c14
          clear c14
          by_cases c15 : (wrap64 (bt a0 a1)) < 248
          ·rw [if_pos c15] at H
           have c15b0 : decide ((wrap64 (bt a0 a1)) < 248) = true := decide_eq_true c15
           clear c15
           have H' := aM H
           clear H
           go_wp2
           go_meet
           case rel => exact ⟨_, (4), (65536), (Go.bits .and .i64 (wrap64 (bt a0 a1)) 7), (by first|rfl|(simp; done)|(simp [*]; done)), (by first|rfl|(simp; done)|(simp [*]; done)), (by first|rfl|(simp; done)|(simp [*]; done)), H', ⟨by have := HJ7.out; have := HJ10.out; first|omega|exact Nat.le_refl _⟩, by repeat (first|exact Drawn0.refl _|apply Drawn0.step)⟩
          ·rw [if_neg c15] at H
           have c15b0 : decide ((wrap64 (bt a0 a1)) < 248) = false := decide_eq_false c15
           clear c15
           have H' := aM H
           clear H
           go_wp2
           go_meet
           case rel => exact ⟨_, (0), (0), ((wrap64 (bt a0 a1))), (by first|rfl|(simp; done)|(simp [*]; done)), (by first|rfl|(simp; done)|(simp [*]; done)), (by first|rfl|(simp; done)|(simp [*]; done)), H', ⟨by have := HJ7.out; have := HJ10.out; first|omega|exact Nat.le_refl _⟩, by repeat (first|exact Drawn0.refl _|apply Drawn0.step)⟩
         ·rw [if_neg c14] at H
          have c14b0 : decide (240 ≤ (wrap64 (bt a0 a1))) = false := decide_eq_false c14
          clear c14
          have H' := aM H
          clear H
          go_wp2
          go_meet
          case rel => exact ⟨_, (0), (0), ((wrap64 (bt a0 a1))), (by first|rfl|(simp; done)|(simp [*]; done)), (by first|rfl|(simp; done)|(simp [*]; done)), (by first|rfl|(simp; done)|(simp [*]; done)), H', ⟨by have := HJ7.out; have := HJ10.out; first|omega|exact Nat.le_refl _⟩, by repeat (first|exact Drawn0.refl _|apply Drawn0.step)⟩
 case rest =>
  clear HC6
  obtain ⟨kq, x6_5, x7_5, x8_5, rfl, rfl, rfl, HA, HJ5, ⟨mc5, rfl⟩⟩ := hcut
  cases kq with
 |zero => exact absurd HA.out (by simp [emenderref14_Point.j2])
 |succ kj5 =>
   have H := HA.out
   clear HA
   simp only [emenderref14_Point.j2] at H
   have HC16 := aM H
   clear H
   go_upto_region 18 with (fail)
   go_cut [54] (fun v54 wc => ∃ (kq : Nat) (x54_15 : Bool), v54 = .bool x54_15 ∧ Aside0 (emenderref14_Point.j3 kq a0 a1 x6_5 x7_5 x8_5 x54_15 = some (r1, r2)) ∧ Aside0 (kq ≤ kj5) ∧ Drawn0 w wc)
   case first =>
    have H := HC16.out
    clear HC16
    by_cases c17 : x6_5 = 0
    ·rw [if_pos c17] at H
     have c17b0 : (x6_5 == 0) = true := beq_iff_eq.mpr c17
     have c17b1 : (x6_5 != 0) = false := bne_eq_false_iff_eq.mpr c17
     clear c17
     (first|rw [c17b0]|(simp only [i64_w, i32_w]; rw [c17b0])|skip)
     have H' := aM H
     clear H
     go_wp2
     go_meet
     case rel => exact ⟨_, (true), (by first|rfl|(simp; done)|(simp [*]; done)), H', ⟨by have := HJ5.out; first|omega|exact Nat.le_refl _⟩, by repeat (first|exact Drawn0.refl _|apply Drawn0.step)⟩
    ·rw [if_neg c17] at H
     have c17b0 : (x6_5 == 0) = false := beq_eq_false_iff_ne.mpr c17
     have c17b1 : (x6_5 != 0) = true := bne_iff_ne.mpr c17
     (first|rw [c17b0]|(simp only [i64_w, i32_w]; rw [c17b0])|skip)
     have H' := aM H
     clear H
     go_wp2
     go_meet
     case rel => exact ⟨_, (decide ((wrap64 (a1 + x6_5)) > (a0.size : Int))), (by first|rfl|(simp; done)|(simp [*]; done)), H', ⟨by have := HJ5.out; first|omega|exact Nat.le_refl _⟩, by repeat (first|exact Drawn0.refl _|apply Drawn0.step)⟩
   case rest =>
    clear HC16
    obtain ⟨kq, x54_15, rfl, HA, HJ15, ⟨mc15, rfl⟩⟩ := hcut
    cases kq with
   |zero => exact absurd HA.out (by simp [emenderref14_Point.j3])
   |succ kj15 =>
     have H := HA.out
     clear HA
     simp only [emenderref14_Point.j3] at H
     by_cases c18 : x54_15 = true
     ·subst c18
      have H1 : (some (0, 0)) = some (r1, r2) := by rw [if_pos rfl] at H; exact H
      clear H
      have H := H1
      clear H1
      simp only [Option.some.injEq, Prod.mk.injEq] at H
      obtain ⟨rfl, rfl⟩ := H
      go_wp2
      go_ret2
      exact ⟨by first|rfl|(simp; done)|(simp [*]; done), by repeat (first|exact Drawn0.refl _|apply Drawn0.step)⟩
     ·replace c18 := Bool.eq_false_iff.mpr c18
      subst c18
      have H1 : (emenderref14_Point.l0 kj15 a0 a1 x6_5 x7_5 x8_5 1) = some (r1, r2) := by rw [if_neg (show ¬ (false = true) by decide)] at H; exact H
      clear H
      have H := H1
      clear H1
      have H' := aM H
      clear H
      go_wp2
      go_loopg [8, 9] kj15 (fun kq v8 v9 w' => ∃ (x8_3 : Int) (x9_3 : Int), v8 = .int .i64 x8_3 ∧ v9 = .int .i64 x9_3 ∧ Aside0 (emenderref14_Point.l0 kq a0 a1 x6_5 x7_5 x8_3 x9_3 = some (r1, r2)) ∧ Aside0 (kq ≤ kj15) ∧ Drawn0 w w')
      case atStart => exact ⟨(x8_5), (1), (by first|rfl|(simp; done)|(simp [*]; done)), (by first|rfl|(simp; done)|(simp [*]; done)), H', ⟨Nat.le_refl _⟩, by repeat (first|exact Drawn0.refl _|apply Drawn0.step)⟩
      case round =>
       clear H'
       obtain ⟨x8_3, x9_3, rfl, rfl, HA, HK3, ⟨m3, rfl⟩⟩ := hrel
       cases gk with
      |zero => exact absurd HA.out (by simp [emenderref14_Point.l0])
      |succ k3 =>
        have H := HA.out
        clear HA
        simp only [emenderref14_Point.l0] at H
        by_cases c19 : x9_3 < x6_5
        ·rw [if_pos c19] at H
         have c19b0 : decide (x9_3 < x6_5) = true := decide_eq_true c19
         clear c19
         obtain ⟨ji20, hji20⟩ : ∃ j_ : Int, (wrap64 (a1 + x9_3)) = j_ := ⟨_, rfl⟩
         replace H : (if 0 ≤ (ji20) then (if (ji20) < (a0.size : Int) then (if (Go.bits .and .u8 (bt a0 (ji20)) 192) = 128 then (emenderref14_Point.l0 k3 a0 a1 x6_5 x7_5 (Go.bits .or .i64 (wrap64 (x8_3 * 64)) (wrap64 (Go.bits .and .u8 (bt a0 (ji20)) 63))) (wrap64 (x9_3 + 1))) else (some (0, 0))) else (none)) else (none)) = some (r1, r2) := by first|(rw [hji20] at H; exact H)|(simp only [hji20] at H ⊢; exact H)
         have hji20w : (IntKind.i64.wrap (a1 + x9_3)) = ji20 := (i64_w _).trans hji20
         replace H := ifS H; obtain ⟨c21, H⟩ := H
         have c21b0 : decide (0 ≤ (ji20)) = true := decide_eq_true c21
         clear c21
         replace H := ifS H; obtain ⟨c22, H⟩ := H
         have c22b0 : decide ((ji20) < (a0.size : Int)) = true := decide_eq_true c22
         clear c22
         by_cases c24 : (Go.bits .and .u8 (bt a0 (ji20)) 192) = 128
         ·rw [if_pos c24] at H
          have c24b0 : ((Go.bits .and .u8 (bt a0 (ji20)) 192) == 128) = true := beq_iff_eq.mpr c24
          have c24b1 : ((Go.bits .and .u8 (bt a0 (ji20)) 192) != 128) = false := bne_eq_false_iff_eq.mpr c24
          clear c24
          have H' := aM H
          clear H
          have p23 : 0 ≤ ((ji20) : Int) := of_decide_eq_true (by assumption)
          have q23 : (ji20) < (a0.size : Int) := of_decide_eq_true (by assumption)
          have hx23 := bt_at a0 (ji20)
          replace p23 := eq_true p23
          replace q23 := eq_true q23
          have p25 : 0 ≤ ((ji20) : Int) := of_decide_eq_true (by assumption)
          have q25 : (ji20) < (a0.size : Int) := of_decide_eq_true (by assumption)
          have hx25 := bt_at a0 (ji20)
          replace p25 := eq_true p25
          replace q25 := eq_true q25
          go_wp2
          go_roundg k3
          case measure => have := HJ5.out; have := HJ15.out; have := HK3.out; omega
          case rel => exact ⟨(Go.bits .or .i64 (wrap64 (x8_3 * 64)) (wrap64 (Go.bits .and .u8 (bt a0 (ji20)) 63))), (wrap64 (x9_3 + 1)), (by first|rfl|(simp; done)|(simp only [← hji20] <;> (first|rfl|simp))|(simp [*]; done)), (by first|rfl|(simp; done)|(simp [*]; done)), H', ⟨by have := HJ5.out; have := HJ15.out; have := HK3.out; omega⟩, by repeat (first|exact Drawn0.refl _|apply Drawn0.step)⟩
         ·rw [if_neg c24] at H
          have c24b0 : ((Go.bits .and .u8 (bt a0 (ji20)) 192) == 128) = false := beq_eq_false_iff_ne.mpr c24
          have c24b1 : ((Go.bits .and .u8 (bt a0 (ji20)) 192) != 128) = true := bne_iff_ne.mpr c24
          simp only [Option.some.injEq, Prod.mk.injEq] at H
          obtain ⟨rfl, rfl⟩ := H
          have p23 : 0 ≤ ((ji20) : Int) := of_decide_eq_true (by assumption)
          have q23 : (ji20) < (a0.size : Int) := of_decide_eq_true (by assumption)
          have hx23 := bt_at a0 (ji20)
          replace p23 := eq_true p23
          replace q23 := eq_true q23
          go_wp2
          go_ret2
          exact ⟨by first|rfl|(simp; done)|(simp only [← hji20] <;> (first|rfl|simp))|(simp [*]; done), by repeat (first|exact Drawn0.refl _|apply Drawn0.step)⟩
        ·rw [if_neg c19] at H
         have c19b0 : decide (x9_3 < x6_5) = false := decide_eq_false c19
         clear c19
         by_cases c26 : x8_3 < x7_5
         ·rw [if_pos c26] at H
          have c26b0 : decide (x8_3 < x7_5) = true := decide_eq_true c26
          clear c26
          simp only [Option.some.injEq, Prod.mk.injEq] at H
          obtain ⟨rfl, rfl⟩ := H
          go_wp2
          go_ret2
          exact ⟨by first|rfl|(simp; done)|(simp [*]; done), by repeat (first|exact Drawn0.refl _|apply Drawn0.step)⟩
         ·rw [if_neg c26] at H
          have c26b0 : decide (x8_3 < x7_5) = false := decide_eq_false c26
          clear c26
          replace H := Option.bind_eq_some_iff.mp H
          obtain ⟨t333, A270, H⟩ := H
          replace H : (if t333 = true then (some (x8_3, x6_5)) else (some (0, 0))) = some (r1, r2) := H
          have A27 := aM A270
          clear A270
          by_cases c28 : t333 = true
          ·subst c28
           have H1 : (some (x8_3, x6_5)) = some (r1, r2) := by rw [if_pos rfl] at H; exact H
           clear H
           have H := H1
           clear H1
           simp only [Option.some.injEq, Prod.mk.injEq] at H
           obtain ⟨rfl, rfl⟩ := H
           go_wp2_with (first|(go_at_call 49; (with_reducible refine (emenderref04_Point.calls x8_3 true _ A27.out).mono ?_); rintro e w' ⟨rfl, ⟨nd, rfl⟩⟩))
           go_ret2
           exact ⟨by first|rfl|(simp; done)|(simp [*]; done), by repeat (first|exact Drawn0.refl _|apply Drawn0.step)⟩
          ·replace c28 := Bool.eq_false_iff.mpr c28
           subst c28
           have H1 : (some (0, 0)) = some (r1, r2) := by rw [if_neg (show ¬ (false = true) by decide)] at H; exact H
           clear H
           have H := H1
           clear H1
           simp only [Option.some.injEq, Prod.mk.injEq] at H
           obtain ⟨rfl, rfl⟩ := H
           go_wp2_with (first|(go_at_call 49; (with_reducible refine (emenderref04_Point.calls x8_3 false _ A27.out).mono ?_); rintro e w' ⟨rfl, ⟨nd, rfl⟩⟩))
           go_ret2
           exact ⟨by first|rfl|(simp; done)|(simp [*]; done), by repeat (first|exact Drawn0.refl _|apply Drawn0.step)⟩
def emenderref26_points.l0 : Nat → ByteArray → List Int → Int → Option (List Int × Int)
|0, _, _, _ => none
|k + 1, x0, x4, x5 => if x5 < (x0.size : Int) then ((emenderref14_Point.f k x0 x5).bind fun bt334 => (if bt334.2 = 0 then (some (([] : List Int), 4)) else (if x4.length < 17592186044416 then (emenderref26_points.l0 k x0 (x4 ++ [bt334.1]) (wrap64 (x5 + bt334.2))) else (none)))) else (some (x4, 0))
def emenderref26_points.f (k : Nat) (a0 : ByteArray) : Option (List Int × Int) := if (a0.size : Int) > 1000 then (some (([] : List Int), 2)) else (emenderref26_points.l0 k a0 ([] : List Int) 0)
set_option maxHeartbeats 8000000 in
set_option maxRecDepth 100000 in
theorem emenderref26_points.calls (k : Nat) (a0 : ByteArray) (r1 : List Int) (r2 : Int) (w : World) (h : emenderref26_points.f k a0 = some (r1, r2)) :
  Calls Tryd.prog 27 #[.string a0] w fun e w' => ∃ v0_ : Value, e = .returned (.tuple #[v0_, .int .i64 r2]) ∧ Kd.R (Kd.int .i64) 3 w' w.heap.size (fun _ => True) v0_ r1 ∧ Below w.heap.size w w' := by
 have HB := aM (Below.refl w.heap.size w)
 have H : (if (a0.size : Int) > 1000 then (some (([] : List Int), 2)) else (emenderref26_points.l0 k a0 ([] : List Int) 0)) = some (r1, r2) := h
 clear h
 by_cases c2 : (a0.size : Int) > 1000
 ·rw [if_pos c2] at H
  have c2b0 : decide (1000 < (a0.size : Int)) = true := decide_eq_true c2
  have c2b1 : decide (1000 < a0.size) = true := decide_eq_true (by omega)
  clear c2
  simp only [Option.some.injEq, Prod.mk.injEq] at H
  obtain ⟨rfl, rfl⟩ := H
  go_enter Tryd.func27, Tryd.ntmps27
  go_wp2
  go_ret2
  exact ⟨_, by first|rfl|(simp [errW_none, errW_some] <;> rfl)|(simp [*, errW_none, errW_some] <;> rfl), by first|exact Kd.R_nil _ _ _ _ _|exact Kd.N_nil _ _ _ _ _|exact Kd.V_nil _ _ _ _ _|exact Kd.Q_nil _ _ _ _ _|exact Kd.S_nil _ _ _ _ _, by repeat (first|(with_reducible first|exact HB.out|apply lA|apply lN|apply lD)|exact HB.out)⟩
 ·rw [if_neg c2] at H
  have c2b0 : decide (1000 < (a0.size : Int)) = false := decide_eq_false c2
  have c2b1 : decide (1000 < a0.size) = false := decide_eq_false (by omega)
  clear c2
  have H' := aM H
  clear H
  go_enter Tryd.func27, Tryd.ntmps27
  go_wp2
  go_loopg [4, 5] k (fun kq v4 v5 w' => ∃ (x4_1 : List Int) (x5_1 : Int), v5 = .int .i64 x5_1 ∧ Aside0 (emenderref26_points.l0 kq a0 x4_1 x5_1 = some (r1, r2)) ∧ Aside0 (kq ≤ k) ∧ Aside0 (Kd.R (Kd.int .i64) 3 w' w.heap.size (fun _ => True) v4 x4_1) ∧ Aside0 (Below w.heap.size w w'))
  case atStart => exact ⟨(([] : List Int)), (0), (by first|rfl|(simp; done)|(simp [*]; done)), H', ⟨Nat.le_refl _⟩, ⟨by first|exact Kd.R_nil _ _ _ _ _|exact Kd.N_nil _ _ _ _ _|exact Kd.V_nil _ _ _ _ _|exact Kd.Q_nil _ _ _ _ _|exact Kd.S_nil _ _ _ _ _⟩, ⟨by repeat (first|(with_reducible first|exact HB.out|apply lA|apply lN|apply lD)|exact HB.out)⟩⟩
  case round =>
   clear H'
   obtain ⟨x4_1, x5_1, rfl, HA, HK1, HO_4, HB⟩ := hrel
   cases gk with
  |zero => exact absurd HA.out (by simp [emenderref26_points.l0])
  |succ k1 =>
    have H := HA.out
    clear HA
    simp only [emenderref26_points.l0] at H
    by_cases c3 : x5_1 < (a0.size : Int)
    ·rw [if_pos c3] at H
     have c3b0 : decide (x5_1 < (a0.size : Int)) = true := decide_eq_true c3
     clear c3
     replace H := Option.bind_eq_some_iff.mp H
     obtain ⟨⟨t334, t335⟩, A40, H⟩ := H
     replace H : (if t335 = 0 then (some (([] : List Int), 4)) else (if x4_1.length < 17592186044416 then (emenderref26_points.l0 k1 a0 (x4_1 ++ [t334]) (wrap64 (x5_1 + t335))) else (none))) = some (r1, r2) := H
     have A4 := aM A40
     clear A40
     by_cases c5 : t335 = 0
     ·rw [if_pos c5] at H
      have c5b0 : (t335 == 0) = true := beq_iff_eq.mpr c5
      have c5b1 : (t335 != 0) = false := bne_eq_false_iff_eq.mpr c5
      clear c5
      simp only [Option.some.injEq, Prod.mk.injEq] at H
      obtain ⟨rfl, rfl⟩ := H
      go_wp2_with (first|((with_reducible refine gate_callee (f := 41) rfl ?_); refine goesL_ (some 18) rfl rfl Tryd.func41 (by kernel_rfl) rfl #[.string a0, .int .i64 x5_1] rfl (by (try simp only [List.map_toArray, List.map_cons, List.map_nil]); first|done|rfl|(simp only [List.length_drop, List.length_take]; rfl)) ?_; (with_reducible refine (emenderref14_Point.calls k1 a0 x5_1 t334 t335 _ A4.out).mono ?_); rintro e w' ⟨rfl, ⟨nd, rfl⟩⟩; refine ⟨_, rfl, ?_⟩))
      go_ret2
      exact ⟨_, by first|rfl|(simp [errW_none, errW_some] <;> rfl)|(simp [*, errW_none, errW_some] <;> rfl), by first|exact Kd.R_nil _ _ _ _ _|exact Kd.N_nil _ _ _ _ _|exact Kd.V_nil _ _ _ _ _|exact Kd.Q_nil _ _ _ _ _|exact Kd.S_nil _ _ _ _ _, by repeat (first|(with_reducible first|exact HB.out|apply lA|apply lN|apply lD)|exact HB.out)⟩
     ·rw [if_neg c5] at H
      have c5b0 : (t335 == 0) = false := beq_eq_false_iff_ne.mpr c5
      have c5b1 : (t335 != 0) = true := bne_iff_ne.mpr c5
      replace H := ifS H; obtain ⟨c6, H⟩ := H
      have LMc6 := aM c6
      clear c6
      obtain ⟨y336, hy336⟩ : ∃ y_ : List Int, y_ = (x4_1 ++ [t334]) := ⟨_, rfl⟩
      replace H : (emenderref26_points.l0 k1 a0 y336 (wrap64 (x5_1 + t335))) = some (r1, r2) := by first|(rw [hy336]; with_reducible exact H)|(have H2_ := (Option.bind_some _ _).symm.trans H; rw [hy336]; with_reducible exact H2_)|(have H2_ := (Option.bind_some _ _).symm.trans H; with_reducible exact H2_)|with_reducible exact H|(rw [hy336]; exact H)|exact H
      have Ny336 := aM hy336
      clear hy336
      have H' := aM H
      clear H
      go_wp2_with (first|((with_reducible refine gate_callee (f := 41) rfl ?_); refine goesL_ (some 18) rfl rfl Tryd.func41 (by kernel_rfl) rfl #[.string a0, .int .i64 x5_1] rfl (by (try simp only [List.map_toArray, List.map_cons, List.map_nil]); first|done|rfl|(simp only [List.length_drop, List.length_take]; rfl)) ?_; (with_reducible refine (emenderref14_Point.calls k1 a0 x5_1 t334 t335 _ A4.out).mono ?_); rintro e w' ⟨rfl, ⟨nd, rfl⟩⟩; refine ⟨_, rfl, ?_⟩)|((with_reducible refine gate_builtin (b := .append) (xs := #[.tmp 23, .tmp 25]) rfl ?_); at_builtin; refine Kd.R_append (Kd.int .i64) (w0 := w) w.heap.size rfl (.tmp 23) (.tmp 25) 50 3 (.int .i64 0) 8 rfl Tryd.underlying50 info3 rfl (by decide) (by omega) u4 x4_1 t334 [.int .i64 t334] (fun _ => True) (fun _ => False) rfl rfl ?aP (fun _ hk => hk.elim) ?aF ?aO ?aB ?aS ?aL ?_; (case aP => exact rfl); (case aB => exact (by repeat (first|(with_reducible first|exact HB.out|apply lA|apply lN|apply lD)|exact HB.out))); (case aF => exact (fun _ _ => trivial)); (case aO => exact (by (with_reducible repeat (first|apply Kd.R_alloc|apply Kd.R_drewN|apply Kd.R_drew)); exact HO_4.out)); (case aS => exact (below_size (by repeat (first|(with_reducible first|exact HB.out|apply lA|apply lN|apply lD)|exact HB.out)))); (case aL => have := LMc6.out; omega); intro v337 w7 ho hb hg hat; rw [← Ny336.out] at ho; have n0_ := aM (hb); have n1_ := aM (ho); clear HB; clear HO_4; have HB := n0_; have HO338 := n1_; clear n0_ n1_; clear ho hb hg hat))
      go_roundg k1
      case measure => have := HK1.out; omega
      case rel => exact ⟨(y336), (wrap64 (x5_1 + t335)), (by first|rfl|(simp; done)|(simp [*]; done)), H', ⟨by have := HK1.out; omega⟩, ⟨by (with_reducible repeat (first|apply Kd.R_alloc|apply Kd.R_drewN|apply Kd.R_drew)); exact HO338.out⟩, ⟨by repeat (first|(with_reducible first|exact HB.out|apply lA|apply lN|apply lD)|exact HB.out)⟩⟩
    ·rw [if_neg c3] at H
     have c3b0 : decide (x5_1 < (a0.size : Int)) = false := decide_eq_false c3
     clear c3
     simp only [Option.some.injEq, Prod.mk.injEq] at H
     obtain ⟨rfl, rfl⟩ := H
     go_wp2
     go_ret2
     exact ⟨_, by first|rfl|(simp [errW_none, errW_some] <;> rfl)|(simp [*, errW_none, errW_some] <;> rfl), by (with_reducible repeat (first|apply Kd.R_alloc|apply Kd.R_drewN|apply Kd.R_drew)); exact HO_4.out, by repeat (first|(with_reducible first|exact HB.out|apply lA|apply lN|apply lD)|exact HB.out)⟩
mutual
def emenderref26_Steps.l0 : Nat → List (S48) → List (S28) → List Int → List (S45) → Int → Option ((List (S45)) × Int)
|0, _, _, _, _, _ => none
|k + 1, x0, x1, x10, x11, x12 => if x12 ≥ 0 then (if 0 ≤ x12 then (if x12 < (x1.length : Int) then (emenderref26_Steps.l1 k x0 x1 x10 x11 x12 0 0 ((rd_T28 x1 x12).f0) ((rd_T28 x1 x12).f1) 0 0 0 ([] : List (S48)) 0) else (none)) else (none)) else (some (x11, 0))
def emenderref26_Steps.l1 : Nat → List (S48) → List (S28) → List Int → List (S45) → Int → Int → Int → Int → Int → Int → Int → Int → List (S48) → Int → Option ((List (S45)) × Int)
|0, _, _, _, _, _, _, _, _, _, _, _, _, _, _ => none
|k + 1, x0, x1, x10, x11, x12, x14, x349000, x349001, x349002, x349003, x349004, x349005, x349006, x349007 => if x14 < (x10.length : Int) then (if 0 ≤ x14 then (if 0 ≤ x349001 then (if x349001 < (x0.length : Int) then (if x349006.length < 4398046511104 then (emenderref26_Steps.l1 k x0 x1 x10 x11 x12 (wrap64 (x14 + 1)) x349000 x349001 x349002 x349003 x349004 x349005 (x349006 ++ [(⟨0, 0, rd x10 x14, (rd_T48 x0 x349001).f3⟩ : S48)]) x349007) else (none)) else (none)) else (none)) else (none)) else (if x11.length < 1759218604441 then (emenderref26_Steps.l0 k x0 x1 x10 (x11 ++ [(⟨x349000, x349001, x349002, x349003, x349004, x349005, x349006, x349007⟩ : S45)]) (wrap64 (x12 - 1))) else (none))
end
def emenderref26_Steps.f (k : Nat) (l0 : List (S48)) (l1 : List (S28)) (a2 : ByteArray) : Option ((List (S45)) × Int) := (emenderref04_Check.f k l0).bind fun bt339 => (if bt339.2 = 0 then ((emenderref26_right.f k l0 l1).bind fun t341 => (if t341 = true then ((emenderref26_points.f k a2).bind fun bt342 => (if bt342.2 = 0 then (emenderref26_Steps.l0 k l0 l1 bt342.1 ([] : List (S45)) (wrap64 ((l1.length : Int) - 1))) else (some (([] : List (S45)), bt342.2)))) else (some (([] : List (S45)), 1)))) else (some (([] : List (S45)), bt339.2)))
def emenderref26_Steps.T13 : Bool × List (List Nat × List Nat) := (true, [([], []), ([], []), ([0, 1], [0, 1]), ([2], [2]), ([3], [3]), ([], []), ([], []), ([5, 6], [5, 6]), ([7], [7]), ([8], [8]), ([4, 9], [4, 9]), ([], []), ([11, 10, 0, 1, 2, 3, 4, 5, 6, 7, 8, 9, 10, 11], [10, 11])])
def emenderref26_Steps.B13 : List Nat := [0, 0, 3, 7, 15, 0, 0, 96, 224, 480, 1023, 0, 4095]
theorem emenderref26_Steps.tab13 : rtab .any (opsOf Tryd.f12 13) = emenderref26_Steps.T13 := by kernel_rfl
theorem emenderref26_Steps.bits13 : waitsOk emenderref26_Steps.T13.2 emenderref26_Steps.B13 = true := by kernel_rfl
def emenderref26_Steps.T17 : Bool × List (List Nat × List Nat) := (true, [([], []), ([0], [0]), ([], []), ([], []), ([2, 3], [2, 3]), ([4], [4]), ([], []), ([], []), ([7], [7]), ([6, 8], [6, 8]), ([9], [9]), ([10], [10]), ([5, 11], [5, 11]), ([12], [12]), ([1, 13], [1, 13]), ([0, 1, 2, 3, 4, 5, 6, 7, 8, 9, 10, 11, 12, 13, 14], []), ([15, 14, 14, 0, 1, 2, 3, 4, 5, 6, 7, 8, 9, 10, 11, 12, 13, 14], [14, 15])])
def emenderref26_Steps.B17 : List Nat := [0, 1, 0, 0, 12, 28, 0, 0, 128, 448, 960, 1984, 4092, 8188, 16383, 32767, 65535]
theorem emenderref26_Steps.tab17 : rtab .any (opsOf Tryd.f12 17) = emenderref26_Steps.T17 := by kernel_rfl
theorem emenderref26_Steps.bits17 : waitsOk emenderref26_Steps.T17.2 emenderref26_Steps.B17 = true := by kernel_rfl
set_option maxHeartbeats 8000000 in
set_option maxRecDepth 100000 in
theorem emenderref26_Steps.calls (k : Nat) (A0 : Option Addr) (c0 : Nat) (l0 : List (S48)) (A1 : Option Addr) (c1 : Nat) (l1 : List (S28)) (a2 : ByteArray) (r1 : List (S45)) (r2 : Int) (w : World) (hr0 : Kd.C k48 w A0 l0.length l0) (hc0 : l0.length ≤ c0) (hr1 : Kd.C k28 w A1 l1.length l1) (hc1 : l1.length ≤ c1) (h : emenderref26_Steps.f k l0 l1 a2 = some (r1, r2)) :
  Calls Tryd.prog 12 #[.slice A0 l0.length c0, .slice A1 l1.length c1, .string a2] w fun e w' => ∃ v0_ : Value, e = .returned (.tuple #[v0_, .int .i64 r2]) ∧ Kd.S k45 45 w' w.heap.size (fun _ => True) v0_ r1 ∧ Below w.heap.size w w' := by
 have hu45 := Tryd.underlying45
 have hu48 := Tryd.underlying48
 have HR0 := aM hr0
 have HC0 := aM hc0
 clear hr0 hc0
 have HR1 := aM hr1
 have HC1 := aM hc1
 clear hr1 hc1
 have HB := aM (Below.refl w.heap.size w)
 have H : ((emenderref04_Check.f k l0).bind fun bt339 => (if bt339.2 = 0 then ((emenderref26_right.f k l0 l1).bind fun t341 => (if t341 = true then ((emenderref26_points.f k a2).bind fun bt342 => (if bt342.2 = 0 then (emenderref26_Steps.l0 k l0 l1 bt342.1 ([] : List (S45)) (wrap64 ((l1.length : Int) - 1))) else (some (([] : List (S45)), bt342.2)))) else (some (([] : List (S45)), 1)))) else (some (([] : List (S45)), bt339.2)))) = some (r1, r2) := h
 clear h
 replace H := Option.bind_eq_some_iff.mp H
 obtain ⟨⟨t339, t340⟩, A40, H⟩ := H
 replace H : (if t340 = 0 then ((emenderref26_right.f k l0 l1).bind fun t341 => (if t341 = true then ((emenderref26_points.f k a2).bind fun bt342 => (if bt342.2 = 0 then (emenderref26_Steps.l0 k l0 l1 bt342.1 ([] : List (S45)) (wrap64 ((l1.length : Int) - 1))) else (some (([] : List (S45)), bt342.2)))) else (some (([] : List (S45)), 1)))) else (some (([] : List (S45)), t340))) = some (r1, r2) := H
 have A4 := aM A40
 clear A40
 by_cases c5 : t340 = 0
 ·rw [if_pos c5] at H
  have c5b0 : (t340 == 0) = true := beq_iff_eq.mpr c5
  have c5b1 : (t340 != 0) = false := bne_eq_false_iff_eq.mpr c5
  clear c5
  replace H := Option.bind_eq_some_iff.mp H
  obtain ⟨t341, A60, H⟩ := H
  replace H : (if t341 = true then ((emenderref26_points.f k a2).bind fun bt342 => (if bt342.2 = 0 then (emenderref26_Steps.l0 k l0 l1 bt342.1 ([] : List (S45)) (wrap64 ((l1.length : Int) - 1))) else (some (([] : List (S45)), bt342.2)))) else (some (([] : List (S45)), 1))) = some (r1, r2) := H
  have A6 := aM A60
  clear A60
  by_cases c7 : t341 = true
  ·subst c7
   have H1 : ((emenderref26_points.f k a2).bind fun bt342 => (if bt342.2 = 0 then (emenderref26_Steps.l0 k l0 l1 bt342.1 ([] : List (S45)) (wrap64 ((l1.length : Int) - 1))) else (some (([] : List (S45)), bt342.2)))) = some (r1, r2) := by rw [if_pos rfl] at H; exact H
   clear H
   have H := H1
   clear H1
   replace H := Option.bind_eq_some_iff.mp H
   obtain ⟨⟨t342, t343⟩, A80, H⟩ := H
   replace H : (if t343 = 0 then (emenderref26_Steps.l0 k l0 l1 t342 ([] : List (S45)) (wrap64 ((l1.length : Int) - 1))) else (some (([] : List (S45)), t343))) = some (r1, r2) := H
   have A8 := aM A80
   clear A80
   by_cases c9 : t343 = 0
   ·rw [if_pos c9] at H
    have c9b0 : (t343 == 0) = true := beq_iff_eq.mpr c9
    have c9b1 : (t343 != 0) = false := bne_eq_false_iff_eq.mpr c9
    clear c9
    have H' := aM H
    clear H
    go_enter Tryd.func12, Tryd.ntmps12
    go_wp2_with (first|((with_reducible refine gate_callee (f := 25) rfl ?_); refine goesL_ (some 17) rfl rfl Tryd.func25 (by kernel_rfl) rfl #[.slice A0 l0.length c0] rfl (by (try simp only [List.map_toArray, List.map_cons, List.map_nil]); first|done|rfl|(simp only [List.length_drop, List.length_take]; rfl)) ?_; (with_reducible refine (emenderref04_Check.calls k _ _ l0 t339 t340 _ ?side1 ?side2 A4.out).mono ?_); (case side1 => repeat (first|exact HR0.out|(with_reducible refine Kd.C_alloc ?_ _)|(with_reducible refine Kd.C_drewN ?_ _)|(with_reducible refine Kd.C_drew ?_))); (case side2 => exact HC0.out); rintro e w10 ⟨rfl, hb⟩; refine ⟨_, rfl, ?_⟩; replace HB := aM (below_step (by repeat (first|(with_reducible first|exact HB.out|apply lA|apply lN|apply lD)|exact HB.out)) hb); (try clear hb); (try clear hb2); (try clear hk); (try clear hi))|((with_reducible refine gate_callee (f := 26) rfl ?_); refine goesL_ (some 25) rfl rfl Tryd.func26 (by kernel_rfl) rfl #[.slice A0 l0.length c0, .slice A1 l1.length c1] rfl (by (try simp only [List.map_toArray, List.map_cons, List.map_nil]); first|done|rfl|(simp only [List.length_drop, List.length_take]; rfl)) ?_; (with_reducible refine (emenderref26_right.calls k _ _ l0 _ _ l1 true _ ?side1 ?side2 ?side3 ?side4 A6.out).mono ?_); (case side1 => repeat (first|exact (Kd.C_below HR0.out HB.out)|(with_reducible refine Kd.C_alloc ?_ _)|(with_reducible refine Kd.C_drewN ?_ _)|(with_reducible refine Kd.C_drew ?_))); (case side2 => exact HC0.out); (case side3 => repeat (first|exact (Kd.C_below HR1.out HB.out)|(with_reducible refine Kd.C_alloc ?_ _)|(with_reducible refine Kd.C_drewN ?_ _)|(with_reducible refine Kd.C_drew ?_))); (case side4 => exact HC1.out); rintro e w' ⟨rfl, ⟨nd, rfl⟩⟩; refine ⟨_, rfl, ?_⟩)|((with_reducible refine gate_callee (f := 27) rfl ?_); refine goesL_ (some 29) rfl rfl Tryd.func27 (by kernel_rfl) rfl #[.string a2] rfl (by (try simp only [List.map_toArray, List.map_cons, List.map_nil]); first|done|rfl|(simp only [List.length_drop, List.length_take]; rfl)) ?_; (with_reducible refine (emenderref26_points.calls k a2 t342 t343 _ A8.out).mono ?_); rintro e w11 ⟨v344, rfl, ho0, hb⟩; refine ⟨_, rfl, ?_⟩; replace HO345 := aM (Kd.R_lower ho0 (below_size (by repeat (first|(with_reducible first|exact HB.out|apply lA|apply lN|apply lD)|exact HB.out)))); replace HB := aM (below_step (by repeat (first|(with_reducible first|exact HB.out|apply lA|apply lN|apply lD)|exact HB.out)) hb); (try clear hb); (try clear hb2); (try clear hk); (try clear hi); (try clear ho0)))
    go_loopg [11, 12] k (fun kq v11 v12 w' => ∃ (x11_1 : List (S45)) (x12_1 : Int), v12 = .int .i64 x12_1 ∧ Aside0 (emenderref26_Steps.l0 kq l0 l1 t342 x11_1 x12_1 = some (r1, r2)) ∧ Aside0 (kq ≤ k) ∧ Aside0 (Kd.R (Kd.int .i64) 3 w' w.heap.size (fun _ => True) v344 t342) ∧ Aside0 (Kd.S k45 45 w' w.heap.size (fun _ => True) v11 x11_1) ∧ Aside0 (Below w.heap.size w w'))
    case atStart => exact ⟨(([] : List (S45))), (wrap64 ((l1.length : Int) - 1)), (by first|rfl|(simp; done)|(simp [*]; done)), H', ⟨Nat.le_refl _⟩, ⟨by (with_reducible repeat (first|apply Kd.R_alloc|apply Kd.R_drewN|apply Kd.R_drew)); exact HO345.out⟩, ⟨by first|exact Kd.S_nil _ _ _ _ _|exact Kd.N_nil _ _ _ _ _|exact Kd.V_nil _ _ _ _ _|exact Kd.Q_nil _ _ _ _ _|exact Kd.R_nil _ _ _ _ _⟩, ⟨by repeat (first|(with_reducible first|exact HB.out|apply lA|apply lN|apply lD)|exact HB.out)⟩⟩
    case round =>
     clear H'
     obtain ⟨x11_1, x12_1, rfl, HA, HK1, HO_10, HO_11, HB⟩ := hrel
     cases gk with
    |zero => exact absurd HA.out (by simp [emenderref26_Steps.l0])
    |succ k1 =>
      have H := HA.out
      clear HA
      simp only [emenderref26_Steps.l0] at H
      by_cases c12 : x12_1 ≥ 0
      ·rw [if_pos c12] at H
       have c12b0 : decide (0 ≤ x12_1) = true := decide_eq_true c12
       clear c12
       replace H := ifS H; obtain ⟨c13, H⟩ := H
       have c13b0 : decide (0 ≤ x12_1) = true := decide_eq_true c13
       clear c13
       replace H := ifS H; obtain ⟨c14, H⟩ := H
       have c14b0 : decide (x12_1 < (l1.length : Int)) = true := decide_eq_true c14
       clear c14
       have H' := aM H
       clear H
       try go_wp2
       have n0_ := aM (Kd.R_drew HO_10.out)
       have n1_ := aM (Kd.S_drew HO_11.out)
       have n2_ := aM (lD HB.out)
       clear HO_10
       clear HO_11
       clear HB
       have HO_10 := n0_
       have HO_11 := n1_
       have HB := n2_
       clear n0_ n1_ n2_
       have p346 : 0 ≤ (x12_1 : Int) := of_decide_eq_true (by assumption)
       have q346 : x12_1 < (l1.length : Int) := of_decide_eq_true (by assumption)
       obtain ⟨ad346, e346, hx346_0, hx346_1⟩ := at_T28 HR1.out x12_1 p346 q346
       have hw346_1 := hx346_1
       have hw346_0 := hx346_0
       cases e346
       replace hx346_0 := cB HB.out hx346_0
       replace hx346_1 := cB HB.out hx346_1
       replace p346 := eq_true p346
       replace q346 := eq_true q346
       have p347 : 0 ≤ (x12_1 : Int) := of_decide_eq_true (by assumption)
       have q347 : x12_1 < (l1.length : Int) := of_decide_eq_true (by assumption)
       obtain ⟨ad347, e347, hx347_0, hx347_1⟩ := at_T28 HR1.out x12_1 p347 q347
       have hw347_1 := hx347_1
       have hw347_0 := hx347_0
       obtain rfl : ad346 = ad347 := (by injection e347)
       replace hx347_0 := cB HB.out hx347_0
       replace hx347_1 := cB HB.out hx347_1
       replace p347 := eq_true p347
       replace q347 := eq_true q347
       refine start_ (n := 13) (S := fun w' => w'.cell? (ad346.add ((x12_1).toNat * 2)) = some (.int .i64 ((rd_T28 l1 x12_1).f0)) ∧ w'.cell? ⟨(ad346.add ((x12_1).toNat * 2)).block, (ad346.add ((x12_1).toNat * 2)).off + 1, none⟩ = some (.int .i64 ((rd_T28 l1 x12_1).f1)) ∧ w'.cell? (ad346.add ((x12_1).toNat * 2)) = some (.int .i64 ((rd_T28 l1 x12_1).f0)) ∧ w'.cell? ⟨(ad346.add ((x12_1).toNat * 2)).block, (ad346.add ((x12_1).toNat * 2)).off + 1, none⟩ = some (.int .i64 ((rd_T28 l1 x12_1).f1))) (ds := []) #[false, false, false, false, false, false, false, false, false, false, false, false, false] (by kernel_rfl) rfl rfl ⟨((HB.out.cell (World.block_lt_of_cell? w _ hw346_0)).trans hw346_0), ((HB.out.cell (World.block_lt_of_cell? w _ hw346_1)).trans hw346_1), ((HB.out.cell (World.block_lt_of_cell? w _ hw347_0)).trans hw347_0), ((HB.out.cell (World.block_lt_of_cell? w _ hw347_1)).trans hw347_1)⟩ (fun hHeld => ?_); refine with_tabW emenderref26_Steps.tab13 emenderref26_Steps.bits13 (fun HT_ HW_ => ?_)
       generalize wr.drew = w15 at HO_10 HO_11 HB hx346_0 hx346_1 hx347_0 hx347_1 hHeld ⊢
       refine pure_ (i := 0) (N := some 42) (v := ?_) (a' := ?_) #[true, false, false, false, false, false, false, false, false, false, false, false, false] rfl rfl (any_of HT_.out (by kernel_rfl)) (fun _ _ _ h => h) (Or.inl ⟨by rfl, ?_⟩) ?_ ?_
       rotate_left
       ·intro w'
        go_simp
        with_reducible rfl
       rotate_left
       ·simp only [Act.put, sA, sZ, sS, i64_w, i32_w]
        rfl
       refine pure_ (i := 1) (N := some 43) (v := ?_) (a' := ?_) #[true, true, false, false, false, false, false, false, false, false, false, false, false] rfl rfl (any_of HT_.out (by kernel_rfl)) (fun _ _ _ h => h) (Or.inl ⟨by rfl, ?_⟩) ?_ ?_
       rotate_left
       ·intro w'
        go_simp
        with_reducible rfl
       rotate_left
       ·simp only [Act.put, sA, sZ, sS, i64_w, i32_w]
        rfl
       refine pure_ (i := 2) (N := some 44) (v := ?_) (a' := ?_) #[true, true, true, false, false, false, false, false, false, false, false, false, false] rfl rfl (any_of HT_.out (by kernel_rfl)) (fun _ _ _ h => h) (Or.inl ⟨by rfl, ?_⟩) ?_ ?_
       rotate_left
       ·intro w'
        go_simp
        with_reducible rfl
       rotate_left
       ·simp only [Act.put, sA, sZ, sS, i64_w, i32_w]
        rfl
       refine pure_ (i := 3) (N := some 45) (v := ?_) (a' := ?_) #[true, true, true, true, false, false, false, false, false, false, false, false, false] rfl rfl (any_of HT_.out (by kernel_rfl)) (fun _ _ _ h => h) (Or.inl ⟨by rfl, ?_⟩) ?_ ?_
       rotate_left
       ·intro w'
        go_simp
        with_reducible rfl
       rotate_left
       ·simp only [Act.put, sA, sZ, sS, i64_w, i32_w]
        rfl
       refine pure_ (i := 5) (N := some 47) (v := ?_) (a' := ?_) #[true, true, true, true, false, true, false, false, false, false, false, false, false] rfl rfl (any_of HT_.out (by kernel_rfl)) (fun _ _ _ h => h) (Or.inl ⟨by rfl, ?_⟩) ?_ ?_
       rotate_left
       ·intro w'
        go_simp
        with_reducible rfl
       rotate_left
       ·simp only [Act.put, sA, sZ, sS, i64_w, i32_w]
        rfl
       refine pure_ (i := 6) (N := some 48) (v := ?_) (a' := ?_) #[true, true, true, true, false, true, true, false, false, false, false, false, false] rfl rfl (any_of HT_.out (by kernel_rfl)) (fun _ _ _ h => h) (Or.inl ⟨by rfl, ?_⟩) ?_ ?_
       rotate_left
       ·intro w'
        go_simp
        with_reducible rfl
       rotate_left
       ·simp only [Act.put, sA, sZ, sS, i64_w, i32_w]
        rfl
       refine pure_ (i := 7) (N := some 49) (v := ?_) (a' := ?_) #[true, true, true, true, false, true, true, true, false, false, false, false, false] rfl rfl (any_of HT_.out (by kernel_rfl)) (fun _ _ _ h => h) (Or.inl ⟨by rfl, ?_⟩) ?_ ?_
       rotate_left
       ·intro w'
        go_simp
        with_reducible rfl
       rotate_left
       ·simp only [Act.put, sA, sZ, sS, i64_w, i32_w]
        rfl
       refine pure_ (i := 8) (N := some 50) (v := ?_) (a' := ?_) #[true, true, true, true, false, true, true, true, true, false, false, false, false] rfl rfl (any_of HT_.out (by kernel_rfl)) (fun _ _ _ h => h) (Or.inl ⟨by rfl, ?_⟩) ?_ ?_
       rotate_left
       ·intro w'
        go_simp
        with_reducible rfl
       rotate_left
       ·simp only [Act.put, sA, sZ, sS, i64_w, i32_w]
        rfl
       refine take_ (i := 4) (N := some 46) (v := ?_) (a' := ?_) #[true, true, true, true, true, true, true, true, true, false, false, false, false] rfl rfl (take_ofW HT_.out HW_.out (by kernel_rfl)) (fun _ _ _ h => h) (Or.inl ⟨by rfl, ?_⟩) hHeld ?_ ?_
       rotate_left
       ·rintro w' ⟨s0, s1, s2, s3⟩
        go_simp
        with_reducible rfl
       rotate_left
       ·simp only [Act.put, sA, sZ, sS, i64_w, i32_w]
        rfl
       refine take_ (i := 9) (N := some 51) (v := ?_) (a' := ?_) #[true, true, true, true, true, true, true, true, true, true, false, false, false] rfl rfl (take_ofW HT_.out HW_.out (by kernel_rfl)) (fun _ _ _ h => h) (Or.inl ⟨by rfl, ?_⟩) hHeld ?_ ?_
       rotate_left
       ·rintro w' ⟨s0, s1, s2, s3⟩
        go_simp
        with_reducible rfl
       rotate_left
       ·simp only [Act.put, sA, sZ, sS, i64_w, i32_w]
        rfl
       refine pure_ (i := 10) (N := some 52) (v := ?_) (a' := ?_) #[true, true, true, true, true, true, true, true, true, true, true, false, false] rfl rfl (any_of HT_.out (by kernel_rfl)) (fun _ _ _ h => h) (Or.inl ⟨by rfl, ?_⟩) ?_ ?_
       rotate_left
       ·intro w'
        go_simp
        with_reducible rfl
       rotate_left
       ·simp only [Act.put, sA, sZ, sS, i64_w, i32_w]
        rfl
       refine one_ (i := 11) (N := some 13) #[true, true, true, true, true, true, true, true, true, true, true, true, false] rfl rfl (one_of HT_.out (by kernel_rfl)) (by decide) (fun K hK => ?_)
       refine box_step ?hg (N := 13) ?hd (cs := #[.int .i64 0, .int .i64 0, .int .i64 0, .int .i64 0, .int .i64 0, .int .i64 0, .slice none 0 0, .int .i64 0]) (t := 45) ?hr ?_; (case hd => rfl); (case hg => rfl); (case hr => first|(go_simp; done)|(go_simp; rfl))
       intro gb348 hg w16 hbox hb
       have n0_ := aM (Kd.R_below (by (with_reducible repeat (first|apply Kd.R_alloc|apply Kd.R_drewN|apply Kd.R_drew)); exact HO_10.out) hb)
       have n1_ := aM (Kd.S_below (Kd.S_elderB (by (with_reducible repeat (first|apply Kd.S_alloc|apply Kd.S_drewN|apply Kd.S_drew)); exact HO_11.out) gb348 (Nat.le_of_eq hg.symm)) hb)
       have n2_ := aM (below_step (by repeat (first|(with_reducible first|exact HB.out|apply lA|apply lN|apply lD)|exact HB.out)) hb)
       have n3_ := aM (hbox)
       have n4_ := aM ((by rw [hg]; exact (below_size (by repeat (first|(with_reducible first|exact HB.out|apply lA|apply lN|apply lD)|exact HB.out))) : w.heap.size ≤ gb348))
       have n5_ := aM ((by rw [hg]; exact (below_size (by repeat (first|(with_reducible first|exact HB.out|apply lA|apply lN|apply lD)|exact HB.out))) : w.heap.size ≤ gb348))
       clear HO_10
       clear HO_11
       clear HB
       have HO_10 := n0_
       have HO_11 := n1_
       have HB := n2_
       have BK348 := n3_
       have GW348 := n4_
       have GE348 := n5_
       clear n0_ n1_ n2_ n3_ n4_ n5_
       clear hb hbox hg
       refine hK.out _ _ ⟨((HB.out.cell (World.block_lt_of_cell? w _ hw346_0)).trans hw346_0), ((HB.out.cell (World.block_lt_of_cell? w _ hw346_1)).trans hw346_1), ((HB.out.cell (World.block_lt_of_cell? w _ hw347_0)).trans hw347_0), ((HB.out.cell (World.block_lt_of_cell? w _ hw347_1)).trans hw347_1)⟩ (fun hHeld => ?_)
       clear hK K
       refine norm_ (a' := ?_) ?_ ?_
       rotate_left
       ·show Act.put _ (some 13) _ = _
        simp only [Act.put, sA, sZ, sS, i64_w, i32_w]
        rfl
       refine one_ (i := 12) (N := none) #[true, true, true, true, true, true, true, true, true, true, true, true, true] rfl rfl (one_of HT_.out (by kernel_rfl)) (by decide) (fun K hK => ?_)
       have hs17 : w16.cell? ⟨gb348, 0, none⟩ = some (.int .i64 0) := (blk_cell BK348.out 0).trans rfl
       have hfs17 := blk_frozen BK348.out 0
       have hs18 : w16.cell? ⟨gb348, 1, none⟩ = some (.int .i64 0) := (blk_cell BK348.out 1).trans rfl
       have hfs18 := blk_frozen BK348.out 1
       have hs19 : w16.cell? ⟨gb348, 2, none⟩ = some (.int .i64 0) := (blk_cell BK348.out 2).trans rfl
       have hfs19 := blk_frozen BK348.out 2
       have hs20 : w16.cell? ⟨gb348, 3, none⟩ = some (.int .i64 0) := (blk_cell BK348.out 3).trans rfl
       have hfs20 := blk_frozen BK348.out 3
       have hs21 : w16.cell? ⟨gb348, 4, none⟩ = some (.int .i64 0) := (blk_cell BK348.out 4).trans rfl
       have hfs21 := blk_frozen BK348.out 4
       have hs22 : w16.cell? ⟨gb348, 5, none⟩ = some (.int .i64 0) := (blk_cell BK348.out 5).trans rfl
       have hfs22 := blk_frozen BK348.out 5
       have hs23 : w16.cell? ⟨gb348, 6, none⟩ = some (.slice none 0 0) := (blk_cell BK348.out 6).trans rfl
       have hfs23 := blk_frozen BK348.out 6
       have hs24 : w16.cell? ⟨gb348, 7, none⟩ = some (.int .i64 0) := (blk_cell BK348.out 7).trans rfl
       have hfs24 := blk_frozen BK348.out 7
       refine skip_ (w1 := ?_) (by rfl) rfl ?_ ?_
       rotate_left
       ·go_simp
        rfl
       refine hK.out _ _ ⟨((cell_far (p := ⟨gb348, _, none⟩) (by first|exact Nat.ne_of_lt (Nat.lt_of_lt_of_le (by have := World.block_lt_of_cell? _ _ hw346_0; first|rwa [add_block] at this|exact this) GW348.out)|(rw [add_block]; exact Nat.ne_of_lt (Nat.lt_of_lt_of_le (by have := World.block_lt_of_cell? _ _ hw346_0; first|rwa [add_block] at this|exact this) GW348.out))|(show (Addr.add _ _).block ≠ _; rw [add_block]; exact Nat.ne_of_lt (Nat.lt_of_lt_of_le (by have := World.block_lt_of_cell? _ _ hw346_0; first|rwa [add_block] at this|exact this) GW348.out))|(dsimp only; exact Nat.ne_of_lt (Nat.lt_of_lt_of_le (by have := World.block_lt_of_cell? _ _ hw346_0; first|rwa [add_block] at this|exact this) GW348.out))) _).trans (((cell_far (p := ⟨gb348, _, none⟩) (by first|exact Nat.ne_of_lt (Nat.lt_of_lt_of_le (by have := World.block_lt_of_cell? _ _ hw346_0; first|rwa [add_block] at this|exact this) GW348.out)|(rw [add_block]; exact Nat.ne_of_lt (Nat.lt_of_lt_of_le (by have := World.block_lt_of_cell? _ _ hw346_0; first|rwa [add_block] at this|exact this) GW348.out))|(show (Addr.add _ _).block ≠ _; rw [add_block]; exact Nat.ne_of_lt (Nat.lt_of_lt_of_le (by have := World.block_lt_of_cell? _ _ hw346_0; first|rwa [add_block] at this|exact this) GW348.out))|(dsimp only; exact Nat.ne_of_lt (Nat.lt_of_lt_of_le (by have := World.block_lt_of_cell? _ _ hw346_0; first|rwa [add_block] at this|exact this) GW348.out))) _).trans (((cell_far (p := ⟨gb348, _, none⟩) (by first|exact Nat.ne_of_lt (Nat.lt_of_lt_of_le (by have := World.block_lt_of_cell? _ _ hw346_0; first|rwa [add_block] at this|exact this) GW348.out)|(rw [add_block]; exact Nat.ne_of_lt (Nat.lt_of_lt_of_le (by have := World.block_lt_of_cell? _ _ hw346_0; first|rwa [add_block] at this|exact this) GW348.out))|(show (Addr.add _ _).block ≠ _; rw [add_block]; exact Nat.ne_of_lt (Nat.lt_of_lt_of_le (by have := World.block_lt_of_cell? _ _ hw346_0; first|rwa [add_block] at this|exact this) GW348.out))|(dsimp only; exact Nat.ne_of_lt (Nat.lt_of_lt_of_le (by have := World.block_lt_of_cell? _ _ hw346_0; first|rwa [add_block] at this|exact this) GW348.out))) _).trans (((cell_far (p := ⟨gb348, _, none⟩) (by first|exact Nat.ne_of_lt (Nat.lt_of_lt_of_le (by have := World.block_lt_of_cell? _ _ hw346_0; first|rwa [add_block] at this|exact this) GW348.out)|(rw [add_block]; exact Nat.ne_of_lt (Nat.lt_of_lt_of_le (by have := World.block_lt_of_cell? _ _ hw346_0; first|rwa [add_block] at this|exact this) GW348.out))|(show (Addr.add _ _).block ≠ _; rw [add_block]; exact Nat.ne_of_lt (Nat.lt_of_lt_of_le (by have := World.block_lt_of_cell? _ _ hw346_0; first|rwa [add_block] at this|exact this) GW348.out))|(dsimp only; exact Nat.ne_of_lt (Nat.lt_of_lt_of_le (by have := World.block_lt_of_cell? _ _ hw346_0; first|rwa [add_block] at this|exact this) GW348.out))) _).trans (((cell_far (p := ⟨gb348, _, none⟩) (by first|exact Nat.ne_of_lt (Nat.lt_of_lt_of_le (by have := World.block_lt_of_cell? _ _ hw346_0; first|rwa [add_block] at this|exact this) GW348.out)|(rw [add_block]; exact Nat.ne_of_lt (Nat.lt_of_lt_of_le (by have := World.block_lt_of_cell? _ _ hw346_0; first|rwa [add_block] at this|exact this) GW348.out))|(show (Addr.add _ _).block ≠ _; rw [add_block]; exact Nat.ne_of_lt (Nat.lt_of_lt_of_le (by have := World.block_lt_of_cell? _ _ hw346_0; first|rwa [add_block] at this|exact this) GW348.out))|(dsimp only; exact Nat.ne_of_lt (Nat.lt_of_lt_of_le (by have := World.block_lt_of_cell? _ _ hw346_0; first|rwa [add_block] at this|exact this) GW348.out))) _).trans (((cell_far (p := ⟨gb348, _, none⟩) (by first|exact Nat.ne_of_lt (Nat.lt_of_lt_of_le (by have := World.block_lt_of_cell? _ _ hw346_0; first|rwa [add_block] at this|exact this) GW348.out)|(rw [add_block]; exact Nat.ne_of_lt (Nat.lt_of_lt_of_le (by have := World.block_lt_of_cell? _ _ hw346_0; first|rwa [add_block] at this|exact this) GW348.out))|(show (Addr.add _ _).block ≠ _; rw [add_block]; exact Nat.ne_of_lt (Nat.lt_of_lt_of_le (by have := World.block_lt_of_cell? _ _ hw346_0; first|rwa [add_block] at this|exact this) GW348.out))|(dsimp only; exact Nat.ne_of_lt (Nat.lt_of_lt_of_le (by have := World.block_lt_of_cell? _ _ hw346_0; first|rwa [add_block] at this|exact this) GW348.out))) _).trans (((cell_far (p := ⟨gb348, _, none⟩) (by first|exact Nat.ne_of_lt (Nat.lt_of_lt_of_le (by have := World.block_lt_of_cell? _ _ hw346_0; first|rwa [add_block] at this|exact this) GW348.out)|(rw [add_block]; exact Nat.ne_of_lt (Nat.lt_of_lt_of_le (by have := World.block_lt_of_cell? _ _ hw346_0; first|rwa [add_block] at this|exact this) GW348.out))|(show (Addr.add _ _).block ≠ _; rw [add_block]; exact Nat.ne_of_lt (Nat.lt_of_lt_of_le (by have := World.block_lt_of_cell? _ _ hw346_0; first|rwa [add_block] at this|exact this) GW348.out))|(dsimp only; exact Nat.ne_of_lt (Nat.lt_of_lt_of_le (by have := World.block_lt_of_cell? _ _ hw346_0; first|rwa [add_block] at this|exact this) GW348.out))) _).trans (((cell_far (p := ⟨gb348, _, none⟩) (by first|exact Nat.ne_of_lt (Nat.lt_of_lt_of_le (by have := World.block_lt_of_cell? _ _ hw346_0; first|rwa [add_block] at this|exact this) GW348.out)|(rw [add_block]; exact Nat.ne_of_lt (Nat.lt_of_lt_of_le (by have := World.block_lt_of_cell? _ _ hw346_0; first|rwa [add_block] at this|exact this) GW348.out))|(show (Addr.add _ _).block ≠ _; rw [add_block]; exact Nat.ne_of_lt (Nat.lt_of_lt_of_le (by have := World.block_lt_of_cell? _ _ hw346_0; first|rwa [add_block] at this|exact this) GW348.out))|(dsimp only; exact Nat.ne_of_lt (Nat.lt_of_lt_of_le (by have := World.block_lt_of_cell? _ _ hw346_0; first|rwa [add_block] at this|exact this) GW348.out))) _).trans (hHeld.1)))))))))))))))), ((cell_far (p := ⟨gb348, _, none⟩) (by first|exact Nat.ne_of_lt (Nat.lt_of_lt_of_le (by have := World.block_lt_of_cell? _ _ hw346_1; first|rwa [add_block] at this|exact this) GW348.out)|(rw [add_block]; exact Nat.ne_of_lt (Nat.lt_of_lt_of_le (by have := World.block_lt_of_cell? _ _ hw346_1; first|rwa [add_block] at this|exact this) GW348.out))|(show (Addr.add _ _).block ≠ _; rw [add_block]; exact Nat.ne_of_lt (Nat.lt_of_lt_of_le (by have := World.block_lt_of_cell? _ _ hw346_1; first|rwa [add_block] at this|exact this) GW348.out))|(dsimp only; exact Nat.ne_of_lt (Nat.lt_of_lt_of_le (by have := World.block_lt_of_cell? _ _ hw346_1; first|rwa [add_block] at this|exact this) GW348.out))) _).trans (((cell_far (p := ⟨gb348, _, none⟩) (by first|exact Nat.ne_of_lt (Nat.lt_of_lt_of_le (by have := World.block_lt_of_cell? _ _ hw346_1; first|rwa [add_block] at this|exact this) GW348.out)|(rw [add_block]; exact Nat.ne_of_lt (Nat.lt_of_lt_of_le (by have := World.block_lt_of_cell? _ _ hw346_1; first|rwa [add_block] at this|exact this) GW348.out))|(show (Addr.add _ _).block ≠ _; rw [add_block]; exact Nat.ne_of_lt (Nat.lt_of_lt_of_le (by have := World.block_lt_of_cell? _ _ hw346_1; first|rwa [add_block] at this|exact this) GW348.out))|(dsimp only; exact Nat.ne_of_lt (Nat.lt_of_lt_of_le (by have := World.block_lt_of_cell? _ _ hw346_1; first|rwa [add_block] at this|exact this) GW348.out))) _).trans (((cell_far (p := ⟨gb348, _, none⟩) (by first|exact Nat.ne_of_lt (Nat.lt_of_lt_of_le (by have := World.block_lt_of_cell? _ _ hw346_1; first|rwa [add_block] at this|exact this) GW348.out)|(rw [add_block]; exact Nat.ne_of_lt (Nat.lt_of_lt_of_le (by have := World.block_lt_of_cell? _ _ hw346_1; first|rwa [add_block] at this|exact this) GW348.out))|(show (Addr.add _ _).block ≠ _; rw [add_block]; exact Nat.ne_of_lt (Nat.lt_of_lt_of_le (by have := World.block_lt_of_cell? _ _ hw346_1; first|rwa [add_block] at this|exact this) GW348.out))|(dsimp only; exact Nat.ne_of_lt (Nat.lt_of_lt_of_le (by have := World.block_lt_of_cell? _ _ hw346_1; first|rwa [add_block] at this|exact this) GW348.out))) _).trans (((cell_far (p := ⟨gb348, _, none⟩) (by first|exact Nat.ne_of_lt (Nat.lt_of_lt_of_le (by have := World.block_lt_of_cell? _ _ hw346_1; first|rwa [add_block] at this|exact this) GW348.out)|(rw [add_block]; exact Nat.ne_of_lt (Nat.lt_of_lt_of_le (by have := World.block_lt_of_cell? _ _ hw346_1; first|rwa [add_block] at this|exact this) GW348.out))|(show (Addr.add _ _).block ≠ _; rw [add_block]; exact Nat.ne_of_lt (Nat.lt_of_lt_of_le (by have := World.block_lt_of_cell? _ _ hw346_1; first|rwa [add_block] at this|exact this) GW348.out))|(dsimp only; exact Nat.ne_of_lt (Nat.lt_of_lt_of_le (by have := World.block_lt_of_cell? _ _ hw346_1; first|rwa [add_block] at this|exact this) GW348.out))) _).trans (((cell_far (p := ⟨gb348, _, none⟩) (by first|exact Nat.ne_of_lt (Nat.lt_of_lt_of_le (by have := World.block_lt_of_cell? _ _ hw346_1; first|rwa [add_block] at this|exact this) GW348.out)|(rw [add_block]; exact Nat.ne_of_lt (Nat.lt_of_lt_of_le (by have := World.block_lt_of_cell? _ _ hw346_1; first|rwa [add_block] at this|exact this) GW348.out))|(show (Addr.add _ _).block ≠ _; rw [add_block]; exact Nat.ne_of_lt (Nat.lt_of_lt_of_le (by have := World.block_lt_of_cell? _ _ hw346_1; first|rwa [add_block] at this|exact this) GW348.out))|(dsimp only; exact Nat.ne_of_lt (Nat.lt_of_lt_of_le (by have := World.block_lt_of_cell? _ _ hw346_1; first|rwa [add_block] at this|exact this) GW348.out))) _).trans (((cell_far (p := ⟨gb348, _, none⟩) (by first|exact Nat.ne_of_lt (Nat.lt_of_lt_of_le (by have := World.block_lt_of_cell? _ _ hw346_1; first|rwa [add_block] at this|exact this) GW348.out)|(rw [add_block]; exact Nat.ne_of_lt (Nat.lt_of_lt_of_le (by have := World.block_lt_of_cell? _ _ hw346_1; first|rwa [add_block] at this|exact this) GW348.out))|(show (Addr.add _ _).block ≠ _; rw [add_block]; exact Nat.ne_of_lt (Nat.lt_of_lt_of_le (by have := World.block_lt_of_cell? _ _ hw346_1; first|rwa [add_block] at this|exact this) GW348.out))|(dsimp only; exact Nat.ne_of_lt (Nat.lt_of_lt_of_le (by have := World.block_lt_of_cell? _ _ hw346_1; first|rwa [add_block] at this|exact this) GW348.out))) _).trans (((cell_far (p := ⟨gb348, _, none⟩) (by first|exact Nat.ne_of_lt (Nat.lt_of_lt_of_le (by have := World.block_lt_of_cell? _ _ hw346_1; first|rwa [add_block] at this|exact this) GW348.out)|(rw [add_block]; exact Nat.ne_of_lt (Nat.lt_of_lt_of_le (by have := World.block_lt_of_cell? _ _ hw346_1; first|rwa [add_block] at this|exact this) GW348.out))|(show (Addr.add _ _).block ≠ _; rw [add_block]; exact Nat.ne_of_lt (Nat.lt_of_lt_of_le (by have := World.block_lt_of_cell? _ _ hw346_1; first|rwa [add_block] at this|exact this) GW348.out))|(dsimp only; exact Nat.ne_of_lt (Nat.lt_of_lt_of_le (by have := World.block_lt_of_cell? _ _ hw346_1; first|rwa [add_block] at this|exact this) GW348.out))) _).trans (((cell_far (p := ⟨gb348, _, none⟩) (by first|exact Nat.ne_of_lt (Nat.lt_of_lt_of_le (by have := World.block_lt_of_cell? _ _ hw346_1; first|rwa [add_block] at this|exact this) GW348.out)|(rw [add_block]; exact Nat.ne_of_lt (Nat.lt_of_lt_of_le (by have := World.block_lt_of_cell? _ _ hw346_1; first|rwa [add_block] at this|exact this) GW348.out))|(show (Addr.add _ _).block ≠ _; rw [add_block]; exact Nat.ne_of_lt (Nat.lt_of_lt_of_le (by have := World.block_lt_of_cell? _ _ hw346_1; first|rwa [add_block] at this|exact this) GW348.out))|(dsimp only; exact Nat.ne_of_lt (Nat.lt_of_lt_of_le (by have := World.block_lt_of_cell? _ _ hw346_1; first|rwa [add_block] at this|exact this) GW348.out))) _).trans (hHeld.2.1)))))))))))))))), ((cell_far (p := ⟨gb348, _, none⟩) (by first|exact Nat.ne_of_lt (Nat.lt_of_lt_of_le (by have := World.block_lt_of_cell? _ _ hw347_0; first|rwa [add_block] at this|exact this) GW348.out)|(rw [add_block]; exact Nat.ne_of_lt (Nat.lt_of_lt_of_le (by have := World.block_lt_of_cell? _ _ hw347_0; first|rwa [add_block] at this|exact this) GW348.out))|(show (Addr.add _ _).block ≠ _; rw [add_block]; exact Nat.ne_of_lt (Nat.lt_of_lt_of_le (by have := World.block_lt_of_cell? _ _ hw347_0; first|rwa [add_block] at this|exact this) GW348.out))|(dsimp only; exact Nat.ne_of_lt (Nat.lt_of_lt_of_le (by have := World.block_lt_of_cell? _ _ hw347_0; first|rwa [add_block] at this|exact this) GW348.out))) _).trans (((cell_far (p := ⟨gb348, _, none⟩) (by first|exact Nat.ne_of_lt (Nat.lt_of_lt_of_le (by have := World.block_lt_of_cell? _ _ hw347_0; first|rwa [add_block] at this|exact this) GW348.out)|(rw [add_block]; exact Nat.ne_of_lt (Nat.lt_of_lt_of_le (by have := World.block_lt_of_cell? _ _ hw347_0; first|rwa [add_block] at this|exact this) GW348.out))|(show (Addr.add _ _).block ≠ _; rw [add_block]; exact Nat.ne_of_lt (Nat.lt_of_lt_of_le (by have := World.block_lt_of_cell? _ _ hw347_0; first|rwa [add_block] at this|exact this) GW348.out))|(dsimp only; exact Nat.ne_of_lt (Nat.lt_of_lt_of_le (by have := World.block_lt_of_cell? _ _ hw347_0; first|rwa [add_block] at this|exact this) GW348.out))) _).trans (((cell_far (p := ⟨gb348, _, none⟩) (by first|exact Nat.ne_of_lt (Nat.lt_of_lt_of_le (by have := World.block_lt_of_cell? _ _ hw347_0; first|rwa [add_block] at this|exact this) GW348.out)|(rw [add_block]; exact Nat.ne_of_lt (Nat.lt_of_lt_of_le (by have := World.block_lt_of_cell? _ _ hw347_0; first|rwa [add_block] at this|exact this) GW348.out))|(show (Addr.add _ _).block ≠ _; rw [add_block]; exact Nat.ne_of_lt (Nat.lt_of_lt_of_le (by have := World.block_lt_of_cell? _ _ hw347_0; first|rwa [add_block] at this|exact this) GW348.out))|(dsimp only; exact Nat.ne_of_lt (Nat.lt_of_lt_of_le (by have := World.block_lt_of_cell? _ _ hw347_0; first|rwa [add_block] at this|exact this) GW348.out))) _).trans (((cell_far (p := ⟨gb348, _, none⟩) (by first|exact Nat.ne_of_lt (Nat.lt_of_lt_of_le (by have := World.block_lt_of_cell? _ _ hw347_0; first|rwa [add_block] at this|exact this) GW348.out)|(rw [add_block]; exact Nat.ne_of_lt (Nat.lt_of_lt_of_le (by have := World.block_lt_of_cell? _ _ hw347_0; first|rwa [add_block] at this|exact this) GW348.out))|(show (Addr.add _ _).block ≠ _; rw [add_block]; exact Nat.ne_of_lt (Nat.lt_of_lt_of_le (by have := World.block_lt_of_cell? _ _ hw347_0; first|rwa [add_block] at this|exact this) GW348.out))|(dsimp only; exact Nat.ne_of_lt (Nat.lt_of_lt_of_le (by have := World.block_lt_of_cell? _ _ hw347_0; first|rwa [add_block] at this|exact this) GW348.out))) _).trans (((cell_far (p := ⟨gb348, _, none⟩) (by first|exact Nat.ne_of_lt (Nat.lt_of_lt_of_le (by have := World.block_lt_of_cell? _ _ hw347_0; first|rwa [add_block] at this|exact this) GW348.out)|(rw [add_block]; exact Nat.ne_of_lt (Nat.lt_of_lt_of_le (by have := World.block_lt_of_cell? _ _ hw347_0; first|rwa [add_block] at this|exact this) GW348.out))|(show (Addr.add _ _).block ≠ _; rw [add_block]; exact Nat.ne_of_lt (Nat.lt_of_lt_of_le (by have := World.block_lt_of_cell? _ _ hw347_0; first|rwa [add_block] at this|exact this) GW348.out))|(dsimp only; exact Nat.ne_of_lt (Nat.lt_of_lt_of_le (by have := World.block_lt_of_cell? _ _ hw347_0; first|rwa [add_block] at this|exact this) GW348.out))) _).trans (((cell_far (p := ⟨gb348, _, none⟩) (by first|exact Nat.ne_of_lt (Nat.lt_of_lt_of_le (by have := World.block_lt_of_cell? _ _ hw347_0; first|rwa [add_block] at this|exact this) GW348.out)|(rw [add_block]; exact Nat.ne_of_lt (Nat.lt_of_lt_of_le (by have := World.block_lt_of_cell? _ _ hw347_0; first|rwa [add_block] at this|exact this) GW348.out))|(show (Addr.add _ _).block ≠ _; rw [add_block]; exact Nat.ne_of_lt (Nat.lt_of_lt_of_le (by have := World.block_lt_of_cell? _ _ hw347_0; first|rwa [add_block] at this|exact this) GW348.out))|(dsimp only; exact Nat.ne_of_lt (Nat.lt_of_lt_of_le (by have := World.block_lt_of_cell? _ _ hw347_0; first|rwa [add_block] at this|exact this) GW348.out))) _).trans (((cell_far (p := ⟨gb348, _, none⟩) (by first|exact Nat.ne_of_lt (Nat.lt_of_lt_of_le (by have := World.block_lt_of_cell? _ _ hw347_0; first|rwa [add_block] at this|exact this) GW348.out)|(rw [add_block]; exact Nat.ne_of_lt (Nat.lt_of_lt_of_le (by have := World.block_lt_of_cell? _ _ hw347_0; first|rwa [add_block] at this|exact this) GW348.out))|(show (Addr.add _ _).block ≠ _; rw [add_block]; exact Nat.ne_of_lt (Nat.lt_of_lt_of_le (by have := World.block_lt_of_cell? _ _ hw347_0; first|rwa [add_block] at this|exact this) GW348.out))|(dsimp only; exact Nat.ne_of_lt (Nat.lt_of_lt_of_le (by have := World.block_lt_of_cell? _ _ hw347_0; first|rwa [add_block] at this|exact this) GW348.out))) _).trans (((cell_far (p := ⟨gb348, _, none⟩) (by first|exact Nat.ne_of_lt (Nat.lt_of_lt_of_le (by have := World.block_lt_of_cell? _ _ hw347_0; first|rwa [add_block] at this|exact this) GW348.out)|(rw [add_block]; exact Nat.ne_of_lt (Nat.lt_of_lt_of_le (by have := World.block_lt_of_cell? _ _ hw347_0; first|rwa [add_block] at this|exact this) GW348.out))|(show (Addr.add _ _).block ≠ _; rw [add_block]; exact Nat.ne_of_lt (Nat.lt_of_lt_of_le (by have := World.block_lt_of_cell? _ _ hw347_0; first|rwa [add_block] at this|exact this) GW348.out))|(dsimp only; exact Nat.ne_of_lt (Nat.lt_of_lt_of_le (by have := World.block_lt_of_cell? _ _ hw347_0; first|rwa [add_block] at this|exact this) GW348.out))) _).trans (hHeld.2.2.1)))))))))))))))), ((cell_far (p := ⟨gb348, _, none⟩) (by first|exact Nat.ne_of_lt (Nat.lt_of_lt_of_le (by have := World.block_lt_of_cell? _ _ hw347_1; first|rwa [add_block] at this|exact this) GW348.out)|(rw [add_block]; exact Nat.ne_of_lt (Nat.lt_of_lt_of_le (by have := World.block_lt_of_cell? _ _ hw347_1; first|rwa [add_block] at this|exact this) GW348.out))|(show (Addr.add _ _).block ≠ _; rw [add_block]; exact Nat.ne_of_lt (Nat.lt_of_lt_of_le (by have := World.block_lt_of_cell? _ _ hw347_1; first|rwa [add_block] at this|exact this) GW348.out))|(dsimp only; exact Nat.ne_of_lt (Nat.lt_of_lt_of_le (by have := World.block_lt_of_cell? _ _ hw347_1; first|rwa [add_block] at this|exact this) GW348.out))) _).trans (((cell_far (p := ⟨gb348, _, none⟩) (by first|exact Nat.ne_of_lt (Nat.lt_of_lt_of_le (by have := World.block_lt_of_cell? _ _ hw347_1; first|rwa [add_block] at this|exact this) GW348.out)|(rw [add_block]; exact Nat.ne_of_lt (Nat.lt_of_lt_of_le (by have := World.block_lt_of_cell? _ _ hw347_1; first|rwa [add_block] at this|exact this) GW348.out))|(show (Addr.add _ _).block ≠ _; rw [add_block]; exact Nat.ne_of_lt (Nat.lt_of_lt_of_le (by have := World.block_lt_of_cell? _ _ hw347_1; first|rwa [add_block] at this|exact this) GW348.out))|(dsimp only; exact Nat.ne_of_lt (Nat.lt_of_lt_of_le (by have := World.block_lt_of_cell? _ _ hw347_1; first|rwa [add_block] at this|exact this) GW348.out))) _).trans (((cell_far (p := ⟨gb348, _, none⟩) (by first|exact Nat.ne_of_lt (Nat.lt_of_lt_of_le (by have := World.block_lt_of_cell? _ _ hw347_1; first|rwa [add_block] at this|exact this) GW348.out)|(rw [add_block]; exact Nat.ne_of_lt (Nat.lt_of_lt_of_le (by have := World.block_lt_of_cell? _ _ hw347_1; first|rwa [add_block] at this|exact this) GW348.out))|(show (Addr.add _ _).block ≠ _; rw [add_block]; exact Nat.ne_of_lt (Nat.lt_of_lt_of_le (by have := World.block_lt_of_cell? _ _ hw347_1; first|rwa [add_block] at this|exact this) GW348.out))|(dsimp only; exact Nat.ne_of_lt (Nat.lt_of_lt_of_le (by have := World.block_lt_of_cell? _ _ hw347_1; first|rwa [add_block] at this|exact this) GW348.out))) _).trans (((cell_far (p := ⟨gb348, _, none⟩) (by first|exact Nat.ne_of_lt (Nat.lt_of_lt_of_le (by have := World.block_lt_of_cell? _ _ hw347_1; first|rwa [add_block] at this|exact this) GW348.out)|(rw [add_block]; exact Nat.ne_of_lt (Nat.lt_of_lt_of_le (by have := World.block_lt_of_cell? _ _ hw347_1; first|rwa [add_block] at this|exact this) GW348.out))|(show (Addr.add _ _).block ≠ _; rw [add_block]; exact Nat.ne_of_lt (Nat.lt_of_lt_of_le (by have := World.block_lt_of_cell? _ _ hw347_1; first|rwa [add_block] at this|exact this) GW348.out))|(dsimp only; exact Nat.ne_of_lt (Nat.lt_of_lt_of_le (by have := World.block_lt_of_cell? _ _ hw347_1; first|rwa [add_block] at this|exact this) GW348.out))) _).trans (((cell_far (p := ⟨gb348, _, none⟩) (by first|exact Nat.ne_of_lt (Nat.lt_of_lt_of_le (by have := World.block_lt_of_cell? _ _ hw347_1; first|rwa [add_block] at this|exact this) GW348.out)|(rw [add_block]; exact Nat.ne_of_lt (Nat.lt_of_lt_of_le (by have := World.block_lt_of_cell? _ _ hw347_1; first|rwa [add_block] at this|exact this) GW348.out))|(show (Addr.add _ _).block ≠ _; rw [add_block]; exact Nat.ne_of_lt (Nat.lt_of_lt_of_le (by have := World.block_lt_of_cell? _ _ hw347_1; first|rwa [add_block] at this|exact this) GW348.out))|(dsimp only; exact Nat.ne_of_lt (Nat.lt_of_lt_of_le (by have := World.block_lt_of_cell? _ _ hw347_1; first|rwa [add_block] at this|exact this) GW348.out))) _).trans (((cell_far (p := ⟨gb348, _, none⟩) (by first|exact Nat.ne_of_lt (Nat.lt_of_lt_of_le (by have := World.block_lt_of_cell? _ _ hw347_1; first|rwa [add_block] at this|exact this) GW348.out)|(rw [add_block]; exact Nat.ne_of_lt (Nat.lt_of_lt_of_le (by have := World.block_lt_of_cell? _ _ hw347_1; first|rwa [add_block] at this|exact this) GW348.out))|(show (Addr.add _ _).block ≠ _; rw [add_block]; exact Nat.ne_of_lt (Nat.lt_of_lt_of_le (by have := World.block_lt_of_cell? _ _ hw347_1; first|rwa [add_block] at this|exact this) GW348.out))|(dsimp only; exact Nat.ne_of_lt (Nat.lt_of_lt_of_le (by have := World.block_lt_of_cell? _ _ hw347_1; first|rwa [add_block] at this|exact this) GW348.out))) _).trans (((cell_far (p := ⟨gb348, _, none⟩) (by first|exact Nat.ne_of_lt (Nat.lt_of_lt_of_le (by have := World.block_lt_of_cell? _ _ hw347_1; first|rwa [add_block] at this|exact this) GW348.out)|(rw [add_block]; exact Nat.ne_of_lt (Nat.lt_of_lt_of_le (by have := World.block_lt_of_cell? _ _ hw347_1; first|rwa [add_block] at this|exact this) GW348.out))|(show (Addr.add _ _).block ≠ _; rw [add_block]; exact Nat.ne_of_lt (Nat.lt_of_lt_of_le (by have := World.block_lt_of_cell? _ _ hw347_1; first|rwa [add_block] at this|exact this) GW348.out))|(dsimp only; exact Nat.ne_of_lt (Nat.lt_of_lt_of_le (by have := World.block_lt_of_cell? _ _ hw347_1; first|rwa [add_block] at this|exact this) GW348.out))) _).trans (((cell_far (p := ⟨gb348, _, none⟩) (by first|exact Nat.ne_of_lt (Nat.lt_of_lt_of_le (by have := World.block_lt_of_cell? _ _ hw347_1; first|rwa [add_block] at this|exact this) GW348.out)|(rw [add_block]; exact Nat.ne_of_lt (Nat.lt_of_lt_of_le (by have := World.block_lt_of_cell? _ _ hw347_1; first|rwa [add_block] at this|exact this) GW348.out))|(show (Addr.add _ _).block ≠ _; rw [add_block]; exact Nat.ne_of_lt (Nat.lt_of_lt_of_le (by have := World.block_lt_of_cell? _ _ hw347_1; first|rwa [add_block] at this|exact this) GW348.out))|(dsimp only; exact Nat.ne_of_lt (Nat.lt_of_lt_of_le (by have := World.block_lt_of_cell? _ _ hw347_1; first|rwa [add_block] at this|exact this) GW348.out))) _).trans (hHeld.2.2.2))))))))))))))))⟩ (fun hHeld => ?_)
       clear hK K
       refine done_ (done_of HT_.out (by kernel_rfl)) ?_
       try go_wp2
       go_loopg [14] k1 (fun kq v14 w' => ∃ (x14_2 : Int) (x349006_2 : List (S48)) (u349006 : Value), v14 = .int .i64 x14_2 ∧ Aside0 (emenderref26_Steps.l1 kq l0 l1 t342 x11_1 x12_1 x14_2 0 ((rd_T28 l1 x12_1).f0) ((rd_T28 l1 x12_1).f1) 0 0 0 x349006_2 0 = some (r1, r2)) ∧ Aside0 (kq ≤ k1) ∧ Aside0 (Kd.R (Kd.int .i64) 3 w' w.heap.size (fun _ => True) v344 t342) ∧ Aside0 (Kd.S k45 45 w' w.heap.size (fun k_ => some k_ ≠ (u349006 : Value).ownBlock ∧ k_ ≠ gb348) u11 x11_1) ∧ Aside0 (Kd.R k48 48 w' w.heap.size (fun _ => True) u349006 x349006_2) ∧ Aside0 (w'.heap[gb348]? = some (.cells #[.int .i64 0, .int .i64 ((rd_T28 l1 x12_1).f0), .int .i64 ((rd_T28 l1 x12_1).f1), .int .i64 0, .int .i64 0, .int .i64 0, u349006, .int .i64 0] 45 (0, 0))) ∧ Aside0 (Below w.heap.size w w'))
       case atStart => exact ⟨(0), (([] : List (S48))), (.slice none 0 0), (by first|rfl|(simp; done)|(simp [*]; done)), H', ⟨Nat.le_refl _⟩, ⟨by (with_reducible repeat (first|apply Kd.R_alloc|apply Kd.R_drewN|apply Kd.R_drew)); exact Kd.R_mono (Kd.Rf8 (Kd.R_types HO_10.out BK348.out (by decide)) (fun _ hk => hk.2)) (fun _ hk => trivial)⟩, ⟨by (with_reducible repeat (first|apply Kd.S_alloc|apply Kd.S_drewN|apply Kd.S_drew)); exact Kd.S_mono (Kd.S_far (p := ⟨gb348, 7, none⟩) (Kd.S_far (p := ⟨gb348, 6, none⟩) (Kd.S_far (p := ⟨gb348, 5, none⟩) (Kd.S_far (p := ⟨gb348, 4, none⟩) (Kd.S_far (p := ⟨gb348, 3, none⟩) (Kd.S_far (p := ⟨gb348, 2, none⟩) (Kd.S_far (p := ⟨gb348, 1, none⟩) (Kd.S_far (p := ⟨gb348, 0, none⟩) (Kd.S_mono HO_11.out (fun k_ hk => (⟨hk, hk.2⟩ : _ ∧ k_ ≠ gb348))) (fun _ hk => hk.2) (.int .i64 0)) (fun _ hk => hk.2) (.int .i64 ((rd_T28 l1 x12_1).f0))) (fun _ hk => hk.2) (.int .i64 ((rd_T28 l1 x12_1).f1))) (fun _ hk => hk.2) (.int .i64 0)) (fun _ hk => hk.2) (.int .i64 0)) (fun _ hk => hk.2) (.int .i64 0)) (fun _ hk => hk.2) (.slice none 0 0)) (fun _ hk => hk.2) (.int .i64 0)) (fun _ hk => ⟨(by simp [Value.ownBlock]), hk.1.2⟩)⟩, ⟨by first|exact Kd.R_nil _ _ _ _ _|exact Kd.N_nil _ _ _ _ _|exact Kd.V_nil _ _ _ _ _|exact Kd.Q_nil _ _ _ _ _|exact Kd.S_nil _ _ _ _ _⟩, ⟨by (with_reducible repeat (first|refine bN ?_ _|refine bD ?_|refine bA ?_ _)); apply put8; (with_reducible repeat (first|refine bN ?_ _|refine bD ?_|refine bA ?_ _)); exact BK348.out⟩, ⟨by repeat (first|(with_reducible first|exact HB.out|apply lA|apply lN|apply lD|refine lS ?_ GE348.out)|exact HB.out)⟩⟩
       case round =>
        clear H'
        obtain ⟨x14_2, x349006_2, u349006, rfl, HA, HK2, HO_10, HO_11, HO_349006, BK348, HB⟩ := hrel
        cases gk with
       |zero => exact absurd HA.out (by simp [emenderref26_Steps.l1])
       |succ k2 =>
         have H := HA.out
         clear HA
         simp only [emenderref26_Steps.l1] at H
         by_cases c25 : x14_2 < (t342.length : Int)
         ·rw [if_pos c25] at H
          have c25b0 : decide (x14_2 < (t342.length : Int)) = true := decide_eq_true c25
          clear c25
          replace H := ifS H; obtain ⟨c26, H⟩ := H
          have c26b0 : decide (0 ≤ x14_2) = true := decide_eq_true c26
          clear c26
          replace H := ifS H; obtain ⟨c27, H⟩ := H
          have c27b0 : decide (0 ≤ ((rd_T28 l1 x12_1).f0)) = true := decide_eq_true c27
          clear c27
          replace H := ifS H; obtain ⟨c28, H⟩ := H
          have c28b0 : decide (((rd_T28 l1 x12_1).f0) < (l0.length : Int)) = true := decide_eq_true c28
          clear c28
          replace H := ifS H; obtain ⟨c29, H⟩ := H
          have LMc29 := aM c29
          clear c29
          obtain ⟨y351, hy351⟩ : ∃ y_ : List (S48), y_ = (x349006_2 ++ [(⟨0, 0, rd t342 x14_2, (rd_T48 l0 ((rd_T28 l1 x12_1).f0)).f3⟩ : S48)]) := ⟨_, rfl⟩
          replace H : (emenderref26_Steps.l1 k2 l0 l1 t342 x11_1 x12_1 (wrap64 (x14_2 + 1)) 0 ((rd_T28 l1 x12_1).f0) ((rd_T28 l1 x12_1).f1) 0 0 0 y351 0) = some (r1, r2) := by first|(rw [hy351]; with_reducible exact H)|(have H2_ := (Option.bind_some _ _).symm.trans H; rw [hy351]; with_reducible exact H2_)|(have H2_ := (Option.bind_some _ _).symm.trans H; with_reducible exact H2_)|with_reducible exact H|(rw [hy351]; exact H)|exact H
          have Ny351 := aM hy351
          clear hy351
          have H' := aM H
          clear H
          obtain ⟨Ao30, co30, eo30⟩ := Kd.R_slice HO_10.out
          subst eo30
          try go_wp2
          have n0_ := aM (Kd.R_drew HO_10.out)
          have n1_ := aM (Kd.S_drew HO_11.out)
          have n2_ := aM (Kd.R_drew HO_349006.out)
          have n3_ := aM (bD BK348.out)
          have n4_ := aM (lD HB.out)
          clear HO_10
          clear HO_11
          clear HO_349006
          clear BK348
          clear HB
          have HO_10 := n0_
          have HO_11 := n1_
          have HO_349006 := n2_
          have BK348 := n3_
          have HB := n4_
          clear n0_ n1_ n2_ n3_ n4_
          have p349 : 0 ≤ (x14_2 : Int) := of_decide_eq_true (by assumption)
          have q349 : x14_2 < (t342.length : Int) := of_decide_eq_true (by assumption)
          obtain ⟨ad349, e349, hx349_0⟩ := Kd.at_int (Kd.R_reads' HO_10.out).2.2 x14_2 p349 q349
          cases e349
          replace p349 := eq_true p349
          replace q349 := eq_true q349
          have p350 : 0 ≤ (((rd_T28 l1 x12_1).f0) : Int) := of_decide_eq_true (by assumption)
          have q350 : ((rd_T28 l1 x12_1).f0) < (l0.length : Int) := of_decide_eq_true (by assumption)
          obtain ⟨ad350, e350, hx350_0, hx350_1, hx350_2, hx350_3⟩ := at_T48 HR0.out ((rd_T28 l1 x12_1).f0) p350 q350
          have hw350_3 := hx350_3
          have hw350_2 := hx350_2
          have hw350_1 := hx350_1
          have hw350_0 := hx350_0
          cases e350
          replace hx350_0 := cB HB.out hx350_0
          replace hx350_1 := cB HB.out hx350_1
          replace hx350_2 := cB HB.out hx350_2
          replace hx350_3 := cB HB.out hx350_3
          replace p350 := eq_true p350
          replace q350 := eq_true q350
          refine start_ (n := 17) (S := fun w' => w'.cell? ⟨gb348, 0, none⟩ = some (.int .i64 0) ∧ w'.cell? ⟨gb348, 1, none⟩ = some (.int .i64 ((rd_T28 l1 x12_1).f0)) ∧ w'.cell? ⟨gb348, 2, none⟩ = some (.int .i64 ((rd_T28 l1 x12_1).f1)) ∧ w'.cell? ⟨gb348, 3, none⟩ = some (.int .i64 0) ∧ w'.cell? ⟨gb348, 4, none⟩ = some (.int .i64 0) ∧ w'.cell? ⟨gb348, 5, none⟩ = some (.int .i64 0) ∧ w'.cell? ⟨gb348, 6, none⟩ = some (u349006) ∧ w'.cell? ⟨gb348, 7, none⟩ = some (.int .i64 0) ∧ w'.cell? (ad349.add (x14_2).toNat) = some (.int .i64 (rd t342 x14_2)) ∧ w'.cell? (ad350.add ((((rd_T28 l1 x12_1).f0)).toNat * 4)) = some (.int .i64 ((rd_T48 l0 ((rd_T28 l1 x12_1).f0)).f0)) ∧ w'.cell? ⟨(ad350.add ((((rd_T28 l1 x12_1).f0)).toNat * 4)).block, (ad350.add ((((rd_T28 l1 x12_1).f0)).toNat * 4)).off + 1, none⟩ = some (.int .i64 ((rd_T48 l0 ((rd_T28 l1 x12_1).f0)).f1)) ∧ w'.cell? ⟨(ad350.add ((((rd_T28 l1 x12_1).f0)).toNat * 4)).block, (ad350.add ((((rd_T28 l1 x12_1).f0)).toNat * 4)).off + 2, none⟩ = some (.int .i64 ((rd_T48 l0 ((rd_T28 l1 x12_1).f0)).f2)) ∧ w'.cell? ⟨(ad350.add ((((rd_T28 l1 x12_1).f0)).toNat * 4)).block, (ad350.add ((((rd_T28 l1 x12_1).f0)).toNat * 4)).off + 3, none⟩ = some (.int .i64 ((rd_T48 l0 ((rd_T28 l1 x12_1).f0)).f3))) (ds := [14, 16]) #[false, false, false, false, false, false, false, false, false, false, false, false, false, false, false, false, false] (by kernel_rfl) rfl rfl ⟨(blk_cell BK348.out 0).trans rfl, (blk_cell BK348.out 1).trans rfl, (blk_cell BK348.out 2).trans rfl, (blk_cell BK348.out 3).trans rfl, (blk_cell BK348.out 4).trans rfl, (blk_cell BK348.out 5).trans rfl, (blk_cell BK348.out 6).trans rfl, (blk_cell BK348.out 7).trans rfl, hx349_0, ((HB.out.cell (World.block_lt_of_cell? w _ hw350_0)).trans hw350_0), ((HB.out.cell (World.block_lt_of_cell? w _ hw350_1)).trans hw350_1), ((HB.out.cell (World.block_lt_of_cell? w _ hw350_2)).trans hw350_2), ((HB.out.cell (World.block_lt_of_cell? w _ hw350_3)).trans hw350_3)⟩ (fun hHeld => ?_); refine with_tabW emenderref26_Steps.tab17 emenderref26_Steps.bits17 (fun HT_ HW_ => ?_)
          generalize wr.drew = w31 at HO_10 HO_11 HO_349006 BK348 HB hx349_0 hx350_0 hx350_1 hx350_2 hx350_3 hHeld ⊢
          refine pure_ (i := 0) (N := some 59) (v := ?_) (a' := ?_) #[true, false, false, false, false, false, false, false, false, false, false, false, false, false, false, false, false] rfl rfl (any_of HT_.out (by kernel_rfl)) (fun _ _ _ h => h) (Or.inl ⟨by rfl, ?_⟩) ?_ ?_
          rotate_left
          ·intro w'
           go_simp
           with_reducible rfl
          rotate_left
          ·simp only [Act.put, sA, sZ, sS, i64_w, i32_w]
           rfl
          refine pure_ (i := 2) (N := some 61) (v := ?_) (a' := ?_) #[true, false, true, false, false, false, false, false, false, false, false, false, false, false, false, false, false] rfl rfl (any_of HT_.out (by kernel_rfl)) (fun _ _ _ h => h) (Or.inl ⟨by rfl, ?_⟩) ?_ ?_
          rotate_left
          ·intro w'
           go_simp
           with_reducible rfl
          rotate_left
          ·simp only [Act.put, sA, sZ, sS, i64_w, i32_w]
           rfl
          refine pure_ (i := 3) (N := some 62) (v := ?_) (a' := ?_) #[true, false, true, true, false, false, false, false, false, false, false, false, false, false, false, false, false] rfl rfl (any_of HT_.out (by kernel_rfl)) (fun _ _ _ h => h) (Or.inl ⟨by rfl, ?_⟩) ?_ ?_
          rotate_left
          ·intro w'
           go_simp
           with_reducible rfl
          rotate_left
          ·simp only [Act.put, sA, sZ, sS, i64_w, i32_w]
           rfl
          refine pure_ (i := 4) (N := some 63) (v := ?_) (a' := ?_) #[true, false, true, true, true, false, false, false, false, false, false, false, false, false, false, false, false] rfl rfl (any_of HT_.out (by kernel_rfl)) (fun _ _ _ h => h) (Or.inl ⟨by rfl, ?_⟩) ?_ ?_
          rotate_left
          ·intro w'
           go_simp
           with_reducible rfl
          rotate_left
          ·simp only [Act.put, sA, sZ, sS, i64_w, i32_w]
           rfl
          refine pure_ (i := 6) (N := some 65) (v := ?_) (a' := ?_) #[true, false, true, true, true, false, true, false, false, false, false, false, false, false, false, false, false] rfl rfl (any_of HT_.out (by kernel_rfl)) (fun _ _ _ h => h) (Or.inl ⟨by rfl, ?_⟩) ?_ ?_
          rotate_left
          ·intro w'
           go_simp
           with_reducible rfl
          rotate_left
          ·simp only [Act.put, sA, sZ, sS, i64_w, i32_w]
           rfl
          refine pure_ (i := 7) (N := some 66) (v := ?_) (a' := ?_) #[true, false, true, true, true, false, true, true, false, false, false, false, false, false, false, false, false] rfl rfl (any_of HT_.out (by kernel_rfl)) (fun _ _ _ h => h) (Or.inl ⟨by rfl, ?_⟩) ?_ ?_
          rotate_left
          ·intro w'
           go_simp
           with_reducible rfl
          rotate_left
          ·simp only [Act.put, sA, sZ, sS, i64_w, i32_w]
           rfl
          refine take_ (i := 1) (N := some 60) (v := ?_) (a' := ?_) #[true, true, true, true, true, false, true, true, false, false, false, false, false, false, false, false, false] rfl rfl (take_ofW HT_.out HW_.out (by kernel_rfl)) (fun _ _ _ h => h) (Or.inl ⟨by rfl, ?_⟩) hHeld ?_ ?_
          rotate_left
          ·rintro w' ⟨s0, s1, s2, s3, s4, s5, s6, s7, s8, s9, s10, s11, s12⟩
           go_simp
           with_reducible rfl
          rotate_left
          ·simp only [Act.put, sA, sZ, sS, i64_w, i32_w]
           rfl
          refine take_ (i := 5) (N := some 64) (v := ?_) (a' := ?_) #[true, true, true, true, true, true, true, true, false, false, false, false, false, false, false, false, false] rfl rfl (take_ofW HT_.out HW_.out (by kernel_rfl)) (fun _ _ _ h => h) (Or.inl ⟨by rfl, ?_⟩) hHeld ?_ ?_
          rotate_left
          ·rintro w' ⟨s0, s1, s2, s3, s4, s5, s6, s7, s8, s9, s10, s11, s12⟩
           go_simp
           with_reducible rfl
          rotate_left
          ·simp only [Act.put, sA, sZ, sS, i64_w, i32_w]
           rfl
          refine take_ (i := 8) (N := some 67) (v := ?_) (a' := ?_) #[true, true, true, true, true, true, true, true, true, false, false, false, false, false, false, false, false] rfl rfl (take_ofW HT_.out HW_.out (by kernel_rfl)) (fun _ _ _ h => h) (Or.inl ⟨by rfl, ?_⟩) hHeld ?_ ?_
          rotate_left
          ·rintro w' ⟨s0, s1, s2, s3, s4, s5, s6, s7, s8, s9, s10, s11, s12⟩
           go_simp
           with_reducible rfl
          rotate_left
          ·simp only [Act.put, sA, sZ, sS, i64_w, i32_w]
           rfl
          refine pure_ (i := 9) (N := some 68) (v := ?_) (a' := ?_) #[true, true, true, true, true, true, true, true, true, true, false, false, false, false, false, false, false] rfl rfl (any_of HT_.out (by kernel_rfl)) (fun _ _ _ h => h) (Or.inl ⟨by rfl, ?_⟩) ?_ ?_
          rotate_left
          ·intro w'
           go_simp
           with_reducible rfl
          rotate_left
          ·simp only [Act.put, sA, sZ, sS, i64_w, i32_w]
           rfl
          refine pure_ (i := 10) (N := some 69) (v := ?_) (a' := ?_) #[true, true, true, true, true, true, true, true, true, true, true, false, false, false, false, false, false] rfl rfl (any_of HT_.out (by kernel_rfl)) (fun _ _ _ h => h) (Or.inl ⟨by rfl, ?_⟩) ?_ ?_
          rotate_left
          ·intro w'
           go_simp
           with_reducible rfl
          rotate_left
          ·simp only [Act.put, sA, sZ, sS, i64_w, i32_w]
           rfl
          refine take_ (i := 11) (N := some 70) (v := ?_) (a' := ?_) #[true, true, true, true, true, true, true, true, true, true, true, true, false, false, false, false, false] rfl rfl (take_ofW HT_.out HW_.out (by kernel_rfl)) (fun _ _ _ h => h) (Or.inl ⟨by rfl, ?_⟩) hHeld ?_ ?_
          rotate_left
          ·rintro w' ⟨s0, s1, s2, s3, s4, s5, s6, s7, s8, s9, s10, s11, s12⟩
           go_simp
           with_reducible rfl
          rotate_left
          ·simp only [Act.put, sA, sZ, sS, i64_w, i32_w]
           rfl
          refine pure_ (i := 12) (N := some 71) (v := ?_) (a' := ?_) #[true, true, true, true, true, true, true, true, true, true, true, true, true, false, false, false, false] rfl rfl (any_of HT_.out (by kernel_rfl)) (fun _ _ _ h => h) (Or.inl ⟨by rfl, ?_⟩) ?_ ?_
          rotate_left
          ·intro w'
           go_simp
           with_reducible rfl
          rotate_left
          ·simp only [Act.put, sA, sZ, sS, i64_w, i32_w]
           rfl
          refine one_ (i := 13) (N := some 72) #[true, true, true, true, true, true, true, true, true, true, true, true, true, true, false, false, false] rfl rfl (one_of HT_.out (by kernel_rfl)) (by decide) (fun K hK => ?_)
          refine value_ (w1 := ?_) (v := ?_) (by rfl) rfl ?_ ?_
          rotate_left 2
          ·go_simp
           constructor
           ·rfl
           ·rfl
          refine hK.out _ _ ⟨(blk_cell (bA BK348.out _) 0).trans rfl, (blk_cell (bA BK348.out _) 1).trans rfl, (blk_cell (bA BK348.out _) 2).trans rfl, (blk_cell (bA BK348.out _) 3).trans rfl, (blk_cell (bA BK348.out _) 4).trans rfl, (blk_cell (bA BK348.out _) 5).trans rfl, (blk_cell (bA BK348.out _) 6).trans rfl, (blk_cell (bA BK348.out _) 7).trans rfl, (World.cell?_alloc_lt _ _ _ (World.block_lt_of_cell? _ _ (hHeld.2.2.2.2.2.2.2.2.1))).trans (hHeld.2.2.2.2.2.2.2.2.1), (World.cell?_alloc_lt _ _ _ (World.block_lt_of_cell? _ _ (((HB.out.cell (World.block_lt_of_cell? w _ hw350_0)).trans hw350_0)))).trans (((HB.out.cell (World.block_lt_of_cell? w _ hw350_0)).trans hw350_0)), (World.cell?_alloc_lt _ _ _ (World.block_lt_of_cell? _ _ (((HB.out.cell (World.block_lt_of_cell? w _ hw350_1)).trans hw350_1)))).trans (((HB.out.cell (World.block_lt_of_cell? w _ hw350_1)).trans hw350_1)), (World.cell?_alloc_lt _ _ _ (World.block_lt_of_cell? _ _ (((HB.out.cell (World.block_lt_of_cell? w _ hw350_2)).trans hw350_2)))).trans (((HB.out.cell (World.block_lt_of_cell? w _ hw350_2)).trans hw350_2)), (World.cell?_alloc_lt _ _ _ (World.block_lt_of_cell? _ _ (((HB.out.cell (World.block_lt_of_cell? w _ hw350_3)).trans hw350_3)))).trans (((HB.out.cell (World.block_lt_of_cell? w _ hw350_3)).trans hw350_3))⟩ (fun hHeld => ?_)
          clear hK K
          refine norm_ (a' := ?_) ?_ ?_
          rotate_left
          ·show Act.put _ (some 72) _ = _
           simp only [Act.put, sA, sZ, sS, i64_w, i32_w]
           rfl
          refine last_ (i := 14) (N := some 73) #[true, true, true, true, true, true, true, true, true, true, true, true, true, true, true, false, false] rfl rfl (one_of HT_.out (by kernel_rfl)) (by decide) (fun K hK => ?_)
          refine Kd.R_append_step k48 (w0 := w) w.heap.size (by rfl) (.tmp 60) (.tmp 72) 22 48 (.agg #[(.int .i64 0), (.int .i64 0), (.int .i64 0), (.int .i64 0)]) 32 rfl Tryd.underlying22 info48 rfl (by decide) (by omega) u349006 x349006_2 (⟨0, 0, rd t342 x14_2, (rd_T48 l0 ((rd_T28 l1 x12_1).f0)).f3⟩ : S48) [.int .i64 0, .int .i64 0, .int .i64 (rd t342 x14_2), .int .i64 ((rd_T48 l0 ((rd_T28 l1 x12_1).f0)).f3)] (fun _ => True) (fun _ => False) rfl rfl ?aP (fun _ hk => hk.elim) ?aF ?aO ?aB ?aS ?aL ?_
          (case aP => exact k48_mkM _ _ _ (⟨0, 0, rd t342 x14_2, (rd_T48 l0 ((rd_T28 l1 x12_1).f0)).f3⟩ : S48))
          (case aB => exact (by repeat (first|(with_reducible first|exact HB.out|apply lA|apply lN|apply lD|refine lS ?_ GE348.out)|exact HB.out)))
          (case aF => exact (fun _ _ => trivial))
          (case aO => exact (by (with_reducible repeat (first|apply Kd.R_alloc|apply Kd.R_drewN|apply Kd.R_drew)); exact HO_349006.out))
          (case aS => exact (below_size (by repeat (first|(with_reducible first|exact HB.out|apply lA|apply lN|apply lD|refine lS ?_ GE348.out)|exact HB.out))))
          (case aL => have := LMc29.out; omega)
          intro v352 w32 ho hb hg hat
          rw [← Ny351.out] at ho
          have n0_ := aM (Kd.R_over' (by (with_reducible repeat (first|apply Kd.R_alloc|apply Kd.R_drewN|apply Kd.R_drew)); exact HO_10.out) (Kd.R_typed (by (with_reducible repeat (first|apply Kd.R_alloc|apply Kd.R_drewN|apply Kd.R_drew)); exact HO_349006.out)) (by decide) hg)
          have n1_ := aM (Kd.S_after (ok := (fun k_ => k_ ≠ gb348)) (by (with_reducible repeat (first|apply Kd.S_alloc|apply Kd.S_drewN|apply Kd.S_drew)); exact Kd.S_mono HO_11.out (fun _ hk => ⟨hk.2, hk.1⟩)) hg hat)
          have n2_ := aM (blk_grown (g := gb348) (o := .cells #[.int .i64 0, .int .i64 ((rd_T28 l1 x12_1).f0), .int .i64 ((rd_T28 l1 x12_1).f1), .int .i64 0, .int .i64 0, .int .i64 0, u349006, .int .i64 0] 45 (0, 0)) (by (with_reducible repeat (first|refine bN ?_ _|refine bD ?_|refine bA ?_ _)); exact BK348.out) hg (Kd.R_ne HO_349006.out BK348.out (by decide)))
          have n3_ := aM (hb)
          have n4_ := aM (ho)
          clear HO_10
          clear HO_11
          clear BK348
          clear HB
          clear HO_349006
          have HO_10 := n0_
          have HO_11 := n1_
          have BK348 := n2_
          have HB := n3_
          have HO353 := n4_
          clear n0_ n1_ n2_ n3_ n4_
          clear ho hb hg hat
          obtain ⟨Ao33, co33, eo33⟩ := Kd.R_slice HO353.out
          (first|subst eo33|(injection eo33 with f1_ f2_ f3_; have f4_ := f1_.symm; have f5_ := f3_.symm; clear f1_ f2_ f3_; subst f4_; subst f5_))
          refine hK.out _ _ ?_
          clear hK K
          refine norm_ (a' := ?_) ?_ ?_
          rotate_left
          ·show Act.put _ (some 73) _ = _
           simp only [Act.put, sA, sZ, sS, i64_w, i32_w]
           rfl
          refine pure_ (i := 15) (N := some 74) (v := ?_) (a' := ?_) #[true, true, true, true, true, true, true, true, true, true, true, true, true, true, true, true, false] rfl rfl (any_of HT_.out (by kernel_rfl)) (fun _ _ _ h => h) (Or.inl ⟨by rfl, ?_⟩) ?_ ?_
          rotate_left
          ·intro w'
           go_simp
           with_reducible rfl
          rotate_left
          ·simp only [Act.put, sA, sZ, sS, i64_w, i32_w]
           rfl
          refine last_ (i := 16) (N := none) #[true, true, true, true, true, true, true, true, true, true, true, true, true, true, true, true, true] rfl rfl (one_of HT_.out (by kernel_rfl)) (by decide) (fun K hK => ?_)
          have hs34 : w32.cell? ⟨gb348, 6, none⟩ = some (u349006) := (blk_cell BK348.out 6).trans rfl
          have hfs34 := blk_frozen BK348.out 6
          refine skip_ (w1 := ?_) (by rfl) rfl ?_ ?_
          rotate_left
          ·go_simp
           rfl
          refine hK.out _ _ ?_
          clear hK K
          refine done_ (done_of HT_.out (by kernel_rfl)) ?_
          try go_wp2
          go_roundg k2
          case measure => have := HK1.out; have := HK2.out; omega
          case rel => exact ⟨(wrap64 (x14_2 + 1)), (y351), (.slice Ao33 y351.length co33), (by first|rfl|(simp; done)|(simp [*]; done)), H', ⟨by have := HK1.out; have := HK2.out; omega⟩, ⟨by (with_reducible repeat (first|apply Kd.R_alloc|apply Kd.R_drewN|apply Kd.R_drew)); exact Kd.R_mono (Kd.R_far (p := ⟨gb348, 6, none⟩) (Kd.R_types HO_10.out BK348.out (by decide)) (fun _ hk => hk.2) (.slice Ao33 y351.length co33)) (fun _ hk => trivial)⟩, ⟨by (with_reducible repeat (first|apply Kd.S_alloc|apply Kd.S_drewN|apply Kd.S_drew)); exact Kd.S_mono (Kd.S_far (p := ⟨gb348, 6, none⟩) (Kd.S_mono HO_11.out (fun k_ hk => (⟨hk, hk.1⟩ : _ ∧ k_ ≠ gb348))) (fun _ hk => hk.2) (.slice Ao33 y351.length co33)) (fun _ hk => ⟨hk.1.2, hk.1.1⟩)⟩, ⟨by (with_reducible repeat (first|apply Kd.R_alloc|apply Kd.R_drewN|apply Kd.R_drew)); exact Kd.R_mono (Kd.R_far (p := ⟨gb348, 6, none⟩) (Kd.R_types HO353.out BK348.out (by decide)) (fun _ hk => hk.2) (.slice Ao33 y351.length co33)) (fun _ hk => trivial)⟩, ⟨by (with_reducible repeat (first|refine bN ?_ _|refine bD ?_|refine bA ?_ _)); refine blk_put (cs := #[.int .i64 0, .int .i64 ((rd_T28 l1 x12_1).f0), .int .i64 ((rd_T28 l1 x12_1).f1), .int .i64 0, .int .i64 0, .int .i64 0, u349006, .int .i64 0]) ?_ 6 _ rfl; (with_reducible repeat (first|refine bN ?_ _|refine bD ?_|refine bA ?_ _)); exact BK348.out⟩, ⟨by repeat (first|(with_reducible first|exact HB.out|apply lA|apply lN|apply lD|refine lS ?_ GE348.out)|exact HB.out)⟩⟩
         ·rw [if_neg c25] at H
          have c25b0 : decide (x14_2 < (t342.length : Int)) = false := decide_eq_false c25
          clear c25
          replace H := ifS H; obtain ⟨c35, H⟩ := H
          have LMc35 := aM c35
          clear c35
          obtain ⟨y354, hy354⟩ : ∃ y_ : List (S45), y_ = (x11_1 ++ [(⟨0, ((rd_T28 l1 x12_1).f0), ((rd_T28 l1 x12_1).f1), 0, 0, 0, x349006_2, 0⟩ : S45)]) := ⟨_, rfl⟩
          replace H : (emenderref26_Steps.l0 k2 l0 l1 t342 y354 (wrap64 (x12_1 - 1))) = some (r1, r2) := by first|(rw [hy354]; with_reducible exact H)|(have H2_ := (Option.bind_some _ _).symm.trans H; rw [hy354]; with_reducible exact H2_)|(have H2_ := (Option.bind_some _ _).symm.trans H; with_reducible exact H2_)|with_reducible exact H|(rw [hy354]; exact H)|exact H
          have Ny354 := aM hy354
          clear hy354
          have H' := aM H
          clear H
          obtain ⟨Ao36, co36, eo36⟩ := Kd.R_slice HO_10.out
          subst eo36
          obtain ⟨hcz37_0, hcz37_1, hcz37_2, hcz37_3, hcz37_4, hcz37_5, hcz37_6, hcz37_7, hfz37_0, hfz37_1, hfz37_2, hfz37_3, hfz37_4, hfz37_5, hfz37_6, hfz37_7⟩ := bx8z BK348.out
          obtain ⟨Ao39, co39, eo39⟩ := Kd.R_slice HO_349006.out
          subst eo39
          go_wp2_with (first|((with_reducible refine gate_builtin (b := .append) (xs := #[.tmp 75, .tmp 77]) rfl ?_); at_builtin; refine Kd.S_append k45 (w0 := w) w.heap.size rfl (.tmp 75) (.tmp 77) 33 45 (.agg #[(.int .i64 0), (.int .i64 0), (.int .i64 0), (.int .i64 0), (.int .i64 0), (.int .i64 0), (.slice none 0 0), (.int .i64 0)]) 80 rfl Tryd.underlying33 info45 rfl (by decide) (by omega) u11 x11_1 (⟨0, ((rd_T28 l1 x12_1).f0), ((rd_T28 l1 x12_1).f1), 0, 0, 0, x349006_2, 0⟩ : S45) [.int .i64 0, .int .i64 ((rd_T28 l1 x12_1).f0), .int .i64 ((rd_T28 l1 x12_1).f1), .int .i64 0, .int .i64 0, .int .i64 0, .slice Ao39 x349006_2.length co39, .int .i64 0] (fun k_ => k_ ≠ gb348) (fun k_ => some k_ = (.slice Ao39 x349006_2.length co39 : Value).ownBlock) rfl rfl ?aP (fun k_ hk_ => ((Kd.R_mono (ok' := fun k_ => ((fun k_ => k_ ≠ gb348)) k_ ∧ some k_ ≠ (u11 : Value).ownBlock) (Kd.R_types (Kd.R_apart' (HO_349006.out) (Kd.S_typed HO_11.out) (by decide)) BK348.out (by decide)) (fun k_ hk => ⟨hk.2, hk.1.2⟩))).1 k_ hk_.symm) ?aF ?aO ?aB ?aS ?aL ?_; (case aP => exact k45_mkM _ _ _ (⟨0, ((rd_T28 l1 x12_1).f0), ((rd_T28 l1 x12_1).f1), 0, 0, 0, x349006_2, 0⟩ : S45) (Kd.R_mono (Kd.R_tight rfl (Kd.R_mono (ok' := fun k_ => ((fun k_ => k_ ≠ gb348)) k_ ∧ some k_ ≠ (u11 : Value).ownBlock) (Kd.R_types (Kd.R_apart' (HO_349006.out) (Kd.S_typed HO_11.out) (by decide)) BK348.out (by decide)) (fun k_ hk => ⟨hk.2, hk.1.2⟩))) (fun _ h_ => h_))); (case aB => exact (by repeat (first|(with_reducible first|exact HB.out|apply lA|apply lN|apply lD|refine lS ?_ GE348.out)|exact HB.out))); (case aF => exact (fun k_ hk => Kd.freshB (g := gb348) (o := .cells #[.int .i64 0, .int .i64 ((rd_T28 l1 x12_1).f0), .int .i64 ((rd_T28 l1 x12_1).f1), .int .i64 0, .int .i64 0, .int .i64 0, .slice Ao39 x349006_2.length co39, .int .i64 0] 45 (0, 0)) (by (with_reducible repeat (first|refine bN ?_ _|refine bD ?_|refine bA ?_ _)); exact BK348.out) k_ hk)); (case aO => exact (by (with_reducible repeat (first|apply Kd.S_alloc|apply Kd.S_drewN|apply Kd.S_drew)); exact Kd.S_mono HO_11.out (fun k_ hk => ⟨hk.2, fun e_ => hk.1 e_⟩))); (case aS => exact (below_size (by repeat (first|(with_reducible first|exact HB.out|apply lA|apply lN|apply lD|refine lS ?_ GE348.out)|exact HB.out)))); (case aL => have := LMc35.out; omega); intro v355 w38 ho hb hg hat; rw [← Ny354.out] at ho; have n0_ := aM (Kd.R_over' (by (with_reducible repeat (first|apply Kd.R_alloc|apply Kd.R_drewN|apply Kd.R_drew)); exact HO_10.out) (Kd.S_typed (by (with_reducible repeat (first|apply Kd.S_alloc|apply Kd.S_drewN|apply Kd.S_drew)); exact HO_11.out)) (by decide) hg); have n1_ := aM (blk_grown (g := gb348) (o := .cells #[.int .i64 0, .int .i64 ((rd_T28 l1 x12_1).f0), .int .i64 ((rd_T28 l1 x12_1).f1), .int .i64 0, .int .i64 0, .int .i64 0, .slice Ao39 x349006_2.length co39, .int .i64 0] 45 (0, 0)) (by (with_reducible repeat (first|refine bN ?_ _|refine bD ?_|refine bA ?_ _)); exact BK348.out) hg (Kd.S_away HO_11.out (fun _ hk => hk.2))); have n2_ := aM (hb); have n3_ := aM (ho); clear HO_10; clear BK348; clear HB; clear HO_11; clear HO_349006; have HO_10 := n0_; have BK348 := n1_; have HB := n2_; have HO356 := n3_; clear n0_ n1_ n2_ n3_; clear ho hb hg hat))
          go_roundg k2
          case measure => have := HK1.out; have := HK2.out; omega
          case rel => exact ⟨(y354), (wrap64 (x12_1 - 1)), (by first|rfl|(simp; done)|(simp [*]; done)), H', ⟨by have := HK1.out; have := HK2.out; omega⟩, ⟨by (with_reducible repeat (first|apply Kd.R_alloc|apply Kd.R_drewN|apply Kd.R_drew)); exact HO_10.out⟩, ⟨by (with_reducible repeat (first|apply Kd.S_alloc|apply Kd.S_drewN|apply Kd.S_drew)); exact Kd.S_mono HO356.out (fun _ hk => trivial)⟩, ⟨by repeat (first|(with_reducible first|exact HB.out|apply lA|apply lN|apply lD|refine lS ?_ GE348.out)|exact HB.out)⟩⟩
      ·rw [if_neg c12] at H
       have c12b0 : decide (0 ≤ x12_1) = false := decide_eq_false c12
       clear c12
       simp only [Option.some.injEq, Prod.mk.injEq] at H
       obtain ⟨rfl, rfl⟩ := H
       go_wp2
       go_ret2
       exact ⟨_, by first|rfl|(simp [errW_none, errW_some] <;> rfl)|(simp [*, errW_none, errW_some] <;> rfl), by (with_reducible repeat (first|apply Kd.S_alloc|apply Kd.S_drewN|apply Kd.S_drew)); exact HO_11.out, by repeat (first|(with_reducible first|exact HB.out|apply lA|apply lN|apply lD)|exact HB.out)⟩
   ·rw [if_neg c9] at H
    have c9b0 : (t343 == 0) = false := beq_eq_false_iff_ne.mpr c9
    have c9b1 : (t343 != 0) = true := bne_iff_ne.mpr c9
    simp only [Option.some.injEq, Prod.mk.injEq] at H
    obtain ⟨rfl, rfl⟩ := H
    go_enter Tryd.func12, Tryd.ntmps12
    go_wp2_with (first|((with_reducible refine gate_callee (f := 25) rfl ?_); refine goesL_ (some 17) rfl rfl Tryd.func25 (by kernel_rfl) rfl #[.slice A0 l0.length c0] rfl (by (try simp only [List.map_toArray, List.map_cons, List.map_nil]); first|done|rfl|(simp only [List.length_drop, List.length_take]; rfl)) ?_; (with_reducible refine (emenderref04_Check.calls k _ _ l0 t339 t340 _ ?side1 ?side2 A4.out).mono ?_); (case side1 => repeat (first|exact HR0.out|(with_reducible refine Kd.C_alloc ?_ _)|(with_reducible refine Kd.C_drewN ?_ _)|(with_reducible refine Kd.C_drew ?_))); (case side2 => exact HC0.out); rintro e w40 ⟨rfl, hb⟩; refine ⟨_, rfl, ?_⟩; replace HB := aM (below_step (by repeat (first|(with_reducible first|exact HB.out|apply lA|apply lN|apply lD)|exact HB.out)) hb); (try clear hb); (try clear hb2); (try clear hk); (try clear hi))|((with_reducible refine gate_callee (f := 26) rfl ?_); refine goesL_ (some 25) rfl rfl Tryd.func26 (by kernel_rfl) rfl #[.slice A0 l0.length c0, .slice A1 l1.length c1] rfl (by (try simp only [List.map_toArray, List.map_cons, List.map_nil]); first|done|rfl|(simp only [List.length_drop, List.length_take]; rfl)) ?_; (with_reducible refine (emenderref26_right.calls k _ _ l0 _ _ l1 true _ ?side1 ?side2 ?side3 ?side4 A6.out).mono ?_); (case side1 => repeat (first|exact (Kd.C_below HR0.out HB.out)|(with_reducible refine Kd.C_alloc ?_ _)|(with_reducible refine Kd.C_drewN ?_ _)|(with_reducible refine Kd.C_drew ?_))); (case side2 => exact HC0.out); (case side3 => repeat (first|exact (Kd.C_below HR1.out HB.out)|(with_reducible refine Kd.C_alloc ?_ _)|(with_reducible refine Kd.C_drewN ?_ _)|(with_reducible refine Kd.C_drew ?_))); (case side4 => exact HC1.out); rintro e w' ⟨rfl, ⟨nd, rfl⟩⟩; refine ⟨_, rfl, ?_⟩)|((with_reducible refine gate_callee (f := 27) rfl ?_); refine goesL_ (some 29) rfl rfl Tryd.func27 (by kernel_rfl) rfl #[.string a2] rfl (by (try simp only [List.map_toArray, List.map_cons, List.map_nil]); first|done|rfl|(simp only [List.length_drop, List.length_take]; rfl)) ?_; (with_reducible refine (emenderref26_points.calls k a2 t342 t343 _ A8.out).mono ?_); rintro e w41 ⟨v344, rfl, ho0, hb⟩; refine ⟨_, rfl, ?_⟩; replace HO345 := aM (Kd.R_lower ho0 (below_size (by repeat (first|(with_reducible first|exact HB.out|apply lA|apply lN|apply lD)|exact HB.out)))); replace HB := aM (below_step (by repeat (first|(with_reducible first|exact HB.out|apply lA|apply lN|apply lD)|exact HB.out)) hb); (try clear hb); (try clear hb2); (try clear hk); (try clear hi); (try clear ho0)))
    go_ret2
    exact ⟨_, by first|rfl|(simp [errW_none, errW_some] <;> rfl)|(simp [*, errW_none, errW_some] <;> rfl), by first|exact Kd.S_nil _ _ _ _ _|exact Kd.N_nil _ _ _ _ _|exact Kd.V_nil _ _ _ _ _|exact Kd.Q_nil _ _ _ _ _|exact Kd.R_nil _ _ _ _ _, by repeat (first|(with_reducible first|exact HB.out|apply lA|apply lN|apply lD)|exact HB.out)⟩
  ·replace c7 := Bool.eq_false_iff.mpr c7
   subst c7
   have H1 : (some (([] : List (S45)), 1)) = some (r1, r2) := by rw [if_neg (show ¬ (false = true) by decide)] at H; exact H
   clear H
   have H := H1
   clear H1
   simp only [Option.some.injEq, Prod.mk.injEq] at H
   obtain ⟨rfl, rfl⟩ := H
   go_enter Tryd.func12, Tryd.ntmps12
   go_wp2_with (first|((with_reducible refine gate_callee (f := 25) rfl ?_); refine goesL_ (some 17) rfl rfl Tryd.func25 (by kernel_rfl) rfl #[.slice A0 l0.length c0] rfl (by (try simp only [List.map_toArray, List.map_cons, List.map_nil]); first|done|rfl|(simp only [List.length_drop, List.length_take]; rfl)) ?_; (with_reducible refine (emenderref04_Check.calls k _ _ l0 t339 t340 _ ?side1 ?side2 A4.out).mono ?_); (case side1 => repeat (first|exact HR0.out|(with_reducible refine Kd.C_alloc ?_ _)|(with_reducible refine Kd.C_drewN ?_ _)|(with_reducible refine Kd.C_drew ?_))); (case side2 => exact HC0.out); rintro e w42 ⟨rfl, hb⟩; refine ⟨_, rfl, ?_⟩; replace HB := aM (below_step (by repeat (first|(with_reducible first|exact HB.out|apply lA|apply lN|apply lD)|exact HB.out)) hb); (try clear hb); (try clear hb2); (try clear hk); (try clear hi))|((with_reducible refine gate_callee (f := 26) rfl ?_); refine goesL_ (some 25) rfl rfl Tryd.func26 (by kernel_rfl) rfl #[.slice A0 l0.length c0, .slice A1 l1.length c1] rfl (by (try simp only [List.map_toArray, List.map_cons, List.map_nil]); first|done|rfl|(simp only [List.length_drop, List.length_take]; rfl)) ?_; (with_reducible refine (emenderref26_right.calls k _ _ l0 _ _ l1 false _ ?side1 ?side2 ?side3 ?side4 A6.out).mono ?_); (case side1 => repeat (first|exact (Kd.C_below HR0.out HB.out)|(with_reducible refine Kd.C_alloc ?_ _)|(with_reducible refine Kd.C_drewN ?_ _)|(with_reducible refine Kd.C_drew ?_))); (case side2 => exact HC0.out); (case side3 => repeat (first|exact (Kd.C_below HR1.out HB.out)|(with_reducible refine Kd.C_alloc ?_ _)|(with_reducible refine Kd.C_drewN ?_ _)|(with_reducible refine Kd.C_drew ?_))); (case side4 => exact HC1.out); rintro e w' ⟨rfl, ⟨nd, rfl⟩⟩; refine ⟨_, rfl, ?_⟩))
   go_ret2
   exact ⟨_, by first|rfl|(simp [errW_none, errW_some] <;> rfl)|(simp [*, errW_none, errW_some] <;> rfl), by first|exact Kd.S_nil _ _ _ _ _|exact Kd.N_nil _ _ _ _ _|exact Kd.V_nil _ _ _ _ _|exact Kd.Q_nil _ _ _ _ _|exact Kd.R_nil _ _ _ _ _, by repeat (first|(with_reducible first|exact HB.out|apply lA|apply lN|apply lD)|exact HB.out)⟩
 ·rw [if_neg c5] at H
  have c5b0 : (t340 == 0) = false := beq_eq_false_iff_ne.mpr c5
  have c5b1 : (t340 != 0) = true := bne_iff_ne.mpr c5
  simp only [Option.some.injEq, Prod.mk.injEq] at H
  obtain ⟨rfl, rfl⟩ := H
  go_enter Tryd.func12, Tryd.ntmps12
  go_wp2_with (first|((with_reducible refine gate_callee (f := 25) rfl ?_); refine goesL_ (some 17) rfl rfl Tryd.func25 (by kernel_rfl) rfl #[.slice A0 l0.length c0] rfl (by (try simp only [List.map_toArray, List.map_cons, List.map_nil]); first|done|rfl|(simp only [List.length_drop, List.length_take]; rfl)) ?_; (with_reducible refine (emenderref04_Check.calls k _ _ l0 t339 t340 _ ?side1 ?side2 A4.out).mono ?_); (case side1 => repeat (first|exact HR0.out|(with_reducible refine Kd.C_alloc ?_ _)|(with_reducible refine Kd.C_drewN ?_ _)|(with_reducible refine Kd.C_drew ?_))); (case side2 => exact HC0.out); rintro e w43 ⟨rfl, hb⟩; refine ⟨_, rfl, ?_⟩; replace HB := aM (below_step (by repeat (first|(with_reducible first|exact HB.out|apply lA|apply lN|apply lD)|exact HB.out)) hb); (try clear hb); (try clear hb2); (try clear hk); (try clear hi)))
  go_ret2
  exact ⟨_, by first|rfl|(simp [errW_none, errW_some] <;> rfl)|(simp [*, errW_none, errW_some] <;> rfl), by first|exact Kd.S_nil _ _ _ _ _|exact Kd.N_nil _ _ _ _ _|exact Kd.V_nil _ _ _ _ _|exact Kd.Q_nil _ _ _ _ _|exact Kd.R_nil _ _ _ _ _, by repeat (first|(with_reducible first|exact HB.out|apply lA|apply lN|apply lD)|exact HB.out)⟩
mutual
def emenderref09_Check.j0 : Nat → Bool → Int → Int → Int → Int → Int → Int → List (S48) → Int → Option (Int)
|0, _, _, _, _, _, _, _, _, _ => none
|k + 1, x24, x358000, x358001, x358002, x358003, x358004, x358005, x358006, x358007 => if x24 = true then (some 1) else (if x358003 = 0 then (if x358004 = 0 then (emenderref09_Check.j1 k (x358005 == 0) x358000 x358001 x358002 x358003 x358004 x358005 x358006 x358007) else (emenderref09_Check.j1 k false x358000 x358001 x358002 x358003 x358004 x358005 x358006 x358007)) else (emenderref09_Check.j1 k false x358000 x358001 x358002 x358003 x358004 x358005 x358006 x358007))
def emenderref09_Check.j1 : Nat → Bool → Int → Int → Int → Int → Int → Int → List (S48) → Int → Option (Int)
|0, _, _, _, _, _, _, _, _, _ => none
|k + 1, x3, x358000, x358001, x358002, x358003, x358004, x358005, x358006, x358007 => if x358000 = 0 then (if x3 = true then (emenderref09_Check.j3 k (x358007 == 0) x358000 x358001 x358002 x358003 x358004 x358005 x358006 x358007) else (emenderref09_Check.j3 k false x358000 x358001 x358002 x358003 x358004 x358005 x358006 x358007)) else (if x358000 = 1 then (if x358001 ≤ x358003 then (if x358003 < x358004 then (if x358004 ≤ x358002 then (if x358005 ≥ 0 then (if x358005 ≤ (x358006.length : Int) then (emenderref09_Check.j3 k (x358007 == 0) x358000 x358001 x358002 x358003 x358004 x358005 x358006 x358007) else (emenderref09_Check.j3 k false x358000 x358001 x358002 x358003 x358004 x358005 x358006 x358007)) else (emenderref09_Check.j3 k false x358000 x358001 x358002 x358003 x358004 x358005 x358006 x358007)) else (emenderref09_Check.j3 k false x358000 x358001 x358002 x358003 x358004 x358005 x358006 x358007)) else (emenderref09_Check.j3 k false x358000 x358001 x358002 x358003 x358004 x358005 x358006 x358007)) else (emenderref09_Check.j3 k false x358000 x358001 x358002 x358003 x358004 x358005 x358006 x358007)) else (if x358000 = 2 then (emenderref09_Check.j2 k x3 (x358000 == 2) x358000 x358001 x358002 x358003 x358004 x358005 x358006 x358007) else (emenderref09_Check.j2 k x3 (x358000 == 3) x358000 x358001 x358002 x358003 x358004 x358005 x358006 x358007)))
def emenderref09_Check.j3 : Nat → Bool → Int → Int → Int → Int → Int → Int → List (S48) → Int → Option (Int)
|0, _, _, _, _, _, _, _, _, _ => none
|k + 1, x4, x358000, x358001, x358002, x358003, x358004, x358005, x358006, x358007 => emenderref09_Check.l0 k x4 0 x358000 x358001 x358002 x358003 x358004 x358005 x358006 x358007
def emenderref09_Check.l0 : Nat → Bool → Int → Int → Int → Int → Int → Int → Int → List (S48) → Int → Option (Int)
|0, _, _, _, _, _, _, _, _, _, _ => none
|k + 1, x4, x5, x358000, x358001, x358002, x358003, x358004, x358005, x358006, x358007 => if x5 < (x358006.length : Int) then (if x4 = true then (if 0 ≤ x5 then ((emenderref04_Right.f k ((rd_T48 x358006 x5).f0) ((rd_T48 x358006 x5).f1) ((rd_T48 x358006 x5).f2) ((rd_T48 x358006 x5).f3)).bind fun t359 => (emenderref09_Check.l0 k t359 (wrap64 (x5 + 1)) x358000 x358001 x358002 x358003 x358004 x358005 x358006 x358007)) else (none)) else (emenderref09_Check.l0 k false (wrap64 (x5 + 1)) x358000 x358001 x358002 x358003 x358004 x358005 x358006 x358007)) else (if x4 = true then (some 0) else (some 1))
def emenderref09_Check.j2 : Nat → Bool → Bool → Int → Int → Int → Int → Int → Int → List (S48) → Int → Option (Int)
|0, _, _, _, _, _, _, _, _, _, _ => none
|k + 1, x3, x87, x358000, x358001, x358002, x358003, x358004, x358005, x358006, x358007 => if x87 = true then (if x3 = true then (if x358001 < x358002 then (if (x358006.length : Int) = 0 then (if x358007 = 1 then (emenderref09_Check.j3 k true x358000 x358001 x358002 x358003 x358004 x358005 x358006 x358007) else (if x358007 = 2 then (emenderref09_Check.j3 k true x358000 x358001 x358002 x358003 x358004 x358005 x358006 x358007) else (emenderref09_Check.j3 k (x358007 == 4) x358000 x358001 x358002 x358003 x358004 x358005 x358006 x358007))) else (emenderref09_Check.j3 k false x358000 x358001 x358002 x358003 x358004 x358005 x358006 x358007)) else (emenderref09_Check.j3 k false x358000 x358001 x358002 x358003 x358004 x358005 x358006 x358007)) else (emenderref09_Check.j3 k false x358000 x358001 x358002 x358003 x358004 x358005 x358006 x358007)) else (emenderref09_Check.j3 k false x358000 x358001 x358002 x358003 x358004 x358005 x358006 x358007)
end
def emenderref09_Check.f (k : Nat) (a0_0 : Int) (a0_1 : Int) (a0_2 : Int) (a0_3 : Int) (a0_4 : Int) (a0_5 : Int) (l0_6 : List (S48)) (a0_7 : Int) : Option (Int) := if (l0_6.length : Int) > 2048 then (some 2) else (if a0_1 < 0 then (emenderref09_Check.j0 k true a0_0 a0_1 a0_2 a0_3 a0_4 a0_5 l0_6 a0_7) else (if a0_1 > a0_2 then (emenderref09_Check.j0 k true a0_0 a0_1 a0_2 a0_3 a0_4 a0_5 l0_6 a0_7) else (emenderref09_Check.j0 k (decide (a0_2 > 2048)) a0_0 a0_1 a0_2 a0_3 a0_4 a0_5 l0_6 a0_7)))
set_option maxHeartbeats 8000000 in
set_option maxRecDepth 100000 in
theorem emenderref09_Check.calls (k : Nat) (a0_0 : Int) (a0_1 : Int) (a0_2 : Int) (a0_3 : Int) (a0_4 : Int) (a0_5 : Int) (A0_6 : Option Addr) (c0_6 : Nat) (l0_6 : List (S48)) (a0_7 : Int) (r : Int) (w : World) (hr0_6 : Kd.C k48 w A0_6 l0_6.length l0_6) (hc0_6 : l0_6.length ≤ c0_6) (h : emenderref09_Check.f k a0_0 a0_1 a0_2 a0_3 a0_4 a0_5 l0_6 a0_7 = some r) :
  Calls Tryd.prog 44 #[.agg #[.int .i64 a0_0, .int .i64 a0_1, .int .i64 a0_2, .int .i64 a0_3, .int .i64 a0_4, .int .i64 a0_5, .slice A0_6 l0_6.length c0_6, .int .i64 a0_7]] w fun e w' => e = .returned (.int .i64 r) ∧ Below w.heap.size w w' := by
 have hu45 := Tryd.underlying45
 have hu48 := Tryd.underlying48
 have HR0_6 := aM hr0_6
 have HC0_6 := aM hc0_6
 clear hr0_6 hc0_6
 have HB := aM (Below.refl w.heap.size w)
 have H : (if (l0_6.length : Int) > 2048 then (some 2) else (if a0_1 < 0 then (emenderref09_Check.j0 k true a0_0 a0_1 a0_2 a0_3 a0_4 a0_5 l0_6 a0_7) else (if a0_1 > a0_2 then (emenderref09_Check.j0 k true a0_0 a0_1 a0_2 a0_3 a0_4 a0_5 l0_6 a0_7) else (emenderref09_Check.j0 k (decide (a0_2 > 2048)) a0_0 a0_1 a0_2 a0_3 a0_4 a0_5 l0_6 a0_7)))) = some r := h
 clear h
 by_cases c2 : (l0_6.length : Int) > 2048
 ·rw [if_pos c2] at H
  have c2b0 : decide (2048 < (l0_6.length : Int)) = true := decide_eq_true c2
  have c2b1 : decide (2048 < l0_6.length) = true := decide_eq_true (by omega)
  clear c2
  obtain rfl := Option.some.inj H
  go_enter Tryd.func44, Tryd.ntmps44
  go_wp2_with (first|((with_reducible refine gate_dst (N := 1) rfl ?_); (try (refine gate_guard (by rfl) ?_; dsimp only)); refine box_event ?hg (N := 1) ?hd (cs := #[.int .i64 a0_0, .int .i64 a0_1, .int .i64 a0_2, .int .i64 a0_3, .int .i64 a0_4, .int .i64 a0_5, .slice A0_6 l0_6.length c0_6, .int .i64 a0_7]) (t := 45) ?hr ?_; (case hd => rfl); (case hg => rfl); (case hr => first|(go_simp; done)|(go_simp; rfl)); intro gb357 hg w3 hbox hb; have hB_ := (by repeat (first|(with_reducible first|exact HB.out|apply lA|apply lN|apply lD)|exact HB.out) : Below w.heap.size w _); replace HB := aM (below_step hB_ hb); replace BK357 := aM (hbox); replace GW357 := aM ((bsz hg hB_)); replace GE357 := aM ((bsz hg hB_)); clear hb hbox hg hB_; obtain ⟨hcz4_0, hcz4_1, hcz4_2, hcz4_3, hcz4_4, hcz4_5, hcz4_6, hcz4_7, hfz4_0, hfz4_1, hfz4_2, hfz4_3, hfz4_4, hfz4_5, hfz4_6, hfz4_7⟩ := bx8z BK357.out))
  go_ret
  exact ⟨by first|rfl|(simp [errW_none, errW_some] <;> rfl)|(simp [*, errW_none, errW_some] <;> rfl), by repeat (first|(with_reducible first|exact HB.out|apply lA|apply lN|apply lD|refine lS ?_ GE357.out)|exact HB.out)⟩
 ·rw [if_neg c2] at H
  have c2b0 : decide (2048 < (l0_6.length : Int)) = false := decide_eq_false c2
  have c2b1 : decide (2048 < l0_6.length) = false := decide_eq_false (by omega)
  clear c2
  have HC5 := aM H
  clear H
  go_enter Tryd.func44, Tryd.ntmps44
  go_upto_region 3 with (first|((with_reducible refine gate_dst (N := 1) rfl ?_); (try (refine gate_guard (by rfl) ?_; dsimp only)); refine box_event ?hg (N := 1) ?hd (cs := #[.int .i64 a0_0, .int .i64 a0_1, .int .i64 a0_2, .int .i64 a0_3, .int .i64 a0_4, .int .i64 a0_5, .slice A0_6 l0_6.length c0_6, .int .i64 a0_7]) (t := 45) ?hr ?_; (case hd => rfl); (case hg => rfl); (case hr => first|(go_simp; done)|(go_simp; rfl)); intro gb357 hg w6 hbox hb; have hB_ := (by repeat (first|(with_reducible first|exact HB.out|apply lA|apply lN|apply lD)|exact HB.out) : Below w.heap.size w _); replace HB := aM (below_step hB_ hb); replace BK357 := aM (hbox); replace GW357 := aM ((bsz hg hB_)); replace GE357 := aM ((bsz hg hB_)); clear hb hbox hg hB_; obtain ⟨hcz7_0, hcz7_1, hcz7_2, hcz7_3, hcz7_4, hcz7_5, hcz7_6, hcz7_7, hfz7_0, hfz7_1, hfz7_2, hfz7_3, hfz7_4, hfz7_5, hfz7_6, hfz7_7⟩ := bx8z BK357.out))
  (try simp only [Act.put, List.setIfInBounds_toArray, List.set_cons_zero, List.set_cons_succ])
  go_cut [24] (fun v24 wc => ∃ (kq : Nat) (x24_4 : Bool), v24 = .bool x24_4 ∧ Aside0 (emenderref09_Check.j0 kq x24_4 a0_0 a0_1 a0_2 a0_3 a0_4 a0_5 l0_6 a0_7 = some r) ∧ Aside0 (kq ≤ k) ∧ Aside0 (wc.heap[gb357]? = some (.cells #[.int .i64 a0_0, .int .i64 a0_1, .int .i64 a0_2, .int .i64 a0_3, .int .i64 a0_4, .int .i64 a0_5, (.slice A0_6 l0_6.length c0_6), .int .i64 a0_7] 45 (0, 0))) ∧ Aside0 (Below w.heap.size w wc))
  case first =>
   have H := HC5.out
   clear HC5
   by_cases c8 : a0_1 < 0
   ·rw [if_pos c8] at H
    have c8b0 : decide (a0_1 < 0) = true := decide_eq_true c8
    clear c8
    (first|rw [c8b0]|(simp only [i64_w, i32_w]; rw [c8b0])|skip)
    have H' := aM H
    clear H
    obtain ⟨hcz9_0, hcz9_1, hcz9_2, hcz9_3, hcz9_4, hcz9_5, hcz9_6, hcz9_7, hfz9_0, hfz9_1, hfz9_2, hfz9_3, hfz9_4, hfz9_5, hfz9_6, hfz9_7⟩ := bx8z BK357.out
    go_wp2
    go_meet
    case rel => exact ⟨_, (true), (by first|rfl|(simp; done)|(simp [*]; done)), H', ⟨by first|omega|exact Nat.le_refl _⟩, ⟨by (with_reducible repeat (first|refine bN ?_ _|refine bD ?_|refine bA ?_ _)); exact BK357.out⟩, ⟨by repeat (first|(with_reducible first|exact HB.out|apply lA|apply lN|apply lD|refine lS ?_ GE357.out)|exact HB.out)⟩⟩
   ·rw [if_neg c8] at H
    have c8b0 : decide (a0_1 < 0) = false := decide_eq_false c8
    clear c8
    (first|rw [c8b0]|(simp only [i64_w, i32_w]; rw [c8b0])|skip)
    by_cases c10 : a0_1 > a0_2
    ·rw [if_pos c10] at H
     have c10b0 : decide (a0_2 < a0_1) = true := decide_eq_true c10
     clear c10
     have H' := aM H
     clear H
     obtain ⟨hcz11_0, hcz11_1, hcz11_2, hcz11_3, hcz11_4, hcz11_5, hcz11_6, hcz11_7, hfz11_0, hfz11_1, hfz11_2, hfz11_3, hfz11_4, hfz11_5, hfz11_6, hfz11_7⟩ := bx8z BK357.out
     go_wp2
     go_meet
     case rel => exact ⟨_, (true), (by first|rfl|(simp; done)|(simp [*]; done)), H', ⟨by first|omega|exact Nat.le_refl _⟩, ⟨by (with_reducible repeat (first|refine bN ?_ _|refine bD ?_|refine bA ?_ _)); exact BK357.out⟩, ⟨by repeat (first|(with_reducible first|exact HB.out|apply lA|apply lN|apply lD|refine lS ?_ GE357.out)|exact HB.out)⟩⟩
    ·rw [if_neg c10] at H
     have c10b0 : decide (a0_2 < a0_1) = false := decide_eq_false c10
     clear c10
     have H' := aM H
     clear H
     obtain ⟨hcz12_0, hcz12_1, hcz12_2, hcz12_3, hcz12_4, hcz12_5, hcz12_6, hcz12_7, hfz12_0, hfz12_1, hfz12_2, hfz12_3, hfz12_4, hfz12_5, hfz12_6, hfz12_7⟩ := bx8z BK357.out
     go_wp2
     go_meet
     case rel => exact ⟨_, (decide (a0_2 > 2048)), (by first|rfl|(simp; done)|(simp [*]; done)), H', ⟨by first|omega|exact Nat.le_refl _⟩, ⟨by (with_reducible repeat (first|refine bN ?_ _|refine bD ?_|refine bA ?_ _)); exact BK357.out⟩, ⟨by repeat (first|(with_reducible first|exact HB.out|apply lA|apply lN|apply lD|refine lS ?_ GE357.out)|exact HB.out)⟩⟩
  case rest =>
   clear HC5
   obtain ⟨kq, x24_4, rfl, HA, HJ4, BK357, HB⟩ := hcut
   cases kq with
  |zero => exact absurd HA.out (by simp [emenderref09_Check.j0])
  |succ kj4 =>
    have H := HA.out
    clear HA
    simp only [emenderref09_Check.j0] at H
    by_cases c13 : x24_4 = true
    ·subst c13
     have H1 : (some 1) = some r := by rw [if_pos rfl] at H; exact H
     clear H
     have H := H1
     clear H1
     obtain rfl := Option.some.inj H
     go_wp2
     go_ret
     exact ⟨by first|rfl|(simp [errW_none, errW_some] <;> rfl)|(simp [*, errW_none, errW_some] <;> rfl), by repeat (first|(with_reducible first|exact HB.out|apply lA|apply lN|apply lD|refine lS ?_ GE357.out)|exact HB.out)⟩
    ·replace c13 := Bool.eq_false_iff.mpr c13
     subst c13
     have H1 : (if a0_3 = 0 then (if a0_4 = 0 then (emenderref09_Check.j1 kj4 (a0_5 == 0) a0_0 a0_1 a0_2 a0_3 a0_4 a0_5 l0_6 a0_7) else (emenderref09_Check.j1 kj4 false a0_0 a0_1 a0_2 a0_3 a0_4 a0_5 l0_6 a0_7)) else (emenderref09_Check.j1 kj4 false a0_0 a0_1 a0_2 a0_3 a0_4 a0_5 l0_6 a0_7)) = some r := by rw [if_neg (show ¬ (false = true) by decide)] at H; exact H
     clear H
     have H := H1
     clear H1
     have HC14 := aM H
     clear H
     go_upto_region 5 with (fail)
     go_cut [3] (fun v3 wc => ∃ (kq : Nat) (x3_13 : Bool), v3 = .bool x3_13 ∧ Aside0 (emenderref09_Check.j1 kq x3_13 a0_0 a0_1 a0_2 a0_3 a0_4 a0_5 l0_6 a0_7 = some r) ∧ Aside0 (kq ≤ kj4) ∧ Aside0 (wc.heap[gb357]? = some (.cells #[.int .i64 a0_0, .int .i64 a0_1, .int .i64 a0_2, .int .i64 a0_3, .int .i64 a0_4, .int .i64 a0_5, (.slice A0_6 l0_6.length c0_6), .int .i64 a0_7] 45 (0, 0))) ∧ Aside0 (Below w.heap.size w wc))
     case first =>
      have H := HC14.out
      clear HC14
      by_cases c15 : a0_3 = 0
      ·rw [if_pos c15] at H
       have c15b0 : (a0_3 == 0) = true := beq_iff_eq.mpr c15
       have c15b1 : (a0_3 != 0) = false := bne_eq_false_iff_eq.mpr c15
       clear c15
       (first|rw [c15b0]|(simp only [i64_w, i32_w]; rw [c15b0])|skip)
       by_cases c16 : a0_4 = 0
       ·rw [if_pos c16] at H
        have c16b0 : (a0_4 == 0) = true := beq_iff_eq.mpr c16
        have c16b1 : (a0_4 != 0) = false := bne_eq_false_iff_eq.mpr c16
        clear c16
        have H' := aM H
        clear H
        obtain ⟨hcz17_0, hcz17_1, hcz17_2, hcz17_3, hcz17_4, hcz17_5, hcz17_6, hcz17_7, hfz17_0, hfz17_1, hfz17_2, hfz17_3, hfz17_4, hfz17_5, hfz17_6, hfz17_7⟩ := bx8z BK357.out
        go_wp2
        go_meet
        case rel => exact ⟨_, ((a0_5 == 0)), (by first|rfl|(simp; done)|(simp [*]; done)), H', ⟨by have := HJ4.out; first|omega|exact Nat.le_refl _⟩, ⟨by (with_reducible repeat (first|refine bN ?_ _|refine bD ?_|refine bA ?_ _)); exact BK357.out⟩, ⟨by repeat (first|(with_reducible first|exact HB.out|apply lA|apply lN|apply lD|refine lS ?_ GE357.out)|exact HB.out)⟩⟩
       ·rw [if_neg c16] at H
        have c16b0 : (a0_4 == 0) = false := beq_eq_false_iff_ne.mpr c16
        have c16b1 : (a0_4 != 0) = true := bne_iff_ne.mpr c16
        have H' := aM H
        clear H
        obtain ⟨hcz18_0, hcz18_1, hcz18_2, hcz18_3, hcz18_4, hcz18_5, hcz18_6, hcz18_7, hfz18_0, hfz18_1, hfz18_2, hfz18_3, hfz18_4, hfz18_5, hfz18_6, hfz18_7⟩ := bx8z BK357.out
        go_wp2
        go_meet
        case rel => exact ⟨_, (false), (by first|rfl|(simp; done)|(simp [*]; done)), H', ⟨by have := HJ4.out; first|omega|exact Nat.le_refl _⟩, ⟨by (with_reducible repeat (first|refine bN ?_ _|refine bD ?_|refine bA ?_ _)); exact BK357.out⟩, ⟨by repeat (first|(with_reducible first|exact HB.out|apply lA|apply lN|apply lD|refine lS ?_ GE357.out)|exact HB.out)⟩⟩
      ·rw [if_neg c15] at H
       have c15b0 : (a0_3 == 0) = false := beq_eq_false_iff_ne.mpr c15
       have c15b1 : (a0_3 != 0) = true := bne_iff_ne.mpr c15
       (first|rw [c15b0]|(simp only [i64_w, i32_w]; rw [c15b0])|skip)
       have H' := aM H
       clear H
       obtain ⟨hcz19_0, hcz19_1, hcz19_2, hcz19_3, hcz19_4, hcz19_5, hcz19_6, hcz19_7, hfz19_0, hfz19_1, hfz19_2, hfz19_3, hfz19_4, hfz19_5, hfz19_6, hfz19_7⟩ := bx8z BK357.out
       go_wp2
       go_meet
       case rel => exact ⟨_, (false), (by first|rfl|(simp; done)|(simp [*]; done)), H', ⟨by have := HJ4.out; first|omega|exact Nat.le_refl _⟩, ⟨by (with_reducible repeat (first|refine bN ?_ _|refine bD ?_|refine bA ?_ _)); exact BK357.out⟩, ⟨by repeat (first|(with_reducible first|exact HB.out|apply lA|apply lN|apply lD|refine lS ?_ GE357.out)|exact HB.out)⟩⟩
     case rest =>
      clear HC14
      obtain ⟨kq, x3_13, rfl, HA, HJ13, BK357, HB⟩ := hcut
      cases kq with
     |zero => exact absurd HA.out (by simp [emenderref09_Check.j1])
     |succ kj13 =>
       have H := HA.out
       clear HA
       simp only [emenderref09_Check.j1] at H
       have HC20 := aM H
       clear H
       obtain ⟨hcz21_0, hcz21_1, hcz21_2, hcz21_3, hcz21_4, hcz21_5, hcz21_6, hcz21_7, hfz21_0, hfz21_1, hfz21_2, hfz21_3, hfz21_4, hfz21_5, hfz21_6, hfz21_7⟩ := bx8z BK357.out
       go_upto_block 0 with (fail)
       go_cut [4] (fun v4 wc => ∃ (kq : Nat) (x4_19 : Bool), v4 = .bool x4_19 ∧ Aside0 (emenderref09_Check.j3 kq x4_19 a0_0 a0_1 a0_2 a0_3 a0_4 a0_5 l0_6 a0_7 = some r) ∧ Aside0 (kq ≤ kj13) ∧ Aside0 (wc.heap[gb357]? = some (.cells #[.int .i64 a0_0, .int .i64 a0_1, .int .i64 a0_2, .int .i64 a0_3, .int .i64 a0_4, .int .i64 a0_5, (.slice A0_6 l0_6.length c0_6), .int .i64 a0_7] 45 (0, 0))) ∧ Aside0 (Below w.heap.size w wc))
       case first =>
        have H := HC20.out
        clear HC20
        by_cases c22 : a0_0 = 0
        ·rw [if_pos c22] at H
         have c22b0 : (a0_0 == 0) = true := beq_iff_eq.mpr c22
         have c22b1 : (a0_0 != 0) = false := bne_eq_false_iff_eq.mpr c22
         clear c22
         (first|rw [c22b0]|(simp only [i64_w, i32_w]; rw [c22b0])|skip)
         by_cases c23 : x3_13 = true
         ·subst c23
          have H1 : (emenderref09_Check.j3 kj13 (a0_7 == 0) a0_0 a0_1 a0_2 a0_3 a0_4 a0_5 l0_6 a0_7) = some r := by rw [if_pos rfl] at H; exact H
          clear H
          have H := H1
          clear H1
          have H' := aM H
          clear H
          obtain ⟨hcz24_0, hcz24_1, hcz24_2, hcz24_3, hcz24_4, hcz24_5, hcz24_6, hcz24_7, hfz24_0, hfz24_1, hfz24_2, hfz24_3, hfz24_4, hfz24_5, hfz24_6, hfz24_7⟩ := bx8z BK357.out
          go_wp2
          go_meet
          case rel => exact ⟨_, ((a0_7 == 0)), (by first|rfl|(simp; done)|(simp [*]; done)), H', ⟨by have := HJ4.out; have := HJ13.out; first|omega|exact Nat.le_refl _⟩, ⟨by (with_reducible repeat (first|refine bN ?_ _|refine bD ?_|refine bA ?_ _)); exact BK357.out⟩, ⟨by repeat (first|(with_reducible first|exact HB.out|apply lA|apply lN|apply lD|refine lS ?_ GE357.out)|exact HB.out)⟩⟩
         ·replace c23 := Bool.eq_false_iff.mpr c23
          subst c23
          have H1 : (emenderref09_Check.j3 kj13 false a0_0 a0_1 a0_2 a0_3 a0_4 a0_5 l0_6 a0_7) = some r := by rw [if_neg (show ¬ (false = true) by decide)] at H; exact H
          clear H
          have H := H1
          clear H1
          have H' := aM H
          clear H
          go_wp2
          go_meet
          case rel => exact ⟨_, (false), (by first|rfl|(simp; done)|(simp [*]; done)), H', ⟨by have := HJ4.out; have := HJ13.out; first|omega|exact Nat.le_refl _⟩, ⟨by (with_reducible repeat (first|refine bN ?_ _|refine bD ?_|refine bA ?_ _)); exact BK357.out⟩, ⟨by repeat (first|(with_reducible first|exact HB.out|apply lA|apply lN|apply lD|refine lS ?_ GE357.out)|exact HB.out)⟩⟩
        ·rw [if_neg c22] at H
         have c22b0 : (a0_0 == 0) = false := beq_eq_false_iff_ne.mpr c22
         have c22b1 : (a0_0 != 0) = true := bne_iff_ne.mpr c22
         (first|rw [c22b0]|(simp only [i64_w, i32_w]; rw [c22b0])|skip)
         by_cases c25 : a0_0 = 1
         ·rw [if_pos c25] at H
          have c25b0 : (a0_0 == 1) = true := beq_iff_eq.mpr c25
          have c25b1 : (a0_0 != 1) = false := bne_eq_false_iff_eq.mpr c25
          clear c25
          by_cases c26 : a0_1 ≤ a0_3
          ·rw [if_pos c26] at H
           have c26b0 : decide (a0_1 ≤ a0_3) = true := decide_eq_true c26
           clear c26
           by_cases c27 : a0_3 < a0_4
           ·rw [if_pos c27] at H
            have c27b0 : decide (a0_3 < a0_4) = true := decide_eq_true c27
            clear c27
            by_cases c28 : a0_4 ≤ a0_2
            ·rw [if_pos c28] at H
             have c28b0 : decide (a0_4 ≤ a0_2) = true := decide_eq_true c28
             clear c28
             by_cases c29 : a0_5 ≥ 0
             ·rw [if_pos c29] at H
              have c29b0 : decide (0 ≤ a0_5) = true := decide_eq_true c29
              clear c29
              by_cases c30 : a0_5 ≤ (l0_6.length : Int)
              ·rw [if_pos c30] at H
               have c30b0 : decide (a0_5 ≤ (l0_6.length : Int)) = true := decide_eq_true c30
               clear c30
               have H' := aM H
               clear H
               obtain ⟨hcz31_0, hcz31_1, hcz31_2, hcz31_3, hcz31_4, hcz31_5, hcz31_6, hcz31_7, hfz31_0, hfz31_1, hfz31_2, hfz31_3, hfz31_4, hfz31_5, hfz31_6, hfz31_7⟩ := bx8z BK357.out
               go_wp2
               go_meet
               case rel => exact ⟨_, ((a0_7 == 0)), (by first|rfl|(simp; done)|(simp [*]; done)), H', ⟨by have := HJ4.out; have := HJ13.out; first|omega|exact Nat.le_refl _⟩, ⟨by (with_reducible repeat (first|refine bN ?_ _|refine bD ?_|refine bA ?_ _)); exact BK357.out⟩, ⟨by repeat (first|(with_reducible first|exact HB.out|apply lA|apply lN|apply lD|refine lS ?_ GE357.out)|exact HB.out)⟩⟩
              ·rw [if_neg c30] at H
               have c30b0 : decide (a0_5 ≤ (l0_6.length : Int)) = false := decide_eq_false c30
               clear c30
               have H' := aM H
               clear H
               obtain ⟨hcz32_0, hcz32_1, hcz32_2, hcz32_3, hcz32_4, hcz32_5, hcz32_6, hcz32_7, hfz32_0, hfz32_1, hfz32_2, hfz32_3, hfz32_4, hfz32_5, hfz32_6, hfz32_7⟩ := bx8z BK357.out
               go_wp2
               go_meet
               case rel => exact ⟨_, (false), (by first|rfl|(simp; done)|(simp [*]; done)), H', ⟨by have := HJ4.out; have := HJ13.out; first|omega|exact Nat.le_refl _⟩, ⟨by (with_reducible repeat (first|refine bN ?_ _|refine bD ?_|refine bA ?_ _)); exact BK357.out⟩, ⟨by repeat (first|(with_reducible first|exact HB.out|apply lA|apply lN|apply lD|refine lS ?_ GE357.out)|exact HB.out)⟩⟩
             ·rw [if_neg c29] at H
              have c29b0 : decide (0 ≤ a0_5) = false := decide_eq_false c29
              clear c29
              have H' := aM H
              clear H
              obtain ⟨hcz33_0, hcz33_1, hcz33_2, hcz33_3, hcz33_4, hcz33_5, hcz33_6, hcz33_7, hfz33_0, hfz33_1, hfz33_2, hfz33_3, hfz33_4, hfz33_5, hfz33_6, hfz33_7⟩ := bx8z BK357.out
              go_wp2
              go_meet
              case rel => exact ⟨_, (false), (by first|rfl|(simp; done)|(simp [*]; done)), H', ⟨by have := HJ4.out; have := HJ13.out; first|omega|exact Nat.le_refl _⟩, ⟨by (with_reducible repeat (first|refine bN ?_ _|refine bD ?_|refine bA ?_ _)); exact BK357.out⟩, ⟨by repeat (first|(with_reducible first|exact HB.out|apply lA|apply lN|apply lD|refine lS ?_ GE357.out)|exact HB.out)⟩⟩
            ·rw [if_neg c28] at H
             have c28b0 : decide (a0_4 ≤ a0_2) = false := decide_eq_false c28
             clear c28
             have H' := aM H
             clear H
             obtain ⟨hcz34_0, hcz34_1, hcz34_2, hcz34_3, hcz34_4, hcz34_5, hcz34_6, hcz34_7, hfz34_0, hfz34_1, hfz34_2, hfz34_3, hfz34_4, hfz34_5, hfz34_6, hfz34_7⟩ := bx8z BK357.out
             go_wp2
             go_meet
             case rel => exact ⟨_, (false), (by first|rfl|(simp; done)|(simp [*]; done)), H', ⟨by have := HJ4.out; have := HJ13.out; first|omega|exact Nat.le_refl _⟩, ⟨by (with_reducible repeat (first|refine bN ?_ _|refine bD ?_|refine bA ?_ _)); exact BK357.out⟩, ⟨by repeat (first|(with_reducible first|exact HB.out|apply lA|apply lN|apply lD|refine lS ?_ GE357.out)|exact HB.out)⟩⟩
           ·rw [if_neg c27] at H
            have c27b0 : decide (a0_3 < a0_4) = false := decide_eq_false c27
            clear c27
            have H' := aM H
            clear H
            obtain ⟨hcz35_0, hcz35_1, hcz35_2, hcz35_3, hcz35_4, hcz35_5, hcz35_6, hcz35_7, hfz35_0, hfz35_1, hfz35_2, hfz35_3, hfz35_4, hfz35_5, hfz35_6, hfz35_7⟩ := bx8z BK357.out
            go_wp2
            go_meet
            case rel => exact ⟨_, (false), (by first|rfl|(simp; done)|(simp [*]; done)), H', ⟨by have := HJ4.out; have := HJ13.out; first|omega|exact Nat.le_refl _⟩, ⟨by (with_reducible repeat (first|refine bN ?_ _|refine bD ?_|refine bA ?_ _)); exact BK357.out⟩, ⟨by repeat (first|(with_reducible first|exact HB.out|apply lA|apply lN|apply lD|refine lS ?_ GE357.out)|exact HB.out)⟩⟩
          ·rw [if_neg c26] at H
           have c26b0 : decide (a0_1 ≤ a0_3) = false := decide_eq_false c26
           clear c26
           have H' := aM H
           clear H
           obtain ⟨hcz36_0, hcz36_1, hcz36_2, hcz36_3, hcz36_4, hcz36_5, hcz36_6, hcz36_7, hfz36_0, hfz36_1, hfz36_2, hfz36_3, hfz36_4, hfz36_5, hfz36_6, hfz36_7⟩ := bx8z BK357.out
           go_wp2
           go_meet
           case rel => exact ⟨_, (false), (by first|rfl|(simp; done)|(simp [*]; done)), H', ⟨by have := HJ4.out; have := HJ13.out; first|omega|exact Nat.le_refl _⟩, ⟨by (with_reducible repeat (first|refine bN ?_ _|refine bD ?_|refine bA ?_ _)); exact BK357.out⟩, ⟨by repeat (first|(with_reducible first|exact HB.out|apply lA|apply lN|apply lD|refine lS ?_ GE357.out)|exact HB.out)⟩⟩
         ·rw [if_neg c25] at H
          have c25b0 : (a0_0 == 1) = false := beq_eq_false_iff_ne.mpr c25
          have c25b1 : (a0_0 != 1) = true := bne_iff_ne.mpr c25
          have HC37 := aM H
          clear H
          go_upto_if 87 with (fail)
          go_cut [87] (fun v87 wc => ∃ (kq : Nat) (x87_36 : Bool), v87 = .bool x87_36 ∧ Aside0 (emenderref09_Check.j2 kq x3_13 x87_36 a0_0 a0_1 a0_2 a0_3 a0_4 a0_5 l0_6 a0_7 = some r) ∧ Aside0 (kq ≤ kj13) ∧ Aside0 (wc.heap[gb357]? = some (.cells #[.int .i64 a0_0, .int .i64 a0_1, .int .i64 a0_2, .int .i64 a0_3, .int .i64 a0_4, .int .i64 a0_5, (.slice A0_6 l0_6.length c0_6), .int .i64 a0_7] 45 (0, 0))) ∧ Aside0 (Below w.heap.size w wc))
          case first =>
           have H := HC37.out
           clear HC37
           by_cases c38 : a0_0 = 2
           ·rw [if_pos c38] at H
            have c38b0 : (a0_0 == 2) = true := beq_iff_eq.mpr c38
            have c38b1 : (a0_0 != 2) = false := bne_eq_false_iff_eq.mpr c38
            clear c38
            (first|rw [c38b0]|(simp only [i64_w, i32_w]; rw [c38b0])|skip)
            have H' := aM H
            clear H
            go_wp2
            go_meet
            case rel => exact ⟨_, ((a0_0 == 2)), (by first|rfl|(simp; done)|(simp [*]; done)), H', ⟨by have := HJ4.out; have := HJ13.out; first|omega|exact Nat.le_refl _⟩, ⟨by (with_reducible repeat (first|refine bN ?_ _|refine bD ?_|refine bA ?_ _)); exact BK357.out⟩, ⟨by repeat (first|(with_reducible first|exact HB.out|apply lA|apply lN|apply lD|refine lS ?_ GE357.out)|exact HB.out)⟩⟩
           ·rw [if_neg c38] at H
            have c38b0 : (a0_0 == 2) = false := beq_eq_false_iff_ne.mpr c38
            have c38b1 : (a0_0 != 2) = true := bne_iff_ne.mpr c38
            (first|rw [c38b0]|(simp only [i64_w, i32_w]; rw [c38b0])|skip)
            have H' := aM H
            clear H
            go_wp2
            go_meet
            case rel => exact ⟨_, ((a0_0 == 3)), (by first|rfl|(simp; done)|(simp [*]; done)), H', ⟨by have := HJ4.out; have := HJ13.out; first|omega|exact Nat.le_refl _⟩, ⟨by (with_reducible repeat (first|refine bN ?_ _|refine bD ?_|refine bA ?_ _)); exact BK357.out⟩, ⟨by repeat (first|(with_reducible first|exact HB.out|apply lA|apply lN|apply lD|refine lS ?_ GE357.out)|exact HB.out)⟩⟩
          case rest =>
           clear HC37
           obtain ⟨kq, x87_36, rfl, HA, HJ36, BK357, HB⟩ := hcut
           cases kq with
          |zero => exact absurd HA.out (by simp [emenderref09_Check.j2])
          |succ kj36 =>
            have H := HA.out
            clear HA
            simp only [emenderref09_Check.j2] at H
            by_cases c39 : x87_36 = true
            ·subst c39
             have H1 : (if x3_13 = true then (if a0_1 < a0_2 then (if (l0_6.length : Int) = 0 then (if a0_7 = 1 then (emenderref09_Check.j3 kj36 true a0_0 a0_1 a0_2 a0_3 a0_4 a0_5 l0_6 a0_7) else (if a0_7 = 2 then (emenderref09_Check.j3 kj36 true a0_0 a0_1 a0_2 a0_3 a0_4 a0_5 l0_6 a0_7) else (emenderref09_Check.j3 kj36 (a0_7 == 4) a0_0 a0_1 a0_2 a0_3 a0_4 a0_5 l0_6 a0_7))) else (emenderref09_Check.j3 kj36 false a0_0 a0_1 a0_2 a0_3 a0_4 a0_5 l0_6 a0_7)) else (emenderref09_Check.j3 kj36 false a0_0 a0_1 a0_2 a0_3 a0_4 a0_5 l0_6 a0_7)) else (emenderref09_Check.j3 kj36 false a0_0 a0_1 a0_2 a0_3 a0_4 a0_5 l0_6 a0_7)) = some r := by rw [if_pos rfl] at H; exact H
             clear H
             have H := H1
             clear H1
             by_cases c40 : x3_13 = true
             ·subst c40
              have H1 : (if a0_1 < a0_2 then (if (l0_6.length : Int) = 0 then (if a0_7 = 1 then (emenderref09_Check.j3 kj36 true a0_0 a0_1 a0_2 a0_3 a0_4 a0_5 l0_6 a0_7) else (if a0_7 = 2 then (emenderref09_Check.j3 kj36 true a0_0 a0_1 a0_2 a0_3 a0_4 a0_5 l0_6 a0_7) else (emenderref09_Check.j3 kj36 (a0_7 == 4) a0_0 a0_1 a0_2 a0_3 a0_4 a0_5 l0_6 a0_7))) else (emenderref09_Check.j3 kj36 false a0_0 a0_1 a0_2 a0_3 a0_4 a0_5 l0_6 a0_7)) else (emenderref09_Check.j3 kj36 false a0_0 a0_1 a0_2 a0_3 a0_4 a0_5 l0_6 a0_7)) = some r := by rw [if_pos rfl] at H; exact H
              clear H
              have H := H1
              clear H1
              by_cases c41 : a0_1 < a0_2
              ·rw [if_pos c41] at H
               have c41b0 : decide (a0_1 < a0_2) = true := decide_eq_true c41
               clear c41
               by_cases c42 : (l0_6.length : Int) = 0
               ·rw [if_pos c42] at H
                have c42b0 : ((l0_6.length : Int) == 0) = true := beq_iff_eq.mpr c42
                have c42b1 : ((l0_6.length : Int) != 0) = false := bne_eq_false_iff_eq.mpr c42
                clear c42
                by_cases c43 : a0_7 = 1
                ·rw [if_pos c43] at H
                 have c43b0 : (a0_7 == 1) = true := beq_iff_eq.mpr c43
                 have c43b1 : (a0_7 != 1) = false := bne_eq_false_iff_eq.mpr c43
                 clear c43
                 have H' := aM H
                 clear H
                 obtain ⟨hcz44_0, hcz44_1, hcz44_2, hcz44_3, hcz44_4, hcz44_5, hcz44_6, hcz44_7, hfz44_0, hfz44_1, hfz44_2, hfz44_3, hfz44_4, hfz44_5, hfz44_6, hfz44_7⟩ := bx8z BK357.out
                 go_wp2
                 go_meet
                 case rel => exact ⟨_, (true), (by first|rfl|(simp; done)|(simp [*]; done)), H', ⟨by have := HJ4.out; have := HJ13.out; have := HJ36.out; first|omega|exact Nat.le_refl _⟩, ⟨by (with_reducible repeat (first|refine bN ?_ _|refine bD ?_|refine bA ?_ _)); exact BK357.out⟩, ⟨by repeat (first|(with_reducible first|exact HB.out|apply lA|apply lN|apply lD|refine lS ?_ GE357.out)|exact HB.out)⟩⟩
                ·rw [if_neg c43] at H
                 have c43b0 : (a0_7 == 1) = false := beq_eq_false_iff_ne.mpr c43
                 have c43b1 : (a0_7 != 1) = true := bne_iff_ne.mpr c43
                 by_cases c45 : a0_7 = 2
                 ·rw [if_pos c45] at H
                  have c45b0 : (a0_7 == 2) = true := beq_iff_eq.mpr c45
                  have c45b1 : (a0_7 != 2) = false := bne_eq_false_iff_eq.mpr c45
                  clear c45
                  have H' := aM H
                  clear H
                  obtain ⟨hcz46_0, hcz46_1, hcz46_2, hcz46_3, hcz46_4, hcz46_5, hcz46_6, hcz46_7, hfz46_0, hfz46_1, hfz46_2, hfz46_3, hfz46_4, hfz46_5, hfz46_6, hfz46_7⟩ := bx8z BK357.out
                  go_wp2
                  go_meet
                  case rel => exact ⟨_, (true), (by first|rfl|(simp; done)|(simp [*]; done)), H', ⟨by have := HJ4.out; have := HJ13.out; have := HJ36.out; first|omega|exact Nat.le_refl _⟩, ⟨by (with_reducible repeat (first|refine bN ?_ _|refine bD ?_|refine bA ?_ _)); exact BK357.out⟩, ⟨by repeat (first|(with_reducible first|exact HB.out|apply lA|apply lN|apply lD|refine lS ?_ GE357.out)|exact HB.out)⟩⟩
                 ·rw [if_neg c45] at H
                  have c45b0 : (a0_7 == 2) = false := beq_eq_false_iff_ne.mpr c45
                  have c45b1 : (a0_7 != 2) = true := bne_iff_ne.mpr c45
                  have H' := aM H
                  clear H
                  obtain ⟨hcz47_0, hcz47_1, hcz47_2, hcz47_3, hcz47_4, hcz47_5, hcz47_6, hcz47_7, hfz47_0, hfz47_1, hfz47_2, hfz47_3, hfz47_4, hfz47_5, hfz47_6, hfz47_7⟩ := bx8z BK357.out
                  go_wp2
                  go_meet
                  case rel => exact ⟨_, ((a0_7 == 4)), (by first|rfl|(simp; done)|(simp [*]; done)), H', ⟨by have := HJ4.out; have := HJ13.out; have := HJ36.out; first|omega|exact Nat.le_refl _⟩, ⟨by (with_reducible repeat (first|refine bN ?_ _|refine bD ?_|refine bA ?_ _)); exact BK357.out⟩, ⟨by repeat (first|(with_reducible first|exact HB.out|apply lA|apply lN|apply lD|refine lS ?_ GE357.out)|exact HB.out)⟩⟩
               ·rw [if_neg c42] at H
                have c42b0 : ((l0_6.length : Int) == 0) = false := beq_eq_false_iff_ne.mpr c42
                have c42b1 : ((l0_6.length : Int) != 0) = true := bne_iff_ne.mpr c42
                have c42b2 : ¬ (l0_6 = []) := fun h_ => c42 (by rw [h_]; rfl)
                have H' := aM H
                clear H
                obtain ⟨hcz48_0, hcz48_1, hcz48_2, hcz48_3, hcz48_4, hcz48_5, hcz48_6, hcz48_7, hfz48_0, hfz48_1, hfz48_2, hfz48_3, hfz48_4, hfz48_5, hfz48_6, hfz48_7⟩ := bx8z BK357.out
                go_wp2
                go_meet
                case rel => exact ⟨_, (false), (by first|rfl|(simp; done)|(simp [*]; done)), H', ⟨by have := HJ4.out; have := HJ13.out; have := HJ36.out; first|omega|exact Nat.le_refl _⟩, ⟨by (with_reducible repeat (first|refine bN ?_ _|refine bD ?_|refine bA ?_ _)); exact BK357.out⟩, ⟨by repeat (first|(with_reducible first|exact HB.out|apply lA|apply lN|apply lD|refine lS ?_ GE357.out)|exact HB.out)⟩⟩
              ·rw [if_neg c41] at H
               have c41b0 : decide (a0_1 < a0_2) = false := decide_eq_false c41
               clear c41
               have H' := aM H
               clear H
               obtain ⟨hcz49_0, hcz49_1, hcz49_2, hcz49_3, hcz49_4, hcz49_5, hcz49_6, hcz49_7, hfz49_0, hfz49_1, hfz49_2, hfz49_3, hfz49_4, hfz49_5, hfz49_6, hfz49_7⟩ := bx8z BK357.out
               go_wp2
               go_meet
               case rel => exact ⟨_, (false), (by first|rfl|(simp; done)|(simp [*]; done)), H', ⟨by have := HJ4.out; have := HJ13.out; have := HJ36.out; first|omega|exact Nat.le_refl _⟩, ⟨by (with_reducible repeat (first|refine bN ?_ _|refine bD ?_|refine bA ?_ _)); exact BK357.out⟩, ⟨by repeat (first|(with_reducible first|exact HB.out|apply lA|apply lN|apply lD|refine lS ?_ GE357.out)|exact HB.out)⟩⟩
             ·replace c40 := Bool.eq_false_iff.mpr c40
              subst c40
              have H1 : (emenderref09_Check.j3 kj36 false a0_0 a0_1 a0_2 a0_3 a0_4 a0_5 l0_6 a0_7) = some r := by rw [if_neg (show ¬ (false = true) by decide)] at H; exact H
              clear H
              have H := H1
              clear H1
              have H' := aM H
              clear H
              go_wp2
              go_meet
              case rel => exact ⟨_, (false), (by first|rfl|(simp; done)|(simp [*]; done)), H', ⟨by have := HJ4.out; have := HJ13.out; have := HJ36.out; first|omega|exact Nat.le_refl _⟩, ⟨by (with_reducible repeat (first|refine bN ?_ _|refine bD ?_|refine bA ?_ _)); exact BK357.out⟩, ⟨by repeat (first|(with_reducible first|exact HB.out|apply lA|apply lN|apply lD|refine lS ?_ GE357.out)|exact HB.out)⟩⟩
            ·replace c39 := Bool.eq_false_iff.mpr c39
             subst c39
             have H1 : (emenderref09_Check.j3 kj36 false a0_0 a0_1 a0_2 a0_3 a0_4 a0_5 l0_6 a0_7) = some r := by rw [if_neg (show ¬ (false = true) by decide)] at H; exact H
             clear H
             have H := H1
             clear H1
             have H' := aM H
             clear H
             go_wp2
             go_meet
             case rel => exact ⟨_, (false), (by first|rfl|(simp; done)|(simp [*]; done)), H', ⟨by have := HJ4.out; have := HJ13.out; have := HJ36.out; first|omega|exact Nat.le_refl _⟩, ⟨by (with_reducible repeat (first|refine bN ?_ _|refine bD ?_|refine bA ?_ _)); exact BK357.out⟩, ⟨by repeat (first|(with_reducible first|exact HB.out|apply lA|apply lN|apply lD|refine lS ?_ GE357.out)|exact HB.out)⟩⟩
       case rest =>
        clear HC20
        obtain ⟨kq, x4_19, rfl, HA, HJ19, BK357, HB⟩ := hcut
        cases kq with
       |zero => exact absurd HA.out (by simp [emenderref09_Check.j3])
       |succ kj19 =>
         have H := HA.out
         clear HA
         simp only [emenderref09_Check.j3] at H
         have H' := aM H
         clear H
         go_wp2
         go_loopg [4, 5] kj19 (fun kq v4 v5 w' => ∃ (x4_4 : Bool) (x5_4 : Int), v4 = .bool x4_4 ∧ v5 = .int .i64 x5_4 ∧ Aside0 (emenderref09_Check.l0 kq x4_4 x5_4 a0_0 a0_1 a0_2 a0_3 a0_4 a0_5 l0_6 a0_7 = some r) ∧ Aside0 (kq ≤ kj19) ∧ Aside0 (w'.heap[gb357]? = some (.cells #[.int .i64 a0_0, .int .i64 a0_1, .int .i64 a0_2, .int .i64 a0_3, .int .i64 a0_4, .int .i64 a0_5, (.slice A0_6 l0_6.length c0_6), .int .i64 a0_7] 45 (0, 0))) ∧ Aside0 (Below w.heap.size w w'))
         case atStart => exact ⟨(x4_19), (0), (by first|rfl|(simp; done)|(simp [*]; done)), (by first|rfl|(simp; done)|(simp [*]; done)), H', ⟨Nat.le_refl _⟩, ⟨by (with_reducible repeat (first|refine bN ?_ _|refine bD ?_|refine bA ?_ _)); exact BK357.out⟩, ⟨by repeat (first|(with_reducible first|exact HB.out|apply lA|apply lN|apply lD|refine lS ?_ GE357.out)|exact HB.out)⟩⟩
         case round =>
          clear H'
          obtain ⟨x4_4, x5_4, rfl, rfl, HA, HK4, BK357, HB⟩ := hrel
          cases gk with
         |zero => exact absurd HA.out (by simp [emenderref09_Check.l0])
         |succ k4 =>
           have H := HA.out
           clear HA
           simp only [emenderref09_Check.l0] at H
           by_cases c50 : x5_4 < (l0_6.length : Int)
           ·rw [if_pos c50] at H
            have c50b0 : decide (x5_4 < (l0_6.length : Int)) = true := decide_eq_true c50
            clear c50
            by_cases c51 : x4_4 = true
            ·subst c51
             have H1 : (if 0 ≤ x5_4 then ((emenderref04_Right.f k4 ((rd_T48 l0_6 x5_4).f0) ((rd_T48 l0_6 x5_4).f1) ((rd_T48 l0_6 x5_4).f2) ((rd_T48 l0_6 x5_4).f3)).bind fun t359 => (emenderref09_Check.l0 k4 t359 (wrap64 (x5_4 + 1)) a0_0 a0_1 a0_2 a0_3 a0_4 a0_5 l0_6 a0_7)) else (none)) = some r := by rw [if_pos rfl] at H; exact H
             clear H
             have H := H1
             clear H1
             replace H := ifS H; obtain ⟨c52, H⟩ := H
             have c52b0 : decide (0 ≤ x5_4) = true := decide_eq_true c52
             clear c52
             replace H := Option.bind_eq_some_iff.mp H
             obtain ⟨t359, A530, H⟩ := H
             replace H : (emenderref09_Check.l0 k4 t359 (wrap64 (x5_4 + 1)) a0_0 a0_1 a0_2 a0_3 a0_4 a0_5 l0_6 a0_7) = some r := H
             have A53 := aM A530
             clear A530
             have H' := aM H
             clear H
             obtain ⟨hcz54_0, hcz54_1, hcz54_2, hcz54_3, hcz54_4, hcz54_5, hcz54_6, hcz54_7, hfz54_0, hfz54_1, hfz54_2, hfz54_3, hfz54_4, hfz54_5, hfz54_6, hfz54_7⟩ := bx8z BK357.out
             have p358 : 0 ≤ (x5_4 : Int) := of_decide_eq_true (by assumption)
             have q358 : x5_4 < (l0_6.length : Int) := of_decide_eq_true (by assumption)
             obtain ⟨ad358, e358, hx358_0, hx358_1, hx358_2, hx358_3⟩ := at_T48 HR0_6.out x5_4 p358 q358
             cases e358
             replace hx358_0 := cB HB.out hx358_0
             replace hx358_1 := cB HB.out hx358_1
             replace hx358_2 := cB HB.out hx358_2
             replace hx358_3 := cB HB.out hx358_3
             replace p358 := eq_true p358
             replace q358 := eq_true q358
             go_wp2_with (first|(go_at_call 40; (with_reducible refine (emenderref04_Right.calls k4 ((rd_T48 l0_6 x5_4).f0) ((rd_T48 l0_6 x5_4).f1) ((rd_T48 l0_6 x5_4).f2) ((rd_T48 l0_6 x5_4).f3) t359 _ A53.out).mono ?_); rintro e w55 ⟨rfl, hb⟩; replace BK357 := aM (blk_below (by (with_reducible repeat (first|refine bN ?_ _|refine bD ?_|refine bA ?_ _)); exact BK357.out) hb); replace HB := aM (below_step (by repeat (first|(with_reducible first|exact HB.out|apply lA|apply lN|apply lD|refine lS ?_ GE357.out)|exact HB.out)) hb); (try clear hb); (try clear hb2); (try clear hk); (try clear hi)))
             go_roundg k4
             case measure => have := HJ4.out; have := HJ13.out; have := HJ19.out; have := HK4.out; omega
             case rel => exact ⟨(t359), (wrap64 (x5_4 + 1)), (by first|rfl|(simp; done)|(simp [*]; done)), (by first|rfl|(simp; done)|(simp [*]; done)), H', ⟨by have := HJ4.out; have := HJ13.out; have := HJ19.out; have := HK4.out; omega⟩, ⟨by (with_reducible repeat (first|refine bN ?_ _|refine bD ?_|refine bA ?_ _)); exact BK357.out⟩, ⟨by repeat (first|(with_reducible first|exact HB.out|apply lA|apply lN|apply lD|refine lS ?_ GE357.out)|exact HB.out)⟩⟩
            ·replace c51 := Bool.eq_false_iff.mpr c51
             subst c51
             have H1 : (emenderref09_Check.l0 k4 false (wrap64 (x5_4 + 1)) a0_0 a0_1 a0_2 a0_3 a0_4 a0_5 l0_6 a0_7) = some r := by rw [if_neg (show ¬ (false = true) by decide)] at H; exact H
             clear H
             have H := H1
             clear H1
             have H' := aM H
             clear H
             obtain ⟨hcz56_0, hcz56_1, hcz56_2, hcz56_3, hcz56_4, hcz56_5, hcz56_6, hcz56_7, hfz56_0, hfz56_1, hfz56_2, hfz56_3, hfz56_4, hfz56_5, hfz56_6, hfz56_7⟩ := bx8z BK357.out
             go_wp2
             go_roundg k4
             case measure => have := HJ4.out; have := HJ13.out; have := HJ19.out; have := HK4.out; omega
             case rel => exact ⟨(false), (wrap64 (x5_4 + 1)), (by first|rfl|(simp; done)|(simp [*]; done)), (by first|rfl|(simp; done)|(simp [*]; done)), H', ⟨by have := HJ4.out; have := HJ13.out; have := HJ19.out; have := HK4.out; omega⟩, ⟨by (with_reducible repeat (first|refine bN ?_ _|refine bD ?_|refine bA ?_ _)); exact BK357.out⟩, ⟨by repeat (first|(with_reducible first|exact HB.out|apply lA|apply lN|apply lD|refine lS ?_ GE357.out)|exact HB.out)⟩⟩
           ·rw [if_neg c50] at H
            have c50b0 : decide (x5_4 < (l0_6.length : Int)) = false := decide_eq_false c50
            clear c50
            by_cases c57 : x4_4 = true
            ·subst c57
             have H1 : (some 0) = some r := by rw [if_pos rfl] at H; exact H
             clear H
             have H := H1
             clear H1
             obtain rfl := Option.some.inj H
             obtain ⟨hcz58_0, hcz58_1, hcz58_2, hcz58_3, hcz58_4, hcz58_5, hcz58_6, hcz58_7, hfz58_0, hfz58_1, hfz58_2, hfz58_3, hfz58_4, hfz58_5, hfz58_6, hfz58_7⟩ := bx8z BK357.out
             go_wp2
             go_ret
             exact ⟨by first|rfl|(simp [errW_none, errW_some] <;> rfl)|(simp [*, errW_none, errW_some] <;> rfl), by repeat (first|(with_reducible first|exact HB.out|apply lA|apply lN|apply lD|refine lS ?_ GE357.out)|exact HB.out)⟩
            ·replace c57 := Bool.eq_false_iff.mpr c57
             subst c57
             have H1 : (some 1) = some r := by rw [if_neg (show ¬ (false = true) by decide)] at H; exact H
             clear H
             have H := H1
             clear H1
             obtain rfl := Option.some.inj H
             obtain ⟨hcz59_0, hcz59_1, hcz59_2, hcz59_3, hcz59_4, hcz59_5, hcz59_6, hcz59_7, hfz59_0, hfz59_1, hfz59_2, hfz59_3, hfz59_4, hfz59_5, hfz59_6, hfz59_7⟩ := bx8z BK357.out
             go_wp2
             go_ret
             exact ⟨by first|rfl|(simp [errW_none, errW_some] <;> rfl)|(simp [*, errW_none, errW_some] <;> rfl), by repeat (first|(with_reducible first|exact HB.out|apply lA|apply lN|apply lD|refine lS ?_ GE357.out)|exact HB.out)⟩
end Go.Proofs.YtfcfomconcoimaaDoor.PFa
