-- Written for this claim by a program (printed texts under one roof).
import Derived.Test.YtjpmlggkhhoooaaPDqx0
-- Written for this claim by a program (the kit's print, with hand-made contracts for what it does not take).
namespace Go.Proofs.Ytjpmlggkhhoooaa.PDq
open Go.RowKit Go.Proofs.YtjpmlggkhhoooaaW.PrintWords Go.Proofs.YtjpmlggkhhoooaaW.PrintLast Go.Proofs.YtjpmlggkhhoooaaW.PrintMore
attribute [local go_sem] max2_int min2_int max_two min_two max_three min_three max_four min_four   -- for this text's walks alone
set_option linter.unusedVariables false
set_option linter.unusedSimpArgs false

mutual
def emenderref23_table.l0 : Nat → List (List Bool) → Int → Int → List (List Int) → Int → Option ((List (List Int)))
|0, _, _, _, _, _ => none
|k + 1, x0, x1, x2, x7, x8 => if x8 ≤ x1 then (if 0 ≤ (wrap64 (x2 + 1)) then (if (wrap64 (x2 + 1) : Int).toNat ≤ 35184372088832 then (if 0 ≤ x8 then (if x8 < (x7.length : Int) then (emenderref23_table.l0 k x0 x1 x2 (x7.set (x8 : Int).toNat (List.replicate (wrap64 (x2 + 1) : Int).toNat 0)) (wrap64 (x8 + 1))) else (none)) else (none)) else (none)) else (none)) else (emenderref23_table.l1 k x0 x2 x7 (wrap64 (x1 - 1)))
def emenderref23_table.l1 : Nat → List (List Bool) → Int → List (List Int) → Int → Option ((List (List Int)))
|0, _, _, _, _ => none
|k + 1, x0, x2, x7, x9 => if x9 ≥ 0 then (emenderref23_table.l2 k x0 x2 x7 x9 (wrap64 (x2 - 1))) else (some x7)
def emenderref23_table.l2 : Nat → List (List Bool) → Int → List (List Int) → Int → Int → Option ((List (List Int)))
|0, _, _, _, _, _ => none
|k + 1, x0, x2, x7, x9, x10 => if x10 ≥ 0 then (if 0 ≤ x9 then (if x9 < (x7.length : Int) then (if 0 ≤ (wrap64 (x9 + 1)) then (if (wrap64 (x9 + 1)) < (x7.length : Int) then (if 0 ≤ x10 then (if x10 < ((rd_L10 x7 (wrap64 (x9 + 1))).length : Int) then (if 0 ≤ (wrap64 (x10 + 1)) then (if (wrap64 (x10 + 1)) < ((rd_L10 x7 x9).length : Int) then (if x10 < ((rd_L10 x7 x9).length : Int) then ((some (x7.set (x9 : Int).toNat ((rd_L10 x7 x9).set (x10 : Int).toNat (mx (rd (rd_L10 x7 (wrap64 (x9 + 1))) x10) (rd (rd_L10 x7 x9) (wrap64 (x10 + 1))))) : List (List Int))).bind fun y304 => (if x9 < (x0.length : Int) then (if x10 < ((rd_L12 x0 x9).length : Int) then (if rdOf false (rd_L12 x0 x9) x10 = true then (if x10 < ((rd_L10 y304 x9).length : Int) then (if (wrap64 (x10 + 1)) < ((rd_L10 y304 (wrap64 (x9 + 1))).length : Int) then (emenderref23_table.l2 k x0 x2 (y304.set (x9 : Int).toNat ((rd_L10 y304 x9).set (x10 : Int).toNat (mx (rd (rd_L10 y304 x9) x10) (wrap64 (1 + (rd (rd_L10 y304 (wrap64 (x9 + 1))) (wrap64 (x10 + 1)))))))) x9 (wrap64 (x10 - 1))) else (none)) else (none)) else (emenderref23_table.l2 k x0 x2 y304 x9 (wrap64 (x10 - 1)))) else (none)) else (none))) else (none)) else (none)) else (none)) else (none)) else (none)) else (none)) else (none)) else (none)) else (none)) else (emenderref23_table.l1 k x0 x2 x7 (wrap64 (x9 - 1)))
end
def emenderref23_table.f (k : Nat) (l0 : List (List Bool)) (a1 : Int) (a2 : Int) : Option ((List (List Int))) := if 0 ≤ (wrap64 (a1 + 1)) then (if (wrap64 (a1 + 1) : Int).toNat ≤ 11728124029610 then (emenderref23_table.l0 k l0 a1 a2 (List.replicate (wrap64 (a1 + 1) : Int).toNat []) 0) else (none)) else (none)
theorem emenderref23_table.mono_l : ∀ k, (∀ y0 y1 y2 y3 y4, LeO (emenderref23_table.l0 k y0 y1 y2 y3 y4) (emenderref23_table.l0 (k + 1) y0 y1 y2 y3 y4)) ∧ (∀ y0 y1 y2 y3, LeO (emenderref23_table.l1 k y0 y1 y2 y3) (emenderref23_table.l1 (k + 1) y0 y1 y2 y3)) ∧ (∀ y0 y1 y2 y3 y4, LeO (emenderref23_table.l2 k y0 y1 y2 y3 y4) (emenderref23_table.l2 (k + 1) y0 y1 y2 y3 y4))
|0 => ⟨fun _ _ _ _ _ r h => by simp [emenderref23_table.l0] at h, fun _ _ _ _ r h => by simp [emenderref23_table.l1] at h, fun _ _ _ _ _ r h => by simp [emenderref23_table.l2] at h⟩
|k + 1 => by
  obtain ⟨ih0, ih1, ih2⟩ := emenderref23_table.mono_l k
  refine ⟨?_, ?_, ?_⟩
  ·intro y0 y1 y2 y3 y4
   unfold emenderref23_table.l0
   repeat' first
  |(with_reducible exact ih0 _ _ _ _ _)
  |(with_reducible exact ih1 _ _ _ _)
  |(with_reducible exact ih2 _ _ _ _ _)
  |(with_reducible exact LeO.refl _)
  |(with_reducible exact LeO.none _)
  |(with_reducible refine LeO.ite ?_ ?_)
  |(with_reducible refine LeO.bind ?_ (fun _ => ?_))
  |exact ih0 _ _ _ _ _
  |exact ih1 _ _ _ _
  |exact ih2 _ _ _ _ _
  |exact LeO.none _
  |refine LeO.ite ?_ ?_
  |refine LeO.bind ?_ (fun _ => ?_)
  ·intro y0 y1 y2 y3
   unfold emenderref23_table.l1
   repeat' first
  |(with_reducible exact ih0 _ _ _ _ _)
  |(with_reducible exact ih1 _ _ _ _)
  |(with_reducible exact ih2 _ _ _ _ _)
  |(with_reducible exact LeO.refl _)
  |(with_reducible exact LeO.none _)
  |(with_reducible refine LeO.ite ?_ ?_)
  |(with_reducible refine LeO.bind ?_ (fun _ => ?_))
  |exact ih0 _ _ _ _ _
  |exact ih1 _ _ _ _
  |exact ih2 _ _ _ _ _
  |exact LeO.none _
  |refine LeO.ite ?_ ?_
  |refine LeO.bind ?_ (fun _ => ?_)
  ·intro y0 y1 y2 y3 y4
   unfold emenderref23_table.l2
   repeat' first
  |(with_reducible exact ih0 _ _ _ _ _)
  |(with_reducible exact ih1 _ _ _ _)
  |(with_reducible exact ih2 _ _ _ _ _)
  |(with_reducible exact LeO.refl _)
  |(with_reducible exact LeO.none _)
  |(with_reducible refine LeO.ite ?_ ?_)
  |(with_reducible refine LeO.bind ?_ (fun _ => ?_))
  |exact ih0 _ _ _ _ _
  |exact ih1 _ _ _ _
  |exact ih2 _ _ _ _ _
  |exact LeO.none _
  |refine LeO.ite ?_ ?_
  |refine LeO.bind ?_ (fun _ => ?_)
theorem emenderref23_table.mono : ∀ a0 a1 a2 k, LeO (emenderref23_table.f k a0 a1 a2) (emenderref23_table.f (k + 1) a0 a1 a2) := by
 intro a0 a1 a2 k
 obtain ⟨ih0, ih1, ih2⟩ := emenderref23_table.mono_l k
 unfold emenderref23_table.f
 repeat' first
  |(with_reducible exact ih0 _ _ _ _ _)
  |(with_reducible exact ih1 _ _ _ _)
  |(with_reducible exact ih2 _ _ _ _ _)
  |(with_reducible exact LeO.refl _)
  |(with_reducible exact LeO.none _)
  |(with_reducible refine LeO.ite ?_ ?_)
  |(with_reducible refine LeO.bind ?_ (fun _ => ?_))
  |exact ih0 _ _ _ _ _
  |exact ih1 _ _ _ _
  |exact ih2 _ _ _ _ _
  |exact LeO.none _
  |refine LeO.ite ?_ ?_
  |refine LeO.bind ?_ (fun _ => ?_)
def emenderref23_table.T12 : Bool × List (List Nat × List Nat) := (true, [([], []), ([], []), ([0, 1], [0, 1]), ([2], [2]), ([], []), ([], []), ([], []), ([6], [6]), ([5, 7], [5, 7]), ([8], [8]), ([], []), ([9, 10], [9, 10]), ([11], [11]), ([], []), ([], []), ([13, 14], [13, 14]), ([15], [15]), ([], []), ([17], [17]), ([16, 18], [16, 18]), ([19], [19]), ([12, 20], [12, 20]), ([3, 4, 0, 1, 2, 3, 4, 5, 6, 7, 8, 9, 10, 11, 12, 13, 14, 15, 16, 17, 18, 19, 20, 21], [3, 4]), ([22, 21, 0, 1, 2, 3, 4, 5, 6, 7, 8, 9, 10, 11, 12, 13, 14, 15, 16, 17, 18, 19, 20, 21], [21, 22])])
def emenderref23_table.B12 : List Nat := [0, 0, 3, 7, 0, 0, 0, 64, 224, 480, 0, 2016, 4064, 0, 0, 24576, 57344, 0, 131072, 516096, 1040384, 2097120, 4194303, 8388607]
theorem emenderref23_table.tab12 : rtab .any (opsOf Try.f49 12) = emenderref23_table.T12 := by kernel_rfl
theorem emenderref23_table.bits12 : waitsOk emenderref23_table.T12.2 emenderref23_table.B12 = true := by kernel_rfl
def emenderref23_table.T14 : Bool × List (List Nat × List Nat) := (true, [([], []), ([], []), ([0, 1], [0, 1]), ([2], [2]), ([], []), ([], []), ([], []), ([5, 6], [5, 6]), ([7], [7]), ([], []), ([8, 9], [8, 9]), ([10], [10]), ([], []), ([], []), ([13], [13]), ([12, 14], [12, 14]), ([15], [15]), ([], []), ([17], [17]), ([16, 18], [16, 18]), ([19], [19]), ([20], [20]), ([11, 21], [11, 21]), ([3, 4, 0, 1, 2, 3, 4, 5, 6, 7, 8, 9, 10, 11, 12, 13, 14, 15, 16, 17, 18, 19, 20, 21, 22], [3, 4]), ([23, 22, 0, 1, 2, 3, 4, 5, 6, 7, 8, 9, 10, 11, 12, 13, 14, 15, 16, 17, 18, 19, 20, 21, 22], [22, 23])])
def emenderref23_table.B14 : List Nat := [0, 0, 3, 7, 0, 0, 0, 96, 224, 0, 992, 2016, 0, 0, 8192, 28672, 61440, 0, 131072, 520192, 1044480, 2093056, 4194272, 8388607, 16777215]
theorem emenderref23_table.tab14 : rtab .any (opsOf Try.f49 14) = emenderref23_table.T14 := by kernel_rfl
theorem emenderref23_table.bits14 : waitsOk emenderref23_table.T14.2 emenderref23_table.B14 = true := by kernel_rfl
set_option maxHeartbeats 8000000 in
set_option maxRecDepth 100000 in
theorem emenderref23_table.calls (k : Nat) (A0 : Option Addr) (c0 : Nat) (l0 : List (List Bool)) (a1 : Int) (a2 : Int) (r : List (List Int)) (w : World) (hr0 : Kd.C (Kd.slice 4 Kd.bool) w A0 l0.length l0) (hc0 : l0.length ≤ c0) (h : emenderref23_table.f k l0 a1 a2 = some r) :
  Calls Try.prog 49 #[.slice A0 l0.length c0, .int .i64 a1, .int .i64 a2] w fun e w' => ∃ v0_ : Value, e = .returned (v0_) ∧ Kd.S (Kd.slice 3 (Kd.int .i64)) 52 w' w.heap.size (fun _ => True) v0_ r ∧ Below w.heap.size w w' := by
 have HR0 := aM hr0
 have HC0 := aM hc0
 clear hr0 hc0
 have HB := aM (Below.refl w.heap.size w)
 have H : (if 0 ≤ (wrap64 (a1 + 1)) then (if (wrap64 (a1 + 1) : Int).toNat ≤ 11728124029610 then (emenderref23_table.l0 k l0 a1 a2 (List.replicate (wrap64 (a1 + 1) : Int).toNat []) 0) else (none)) else (none)) = some r := h
 clear h
 obtain ⟨ji4, hji4⟩ : ∃ j_ : Int, (wrap64 (a1 + 1)) = j_ := ⟨_, rfl⟩
 replace H : (if 0 ≤ (ji4) then (if (ji4 : Int).toNat ≤ 11728124029610 then (emenderref23_table.l0 k l0 a1 a2 (List.replicate (ji4 : Int).toNat []) 0) else (none)) else (none)) = some r := by first|(rw [hji4] at H; exact H)|(simp only [hji4] at H ⊢; exact H)
 have hji4w : (IntKind.i64.wrap (a1 + 1)) = ji4 := (i64_w _).trans hji4
 replace H := ifS H; obtain ⟨c5, H⟩ := H
 have c5b0 := eq_true c5
 have c5b1 : decide (0 ≤ (ji4)) = true := decide_eq_true c5
 clear c5
 replace H := ifS H; obtain ⟨c6, H⟩ := H
 have c6b0 := eq_true c6
 have c6b1 : decide ((ji4 : Int).toNat ≤ 11728124029610) = true := decide_eq_true c6
 clear c6
 obtain ⟨y290, hy290⟩ : ∃ y_ : List (List Int), y_ = (List.replicate (ji4 : Int).toNat []) := ⟨_, rfl⟩
 replace H : (emenderref23_table.l0 k l0 a1 a2 y290 0) = some r := by first|(rw [hy290]; with_reducible exact H)|(have H2_ := (Option.bind_some _ _).symm.trans H; rw [hy290]; with_reducible exact H2_)|(have H2_ := (Option.bind_some _ _).symm.trans H; with_reducible exact H2_)|with_reducible exact H|(rw [hy290]; exact H)|exact H
 have Ny290 := aM hy290
 clear hy290
 have H' := aM H
 clear H
 go_enter Try.func49, Try.ntmps49
 go_wp2_with (first|((with_reducible refine gate_dst (N := 13) rfl ?_); refine Kd.S_make (Kd.slice 3 (Kd.int .i64)) _ 52 rfl (N := 13) rfl 92 _ _ rfl ji4 rfl rfl Try.underlying92 (.slice none 0 0) 24 info52 rfl (by decide) (by omega) [] (ok := fun _ => True) (okp := fun _ => True) ⟨_, rfl, Kd.R_nil _ _ _ _ _⟩ (fun _ hk => hk) trivial (of_decide_eq_true (by first|(with_reducible assumption)|assumption)) (Nat.le_trans (Nat.mul_le_mul_right _ (of_decide_eq_true (by first|(with_reducible assumption)|assumption) : ji4.toNat ≤ 11728124029610)) (by omega)) (Below.refl _ _) (Nat.le_refl _) ?_; intro v291 w7 ho8 hb hg_ hnew_; clear hg_ hnew_; (first|rw [← Ny290.out] at ho8|(simp only [Int.reduceToNat] at ho8; rw [← Ny290.out] at ho8)); replace HO292 := aM (Kd.S_lower ho8 (below_size (by repeat (first|(with_reducible first|exact HB.out|apply lA|apply lN|apply lD)|exact HB.out)))); replace HB := aM (below_step (by repeat (first|(with_reducible first|exact HB.out|apply lA|apply lN|apply lD)|exact HB.out)) hb); clear hb ho8))
 go_loopg [8] k (fun kq v8 w' => ∃ (x7_1 : List (List Int)) (x8_1 : Int), v8 = .int .i64 x8_1 ∧ Aside0 (emenderref23_table.l0 kq l0 a1 a2 x7_1 x8_1 = some r) ∧ Aside0 (kq ≤ k) ∧ Aside0 (Kd.S (Kd.slice 3 (Kd.int .i64)) 52 w' w.heap.size (fun _ => True) v291 x7_1) ∧ Aside0 (Below w.heap.size w w'))
 case atStart => exact ⟨(y290), (0), (by first|rfl|(simp; done)|(simp [*]; done)), H', ⟨Nat.le_refl _⟩, ⟨by (with_reducible repeat (first|apply Kd.S_alloc|apply Kd.S_drewN|apply Kd.S_drew)); exact HO292.out⟩, ⟨by repeat (first|(with_reducible first|exact HB.out|apply lA|apply lN|apply lD)|exact HB.out)⟩⟩
 case round =>
  clear H'
  obtain ⟨x7_1, x8_1, rfl, HA, HK1, HO_7, HB⟩ := hrel
  cases gk with
 |zero => exact absurd HA.out (by simp [emenderref23_table.l0])
 |succ k1 =>
   have H := HA.out
   clear HA
   simp only [emenderref23_table.l0] at H
   by_cases c9 : x8_1 ≤ a1
   ·rw [if_pos c9] at H
    have c9b0 : decide (x8_1 ≤ a1) = true := decide_eq_true c9
    clear c9
    obtain ⟨ji10, hji10⟩ : ∃ j_ : Int, (wrap64 (a2 + 1)) = j_ := ⟨_, rfl⟩
    replace H : (if 0 ≤ (ji10) then (if (ji10 : Int).toNat ≤ 35184372088832 then (if 0 ≤ x8_1 then (if x8_1 < (x7_1.length : Int) then (emenderref23_table.l0 k1 l0 a1 a2 (x7_1.set (x8_1 : Int).toNat (List.replicate (ji10 : Int).toNat 0)) (wrap64 (x8_1 + 1))) else (none)) else (none)) else (none)) else (none)) = some r := by first|(rw [hji10] at H; exact H)|(simp only [hji10] at H ⊢; exact H)
    have hji10w : (IntKind.i64.wrap (a2 + 1)) = ji10 := (i64_w _).trans hji10
    replace H := ifS H; obtain ⟨c11, H⟩ := H
    have c11b0 := eq_true c11
    have c11b1 : decide (0 ≤ (ji10)) = true := decide_eq_true c11
    clear c11
    replace H := ifS H; obtain ⟨c12, H⟩ := H
    have c12b0 := eq_true c12
    have c12b1 : decide ((ji10 : Int).toNat ≤ 35184372088832) = true := decide_eq_true c12
    clear c12
    obtain ⟨y293, hy293⟩ : ∃ y_ : List Int, y_ = (List.replicate (ji10 : Int).toNat 0) := ⟨_, rfl⟩
    replace H : (if 0 ≤ x8_1 then (if x8_1 < (x7_1.length : Int) then (emenderref23_table.l0 k1 l0 a1 a2 (x7_1.set (x8_1 : Int).toNat y293) (wrap64 (x8_1 + 1))) else (none)) else (none)) = some r := by first|(rw [hy293]; with_reducible exact H)|(have H2_ := (Option.bind_some _ _).symm.trans H; rw [hy293]; with_reducible exact H2_)|(have H2_ := (Option.bind_some _ _).symm.trans H; with_reducible exact H2_)|with_reducible exact H|(rw [hy293]; exact H)|exact H
    have Ny293 := aM hy293
    clear hy293
    replace H := ifS H; obtain ⟨c13, H⟩ := H
    have c13b0 : decide (0 ≤ x8_1) = true := decide_eq_true c13
    clear c13
    replace H := ifS H; obtain ⟨c14, H⟩ := H
    have c14b0 : decide (x8_1 < (x7_1.length : Int)) = true := decide_eq_true c14
    clear c14
    obtain ⟨y296, hy296⟩ : ∃ y_ : List (List Int), y_ = (x7_1.set (x8_1 : Int).toNat y293) := ⟨_, rfl⟩
    replace H : (emenderref23_table.l0 k1 l0 a1 a2 y296 (wrap64 (x8_1 + 1))) = some r := by first|(rw [hy296]; with_reducible exact H)|(have H2_ := (Option.bind_some _ _).symm.trans H; rw [hy296]; with_reducible exact H2_)|(have H2_ := (Option.bind_some _ _).symm.trans H; with_reducible exact H2_)|with_reducible exact H|(rw [hy296]; exact H)|exact H
    have Ny296 := aM hy296
    clear hy296
    have H' := aM H
    clear H
    go_wp2_with (first|((with_reducible refine gate_dst (N := 23) rfl ?_); refine Kd.R_make (Kd.int .i64) _ 3 rfl (N := 23) rfl 52 _ _ rfl ji10 rfl rfl Try.underlying52 (.int .i64 0) 8 info3 rfl (by decide) (by omega) 0 (ok := fun _ => True) (okp := fun _ => True) rfl (fun _ hk => hk) trivial (of_decide_eq_true (by first|(with_reducible assumption)|assumption)) (Nat.le_trans (Nat.mul_le_mul_right _ (of_decide_eq_true (by first|(with_reducible assumption)|assumption) : ji10.toNat ≤ 35184372088832)) (by omega)) (Below.refl _ _) (Nat.le_refl _) ?_; intro v294 w16 ho17 hb hg_ hnew_; clear hg_ hnew_; (first|rw [← Ny293.out] at ho17|(simp only [Int.reduceToNat] at ho17; rw [← Ny293.out] at ho17)); replace HO_7 := aM (Kd.S_elder' (by (with_reducible repeat (first|apply Kd.S_alloc|apply Kd.S_drewN|apply Kd.S_drew)); exact HO_7.out) (Kd.R_base ho17) hb); replace HO295 := aM (Kd.R_lower ho17 (below_size (by repeat (first|(with_reducible first|exact HB.out|apply lA|apply lN|apply lD)|exact HB.out)))); replace HB := aM (below_step (by repeat (first|(with_reducible first|exact HB.out|apply lA|apply lN|apply lD)|exact HB.out)) hb); clear hb ho17; have p15 : 0 ≤ (x8_1 : Int) := of_decide_eq_true (by first|(with_reducible assumption)|assumption); have q15 : (x8_1 : Int) < ((x7_1.length : Int) : Int) := of_decide_eq_true (by first|(with_reducible assumption)|assumption); obtain ⟨go15, co15, eo15, gb15, gl15, cl15, HG15⟩ := Kd.S_form HO_7.out (by omega); (first|cases eo15|(injection eo15 with ea_ en_ ec_; (first|subst ea_|(injection ea_ with ea_; subst ea_)); subst ec_; clear en_)); have GB15 := aM gb15; have GG15 := aM HG15; clear gb15 gl15 HG15; obtain ⟨_, ce15, hcl15, hM15, hcc15, hfr15, _, _⟩ := Kd.S_elem HO_7.out [] (x8_1 : Int) p15 q15; obtain ⟨ve15_0, rfl, ge15_0⟩ := hM15; have hx15_0 := hcc15 0 _ rfl; have hf15_0 := hfr15 0; (try simp only [show ((Kd.slice 3 (Kd.int .i64))).sz = 1 from rfl, Nat.mul_one, Nat.add_zero] at hx15_0); (try simp only [show ((Kd.slice 3 (Kd.int .i64))).sz = 1 from rfl, Nat.mul_one, Nat.add_zero] at hf15_0); (try clear hM15); clear hcl15 hcc15 hfr15; replace p15 := eq_true p15; replace q15 := eq_true q15; have n_ := aM (Kd.S_mono (ok' := (fun k_ => some k_ ≠ (v294 : Value).ownBlock)) HO_7.out (fun k_ hk => hk.2)); clear HO_7; have HO_7 := n_; clear n_; have HX18 := aM (show Kd.S (Kd.slice 3 (Kd.int .i64)) 52 w16 w.heap.size (fun k_ => ((fun _ => True)) k_ ∧ ¬ ((fun k_ => some k_ = (v294 : Value).ownBlock)) k_) (.slice (some ⟨go15, 0, none⟩) x7_1.length co15) x7_1 from (by (with_reducible repeat (first|apply Kd.S_alloc|apply Kd.S_drewN|apply Kd.S_drew)); exact Kd.S_mono HO_7.out (fun k_ hk => ⟨trivial, fun e_ => hk e_⟩))); obtain ⟨oki18, ce18, hcl18, hM18, hcc18, hfr18, hoki18, hH18⟩ := Kd.S_elem HX18.out [] (x8_1 : Int) (of_decide_eq_true (by first|(with_reducible assumption)|assumption)) (by have h_ : (x8_1 : Int) < ((x7_1.length : Int) : Int) := of_decide_eq_true (by first|(with_reducible assumption)|assumption); first|exact h_|(have e_ := (Kd.S_reads' HO_7.out).1; omega)|simpa using h_); obtain ⟨ve18_0, rfl, ge18_0⟩ := hM18; have HP18 := Kd.S_seg hH18 (of_decide_eq_true (by first|(with_reducible assumption)|assumption)) (by have h_ : (x8_1 : Int) < ((x7_1.length : Int) : Int) := of_decide_eq_true (by first|(with_reducible assumption)|assumption); first|exact h_|(have e_ := (Kd.S_reads' HO_7.out).1; omega)|simpa using h_) (seg := [v294]) (j := 0) (show 1 ≤ 1 from by decide) (x' := y293) (Kd.M_row (Kd.R_mono (Kd.R_tight rfl (Kd.R_mono (ok' := fun k_ => ((fun _ => True)) k_ ∧ k_ ≠ go15) (Kd.R_apart' (HO295.out) (Kd.S_typed HO_7.out) (by decide)) (fun k_ hk => ⟨trivial, fun e_ => (hk.2) (by rw [e_]; rfl)⟩))) (fun _ h_ => Or.inr (h_)))) (fun _ hk => hk) (fun k_ hk_ => ((Kd.R_mono (ok' := fun k_ => ((fun _ => True)) k_ ∧ k_ ≠ go15) (Kd.R_apart' (HO295.out) (Kd.S_typed HO_7.out) (by decide)) (fun k_ hk => ⟨trivial, fun e_ => (hk.2) (by rw [e_]; rfl)⟩))).1 k_ hk_.symm); have hx18_0 := hcc18 0 _ rfl; (try simp only [show ((Kd.slice 3 (Kd.int .i64))).sz = 1 from rfl, Nat.mul_one, Nat.add_zero] at hx18_0); have hf18_0 := hfr18 0; (try simp only [show ((Kd.slice 3 (Kd.int .i64))).sz = 1 from rfl, Nat.mul_one, Nat.add_zero] at hf18_0); (try clear hM18); clear hcl18 hcc18 hfr18 hoki18 hH18; (try simp only [show ((Kd.slice 3 (Kd.int .i64))).sz = 1 from rfl, Nat.mul_one, Nat.add_zero] at HP18))|((with_reducible refine gate_store (t := 52) (p := 24) rfl ?_); refine store_event (t := 52) (p := 24) (v := ?vo_w19) (w1 := (w16.setCell ⟨go15, (x8_1 : Int).toNat, none⟩ (v294))) ?hg ?ho ?hn ?hr ?_; (case ho => rfl); (case hg => rfl); (case hn => rfl); (case hr => obtain ⟨av_, cv_, ev_⟩ := Kd.R_slice HO295.out; rw [ev_]; first|(go_simp; done)|(go_simp; rfl)); intro w19 hw; have hg : w16.grownBy w19 (some go15) := (by rw [hw]; exact HP18.2); have hp_ : Kd.S (Kd.slice 3 (Kd.int .i64)) 52 w19 w.heap.size (fun _ => True) (.slice (some ⟨go15, 0, none⟩) x7_1.length co15) y296 := (by rw [hw, Ny296.out]; exact HP18.1); clear HP18; have n0_ := aM (hp_); have n1_ := aM ((by rw [hw]; exact lS (HB.out) GB15.out : Below w.heap.size w w19)); clear HO_7; clear HB; clear HO295; have HO_7 := n0_; have HB := n1_; clear n0_ n1_; clear hg hw hp_))
    go_roundg k1
    case measure => have := HK1.out; omega
    case rel => exact ⟨(y296), (wrap64 (x8_1 + 1)), (by first|rfl|(simp; done)|(simp [*]; done)), H', ⟨by have := HK1.out; omega⟩, ⟨by (with_reducible repeat (first|apply Kd.S_alloc|apply Kd.S_drewN|apply Kd.S_drew)); exact HO_7.out⟩, ⟨by repeat (first|(with_reducible first|exact HB.out|apply lA|apply lN|apply lD)|exact HB.out)⟩⟩
   ·rw [if_neg c9] at H
    have c9b0 : decide (x8_1 ≤ a1) = false := decide_eq_false c9
    clear c9
    have H' := aM H
    clear H
    go_wp2
    go_loopg [9] k1 (fun kq v9 w' => ∃ (x7_2 : List (List Int)) (x9_2 : Int), v9 = .int .i64 x9_2 ∧ Aside0 (emenderref23_table.l1 kq l0 a2 x7_2 x9_2 = some r) ∧ Aside0 (kq ≤ k1) ∧ Aside0 (Kd.S (Kd.slice 3 (Kd.int .i64)) 52 w' w.heap.size (fun _ => True) v291 x7_2) ∧ Aside0 (Below w.heap.size w w'))
    case atStart => exact ⟨(x7_1), (wrap64 (a1 - 1)), (by first|rfl|(simp; done)|(simp [*]; done)), H', ⟨Nat.le_refl _⟩, ⟨by (with_reducible repeat (first|apply Kd.S_alloc|apply Kd.S_drewN|apply Kd.S_drew)); exact HO_7.out⟩, ⟨by repeat (first|(with_reducible first|exact HB.out|apply lA|apply lN|apply lD)|exact HB.out)⟩⟩
    case round =>
     clear H'
     obtain ⟨x7_2, x9_2, rfl, HA, HK2, HO_7, HB⟩ := hrel
     cases gk with
    |zero => exact absurd HA.out (by simp [emenderref23_table.l1])
    |succ k2 =>
      have H := HA.out
      clear HA
      simp only [emenderref23_table.l1] at H
      by_cases c20 : x9_2 ≥ 0
      ·rw [if_pos c20] at H
       have c20b0 : decide (0 ≤ x9_2) = true := decide_eq_true c20
       clear c20
       have H' := aM H
       clear H
       go_wp2
       go_loopg [10] k2 (fun kq v10 w' => ∃ (x7_3 : List (List Int)) (x10_3 : Int), v10 = .int .i64 x10_3 ∧ Aside0 (emenderref23_table.l2 kq l0 a2 x7_3 x9_2 x10_3 = some r) ∧ Aside0 (kq ≤ k2) ∧ Aside0 (Kd.S (Kd.slice 3 (Kd.int .i64)) 52 w' w.heap.size (fun _ => True) v291 x7_3) ∧ Aside0 (Below w.heap.size w w'))
       case atStart => exact ⟨(x7_2), (wrap64 (a2 - 1)), (by first|rfl|(simp; done)|(simp [*]; done)), H', ⟨Nat.le_refl _⟩, ⟨by (with_reducible repeat (first|apply Kd.S_alloc|apply Kd.S_drewN|apply Kd.S_drew)); exact HO_7.out⟩, ⟨by repeat (first|(with_reducible first|exact HB.out|apply lA|apply lN|apply lD)|exact HB.out)⟩⟩
       case round =>
        clear H'
        obtain ⟨x7_3, x10_3, rfl, HA, HK3, HO_7, HB⟩ := hrel
        cases gk with
       |zero => exact absurd HA.out (by simp [emenderref23_table.l2])
       |succ k3 =>
         have H := HA.out
         clear HA
         simp only [emenderref23_table.l2] at H
         by_cases c21 : x10_3 ≥ 0
         ·rw [if_pos c21] at H
          have c21b0 : decide (0 ≤ x10_3) = true := decide_eq_true c21
          clear c21
          replace H := ifS H; obtain ⟨c22, H⟩ := H
          have c22b0 : decide (0 ≤ x9_2) = true := decide_eq_true c22
          clear c22
          replace H := ifS H; obtain ⟨c23, H⟩ := H
          have c23b0 : decide (x9_2 < (x7_3.length : Int)) = true := decide_eq_true c23
          clear c23
          obtain ⟨ji24, hji24⟩ : ∃ j_ : Int, (wrap64 (x9_2 + 1)) = j_ := ⟨_, rfl⟩
          replace H : (if 0 ≤ (ji24) then (if (ji24) < (x7_3.length : Int) then (if 0 ≤ x10_3 then (if x10_3 < ((rd_L10 x7_3 (ji24)).length : Int) then (if 0 ≤ (wrap64 (x10_3 + 1)) then (if (wrap64 (x10_3 + 1)) < ((rd_L10 x7_3 x9_2).length : Int) then (if x10_3 < ((rd_L10 x7_3 x9_2).length : Int) then ((some (x7_3.set (x9_2 : Int).toNat ((rd_L10 x7_3 x9_2).set (x10_3 : Int).toNat (mx (rd (rd_L10 x7_3 (ji24)) x10_3) (rd (rd_L10 x7_3 x9_2) (wrap64 (x10_3 + 1))))) : List (List Int))).bind fun y304 => (if x9_2 < (l0.length : Int) then (if x10_3 < ((rd_L12 l0 x9_2).length : Int) then (if rdOf false (rd_L12 l0 x9_2) x10_3 = true then (if x10_3 < ((rd_L10 y304 x9_2).length : Int) then (if (wrap64 (x10_3 + 1)) < ((rd_L10 y304 (ji24)).length : Int) then (emenderref23_table.l2 k3 l0 a2 (y304.set (x9_2 : Int).toNat ((rd_L10 y304 x9_2).set (x10_3 : Int).toNat (mx (rd (rd_L10 y304 x9_2) x10_3) (wrap64 (1 + (rd (rd_L10 y304 (ji24)) (wrap64 (x10_3 + 1)))))))) x9_2 (wrap64 (x10_3 - 1))) else (none)) else (none)) else (emenderref23_table.l2 k3 l0 a2 y304 x9_2 (wrap64 (x10_3 - 1)))) else (none)) else (none))) else (none)) else (none)) else (none)) else (none)) else (none)) else (none)) else (none)) = some r := by first|(rw [hji24] at H; exact H)|(simp only [hji24] at H ⊢; exact H)
          have hji24w : (IntKind.i64.wrap (x9_2 + 1)) = ji24 := (i64_w _).trans hji24
          replace H := ifS H; obtain ⟨c25, H⟩ := H
          have c25b0 : decide (0 ≤ (ji24)) = true := decide_eq_true c25
          clear c25
          replace H := ifS H; obtain ⟨c26, H⟩ := H
          have c26b0 : decide ((ji24) < (x7_3.length : Int)) = true := decide_eq_true c26
          clear c26
          replace H := ifS H; obtain ⟨c27, H⟩ := H
          have c27b0 : decide (0 ≤ x10_3) = true := decide_eq_true c27
          clear c27
          replace H := ifS H; obtain ⟨c28, H⟩ := H
          have c28b0 : decide (x10_3 < ((rd_L10 x7_3 (ji24)).length : Int)) = true := decide_eq_true c28
          clear c28
          obtain ⟨ji29, hji29⟩ : ∃ j_ : Int, (wrap64 (x10_3 + 1)) = j_ := ⟨_, rfl⟩
          replace H : (if 0 ≤ (ji29) then (if (ji29) < ((rd_L10 x7_3 x9_2).length : Int) then (if x10_3 < ((rd_L10 x7_3 x9_2).length : Int) then ((some (x7_3.set (x9_2 : Int).toNat ((rd_L10 x7_3 x9_2).set (x10_3 : Int).toNat (mx (rd (rd_L10 x7_3 (ji24)) x10_3) (rd (rd_L10 x7_3 x9_2) (ji29)))) : List (List Int))).bind fun y304 => (if x9_2 < (l0.length : Int) then (if x10_3 < ((rd_L12 l0 x9_2).length : Int) then (if rdOf false (rd_L12 l0 x9_2) x10_3 = true then (if x10_3 < ((rd_L10 y304 x9_2).length : Int) then (if (ji29) < ((rd_L10 y304 (ji24)).length : Int) then (emenderref23_table.l2 k3 l0 a2 (y304.set (x9_2 : Int).toNat ((rd_L10 y304 x9_2).set (x10_3 : Int).toNat (mx (rd (rd_L10 y304 x9_2) x10_3) (wrap64 (1 + (rd (rd_L10 y304 (ji24)) (ji29))))))) x9_2 (wrap64 (x10_3 - 1))) else (none)) else (none)) else (emenderref23_table.l2 k3 l0 a2 y304 x9_2 (wrap64 (x10_3 - 1)))) else (none)) else (none))) else (none)) else (none)) else (none)) = some r := by first|(rw [hji29] at H; exact H)|(simp only [hji29] at H ⊢; exact H)
          have hji29w : (IntKind.i64.wrap (x10_3 + 1)) = ji29 := (i64_w _).trans hji29
          replace H := ifS H; obtain ⟨c30, H⟩ := H
          have c30b0 : decide (0 ≤ (ji29)) = true := decide_eq_true c30
          clear c30
          replace H := ifS H; obtain ⟨c31, H⟩ := H
          have c31b0 : decide ((ji29) < ((rd_L10 x7_3 x9_2).length : Int)) = true := decide_eq_true c31
          clear c31
          obtain ⟨ji32, hji32⟩ : ∃ j_ : Int, (mx (rd (rd_L10 x7_3 (ji24)) x10_3) (rd (rd_L10 x7_3 x9_2) (ji29))) = j_ := ⟨_, rfl⟩
          replace H : (if x10_3 < ((rd_L10 x7_3 x9_2).length : Int) then ((some (x7_3.set (x9_2 : Int).toNat ((rd_L10 x7_3 x9_2).set (x10_3 : Int).toNat (ji32)) : List (List Int))).bind fun y304 => (if x9_2 < (l0.length : Int) then (if x10_3 < ((rd_L12 l0 x9_2).length : Int) then (if rdOf false (rd_L12 l0 x9_2) x10_3 = true then (if x10_3 < ((rd_L10 y304 x9_2).length : Int) then (if (ji29) < ((rd_L10 y304 (ji24)).length : Int) then (emenderref23_table.l2 k3 l0 a2 (y304.set (x9_2 : Int).toNat ((rd_L10 y304 x9_2).set (x10_3 : Int).toNat (mx (rd (rd_L10 y304 x9_2) x10_3) (wrap64 (1 + (rd (rd_L10 y304 (ji24)) (ji29))))))) x9_2 (wrap64 (x10_3 - 1))) else (none)) else (none)) else (emenderref23_table.l2 k3 l0 a2 y304 x9_2 (wrap64 (x10_3 - 1)))) else (none)) else (none))) else (none)) = some r := by first|(rw [hji32] at H; exact H)|(simp only [hji32] at H ⊢; exact H)
          have hji32_ : (if (rd (rd_L10 x7_3 (ji24)) x10_3) < (rd (rd_L10 x7_3 x9_2) (ji29)) then (rd (rd_L10 x7_3 x9_2) (ji29)) else (rd (rd_L10 x7_3 (ji24)) x10_3)) = ji32 := hji32
          replace H := ifS H; obtain ⟨c33, H⟩ := H
          have c33b0 : decide (x10_3 < ((rd_L10 x7_3 x9_2).length : Int)) = true := decide_eq_true c33
          clear c33
          obtain ⟨y302, hy302⟩ : ∃ y_ : List Int, y_ = ((rd_L10 x7_3 x9_2).set (x10_3 : Int).toNat (ji32)) := ⟨_, rfl⟩
          replace H : ((some (x7_3.set (x9_2 : Int).toNat y302 : List (List Int))).bind fun y304 => (if x9_2 < (l0.length : Int) then (if x10_3 < ((rd_L12 l0 x9_2).length : Int) then (if rdOf false (rd_L12 l0 x9_2) x10_3 = true then (if x10_3 < ((rd_L10 y304 x9_2).length : Int) then (if (ji29) < ((rd_L10 y304 (ji24)).length : Int) then (emenderref23_table.l2 k3 l0 a2 (y304.set (x9_2 : Int).toNat ((rd_L10 y304 x9_2).set (x10_3 : Int).toNat (mx (rd (rd_L10 y304 x9_2) x10_3) (wrap64 (1 + (rd (rd_L10 y304 (ji24)) (ji29))))))) x9_2 (wrap64 (x10_3 - 1))) else (none)) else (none)) else (emenderref23_table.l2 k3 l0 a2 y304 x9_2 (wrap64 (x10_3 - 1)))) else (none)) else (none))) = some r := by first|(rw [hy302]; with_reducible exact H)|(have H2_ := (Option.bind_some _ _).symm.trans H; rw [hy302]; with_reducible exact H2_)|(have H2_ := (Option.bind_some _ _).symm.trans H; with_reducible exact H2_)|with_reducible exact H|(rw [hy302]; exact H)|exact H
          have Ny302 := aM hy302
          clear hy302
          obtain ⟨y304, hy304⟩ : ∃ y_ : List (List Int), y_ = (x7_3.set (x9_2 : Int).toNat y302) := ⟨_, rfl⟩
          replace H : (if x9_2 < (l0.length : Int) then (if x10_3 < ((rd_L12 l0 x9_2).length : Int) then (if rdOf false (rd_L12 l0 x9_2) x10_3 = true then (if x10_3 < ((rd_L10 y304 x9_2).length : Int) then (if (ji29) < ((rd_L10 y304 (ji24)).length : Int) then (emenderref23_table.l2 k3 l0 a2 (y304.set (x9_2 : Int).toNat ((rd_L10 y304 x9_2).set (x10_3 : Int).toNat (mx (rd (rd_L10 y304 x9_2) x10_3) (wrap64 (1 + (rd (rd_L10 y304 (ji24)) (ji29))))))) x9_2 (wrap64 (x10_3 - 1))) else (none)) else (none)) else (emenderref23_table.l2 k3 l0 a2 y304 x9_2 (wrap64 (x10_3 - 1)))) else (none)) else (none)) = some r := by first|(rw [hy304]; with_reducible exact H)|(have H2_ := (Option.bind_some _ _).symm.trans H; rw [hy304]; with_reducible exact H2_)|(have H2_ := (Option.bind_some _ _).symm.trans H; with_reducible exact H2_)|with_reducible exact H|(rw [hy304]; exact H)|exact H
          have Ny304 := aM hy304
          clear hy304
          replace H := ifS H; obtain ⟨c35, H⟩ := H
          have c35b0 : decide (x9_2 < (l0.length : Int)) = true := decide_eq_true c35
          clear c35
          replace H := ifS H; obtain ⟨c36, H⟩ := H
          have c36b0 : decide (x10_3 < ((rd_L12 l0 x9_2).length : Int)) = true := decide_eq_true c36
          clear c36
          obtain ⟨bq37, hbq37⟩ : ∃ b_ : Bool, b_ = (rdOf false (rd_L12 l0 x9_2) x10_3) := ⟨_, rfl⟩
          replace H : (if bq37 = true then (if x10_3 < ((rd_L10 y304 x9_2).length : Int) then (if (ji29) < ((rd_L10 y304 (ji24)).length : Int) then (emenderref23_table.l2 k3 l0 a2 (y304.set (x9_2 : Int).toNat ((rd_L10 y304 x9_2).set (x10_3 : Int).toNat (mx (rd (rd_L10 y304 x9_2) x10_3) (wrap64 (1 + (rd (rd_L10 y304 (ji24)) (ji29))))))) x9_2 (wrap64 (x10_3 - 1))) else (none)) else (none)) else (emenderref23_table.l2 k3 l0 a2 y304 x9_2 (wrap64 (x10_3 - 1)))) = some r := by rw [← hbq37] at H; exact H
          have Nbq37 := aM hbq37
          clear hbq37
          by_cases c38 : bq37 = true
          ·subst c38
           have H1 : (if x10_3 < ((rd_L10 y304 x9_2).length : Int) then (if (ji29) < ((rd_L10 y304 (ji24)).length : Int) then (emenderref23_table.l2 k3 l0 a2 (y304.set (x9_2 : Int).toNat ((rd_L10 y304 x9_2).set (x10_3 : Int).toNat (mx (rd (rd_L10 y304 x9_2) x10_3) (wrap64 (1 + (rd (rd_L10 y304 (ji24)) (ji29))))))) x9_2 (wrap64 (x10_3 - 1))) else (none)) else (none)) = some r := by rw [if_pos rfl] at H; exact H
           clear H
           have H := H1
           clear H1
           replace H := ifS H; obtain ⟨c39, H⟩ := H
           have c39b0 : decide (x10_3 < ((rd_L10 y304 x9_2).length : Int)) = true := decide_eq_true c39
           clear c39
           replace H := ifS H; obtain ⟨c40, H⟩ := H
           have c40b0 : decide ((ji29) < ((rd_L10 y304 (ji24)).length : Int)) = true := decide_eq_true c40
           clear c40
           obtain ⟨ji41, hji41⟩ : ∃ j_ : Int, (mx (rd (rd_L10 y304 x9_2) x10_3) (wrap64 (1 + (rd (rd_L10 y304 (ji24)) (ji29))))) = j_ := ⟨_, rfl⟩
           replace H : (emenderref23_table.l2 k3 l0 a2 (y304.set (x9_2 : Int).toNat ((rd_L10 y304 x9_2).set (x10_3 : Int).toNat (ji41))) x9_2 (wrap64 (x10_3 - 1))) = some r := by first|(rw [hji41] at H; exact H)|(simp only [hji41] at H ⊢; exact H)
           have hji41_ : (if (rd (rd_L10 y304 x9_2) x10_3) < (wrap64 (1 + (rd (rd_L10 y304 (ji24)) (ji29)))) then (wrap64 (1 + (rd (rd_L10 y304 (ji24)) (ji29)))) else (rd (rd_L10 y304 x9_2) x10_3)) = ji41 := hji41
           obtain ⟨y312, hy312⟩ : ∃ y_ : List Int, y_ = ((rd_L10 y304 x9_2).set (x10_3 : Int).toNat (ji41)) := ⟨_, rfl⟩
           replace H : (emenderref23_table.l2 k3 l0 a2 (y304.set (x9_2 : Int).toNat y312) x9_2 (wrap64 (x10_3 - 1))) = some r := by first|(rw [hy312]; with_reducible exact H)|(have H2_ := (Option.bind_some _ _).symm.trans H; rw [hy312]; with_reducible exact H2_)|(have H2_ := (Option.bind_some _ _).symm.trans H; with_reducible exact H2_)|with_reducible exact H|(rw [hy312]; exact H)|exact H
           have Ny312 := aM hy312
           clear hy312
           obtain ⟨y314, hy314⟩ : ∃ y_ : List (List Int), y_ = (y304.set (x9_2 : Int).toNat y312) := ⟨_, rfl⟩
           replace H : (emenderref23_table.l2 k3 l0 a2 y314 x9_2 (wrap64 (x10_3 - 1))) = some r := by first|(rw [hy314]; with_reducible exact H)|(have H2_ := (Option.bind_some _ _).symm.trans H; rw [hy314]; with_reducible exact H2_)|(have H2_ := (Option.bind_some _ _).symm.trans H; with_reducible exact H2_)|with_reducible exact H|(rw [hy314]; exact H)|exact H
           have Ny314 := aM hy314
           clear hy314
           have H' := aM H
           clear H
           try go_wp2
           have n0_ := aM (Kd.S_drew HO_7.out)
           have n1_ := aM (lD HB.out)
           clear HO_7
           clear HB
           have HO_7 := n0_
           have HB := n1_
           clear n0_ n1_
           obtain ⟨Ao44, co44, eo44⟩ := Kd.S_slice HO_7.out
           (first|subst eo44|(injection eo44 with f1_ f2_ f3_; have f4_ := f1_.symm; have f5_ := f3_.symm; clear f1_ f2_ f3_; subst f4_; subst f5_))
           have p297 : 0 ≤ (x9_2 : Int) := of_decide_eq_true (by first|(with_reducible assumption)|assumption)
           have q297 : x9_2 < (x7_3.length : Int) := of_decide_eq_true (by first|(with_reducible assumption)|assumption)
           obtain ⟨ad297, A297_0, c297_0, e297, hx297_0, hl297_0, hi297_0⟩ := at_L10 (Kd.S_reads' HO_7.out).2.2 x9_2 p297 q297
           cases e297
           obtain ⟨ce297, hce297, hMe297, hcc297⟩ := Kd.S_get HO_7.out [] x9_2 p297 (by first|exact q297|exact of_decide_eq_true (by first|(with_reducible assumption)|assumption)|(have e_ := (Kd.S_reads' HO_7.out).1; omega))
           obtain ⟨ve297_0, rfl, ge297_0⟩ := hMe297
           have hv297_0 := hcc297 0 _ rfl
           rw [Nat.add_zero, show ((Kd.slice 3 (Kd.int .i64))).sz = 1 from rfl, Nat.mul_one] at hv297_0
           replace hv297_0 := Option.some.inj (hv297_0.symm.trans hx297_0)
           rw [hv297_0] at ge297_0
           have HL297_0 := aM (show Kd.R (Kd.int .i64) 3 _ _ _ _ (rd_L10 x7_3 x9_2) from ge297_0)
           clear hv297_0 ge297_0
           have HX297_0 := aM hx297_0
           clear hcc297 hce297
           have HR297_0 := aM hi297_0
           have HC297_0 := aM hl297_0
           clear hi297_0 hl297_0
           replace p297 := eq_true p297
           replace q297 := eq_true q297
           have p298 : 0 ≤ ((ji24) : Int) := of_decide_eq_true (by first|(with_reducible assumption)|assumption)
           have q298 : (ji24) < (x7_3.length : Int) := of_decide_eq_true (by first|(with_reducible assumption)|assumption)
           obtain ⟨ad298, A298_0, c298_0, e298, hx298_0, hl298_0, hi298_0⟩ := at_L10 (Kd.S_reads' HO_7.out).2.2 (ji24) p298 q298
           obtain rfl : ad297 = ad298 := (by injection e298)
           obtain ⟨ce298, hce298, hMe298, hcc298⟩ := Kd.S_get HO_7.out [] (ji24) p298 (by first|exact q298|exact of_decide_eq_true (by first|(with_reducible assumption)|assumption)|(have e_ := (Kd.S_reads' HO_7.out).1; omega))
           obtain ⟨ve298_0, rfl, ge298_0⟩ := hMe298
           have hv298_0 := hcc298 0 _ rfl
           rw [Nat.add_zero, show ((Kd.slice 3 (Kd.int .i64))).sz = 1 from rfl, Nat.mul_one] at hv298_0
           replace hv298_0 := Option.some.inj (hv298_0.symm.trans hx298_0)
           rw [hv298_0] at ge298_0
           have HL298_0 := aM (show Kd.R (Kd.int .i64) 3 _ _ _ _ (rd_L10 x7_3 (ji24)) from ge298_0)
           clear hv298_0 ge298_0
           have HX298_0 := aM hx298_0
           clear hcc298 hce298
           have HR298_0 := aM hi298_0
           have HC298_0 := aM hl298_0
           clear hi298_0 hl298_0
           replace p298 := eq_true p298
           replace q298 := eq_true q298
           have p299 : 0 ≤ (x10_3 : Int) := of_decide_eq_true (by first|(with_reducible assumption)|assumption)
           have q299 : x10_3 < ((rd_L10 x7_3 (ji24)).length : Int) := of_decide_eq_true (by first|(with_reducible assumption)|assumption)
           obtain ⟨ad299, e299, hx299_0⟩ := Kd.at_int (by repeat (first|(with_reducible exact HR298_0.out)|(with_reducible refine Kd.C_alloc ?_ _)|(with_reducible refine Kd.C_drewN ?_ _)|(with_reducible refine Kd.C_drew ?_)|exact HR298_0.out)) x10_3 p299 q299
           cases e299
           replace p299 := eq_true p299
           replace q299 := eq_true q299
           have p300 : 0 ≤ (x9_2 : Int) := of_decide_eq_true (by first|(with_reducible assumption)|assumption)
           have q300 : x9_2 < (x7_3.length : Int) := of_decide_eq_true (by first|(with_reducible assumption)|assumption)
           obtain ⟨ad300, A300_0, c300_0, e300, hx300_0, hl300_0, hi300_0⟩ := at_L10 (Kd.S_reads' HO_7.out).2.2 x9_2 p300 q300
           obtain rfl : ad297 = ad300 := (by injection e300)
           obtain ⟨ce300, hce300, hMe300, hcc300⟩ := Kd.S_get HO_7.out [] x9_2 p300 (by first|exact q300|exact of_decide_eq_true (by first|(with_reducible assumption)|assumption)|(have e_ := (Kd.S_reads' HO_7.out).1; omega))
           obtain ⟨ve300_0, rfl, ge300_0⟩ := hMe300
           have hv300_0 := hcc300 0 _ rfl
           rw [Nat.add_zero, show ((Kd.slice 3 (Kd.int .i64))).sz = 1 from rfl, Nat.mul_one] at hv300_0
           replace hv300_0 := Option.some.inj (hv300_0.symm.trans hx300_0)
           rw [hv300_0] at ge300_0
           have HL300_0 := aM (show Kd.R (Kd.int .i64) 3 _ _ _ _ (rd_L10 x7_3 x9_2) from ge300_0)
           clear hv300_0 ge300_0
           have HX300_0 := aM hx300_0
           clear hcc300 hce300
           have HR300_0 := aM hi300_0
           have HC300_0 := aM hl300_0
           clear hi300_0 hl300_0
           replace p300 := eq_true p300
           replace q300 := eq_true q300
           have ea_ := Option.some.inj (hx297_0.symm.trans hx300_0)
           injection ea_ with ea_ en_ ec_
           subst ea_
           subst ec_
           clear en_
           have p301 : 0 ≤ ((ji29) : Int) := of_decide_eq_true (by first|(with_reducible assumption)|assumption)
           have q301 : (ji29) < ((rd_L10 x7_3 x9_2).length : Int) := of_decide_eq_true (by first|(with_reducible assumption)|assumption)
           obtain ⟨ad301, e301, hx301_0⟩ := Kd.at_int (by repeat (first|(with_reducible exact HR300_0.out)|(with_reducible refine Kd.C_alloc ?_ _)|(with_reducible refine Kd.C_drewN ?_ _)|(with_reducible refine Kd.C_drew ?_)|exact HR300_0.out)) (ji29) p301 q301
           cases e301
           replace p301 := eq_true p301
           replace q301 := eq_true q301
           have p34 : 0 ≤ (x10_3 : Int) := of_decide_eq_true (by first|(with_reducible assumption)|assumption)
           have q34 : (x10_3 : Int) < (((rd_L10 x7_3 x9_2).length : Int) : Int) := of_decide_eq_true (by first|(with_reducible assumption)|assumption)
           obtain ⟨go34, co34, eo34, gb34, gl34, cl34, HG34⟩ := Kd.R_form HL297_0.out (by omega)
           (first|cases eo34|(injection eo34 with ea_ en_ ec_; (first|subst ea_|(injection ea_ with ea_; subst ea_)); subst ec_; clear en_))
           have GB34 := aM gb34
           have GG34 := aM HG34
           clear gb34 gl34 HG34
           (first|simp only [add_plain] at hx301_0|skip)
           obtain ⟨hx34_0, hf34_0⟩ := Kd.R_celln 0 HL297_0.out (x10_3 : Int) p34 q34
           replace p34 := eq_true p34
           replace q34 := eq_true q34
           have hq45 : (x9_2 : Int) < (x7_3.length : Int) := (by have h_ : (x9_2 : Int) < ((x7_3.length : Int) : Int) := of_decide_eq_true (by first|(with_reducible assumption)|assumption); first|exact h_|(have e_ := (Kd.S_reads' HO_7.out).1; omega)|simpa only [List.length_set, List.length_set] using h_)
           obtain ⟨oki45, ce45, hcl45, hM45, hcc45, hok45, hbk45⟩ := Kd.S_borrow HO_7.out [] (x9_2 : Int) (of_decide_eq_true (by first|(with_reducible assumption)|assumption)) hq45
           obtain ⟨ve45_0, rfl, ge45_0⟩ := hM45
           have hv45 := hcc45 0 _ rfl
           rw [Nat.add_zero, show ((Kd.slice 3 (Kd.int .i64))).sz = 1 from rfl, Nat.mul_one] at hv45
           replace hv45 := Option.some.inj (hv45.symm.trans HX297_0.out)
           subst hv45
           clear hcc45 hcl45
           replace ge45_0 := (show Kd.R (Kd.int .i64) 3 _ _ _ _ (rd_L10 x7_3 x9_2) from ge45_0)
           have HP45 := Kd.R_putg ge45_0 (x10_3 : Int) ji32
           rw [← Ny302.out] at HP45
           have HS45 := hbk45 HP45.2 (fun k_ e_ => by injection e_ with e_; subst e_; exact ge45_0.1 _ rfl) (x' := y302) (Kd.M_row HP45.1)
           rw [← Ny304.out] at HS45
           have HQ45 := aM HS45
           clear HP45 HS45 hbk45 hok45
           refine start_ (n := 24) (S := fun w' => w'.cell? (ad297.add (x9_2).toNat) = some (.slice (some ⟨go34, 0, none⟩) (rd_L10 x7_3 x9_2).length c297_0) ∧ w'.cell? (ad297.add ((ji24)).toNat) = some (.slice (some ad299) (rd_L10 x7_3 (ji24)).length c298_0) ∧ w'.cell? (ad299.add (x10_3).toNat) = some (.int .i64 (rd (rd_L10 x7_3 (ji24)) x10_3)) ∧ w'.cell? (ad297.add (x9_2).toNat) = some (.slice (some ⟨go34, 0, none⟩) (rd_L10 x7_3 x9_2).length c297_0) ∧ w'.cell? ⟨go34, ((ji29)).toNat, none⟩ = some (.int .i64 (rd (rd_L10 x7_3 x9_2) (ji29)))) (ds := [23]) #[false, false, false, false, false, false, false, false, false, false, false, false, false, false, false, false, false, false, false, false, false, false, false, false] (by kernel_rfl) rfl rfl ⟨hx297_0, hx298_0, hx299_0, hx300_0, hx301_0⟩ (fun hHeld => ?_); refine with_tabW emenderref23_table.tab12 emenderref23_table.bits12 (fun HT_ HW_ => ?_)
           generalize wr.drew = w43 at HO_7 HB GG34 HL297_0 HL298_0 HL300_0 HQ45 HR297_0 HR298_0 HR300_0 HX297_0 HX298_0 HX300_0 hf34_0 hx297_0 hx298_0 hx299_0 hx300_0 hx301_0 hx34_0 hHeld ⊢
           refine pure_ (i := 0) (N := some 37) (v := ?_) (a' := ?_) #[true, false, false, false, false, false, false, false, false, false, false, false, false, false, false, false, false, false, false, false, false, false, false, false] rfl rfl (any_of HT_.out (by kernel_rfl)) (fun _ _ _ h => h) (Or.inl ⟨by rfl, ?_⟩) ?_ ?_
           rotate_left
           ·intro w'
            go_simp
            with_reducible rfl
           rotate_left
           ·simp only [Act.put, List.setIfInBounds_toArray, List.set_cons_zero, List.set_cons_succ, i64_w, i32_w]
            rfl
           refine pure_ (i := 1) (N := some 38) (v := ?_) (a' := ?_) #[true, true, false, false, false, false, false, false, false, false, false, false, false, false, false, false, false, false, false, false, false, false, false, false] rfl rfl (any_of HT_.out (by kernel_rfl)) (fun _ _ _ h => h) (Or.inl ⟨by rfl, ?_⟩) ?_ ?_
           rotate_left
           ·intro w'
            go_simp
            with_reducible rfl
           rotate_left
           ·simp only [Act.put, List.setIfInBounds_toArray, List.set_cons_zero, List.set_cons_succ, i64_w, i32_w]
            rfl
           refine pure_ (i := 2) (N := some 39) (v := ?_) (a' := ?_) #[true, true, true, false, false, false, false, false, false, false, false, false, false, false, false, false, false, false, false, false, false, false, false, false] rfl rfl (any_of HT_.out (by kernel_rfl)) (fun _ _ _ h => h) (Or.inl ⟨by rfl, ?_⟩) ?_ ?_
           rotate_left
           ·intro w'
            go_simp
            with_reducible rfl
           rotate_left
           ·simp only [Act.put, List.setIfInBounds_toArray, List.set_cons_zero, List.set_cons_succ, i64_w, i32_w]
            rfl
           refine pure_ (i := 4) (N := some 41) (v := ?_) (a' := ?_) #[true, true, true, false, true, false, false, false, false, false, false, false, false, false, false, false, false, false, false, false, false, false, false, false] rfl rfl (any_of HT_.out (by kernel_rfl)) (fun _ _ _ h => h) (Or.inl ⟨by rfl, ?_⟩) ?_ ?_
           rotate_left
           ·intro w'
            go_simp
            with_reducible rfl
           rotate_left
           ·simp only [Act.put, List.setIfInBounds_toArray, List.set_cons_zero, List.set_cons_succ, i64_w, i32_w]
            rfl
           refine pure_ (i := 5) (N := some 42) (v := ?_) (a' := ?_) #[true, true, true, false, true, true, false, false, false, false, false, false, false, false, false, false, false, false, false, false, false, false, false, false] rfl rfl (any_of HT_.out (by kernel_rfl)) (fun _ _ _ h => h) (Or.inl ⟨by rfl, ?_⟩) ?_ ?_
           rotate_left
           ·intro w'
            go_simp
            with_reducible rfl
           rotate_left
           ·simp only [Act.put, List.setIfInBounds_toArray, List.set_cons_zero, List.set_cons_succ, i64_w, i32_w]
            rfl
           refine pure_ (i := 6) (N := some 43) (v := ?_) (a' := ?_) #[true, true, true, false, true, true, true, false, false, false, false, false, false, false, false, false, false, false, false, false, false, false, false, false] rfl rfl (any_of HT_.out (by kernel_rfl)) (fun _ _ _ h => h) (Or.inl ⟨by rfl, ?_⟩) ?_ ?_
           rotate_left
           ·intro w'
            go_simp
            with_reducible rfl
           rotate_left
           ·simp only [Act.put, List.setIfInBounds_toArray, List.set_cons_zero, List.set_cons_succ, i64_w, i32_w]
            rfl
           refine pure_ (i := 7) (N := some 44) (v := ?_) (a' := ?_) #[true, true, true, false, true, true, true, true, false, false, false, false, false, false, false, false, false, false, false, false, false, false, false, false] rfl rfl (any_of HT_.out (by kernel_rfl)) (fun _ _ _ h => h) (Or.inl ⟨by rfl, ?_⟩) ?_ ?_
           rotate_left
           ·intro w'
            go_simp
            with_reducible rfl
           rotate_left
           ·simp only [Act.put, List.setIfInBounds_toArray, List.set_cons_zero, List.set_cons_succ, i64_w, i32_w]
            rfl
           refine pure_ (i := 8) (N := some 45) (v := ?_) (a' := ?_) #[true, true, true, false, true, true, true, true, true, false, false, false, false, false, false, false, false, false, false, false, false, false, false, false] rfl rfl (any_of HT_.out (by kernel_rfl)) (fun _ _ _ h => h) (Or.inl ⟨by rfl, ?_⟩) ?_ ?_
           rotate_left
           ·intro w'
            go_simp
            with_reducible rfl
           rotate_left
           ·simp only [Act.put, List.setIfInBounds_toArray, List.set_cons_zero, List.set_cons_succ, i64_w, i32_w]
            rfl
           refine pure_ (i := 10) (N := some 47) (v := ?_) (a' := ?_) #[true, true, true, false, true, true, true, true, true, false, true, false, false, false, false, false, false, false, false, false, false, false, false, false] rfl rfl (any_of HT_.out (by kernel_rfl)) (fun _ _ _ h => h) (Or.inl ⟨by rfl, ?_⟩) ?_ ?_
           rotate_left
           ·intro w'
            go_simp
            with_reducible rfl
           rotate_left
           ·simp only [Act.put, List.setIfInBounds_toArray, List.set_cons_zero, List.set_cons_succ, i64_w, i32_w]
            rfl
           refine pure_ (i := 13) (N := some 50) (v := ?_) (a' := ?_) #[true, true, true, false, true, true, true, true, true, false, true, false, false, true, false, false, false, false, false, false, false, false, false, false] rfl rfl (any_of HT_.out (by kernel_rfl)) (fun _ _ _ h => h) (Or.inl ⟨by rfl, ?_⟩) ?_ ?_
           rotate_left
           ·intro w'
            go_simp
            with_reducible rfl
           rotate_left
           ·simp only [Act.put, List.setIfInBounds_toArray, List.set_cons_zero, List.set_cons_succ, i64_w, i32_w]
            rfl
           refine pure_ (i := 14) (N := some 51) (v := ?_) (a' := ?_) #[true, true, true, false, true, true, true, true, true, false, true, false, false, true, true, false, false, false, false, false, false, false, false, false] rfl rfl (any_of HT_.out (by kernel_rfl)) (fun _ _ _ h => h) (Or.inl ⟨by rfl, ?_⟩) ?_ ?_
           rotate_left
           ·intro w'
            go_simp
            with_reducible rfl
           rotate_left
           ·simp only [Act.put, List.setIfInBounds_toArray, List.set_cons_zero, List.set_cons_succ, i64_w, i32_w]
            rfl
           refine pure_ (i := 15) (N := some 52) (v := ?_) (a' := ?_) #[true, true, true, false, true, true, true, true, true, false, true, false, false, true, true, true, false, false, false, false, false, false, false, false] rfl rfl (any_of HT_.out (by kernel_rfl)) (fun _ _ _ h => h) (Or.inl ⟨by rfl, ?_⟩) ?_ ?_
           rotate_left
           ·intro w'
            go_simp
            with_reducible rfl
           rotate_left
           ·simp only [Act.put, List.setIfInBounds_toArray, List.set_cons_zero, List.set_cons_succ, i64_w, i32_w]
            rfl
           refine pure_ (i := 17) (N := some 54) (v := ?_) (a' := ?_) #[true, true, true, false, true, true, true, true, true, false, true, false, false, true, true, true, false, true, false, false, false, false, false, false] rfl rfl (any_of HT_.out (by kernel_rfl)) (fun _ _ _ h => h) (Or.inl ⟨by rfl, ?_⟩) ?_ ?_
           rotate_left
           ·intro w'
            go_simp
            with_reducible rfl
           rotate_left
           ·simp only [Act.put, List.setIfInBounds_toArray, List.set_cons_zero, List.set_cons_succ, i64_w, i32_w]
            rfl
           refine pure_ (i := 18) (N := some 55) (v := ?_) (a' := ?_) #[true, true, true, false, true, true, true, true, true, false, true, false, false, true, true, true, false, true, true, false, false, false, false, false] rfl rfl (any_of HT_.out (by kernel_rfl)) (fun _ _ _ h => h) (Or.inl ⟨by rfl, ?_⟩) ?_ ?_
           rotate_left
           ·intro w'
            go_simp
            with_reducible rfl
           rotate_left
           ·simp only [Act.put, List.setIfInBounds_toArray, List.set_cons_zero, List.set_cons_succ, i64_w, i32_w]
            rfl
           refine take_ (i := 3) (N := some 40) (v := ?_) (a' := ?_) #[true, true, true, true, true, true, true, true, true, false, true, false, false, true, true, true, false, true, true, false, false, false, false, false] rfl rfl (take_ofW HT_.out HW_.out (by kernel_rfl)) (fun _ _ _ h => h) (Or.inl ⟨by rfl, ?_⟩) hHeld ?_ ?_
           rotate_left
           ·rintro w' ⟨s0, s1, s2, s3, s4⟩
            go_simp
            with_reducible rfl
           rotate_left
           ·simp only [Act.put, List.setIfInBounds_toArray, List.set_cons_zero, List.set_cons_succ, i64_w, i32_w]
            rfl
           refine take_ (i := 9) (N := some 46) (v := ?_) (a' := ?_) #[true, true, true, true, true, true, true, true, true, true, true, false, false, true, true, true, false, true, true, false, false, false, false, false] rfl rfl (take_ofW HT_.out HW_.out (by kernel_rfl)) (fun _ _ _ h => h) (Or.inl ⟨by rfl, ?_⟩) hHeld ?_ ?_
           rotate_left
           ·rintro w' ⟨s0, s1, s2, s3, s4⟩
            go_simp
            with_reducible rfl
           rotate_left
           ·simp only [Act.put, List.setIfInBounds_toArray, List.set_cons_zero, List.set_cons_succ, i64_w, i32_w]
            rfl
           refine pure_ (i := 11) (N := some 48) (v := ?_) (a' := ?_) #[true, true, true, true, true, true, true, true, true, true, true, true, false, true, true, true, false, true, true, false, false, false, false, false] rfl rfl (any_of HT_.out (by kernel_rfl)) (fun _ _ _ h => h) (Or.inl ⟨by rfl, ?_⟩) ?_ ?_
           rotate_left
           ·intro w'
            go_simp
            with_reducible rfl
           rotate_left
           ·simp only [Act.put, List.setIfInBounds_toArray, List.set_cons_zero, List.set_cons_succ, i64_w, i32_w]
            rfl
           refine take_ (i := 12) (N := some 49) (v := ?_) (a' := ?_) #[true, true, true, true, true, true, true, true, true, true, true, true, true, true, true, true, false, true, true, false, false, false, false, false] rfl rfl (take_ofW HT_.out HW_.out (by kernel_rfl)) (fun _ _ _ h => h) (Or.inl ⟨by rfl, ?_⟩) hHeld ?_ ?_
           rotate_left
           ·rintro w' ⟨s0, s1, s2, s3, s4⟩
            go_simp
            with_reducible rfl
           rotate_left
           ·simp only [Act.put, List.setIfInBounds_toArray, List.set_cons_zero, List.set_cons_succ, i64_w, i32_w]
            rfl
           refine take_ (i := 16) (N := some 53) (v := ?_) (a' := ?_) #[true, true, true, true, true, true, true, true, true, true, true, true, true, true, true, true, true, true, true, false, false, false, false, false] rfl rfl (take_ofW HT_.out HW_.out (by kernel_rfl)) (fun _ _ _ h => h) (Or.inl ⟨by rfl, ?_⟩) hHeld ?_ ?_
           rotate_left
           ·rintro w' ⟨s0, s1, s2, s3, s4⟩
            go_simp
            with_reducible rfl
           rotate_left
           ·simp only [Act.put, List.setIfInBounds_toArray, List.set_cons_zero, List.set_cons_succ, i64_w, i32_w]
            rfl
           refine pure_ (i := 19) (N := some 56) (v := ?_) (a' := ?_) #[true, true, true, true, true, true, true, true, true, true, true, true, true, true, true, true, true, true, true, true, false, false, false, false] rfl rfl (any_of HT_.out (by kernel_rfl)) (fun _ _ _ h => h) (Or.inl ⟨by rfl, ?_⟩) ?_ ?_
           rotate_left
           ·intro w'
            go_simp
            with_reducible rfl
           rotate_left
           ·simp only [Act.put, List.setIfInBounds_toArray, List.set_cons_zero, List.set_cons_succ, i64_w, i32_w]
            rfl
           refine take_ (i := 20) (N := some 57) (v := ?_) (a' := ?_) #[true, true, true, true, true, true, true, true, true, true, true, true, true, true, true, true, true, true, true, true, true, false, false, false] rfl rfl (take_ofW HT_.out HW_.out (by kernel_rfl)) (fun _ _ _ h => h) (Or.inl ⟨by rfl, ?_⟩) hHeld ?_ ?_
           rotate_left
           ·rintro w' ⟨s0, s1, s2, s3, s4⟩
            go_simp
            with_reducible rfl
           rotate_left
           ·simp only [Act.put, List.setIfInBounds_toArray, List.set_cons_zero, List.set_cons_succ, i64_w, i32_w]
            rfl
           refine pure_ (i := 21) (N := some 58) (v := ?_) (a' := ?_) #[true, true, true, true, true, true, true, true, true, true, true, true, true, true, true, true, true, true, true, true, true, true, false, false] rfl rfl (any_of HT_.out (by kernel_rfl)) (fun _ _ _ h => h) (Or.inl ⟨by rfl, ?_⟩) ?_ ?_
           rotate_left
           ·intro w'
            go_simp
            with_reducible rfl
           rotate_left
           ·simp only [Act.put, List.setIfInBounds_toArray, List.set_cons_zero, List.set_cons_succ, i64_w, i32_w]
            rfl
           refine pure_ (i := 22) (N := some 59) (v := ?_) (a' := ?_) #[true, true, true, true, true, true, true, true, true, true, true, true, true, true, true, true, true, true, true, true, true, true, true, false] rfl rfl (any_of HT_.out (by kernel_rfl)) (fun _ _ _ h => h) (Or.inl ⟨by rfl, ?_⟩) ?_ ?_
           rotate_left
           ·intro w'
            go_simp
            with_reducible rfl
           rotate_left
           ·simp only [Act.put, List.setIfInBounds_toArray, List.set_cons_zero, List.set_cons_succ, i64_w, i32_w]
            rfl
           refine last_ (i := 23) (N := none) #[true, true, true, true, true, true, true, true, true, true, true, true, true, true, true, true, true, true, true, true, true, true, true, true] rfl rfl (one_of HT_.out (by kernel_rfl)) (by decide) (fun K hK => ?_)
           refine skip_ (w1 := ?_) (by rfl) rfl ?_ ?_
           rotate_left
           ·go_simp
            rfl
           refine hK.out _ _ ?_
           clear hK K
           refine done_ (done_of HT_.out (by kernel_rfl)) ?_
           have p305 : 0 ≤ (x9_2 : Int) := of_decide_eq_true (by first|(with_reducible assumption)|assumption)
           have q305 : x9_2 < (l0.length : Int) := of_decide_eq_true (by first|(with_reducible assumption)|assumption)
           obtain ⟨ad305, A305_0, c305_0, e305, hx305_0, hl305_0, hi305_0⟩ := at_L12 HR0.out x9_2 p305 q305
           cases e305
           have hn305_0 : ad305.block ≠ go34 := Nat.ne_of_lt (Nat.lt_of_lt_of_le (by have := World.block_lt_of_cell? _ _ hx305_0; first|rwa [add_block] at this|exact this) GB34.out)
           replace hx305_0 := cB HB.out hx305_0
           have HR305_0 := aM hi305_0
           have HC305_0 := aM hl305_0
           clear hi305_0 hl305_0
           replace hx305_0 := (cell_far (p := ⟨go34, (x10_3 : Int).toNat, none⟩) (by first|(rw [add_block]; exact hn305_0)|(show (Addr.add _ _).block ≠ _; rw [add_block]; exact hn305_0)|exact hn305_0) (.int .i64 ji32)).trans hx305_0
           clear hn305_0
           replace p305 := eq_true p305
           replace q305 := eq_true q305
           have p306 : 0 ≤ (x10_3 : Int) := of_decide_eq_true (by first|(with_reducible assumption)|assumption)
           have q306 : x10_3 < ((rd_L12 l0 x9_2).length : Int) := of_decide_eq_true (by first|(with_reducible assumption)|assumption)
           obtain ⟨ad306, e306, hx306_0⟩ := Kd.at_bool HR305_0.out x10_3 p306 q306
           (try rw [← Nbq37.out] at hx306_0)
           cases e306
           have hn306_0 : ad306.block ≠ go34 := Nat.ne_of_lt (Nat.lt_of_lt_of_le (by have := World.block_lt_of_cell? _ _ hx306_0; first|rwa [add_block] at this|exact this) GB34.out)
           replace hx306_0 := cB HB.out hx306_0
           replace hx306_0 := (cell_far (p := ⟨go34, (x10_3 : Int).toNat, none⟩) (by first|(rw [add_block]; exact hn306_0)|(show (Addr.add _ _).block ≠ _; rw [add_block]; exact hn306_0)|exact hn306_0) (.int .i64 ji32)).trans hx306_0
           clear hn306_0
           replace p306 := eq_true p306
           replace q306 := eq_true q306
           try go_wp2
           have n0_ : Aside0 (Kd.S (Kd.slice 3 (Kd.int .i64)) 52 (w43.setCell ⟨go34, (x10_3 : Int).toNat, none⟩ (.int .i64 ji32)) w.heap.size (fun _ => True) (.slice (some ad297) x7_3.length co44) y304) := ⟨by (with_reducible repeat (first|apply Kd.S_alloc|apply Kd.S_drewN|apply Kd.S_drew)); exact HQ45.out⟩
           have n1_ : Aside0 (Below w.heap.size w (w43.setCell ⟨go34, (x10_3 : Int).toNat, none⟩ (.int .i64 ji32))) := ⟨by repeat (first|(with_reducible first|exact HB.out|apply lA|apply lN|apply lD|refine lS ?_ GB34.out)|exact HB.out)⟩
           generalize (w43.setCell ⟨go34, (x10_3 : Int).toNat, none⟩ (.int .i64 ji32)) = w47 at n0_ n1_ ⊢
           have HO_7 := n0_
           have HB := n1_
           clear n0_ n1_
           have n0_ := aM (Kd.S_drew HO_7.out)
           have n1_ := aM (lD HB.out)
           clear HO_7
           clear HB
           have HO_7 := n0_
           have HB := n1_
           clear n0_ n1_
           have p307 : 0 ≤ (x9_2 : Int) := of_decide_eq_true (by first|(with_reducible assumption)|assumption)
           have q307 : x9_2 < (y304.length : Int) := (by have h_ : (x9_2 : Int) < ((x7_3.length : Int) : Int) := of_decide_eq_true (by first|(with_reducible assumption)|assumption); first|(have e_ := (Kd.S_reads' HO_7.out).1; omega)|simpa only [Ny304.out, List.length_set] using h_)
           have ql307 : ((x9_2 : Int) < ((x7_3.length : Int) : Int)) = True := eq_true (of_decide_eq_true (by first|(with_reducible assumption)|assumption))
           obtain ⟨ad307, A307_0, c307_0, e307, hx307_0, hl307_0, hi307_0⟩ := at_L10 (Kd.S_reads' HO_7.out).2.2 x9_2 p307 q307
           obtain rfl : ad297 = ad307 := (by injection e307)
           obtain ⟨ce307, hce307, hMe307, hcc307⟩ := Kd.S_get HO_7.out [] x9_2 p307 (by first|exact q307|exact of_decide_eq_true (by first|(with_reducible assumption)|assumption)|(have e_ := (Kd.S_reads' HO_7.out).1; omega))
           obtain ⟨ve307_0, rfl, ge307_0⟩ := hMe307
           have hv307_0 := hcc307 0 _ rfl
           rw [Nat.add_zero, show ((Kd.slice 3 (Kd.int .i64))).sz = 1 from rfl, Nat.mul_one] at hv307_0
           replace hv307_0 := Option.some.inj (hv307_0.symm.trans hx307_0)
           rw [hv307_0] at ge307_0
           have HL307_0 := aM (show Kd.R (Kd.int .i64) 3 _ _ _ _ (rd_L10 y304 x9_2) from ge307_0)
           clear hv307_0 ge307_0
           have HX307_0 := aM hx307_0
           clear hcc307 hce307
           have HR307_0 := aM hi307_0
           have HC307_0 := aM hl307_0
           clear hi307_0 hl307_0
           replace p307 := eq_true p307
           replace q307 := eq_true q307
           have p308 : 0 ≤ (x9_2 : Int) := of_decide_eq_true (by first|(with_reducible assumption)|assumption)
           have q308 : x9_2 < (y304.length : Int) := (by have h_ : (x9_2 : Int) < ((x7_3.length : Int) : Int) := of_decide_eq_true (by first|(with_reducible assumption)|assumption); first|(have e_ := (Kd.S_reads' HO_7.out).1; omega)|simpa only [Ny304.out, List.length_set] using h_)
           have ql308 : ((x9_2 : Int) < ((x7_3.length : Int) : Int)) = True := eq_true (of_decide_eq_true (by first|(with_reducible assumption)|assumption))
           obtain ⟨ad308, A308_0, c308_0, e308, hx308_0, hl308_0, hi308_0⟩ := at_L10 (Kd.S_reads' HO_7.out).2.2 x9_2 p308 q308
           obtain rfl : ad297 = ad308 := (by injection e308)
           obtain ⟨ce308, hce308, hMe308, hcc308⟩ := Kd.S_get HO_7.out [] x9_2 p308 (by first|exact q308|exact of_decide_eq_true (by first|(with_reducible assumption)|assumption)|(have e_ := (Kd.S_reads' HO_7.out).1; omega))
           obtain ⟨ve308_0, rfl, ge308_0⟩ := hMe308
           have hv308_0 := hcc308 0 _ rfl
           rw [Nat.add_zero, show ((Kd.slice 3 (Kd.int .i64))).sz = 1 from rfl, Nat.mul_one] at hv308_0
           replace hv308_0 := Option.some.inj (hv308_0.symm.trans hx308_0)
           rw [hv308_0] at ge308_0
           have HL308_0 := aM (show Kd.R (Kd.int .i64) 3 _ _ _ _ (rd_L10 y304 x9_2) from ge308_0)
           clear hv308_0 ge308_0
           have HX308_0 := aM hx308_0
           clear hcc308 hce308
           have HR308_0 := aM hi308_0
           have HC308_0 := aM hl308_0
           clear hi308_0 hl308_0
           replace p308 := eq_true p308
           replace q308 := eq_true q308
           have ea_ := Option.some.inj (hx307_0.symm.trans hx308_0)
           injection ea_ with ea_ en_ ec_
           subst ea_
           subst ec_
           clear en_
           have p309 : 0 ≤ (x10_3 : Int) := of_decide_eq_true (by first|(with_reducible assumption)|assumption)
           have q309 : x10_3 < ((rd_L10 y304 x9_2).length : Int) := of_decide_eq_true (by first|(with_reducible assumption)|assumption)
           obtain ⟨ad309, e309, hx309_0⟩ := Kd.at_int (by repeat (first|(with_reducible exact HR308_0.out)|(with_reducible refine Kd.C_alloc ?_ _)|(with_reducible refine Kd.C_drewN ?_ _)|(with_reducible refine Kd.C_drew ?_)|exact HR308_0.out)) x10_3 p309 q309
           cases e309
           replace p309 := eq_true p309
           replace q309 := eq_true q309
           have p310 : 0 ≤ ((ji24) : Int) := of_decide_eq_true (by first|(with_reducible assumption)|assumption)
           have q310 : (ji24) < (y304.length : Int) := (by have h_ : ((ji24) : Int) < ((x7_3.length : Int) : Int) := of_decide_eq_true (by first|(with_reducible assumption)|assumption); first|(have e_ := (Kd.S_reads' HO_7.out).1; omega)|simpa only [Ny304.out, List.length_set] using h_)
           have ql310 : (((ji24) : Int) < ((x7_3.length : Int) : Int)) = True := eq_true (of_decide_eq_true (by first|(with_reducible assumption)|assumption))
           obtain ⟨ad310, A310_0, c310_0, e310, hx310_0, hl310_0, hi310_0⟩ := at_L10 (Kd.S_reads' HO_7.out).2.2 (ji24) p310 q310
           obtain rfl : ad297 = ad310 := (by injection e310)
           obtain ⟨ce310, hce310, hMe310, hcc310⟩ := Kd.S_get HO_7.out [] (ji24) p310 (by first|exact q310|exact of_decide_eq_true (by first|(with_reducible assumption)|assumption)|(have e_ := (Kd.S_reads' HO_7.out).1; omega))
           obtain ⟨ve310_0, rfl, ge310_0⟩ := hMe310
           have hv310_0 := hcc310 0 _ rfl
           rw [Nat.add_zero, show ((Kd.slice 3 (Kd.int .i64))).sz = 1 from rfl, Nat.mul_one] at hv310_0
           replace hv310_0 := Option.some.inj (hv310_0.symm.trans hx310_0)
           rw [hv310_0] at ge310_0
           have HL310_0 := aM (show Kd.R (Kd.int .i64) 3 _ _ _ _ (rd_L10 y304 (ji24)) from ge310_0)
           clear hv310_0 ge310_0
           have HX310_0 := aM hx310_0
           clear hcc310 hce310
           have HR310_0 := aM hi310_0
           have HC310_0 := aM hl310_0
           clear hi310_0 hl310_0
           replace p310 := eq_true p310
           replace q310 := eq_true q310
           have p311 : 0 ≤ ((ji29) : Int) := of_decide_eq_true (by first|(with_reducible assumption)|assumption)
           have q311 : (ji29) < ((rd_L10 y304 (ji24)).length : Int) := of_decide_eq_true (by first|(with_reducible assumption)|assumption)
           obtain ⟨ad311, e311, hx311_0⟩ := Kd.at_int (by repeat (first|(with_reducible exact HR310_0.out)|(with_reducible refine Kd.C_alloc ?_ _)|(with_reducible refine Kd.C_drewN ?_ _)|(with_reducible refine Kd.C_drew ?_)|exact HR310_0.out)) (ji29) p311 q311
           cases e311
           replace p311 := eq_true p311
           replace q311 := eq_true q311
           have p42 : 0 ≤ (x10_3 : Int) := of_decide_eq_true (by first|(with_reducible assumption)|assumption)
           have q42 : (x10_3 : Int) < (((rd_L10 y304 x9_2).length : Int) : Int) := of_decide_eq_true (by first|(with_reducible assumption)|assumption)
           obtain ⟨go42, co42, eo42, gb42, gl42, cl42, HG42⟩ := Kd.R_form HL307_0.out (by omega)
           (first|cases eo42|(injection eo42 with ea_ en_ ec_; (first|subst ea_|(injection ea_ with ea_; subst ea_)); subst ec_; clear en_))
           have GB42 := aM gb42
           have GG42 := aM HG42
           clear gb42 gl42 HG42
           (first|simp only [add_plain] at hx309_0|skip)
           obtain ⟨hx42_0, hf42_0⟩ := Kd.R_celln 0 HL307_0.out (x10_3 : Int) p42 q42
           replace p42 := eq_true p42
           replace q42 := eq_true q42
           have el49 : y304.length = x7_3.length := by rw [Ny304.out, List.length_set]
           have hq49 : (x9_2 : Int) < (y304.length : Int) := (by have h_ : (x9_2 : Int) < ((x7_3.length : Int) : Int) := of_decide_eq_true (by first|(with_reducible assumption)|assumption); first|exact h_|(have e_ := (Kd.S_reads' HO_7.out).1; omega)|simpa only [Ny304.out, List.length_set] using h_)
           obtain ⟨oki49, ce49, hcl49, hM49, hcc49, hok49, hbk49⟩ := Kd.S_borrow HO_7.out [] (x9_2 : Int) (of_decide_eq_true (by first|(with_reducible assumption)|assumption)) (by have h_ := hq49; rw [el49] at h_; exact h_)
           obtain ⟨ve49_0, rfl, ge49_0⟩ := hM49
           have hv49 := hcc49 0 _ rfl
           rw [Nat.add_zero, show ((Kd.slice 3 (Kd.int .i64))).sz = 1 from rfl, Nat.mul_one] at hv49
           replace hv49 := Option.some.inj (hv49.symm.trans HX307_0.out)
           subst hv49
           clear hcc49 hcl49
           replace ge49_0 := (show Kd.R (Kd.int .i64) 3 _ _ _ _ (rd_L10 y304 x9_2) from ge49_0)
           have HP49 := Kd.R_putg ge49_0 (x10_3 : Int) ji41
           rw [← Ny312.out] at HP49
           have HS49 := hbk49 HP49.2 (fun k_ e_ => by injection e_ with e_; subst e_; exact ge49_0.1 _ rfl) (x' := y312) (Kd.M_row HP49.1)
           rw [← Ny314.out] at HS49
           have HQ49 := aM HS49
           clear HP49 HS49 hbk49 hok49
           refine start_ (n := 25) (S := fun w' => w'.cell? (ad297.add (x9_2).toNat) = some (.slice (some ⟨go42, 0, none⟩) (rd_L10 y304 x9_2).length c307_0) ∧ w'.cell? (ad297.add (x9_2).toNat) = some (.slice (some ⟨go42, 0, none⟩) (rd_L10 y304 x9_2).length c307_0) ∧ w'.cell? ⟨go42, (x10_3).toNat, none⟩ = some (.int .i64 (rd (rd_L10 y304 x9_2) x10_3)) ∧ w'.cell? (ad297.add ((ji24)).toNat) = some (.slice (some ad311) (rd_L10 y304 (ji24)).length c310_0) ∧ w'.cell? (ad311.add ((ji29)).toNat) = some (.int .i64 (rd (rd_L10 y304 (ji24)) (ji29)))) (ds := [24]) #[false, false, false, false, false, false, false, false, false, false, false, false, false, false, false, false, false, false, false, false, false, false, false, false, false] (by kernel_rfl) rfl rfl ⟨hx307_0, hx308_0, hx309_0, hx310_0, hx311_0⟩ (fun hHeld => ?_); refine with_tabW emenderref23_table.tab14 emenderref23_table.bits14 (fun HT_ HW_ => ?_)
           generalize w47.drew = w48 at HO_7 HB GG42 HL307_0 HL308_0 HL310_0 HQ45 HQ49 HR307_0 HR308_0 HR310_0 HX307_0 HX308_0 HX310_0 hf42_0 hx307_0 hx308_0 hx309_0 hx310_0 hx311_0 hx42_0 hHeld ⊢
           refine pure_ (i := 0) (N := some 67) (v := ?_) (a' := ?_) #[true, false, false, false, false, false, false, false, false, false, false, false, false, false, false, false, false, false, false, false, false, false, false, false, false] rfl rfl (any_of HT_.out (by kernel_rfl)) (fun _ _ _ h => h) (Or.inl ⟨by rfl, ?_⟩) ?_ ?_
           rotate_left
           ·intro w'
            go_simp
            with_reducible rfl
           rotate_left
           ·simp only [Act.put, List.setIfInBounds_toArray, List.set_cons_zero, List.set_cons_succ, i64_w, i32_w]
            rfl
           refine pure_ (i := 1) (N := some 68) (v := ?_) (a' := ?_) #[true, true, false, false, false, false, false, false, false, false, false, false, false, false, false, false, false, false, false, false, false, false, false, false, false] rfl rfl (any_of HT_.out (by kernel_rfl)) (fun _ _ _ h => h) (Or.inl ⟨by rfl, ?_⟩) ?_ ?_
           rotate_left
           ·intro w'
            go_simp
            with_reducible rfl
           rotate_left
           ·simp only [Act.put, List.setIfInBounds_toArray, List.set_cons_zero, List.set_cons_succ, i64_w, i32_w]
            rfl
           refine pure_ (i := 2) (N := some 69) (v := ?_) (a' := ?_) #[true, true, true, false, false, false, false, false, false, false, false, false, false, false, false, false, false, false, false, false, false, false, false, false, false] rfl rfl (any_of HT_.out (by kernel_rfl)) (fun _ _ _ h => h) (Or.inl ⟨by rfl, ?_⟩) ?_ ?_
           rotate_left
           ·intro w'
            go_simp
            with_reducible rfl
           rotate_left
           ·simp only [Act.put, List.setIfInBounds_toArray, List.set_cons_zero, List.set_cons_succ, i64_w, i32_w]
            rfl
           refine pure_ (i := 4) (N := some 71) (v := ?_) (a' := ?_) #[true, true, true, false, true, false, false, false, false, false, false, false, false, false, false, false, false, false, false, false, false, false, false, false, false] rfl rfl (any_of HT_.out (by kernel_rfl)) (fun _ _ _ h => h) (Or.inl ⟨by rfl, ?_⟩) ?_ ?_
           rotate_left
           ·intro w'
            go_simp
            with_reducible rfl
           rotate_left
           ·simp only [Act.put, List.setIfInBounds_toArray, List.set_cons_zero, List.set_cons_succ, i64_w, i32_w]
            rfl
           refine pure_ (i := 5) (N := some 72) (v := ?_) (a' := ?_) #[true, true, true, false, true, true, false, false, false, false, false, false, false, false, false, false, false, false, false, false, false, false, false, false, false] rfl rfl (any_of HT_.out (by kernel_rfl)) (fun _ _ _ h => h) (Or.inl ⟨by rfl, ?_⟩) ?_ ?_
           rotate_left
           ·intro w'
            go_simp
            with_reducible rfl
           rotate_left
           ·simp only [Act.put, List.setIfInBounds_toArray, List.set_cons_zero, List.set_cons_succ, i64_w, i32_w]
            rfl
           refine pure_ (i := 6) (N := some 73) (v := ?_) (a' := ?_) #[true, true, true, false, true, true, true, false, false, false, false, false, false, false, false, false, false, false, false, false, false, false, false, false, false] rfl rfl (any_of HT_.out (by kernel_rfl)) (fun _ _ _ h => h) (Or.inl ⟨by rfl, ?_⟩) ?_ ?_
           rotate_left
           ·intro w'
            go_simp
            with_reducible rfl
           rotate_left
           ·simp only [Act.put, List.setIfInBounds_toArray, List.set_cons_zero, List.set_cons_succ, i64_w, i32_w]
            rfl
           refine pure_ (i := 7) (N := some 74) (v := ?_) (a' := ?_) #[true, true, true, false, true, true, true, true, false, false, false, false, false, false, false, false, false, false, false, false, false, false, false, false, false] rfl rfl (any_of HT_.out (by kernel_rfl)) (fun _ _ _ h => h) (Or.inl ⟨by rfl, ?_⟩) ?_ ?_
           rotate_left
           ·intro w'
            go_simp
            with_reducible rfl
           rotate_left
           ·simp only [Act.put, List.setIfInBounds_toArray, List.set_cons_zero, List.set_cons_succ, i64_w, i32_w]
            rfl
           refine pure_ (i := 9) (N := some 76) (v := ?_) (a' := ?_) #[true, true, true, false, true, true, true, true, false, true, false, false, false, false, false, false, false, false, false, false, false, false, false, false, false] rfl rfl (any_of HT_.out (by kernel_rfl)) (fun _ _ _ h => h) (Or.inl ⟨by rfl, ?_⟩) ?_ ?_
           rotate_left
           ·intro w'
            go_simp
            with_reducible rfl
           rotate_left
           ·simp only [Act.put, List.setIfInBounds_toArray, List.set_cons_zero, List.set_cons_succ, i64_w, i32_w]
            rfl
           refine pure_ (i := 12) (N := some 79) (v := ?_) (a' := ?_) #[true, true, true, false, true, true, true, true, false, true, false, false, true, false, false, false, false, false, false, false, false, false, false, false, false] rfl rfl (any_of HT_.out (by kernel_rfl)) (fun _ _ _ h => h) (Or.inl ⟨by rfl, ?_⟩) ?_ ?_
           rotate_left
           ·intro w'
            go_simp
            with_reducible rfl
           rotate_left
           ·simp only [Act.put, List.setIfInBounds_toArray, List.set_cons_zero, List.set_cons_succ, i64_w, i32_w]
            rfl
           refine pure_ (i := 13) (N := some 80) (v := ?_) (a' := ?_) #[true, true, true, false, true, true, true, true, false, true, false, false, true, true, false, false, false, false, false, false, false, false, false, false, false] rfl rfl (any_of HT_.out (by kernel_rfl)) (fun _ _ _ h => h) (Or.inl ⟨by rfl, ?_⟩) ?_ ?_
           rotate_left
           ·intro w'
            go_simp
            with_reducible rfl
           rotate_left
           ·simp only [Act.put, List.setIfInBounds_toArray, List.set_cons_zero, List.set_cons_succ, i64_w, i32_w]
            rfl
           refine pure_ (i := 14) (N := some 81) (v := ?_) (a' := ?_) #[true, true, true, false, true, true, true, true, false, true, false, false, true, true, true, false, false, false, false, false, false, false, false, false, false] rfl rfl (any_of HT_.out (by kernel_rfl)) (fun _ _ _ h => h) (Or.inl ⟨by rfl, ?_⟩) ?_ ?_
           rotate_left
           ·intro w'
            go_simp
            with_reducible rfl
           rotate_left
           ·simp only [Act.put, List.setIfInBounds_toArray, List.set_cons_zero, List.set_cons_succ, i64_w, i32_w]
            rfl
           refine pure_ (i := 15) (N := some 82) (v := ?_) (a' := ?_) #[true, true, true, false, true, true, true, true, false, true, false, false, true, true, true, true, false, false, false, false, false, false, false, false, false] rfl rfl (any_of HT_.out (by kernel_rfl)) (fun _ _ _ h => h) (Or.inl ⟨by rfl, ?_⟩) ?_ ?_
           rotate_left
           ·intro w'
            go_simp
            with_reducible rfl
           rotate_left
           ·simp only [Act.put, List.setIfInBounds_toArray, List.set_cons_zero, List.set_cons_succ, i64_w, i32_w]
            rfl
           refine pure_ (i := 17) (N := some 84) (v := ?_) (a' := ?_) #[true, true, true, false, true, true, true, true, false, true, false, false, true, true, true, true, false, true, false, false, false, false, false, false, false] rfl rfl (any_of HT_.out (by kernel_rfl)) (fun _ _ _ h => h) (Or.inl ⟨by rfl, ?_⟩) ?_ ?_
           rotate_left
           ·intro w'
            go_simp
            with_reducible rfl
           rotate_left
           ·simp only [Act.put, List.setIfInBounds_toArray, List.set_cons_zero, List.set_cons_succ, i64_w, i32_w]
            rfl
           refine pure_ (i := 18) (N := some 85) (v := ?_) (a' := ?_) #[true, true, true, false, true, true, true, true, false, true, false, false, true, true, true, true, false, true, true, false, false, false, false, false, false] rfl rfl (any_of HT_.out (by kernel_rfl)) (fun _ _ _ h => h) (Or.inl ⟨by rfl, ?_⟩) ?_ ?_
           rotate_left
           ·intro w'
            go_simp
            with_reducible rfl
           rotate_left
           ·simp only [Act.put, List.setIfInBounds_toArray, List.set_cons_zero, List.set_cons_succ, i64_w, i32_w]
            rfl
           refine take_ (i := 3) (N := some 70) (v := ?_) (a' := ?_) #[true, true, true, true, true, true, true, true, false, true, false, false, true, true, true, true, false, true, true, false, false, false, false, false, false] rfl rfl (take_ofW HT_.out HW_.out (by kernel_rfl)) (fun _ _ _ h => h) (Or.inl ⟨by rfl, ?_⟩) hHeld ?_ ?_
           rotate_left
           ·rintro w' ⟨s0, s1, s2, s3, s4⟩
            go_simp
            with_reducible rfl
           rotate_left
           ·simp only [Act.put, List.setIfInBounds_toArray, List.set_cons_zero, List.set_cons_succ, i64_w, i32_w]
            rfl
           refine take_ (i := 8) (N := some 75) (v := ?_) (a' := ?_) #[true, true, true, true, true, true, true, true, true, true, false, false, true, true, true, true, false, true, true, false, false, false, false, false, false] rfl rfl (take_ofW HT_.out HW_.out (by kernel_rfl)) (fun _ _ _ h => h) (Or.inl ⟨by rfl, ?_⟩) hHeld ?_ ?_
           rotate_left
           ·rintro w' ⟨s0, s1, s2, s3, s4⟩
            go_simp
            with_reducible rfl
           rotate_left
           ·simp only [Act.put, List.setIfInBounds_toArray, List.set_cons_zero, List.set_cons_succ, i64_w, i32_w]
            rfl
           refine pure_ (i := 10) (N := some 77) (v := ?_) (a' := ?_) #[true, true, true, true, true, true, true, true, true, true, true, false, true, true, true, true, false, true, true, false, false, false, false, false, false] rfl rfl (any_of HT_.out (by kernel_rfl)) (fun _ _ _ h => h) (Or.inl ⟨by rfl, ?_⟩) ?_ ?_
           rotate_left
           ·intro w'
            go_simp
            with_reducible rfl
           rotate_left
           ·simp only [Act.put, List.setIfInBounds_toArray, List.set_cons_zero, List.set_cons_succ, i64_w, i32_w]
            rfl
           refine take_ (i := 11) (N := some 78) (v := ?_) (a' := ?_) #[true, true, true, true, true, true, true, true, true, true, true, true, true, true, true, true, false, true, true, false, false, false, false, false, false] rfl rfl (take_ofW HT_.out HW_.out (by kernel_rfl)) (fun _ _ _ h => h) (Or.inl ⟨by rfl, ?_⟩) hHeld ?_ ?_
           rotate_left
           ·rintro w' ⟨s0, s1, s2, s3, s4⟩
            go_simp
            with_reducible rfl
           rotate_left
           ·simp only [Act.put, List.setIfInBounds_toArray, List.set_cons_zero, List.set_cons_succ, i64_w, i32_w]
            rfl
           refine take_ (i := 16) (N := some 83) (v := ?_) (a' := ?_) #[true, true, true, true, true, true, true, true, true, true, true, true, true, true, true, true, true, true, true, false, false, false, false, false, false] rfl rfl (take_ofW HT_.out HW_.out (by kernel_rfl)) (fun _ _ _ h => h) (Or.inl ⟨by rfl, ?_⟩) hHeld ?_ ?_
           rotate_left
           ·rintro w' ⟨s0, s1, s2, s3, s4⟩
            go_simp
            with_reducible rfl
           rotate_left
           ·simp only [Act.put, List.setIfInBounds_toArray, List.set_cons_zero, List.set_cons_succ, i64_w, i32_w]
            rfl
           refine pure_ (i := 19) (N := some 86) (v := ?_) (a' := ?_) #[true, true, true, true, true, true, true, true, true, true, true, true, true, true, true, true, true, true, true, true, false, false, false, false, false] rfl rfl (any_of HT_.out (by kernel_rfl)) (fun _ _ _ h => h) (Or.inl ⟨by rfl, ?_⟩) ?_ ?_
           rotate_left
           ·intro w'
            go_simp
            with_reducible rfl
           rotate_left
           ·simp only [Act.put, List.setIfInBounds_toArray, List.set_cons_zero, List.set_cons_succ, i64_w, i32_w]
            rfl
           refine take_ (i := 20) (N := some 87) (v := ?_) (a' := ?_) #[true, true, true, true, true, true, true, true, true, true, true, true, true, true, true, true, true, true, true, true, true, false, false, false, false] rfl rfl (take_ofW HT_.out HW_.out (by kernel_rfl)) (fun _ _ _ h => h) (Or.inl ⟨by rfl, ?_⟩) hHeld ?_ ?_
           rotate_left
           ·rintro w' ⟨s0, s1, s2, s3, s4⟩
            go_simp
            with_reducible rfl
           rotate_left
           ·simp only [Act.put, List.setIfInBounds_toArray, List.set_cons_zero, List.set_cons_succ, i64_w, i32_w]
            rfl
           refine pure_ (i := 21) (N := some 88) (v := ?_) (a' := ?_) #[true, true, true, true, true, true, true, true, true, true, true, true, true, true, true, true, true, true, true, true, true, true, false, false, false] rfl rfl (any_of HT_.out (by kernel_rfl)) (fun _ _ _ h => h) (Or.inl ⟨by rfl, ?_⟩) ?_ ?_
           rotate_left
           ·intro w'
            go_simp
            with_reducible rfl
           rotate_left
           ·simp only [Act.put, List.setIfInBounds_toArray, List.set_cons_zero, List.set_cons_succ, i64_w, i32_w]
            rfl
           refine pure_ (i := 22) (N := some 89) (v := ?_) (a' := ?_) #[true, true, true, true, true, true, true, true, true, true, true, true, true, true, true, true, true, true, true, true, true, true, true, false, false] rfl rfl (any_of HT_.out (by kernel_rfl)) (fun _ _ _ h => h) (Or.inl ⟨by rfl, ?_⟩) ?_ ?_
           rotate_left
           ·intro w'
            go_simp
            with_reducible rfl
           rotate_left
           ·simp only [Act.put, List.setIfInBounds_toArray, List.set_cons_zero, List.set_cons_succ, i64_w, i32_w]
            rfl
           refine pure_ (i := 23) (N := some 90) (v := ?_) (a' := ?_) #[true, true, true, true, true, true, true, true, true, true, true, true, true, true, true, true, true, true, true, true, true, true, true, true, false] rfl rfl (any_of HT_.out (by kernel_rfl)) (fun _ _ _ h => h) (Or.inl ⟨by rfl, ?_⟩) ?_ ?_
           rotate_left
           ·intro w'
            go_simp
            with_reducible rfl
           rotate_left
           ·simp only [Act.put, List.setIfInBounds_toArray, List.set_cons_zero, List.set_cons_succ, i64_w, i32_w]
            rfl
           refine last_ (i := 24) (N := none) #[true, true, true, true, true, true, true, true, true, true, true, true, true, true, true, true, true, true, true, true, true, true, true, true, true] rfl rfl (one_of HT_.out (by kernel_rfl)) (by decide) (fun K hK => ?_)
           refine skip_ (w1 := ?_) (by rfl) rfl ?_ ?_
           rotate_left
           ·go_simp
            rfl
           refine hK.out _ _ ?_
           clear hK K
           refine done_ (done_of HT_.out (by kernel_rfl)) ?_
           try go_wp2
           go_roundg k3
           case measure => have := HK1.out; have := HK2.out; have := HK3.out; omega
           case rel => exact ⟨(y314), (wrap64 (x10_3 - 1)), (by first|rfl|(simp; done)|(simp [*]; done)), H', ⟨by have := HK1.out; have := HK2.out; have := HK3.out; omega⟩, ⟨by (with_reducible repeat (first|apply Kd.S_alloc|apply Kd.S_drewN|apply Kd.S_drew)); exact HQ49.out⟩, ⟨by repeat (first|(with_reducible first|exact HB.out|apply lA|apply lN|apply lD|refine lS ?_ GB42.out)|exact HB.out)⟩⟩
          ·replace c38 := Bool.eq_false_iff.mpr c38
           subst c38
           have H1 : (emenderref23_table.l2 k3 l0 a2 y304 x9_2 (wrap64 (x10_3 - 1))) = some r := by rw [if_neg (show ¬ (false = true) by decide)] at H; exact H
           clear H
           have H := H1
           clear H1
           have H' := aM H
           clear H
           try go_wp2
           have n0_ := aM (Kd.S_drew HO_7.out)
           have n1_ := aM (lD HB.out)
           clear HO_7
           clear HB
           have HO_7 := n0_
           have HB := n1_
           clear n0_ n1_
           obtain ⟨Ao52, co52, eo52⟩ := Kd.S_slice HO_7.out
           (first|subst eo52|(injection eo52 with f1_ f2_ f3_; have f4_ := f1_.symm; have f5_ := f3_.symm; clear f1_ f2_ f3_; subst f4_; subst f5_))
           have p297 : 0 ≤ (x9_2 : Int) := of_decide_eq_true (by first|(with_reducible assumption)|assumption)
           have q297 : x9_2 < (x7_3.length : Int) := of_decide_eq_true (by first|(with_reducible assumption)|assumption)
           obtain ⟨ad297, A297_0, c297_0, e297, hx297_0, hl297_0, hi297_0⟩ := at_L10 (Kd.S_reads' HO_7.out).2.2 x9_2 p297 q297
           cases e297
           obtain ⟨ce297, hce297, hMe297, hcc297⟩ := Kd.S_get HO_7.out [] x9_2 p297 (by first|exact q297|exact of_decide_eq_true (by first|(with_reducible assumption)|assumption)|(have e_ := (Kd.S_reads' HO_7.out).1; omega))
           obtain ⟨ve297_0, rfl, ge297_0⟩ := hMe297
           have hv297_0 := hcc297 0 _ rfl
           rw [Nat.add_zero, show ((Kd.slice 3 (Kd.int .i64))).sz = 1 from rfl, Nat.mul_one] at hv297_0
           replace hv297_0 := Option.some.inj (hv297_0.symm.trans hx297_0)
           rw [hv297_0] at ge297_0
           have HL297_0 := aM (show Kd.R (Kd.int .i64) 3 _ _ _ _ (rd_L10 x7_3 x9_2) from ge297_0)
           clear hv297_0 ge297_0
           have HX297_0 := aM hx297_0
           clear hcc297 hce297
           have HR297_0 := aM hi297_0
           have HC297_0 := aM hl297_0
           clear hi297_0 hl297_0
           replace p297 := eq_true p297
           replace q297 := eq_true q297
           have p298 : 0 ≤ ((ji24) : Int) := of_decide_eq_true (by first|(with_reducible assumption)|assumption)
           have q298 : (ji24) < (x7_3.length : Int) := of_decide_eq_true (by first|(with_reducible assumption)|assumption)
           obtain ⟨ad298, A298_0, c298_0, e298, hx298_0, hl298_0, hi298_0⟩ := at_L10 (Kd.S_reads' HO_7.out).2.2 (ji24) p298 q298
           obtain rfl : ad297 = ad298 := (by injection e298)
           obtain ⟨ce298, hce298, hMe298, hcc298⟩ := Kd.S_get HO_7.out [] (ji24) p298 (by first|exact q298|exact of_decide_eq_true (by first|(with_reducible assumption)|assumption)|(have e_ := (Kd.S_reads' HO_7.out).1; omega))
           obtain ⟨ve298_0, rfl, ge298_0⟩ := hMe298
           have hv298_0 := hcc298 0 _ rfl
           rw [Nat.add_zero, show ((Kd.slice 3 (Kd.int .i64))).sz = 1 from rfl, Nat.mul_one] at hv298_0
           replace hv298_0 := Option.some.inj (hv298_0.symm.trans hx298_0)
           rw [hv298_0] at ge298_0
           have HL298_0 := aM (show Kd.R (Kd.int .i64) 3 _ _ _ _ (rd_L10 x7_3 (ji24)) from ge298_0)
           clear hv298_0 ge298_0
           have HX298_0 := aM hx298_0
           clear hcc298 hce298
           have HR298_0 := aM hi298_0
           have HC298_0 := aM hl298_0
           clear hi298_0 hl298_0
           replace p298 := eq_true p298
           replace q298 := eq_true q298
           have p299 : 0 ≤ (x10_3 : Int) := of_decide_eq_true (by first|(with_reducible assumption)|assumption)
           have q299 : x10_3 < ((rd_L10 x7_3 (ji24)).length : Int) := of_decide_eq_true (by first|(with_reducible assumption)|assumption)
           obtain ⟨ad299, e299, hx299_0⟩ := Kd.at_int (by repeat (first|(with_reducible exact HR298_0.out)|(with_reducible refine Kd.C_alloc ?_ _)|(with_reducible refine Kd.C_drewN ?_ _)|(with_reducible refine Kd.C_drew ?_)|exact HR298_0.out)) x10_3 p299 q299
           cases e299
           replace p299 := eq_true p299
           replace q299 := eq_true q299
           have p300 : 0 ≤ (x9_2 : Int) := of_decide_eq_true (by first|(with_reducible assumption)|assumption)
           have q300 : x9_2 < (x7_3.length : Int) := of_decide_eq_true (by first|(with_reducible assumption)|assumption)
           obtain ⟨ad300, A300_0, c300_0, e300, hx300_0, hl300_0, hi300_0⟩ := at_L10 (Kd.S_reads' HO_7.out).2.2 x9_2 p300 q300
           obtain rfl : ad297 = ad300 := (by injection e300)
           obtain ⟨ce300, hce300, hMe300, hcc300⟩ := Kd.S_get HO_7.out [] x9_2 p300 (by first|exact q300|exact of_decide_eq_true (by first|(with_reducible assumption)|assumption)|(have e_ := (Kd.S_reads' HO_7.out).1; omega))
           obtain ⟨ve300_0, rfl, ge300_0⟩ := hMe300
           have hv300_0 := hcc300 0 _ rfl
           rw [Nat.add_zero, show ((Kd.slice 3 (Kd.int .i64))).sz = 1 from rfl, Nat.mul_one] at hv300_0
           replace hv300_0 := Option.some.inj (hv300_0.symm.trans hx300_0)
           rw [hv300_0] at ge300_0
           have HL300_0 := aM (show Kd.R (Kd.int .i64) 3 _ _ _ _ (rd_L10 x7_3 x9_2) from ge300_0)
           clear hv300_0 ge300_0
           have HX300_0 := aM hx300_0
           clear hcc300 hce300
           have HR300_0 := aM hi300_0
           have HC300_0 := aM hl300_0
           clear hi300_0 hl300_0
           replace p300 := eq_true p300
           replace q300 := eq_true q300
           have ea_ := Option.some.inj (hx297_0.symm.trans hx300_0)
           injection ea_ with ea_ en_ ec_
           subst ea_
           subst ec_
           clear en_
           have p301 : 0 ≤ ((ji29) : Int) := of_decide_eq_true (by first|(with_reducible assumption)|assumption)
           have q301 : (ji29) < ((rd_L10 x7_3 x9_2).length : Int) := of_decide_eq_true (by first|(with_reducible assumption)|assumption)
           obtain ⟨ad301, e301, hx301_0⟩ := Kd.at_int (by repeat (first|(with_reducible exact HR300_0.out)|(with_reducible refine Kd.C_alloc ?_ _)|(with_reducible refine Kd.C_drewN ?_ _)|(with_reducible refine Kd.C_drew ?_)|exact HR300_0.out)) (ji29) p301 q301
           cases e301
           replace p301 := eq_true p301
           replace q301 := eq_true q301
           have p34 : 0 ≤ (x10_3 : Int) := of_decide_eq_true (by first|(with_reducible assumption)|assumption)
           have q34 : (x10_3 : Int) < (((rd_L10 x7_3 x9_2).length : Int) : Int) := of_decide_eq_true (by first|(with_reducible assumption)|assumption)
           obtain ⟨go34, co34, eo34, gb34, gl34, cl34, HG34⟩ := Kd.R_form HL297_0.out (by omega)
           (first|cases eo34|(injection eo34 with ea_ en_ ec_; (first|subst ea_|(injection ea_ with ea_; subst ea_)); subst ec_; clear en_))
           have GB34 := aM gb34
           have GG34 := aM HG34
           clear gb34 gl34 HG34
           (first|simp only [add_plain] at hx301_0|skip)
           obtain ⟨hx34_0, hf34_0⟩ := Kd.R_celln 0 HL297_0.out (x10_3 : Int) p34 q34
           replace p34 := eq_true p34
           replace q34 := eq_true q34
           have hq53 : (x9_2 : Int) < (x7_3.length : Int) := (by have h_ : (x9_2 : Int) < ((x7_3.length : Int) : Int) := of_decide_eq_true (by first|(with_reducible assumption)|assumption); first|exact h_|(have e_ := (Kd.S_reads' HO_7.out).1; omega)|simpa only [List.length_set, List.length_set] using h_)
           obtain ⟨oki53, ce53, hcl53, hM53, hcc53, hok53, hbk53⟩ := Kd.S_borrow HO_7.out [] (x9_2 : Int) (of_decide_eq_true (by first|(with_reducible assumption)|assumption)) hq53
           obtain ⟨ve53_0, rfl, ge53_0⟩ := hM53
           have hv53 := hcc53 0 _ rfl
           rw [Nat.add_zero, show ((Kd.slice 3 (Kd.int .i64))).sz = 1 from rfl, Nat.mul_one] at hv53
           replace hv53 := Option.some.inj (hv53.symm.trans HX297_0.out)
           subst hv53
           clear hcc53 hcl53
           replace ge53_0 := (show Kd.R (Kd.int .i64) 3 _ _ _ _ (rd_L10 x7_3 x9_2) from ge53_0)
           have HP53 := Kd.R_putg ge53_0 (x10_3 : Int) ji32
           rw [← Ny302.out] at HP53
           have HS53 := hbk53 HP53.2 (fun k_ e_ => by injection e_ with e_; subst e_; exact ge53_0.1 _ rfl) (x' := y302) (Kd.M_row HP53.1)
           rw [← Ny304.out] at HS53
           have HQ53 := aM HS53
           clear HP53 HS53 hbk53 hok53
           refine start_ (n := 24) (S := fun w' => w'.cell? (ad297.add (x9_2).toNat) = some (.slice (some ⟨go34, 0, none⟩) (rd_L10 x7_3 x9_2).length c297_0) ∧ w'.cell? (ad297.add ((ji24)).toNat) = some (.slice (some ad299) (rd_L10 x7_3 (ji24)).length c298_0) ∧ w'.cell? (ad299.add (x10_3).toNat) = some (.int .i64 (rd (rd_L10 x7_3 (ji24)) x10_3)) ∧ w'.cell? (ad297.add (x9_2).toNat) = some (.slice (some ⟨go34, 0, none⟩) (rd_L10 x7_3 x9_2).length c297_0) ∧ w'.cell? ⟨go34, ((ji29)).toNat, none⟩ = some (.int .i64 (rd (rd_L10 x7_3 x9_2) (ji29)))) (ds := [23]) #[false, false, false, false, false, false, false, false, false, false, false, false, false, false, false, false, false, false, false, false, false, false, false, false] (by kernel_rfl) rfl rfl ⟨hx297_0, hx298_0, hx299_0, hx300_0, hx301_0⟩ (fun hHeld => ?_); refine with_tabW emenderref23_table.tab12 emenderref23_table.bits12 (fun HT_ HW_ => ?_)
           generalize wr.drew = w51 at HO_7 HB GG34 HL297_0 HL298_0 HL300_0 HQ53 HR297_0 HR298_0 HR300_0 HX297_0 HX298_0 HX300_0 hf34_0 hx297_0 hx298_0 hx299_0 hx300_0 hx301_0 hx34_0 hHeld ⊢
           refine pure_ (i := 0) (N := some 37) (v := ?_) (a' := ?_) #[true, false, false, false, false, false, false, false, false, false, false, false, false, false, false, false, false, false, false, false, false, false, false, false] rfl rfl (any_of HT_.out (by kernel_rfl)) (fun _ _ _ h => h) (Or.inl ⟨by rfl, ?_⟩) ?_ ?_
           rotate_left
           ·intro w'
            go_simp
            with_reducible rfl
           rotate_left
           ·simp only [Act.put, List.setIfInBounds_toArray, List.set_cons_zero, List.set_cons_succ, i64_w, i32_w]
            rfl
           refine pure_ (i := 1) (N := some 38) (v := ?_) (a' := ?_) #[true, true, false, false, false, false, false, false, false, false, false, false, false, false, false, false, false, false, false, false, false, false, false, false] rfl rfl (any_of HT_.out (by kernel_rfl)) (fun _ _ _ h => h) (Or.inl ⟨by rfl, ?_⟩) ?_ ?_
           rotate_left
           ·intro w'
            go_simp
            with_reducible rfl
           rotate_left
           ·simp only [Act.put, List.setIfInBounds_toArray, List.set_cons_zero, List.set_cons_succ, i64_w, i32_w]
            rfl
           refine pure_ (i := 2) (N := some 39) (v := ?_) (a' := ?_) #[true, true, true, false, false, false, false, false, false, false, false, false, false, false, false, false, false, false, false, false, false, false, false, false] rfl rfl (any_of HT_.out (by kernel_rfl)) (fun _ _ _ h => h) (Or.inl ⟨by rfl, ?_⟩) ?_ ?_
           rotate_left
           ·intro w'
            go_simp
            with_reducible rfl
           rotate_left
           ·simp only [Act.put, List.setIfInBounds_toArray, List.set_cons_zero, List.set_cons_succ, i64_w, i32_w]
            rfl
           refine pure_ (i := 4) (N := some 41) (v := ?_) (a' := ?_) #[true, true, true, false, true, false, false, false, false, false, false, false, false, false, false, false, false, false, false, false, false, false, false, false] rfl rfl (any_of HT_.out (by kernel_rfl)) (fun _ _ _ h => h) (Or.inl ⟨by rfl, ?_⟩) ?_ ?_
           rotate_left
           ·intro w'
            go_simp
            with_reducible rfl
           rotate_left
           ·simp only [Act.put, List.setIfInBounds_toArray, List.set_cons_zero, List.set_cons_succ, i64_w, i32_w]
            rfl
           refine pure_ (i := 5) (N := some 42) (v := ?_) (a' := ?_) #[true, true, true, false, true, true, false, false, false, false, false, false, false, false, false, false, false, false, false, false, false, false, false, false] rfl rfl (any_of HT_.out (by kernel_rfl)) (fun _ _ _ h => h) (Or.inl ⟨by rfl, ?_⟩) ?_ ?_
           rotate_left
           ·intro w'
            go_simp
            with_reducible rfl
           rotate_left
           ·simp only [Act.put, List.setIfInBounds_toArray, List.set_cons_zero, List.set_cons_succ, i64_w, i32_w]
            rfl
           refine pure_ (i := 6) (N := some 43) (v := ?_) (a' := ?_) #[true, true, true, false, true, true, true, false, false, false, false, false, false, false, false, false, false, false, false, false, false, false, false, false] rfl rfl (any_of HT_.out (by kernel_rfl)) (fun _ _ _ h => h) (Or.inl ⟨by rfl, ?_⟩) ?_ ?_
           rotate_left
           ·intro w'
            go_simp
            with_reducible rfl
           rotate_left
           ·simp only [Act.put, List.setIfInBounds_toArray, List.set_cons_zero, List.set_cons_succ, i64_w, i32_w]
            rfl
           refine pure_ (i := 7) (N := some 44) (v := ?_) (a' := ?_) #[true, true, true, false, true, true, true, true, false, false, false, false, false, false, false, false, false, false, false, false, false, false, false, false] rfl rfl (any_of HT_.out (by kernel_rfl)) (fun _ _ _ h => h) (Or.inl ⟨by rfl, ?_⟩) ?_ ?_
           rotate_left
           ·intro w'
            go_simp
            with_reducible rfl
           rotate_left
           ·simp only [Act.put, List.setIfInBounds_toArray, List.set_cons_zero, List.set_cons_succ, i64_w, i32_w]
            rfl
           refine pure_ (i := 8) (N := some 45) (v := ?_) (a' := ?_) #[true, true, true, false, true, true, true, true, true, false, false, false, false, false, false, false, false, false, false, false, false, false, false, false] rfl rfl (any_of HT_.out (by kernel_rfl)) (fun _ _ _ h => h) (Or.inl ⟨by rfl, ?_⟩) ?_ ?_
           rotate_left
           ·intro w'
            go_simp
            with_reducible rfl
           rotate_left
           ·simp only [Act.put, List.setIfInBounds_toArray, List.set_cons_zero, List.set_cons_succ, i64_w, i32_w]
            rfl
           refine pure_ (i := 10) (N := some 47) (v := ?_) (a' := ?_) #[true, true, true, false, true, true, true, true, true, false, true, false, false, false, false, false, false, false, false, false, false, false, false, false] rfl rfl (any_of HT_.out (by kernel_rfl)) (fun _ _ _ h => h) (Or.inl ⟨by rfl, ?_⟩) ?_ ?_
           rotate_left
           ·intro w'
            go_simp
            with_reducible rfl
           rotate_left
           ·simp only [Act.put, List.setIfInBounds_toArray, List.set_cons_zero, List.set_cons_succ, i64_w, i32_w]
            rfl
           refine pure_ (i := 13) (N := some 50) (v := ?_) (a' := ?_) #[true, true, true, false, true, true, true, true, true, false, true, false, false, true, false, false, false, false, false, false, false, false, false, false] rfl rfl (any_of HT_.out (by kernel_rfl)) (fun _ _ _ h => h) (Or.inl ⟨by rfl, ?_⟩) ?_ ?_
           rotate_left
           ·intro w'
            go_simp
            with_reducible rfl
           rotate_left
           ·simp only [Act.put, List.setIfInBounds_toArray, List.set_cons_zero, List.set_cons_succ, i64_w, i32_w]
            rfl
           refine pure_ (i := 14) (N := some 51) (v := ?_) (a' := ?_) #[true, true, true, false, true, true, true, true, true, false, true, false, false, true, true, false, false, false, false, false, false, false, false, false] rfl rfl (any_of HT_.out (by kernel_rfl)) (fun _ _ _ h => h) (Or.inl ⟨by rfl, ?_⟩) ?_ ?_
           rotate_left
           ·intro w'
            go_simp
            with_reducible rfl
           rotate_left
           ·simp only [Act.put, List.setIfInBounds_toArray, List.set_cons_zero, List.set_cons_succ, i64_w, i32_w]
            rfl
           refine pure_ (i := 15) (N := some 52) (v := ?_) (a' := ?_) #[true, true, true, false, true, true, true, true, true, false, true, false, false, true, true, true, false, false, false, false, false, false, false, false] rfl rfl (any_of HT_.out (by kernel_rfl)) (fun _ _ _ h => h) (Or.inl ⟨by rfl, ?_⟩) ?_ ?_
           rotate_left
           ·intro w'
            go_simp
            with_reducible rfl
           rotate_left
           ·simp only [Act.put, List.setIfInBounds_toArray, List.set_cons_zero, List.set_cons_succ, i64_w, i32_w]
            rfl
           refine pure_ (i := 17) (N := some 54) (v := ?_) (a' := ?_) #[true, true, true, false, true, true, true, true, true, false, true, false, false, true, true, true, false, true, false, false, false, false, false, false] rfl rfl (any_of HT_.out (by kernel_rfl)) (fun _ _ _ h => h) (Or.inl ⟨by rfl, ?_⟩) ?_ ?_
           rotate_left
           ·intro w'
            go_simp
            with_reducible rfl
           rotate_left
           ·simp only [Act.put, List.setIfInBounds_toArray, List.set_cons_zero, List.set_cons_succ, i64_w, i32_w]
            rfl
           refine pure_ (i := 18) (N := some 55) (v := ?_) (a' := ?_) #[true, true, true, false, true, true, true, true, true, false, true, false, false, true, true, true, false, true, true, false, false, false, false, false] rfl rfl (any_of HT_.out (by kernel_rfl)) (fun _ _ _ h => h) (Or.inl ⟨by rfl, ?_⟩) ?_ ?_
           rotate_left
           ·intro w'
            go_simp
            with_reducible rfl
           rotate_left
           ·simp only [Act.put, List.setIfInBounds_toArray, List.set_cons_zero, List.set_cons_succ, i64_w, i32_w]
            rfl
           refine take_ (i := 3) (N := some 40) (v := ?_) (a' := ?_) #[true, true, true, true, true, true, true, true, true, false, true, false, false, true, true, true, false, true, true, false, false, false, false, false] rfl rfl (take_ofW HT_.out HW_.out (by kernel_rfl)) (fun _ _ _ h => h) (Or.inl ⟨by rfl, ?_⟩) hHeld ?_ ?_
           rotate_left
           ·rintro w' ⟨s0, s1, s2, s3, s4⟩
            go_simp
            with_reducible rfl
           rotate_left
           ·simp only [Act.put, List.setIfInBounds_toArray, List.set_cons_zero, List.set_cons_succ, i64_w, i32_w]
            rfl
           refine take_ (i := 9) (N := some 46) (v := ?_) (a' := ?_) #[true, true, true, true, true, true, true, true, true, true, true, false, false, true, true, true, false, true, true, false, false, false, false, false] rfl rfl (take_ofW HT_.out HW_.out (by kernel_rfl)) (fun _ _ _ h => h) (Or.inl ⟨by rfl, ?_⟩) hHeld ?_ ?_
           rotate_left
           ·rintro w' ⟨s0, s1, s2, s3, s4⟩
            go_simp
            with_reducible rfl
           rotate_left
           ·simp only [Act.put, List.setIfInBounds_toArray, List.set_cons_zero, List.set_cons_succ, i64_w, i32_w]
            rfl
           refine pure_ (i := 11) (N := some 48) (v := ?_) (a' := ?_) #[true, true, true, true, true, true, true, true, true, true, true, true, false, true, true, true, false, true, true, false, false, false, false, false] rfl rfl (any_of HT_.out (by kernel_rfl)) (fun _ _ _ h => h) (Or.inl ⟨by rfl, ?_⟩) ?_ ?_
           rotate_left
           ·intro w'
            go_simp
            with_reducible rfl
           rotate_left
           ·simp only [Act.put, List.setIfInBounds_toArray, List.set_cons_zero, List.set_cons_succ, i64_w, i32_w]
            rfl
           refine take_ (i := 12) (N := some 49) (v := ?_) (a' := ?_) #[true, true, true, true, true, true, true, true, true, true, true, true, true, true, true, true, false, true, true, false, false, false, false, false] rfl rfl (take_ofW HT_.out HW_.out (by kernel_rfl)) (fun _ _ _ h => h) (Or.inl ⟨by rfl, ?_⟩) hHeld ?_ ?_
           rotate_left
           ·rintro w' ⟨s0, s1, s2, s3, s4⟩
            go_simp
            with_reducible rfl
           rotate_left
           ·simp only [Act.put, List.setIfInBounds_toArray, List.set_cons_zero, List.set_cons_succ, i64_w, i32_w]
            rfl
           refine take_ (i := 16) (N := some 53) (v := ?_) (a' := ?_) #[true, true, true, true, true, true, true, true, true, true, true, true, true, true, true, true, true, true, true, false, false, false, false, false] rfl rfl (take_ofW HT_.out HW_.out (by kernel_rfl)) (fun _ _ _ h => h) (Or.inl ⟨by rfl, ?_⟩) hHeld ?_ ?_
           rotate_left
           ·rintro w' ⟨s0, s1, s2, s3, s4⟩
            go_simp
            with_reducible rfl
           rotate_left
           ·simp only [Act.put, List.setIfInBounds_toArray, List.set_cons_zero, List.set_cons_succ, i64_w, i32_w]
            rfl
           refine pure_ (i := 19) (N := some 56) (v := ?_) (a' := ?_) #[true, true, true, true, true, true, true, true, true, true, true, true, true, true, true, true, true, true, true, true, false, false, false, false] rfl rfl (any_of HT_.out (by kernel_rfl)) (fun _ _ _ h => h) (Or.inl ⟨by rfl, ?_⟩) ?_ ?_
           rotate_left
           ·intro w'
            go_simp
            with_reducible rfl
           rotate_left
           ·simp only [Act.put, List.setIfInBounds_toArray, List.set_cons_zero, List.set_cons_succ, i64_w, i32_w]
            rfl
           refine take_ (i := 20) (N := some 57) (v := ?_) (a' := ?_) #[true, true, true, true, true, true, true, true, true, true, true, true, true, true, true, true, true, true, true, true, true, false, false, false] rfl rfl (take_ofW HT_.out HW_.out (by kernel_rfl)) (fun _ _ _ h => h) (Or.inl ⟨by rfl, ?_⟩) hHeld ?_ ?_
           rotate_left
           ·rintro w' ⟨s0, s1, s2, s3, s4⟩
            go_simp
            with_reducible rfl
           rotate_left
           ·simp only [Act.put, List.setIfInBounds_toArray, List.set_cons_zero, List.set_cons_succ, i64_w, i32_w]
            rfl
           refine pure_ (i := 21) (N := some 58) (v := ?_) (a' := ?_) #[true, true, true, true, true, true, true, true, true, true, true, true, true, true, true, true, true, true, true, true, true, true, false, false] rfl rfl (any_of HT_.out (by kernel_rfl)) (fun _ _ _ h => h) (Or.inl ⟨by rfl, ?_⟩) ?_ ?_
           rotate_left
           ·intro w'
            go_simp
            with_reducible rfl
           rotate_left
           ·simp only [Act.put, List.setIfInBounds_toArray, List.set_cons_zero, List.set_cons_succ, i64_w, i32_w]
            rfl
           refine pure_ (i := 22) (N := some 59) (v := ?_) (a' := ?_) #[true, true, true, true, true, true, true, true, true, true, true, true, true, true, true, true, true, true, true, true, true, true, true, false] rfl rfl (any_of HT_.out (by kernel_rfl)) (fun _ _ _ h => h) (Or.inl ⟨by rfl, ?_⟩) ?_ ?_
           rotate_left
           ·intro w'
            go_simp
            with_reducible rfl
           rotate_left
           ·simp only [Act.put, List.setIfInBounds_toArray, List.set_cons_zero, List.set_cons_succ, i64_w, i32_w]
            rfl
           refine last_ (i := 23) (N := none) #[true, true, true, true, true, true, true, true, true, true, true, true, true, true, true, true, true, true, true, true, true, true, true, true] rfl rfl (one_of HT_.out (by kernel_rfl)) (by decide) (fun K hK => ?_)
           refine skip_ (w1 := ?_) (by rfl) rfl ?_ ?_
           rotate_left
           ·go_simp
            rfl
           refine hK.out _ _ ?_
           clear hK K
           refine done_ (done_of HT_.out (by kernel_rfl)) ?_
           have p305 : 0 ≤ (x9_2 : Int) := of_decide_eq_true (by first|(with_reducible assumption)|assumption)
           have q305 : x9_2 < (l0.length : Int) := of_decide_eq_true (by first|(with_reducible assumption)|assumption)
           obtain ⟨ad305, A305_0, c305_0, e305, hx305_0, hl305_0, hi305_0⟩ := at_L12 HR0.out x9_2 p305 q305
           cases e305
           have hn305_0 : ad305.block ≠ go34 := Nat.ne_of_lt (Nat.lt_of_lt_of_le (by have := World.block_lt_of_cell? _ _ hx305_0; first|rwa [add_block] at this|exact this) GB34.out)
           replace hx305_0 := cB HB.out hx305_0
           have HR305_0 := aM hi305_0
           have HC305_0 := aM hl305_0
           clear hi305_0 hl305_0
           replace hx305_0 := (cell_far (p := ⟨go34, (x10_3 : Int).toNat, none⟩) (by first|(rw [add_block]; exact hn305_0)|(show (Addr.add _ _).block ≠ _; rw [add_block]; exact hn305_0)|exact hn305_0) (.int .i64 ji32)).trans hx305_0
           clear hn305_0
           replace p305 := eq_true p305
           replace q305 := eq_true q305
           have p306 : 0 ≤ (x10_3 : Int) := of_decide_eq_true (by first|(with_reducible assumption)|assumption)
           have q306 : x10_3 < ((rd_L12 l0 x9_2).length : Int) := of_decide_eq_true (by first|(with_reducible assumption)|assumption)
           obtain ⟨ad306, e306, hx306_0⟩ := Kd.at_bool HR305_0.out x10_3 p306 q306
           (try rw [← Nbq37.out] at hx306_0)
           cases e306
           have hn306_0 : ad306.block ≠ go34 := Nat.ne_of_lt (Nat.lt_of_lt_of_le (by have := World.block_lt_of_cell? _ _ hx306_0; first|rwa [add_block] at this|exact this) GB34.out)
           replace hx306_0 := cB HB.out hx306_0
           replace hx306_0 := (cell_far (p := ⟨go34, (x10_3 : Int).toNat, none⟩) (by first|(rw [add_block]; exact hn306_0)|(show (Addr.add _ _).block ≠ _; rw [add_block]; exact hn306_0)|exact hn306_0) (.int .i64 ji32)).trans hx306_0
           clear hn306_0
           replace p306 := eq_true p306
           replace q306 := eq_true q306
           try go_wp2
           go_roundg k3
           case measure => have := HK1.out; have := HK2.out; have := HK3.out; omega
           case rel => exact ⟨(y304), (wrap64 (x10_3 - 1)), (by first|rfl|(simp; done)|(simp [*]; done)), H', ⟨by have := HK1.out; have := HK2.out; have := HK3.out; omega⟩, ⟨by (with_reducible repeat (first|apply Kd.S_alloc|apply Kd.S_drewN|apply Kd.S_drew)); exact HQ53.out⟩, ⟨by repeat (first|(with_reducible first|exact HB.out|apply lA|apply lN|apply lD|refine lS ?_ GB34.out)|exact HB.out)⟩⟩
         ·rw [if_neg c21] at H
          have c21b0 : decide (0 ≤ x10_3) = false := decide_eq_false c21
          clear c21
          have H' := aM H
          clear H
          go_wp2
          go_roundg k3
          case measure => have := HK1.out; have := HK2.out; have := HK3.out; omega
          case rel => exact ⟨(x7_3), (wrap64 (x9_2 - 1)), (by first|rfl|(simp; done)|(simp [*]; done)), H', ⟨by have := HK1.out; have := HK2.out; have := HK3.out; omega⟩, ⟨by (with_reducible repeat (first|apply Kd.S_alloc|apply Kd.S_drewN|apply Kd.S_drew)); exact HO_7.out⟩, ⟨by repeat (first|(with_reducible first|exact HB.out|apply lA|apply lN|apply lD)|exact HB.out)⟩⟩
      ·rw [if_neg c20] at H
       have c20b0 : decide (0 ≤ x9_2) = false := decide_eq_false c20
       clear c20
       obtain rfl := Option.some.inj H
       go_wp2
       go_ret
       exact ⟨_, by first|rfl|(simp [errW_none, errW_some] <;> rfl)|(simp only [← hji4]; first|rfl|(simp [errW_none, errW_some] <;> rfl))|(simp [*, errW_none, errW_some] <;> rfl), by (with_reducible repeat (first|apply Kd.S_alloc|apply Kd.S_drewN|apply Kd.S_drew)); exact HO_7.out, by repeat (first|(with_reducible first|exact HB.out|apply lA|apply lN|apply lD)|exact HB.out)⟩

end Go.Proofs.Ytjpmlggkhhoooaa.PDq
