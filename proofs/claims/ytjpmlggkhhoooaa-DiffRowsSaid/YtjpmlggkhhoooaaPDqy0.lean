-- Written for this claim by a program (printed texts under one roof).
import Derived.Test.YtjpmlggkhhoooaaPDqx0
-- Written for this claim by a program (the kit's print, with hand-made contracts for what it does not take).
namespace Go.Proofs.Ytjpmlggkhhoooaa.PDq
open Go.RowKit Go.Proofs.YtjpmlggkhhoooaaW.PrintWords Go.Proofs.YtjpmlggkhhoooaaW.PrintLast Go.Proofs.YtjpmlggkhhoooaaW.PrintMore
attribute [local go_sem] max2_int min2_int max_two min_two max_three min_three max_four min_four   -- for this text's walks alone
set_option linter.unusedVariables false
set_option linter.unusedSimpArgs false

theorem eqA64 (d : Nat) (w : World) (x0 y0 : Int) (x1 y1 : Int) (x2 y2 : Int) (x3 y3 : Int) :
  (Op.equalIn (d + 2) 64 (.agg #[.int .i64 x0, .int .i64 x1, .int .i64 x2, .int .i64 x3]) (.agg #[.int .i64 y0, .int .i64 y1, .int .i64 y2, .int .i64 y3])).run Try.prog w = .ok (x0 == y0 && (x1 == y1 && (x2 == y2 && (x3 == y3)))) w := by
 refine eqA_of Try.underlying64 (by kernel_rfl) ?_
 refine eqf_cons (by rfl) (by go_simp; rfl) (by go_simp; rfl) (by go_simp) ?_
 refine eqf_cons (by rfl) (by go_simp; rfl) (by go_simp; rfl) (by go_simp) ?_
 refine eqf_cons (by rfl) (by go_simp; rfl) (by go_simp; rfl) (by go_simp) ?_
 exact eqf_last (by rfl) (by go_simp; rfl) (by go_simp; rfl) (by go_simp)
end Go.Proofs.Ytjpmlggkhhoooaa.PDq
-- Written for this claim by a program (the kit's print, with hand-made contracts for what it does not take).
namespace Go.Proofs.Ytjpmlggkhhoooaa.PDq
open Go.RowKit Go.Proofs.YtjpmlggkhhoooaaW.PrintWords Go.Proofs.YtjpmlggkhhoooaaW.PrintLast Go.Proofs.YtjpmlggkhhoooaaW.PrintMore
attribute [local go_sem] max2_int min2_int max_two min_two max_three min_three max_four min_four   -- for this text's walks alone
set_option linter.unusedVariables false
set_option linter.unusedSimpArgs false

attribute [local go_sem high] eqA64
def api_Token_26.l0 : Nat → List (S64) → List (S64) → Int → Option (Int)
|0, _, _, _ => none
|k + 1, x0, x1, x5 => if x5 < (mn (x0.length : Int) (x1.length : Int)) then (if 0 ≤ x5 then (if x5 < (x0.length : Int) then (if x5 < (x1.length : Int) then (if (((rd_T64 x0 x5).f0) == ((rd_T64 x1 x5).f0) && (((rd_T64 x0 x5).f1) == ((rd_T64 x1 x5).f1) && (((rd_T64 x0 x5).f2) == ((rd_T64 x1 x5).f2) && (((rd_T64 x0 x5).f3) == ((rd_T64 x1 x5).f3))))) = true then (api_Token_26.l0 k x0 x1 (wrap64 (x5 + 1))) else (some x5)) else (none)) else (none)) else (none)) else (some x5)
def api_Token_26.f (k : Nat) (l0 : List (S64)) (l1 : List (S64)) : Option (Int) := api_Token_26.l0 k l0 l1 0
theorem api_Token_26.mono_l : ∀ k, (∀ y0 y1 y2, LeO (api_Token_26.l0 k y0 y1 y2) (api_Token_26.l0 (k + 1) y0 y1 y2))
|0 => fun _ _ _ r h => by simp [api_Token_26.l0] at h
|k + 1 => by
  have ih0 := api_Token_26.mono_l k
  ·intro y0 y1 y2
   unfold api_Token_26.l0
   repeat' first
  |(with_reducible exact ih0 _ _ _)
  |(with_reducible exact LeO.refl _)
  |(with_reducible exact LeO.none _)
  |(with_reducible refine LeO.ite ?_ ?_)
  |(with_reducible refine LeO.bind ?_ (fun _ => ?_))
  |exact ih0 _ _ _
  |exact LeO.none _
  |refine LeO.ite ?_ ?_
  |refine LeO.bind ?_ (fun _ => ?_)
theorem api_Token_26.mono : ∀ a0 a1 k, LeO (api_Token_26.f k a0 a1) (api_Token_26.f (k + 1) a0 a1) := by
 intro a0 a1 k
 have ih0 := api_Token_26.mono_l k
 unfold api_Token_26.f
 repeat' first
  |(with_reducible exact ih0 _ _ _)
  |(with_reducible exact LeO.refl _)
  |(with_reducible exact LeO.none _)
  |(with_reducible refine LeO.ite ?_ ?_)
  |(with_reducible refine LeO.bind ?_ (fun _ => ?_))
  |exact ih0 _ _ _
  |exact LeO.none _
  |refine LeO.ite ?_ ?_
  |refine LeO.bind ?_ (fun _ => ?_)
set_option maxHeartbeats 8000000 in
set_option maxRecDepth 100000 in
theorem api_Token_26.calls (k : Nat) (A0 : Option Addr) (c0 : Nat) (l0 : List (S64)) (A1 : Option Addr) (c1 : Nat) (l1 : List (S64)) (r : Int) (w : World) (hr0 : Kd.C k64 w A0 l0.length l0) (hc0 : l0.length ≤ c0) (hr1 : Kd.C k64 w A1 l1.length l1) (hc1 : l1.length ≤ c1) (h : api_Token_26.f k l0 l1 = some r) :
  Calls Try.prog 26 #[.slice A0 l0.length c0, .slice A1 l1.length c1] w fun e w' => e = .returned (.int .i64 r) ∧ Below w.heap.size w w' := by
 have hu64 := Try.underlying64
 have HR0 := aM hr0
 have HC0 := aM hc0
 clear hr0 hc0
 have HR1 := aM hr1
 have HC1 := aM hc1
 clear hr1 hc1
 have HB := aM (Below.refl w.heap.size w)
 have H : (api_Token_26.l0 k l0 l1 0) = some r := h
 clear h
 have H' := aM H
 clear H
 go_enter Try.func26, Try.ntmps26
 go_wp2
 repeat (go_quiet (fail); try go_wp2)
 go_loopg [5] k (fun kq v5 w' => ∃ (x5_1 : Int), v5 = .int .i64 x5_1 ∧ Aside0 (api_Token_26.l0 kq l0 l1 x5_1 = some r) ∧ Aside0 (kq ≤ k) ∧ Aside0 (Below w.heap.size w w'))
 case atStart => exact ⟨(0), (by first|rfl|(simp; done)|(simp [*]; done)), H', ⟨Nat.le_refl _⟩, ⟨by repeat (first|(with_reducible first|exact HB.out|apply lA|apply lN|apply lD)|exact HB.out)⟩⟩
 case round =>
  clear H'
  obtain ⟨x5_1, rfl, HA, HK1, HB⟩ := hrel
  cases gk with
 |zero => exact absurd HA.out (by simp [api_Token_26.l0])
 |succ k1 =>
   have H := HA.out
   clear HA
   simp only [api_Token_26.l0] at H
   obtain ⟨ji3, hji3⟩ : ∃ j_ : Int, (mn (l0.length : Int) (l1.length : Int)) = j_ := ⟨_, rfl⟩
   replace H : (if x5_1 < (ji3) then (if 0 ≤ x5_1 then (if x5_1 < (l0.length : Int) then (if x5_1 < (l1.length : Int) then (if (((rd_T64 l0 x5_1).f0) == ((rd_T64 l1 x5_1).f0) && (((rd_T64 l0 x5_1).f1) == ((rd_T64 l1 x5_1).f1) && (((rd_T64 l0 x5_1).f2) == ((rd_T64 l1 x5_1).f2) && (((rd_T64 l0 x5_1).f3) == ((rd_T64 l1 x5_1).f3))))) = true then (api_Token_26.l0 k1 l0 l1 (wrap64 (x5_1 + 1))) else (some x5_1)) else (none)) else (none)) else (none)) else (some x5_1)) = some r := by first|(rw [hji3] at H; exact H)|(simp only [hji3] at H ⊢; exact H)
   have hji3_ : (if (l1.length : Int) < (l0.length : Int) then (l1.length : Int) else (l0.length : Int)) = ji3 := hji3
   have hji3_n : (if l1.length < l0.length then (l1.length : Int) else (l0.length : Int)) = ji3 := by simpa using hji3_
   by_cases c4 : x5_1 < (ji3)
   ·rw [if_pos c4] at H
    have c4b0 : decide (x5_1 < (ji3)) = true := decide_eq_true c4
    clear c4
    replace H := ifS H; obtain ⟨c5, H⟩ := H
    have c5b0 : decide (0 ≤ x5_1) = true := decide_eq_true c5
    clear c5
    replace H := ifS H; obtain ⟨c6, H⟩ := H
    have c6b0 : decide (x5_1 < (l0.length : Int)) = true := decide_eq_true c6
    clear c6
    replace H := ifS H; obtain ⟨c7, H⟩ := H
    have c7b0 : decide (x5_1 < (l1.length : Int)) = true := decide_eq_true c7
    clear c7
    by_cases c8 : (((rd_T64 l0 x5_1).f0) == ((rd_T64 l1 x5_1).f0) && (((rd_T64 l0 x5_1).f1) == ((rd_T64 l1 x5_1).f1) && (((rd_T64 l0 x5_1).f2) == ((rd_T64 l1 x5_1).f2) && (((rd_T64 l0 x5_1).f3) == ((rd_T64 l1 x5_1).f3))))) = true
    ·rw [if_pos c8] at H
     have c8b0 : (((rd_T64 l0 x5_1).f0) == ((rd_T64 l1 x5_1).f0) && (((rd_T64 l0 x5_1).f1) == ((rd_T64 l1 x5_1).f1) && (((rd_T64 l0 x5_1).f2) == ((rd_T64 l1 x5_1).f2) && (((rd_T64 l0 x5_1).f3) == ((rd_T64 l1 x5_1).f3))))) = true := c8
     (try (have c8b1 : decide (((rd_T64 l0 x5_1).f0) = ((rd_T64 l1 x5_1).f0) && (((rd_T64 l0 x5_1).f1) == ((rd_T64 l1 x5_1).f1) && (((rd_T64 l0 x5_1).f2) == ((rd_T64 l1 x5_1).f2) && (((rd_T64 l0 x5_1).f3) == ((rd_T64 l1 x5_1).f3))))) = true := by simpa using c8))
     (try (have c8b2 : (((rd_T64 l0 x5_1).f0) == ((rd_T64 l1 x5_1).f0) && (((rd_T64 l0 x5_1).f1) == ((rd_T64 l1 x5_1).f1) && (((rd_T64 l0 x5_1).f2) == ((rd_T64 l1 x5_1).f2) && (((rd_T64 l0 x5_1).f3) == ((rd_T64 l1 x5_1).f3))))) = true := by simpa using c8))
     clear c8
     have H' := aM H
     clear H
     have p101 : 0 ≤ (x5_1 : Int) := of_decide_eq_true (by first|(with_reducible assumption)|assumption)
     have q101 : x5_1 < (l0.length : Int) := of_decide_eq_true (by first|(with_reducible assumption)|assumption)
     obtain ⟨ad101, e101, hx101_0, hx101_1, hx101_2, hx101_3⟩ := at_T64 HR0.out x5_1 p101 q101
     cases e101
     replace hx101_0 := cB HB.out hx101_0
     replace hx101_1 := cB HB.out hx101_1
     replace hx101_2 := cB HB.out hx101_2
     replace hx101_3 := cB HB.out hx101_3
     replace p101 := eq_true p101
     replace q101 := eq_true q101
     have p102 : 0 ≤ (x5_1 : Int) := of_decide_eq_true (by first|(with_reducible assumption)|assumption)
     have q102 : x5_1 < (l1.length : Int) := of_decide_eq_true (by first|(with_reducible assumption)|assumption)
     obtain ⟨ad102, e102, hx102_0, hx102_1, hx102_2, hx102_3⟩ := at_T64 HR1.out x5_1 p102 q102
     cases e102
     replace hx102_0 := cB HB.out hx102_0
     replace hx102_1 := cB HB.out hx102_1
     replace hx102_2 := cB HB.out hx102_2
     replace hx102_3 := cB HB.out hx102_3
     replace p102 := eq_true p102
     replace q102 := eq_true q102
     go_wp2
     repeat (go_quiet (fail); try go_wp2)
     go_roundg k1
     case measure => have := HK1.out; omega
     case rel => exact ⟨(wrap64 (x5_1 + 1)), (by first|rfl|(simp; done)|(simp [*]; done)), H', ⟨by have := HK1.out; omega⟩, ⟨by repeat (first|(with_reducible first|exact HB.out|apply lA|apply lN|apply lD)|exact HB.out)⟩⟩
    ·rw [if_neg c8] at H
     have c8b0 : (((rd_T64 l0 x5_1).f0) == ((rd_T64 l1 x5_1).f0) && (((rd_T64 l0 x5_1).f1) == ((rd_T64 l1 x5_1).f1) && (((rd_T64 l0 x5_1).f2) == ((rd_T64 l1 x5_1).f2) && (((rd_T64 l0 x5_1).f3) == ((rd_T64 l1 x5_1).f3))))) = false := by simpa using c8
     (try (have c8b1 : decide (((rd_T64 l0 x5_1).f0) = ((rd_T64 l1 x5_1).f0) && (((rd_T64 l0 x5_1).f1) == ((rd_T64 l1 x5_1).f1) && (((rd_T64 l0 x5_1).f2) == ((rd_T64 l1 x5_1).f2) && (((rd_T64 l0 x5_1).f3) == ((rd_T64 l1 x5_1).f3))))) = false := by simpa using c8))
     (try (have c8b2 : (((rd_T64 l0 x5_1).f0) == ((rd_T64 l1 x5_1).f0) && (((rd_T64 l0 x5_1).f1) == ((rd_T64 l1 x5_1).f1) && (((rd_T64 l0 x5_1).f2) == ((rd_T64 l1 x5_1).f2) && (((rd_T64 l0 x5_1).f3) == ((rd_T64 l1 x5_1).f3))))) = false := by simpa using c8))
     (try (have c8b3 : ¬ (((rd_T64 l0 x5_1).f0) = ((rd_T64 l1 x5_1).f0) && (((rd_T64 l0 x5_1).f1) == ((rd_T64 l1 x5_1).f1) && (((rd_T64 l0 x5_1).f2) == ((rd_T64 l1 x5_1).f2) && (((rd_T64 l0 x5_1).f3) == ((rd_T64 l1 x5_1).f3))))) := by simpa using c8))
     clear c8
     obtain rfl := Option.some.inj H
     have p101 : 0 ≤ (x5_1 : Int) := of_decide_eq_true (by first|(with_reducible assumption)|assumption)
     have q101 : x5_1 < (l0.length : Int) := of_decide_eq_true (by first|(with_reducible assumption)|assumption)
     obtain ⟨ad101, e101, hx101_0, hx101_1, hx101_2, hx101_3⟩ := at_T64 HR0.out x5_1 p101 q101
     cases e101
     replace hx101_0 := cB HB.out hx101_0
     replace hx101_1 := cB HB.out hx101_1
     replace hx101_2 := cB HB.out hx101_2
     replace hx101_3 := cB HB.out hx101_3
     replace p101 := eq_true p101
     replace q101 := eq_true q101
     have p102 : 0 ≤ (x5_1 : Int) := of_decide_eq_true (by first|(with_reducible assumption)|assumption)
     have q102 : x5_1 < (l1.length : Int) := of_decide_eq_true (by first|(with_reducible assumption)|assumption)
     obtain ⟨ad102, e102, hx102_0, hx102_1, hx102_2, hx102_3⟩ := at_T64 HR1.out x5_1 p102 q102
     cases e102
     replace hx102_0 := cB HB.out hx102_0
     replace hx102_1 := cB HB.out hx102_1
     replace hx102_2 := cB HB.out hx102_2
     replace hx102_3 := cB HB.out hx102_3
     replace p102 := eq_true p102
     replace q102 := eq_true q102
     go_wp2
     repeat (go_quiet (fail); try go_wp2)
     go_ret
     exact ⟨by first|rfl|(simp [errW_none, errW_some] <;> rfl)|(simp only [← hji3]; first|rfl|(simp [errW_none, errW_some] <;> rfl))|(simp [*, errW_none, errW_some] <;> rfl), by repeat (first|(with_reducible first|exact HB.out|apply lA|apply lN|apply lD)|exact HB.out)⟩
   ·rw [if_neg c4] at H
    have c4b0 : decide (x5_1 < (ji3)) = false := decide_eq_false c4
    clear c4
    obtain rfl := Option.some.inj H
    go_wp2
    repeat (go_quiet (fail); try go_wp2)
    go_ret
    exact ⟨by first|rfl|(simp [errW_none, errW_some] <;> rfl)|(simp only [← hji3]; first|rfl|(simp [errW_none, errW_some] <;> rfl))|(simp [*, errW_none, errW_some] <;> rfl), by repeat (first|(with_reducible first|exact HB.out|apply lA|apply lN|apply lD)|exact HB.out)⟩

def api_Token_27.f (l0 : List (S64)) : Option ((List (S64))) := (some (([] : List (S64)) : List (S64))).bind fun y103 => (if y103.length + l0.length < 4398046511104 then (some (y103 ++ l0)) else (none))
set_option maxHeartbeats 8000000 in
set_option maxRecDepth 100000 in
theorem api_Token_27.calls (A0 : Option Addr) (c0 : Nat) (l0 : List (S64)) (r : List (S64)) (w : World) (hr0 : Kd.C k64 w A0 l0.length l0) (hc0 : l0.length ≤ c0) (h : api_Token_27.f l0 = some r) :
  Calls Try.prog 27 #[.slice A0 l0.length c0] w fun e w' => ∃ v0_ : Value, e = .returned (v0_) ∧ Kd.R k64 64 w' w.heap.size (fun _ => True) v0_ r ∧ Below w.heap.size w w' := by
 have HR0 := aM hr0
 have HC0 := aM hc0
 clear hr0 hc0
 have HB := aM (Below.refl w.heap.size w)
 have H : ((some (([] : List (S64)) : List (S64))).bind fun y103 => (if y103.length + l0.length < 4398046511104 then (some (y103 ++ l0)) else (none))) = some r := h
 clear h
 obtain ⟨y103, hy103⟩ : ∃ y_ : List (S64), y_ = (([] : List (S64))) := ⟨_, rfl⟩
 replace H : (if y103.length + l0.length < 4398046511104 then (some (y103 ++ l0)) else (none)) = some r := by first|(rw [hy103]; with_reducible exact H)|(have H2_ := (Option.bind_some _ _).symm.trans H; rw [hy103]; with_reducible exact H2_)|(have H2_ := (Option.bind_some _ _).symm.trans H; with_reducible exact H2_)|with_reducible exact H|(rw [hy103]; exact H)|exact H
 have Ny103 := aM hy103
 clear hy103
 by_cases c2 : y103.length + l0.length < 4398046511104
 ·rw [if_pos c2] at H
  have LMc2 := aM c2
  clear c2
  obtain ⟨y106, hy106⟩ : ∃ y_ : List (S64), y_ = (y103 ++ l0) := ⟨_, rfl⟩
  replace H : (some y106) = some r := by first|(rw [hy106]; with_reducible exact H)|(have H2_ := (Option.bind_some _ _).symm.trans H; rw [hy106]; with_reducible exact H2_)|(have H2_ := (Option.bind_some _ _).symm.trans H; with_reducible exact H2_)|with_reducible exact H|(rw [hy106]; exact H)|exact H
  have Ny106 := aM hy106
  clear hy106
  obtain rfl := Option.some.inj H
  go_enter Try.func27, Try.ntmps27
  have hq_ : ∀ (W : World) (a : Option Addr) (n c n' c' : Nat), (binOp .eql 22 (.slice a n c) (.slice none n' c')).run Try.prog W = .ok (.bool a.isNone) W := fun W a n c n' c' => Lib.run_eql_slice_nil W _ _ a n c n' c' Try.underlying22
  cases A0 with
 |none =>
   have hl : l0 = [] := by
    rcases l0 with _|⟨x, xs⟩
    ·rfl
    ·obtain ⟨ad, he, _⟩ := HR0.out.2.2 (by simp)
     cases he
   go_wp2
   go_ret
   exact ⟨_, rfl, (by rw [Ny106.out, Ny103.out, hl]; exact Kd.R_nil _ _ _ _ _), HB.out⟩
 |some ad0 =>
   go_wp2_with (first|((with_reducible refine gate_dst (N := 5) rfl ?_); refine Kd.R_lit k64 _ 64 ?hg (N := 5) ?hd (xs := ([] : List (S64))) (inner := []) (ok := fun _ => True) (okp := fun _ => True) ?hr ?hp (fun _ hk => hk) trivial (Below.refl _ _) (Nat.le_refl _) (by simp) ?_; (case hd => rfl); (case hg => rfl); (case hr => first|(go_simp; done)|(go_simp; rfl)); (case hp => exact (Reps.none _ _)); intro v104 w3 ho4 hb hg_ hnew_; clear hg_ hnew_; (first|rw [← Ny103.out] at ho4|(simp only [Int.reduceToNat] at ho4; rw [← Ny103.out] at ho4)); replace HO105 := aM (Kd.R_lower ho4 (below_size (by repeat (first|(with_reducible first|exact HB.out|apply lA|apply lN|apply lD)|exact HB.out)))); replace HB := aM (below_step (by repeat (first|(with_reducible first|exact HB.out|apply lA|apply lN|apply lD)|exact HB.out)) hb); clear hb ho4)|((with_reducible refine gate_builtin (b := .append) (xs := #[.tmp 5, .tmp 6]) rfl ?_); at_builtin; refine Kd.R_append_rows k64 (w0 := w) w.heap.size rfl (.tmp 5) (.tmp 6) 22 64 (.agg #[(.int .i64 0), (.int .i64 0), (.int .i64 0), (.int .i64 0)]) 32 rfl Try.underlying22 info64 rfl (by decide) (by omega) v104 y103 l0 _ _ _ (fun _ => True) (fun _ => False) rfl rfl ?aO ?aR (fun _ _ h => h) (fun _ h => h.elim) ?aF ?aB ?aS ?aL ?_; (case aR => repeat (first|exact (Kd.C_below HR0.out HB.out)|(with_reducible refine Kd.C_alloc ?_ _)|(with_reducible refine Kd.C_drewN ?_ _)|(with_reducible refine Kd.C_drew ?_))); (case aB => exact (by repeat (first|(with_reducible first|exact HB.out|apply lA|apply lN|apply lD)|exact HB.out))); (case aF => exact (fun _ _ => trivial)); (case aO => exact (by (with_reducible repeat (first|apply Kd.R_alloc|apply Kd.R_drewN|apply Kd.R_drew)); exact HO105.out)); (case aS => exact (below_size (by repeat (first|(with_reducible first|exact HB.out|apply lA|apply lN|apply lD)|exact HB.out)))); (case aL => have := LMc2.out; omega); intro v107 w5 ho hb hg hat; rw [← Ny106.out] at ho; have n0_ := aM (hb); have n1_ := aM (ho); clear HB; clear HO105; have HB := n0_; have HO108 := n1_; clear n0_ n1_; clear ho hb hg hat))
   go_ret
   exact ⟨_, by first|rfl|(simp [errW_none, errW_some] <;> rfl)|(simp [*, errW_none, errW_some] <;> rfl), by (with_reducible repeat (first|apply Kd.R_alloc|apply Kd.R_drewN|apply Kd.R_drew)); exact HO108.out, by repeat (first|(with_reducible first|exact HB.out|apply lA|apply lN|apply lD)|exact HB.out)⟩
 ·rw [if_neg c2] at H
  exact absurd H (by simp)

end Go.Proofs.Ytjpmlggkhhoooaa.PDq
-- Written for this claim by a program (the kit's print, with hand-made contracts for what it does not take).
namespace Go.Proofs.Ytjpmlggkhhoooaa.PDq
open Go.RowKit Go.Proofs.YtjpmlggkhhoooaaW.PrintWords Go.Proofs.YtjpmlggkhhoooaaW.PrintLast Go.Proofs.YtjpmlggkhhoooaaW.PrintMore
attribute [local go_sem] max2_int min2_int max_two min_two max_three min_three max_four min_four   -- for this text's walks alone
set_option linter.unusedVariables false
set_option linter.unusedSimpArgs false

def api_Token_28.l0 : Nat → List (S64) → Int → Int → Option ((List (S64)))
|0, _, _, _ => none
|k + 1, x0, x2, x3 => if x2 < x3 then (if 0 ≤ x3 then (if x3 < (x0.length : Int) then (if 0 ≤ x2 then (if x2 < (x0.length : Int) then (api_Token_28.l0 k ((x0.set (x2 : Int).toNat (⟨(rd_T64 x0 x3).f0, (rd_T64 x0 x3).f1, (rd_T64 x0 x3).f2, (rd_T64 x0 x3).f3⟩ : S64)).set (x3 : Int).toNat (⟨(rd_T64 x0 x2).f0, (rd_T64 x0 x2).f1, (rd_T64 x0 x2).f2, (rd_T64 x0 x2).f3⟩ : S64)) (wrap64 (x2 + 1)) (wrap64 (x3 - 1))) else (none)) else (none)) else (none)) else (none)) else (some x0)
def api_Token_28.f (k : Nat) (l0 : List (S64)) : Option ((List (S64))) := api_Token_28.l0 k l0 0 (wrap64 ((l0.length : Int) - 1))
theorem api_Token_28.mono_l : ∀ k, (∀ y0 y1 y2, LeO (api_Token_28.l0 k y0 y1 y2) (api_Token_28.l0 (k + 1) y0 y1 y2))
|0 => fun _ _ _ r h => by simp [api_Token_28.l0] at h
|k + 1 => by
  have ih0 := api_Token_28.mono_l k
  ·intro y0 y1 y2
   unfold api_Token_28.l0
   repeat' first
  |(with_reducible exact ih0 _ _ _)
  |(with_reducible exact LeO.refl _)
  |(with_reducible exact LeO.none _)
  |(with_reducible refine LeO.ite ?_ ?_)
  |(with_reducible refine LeO.bind ?_ (fun _ => ?_))
  |exact ih0 _ _ _
  |exact LeO.none _
  |refine LeO.ite ?_ ?_
  |refine LeO.bind ?_ (fun _ => ?_)
theorem api_Token_28.mono : ∀ a0 k, LeO (api_Token_28.f k a0) (api_Token_28.f (k + 1) a0) := by
 intro a0 k
 have ih0 := api_Token_28.mono_l k
 unfold api_Token_28.f
 repeat' first
  |(with_reducible exact ih0 _ _ _)
  |(with_reducible exact LeO.refl _)
  |(with_reducible exact LeO.none _)
  |(with_reducible refine LeO.ite ?_ ?_)
  |(with_reducible refine LeO.bind ?_ (fun _ => ?_))
  |exact ih0 _ _ _
  |exact LeO.none _
  |refine LeO.ite ?_ ?_
  |refine LeO.bind ?_ (fun _ => ?_)
def api_Token_28.T3 : Bool × List (List Nat × List Nat) := (true, [([], []), ([], []), ([], []), ([], []), ([], []), ([], []), ([4, 5], [4, 5]), ([6], [6]), ([], []), ([], []), ([8, 9], [8, 9]), ([10], [10]), ([0, 1, 0, 1, 4, 5, 6, 7, 11], [0, 1]), ([12, 7, 0, 1, 4, 5, 6, 7, 11], [7, 12]), ([2, 3, 0, 1, 2, 3, 4, 5, 6, 7, 8, 9, 10, 11, 12, 13], [2, 3]), ([14, 11, 13, 0, 1, 2, 3, 4, 5, 6, 7, 8, 9, 10, 11, 12, 13], [11, 14])])
def api_Token_28.B3 : List Nat := [0, 0, 0, 0, 0, 0, 48, 112, 0, 0, 768, 1792, 4083, 8179, 16383, 32767]
theorem api_Token_28.tab3 : rtab .any (opsOf Try.f28 3) = api_Token_28.T3 := by kernel_rfl
theorem api_Token_28.bits3 : waitsOk api_Token_28.T3.2 api_Token_28.B3 = true := by kernel_rfl
set_option maxHeartbeats 8000000 in
set_option maxRecDepth 100000 in
theorem api_Token_28.calls (k : Nat) (P0_ : Nat → Prop) (u9000_ : Value) (l0 : List (S64)) (r : List (S64)) (w0 w : World) (hB : Below w0.heap.size w0 w) (ho0 : Kd.R k64 64 w w0.heap.size P0_ u9000_ l0) (h : api_Token_28.f k l0 = some r) :
  Calls Try.prog 28 #[u9000_] w fun e w' => e = .returned (.tuple #[]) ∧ Kd.R k64 64 w' w0.heap.size (fun k_ => (P0_ k_ ∨ w.heap.size ≤ k_)) u9000_ r ∧ Below w0.heap.size w0 w' ∧ Kept w w' (fun k_ => P0_ k_) := by
 have hu64 := Try.underlying64
 have HO0 := aM (show Kd.R k64 64 w w0.heap.size (fun k_ => (P0_ k_ ∨ w.heap.size ≤ k_)) u9000_ l0 from Kd.R_mono ho0 (fun k_ hk => (.inl hk)))
 have HK := aM (Kept.refl w (fun k_ => P0_ k_))
 have HW0 := aM hB.size
 have HB := aM hB
 clear hB
 have H : (api_Token_28.l0 k l0 0 (wrap64 ((l0.length : Int) - 1))) = some r := h
 clear h
 have H' := aM H
 clear H
 obtain ⟨Ao2, co2, eo2⟩ := Kd.R_slice HO0.out
 subst eo2
 go_enter Try.func28, Try.ntmps28
 go_wp2
 go_loopg [2, 3] k (fun kq v2 v3 w' => ∃ (x0_1 : List (S64)) (x2_1 : Int) (x3_1 : Int), v2 = .int .i64 x2_1 ∧ v3 = .int .i64 x3_1 ∧ Aside0 (api_Token_28.l0 kq x0_1 x2_1 x3_1 = some r) ∧ Aside0 (kq ≤ k) ∧ Aside0 (Kd.R k64 64 w' w0.heap.size (fun k_ => (P0_ k_ ∨ w.heap.size ≤ k_)) (.slice Ao2 l0.length co2) x0_1) ∧ Aside0 (Kept w w' (fun k_ => P0_ k_)) ∧ Aside0 (Below w0.heap.size w0 w'))
 case atStart => exact ⟨(l0), (0), (wrap64 ((l0.length : Int) - 1)), (by first|rfl|(simp; done)|(simp [*]; done)), (by first|rfl|(simp; done)|(simp [*]; done)), H', ⟨Nat.le_refl _⟩, ⟨by (with_reducible repeat (first|apply Kd.R_alloc|apply Kd.R_drewN|apply Kd.R_drew)); exact HO0.out⟩, ⟨by repeat (first|(with_reducible first|exact HK.out|apply Kept.alloc|apply Kept.drewN|apply Kept.drew)|exact HK.out)⟩, ⟨by repeat (first|(with_reducible first|exact HB.out|apply lA|apply lN|apply lD)|exact HB.out)⟩⟩
 case round =>
  clear H'
  obtain ⟨x0_1, x2_1, x3_1, rfl, rfl, HA, HK1, HO_0, HK, HB⟩ := hrel
  have hl0_1 := (Kd.R_reads' HO_0.out).1
  rw [hl0_1] at HO_0
  (try simp only [hl0_1])
  cases gk with
 |zero => exact absurd HA.out (by simp [api_Token_28.l0])
 |succ k1 =>
   have H := HA.out
   clear HA
   simp only [api_Token_28.l0] at H
   by_cases c3 : x2_1 < x3_1
   ·rw [if_pos c3] at H
    have c3b0 : decide (x2_1 < x3_1) = true := decide_eq_true c3
    clear c3
    replace H := ifS H; obtain ⟨c4, H⟩ := H
    have c4b0 : decide (0 ≤ x3_1) = true := decide_eq_true c4
    clear c4
    replace H := ifS H; obtain ⟨c5, H⟩ := H
    have c5b0 : decide (x3_1 < (x0_1.length : Int)) = true := decide_eq_true c5
    clear c5
    replace H := ifS H; obtain ⟨c6, H⟩ := H
    have c6b0 : decide (0 ≤ x2_1) = true := decide_eq_true c6
    clear c6
    replace H := ifS H; obtain ⟨c7, H⟩ := H
    have c7b0 : decide (x2_1 < (x0_1.length : Int)) = true := decide_eq_true c7
    clear c7
    obtain ⟨y111, hy111⟩ : ∃ y_ : List (S64), y_ = (x0_1.set (x2_1 : Int).toNat (⟨(rd_T64 x0_1 x3_1).f0, (rd_T64 x0_1 x3_1).f1, (rd_T64 x0_1 x3_1).f2, (rd_T64 x0_1 x3_1).f3⟩ : S64)) := ⟨_, rfl⟩
    replace H : (api_Token_28.l0 k1 (y111.set (x3_1 : Int).toNat (⟨(rd_T64 x0_1 x2_1).f0, (rd_T64 x0_1 x2_1).f1, (rd_T64 x0_1 x2_1).f2, (rd_T64 x0_1 x2_1).f3⟩ : S64)) (wrap64 (x2_1 + 1)) (wrap64 (x3_1 - 1))) = some r := by first|(rw [hy111]; with_reducible exact H)|(have H2_ := (Option.bind_some _ _).symm.trans H; rw [hy111]; with_reducible exact H2_)|(have H2_ := (Option.bind_some _ _).symm.trans H; with_reducible exact H2_)|with_reducible exact H|(rw [hy111]; exact H)|exact H
    have Ny111 := aM hy111
    clear hy111
    obtain ⟨y112, hy112⟩ : ∃ y_ : List (S64), y_ = (y111.set (x3_1 : Int).toNat (⟨(rd_T64 x0_1 x2_1).f0, (rd_T64 x0_1 x2_1).f1, (rd_T64 x0_1 x2_1).f2, (rd_T64 x0_1 x2_1).f3⟩ : S64)) := ⟨_, rfl⟩
    replace H : (api_Token_28.l0 k1 y112 (wrap64 (x2_1 + 1)) (wrap64 (x3_1 - 1))) = some r := by first|(rw [hy112]; with_reducible exact H)|(have H2_ := (Option.bind_some _ _).symm.trans H; rw [hy112]; with_reducible exact H2_)|(have H2_ := (Option.bind_some _ _).symm.trans H; with_reducible exact H2_)|with_reducible exact H|(rw [hy112]; exact H)|exact H
    have Ny112 := aM hy112
    clear hy112
    have H' := aM H
    clear H
    try go_wp2
    have n0_ := aM (Kd.R_drew HO_0.out)
    have n1_ := aM (Kept.drew HK.out)
    have n2_ := aM (lD HB.out)
    clear HO_0
    clear HK
    clear HB
    have HO_0 := n0_
    have HK := n1_
    have HB := n2_
    clear n0_ n1_ n2_
    have p109 : 0 ≤ (x3_1 : Int) := of_decide_eq_true (by first|(with_reducible assumption)|assumption)
    have q109 : x3_1 < (x0_1.length : Int) := of_decide_eq_true (by first|(with_reducible assumption)|assumption)
    obtain ⟨ad109, e109, hx109_0, hx109_1, hx109_2, hx109_3⟩ := at_T64 (Kd.R_reads' HO_0.out).2.2 x3_1 p109 q109
    cases e109
    replace p109 := eq_true p109
    replace q109 := eq_true q109
    have p110 : 0 ≤ (x2_1 : Int) := of_decide_eq_true (by first|(with_reducible assumption)|assumption)
    have q110 : x2_1 < (x0_1.length : Int) := of_decide_eq_true (by first|(with_reducible assumption)|assumption)
    obtain ⟨ad110, e110, hx110_0, hx110_1, hx110_2, hx110_3⟩ := at_T64 (Kd.R_reads' HO_0.out).2.2 x2_1 p110 q110
    obtain rfl : ad109 = ad110 := (by injection e110)
    replace p110 := eq_true p110
    replace q110 := eq_true q110
    have p8 : 0 ≤ (x2_1 : Int) := of_decide_eq_true (by first|(with_reducible assumption)|assumption)
    have q8 : (x2_1 : Int) < ((x0_1.length : Int) : Int) := of_decide_eq_true (by first|(with_reducible assumption)|assumption)
    obtain ⟨go8, co8, eo8, gb8, gl8, cl8, HG8⟩ := Kd.R_form HO_0.out (by omega)
    (first|cases eo8|(injection eo8 with ea_ en_ ec_; (first|subst ea_|(injection ea_ with ea_; subst ea_)); subst ec_; clear en_))
    have GB8 := aM gb8
    have GG8 := aM HG8
    clear gb8 gl8 HG8
    have HMgo8 := aM (show (P0_ go8 ∨ w.heap.size ≤ go8) from (HO_0.out.1 _ rfl))
    (first|simp only [add_plain] at hx109_0|skip)
    (first|simp only [add_plain] at hx109_1|skip)
    (first|simp only [add_plain] at hx109_2|skip)
    (first|simp only [add_plain] at hx109_3|skip)
    (first|simp only [add_plain] at hx110_0|skip)
    (first|simp only [add_plain] at hx110_1|skip)
    (first|simp only [add_plain] at hx110_2|skip)
    (first|simp only [add_plain] at hx110_3|skip)
    obtain ⟨ce8, hcl8, hM8, hcc8, hfr8⟩ := Kd.R_elem HO_0.out z64 (x2_1 : Int) p8 q8
    obtain rfl := k64_openM hM8
    have hx8_0 : World.cell? _ ⟨go8, (x2_1 : Int).toNat * 4, none⟩ = some (.int .i64 ((rd_T64 x0_1 x2_1).f0)) := hcc8 0 _ rfl
    have hx8_1 : World.cell? _ ⟨go8, (x2_1 : Int).toNat * 4 + 1, none⟩ = some (.int .i64 ((rd_T64 x0_1 x2_1).f1)) := hcc8 1 _ rfl
    have hx8_2 : World.cell? _ ⟨go8, (x2_1 : Int).toNat * 4 + 2, none⟩ = some (.int .i64 ((rd_T64 x0_1 x2_1).f2)) := hcc8 2 _ rfl
    have hx8_3 : World.cell? _ ⟨go8, (x2_1 : Int).toNat * 4 + 3, none⟩ = some (.int .i64 ((rd_T64 x0_1 x2_1).f3)) := hcc8 3 _ rfl
    have hf8_0 : World.frozen? _ ⟨go8, (x2_1 : Int).toNat * 4, none⟩ = false := hfr8 0
    have hf8_1 : World.frozen? _ ⟨go8, (x2_1 : Int).toNat * 4 + 1, none⟩ = false := hfr8 1
    have hf8_2 : World.frozen? _ ⟨go8, (x2_1 : Int).toNat * 4 + 2, none⟩ = false := hfr8 2
    have hf8_3 : World.frozen? _ ⟨go8, (x2_1 : Int).toNat * 4 + 3, none⟩ = false := hfr8 3
    (try clear hM8); clear hcl8 hcc8 hfr8
    replace p8 := eq_true p8
    replace q8 := eq_true q8
    obtain ⟨ce11, hcl11, hM11, hcc11, hfr11⟩ := Kd.R_elem HO_0.out z64 (x2_1 : Int) (of_decide_eq_true (by first|(with_reducible assumption)|assumption)) (by have h_ : (x2_1 : Int) < ((x0_1.length : Int) : Int) := of_decide_eq_true (by first|(with_reducible assumption)|assumption); first|exact h_|(have e_ := (Kd.R_reads' HO_0.out).1; omega)|simpa using h_)
    obtain rfl := k64_openM hM11
    have HP11 := (Kd.R_seg HO_0.out (x2_1 : Int) (of_decide_eq_true (by first|(with_reducible assumption)|assumption)) (by have h_ : (x2_1 : Int) < ((x0_1.length : Int) : Int) := of_decide_eq_true (by first|(with_reducible assumption)|assumption); first|exact h_|(have e_ := (Kd.R_reads' HO_0.out).1; omega)|simpa using h_) (seg := [.int .i64 ((rd_T64 x0_1 x3_1).f0), .int .i64 ((rd_T64 x0_1 x3_1).f1), .int .i64 ((rd_T64 x0_1 x3_1).f2), .int .i64 ((rd_T64 x0_1 x3_1).f3)]) (j := 0) hcl11 hcc11 (show 4 ≤ 4 from by decide) (x' := (⟨(rd_T64 x0_1 x3_1).f0, (rd_T64 x0_1 x3_1).f1, (rd_T64 x0_1 x3_1).f2, (rd_T64 x0_1 x3_1).f3⟩ : S64)) (k64_mkM _ _ _ (⟨(rd_T64 x0_1 x3_1).f0, (rd_T64 x0_1 x3_1).f1, (rd_T64 x0_1 x3_1).f2, (rd_T64 x0_1 x3_1).f3⟩ : S64) ) (fun _ hk => hk)).1
    rw [← Ny111.out] at HP11
    have HQ11 := aM HP11
    (try clear hM11); clear hcl11 hcc11 hfr11 HP11
    have p9 : 0 ≤ (x3_1 : Int) := of_decide_eq_true (by first|(with_reducible assumption)|assumption)
    have q9 : (x3_1 : Int) < ((x0_1.length : Int) : Int) := of_decide_eq_true (by first|(with_reducible assumption)|assumption)
    obtain ⟨ce9, hcl9, hM9, hcc9, hfr9⟩ := Kd.R_elem HQ11.out z64 (x3_1 : Int) p9 q9
    obtain rfl := k64_openM hM9
    have hx9_0 : World.cell? _ ⟨go8, (x3_1 : Int).toNat * 4, none⟩ = some (.int .i64 ((rd_T64 y111 x3_1).f0)) := hcc9 0 _ rfl
    have hx9_1 : World.cell? _ ⟨go8, (x3_1 : Int).toNat * 4 + 1, none⟩ = some (.int .i64 ((rd_T64 y111 x3_1).f1)) := hcc9 1 _ rfl
    have hx9_2 : World.cell? _ ⟨go8, (x3_1 : Int).toNat * 4 + 2, none⟩ = some (.int .i64 ((rd_T64 y111 x3_1).f2)) := hcc9 2 _ rfl
    have hx9_3 : World.cell? _ ⟨go8, (x3_1 : Int).toNat * 4 + 3, none⟩ = some (.int .i64 ((rd_T64 y111 x3_1).f3)) := hcc9 3 _ rfl
    have hf9_0 : World.frozen? _ ⟨go8, (x3_1 : Int).toNat * 4, none⟩ = false := hfr9 0
    have hf9_1 : World.frozen? _ ⟨go8, (x3_1 : Int).toNat * 4 + 1, none⟩ = false := hfr9 1
    have hf9_2 : World.frozen? _ ⟨go8, (x3_1 : Int).toNat * 4 + 2, none⟩ = false := hfr9 2
    have hf9_3 : World.frozen? _ ⟨go8, (x3_1 : Int).toNat * 4 + 3, none⟩ = false := hfr9 3
    (try clear hM9); clear hcl9 hcc9 hfr9
    replace p9 := eq_true p9
    replace q9 := eq_true q9
    obtain ⟨ce12, hcl12, hM12, hcc12, hfr12⟩ := Kd.R_elem HQ11.out z64 (x3_1 : Int) (of_decide_eq_true (by first|(with_reducible assumption)|assumption)) (by have h_ : (x3_1 : Int) < ((x0_1.length : Int) : Int) := of_decide_eq_true (by first|(with_reducible assumption)|assumption); first|exact h_|(have e_ := (Kd.R_reads' HO_0.out).1; omega)|simpa using h_)
    obtain rfl := k64_openM hM12
    have HP12 := (Kd.R_seg HQ11.out (x3_1 : Int) (of_decide_eq_true (by first|(with_reducible assumption)|assumption)) (by have h_ : (x3_1 : Int) < ((x0_1.length : Int) : Int) := of_decide_eq_true (by first|(with_reducible assumption)|assumption); first|exact h_|(have e_ := (Kd.R_reads' HO_0.out).1; omega)|simpa using h_) (seg := [.int .i64 ((rd_T64 x0_1 x2_1).f0), .int .i64 ((rd_T64 x0_1 x2_1).f1), .int .i64 ((rd_T64 x0_1 x2_1).f2), .int .i64 ((rd_T64 x0_1 x2_1).f3)]) (j := 0) hcl12 hcc12 (show 4 ≤ 4 from by decide) (x' := (⟨(rd_T64 x0_1 x2_1).f0, (rd_T64 x0_1 x2_1).f1, (rd_T64 x0_1 x2_1).f2, (rd_T64 x0_1 x2_1).f3⟩ : S64)) (k64_mkM _ _ _ (⟨(rd_T64 x0_1 x2_1).f0, (rd_T64 x0_1 x2_1).f1, (rd_T64 x0_1 x2_1).f2, (rd_T64 x0_1 x2_1).f3⟩ : S64) ) (fun _ hk => hk)).1
    rw [← Ny112.out] at HP12
    have HQ12 := aM HP12
    (try clear hM12); clear hcl12 hcc12 hfr12 HP12
    refine start_ (n := 16) (S := fun w' => w'.cell? ⟨go8, ((x3_1).toNat * 4), none⟩ = some (.int .i64 ((rd_T64 x0_1 x3_1).f0)) ∧ w'.cell? ⟨go8, ((x3_1).toNat * 4) + 1, none⟩ = some (.int .i64 ((rd_T64 x0_1 x3_1).f1)) ∧ w'.cell? ⟨go8, ((x3_1).toNat * 4) + 2, none⟩ = some (.int .i64 ((rd_T64 x0_1 x3_1).f2)) ∧ w'.cell? ⟨go8, ((x3_1).toNat * 4) + 3, none⟩ = some (.int .i64 ((rd_T64 x0_1 x3_1).f3)) ∧ w'.cell? ⟨go8, ((x2_1).toNat * 4), none⟩ = some (.int .i64 ((rd_T64 x0_1 x2_1).f0)) ∧ w'.cell? ⟨go8, ((x2_1).toNat * 4) + 1, none⟩ = some (.int .i64 ((rd_T64 x0_1 x2_1).f1)) ∧ w'.cell? ⟨go8, ((x2_1).toNat * 4) + 2, none⟩ = some (.int .i64 ((rd_T64 x0_1 x2_1).f2)) ∧ w'.cell? ⟨go8, ((x2_1).toNat * 4) + 3, none⟩ = some (.int .i64 ((rd_T64 x0_1 x2_1).f3))) (ds := [13, 15]) #[false, false, false, false, false, false, false, false, false, false, false, false, false, false, false, false] (by kernel_rfl) rfl rfl ⟨hx109_0, hx109_1, hx109_2, hx109_3, hx110_0, hx110_1, hx110_2, hx110_3⟩ (fun hHeld => ?_); refine with_tabW api_Token_28.tab3 api_Token_28.bits3 (fun HT_ HW_ => ?_)
    generalize wr.drew = w10 at HO_0 HK HB GG8 HQ11 HQ12 hf8_0 hf8_1 hf8_2 hf8_3 hf9_0 hf9_1 hf9_2 hf9_3 hx109_0 hx109_1 hx109_2 hx109_3 hx110_0 hx110_1 hx110_2 hx110_3 hx8_0 hx8_1 hx8_2 hx8_3 hx9_0 hx9_1 hx9_2 hx9_3 hHeld ⊢
    refine pure_ (i := 0) (N := some 14) (v := ?_) (a' := ?_) #[true, false, false, false, false, false, false, false, false, false, false, false, false, false, false, false] rfl rfl (any_of HT_.out (by kernel_rfl)) (fun _ _ _ h => h) (Or.inl ⟨by rfl, ?_⟩) ?_ ?_
    rotate_left
    ·intro w'
     go_simp
     with_reducible rfl
    rotate_left
    ·simp only [Act.put, List.setIfInBounds_toArray, List.set_cons_zero, List.set_cons_succ, i64_w, i32_w]
     rfl
    refine pure_ (i := 1) (N := some 15) (v := ?_) (a' := ?_) #[true, true, false, false, false, false, false, false, false, false, false, false, false, false, false, false] rfl rfl (any_of HT_.out (by kernel_rfl)) (fun _ _ _ h => h) (Or.inl ⟨by rfl, ?_⟩) ?_ ?_
    rotate_left
    ·intro w'
     go_simp
     with_reducible rfl
    rotate_left
    ·simp only [Act.put, List.setIfInBounds_toArray, List.set_cons_zero, List.set_cons_succ, i64_w, i32_w]
     rfl
    refine pure_ (i := 2) (N := some 16) (v := ?_) (a' := ?_) #[true, true, true, false, false, false, false, false, false, false, false, false, false, false, false, false] rfl rfl (any_of HT_.out (by kernel_rfl)) (fun _ _ _ h => h) (Or.inl ⟨by rfl, ?_⟩) ?_ ?_
    rotate_left
    ·intro w'
     go_simp
     with_reducible rfl
    rotate_left
    ·simp only [Act.put, List.setIfInBounds_toArray, List.set_cons_zero, List.set_cons_succ, i64_w, i32_w]
     rfl
    refine pure_ (i := 3) (N := some 17) (v := ?_) (a' := ?_) #[true, true, true, true, false, false, false, false, false, false, false, false, false, false, false, false] rfl rfl (any_of HT_.out (by kernel_rfl)) (fun _ _ _ h => h) (Or.inl ⟨by rfl, ?_⟩) ?_ ?_
    rotate_left
    ·intro w'
     go_simp
     with_reducible rfl
    rotate_left
    ·simp only [Act.put, List.setIfInBounds_toArray, List.set_cons_zero, List.set_cons_succ, i64_w, i32_w]
     rfl
    refine pure_ (i := 4) (N := some 18) (v := ?_) (a' := ?_) #[true, true, true, true, true, false, false, false, false, false, false, false, false, false, false, false] rfl rfl (any_of HT_.out (by kernel_rfl)) (fun _ _ _ h => h) (Or.inl ⟨by rfl, ?_⟩) ?_ ?_
    rotate_left
    ·intro w'
     go_simp
     with_reducible rfl
    rotate_left
    ·simp only [Act.put, List.setIfInBounds_toArray, List.set_cons_zero, List.set_cons_succ, i64_w, i32_w]
     rfl
    refine pure_ (i := 5) (N := some 19) (v := ?_) (a' := ?_) #[true, true, true, true, true, true, false, false, false, false, false, false, false, false, false, false] rfl rfl (any_of HT_.out (by kernel_rfl)) (fun _ _ _ h => h) (Or.inl ⟨by rfl, ?_⟩) ?_ ?_
    rotate_left
    ·intro w'
     go_simp
     with_reducible rfl
    rotate_left
    ·simp only [Act.put, List.setIfInBounds_toArray, List.set_cons_zero, List.set_cons_succ, i64_w, i32_w]
     rfl
    refine pure_ (i := 6) (N := some 20) (v := ?_) (a' := ?_) #[true, true, true, true, true, true, true, false, false, false, false, false, false, false, false, false] rfl rfl (any_of HT_.out (by kernel_rfl)) (fun _ _ _ h => h) (Or.inl ⟨by rfl, ?_⟩) ?_ ?_
    rotate_left
    ·intro w'
     go_simp
     with_reducible rfl
    rotate_left
    ·simp only [Act.put, List.setIfInBounds_toArray, List.set_cons_zero, List.set_cons_succ, i64_w, i32_w]
     rfl
    refine pure_ (i := 8) (N := some 22) (v := ?_) (a' := ?_) #[true, true, true, true, true, true, true, false, true, false, false, false, false, false, false, false] rfl rfl (any_of HT_.out (by kernel_rfl)) (fun _ _ _ h => h) (Or.inl ⟨by rfl, ?_⟩) ?_ ?_
    rotate_left
    ·intro w'
     go_simp
     with_reducible rfl
    rotate_left
    ·simp only [Act.put, List.setIfInBounds_toArray, List.set_cons_zero, List.set_cons_succ, i64_w, i32_w]
     rfl
    refine pure_ (i := 9) (N := some 23) (v := ?_) (a' := ?_) #[true, true, true, true, true, true, true, false, true, true, false, false, false, false, false, false] rfl rfl (any_of HT_.out (by kernel_rfl)) (fun _ _ _ h => h) (Or.inl ⟨by rfl, ?_⟩) ?_ ?_
    rotate_left
    ·intro w'
     go_simp
     with_reducible rfl
    rotate_left
    ·simp only [Act.put, List.setIfInBounds_toArray, List.set_cons_zero, List.set_cons_succ, i64_w, i32_w]
     rfl
    refine pure_ (i := 10) (N := some 24) (v := ?_) (a' := ?_) #[true, true, true, true, true, true, true, false, true, true, true, false, false, false, false, false] rfl rfl (any_of HT_.out (by kernel_rfl)) (fun _ _ _ h => h) (Or.inl ⟨by rfl, ?_⟩) ?_ ?_
    rotate_left
    ·intro w'
     go_simp
     with_reducible rfl
    rotate_left
    ·simp only [Act.put, List.setIfInBounds_toArray, List.set_cons_zero, List.set_cons_succ, i64_w, i32_w]
     rfl
    refine take_ (i := 7) (N := some 21) (v := ?_) (a' := ?_) #[true, true, true, true, true, true, true, true, true, true, true, false, false, false, false, false] rfl rfl (take_ofW HT_.out HW_.out (by kernel_rfl)) (fun _ _ _ h => h) (Or.inl ⟨by rfl, ?_⟩) hHeld ?_ ?_
    rotate_left
    ·rintro w' ⟨s0, s1, s2, s3, s4, s5, s6, s7⟩
     go_simp
     with_reducible rfl
    rotate_left
    ·simp only [Act.put, List.setIfInBounds_toArray, List.set_cons_zero, List.set_cons_succ, i64_w, i32_w]
     rfl
    refine take_ (i := 11) (N := some 25) (v := ?_) (a' := ?_) #[true, true, true, true, true, true, true, true, true, true, true, true, false, false, false, false] rfl rfl (take_ofW HT_.out HW_.out (by kernel_rfl)) (fun _ _ _ h => h) (Or.inl ⟨by rfl, ?_⟩) hHeld ?_ ?_
    rotate_left
    ·rintro w' ⟨s0, s1, s2, s3, s4, s5, s6, s7⟩
     go_simp
     with_reducible rfl
    rotate_left
    ·simp only [Act.put, List.setIfInBounds_toArray, List.set_cons_zero, List.set_cons_succ, i64_w, i32_w]
     rfl
    refine pure_ (i := 12) (N := some 26) (v := ?_) (a' := ?_) #[true, true, true, true, true, true, true, true, true, true, true, true, true, false, false, false] rfl rfl (any_of HT_.out (by kernel_rfl)) (fun _ _ _ h => h) (Or.inl ⟨by rfl, ?_⟩) ?_ ?_
    rotate_left
    ·intro w'
     go_simp
     with_reducible rfl
    rotate_left
    ·simp only [Act.put, List.setIfInBounds_toArray, List.set_cons_zero, List.set_cons_succ, i64_w, i32_w]
     rfl
    refine last_ (i := 13) (N := none) #[true, true, true, true, true, true, true, true, true, true, true, true, true, true, false, false] rfl rfl (one_of HT_.out (by kernel_rfl)) (by decide) (fun K hK => ?_)
    refine skip_ (w1 := ?_) (by rfl) rfl ?_ ?_
    rotate_left
    ·go_simp
     rfl
    refine hK.out _ _ ?_
    clear hK K
    refine pure_ (i := 14) (N := some 27) (v := ?_) (a' := ?_) #[true, true, true, true, true, true, true, true, true, true, true, true, true, true, true, false] rfl rfl (any_of HT_.out (by kernel_rfl)) (fun _ _ _ h => h) (Or.inl ⟨by rfl, ?_⟩) ?_ ?_
    rotate_left
    ·intro w'
     go_simp
     with_reducible rfl
    rotate_left
    ·simp only [Act.put, List.setIfInBounds_toArray, List.set_cons_zero, List.set_cons_succ, i64_w, i32_w]
     rfl
    have hx_ : x2_1.toNat < x3_1.toNat := by have a_ := of_decide_eq_true c3b0; have b_ := of_decide_eq_true c6b0; omega
    have hy_00 : (x3_1.toNat * 4 = x2_1.toNat * 4) = False := eq_false (by omega)
    have hy_01 : (x3_1.toNat * 4 + 1 = x2_1.toNat * 4) = False := eq_false (by omega)
    have hy_02 : (x3_1.toNat * 4 + 2 = x2_1.toNat * 4) = False := eq_false (by omega)
    have hy_03 : (x3_1.toNat * 4 + 3 = x2_1.toNat * 4) = False := eq_false (by omega)
    have hy_10 : (x3_1.toNat * 4 = x2_1.toNat * 4 + 1) = False := eq_false (by omega)
    have hy_11 : (x3_1.toNat * 4 + 1 = x2_1.toNat * 4 + 1) = False := eq_false (by omega)
    have hy_12 : (x3_1.toNat * 4 + 2 = x2_1.toNat * 4 + 1) = False := eq_false (by omega)
    have hy_13 : (x3_1.toNat * 4 + 3 = x2_1.toNat * 4 + 1) = False := eq_false (by omega)
    have hy_20 : (x3_1.toNat * 4 = x2_1.toNat * 4 + 2) = False := eq_false (by omega)
    have hy_21 : (x3_1.toNat * 4 + 1 = x2_1.toNat * 4 + 2) = False := eq_false (by omega)
    have hy_22 : (x3_1.toNat * 4 + 2 = x2_1.toNat * 4 + 2) = False := eq_false (by omega)
    have hy_23 : (x3_1.toNat * 4 + 3 = x2_1.toNat * 4 + 2) = False := eq_false (by omega)
    have hy_30 : (x3_1.toNat * 4 = x2_1.toNat * 4 + 3) = False := eq_false (by omega)
    have hy_31 : (x3_1.toNat * 4 + 1 = x2_1.toNat * 4 + 3) = False := eq_false (by omega)
    have hy_32 : (x3_1.toNat * 4 + 2 = x2_1.toNat * 4 + 3) = False := eq_false (by omega)
    have hy_33 : (x3_1.toNat * 4 + 3 = x2_1.toNat * 4 + 3) = False := eq_false (by omega)
    have hx2_ : (x3_1.toNat = x2_1.toNat) = False := eq_false (by omega)
    obtain ⟨cez_, hclz_, hMz_, hccz_, hfrz_⟩ := Kd.R_elem HO_0.out z64 (x3_1 : Int) (of_decide_eq_true c4b0) (by have h_ := of_decide_eq_true c5b0; (first|exact h_|(simp only [hl0_1] at h_ ⊢; exact h_)|omega))
    have hfz_0 : World.frozen? _ ⟨go8, (x3_1 : Int).toNat * 4, none⟩ = false := hfrz_ 0
    have hfz_1 : World.frozen? _ ⟨go8, (x3_1 : Int).toNat * 4 + 1, none⟩ = false := hfrz_ 1
    have hfz_2 : World.frozen? _ ⟨go8, (x3_1 : Int).toNat * 4 + 2, none⟩ = false := hfrz_ 2
    have hfz_3 : World.frozen? _ ⟨go8, (x3_1 : Int).toNat * 4 + 3, none⟩ = false := hfrz_ 3
    clear hclz_ hMz_ hccz_ hfrz_
    refine last_ (i := 15) (N := none) #[true, true, true, true, true, true, true, true, true, true, true, true, true, true, true, true] rfl rfl (one_of HT_.out (by kernel_rfl)) (by decide) (fun K hK => ?_)
    refine skip_ (w1 := ?_) (by rfl) rfl ?_ ?_
    rotate_left
    ·go_simp
     rfl
    refine hK.out _ _ ?_
    clear hK K
    refine done_ (done_of HT_.out (by kernel_rfl)) ?_
    try go_wp2
    (try simp only [← hl0_1])
    go_roundg k1
    case measure => have := HK1.out; omega
    case rel => exact ⟨(y112), (wrap64 (x2_1 + 1)), (wrap64 (x3_1 - 1)), (by first|rfl|(simp; done)|(simp [*]; done)), (by first|rfl|(simp; done)|(simp [*]; done)), H', ⟨by have := HK1.out; omega⟩, ⟨by (try simp only [hl0_1]); (with_reducible repeat (first|apply Kd.R_alloc|apply Kd.R_drewN|apply Kd.R_drew)); exact HQ12.out⟩, ⟨by repeat (first|(with_reducible first|exact HK.out|apply Kept.alloc|apply Kept.drewN|apply Kept.drew|refine Kept.setCell ?_ HMgo8.out _|refine Kept.setCell ?_ HMgo8.out _|refine Kept.setCell ?_ HMgo8.out _|refine Kept.setCell ?_ HMgo8.out _|refine Kept.setCell ?_ HMgo8.out _|refine Kept.setCell ?_ HMgo8.out _|refine Kept.setCell ?_ HMgo8.out _|refine Kept.setCell ?_ HMgo8.out _)|exact HK.out)⟩, ⟨by repeat (first|(with_reducible first|exact HB.out|apply lA|apply lN|apply lD|refine lS ?_ GB8.out|refine lS ?_ GB8.out|refine lS ?_ GB8.out|refine lS ?_ GB8.out|refine lS ?_ GB8.out|refine lS ?_ GB8.out|refine lS ?_ GB8.out|refine lS ?_ GB8.out)|exact HB.out)⟩⟩
   ·rw [if_neg c3] at H
    have c3b0 : decide (x2_1 < x3_1) = false := decide_eq_false c3
    clear c3
    obtain rfl := Option.some.inj H
    go_wp2
    first|go_end0|((try simp only [Exit.inBlock, Exit.then]); refine bodyPost_ret (results_none rfl _ _ _) rfl ?_)
    exact ⟨by first|rfl|(simp [errW_none, errW_some] <;> rfl)|(simp [*, errW_none, errW_some] <;> rfl), (by first|exact (by (with_reducible repeat (first|apply Kd.R_alloc|apply Kd.R_drewN|apply Kd.R_drew)); exact HO_0.out)|(simp only [hl0_1]; exact (by (with_reducible repeat (first|apply Kd.R_alloc|apply Kd.R_drewN|apply Kd.R_drew)); exact HO_0.out))), by repeat (first|(with_reducible first|exact HB.out|apply lA|apply lN|apply lD)|exact HB.out), by repeat (first|(with_reducible first|exact HK.out|apply Kept.alloc|apply Kept.drewN|apply Kept.drew)|exact HK.out)⟩

end Go.Proofs.Ytjpmlggkhhoooaa.PDq
-- Written for this claim by a program (the kit's print, with hand-made contracts for what it does not take).
namespace Go.Proofs.Ytjpmlggkhhoooaa.PDq
open Go.RowKit Go.Proofs.YtjpmlggkhhoooaaW.PrintWords Go.Proofs.YtjpmlggkhhoooaaW.PrintLast Go.Proofs.YtjpmlggkhhoooaaW.PrintMore
attribute [local go_sem] max2_int min2_int max_two min_two max_three min_three max_four min_four   -- for this text's walks alone
set_option linter.unusedVariables false
set_option linter.unusedSimpArgs false

def diff_Ends.f (k : Nat) (l0 : List (S64)) (l1 : List (S64)) : Option (Int × Int) := (api_Token_26.f k l0 l1).bind fun t113 => (if 0 ≤ t113 then (if t113 ≤ (l0.length : Int) then ((api_Token_27.f (l0.drop (t113 : Int).toNat)).bind fun t118 => (if t113 ≤ (l1.length : Int) then ((api_Token_27.f (l1.drop (t113 : Int).toNat)).bind fun t125 => ((api_Token_28.f k t118).bind fun t128 => ((api_Token_28.f k t125).bind fun t129 => ((api_Token_26.f k t128 t129).bind fun t130 => (some (t113, t130)))))) else (none))) else (none)) else (none))
theorem diff_Ends.mono : ∀ a0 a1 k, LeO (diff_Ends.f k a0 a1) (diff_Ends.f (k + 1) a0 a1) := by
 intro a0 a1 k
 unfold diff_Ends.f
 repeat' first
  |(with_reducible exact api_Token_26.mono _ _ _)
  |(with_reducible exact api_Token_28.mono _ _)
  |(with_reducible exact LeO.refl _)
  |(with_reducible exact LeO.none _)
  |(with_reducible refine LeO.ite ?_ ?_)
  |(with_reducible refine LeO.bind ?_ (fun _ => ?_))
  |exact api_Token_26.mono _ _ _
  |exact api_Token_28.mono _ _
  |exact LeO.none _
  |refine LeO.ite ?_ ?_
  |refine LeO.bind ?_ (fun _ => ?_)
def diff_Ends.T2 : Bool × List (List Nat × List Nat) := (true, [([], []), ([], []), ([0, 1], [0, 1]), ([2], [2]), ([], []), ([], []), ([4, 5], [4, 5]), ([6, 3], [6]), ([3, 7, 0, 1, 2, 3], [3]), ([7, 8, 0, 1, 2, 3, 4, 5, 6, 7, 8], [7])])
def diff_Ends.B2 : List Nat := [0, 0, 3, 7, 0, 0, 48, 127, 255, 511]
theorem diff_Ends.tab2 : rtab .any (opsOf Try.f9 2) = diff_Ends.T2 := by kernel_rfl
theorem diff_Ends.bits2 : waitsOk diff_Ends.T2.2 diff_Ends.B2 = true := by kernel_rfl
set_option maxHeartbeats 8000000 in
set_option maxRecDepth 100000 in
theorem diff_Ends.calls (k : Nat) (A0 : Option Addr) (c0 : Nat) (l0 : List (S64)) (A1 : Option Addr) (c1 : Nat) (l1 : List (S64)) (r1 : Int) (r2 : Int) (w : World) (hr0 : Kd.C k64 w A0 l0.length l0) (hc0 : l0.length ≤ c0) (hr1 : Kd.C k64 w A1 l1.length l1) (hc1 : l1.length ≤ c1) (h : diff_Ends.f k l0 l1 = some (r1, r2)) :
  Calls Try.prog 9 #[.slice A0 l0.length c0, .slice A1 l1.length c1] w fun e w' => e = .returned (.tuple #[.int .i64 r1, .int .i64 r2]) ∧ Below w.heap.size w w' := by
 have HR0 := aM hr0
 have HC0 := aM hc0
 clear hr0 hc0
 have HR1 := aM hr1
 have HC1 := aM hc1
 clear hr1 hc1
 have HB := aM (Below.refl w.heap.size w)
 have H : ((api_Token_26.f k l0 l1).bind fun t113 => (if 0 ≤ t113 then (if t113 ≤ (l0.length : Int) then ((api_Token_27.f (l0.drop (t113 : Int).toNat)).bind fun t118 => (if t113 ≤ (l1.length : Int) then ((api_Token_27.f (l1.drop (t113 : Int).toNat)).bind fun t125 => ((api_Token_28.f k t118).bind fun t128 => ((api_Token_28.f k t125).bind fun t129 => ((api_Token_26.f k t128 t129).bind fun t130 => (some (t113, t130)))))) else (none))) else (none)) else (none))) = some (r1, r2) := h
 clear h
 replace H := Option.bind_eq_some_iff.mp H
 obtain ⟨t113, A30, H⟩ := H
 replace H : (if 0 ≤ t113 then (if t113 ≤ (l0.length : Int) then ((api_Token_27.f (l0.drop (t113 : Int).toNat)).bind fun t118 => (if t113 ≤ (l1.length : Int) then ((api_Token_27.f (l1.drop (t113 : Int).toNat)).bind fun t125 => ((api_Token_28.f k t118).bind fun t128 => ((api_Token_28.f k t125).bind fun t129 => ((api_Token_26.f k t128 t129).bind fun t130 => (some (t113, t130)))))) else (none))) else (none)) else (none)) = some (r1, r2) := H
 have A3 := aM A30
 clear A30
 replace H := ifS H; obtain ⟨c4, H⟩ := H
 have c4b0 := eq_true c4
 have c4b1 : decide (0 ≤ t113) = true := decide_eq_true c4
 clear c4
 replace H := ifS H; obtain ⟨c5, H⟩ := H
 have c5b0 := eq_true c5
 have c5b1 : decide (t113 ≤ (l0.length : Int)) = true := decide_eq_true c5
 clear c5
 obtain ⟨y114, hy114⟩ : ∃ y_ : List (S64), y_ = (l0.drop (t113 : Int).toNat) := ⟨_, rfl⟩
 replace H : ((api_Token_27.f y114).bind fun t118 => (if t113 ≤ (l1.length : Int) then ((api_Token_27.f (l1.drop (t113 : Int).toNat)).bind fun t125 => ((api_Token_28.f k t118).bind fun t128 => ((api_Token_28.f k t125).bind fun t129 => ((api_Token_26.f k t128 t129).bind fun t130 => (some (t113, t130)))))) else (none))) = some (r1, r2) := by first|(rw [hy114]; with_reducible exact H)|(have H2_ := (Option.bind_some _ _).symm.trans H; rw [hy114]; with_reducible exact H2_)|(have H2_ := (Option.bind_some _ _).symm.trans H; with_reducible exact H2_)|with_reducible exact H|(rw [hy114]; exact H)|exact H
 have Ny114 := aM hy114
 clear hy114
 replace H := Option.bind_eq_some_iff.mp H
 obtain ⟨t118, A60, H⟩ := H
 replace H : (if t113 ≤ (l1.length : Int) then ((api_Token_27.f (l1.drop (t113 : Int).toNat)).bind fun t125 => ((api_Token_28.f k t118).bind fun t128 => ((api_Token_28.f k t125).bind fun t129 => ((api_Token_26.f k t128 t129).bind fun t130 => (some (t113, t130)))))) else (none)) = some (r1, r2) := H
 have A6 := aM A60
 clear A60
 have c7b0 := eq_true (of_decide_eq_true (by first|(with_reducible assumption)|assumption) : 0 ≤ t113)
 replace H := ifS H; obtain ⟨c8, H⟩ := H
 have c8b0 := eq_true c8
 have c8b1 : decide (t113 ≤ (l1.length : Int)) = true := decide_eq_true c8
 clear c8
 obtain ⟨y121, hy121⟩ : ∃ y_ : List (S64), y_ = (l1.drop (t113 : Int).toNat) := ⟨_, rfl⟩
 replace H : ((api_Token_27.f y121).bind fun t125 => ((api_Token_28.f k t118).bind fun t128 => ((api_Token_28.f k t125).bind fun t129 => ((api_Token_26.f k t128 t129).bind fun t130 => (some (t113, t130)))))) = some (r1, r2) := by first|(rw [hy121]; with_reducible exact H)|(have H2_ := (Option.bind_some _ _).symm.trans H; rw [hy121]; with_reducible exact H2_)|(have H2_ := (Option.bind_some _ _).symm.trans H; with_reducible exact H2_)|with_reducible exact H|(rw [hy121]; exact H)|exact H
 have Ny121 := aM hy121
 clear hy121
 replace H := Option.bind_eq_some_iff.mp H
 obtain ⟨t125, A90, H⟩ := H
 replace H : ((api_Token_28.f k t118).bind fun t128 => ((api_Token_28.f k t125).bind fun t129 => ((api_Token_26.f k t128 t129).bind fun t130 => (some (t113, t130))))) = some (r1, r2) := H
 have A9 := aM A90
 clear A90
 replace H := Option.bind_eq_some_iff.mp H
 obtain ⟨t128, A100, H⟩ := H
 replace H : ((api_Token_28.f k t125).bind fun t129 => ((api_Token_26.f k t128 t129).bind fun t130 => (some (t113, t130)))) = some (r1, r2) := H
 have A10 := aM A100
 clear A100
 replace H := Option.bind_eq_some_iff.mp H
 obtain ⟨t129, A110, H⟩ := H
 replace H : ((api_Token_26.f k t128 t129).bind fun t130 => (some (t113, t130))) = some (r1, r2) := H
 have A11 := aM A110
 clear A110
 replace H := Option.bind_eq_some_iff.mp H
 obtain ⟨t130, A120, H⟩ := H
 replace H : (some (t113, t130)) = some (r1, r2) := H
 have A12 := aM A120
 clear A120
 simp only [Option.some.injEq, Prod.mk.injEq] at H
 obtain ⟨rfl, rfl⟩ := H
 go_enter Try.func9, Try.ntmps9
 try go_wp2_with (first|((with_reducible refine gate_callee (f := 26) rfl ?_); refine goesL_ (some 11) rfl rfl Try.func26 (by kernel_rfl) rfl #[.slice A0 l0.length c0, .slice A1 l1.length c1] rfl (by (try simp only [List.map_toArray, List.map_cons, List.map_nil]); first|done|rfl|(simp only [List.length_drop, List.length_take]; rfl)) ?_; (with_reducible refine (api_Token_26.calls k _ _ l0 _ _ l1 t113 _ ?side1 ?side2 ?side3 ?side4 A3.out).mono ?_); (case side1 => repeat (first|exact HR0.out|(with_reducible refine Kd.C_alloc ?_ _)|(with_reducible refine Kd.C_drewN ?_ _)|(with_reducible refine Kd.C_drew ?_))); (case side2 => exact HC0.out); (case side3 => repeat (first|exact HR1.out|(with_reducible refine Kd.C_alloc ?_ _)|(with_reducible refine Kd.C_drewN ?_ _)|(with_reducible refine Kd.C_drew ?_))); (case side4 => exact HC1.out); rintro e w13 ⟨rfl, hb⟩; refine ⟨_, rfl, ?_⟩; replace HB := aM (below_step (by repeat (first|(with_reducible first|exact HB.out|apply lA|apply lN|apply lD)|exact HB.out)) hb); (try clear hb); (try clear hb2); (try clear hk); (try clear hi)))
 have n0_ := aM (lD HB.out)
 clear HB
 have HB := n0_
 clear n0_
 have q15 : (t113 : Int) ≤ ((l0.length : Int) : Int) := of_decide_eq_true (by first|(with_reducible assumption)|assumption)
 obtain ⟨i015, hi015, _, hsz15, _⟩ := info_parts info64
 have hroom15 : l0.length ≤ c0 := HC0.out
 have hC15 : Kd.C k64 _ A0 l0.length l0 := HR0.out
 have q015 : (0 : Int) ≤ (t113 : Int) := of_decide_eq_true (by first|(with_reducible assumption)|assumption)
 have hcut15 := cut_from (P := Try.prog) 22 64 .i64 Try.underlying22 hi015 4 hsz15 A0 l0.length c0 t113 q015 q15
 have hr15 := Kd.C_drop (m := (t113 : Int).toNat) (c := c0) hC15 (by omega) hroom15
 obtain ⟨A15, hA15⟩ : ∃ A1, A1 = (if c0 = (t113 : Int).toNat then A0 else (A0 : Option Addr).map (·.add ((t113 : Int).toNat * 4))) := ⟨_, rfl⟩
 obtain ⟨c15, hc15⟩ : ∃ c1, c1 = c0 - (t113 : Int).toNat := ⟨_, rfl⟩
 have hy15 : y114.length = l0.length - (t113 : Int).toNat := (by rw [Ny114.out, List.length_drop] <;> omega)
 rw [show (l0).drop (t113 : Int).toNat = y114 from Ny114.out.symm] at hr15
 replace hr15 : Kd.C k64 _ A15 y114.length y114 := (by rw [hA15]; exact hr15)
 rw [← hy15, ← hA15, ← hc15] at hcut15
 have HR117 := aM hr15
 have HC117 := aM (show y114.length ≤ c15 from by rw [hy15, hc15]; exact Nat.sub_le_sub_right hroom15 _)
 clear hr15 hC15 hroom15 hi015 hsz15 hc15
 have KY15 := aM hy15
 have KA15 := aM hA15
 clear hy15 hA15
 replace q15 := eq_true q15
 have q16 : (t113 : Int) ≤ ((l1.length : Int) : Int) := of_decide_eq_true (by first|(with_reducible assumption)|assumption)
 obtain ⟨i016, hi016, _, hsz16, _⟩ := info_parts info64
 have hroom16 : l1.length ≤ c1 := HC1.out
 have hC16 : Kd.C k64 _ A1 l1.length l1 := HR1.out
 have q016 : (0 : Int) ≤ (t113 : Int) := of_decide_eq_true (by first|(with_reducible assumption)|assumption)
 have hcut16 := cut_from (P := Try.prog) 22 64 .i64 Try.underlying22 hi016 4 hsz16 A1 l1.length c1 t113 q016 q16
 have hr16 := Kd.C_drop (m := (t113 : Int).toNat) (c := c1) hC16 (by omega) hroom16
 obtain ⟨A16, hA16⟩ : ∃ Az_, Az_ = (if c1 = (t113 : Int).toNat then A1 else (A1 : Option Addr).map (·.add ((t113 : Int).toNat * 4))) := ⟨_, rfl⟩
 obtain ⟨c16, hc16⟩ : ∃ cz_, cz_ = c1 - (t113 : Int).toNat := ⟨_, rfl⟩
 have hy16 : y121.length = l1.length - (t113 : Int).toNat := (by rw [Ny121.out, List.length_drop] <;> omega)
 rw [show (l1).drop (t113 : Int).toNat = y121 from Ny121.out.symm] at hr16
 replace hr16 : Kd.C k64 _ A16 y121.length y121 := (by rw [hA16]; exact hr16)
 rw [← hy16, ← hA16, ← hc16] at hcut16
 have HR124 := aM hr16
 have HC124 := aM (show y121.length ≤ c16 from by rw [hy16, hc16]; exact Nat.sub_le_sub_right hroom16 _)
 clear hr16 hC16 hroom16 hi016 hsz16 hc16
 have KY16 := aM hy16
 have KA16 := aM hA16
 clear hy16 hA16
 replace q16 := eq_true q16
 refine start_ (n := 10) (S := fun w' => True) (ds := []) #[false, false, false, false, false, false, false, false, false, false] (by kernel_rfl) rfl rfl trivial (fun hHeld => ?_); refine with_tabW diff_Ends.tab2 diff_Ends.bits2 (fun HT_ HW_ => ?_)
 generalize w13.drew = w14 at HB HR117 HR124 hHeld ⊢
 refine pure_ (i := 0) (N := some 12) (v := ?_) (a' := ?_) #[true, false, false, false, false, false, false, false, false, false] rfl rfl (any_of HT_.out (by kernel_rfl)) (fun _ _ _ h => h) (Or.inl ⟨by rfl, ?_⟩) ?_ ?_
 rotate_left
 ·intro w'
  go_simp
  with_reducible rfl
 rotate_left
 ·simp only [Act.put, List.setIfInBounds_toArray, List.set_cons_zero, List.set_cons_succ, i64_w, i32_w]
  rfl
 refine pure_ (i := 1) (N := some 13) (v := ?_) (a' := ?_) #[true, true, false, false, false, false, false, false, false, false] rfl rfl (any_of HT_.out (by kernel_rfl)) (fun _ _ _ h => h) (Or.inl ⟨by rfl, ?_⟩) ?_ ?_
 rotate_left
 ·intro w'
  go_simp
  with_reducible rfl
 rotate_left
 ·simp only [Act.put, List.setIfInBounds_toArray, List.set_cons_zero, List.set_cons_succ, i64_w, i32_w]
  rfl
 refine pure_ (i := 2) (N := some 14) (v := ?_) (a' := ?_) #[true, true, true, false, false, false, false, false, false, false] rfl rfl (any_of HT_.out (by kernel_rfl)) (fun _ _ _ h => h) (Or.inl ⟨by rfl, ?_⟩) ?_ ?_
 rotate_left
 ·intro w'
  go_simp
  with_reducible rfl
 rotate_left
 ·simp only [Act.put, List.setIfInBounds_toArray, List.set_cons_zero, List.set_cons_succ, i64_w, i32_w]
  rfl
 refine pure_ (i := 4) (N := some 16) (v := ?_) (a' := ?_) #[true, true, true, false, true, false, false, false, false, false] rfl rfl (any_of HT_.out (by kernel_rfl)) (fun _ _ _ h => h) (Or.inl ⟨by rfl, ?_⟩) ?_ ?_
 rotate_left
 ·intro w'
  go_simp
  with_reducible rfl
 rotate_left
 ·simp only [Act.put, List.setIfInBounds_toArray, List.set_cons_zero, List.set_cons_succ, i64_w, i32_w]
  rfl
 refine pure_ (i := 5) (N := some 17) (v := ?_) (a' := ?_) #[true, true, true, false, true, true, false, false, false, false] rfl rfl (any_of HT_.out (by kernel_rfl)) (fun _ _ _ h => h) (Or.inl ⟨by rfl, ?_⟩) ?_ ?_
 rotate_left
 ·intro w'
  go_simp
  with_reducible rfl
 rotate_left
 ·simp only [Act.put, List.setIfInBounds_toArray, List.set_cons_zero, List.set_cons_succ, i64_w, i32_w]
  rfl
 refine pure_ (i := 6) (N := some 18) (v := ?_) (a' := ?_) #[true, true, true, false, true, true, true, false, false, false] rfl rfl (any_of HT_.out (by kernel_rfl)) (fun _ _ _ h => h) (Or.inl ⟨by rfl, ?_⟩) ?_ ?_
 rotate_left
 ·intro w'
  go_simp
  with_reducible rfl
 rotate_left
 ·simp only [Act.put, List.setIfInBounds_toArray, List.set_cons_zero, List.set_cons_succ, i64_w, i32_w]
  rfl
 refine one_ (i := 3) (N := some 15) #[true, true, true, true, true, true, true, false, false, false] rfl rfl (one_of HT_.out (by kernel_rfl)) (by decide) (fun K hK => ?_)
 refine goes_ Try.func27 (by kernel_rfl) rfl #[.slice A15 y114.length c15] (by rfl) rfl rfl (by (try simp only [List.map_toArray, List.map_cons, List.map_nil]); first|done|rfl|(simp only [List.length_drop, List.length_take]; rfl)) ?_
 with_reducible refine (api_Token_27.calls _ _ y114 t118 _ ?side1 ?side2 A6.out).mono ?_
 (case side1 => repeat (first|exact (Kd.C_below HR117.out HB.out)|(with_reducible refine Kd.C_alloc ?_ _)|(with_reducible refine Kd.C_drewN ?_ _)|(with_reducible refine Kd.C_drew ?_)))
 (case side2 => exact HC117.out)
 rintro e w17 ⟨v119, rfl, ho0, hb⟩
 refine ⟨_, rfl, ?_⟩
 have n0_ := aM (Kd.R_lower ho0 (below_size (by repeat (first|(with_reducible first|exact HB.out|apply lA|apply lN|apply lD)|exact HB.out))))
 have n1_ := aM (below_step (by repeat (first|(with_reducible first|exact HB.out|apply lA|apply lN|apply lD)|exact HB.out)) hb)
 clear HB
 have HO120 := n0_
 have HB := n1_
 clear n0_ n1_
 refine hK.out _ _ trivial (fun hHeld => ?_)
 clear hK K
 refine norm_ (a' := ?_) ?_ ?_
 rotate_left
 ·show Act.put _ (some 15) _ = _
  simp only [Act.put, List.setIfInBounds_toArray, List.set_cons_zero, List.set_cons_succ, i64_w, i32_w]
  rfl
 refine one_ (i := 7) (N := some 19) #[true, true, true, true, true, true, true, true, false, false] rfl rfl (one_of HT_.out (by kernel_rfl)) (by decide) (fun K hK => ?_)
 refine goes_ Try.func27 (by kernel_rfl) rfl #[.slice A16 y121.length c16] (by rfl) rfl rfl (by (try simp only [List.map_toArray, List.map_cons, List.map_nil]); first|done|rfl|(simp only [List.length_drop, List.length_take]; rfl)) ?_
 with_reducible refine (api_Token_27.calls _ _ y121 t125 _ ?side1 ?side2 A9.out).mono ?_
 (case side1 => repeat (first|exact (Kd.C_below HR124.out HB.out)|(with_reducible refine Kd.C_alloc ?_ _)|(with_reducible refine Kd.C_drewN ?_ _)|(with_reducible refine Kd.C_drew ?_)))
 (case side2 => exact HC124.out)
 rintro e w18 ⟨v126, rfl, ho0, hb⟩
 refine ⟨_, rfl, ?_⟩
 have n0_ := aM (Kd.R_elder' (by (with_reducible repeat (first|apply Kd.R_alloc|apply Kd.R_drewN|apply Kd.R_drew)); exact HO120.out) (Kd.R_base ho0) hb)
 have n1_ := aM (Kd.R_lower (Kd.R_new' ho0 (Kd.R_lt (by (with_reducible repeat (first|apply Kd.R_alloc|apply Kd.R_drewN|apply Kd.R_drew)); exact HO120.out))) (below_size (by repeat (first|(with_reducible first|exact HB.out|apply lA|apply lN|apply lD)|exact HB.out))))
 have n2_ := aM (below_step (by repeat (first|(with_reducible first|exact HB.out|apply lA|apply lN|apply lD)|exact HB.out)) hb)
 clear HO120
 clear HB
 have HO120 := n0_
 have HO127 := n1_
 have HB := n2_
 clear n0_ n1_ n2_
 refine hK.out _ _ trivial (fun hHeld => ?_)
 clear hK K
 refine norm_ (a' := ?_) ?_ ?_
 rotate_left
 ·show Act.put _ (some 19) _ = _
  simp only [Act.put, List.setIfInBounds_toArray, List.set_cons_zero, List.set_cons_succ, i64_w, i32_w]
  rfl
 refine pure_ (i := 8) (N := some 7) (v := ?_) (a' := ?_) #[true, true, true, true, true, true, true, true, true, false] rfl rfl (any_of HT_.out (by kernel_rfl)) (fun _ _ _ h => h) (Or.inl ⟨by rfl, ?_⟩) ?_ ?_
 rotate_left
 ·intro w'
  go_simp
  with_reducible rfl
 rotate_left
 ·simp only [Act.put, List.setIfInBounds_toArray, List.set_cons_zero, List.set_cons_succ, i64_w, i32_w]
  rfl
 refine pure_ (i := 9) (N := some 8) (v := ?_) (a' := ?_) #[true, true, true, true, true, true, true, true, true, true] rfl rfl (any_of HT_.out (by kernel_rfl)) (fun _ _ _ h => h) (Or.inl ⟨by rfl, ?_⟩) ?_ ?_
 rotate_left
 ·intro w'
  go_simp
  with_reducible rfl
 rotate_left
 ·simp only [Act.put, List.setIfInBounds_toArray, List.set_cons_zero, List.set_cons_succ, i64_w, i32_w]
  rfl
 refine done_ (done_of HT_.out (by kernel_rfl)) ?_
 obtain ⟨Ao19, co19, eo19⟩ := Kd.R_slice HO120.out
 subst eo19
 try go_wp2_with (first|((with_reducible refine gate_callee (f := 28) rfl ?_); refine goesL_ (some 21) rfl rfl Try.func28 (by kernel_rfl) rfl #[.slice Ao19 t118.length co19] rfl (by (try simp only [List.map_toArray, List.map_cons, List.map_nil]); first|done|rfl|(simp only [List.length_drop, List.length_take]; rfl)) ?_; (with_reducible refine (api_Token_28.calls k (fun k_ => some k_ = (.slice Ao19 t118.length co19 : Value).ownBlock) (.slice Ao19 t118.length co19) t118 t128 w _ ?side1 ?side2 A10.out).mono ?_); (case side1 => repeat (first|(with_reducible first|exact HB.out|apply lA|apply lN|apply lD)|exact HB.out)); (case side2 => exact Kd.R_tight rfl HO120.out); rintro e w20 ⟨rfl, hy0, hb, hkp⟩; refine ⟨_, rfl, ?_⟩; replace HO120 := aM (Kd.R_reok rfl hy0 (fun k_ e_ => HO120.out.1 k_ e_)); replace HO127 := aM (Kd.R_mono (ok' := fun k_ => some k_ ≠ (.slice Ao19 t118.length co19 : Value).ownBlock) (Kd.R_keptB (HO127.out) hkp (fun k_ hk_ hs_ => (hk_.2) hs_)) (fun k_ hk_ => hk_.1.2)); replace HB := aM (hb); (try clear hb); (try clear hkp); (try clear hy0); obtain ⟨Ao21, co21, eo21⟩ := Kd.R_slice HO127.out; subst eo21)|((with_reducible refine gate_callee (f := 28) rfl ?_); refine goesL_ (some 23) rfl rfl Try.func28 (by kernel_rfl) rfl #[.slice Ao21 t125.length co21] rfl (by (try simp only [List.map_toArray, List.map_cons, List.map_nil]); first|done|rfl|(simp only [List.length_drop, List.length_take]; rfl)) ?_; (with_reducible refine (api_Token_28.calls k (fun k_ => some k_ = (.slice Ao21 t125.length co21 : Value).ownBlock) (.slice Ao21 t125.length co21) t125 t129 w _ ?side1 ?side2 A11.out).mono ?_); (case side1 => repeat (first|(with_reducible first|exact HB.out|apply lA|apply lN|apply lD)|exact HB.out)); (case side2 => exact Kd.R_tight rfl HO127.out); rintro e w22 ⟨rfl, hy0, hb, hkp⟩; refine ⟨_, rfl, ?_⟩; replace HO120 := aM (Kd.R_mono (ok' := fun k_ => some k_ ≠ (.slice Ao21 t125.length co21 : Value).ownBlock) (Kd.R_keptB (HO120.out) hkp (fun k_ hk_ hs_ => (hk_.2) hs_)) (fun k_ hk_ => hk_.1.2)); replace HO127 := aM (Kd.R_reok rfl hy0 (fun k_ e_ => HO127.out.1 k_ e_)); replace HB := aM (hb); (try clear hb); (try clear hkp); (try clear hy0))|((with_reducible refine gate_callee (f := 26) rfl ?_); refine goesL_ (some 27) rfl rfl Try.func26 (by kernel_rfl) rfl #[.slice Ao19 t128.length co19, .slice Ao21 t129.length co21] rfl (by (try simp only [List.map_toArray, List.map_cons, List.map_nil]); first|done|(rw [show t128.length = t118.length from (Kd.R_reads' HO120.out).1.symm, show t129.length = t125.length from (Kd.R_reads' HO127.out).1.symm] <;> rfl)|rfl|(simp only [List.length_drop, List.length_take]; rfl)) ?_; (with_reducible refine (api_Token_26.calls k _ _ t128 _ _ t129 t130 _ ?side1 ?side2 ?side3 ?side4 A12.out).mono ?_); (case side1 => repeat (first|exact (Kd.R_reads' HO120.out).2.2|(with_reducible refine Kd.C_alloc ?_ _)|(with_reducible refine Kd.C_drewN ?_ _)|(with_reducible refine Kd.C_drew ?_))); (case side2 => rw [show t128.length = t118.length from (Kd.R_reads' HO120.out).1.symm]; exact (Kd.R_reads' HO120.out).2.1); (case side3 => repeat (first|exact (Kd.R_reads' HO127.out).2.2|(with_reducible refine Kd.C_alloc ?_ _)|(with_reducible refine Kd.C_drewN ?_ _)|(with_reducible refine Kd.C_drew ?_))); (case side4 => rw [show t129.length = t125.length from (Kd.R_reads' HO127.out).1.symm]; exact (Kd.R_reads' HO127.out).2.1); rintro e w23 ⟨rfl, hb⟩; refine ⟨_, rfl, ?_⟩; replace HO120 := aM (Kd.R_below (by (with_reducible repeat (first|apply Kd.R_alloc|apply Kd.R_drewN|apply Kd.R_drew)); exact HO120.out) hb); replace HO127 := aM (Kd.R_below (by (with_reducible repeat (first|apply Kd.R_alloc|apply Kd.R_drewN|apply Kd.R_drew)); exact HO127.out) hb); replace HB := aM (below_step (by repeat (first|(with_reducible first|exact HB.out|apply lA|apply lN|apply lD)|exact HB.out)) hb); (try clear hb); (try clear hb2); (try clear hk); (try clear hi)))
 go_ret2
 exact ⟨by first|rfl|(simp [errW_none, errW_some] <;> rfl)|(simp [*, errW_none, errW_some] <;> rfl), by repeat (first|(with_reducible first|exact HB.out|apply lA|apply lN|apply lD)|exact HB.out)⟩

def emenderlaw23_awake.f (k : Nat)  : Option (Bool) := (diff_Ends.f k (([(⟨0, 0, 120, 0⟩ : S64)] : List (S64))) (([(⟨0, 0, 120, 0⟩ : S64)] : List (S64)))).bind fun bt137 => (some (bt137.1 == 1))
theorem emenderlaw23_awake.mono : ∀ k, LeO (emenderlaw23_awake.f k ) (emenderlaw23_awake.f (k + 1) ) := by
 intro  k
 unfold emenderlaw23_awake.f
 repeat' first
  |(with_reducible exact diff_Ends.mono _ _ _)
  |(with_reducible exact LeO.refl _)
  |(with_reducible exact LeO.none _)
  |(with_reducible refine LeO.ite ?_ ?_)
  |(with_reducible refine LeO.bind ?_ (fun _ => ?_))
  |exact diff_Ends.mono _ _ _
  |exact LeO.none _
  |refine LeO.ite ?_ ?_
  |refine LeO.bind ?_ (fun _ => ?_)
set_option maxHeartbeats 8000000 in
set_option maxRecDepth 100000 in
theorem emenderlaw23_awake.calls (k : Nat)  (r : Bool) (w : World) (h : emenderlaw23_awake.f k  = some r) :
  Calls Try.prog 8 #[] w fun e w' => e = .returned (.bool r) ∧ Below w.heap.size w w' := by
 have hu64 := Try.underlying64
 have HB := aM (Below.refl w.heap.size w)
 have H : ((diff_Ends.f k (([(⟨0, 0, 120, 0⟩ : S64)] : List (S64))) (([(⟨0, 0, 120, 0⟩ : S64)] : List (S64)))).bind fun bt137 => (some (bt137.1 == 1))) = some r := h
 clear h
 obtain ⟨y131, hy131⟩ : ∃ y_ : List (S64), y_ = (([(⟨0, 0, 120, 0⟩ : S64)] : List (S64))) := ⟨_, rfl⟩
 replace H : ((diff_Ends.f k y131 (([(⟨0, 0, 120, 0⟩ : S64)] : List (S64)))).bind fun bt137 => (some (bt137.1 == 1))) = some r := by first|(rw [hy131]; with_reducible exact H)|(have H2_ := (Option.bind_some _ _).symm.trans H; rw [hy131]; with_reducible exact H2_)|(have H2_ := (Option.bind_some _ _).symm.trans H; with_reducible exact H2_)|with_reducible exact H|(rw [hy131]; exact H)|exact H
 have Ny131 := aM hy131
 clear hy131
 obtain ⟨y134, hy134⟩ : ∃ y_ : List (S64), y_ = (([(⟨0, 0, 120, 0⟩ : S64)] : List (S64))) := ⟨_, rfl⟩
 replace H : ((diff_Ends.f k y131 y134).bind fun bt137 => (some (bt137.1 == 1))) = some r := by first|(rw [hy134]; with_reducible exact H)|(have H2_ := (Option.bind_some _ _).symm.trans H; rw [hy134]; with_reducible exact H2_)|(have H2_ := (Option.bind_some _ _).symm.trans H; with_reducible exact H2_)|with_reducible exact H|(rw [hy134]; exact H)|exact H
 have Ny134 := aM hy134
 clear hy134
 replace H := Option.bind_eq_some_iff.mp H
 obtain ⟨⟨t137, t138⟩, A10, H⟩ := H
 replace H : (some (t137 == 1)) = some r := H
 have A1 := aM A10
 clear A10
 obtain rfl := Option.some.inj H
 go_enter Try.func8, Try.ntmps8
 go_wp2_with (first|((with_reducible refine gate_dst (N := 5) rfl ?_); refine Kd.R_lit k64 _ 64 ?hg (N := 5) ?hd (xs := ([(⟨0, 0, 120, 0⟩ : S64)] : List (S64))) (inner := [.int .i64 0, .int .i64 0, .int .i64 120, .int .i64 0]) (ok := fun _ => True) (okp := fun _ => True) ?hr ?hp (fun _ hk => hk) trivial (Below.refl _ _) (Nat.le_refl _) (by simp) ?_; (case hd => rfl); (case hg => rfl); (case hr => first|(go_simp; done)|(go_simp; rfl)); (case hp => exact (Reps.c4 (show Kd.M k64 _ _ _ (⟨0, 0, 120, 0⟩ : S64) [.int .i64 0, .int .i64 0, .int .i64 120, .int .i64 0] from (k64_mkM _ _ _ (⟨0, 0, 120, 0⟩ : S64) )) (Reps.none _ _))); intro v132 w2 ho3 hb hg_ hnew_; clear hg_ hnew_; (first|rw [← Ny131.out] at ho3|(simp only [Int.reduceToNat] at ho3; rw [← Ny131.out] at ho3)); replace HO133 := aM (Kd.R_lower ho3 (below_size (by repeat (first|(with_reducible first|exact HB.out|apply lA|apply lN|apply lD)|exact HB.out)))); replace HB := aM (below_step (by repeat (first|(with_reducible first|exact HB.out|apply lA|apply lN|apply lD)|exact HB.out)) hb); clear hb ho3)|((with_reducible refine gate_dst (N := 7) rfl ?_); refine Kd.R_lit k64 _ 64 ?hg (N := 7) ?hd (xs := ([(⟨0, 0, 120, 0⟩ : S64)] : List (S64))) (inner := [.int .i64 0, .int .i64 0, .int .i64 120, .int .i64 0]) (ok := fun _ => True) (okp := fun _ => True) ?hr ?hp (fun _ hk => hk) trivial (Below.refl _ _) (Nat.le_refl _) (by simp) ?_; (case hd => rfl); (case hg => rfl); (case hr => first|(go_simp; done)|(go_simp; rfl)); (case hp => exact (Reps.c4 (show Kd.M k64 _ _ _ (⟨0, 0, 120, 0⟩ : S64) [.int .i64 0, .int .i64 0, .int .i64 120, .int .i64 0] from (k64_mkM _ _ _ (⟨0, 0, 120, 0⟩ : S64) )) (Reps.none _ _))); intro v135 w4 ho5 hb hg_ hnew_; clear hg_ hnew_; (first|rw [← Ny134.out] at ho5|(simp only [Int.reduceToNat] at ho5; rw [← Ny134.out] at ho5)); replace HO136 := aM (Kd.R_lower (Kd.R_new' ho5 (Kd.R_lt (by (with_reducible repeat (first|apply Kd.R_alloc|apply Kd.R_drewN|apply Kd.R_drew)); exact HO133.out))) (below_size (by repeat (first|(with_reducible first|exact HB.out|apply lA|apply lN|apply lD)|exact HB.out)))); replace HO133 := aM (Kd.R_elder' (by (with_reducible repeat (first|apply Kd.R_alloc|apply Kd.R_drewN|apply Kd.R_drew)); exact HO133.out) (Kd.R_base ho5) hb); replace HB := aM (below_step (by repeat (first|(with_reducible first|exact HB.out|apply lA|apply lN|apply lD)|exact HB.out)) hb); clear hb ho5; obtain ⟨Ao6, co6, eo6⟩ := Kd.R_slice HO133.out; subst eo6; obtain ⟨Ao7, co7, eo7⟩ := Kd.R_slice HO136.out; subst eo7)|((with_reducible refine gate_callee (f := 9) rfl ?_); refine goesL_ (some 8) rfl rfl Try.func9 (by kernel_rfl) rfl #[.slice Ao6 y131.length co6, .slice Ao7 y134.length co7] rfl (by (try simp only [List.map_toArray, List.map_cons, List.map_nil]); first|done|rfl|(simp only [List.length_drop, List.length_take]; rfl)) ?_; (with_reducible refine (diff_Ends.calls k _ _ y131 _ _ y134 t137 t138 _ ?side1 ?side2 ?side3 ?side4 A1.out).mono ?_); (case side1 => repeat (first|exact (Kd.R_reads' HO133.out).2.2|(with_reducible refine Kd.C_alloc ?_ _)|(with_reducible refine Kd.C_drewN ?_ _)|(with_reducible refine Kd.C_drew ?_))); (case side2 => exact (Kd.R_reads' HO133.out).2.1); (case side3 => repeat (first|exact (Kd.R_reads' HO136.out).2.2|(with_reducible refine Kd.C_alloc ?_ _)|(with_reducible refine Kd.C_drewN ?_ _)|(with_reducible refine Kd.C_drew ?_))); (case side4 => exact (Kd.R_reads' HO136.out).2.1); rintro e w8 ⟨rfl, hb⟩; refine ⟨_, rfl, ?_⟩; replace HO133 := aM (Kd.R_below (by (with_reducible repeat (first|apply Kd.R_alloc|apply Kd.R_drewN|apply Kd.R_drew)); exact HO133.out) hb); replace HO136 := aM (Kd.R_below (by (with_reducible repeat (first|apply Kd.R_alloc|apply Kd.R_drewN|apply Kd.R_drew)); exact HO136.out) hb); replace HB := aM (below_step (by repeat (first|(with_reducible first|exact HB.out|apply lA|apply lN|apply lD)|exact HB.out)) hb); (try clear hb); (try clear hb2); (try clear hk); (try clear hi)))
 go_ret
 exact ⟨by first|rfl|(simp [errW_none, errW_some] <;> rfl)|(simp [*, errW_none, errW_some] <;> rfl), by repeat (first|(with_reducible first|exact HB.out|apply lA|apply lN|apply lD)|exact HB.out)⟩

end Go.Proofs.Ytjpmlggkhhoooaa.PDq
-- Written for this claim by a program (the kit's print, with hand-made contracts for what it does not take).
namespace Go.Proofs.Ytjpmlggkhhoooaa.PDq
open Go.RowKit Go.Proofs.YtjpmlggkhhoooaaW.PrintWords Go.Proofs.YtjpmlggkhhoooaaW.PrintLast Go.Proofs.YtjpmlggkhhoooaaW.PrintMore
attribute [local go_sem] max2_int min2_int max_two min_two max_three min_three max_four min_four   -- for this text's walks alone
set_option linter.unusedVariables false
set_option linter.unusedSimpArgs false

theorem eqA2 {P : Program} {t e : TypeId} (hu : P.underlying t = some (.array 2 e)) (he : P.underlying e = some (.int .i64)) {i0 : TypeInfo} (hi : P.info? e = some i0) (hs : i0.size = 1) (d : Nat) (w : World) (x0 y0 : Int) (x1 y1 : Int) :
  (Op.equalIn (d + 2) t (.agg #[.int .i64 x0, .int .i64 x1]) (.agg #[.int .i64 y0, .int .i64 y1])).run P w = .ok (x0 == y0 && (x1 == y1)) w := by
 rw [Op.equalIn]
 simp [run_underlying hu, sizeOf, typeInfo, hi, hs]
 rw [show List.range' 0 2 = [0, 1] from rfl]
 simp [part, isAgg, run_underlying he, run_equalIn_int, he]
 by_cases h0 : x0 = y0
 ·by_cases h1 : x1 = y1 <;> simp [h0, h1]
 ·simp [h0]
theorem eqA76 (d : Nat) (w : World) (x0 y0 : Int) (x1 y1 : Int) :
  (Op.equalIn (d + 2) 76 (.agg #[.int .i64 x0, .int .i64 x1]) (.agg #[.int .i64 y0, .int .i64 y1])).run Try.prog w = .ok (x0 == y0 && (x1 == y1)) w := by
 obtain ⟨i0, hi, _, hs, _⟩ := info_parts info3
 exact eqA2 Try.underlying76 Try.underlying3 hi hs d w x0 y0 x1 y1
end Go.Proofs.Ytjpmlggkhhoooaa.PDq
-- Written for this claim by a program (the kit's print, with hand-made contracts for what it does not take).
namespace Go.Proofs.Ytjpmlggkhhoooaa.PDq
open Go.RowKit Go.Proofs.YtjpmlggkhhoooaaW.PrintWords Go.Proofs.YtjpmlggkhhoooaaW.PrintLast Go.Proofs.YtjpmlggkhhoooaaW.PrintMore
attribute [local go_sem] max2_int min2_int max_two min_two max_three min_three max_four min_four   -- for this text's walks alone
set_option linter.unusedVariables false
set_option linter.unusedSimpArgs false

attribute [local go_sem high] eqA64
/-- A call of a function value with what it holds, in a plain region. -/
theorem diff_grid.goesV {P : Program} {ops : Array Oper} {Q : Exit → Act → World → Prop} {rest : List Oper} {oi : Oper} {a : Act} {w : World} (N : Option Tmp) (hd : oi.dst = N) (hg : oi.guard = none) {f : FuncId} {bs : Array Value} (hent : ∀ (xs : Array Value) (W : World), (callFunc f xs).run P W = .ok (.enter f xs) W) {ys : Array Operand} {ts : Array TypeId} {x : Operand} (args : Array Value)
  (hop : oi.op = .call { callee := .value x, args := ys, argTypes := ts }) (hx : a.eval x = .func (.func f) #[] bs) (hargs : ys.map a.eval = args)
  (h : Calls P f (args ++ bs) w fun e w' => ∃ v, e = .returned v ∧ wpList P ops Q rest (a.put N v) w') : wpList P ops Q (oi :: rest) a w := by
 refine wpList_plain hg fun K hK => ?_
 have hrun : (execOp a.eval oi).run P w = .ok (.enter f (args ++ bs)) w := by
  unfold execOp
  simp [hop, resolve, Deferred.ofValue, invoke, hx, hargs, hent]
 unfold Oper.wp
 rw [hrun, Oper.upon_enter]
 refine h.mono fun e w'' hh => ?_
 obtain ⟨v, rfl, hk⟩ := hh
 subst hd
 exact hK _ _ hk
theorem diff_grid.w64 {n : Int} (h : -9223372036854775808 ≤ n ∧ n ≤ 9223372036854775807) : IntKind.i64.wrap n = n := IntWalk.i64_in n h
/-- A row of whole numbers, an element read. -/
theorem diff_grid.cell {w : World} {A : Option Addr} {xs : List Int} (h : Kd.C (Kd.int .i64) w A xs.length xs) (i : Nat) (hi : i < xs.length) : ∃ ad, A = some ad ∧ w.cell? (ad.add i) = some (.int .i64 (xs.getD i 0)) := by
 obtain ⟨ad, c, rfl, hc, hk, hcell⟩ := Kd.C_get h 0 (i : Int) (by omega) (by omega)
 refine ⟨ad, rfl, ?_⟩
 have hk' : c = [.int .i64 (xs.getD i 0)] := by simpa [Kd.int, Kd.scalar] using hk
 subst hk'
 have := hcell 0 _ rfl
 simpa [Kd.int, Kd.scalar] using this
set_option maxRecDepth 100000 in
set_option maxHeartbeats 1000000 in
theorem diff_grid.at_calls (g n m : Nat) (A : Option Addr) (c : Nat) (best : List Int) (lv : Value) (i j : Nat) (hn : n ≤ 400) (hm : m ≤ 400) (hi : i ≤ n) (hj : j ≤ m) (hl : best.length = (n + 1) * (m + 1)) (w : World)
  (hg : w.heap[g]? = some (.cells #[.int .i64 (n : Int), .int .i64 (m : Int), .slice A best.length c, lv] 90 (0, 0))) (hr : Kd.C (Kd.int .i64) w A best.length best) :
  Calls Try.prog 48 #[.pointer (some ⟨g, 0, none⟩), .int .i64 (i : Int), .int .i64 (j : Int)] w fun e w' => e = .returned (.int .i64 (best.getD (i * (m + 1) + j) 0)) ∧ Drawn0 w w' := by
 have h1 : i * (m + 1) ≤ n * (m + 1) := Nat.mul_le_mul_right _ hi
 have h1' : n * (m + 1) ≤ 400 * 401 := Nat.mul_le_mul hn (by omega)
 have h2 : i * (m + 1) + j < best.length := by rw [hl, Nat.add_mul]; omega
 obtain ⟨ad, rfl, hcell⟩ := diff_grid.cell hr _ h2
 have hz1 : w.cell? ⟨g, 1, none⟩ = some (.int .i64 (m : Int)) := (blk_cell hg 1).trans rfl
 have hz2 : w.cell? ⟨g, 2, none⟩ = some (.slice (some ad) best.length c) := (blk_cell hg 2).trans rfl
 obtain ⟨k, hk⟩ : ∃ k, k = i * (m + 1) := ⟨_, rfl⟩
 have e1 : IntKind.i64.wrap ((m : Int) + 1) = (m : Int) + 1 := diff_grid.w64 (by omega)
 have e2 : IntKind.i64.wrap ((i : Int) * ((m : Int) + 1)) = (k : Int) := by
  rw [show (i : Int) * ((m : Int) + 1) = (k : Int) by rw [hk]; push_cast; rfl]
  exact diff_grid.w64 (by omega)
 have e3 : IntKind.i64.wrap ((k : Int) + (j : Int)) = (k : Int) + (j : Int) := diff_grid.w64 (by omega)
 rw [← hk] at h2 hcell ⊢
 have e4 : (0 : Int) ≤ (k : Int) + (j : Int) := by omega
 have e5 : (k : Int) + (j : Int) < (best.length : Int) := by omega
 have e6 : ((k : Int) + (j : Int)).toNat = k + j := by omega
 obtain ⟨x, hx⟩ : ∃ x, x = best.getD (k + j) 0 := ⟨_, rfl⟩
 rw [← hx] at hcell ⊢
 clear hx h2 hk h1 h1' hl hi hj hn hm hr hg
 go_enter Try.func48, Try.ntmps48
 go_wp2
 go_quiet (fail)
 go_wp2
 go_ret
 exact ⟨rfl, ⟨⟨_, rfl⟩⟩⟩
/-- The table that is made, as far as it is made: rows behind i, of row i what stands from jj on, and the ends of all rows. -/
def diff_grid.Inv (like : Nat → Nat → Bool) (n m : Nat) (best : List Int) (i jj : Nat) : Prop :=
 best.length = (n + 1) * (m + 1) ∧ ∀ i' j', i' ≤ n → j' ≤ m → (i < i' ∨ (i' = i ∧ jj ≤ j') ∨ j' = m) → best.getD (i' * (m + 1) + j') 0 = (DiffT.T like n m i' j' : Int)
theorem diff_grid.inj {m i j i' j' : Nat} (hj : j ≤ m) (hj' : j' ≤ m) (h : i * (m + 1) + j = i' * (m + 1) + j') : i = i' ∧ j = j' := by
 rcases Nat.lt_trichotomy i i' with hl|hl|hl
 ·have := Nat.mul_le_mul_right (m + 1) (Nat.succ_le_of_lt hl)
  rw [Nat.succ_mul] at this
  omega
 ·subst hl
  exact ⟨rfl, by omega⟩
 ·have := Nat.mul_le_mul_right (m + 1) (Nat.succ_le_of_lt hl)
  rw [Nat.succ_mul] at this
  omega
theorem diff_grid.inv_zero (like : Nat → Nat → Bool) (n m : Nat) : diff_grid.Inv like n m (List.replicate ((n + 1) * (m + 1)) 0) n 0 ∨ True := .inr trivial
theorem diff_grid.inv_start (like : Nat → Nat → Bool) (n m : Nat) (N : Nat) (hN : N = (n + 1) * (m + 1)) : ∀ i' j', i' ≤ n → j' ≤ m → (n ≤ i' ∨ j' = m) → (List.replicate N (0 : Int)).getD (i' * (m + 1) + j') 0 = (DiffT.T like n m i' j' : Int) := by
 intro i' j' h1 h2 h3
 rw [DiffT.T_out (by omega), List.getD_eq_getElem?_getD, List.getElem?_replicate]
 split <;> rfl
theorem diff_grid.inv_set {like : Nat → Nat → Bool} {n m : Nat} {best : List Int} {i j : Nat} (hi : i < n) (hj : j < m) (h : diff_grid.Inv like n m best i (j + 1)) (v : Int) (hv : v = (DiffT.T like n m i j : Int)) : diff_grid.Inv like n m (best.set (i * (m + 1) + j) v) i j := by
 obtain ⟨hl, hb⟩ := h
 have h1 : i * (m + 1) + j < best.length := by
  have := Nat.mul_le_mul_right (m + 1) (Nat.succ_le_of_lt hi)
  rw [Nat.succ_mul] at this
  rw [hl, Nat.succ_mul]
  omega
 refine ⟨by rw [List.length_set, hl], fun i' j' a b c => ?_⟩
 by_cases e : i * (m + 1) + j = i' * (m + 1) + j'
 ·obtain ⟨rfl, rfl⟩ := diff_grid.inj (by omega) b e
  rw [List.getD_eq_getElem?_getD, List.getElem?_set_self h1, hv]
  rfl
 ·rw [List.getD_eq_getElem?_getD, List.getElem?_set_ne e, ← List.getD_eq_getElem?_getD]
  refine hb i' j' a b ?_
  rcases c with c|⟨rfl, c⟩|c
  ·exact .inl c
  ·refine .inr (.inl ⟨rfl, ?_⟩)
   rcases Nat.eq_or_lt_of_le c with rfl|c
   ·exact absurd rfl e
   ·exact c
  ·exact .inr (.inr c)
theorem diff_grid.inside {n m i : Nat} (hi : i < n) : i * (m + 1) + m < (n + 1) * (m + 1) := by
 have h := Nat.mul_le_mul_right (m + 1) (show i + 1 ≤ n from hi)
 rw [Nat.succ_mul] at h
 rw [Nat.succ_mul]
 omega
theorem diff_grid.prod {i m k : Nat} (h : k = i * (m + 1)) (hk : k ≤ 160801) : wrap64 ((i : Int) * ((m : Int) + 1)) = (k : Int) := by
 rw [show (i : Int) * ((m : Int) + 1) = (k : Int) by rw [h]; push_cast; rfl]
 unfold wrap64; omega
/-- The grid in memory. -/
structure diff_grid.St (n m C : Nat) (bs : Array Value) (w : World) (gb rb cap : Nat) (best : List Int) (W : World) : Prop where
 blk : W.heap[gb]? = some (.cells #[.int .i64 (n : Int), .int .i64 (m : Int), .slice (some ⟨rb, 0, none⟩) best.length cap, .func (.func C) #[] bs] 90 (0, 0))
 row : (Kd.int .i64).R 3 W w.heap.size (fun _ => True) (.slice (some ⟨rb, 0, none⟩) best.length cap) best
 below : Below w.heap.size w W
theorem diff_grid.St.step {n m C : Nat} {bs : Array Value} {w : World} {gb rb cap : Nat} {best : List Int} {W W2 : World} (h : diff_grid.St n m C bs w gb rb cap best W) (hb : Below W.heap.size W W2) : diff_grid.St n m C bs w gb rb cap best W2 :=
 ⟨blk_below h.blk hb, Kd.R_below h.row hb, below_step h.below hb⟩
theorem diff_grid.St.at_ {n m C : Nat} {bs : Array Value} {w : World} {gb rb cap : Nat} {best : List Int} {W : World} (h : diff_grid.St n m C bs w gb rb cap best W) (i j : Nat) (x y z : Int) (hx : x = (i : Int)) (hy : y = (j : Int)) (hn : n ≤ 400) (hm : m ≤ 400) (hi : i ≤ n) (hj : j ≤ m) (hl : best.length = (n + 1) * (m + 1)) (hb : best.getD (i * (m + 1) + j) 0 = z) :
  Calls Try.prog 48 #[.pointer (some ⟨gb, 0, none⟩), .int .i64 x, .int .i64 y] W fun e W' => e = .returned (.int .i64 z) ∧ Below W.heap.size W W' := by
 subst hx hy hb
 exact (diff_grid.at_calls gb n m _ cap best _ i j hn hm hi hj hl W h.blk (Kd.R_reads' h.row).2.2).mono fun e W' ⟨he, hd⟩ => ⟨he, hd.below⟩
theorem diff_grid.St.ne {n m C : Nat} {bs : Array Value} {w : World} {gb rb cap : Nat} {best : List Int} {W : World} (h : diff_grid.St n m C bs w gb rb cap best W) (h0 : 0 < best.length) : gb ≠ rb := by
 rintro rfl
 have := Kd.R_ne h.row h.blk (by decide)
 simp [Value.ownBlock] at this
theorem diff_grid.St.cell {n m C : Nat} {bs : Array Value} {w : World} {gb rb cap : Nat} {best : List Int} {W : World} (h : diff_grid.St n m C bs w gb rb cap best W) (i : Nat) (hi : i < best.length) : (∃ x, W.cell? ⟨rb, i, none⟩ = some (.int .i64 x)) ∧ W.frozen? ⟨rb, i, none⟩ = false := by
 obtain ⟨c, hcl, hM, hcc, hfr⟩ := Kd.R_elem h.row 0 (i : Int) (by omega) (by omega)
 have hc : c = [.int .i64 (best.getD i 0)] := by simpa [Kd.int, Kd.scalar] using hM
 subst hc
 refine ⟨⟨best.getD i 0, ?_⟩, ?_⟩
 ·have := hcc 0 _ rfl
  simpa [Kd.int, Kd.scalar] using this
 ·have := hfr 0
  simpa [Kd.int, Kd.scalar] using this
theorem diff_grid.St.put {n m C : Nat} {bs : Array Value} {w : World} {gb rb cap : Nat} {best : List Int} {W : World} (h : diff_grid.St n m C bs w gb rb cap best W) (i : Nat) (h0 : 0 < best.length) (x : Int) : diff_grid.St n m C bs w gb rb cap (best.set i x) (W.setCell ⟨rb, i, none⟩ (.int .i64 x)) := by
 have hb : w.heap.size ≤ rb := Kd.R_base h.row rb (by simp [Value.ownBlock])
 refine ⟨?_, ?_, lS h.below hb⟩
 ·rw [List.length_set]
  exact bF h.blk (h.ne h0) _
 ·rw [List.length_set]
  exact Kd.R_putn h.row (i : Int) x
/-- What a round of the inner loop knows. -/
theorem diff_grid.round {like : Nat → Nat → Bool} {n m i j : Nat} {best : List Int} (hn : n ≤ 400) (hm : m ≤ 400) (hi : i < n) (hj : j < m) (h : diff_grid.Inv like n m best i (j + 1)) :
  ∃ k0, Aside0 (k0 = i * (m + 1) ∧ wrap64 ((i : Int) * ((m : Int) + 1)) = (k0 : Int) ∧ (k0 : Int) ≤ 160801 ∧ ∃ x1 x2 x3, Aside0 ((0 ≤ x1 ∧ x1 ≤ 400) ∧ (0 ≤ x2 ∧ x2 ≤ 400) ∧ (0 ≤ x3 ∧ x3 ≤ 400) ∧ x1 = (DiffT.T like n m (i + 1) j : Int) ∧ x2 = (DiffT.T like n m i (j + 1) : Int) ∧ x3 = (DiffT.T like n m (i + 1) (j + 1) : Int) ∧
   best.getD ((i + 1) * (m + 1) + j) 0 = x1 ∧ best.getD (i * (m + 1) + (j + 1)) 0 = x2 ∧ best.getD ((i + 1) * (m + 1) + (j + 1)) 0 = x3 ∧ k0 + j < best.length ∧
   ((DiffT.T like n m i j : Int) = (if like i j = true then (if (if x1 < x2 then x2 else x1) < 1 + x3 then 1 + x3 else (if x1 < x2 then x2 else x1)) else (if x1 < x2 then x2 else x1))))) := by
 have hk := diff_grid.inside (m := m) hi
 have hN : (n + 1) * (m + 1) ≤ 401 * 401 := Nat.mul_le_mul (by omega) (by omega)
 have t1 := h.2 (i + 1) j (by omega) (by omega) (.inl (by omega))
 have t2 := h.2 i (j + 1) (by omega) (by omega) (.inr (.inl ⟨rfl, by omega⟩))
 have t3 := h.2 (i + 1) (j + 1) (by omega) (by omega) (.inl (by omega))
 have tT := DiffT.T_in (like := like) hi hj
 have l1 := DiffT.T_le (like := like) (n := n) (m := m) _ (i + 1) j rfl
 have l2 := DiffT.T_le (like := like) (n := n) (m := m) _ i (j + 1) rfl
 have l3 := DiffT.T_le (like := like) (n := n) (m := m) _ (i + 1) (j + 1) rfl
 have hl := h.1
 obtain ⟨k0, hk0⟩ : ∃ k, k = i * (m + 1) := ⟨_, rfl⟩
 have hkb : k0 ≤ 160801 := by rw [hk0]; omega
 refine ⟨k0, ⟨hk0, diff_grid.prod hk0 hkb, by omega, _, _, _, ⟨⟨by omega, by omega⟩, ⟨by omega, by omega⟩, ⟨by omega, by omega⟩, rfl, rfl, rfl, t1, t2, t3, by rw [hl, hk0]; omega, ?_⟩⟩⟩
 rw [tT]
 generalize DiffT.T like n m (i + 1) j = a
 generalize DiffT.T like n m i (j + 1) = b
 generalize DiffT.T like n m (i + 1) (j + 1) = c
 clear t1 t2 t3 tT l1 l2 l3 hl hk hN hkb hk0
 by_cases hb : like i j = true
 ·rw [if_pos hb, if_pos hb]
  split <;> split <;> omega
 ·rw [if_neg hb, if_neg hb]
  split <;> omega
set_option maxRecDepth 100000 in
set_option maxHeartbeats 4000000 in
theorem diff_filled.calls (n m : Nat) (hn : n ≤ 400) (hm : m ≤ 400) (C : Nat) (bs : Array Value) (hent : ∀ (xs : Array Value) (W : World), (callFunc C xs).run Try.prog W = .ok (.enter C xs) W) (like : Nat → Nat → Bool) (w : World)
  (HL : ∀ W : World, Below w.heap.size w W → ∀ i j : Nat, i < n → j < m → Calls Try.prog C (#[.int .i64 (i : Int), .int .i64 (j : Int)] ++ bs) W fun e W' => e = .returned (.bool (like i j)) ∧ Below W.heap.size W W') :
  Calls Try.prog 29 #[.int .i64 (n : Int), .int .i64 (m : Int), .func (.func C) #[] bs] w fun e w' => ∃ (g rb cap : Nat) (best : List Int), e = .returned (.pointer (some ⟨g, 0, none⟩)) ∧ w.heap.size ≤ g ∧ w'.heap[g]? = some (.cells #[.int .i64 (n : Int), .int .i64 (m : Int), .slice (some ⟨rb, 0, none⟩) best.length cap, .func (.func C) #[] bs] 90 (0, 0)) ∧
   Kd.C (Kd.int .i64) w' (some ⟨rb, 0, none⟩) best.length best ∧ best.length = (n + 1) * (m + 1) ∧ (∀ i j, i ≤ n → j ≤ m → best.getD (i * (m + 1) + j) 0 = (DiffT.T like n m i j : Int)) ∧ Below w.heap.size w w' := by
 have HE := aM hent
 have HLK := aM HL
 have HN := aM hn
 have HM := aM hm
 have HB := aM (Below.refl w.heap.size w)
 obtain ⟨N, hN⟩ : ∃ N, N = (n + 1) * (m + 1) := ⟨_, rfl⟩
 have hN1 : N ≤ 401 * 401 := by rw [hN]; exact Nat.mul_le_mul (by omega) (by omega)
 have e1 : wrap64 (((n : Int) + 1) * ((m : Int) + 1)) = (N : Int) := by
  rw [show ((n : Int) + 1) * ((m : Int) + 1) = (N : Int) by rw [hN]; push_cast; rfl]
  unfold wrap64; omega
 have HNN := aM hN
 have HN1 := aM hN1
 have b1 : (0 : Int) ≤ (n : Int) := by omega
 have b2 : (n : Int) ≤ 400 := by omega
 have b3 : (0 : Int) ≤ (m : Int) := by omega
 have b4 : (m : Int) ≤ 400 := by omega
 clear hent HL hn hm hN hN1
 go_enter Try.func29, Try.ntmps29
 go_wp2_with (first|(at_make; refine Kd.R_make (Kd.int .i64) (w0 := w) w.heap.size 3 rfl rfl 52 (.tmp 17) (.tmp 17) rfl (wrap64 (((n : Int) + 1) * ((m : Int) + 1))) rfl rfl Try.underlying52 (.int .i64 0) 8 info3 rfl (by decide) (by omega) (0 : Int) (ok := fun _ => True) (okp := fun _ => False) rfl (fun _ h => h.elim) trivial (by rw [e1]; omega) (by rw [e1]; have := HN1.out; omega) HB.out HB.out.size ?_; intro v1 w1 hR hb1 hg1 hat; rw [e1, Int.toNat_natCast] at hR; obtain ⟨b_, hb_, hle_⟩ := hat; obtain ⟨h0_, inner_, hown_, hr_⟩ := hR; obtain ⟨rb, cap, cur_, rfl, hbg_, hh_, hnc_, hcm_, hcs_, htk_⟩ := hown_.2.resolve_left (fun h => by rw [h.1] at hb_; simp [Value.ownBlock] at hb_); have HR := aM (show (Kd.int .i64).R 3 w1 w.heap.size (fun _ => True) (.slice (some ⟨rb, 0, none⟩) (List.replicate N (0 : Int)).length cap) (List.replicate N (0 : Int)) from ⟨h0_, inner_, hown_, hr_⟩); have HB1 := aM hb1; clear h0_ hown_ hr_ hb_ hle_ hbg_ hh_ hnc_ hcm_ hcs_ htk_ hb1 hg1 HB)|((with_reducible refine gate_dst (N := 21) rfl ?_); refine box_event ?hg (N := 21) ?hd (cs := #[.int .i64 (n : Int), .int .i64 (m : Int), .slice (some ⟨rb, 0, none⟩) (List.replicate N (0 : Int)).length cap, .func (.func C) #[] bs]) (t := 90) ?hr ?_; (case hd => rfl); (case hg => rfl); (case hr => first|(go_simp; done)|(go_simp; rfl)); intro gb hg w2 hbox hb; have HB2 := aM (below_step HB1.out hb); have HR2 := aM (Kd.R_below HR.out hb); have BK := aM hbox; have GE := aM (show w.heap.size ≤ gb by rw [hg]; exact HB1.out.size); clear HB1 HR hg hbox hb))
 have ST := aM (show diff_grid.St n m C bs w gb rb cap (List.replicate N (0 : Int)) w2 from ⟨BK.out, HR2.out, HB2.out⟩)
 have HI0 := aM (diff_grid.inv_start like n m N HNN.out)
 clear BK HR2 HB2 e1
 go_loopw [8] (fun v8 wr => ∃ (ii : Nat) (best : List Int), v8 = .int .i64 ((ii : Int) - 1) ∧ Aside0 (ii ≤ n) ∧ Aside0 (diff_grid.St n m C bs w gb rb cap best wr) ∧ Aside0 (best.length = N ∧ ∀ i' j', i' ≤ n → j' ≤ m → (ii ≤ i' ∨ j' = m) → best.getD (i' * (m + 1) + j') 0 = (DiffT.T like n m i' j' : Int))) (fun v8 _ => (intOf v8 + 1).toNat)
 case atStart => exact ⟨n, List.replicate N (0 : Int), rfl, ⟨Nat.le_refl _⟩, ST, ⟨List.length_replicate, HI0.out⟩⟩
 case round =>
  clear ST HI0
  obtain ⟨ii, best, rfl, HI, ST, HV⟩ := hrel
  rcases Nat.eq_zero_or_pos ii with h0|h0
  ·subst h0
   clear HI
   go_wp2
   go_ret
   exact ⟨gb, rb, cap, best, rfl, GE.out, ST.out.blk, (Kd.R_reads' ST.out.row).2.2, HV.out.1.trans HNN.out, fun i j a b => HV.out.2 i j a b (.inl (Nat.zero_le _)), ST.out.below⟩
  ·obtain ⟨i, rfl⟩ : ∃ i, ii = i + 1 := ⟨ii - 1, by omega⟩
   have hI := HI.out
   have q1 : (((i + 1 : Nat) : Int) - 1) = (i : Int) := by omega
   rw [q1]
   have q2 : (0 : Int) ≤ (i : Int) := by omega
   have q3 : (i : Int) ≤ 400 := by omega
   obtain ⟨wo, rfl⟩ : ∃ wo : World, wo = wr := ⟨_, rfl⟩
   clear h0 hI q1
   go_wp2
   go_loopw [9] (fun v9 wr => ∃ (jj : Nat) (best : List Int), v9 = .int .i64 ((jj : Int) - 1) ∧ Aside0 (jj ≤ m) ∧ Aside0 (diff_grid.St n m C bs w gb rb cap best wr) ∧ Aside0 (diff_grid.Inv like n m best i jj)) (fun v9 _ => (intOf v9 + 1).toNat)
   case atStart => exact ⟨m, best, rfl, ⟨Nat.le_refl _⟩, ST, ⟨HV.out.1.trans HNN.out, fun i' j' a b c => HV.out.2 i' j' a b (by omega)⟩⟩
   case round =>
    clear ST HV
    obtain ⟨jj, best, rfl, HJ, ST, HV⟩ := hrel
    rcases Nat.eq_zero_or_pos jj with h0|h0
    ·subst h0
     clear HJ
     go_wp2
     go_roundw
     case rel => exact ⟨i, best, by first|rfl|go_num, ⟨by have := HI.out; omega⟩, ST, ⟨HV.out.1.trans HNN.out.symm, fun i' j' a b c => HV.out.2 i' j' a b (by omega)⟩⟩
     case measure => simp [intOf]
    ·obtain ⟨j, rfl⟩ : ∃ j, jj = j + 1 := ⟨jj - 1, by omega⟩
     have hI := HI.out
     have hJ := HJ.out
     have q4 : (((j + 1 : Nat) : Int) - 1) = (j : Int) := by omega
     rw [q4]
     have q5 : (0 : Int) ≤ (j : Int) := by omega
     have q6 : (j : Int) ≤ 400 := by omega
     have HIN := aM (show i < n by omega)
     have HJM := aM (show j < m by omega)
     clear h0 q4 hI hJ
     obtain ⟨k0, HK⟩ := diff_grid.round HN.out HM.out HIN.out HJM.out HV.out
     obtain ⟨x1, x2, x3, HX⟩ := HK.out.2.2.2
     have e2 := HK.out.2.1
     have b11 : (0 : Int) ≤ (k0 : Int) := Int.natCast_nonneg k0
     have b12 : (k0 : Int) ≤ 160801 := HK.out.2.2.1
     have b5 := HX.out.1.1
     have b6 := HX.out.1.2
     have b7 := HX.out.2.1.1
     have b8 := HX.out.2.1.2
     have b9 := HX.out.2.2.1.1
     have b10 := HX.out.2.2.1.2
     go_wp2_with fail
     refine (ST.out.at_ (i + 1) (j) _ _ x1 (by first|rfl|(push_cast; rfl)) (by first|rfl|(push_cast; rfl)) HN.out HM.out (by have := HIN.out; omega) (by have := HJM.out; omega) HV.out.1 HX.out.2.2.2.2.2.2.1).mono ?_
     rintro e w3 ⟨rfl, hb3⟩
     have n0_ := aM (ST.out.step hb3)
     clear ST hb3
     have ST := n0_
     clear n0_
     go_wp2_with fail
     refine (ST.out.at_ (i) (j + 1) _ _ x2 (by first|rfl|(push_cast; rfl)) (by first|rfl|(push_cast; rfl)) HN.out HM.out (by have := HIN.out; omega) (by have := HJM.out; omega) HV.out.1 HX.out.2.2.2.2.2.2.2.1).mono ?_
     rintro e w4 ⟨rfl, hb4⟩
     have n0_ := aM (ST.out.step hb4)
     clear ST hb4
     have ST := n0_
     clear n0_
     cases hlk : like i j with
    |true =>
      have HLT := aM hlk
      clear hlk
      rcases Int.lt_or_le x1 x2 with hc|hc
      ·have hc1 : decide (x1 < x2) = true := decide_eq_true hc
       have hc2 : (x1 < x2) = True := eq_true hc
       have HCC := aM hc
       clear hc
       go_wp2_with ((with_reducible refine gate_dst (N := 48) rfl ?_); refine diff_grid.goesV (some 48) rfl rfl HE.out #[.int .i64 (i : Int), .int .i64 (j : Int)] rfl rfl (by (try simp only [List.map_toArray, List.map_cons, List.map_nil]); first|done|rfl) ?_; refine (HLK.out _ ST.out.below i j HIN.out HJM.out).mono ?_; rw [HLT.out]; rintro e w5 ⟨rfl, hb5⟩; refine ⟨_, rfl, ?_⟩; have n0_ := aM (ST.out.step hb5); clear ST hb5; have ST := n0_; clear n0_)
       go_wp2_with fail
       refine (ST.out.at_ (i + 1) (j + 1) _ _ x3 (by first|rfl|(push_cast; rfl)) (by first|rfl|(push_cast; rfl)) HN.out HM.out (by have := HIN.out; omega) (by have := HJM.out; omega) HV.out.1 HX.out.2.2.2.2.2.2.2.2.1).mono ?_
       rintro e w6 ⟨rfl, hb6⟩
       have n0_ := aM (ST.out.step hb6)
       clear ST hb6
       have ST := n0_
       clear n0_
       rcases Int.lt_or_le x2 (1 + x3) with hd|hd
       ·have hd1 : decide (x2 < 1 + x3) = true := decide_eq_true hd
        have hd2 : (x2 < 1 + x3) = True := eq_true hd
        have HDD := aM hd
        clear hd
        have hidx : k0 + j < best.length := HX.out.2.2.2.2.2.2.2.2.2.1
        obtain ⟨⟨old, hcell⟩, hfz⟩ := ST.out.cell (k0 + j) hidx
        have hz2 := (blk_cell ST.out.blk 2).trans rfl
        have e4 : (0 : Int) ≤ (k0 : Int) + (j : Int) := by omega
        have e5 : (k0 : Int) + (j : Int) < (best.length : Int) := by omega
        have e6 : ((k0 : Int) + (j : Int)).toNat = k0 + j := by omega
        go_wp2
        go_roundw
        case rel =>
         refine ⟨j, best.set (k0 + j) (1 + x3), by first|rfl|go_num, ⟨by have := HJM.out; omega⟩, ⟨ST.out.put (k0 + j) (by omega) _⟩, ⟨?_⟩⟩
         have hk := HK.out.1
         rw [hk]
         refine diff_grid.inv_set HIN.out HJM.out HV.out _ ?_
         have hT := HX.out.2.2.2.2.2.2.2.2.2.2
         rw [HLT.out] at hT
         rw [hT]
         rw [if_pos rfl]; rw [if_pos HCC.out]; rw [if_pos HDD.out]
        case measure => simp [intOf]; try omega
       ·have hd1 : decide (x2 < 1 + x3) = false := decide_eq_false (Int.not_lt.mpr hd)
        have hd2 : (x2 < 1 + x3) = False := eq_false (Int.not_lt.mpr hd)
        have HDD := aM hd
        clear hd
        have hidx : k0 + j < best.length := HX.out.2.2.2.2.2.2.2.2.2.1
        obtain ⟨⟨old, hcell⟩, hfz⟩ := ST.out.cell (k0 + j) hidx
        have hz2 := (blk_cell ST.out.blk 2).trans rfl
        have e4 : (0 : Int) ≤ (k0 : Int) + (j : Int) := by omega
        have e5 : (k0 : Int) + (j : Int) < (best.length : Int) := by omega
        have e6 : ((k0 : Int) + (j : Int)).toNat = k0 + j := by omega
        go_wp2
        go_roundw
        case rel =>
         refine ⟨j, best.set (k0 + j) x2, by first|rfl|go_num, ⟨by have := HJM.out; omega⟩, ⟨ST.out.put (k0 + j) (by omega) _⟩, ⟨?_⟩⟩
         have hk := HK.out.1
         rw [hk]
         refine diff_grid.inv_set HIN.out HJM.out HV.out _ ?_
         have hT := HX.out.2.2.2.2.2.2.2.2.2.2
         rw [HLT.out] at hT
         rw [hT]
         rw [if_pos rfl]; rw [if_pos HCC.out]; rw [if_neg (Int.not_lt.mpr HDD.out)]
        case measure => simp [intOf]; try omega
      ·have hc1 : decide (x1 < x2) = false := decide_eq_false (Int.not_lt.mpr hc)
       have hc2 : (x1 < x2) = False := eq_false (Int.not_lt.mpr hc)
       have HCC := aM hc
       clear hc
       go_wp2_with ((with_reducible refine gate_dst (N := 48) rfl ?_); refine diff_grid.goesV (some 48) rfl rfl HE.out #[.int .i64 (i : Int), .int .i64 (j : Int)] rfl rfl (by (try simp only [List.map_toArray, List.map_cons, List.map_nil]); first|done|rfl) ?_; refine (HLK.out _ ST.out.below i j HIN.out HJM.out).mono ?_; rw [HLT.out]; rintro e w5 ⟨rfl, hb5⟩; refine ⟨_, rfl, ?_⟩; have n0_ := aM (ST.out.step hb5); clear ST hb5; have ST := n0_; clear n0_)
       go_wp2_with fail
       refine (ST.out.at_ (i + 1) (j + 1) _ _ x3 (by first|rfl|(push_cast; rfl)) (by first|rfl|(push_cast; rfl)) HN.out HM.out (by have := HIN.out; omega) (by have := HJM.out; omega) HV.out.1 HX.out.2.2.2.2.2.2.2.2.1).mono ?_
       rintro e w6 ⟨rfl, hb6⟩
       have n0_ := aM (ST.out.step hb6)
       clear ST hb6
       have ST := n0_
       clear n0_
       rcases Int.lt_or_le x1 (1 + x3) with hd|hd
       ·have hd1 : decide (x1 < 1 + x3) = true := decide_eq_true hd
        have hd2 : (x1 < 1 + x3) = True := eq_true hd
        have HDD := aM hd
        clear hd
        have hidx : k0 + j < best.length := HX.out.2.2.2.2.2.2.2.2.2.1
        obtain ⟨⟨old, hcell⟩, hfz⟩ := ST.out.cell (k0 + j) hidx
        have hz2 := (blk_cell ST.out.blk 2).trans rfl
        have e4 : (0 : Int) ≤ (k0 : Int) + (j : Int) := by omega
        have e5 : (k0 : Int) + (j : Int) < (best.length : Int) := by omega
        have e6 : ((k0 : Int) + (j : Int)).toNat = k0 + j := by omega
        go_wp2
        go_roundw
        case rel =>
         refine ⟨j, best.set (k0 + j) (1 + x3), by first|rfl|go_num, ⟨by have := HJM.out; omega⟩, ⟨ST.out.put (k0 + j) (by omega) _⟩, ⟨?_⟩⟩
         have hk := HK.out.1
         rw [hk]
         refine diff_grid.inv_set HIN.out HJM.out HV.out _ ?_
         have hT := HX.out.2.2.2.2.2.2.2.2.2.2
         rw [HLT.out] at hT
         rw [hT]
         rw [if_pos rfl]; rw [if_neg (Int.not_lt.mpr HCC.out)]; rw [if_pos HDD.out]
        case measure => simp [intOf]; try omega
       ·have hd1 : decide (x1 < 1 + x3) = false := decide_eq_false (Int.not_lt.mpr hd)
        have hd2 : (x1 < 1 + x3) = False := eq_false (Int.not_lt.mpr hd)
        have HDD := aM hd
        clear hd
        have hidx : k0 + j < best.length := HX.out.2.2.2.2.2.2.2.2.2.1
        obtain ⟨⟨old, hcell⟩, hfz⟩ := ST.out.cell (k0 + j) hidx
        have hz2 := (blk_cell ST.out.blk 2).trans rfl
        have e4 : (0 : Int) ≤ (k0 : Int) + (j : Int) := by omega
        have e5 : (k0 : Int) + (j : Int) < (best.length : Int) := by omega
        have e6 : ((k0 : Int) + (j : Int)).toNat = k0 + j := by omega
        go_wp2
        go_roundw
        case rel =>
         refine ⟨j, best.set (k0 + j) x1, by first|rfl|go_num, ⟨by have := HJM.out; omega⟩, ⟨ST.out.put (k0 + j) (by omega) _⟩, ⟨?_⟩⟩
         have hk := HK.out.1
         rw [hk]
         refine diff_grid.inv_set HIN.out HJM.out HV.out _ ?_
         have hT := HX.out.2.2.2.2.2.2.2.2.2.2
         rw [HLT.out] at hT
         rw [hT]
         rw [if_pos rfl]; rw [if_neg (Int.not_lt.mpr HCC.out)]; rw [if_neg (Int.not_lt.mpr HDD.out)]
        case measure => simp [intOf]; try omega
    |false =>
      have HLT := aM hlk
      clear hlk
      rcases Int.lt_or_le x1 x2 with hc|hc
      ·have hc1 : decide (x1 < x2) = true := decide_eq_true hc
       have hc2 : (x1 < x2) = True := eq_true hc
       have HCC := aM hc
       clear hc
       go_wp2_with ((with_reducible refine gate_dst (N := 48) rfl ?_); refine diff_grid.goesV (some 48) rfl rfl HE.out #[.int .i64 (i : Int), .int .i64 (j : Int)] rfl rfl (by (try simp only [List.map_toArray, List.map_cons, List.map_nil]); first|done|rfl) ?_; refine (HLK.out _ ST.out.below i j HIN.out HJM.out).mono ?_; rw [HLT.out]; rintro e w5 ⟨rfl, hb5⟩; refine ⟨_, rfl, ?_⟩; have n0_ := aM (ST.out.step hb5); clear ST hb5; have ST := n0_; clear n0_; have hidx : k0 + j < best.length := HX.out.2.2.2.2.2.2.2.2.2.1; obtain ⟨⟨old, hcell⟩, hfz⟩ := ST.out.cell (k0 + j) hidx; have hz2 := (blk_cell ST.out.blk 2).trans rfl; have e4 : (0 : Int) ≤ (k0 : Int) + (j : Int) := (by omega); have e5 : (k0 : Int) + (j : Int) < (best.length : Int) := (by omega); have e6 : ((k0 : Int) + (j : Int)).toNat = k0 + j := (by omega))
       go_roundw
       case rel =>
        refine ⟨j, best.set (k0 + j) x2, by first|rfl|go_num, ⟨by have := HJM.out; omega⟩, ⟨ST.out.put (k0 + j) (by omega) _⟩, ⟨?_⟩⟩
        have hk := HK.out.1
        rw [hk]
        refine diff_grid.inv_set HIN.out HJM.out HV.out _ ?_
        have hT := HX.out.2.2.2.2.2.2.2.2.2.2
        rw [HLT.out] at hT
        rw [hT]
        rw [if_neg (by decide)]; rw [if_pos HCC.out]
       case measure => simp [intOf]; try omega
      ·have hc1 : decide (x1 < x2) = false := decide_eq_false (Int.not_lt.mpr hc)
       have hc2 : (x1 < x2) = False := eq_false (Int.not_lt.mpr hc)
       have HCC := aM hc
       clear hc
       go_wp2_with ((with_reducible refine gate_dst (N := 48) rfl ?_); refine diff_grid.goesV (some 48) rfl rfl HE.out #[.int .i64 (i : Int), .int .i64 (j : Int)] rfl rfl (by (try simp only [List.map_toArray, List.map_cons, List.map_nil]); first|done|rfl) ?_; refine (HLK.out _ ST.out.below i j HIN.out HJM.out).mono ?_; rw [HLT.out]; rintro e w5 ⟨rfl, hb5⟩; refine ⟨_, rfl, ?_⟩; have n0_ := aM (ST.out.step hb5); clear ST hb5; have ST := n0_; clear n0_; have hidx : k0 + j < best.length := HX.out.2.2.2.2.2.2.2.2.2.1; obtain ⟨⟨old, hcell⟩, hfz⟩ := ST.out.cell (k0 + j) hidx; have hz2 := (blk_cell ST.out.blk 2).trans rfl; have e4 : (0 : Int) ≤ (k0 : Int) + (j : Int) := (by omega); have e5 : (k0 : Int) + (j : Int) < (best.length : Int) := (by omega); have e6 : ((k0 : Int) + (j : Int)).toNat = k0 + j := (by omega))
       go_roundw
       case rel =>
        refine ⟨j, best.set (k0 + j) x1, by first|rfl|go_num, ⟨by have := HJM.out; omega⟩, ⟨ST.out.put (k0 + j) (by omega) _⟩, ⟨?_⟩⟩
        have hk := HK.out.1
        rw [hk]
        refine diff_grid.inv_set HIN.out HJM.out HV.out _ ?_
        have hT := HX.out.2.2.2.2.2.2.2.2.2.2
        rw [HLT.out] at hT
        rw [hT]
        rw [if_neg (by decide)]; rw [if_neg (Int.not_lt.mpr HCC.out)]
       case measure => simp [intOf]; try omega
/-- The grid in memory, read alone. -/
structure diff_grid.Rd (n m C : Nat) (bs : Array Value) (gb rb cap : Nat) (best : List Int) (w W : World) : Prop where
 blk : W.heap[gb]? = some (.cells #[.int .i64 (n : Int), .int .i64 (m : Int), .slice (some ⟨rb, 0, none⟩) best.length cap, .func (.func C) #[] bs] 90 (0, 0))
 row : Kd.C (Kd.int .i64) W (some ⟨rb, 0, none⟩) best.length best
 below : Below w.heap.size w W
theorem diff_grid.Rd.step {n m C : Nat} {bs : Array Value} {gb rb cap : Nat} {best : List Int} {w W W2 : World} (h : diff_grid.Rd n m C bs gb rb cap best w W) (hb : Below W.heap.size W W2) : diff_grid.Rd n m C bs gb rb cap best w W2 :=
 ⟨blk_below h.blk hb, Kd.C_below h.row hb, below_step h.below hb⟩
theorem diff_grid.Rd.at_ {like : Nat → Nat → Bool} {n m C : Nat} {bs : Array Value} {gb rb cap : Nat} {best : List Int} {w W : World} (h : diff_grid.Rd n m C bs gb rb cap best w W) (hT : ∀ i j, i ≤ n → j ≤ m → best.getD (i * (m + 1) + j) 0 = (DiffT.T like n m i j : Int)) (i j : Nat) (x y z : Int) (hx : x = (i : Int)) (hy : y = (j : Int)) (hz : z = (DiffT.T like n m i j : Int)) (hn : n ≤ 400) (hm : m ≤ 400) (hi : i ≤ n) (hj : j ≤ m) (hl : best.length = (n + 1) * (m + 1)) :
  Calls Try.prog 48 #[.pointer (some ⟨gb, 0, none⟩), .int .i64 x, .int .i64 y] W fun e W' => e = .returned (.int .i64 z) ∧ Below W.heap.size W W' := by
 subst hx hy hz
 rw [← hT i j hi hj]
 exact (diff_grid.at_calls gb n m _ cap best _ i j hn hm hi hj hl W h.blk h.row).mono fun e W' ⟨he, hd⟩ => ⟨he, hd.below⟩
def diff_grid.enc (l : List (Nat × Nat)) : List S76 := l.map fun x => ⟨(x.1 : Int), (x.2 : Int)⟩
theorem diff_grid.P_step {like : Nat → Nat → Bool} {n m i j p q k : Nat} {L out : List (Nat × Nat)} (hL : L = out ++ DiffT.P like n m (k + 1) i j) (h0 : 0 < DiffT.T like n m i j) (hf : DiffT.first (DiffT.Fit like n m i j) n m i j = some (p, q)) : L = (out ++ [(p, q)]) ++ DiffT.P like n m k (p + 1) (q + 1) := by
 rw [hL, DiffT.P, if_neg (by omega), hf]
 simp
theorem diff_grid.P_done {like : Nat → Nat → Bool} {n m i j k : Nat} {L out : List (Nat × Nat)} (hL : L = out ++ DiffT.P like n m k i j) (h0 : DiffT.T like n m i j = 0) : L = out := by
 rw [hL]
 cases k with
|zero => simp [DiffT.P]
|succ k => simp [DiffT.P, h0]
theorem diff_grid.row_end {f : Nat → Nat → Bool} {n m p j q : Nat} {r : Option (Nat × Nat)} (hp : p < n) (hr : DiffT.first f n m p j = r) (hq : DiffT.inRow (f p) m j = DiffT.inRow (f p) m q) (hm : ¬ q < m) : DiffT.first f n m (p + 1) j = r := by
 rw [DiffT.first, dif_pos hp, hq, DiffT.inRow, dif_neg hm] at hr
 exact hr
theorem diff_grid.row_no {f : Nat → Nat → Bool} {m p j q : Nat} (hq : DiffT.inRow (f p) m j = DiffT.inRow (f p) m q) (hm : q < m) (hf : f p q = false) : DiffT.inRow (f p) m j = DiffT.inRow (f p) m (q + 1) := by
 rw [hq]
 conv => lhs; rw [DiffT.inRow, dif_pos hm, if_neg (by rw [hf]; decide)]
theorem diff_grid.row_yes {f : Nat → Nat → Bool} {n m p j q : Nat} {r : Option (Nat × Nat)} (hp : p < n) (hr : DiffT.first f n m p j = r) (hq : DiffT.inRow (f p) m j = DiffT.inRow (f p) m q) (hm : q < m) (hf : f p q = true) : r = some (p, q) := by
 rw [DiffT.first, dif_pos hp, hq, DiffT.inRow, dif_pos hm, if_pos hf] at hr
 exact hr.symm
set_option maxRecDepth 100000 in
set_option maxHeartbeats 4000000 in
theorem diff_pairs.calls (n m : Nat) (hn : n ≤ 400) (hm : m ≤ 400) (C : Nat) (bs : Array Value) (hent : ∀ (xs : Array Value) (W : World), (callFunc C xs).run Try.prog W = .ok (.enter C xs) W) (like : Nat → Nat → Bool) (w : World)
  (HL : ∀ W : World, Below w.heap.size w W → ∀ i j : Nat, i < n → j < m → Calls Try.prog C (#[.int .i64 (i : Int), .int .i64 (j : Int)] ++ bs) W fun e W' => e = .returned (.bool (like i j)) ∧ Below W.heap.size W W')
  (gb rb cap : Nat) (best : List Int) (hR : diff_grid.Rd n m C bs gb rb cap best w w) (hl : best.length = (n + 1) * (m + 1)) (hT : ∀ i j, i ≤ n → j ≤ m → best.getD (i * (m + 1) + j) 0 = (DiffT.T like n m i j : Int)) :
  Calls Try.prog 31 #[.pointer (some ⟨gb, 0, none⟩)] w fun e w' => ∃ v, e = .returned v ∧ Kd.R k76 76 w' w.heap.size (fun _ => True) v (diff_grid.enc (DiffT.P like n m n 0 0)) ∧ Below w.heap.size w w' := by
 have HE := aM hent
 have HLK := aM HL
 have HN := aM hn
 have HM := aM hm
 have HLN := aM hl
 have HT := aM hT
 have hb := Below.refl w.heap.size w
 have ST := aM hR
 have HR0 := aM hR
 obtain ⟨L, hL⟩ : ∃ L, L = DiffT.P like n m n 0 0 := ⟨_, rfl⟩
 rw [← hL]
 have HL0 := aM (show L = [] ++ DiffT.P like n m n 0 0 from hL)
 have b1 : (0 : Int) ≤ (n : Int) := by omega
 have b2 : (n : Int) ≤ 400 := by omega
 have b3 : (0 : Int) ≤ (m : Int) := by omega
 have b4 : (m : Int) ≤ 400 := by omega
 clear hent HL hn hm hl hT hR hb hL
 go_enter Try.func31, Try.ntmps31
 go_wp2
 go_loopg [3, 4, 5] n (fun gq v3 v4 v5 wr => ∃ (i j k : Nat) (out : List (Nat × Nat)), v4 = .int .i64 (i : Int) ∧ v5 = .int .i64 (j : Int) ∧ Aside0 (gq + i = n) ∧ Aside0 (i ≤ n ∧ j ≤ m ∧ n ≤ k + i ∧ out.length ≤ i) ∧ Aside0 (L = out ++ DiffT.P like n m k i j) ∧ Aside0 (diff_grid.Rd n m C bs gb rb cap best w wr) ∧ Aside0 (Kd.R k76 76 wr w.heap.size (fun _ => True) v3 (diff_grid.enc out)))
 case atStart => exact ⟨0, 0, n, [], rfl, rfl, ⟨by omega⟩, ⟨by omega, by omega, by omega, by simp⟩, HL0, ST, ⟨Kd.R_nil _ _ _ _ _⟩⟩
 case round =>
  clear HL0 ST
  obtain ⟨i, j, k, out, rfl, rfl, HG, HI, HL, ST, HO⟩ := hrel
  obtain ⟨vo, rfl⟩ : ∃ vo : Value, vo = u3 := ⟨_, rfl⟩
  have HG0 := aM HG.out
  clear HG
  have hI := HI.out
  have q1 : (0 : Int) ≤ (i : Int) := by omega
  have q2 : (i : Int) ≤ 400 := by have := HN.out; omega
  have q3 : (0 : Int) ≤ (j : Int) := by omega
  have q4 : (j : Int) ≤ 400 := by have := HM.out; omega
  obtain ⟨t, ht⟩ : ∃ t : Int, t = (DiffT.T like n m i j : Int) := ⟨_, rfl⟩
  have HTT := aM ht
  rcases Nat.eq_zero_or_pos (DiffT.T like n m i j) with h0|h0
  ·have ht0 : t = 0 := by omega
   subst ht0
   have HLe := aM (diff_grid.P_done HL.out h0)
   clear hI h0 ht
   go_wp2_with (go_at_call 48; refine (ST.out.at_ HT.out i j _ _ 0 rfl rfl HTT.out HN.out HM.out HI.out.1 HI.out.2.1 HLN.out).mono ?_; rintro e w2 ⟨rfl, hb2⟩; have n0_ := aM (ST.out.step hb2); have n1_ := aM (Kd.R_below HO.out hb2); clear ST HO hb2; have ST := n0_; have HO := n1_; clear n0_ n1_)
   go_ret
   rw [HLe.out]
   exact ⟨_, rfl, HO.out, ST.out.below⟩
  ·have ht0 : decide (0 < t) = true := decide_eq_true (by omega)
   obtain ⟨p0, q0, hfst, hp1, hp2, hq1, hq2, hlk, hTp⟩ := DiffT.step h0
   have l1 := DiffT.T_le (like := like) (n := n) (m := m) _ i j rfl
   have HF := aM hfst
   have HF0 := aM hfst
   have HP := aM (And.intro hp1 (And.intro hp2 (And.intro hq1 (And.intro hq2 h0))))
   have t0 : 0 ≤ t := by omega
   have t1 : t ≤ 400 := by have := HN.out; omega
   clear hI h0 ht hfst hp1 hp2 hq1 hq2 hlk hTp l1
   go_wp2_with (go_at_call 48; refine (ST.out.at_ HT.out i j _ _ t rfl rfl HTT.out HN.out HM.out HI.out.1 HI.out.2.1 HLN.out).mono ?_; rintro e w2 ⟨rfl, hb2⟩; have n0_ := aM (ST.out.step hb2); have n1_ := aM (Kd.R_below HO.out hb2); clear ST HO hb2; have ST := n0_; have HO := n1_; clear n0_ n1_)
   go_step3
   go_wp2
   go_step3
   go_wp2
   obtain ⟨wo, rfl⟩ : ∃ wo : World, wo = w2 := ⟨_, rfl⟩
   go_loopg [3, 4, 5, 6] (n - i) (fun gq v3' v4 v5 v6 wr => ∃ (p : Nat), v3' = vo ∧ v4 = .int .i64 (i : Int) ∧ v5 = .int .i64 (j : Int) ∧ v6 = .int .i64 (p : Int) ∧ Aside0 (gq + p = n ∧ i ≤ p) ∧ Aside0 (DiffT.first (DiffT.Fit like n m i j) n m p j = some (p0, q0)) ∧ Aside0 (diff_grid.Rd n m C bs gb rb cap best w wr) ∧ Aside0 (Kd.R k76 76 wr w.heap.size (fun _ => True) vo (diff_grid.enc out)))
   case atStart => exact ⟨i, rfl, rfl, rfl, rfl, ⟨by have := HI.out; omega, Nat.le_refl _⟩, HF, ST, HO⟩
   case round =>
    clear HF ST HO
    obtain ⟨p, rfl, rfl, rfl, rfl, HGP, HF, ST, HO⟩ := hrel
    obtain ⟨vo, rfl⟩ : ∃ vo : Value, vo = u3 := ⟨_, rfl⟩
    have hz0 : wr.cell? ⟨gb, 0, none⟩ = some (.int .i64 (n : Int)) := (blk_cell ST.out.blk 0).trans rfl
    have hp0 : p < n := by
     rcases Nat.lt_or_ge p n with h|h
     ·exact h
     ·have := HF.out
      rw [DiffT.first, dif_neg (by omega)] at this
      cases this
    have hpn : decide ((p : Int) < (n : Int)) = true := decide_eq_true (by omega)
    have hpn2 : decide (p < n) = true := decide_eq_true hp0
    have HPN := aM hp0
    have q5 : (0 : Int) ≤ (p : Int) := by omega
    have q6 : (p : Int) ≤ 400 := by have := HN.out; omega
    clear hp0
    obtain ⟨wo, rfl⟩ : ∃ wo : World, wo = wr := ⟨_, rfl⟩
    go_wp2
    clear hz0
    go_loopg [3, 4, 5, 7] (m - j) (fun gq v3' v4 v5 v7 wr => ∃ (q : Nat), v3' = vo ∧ v4 = .int .i64 (i : Int) ∧ v5 = .int .i64 (j : Int) ∧ v7 = .int .i64 (q : Int) ∧ Aside0 (gq + q = m ∧ j ≤ q) ∧ Aside0 (DiffT.inRow (DiffT.Fit like n m i j p) m j = DiffT.inRow (DiffT.Fit like n m i j p) m q) ∧ Aside0 (diff_grid.Rd n m C bs gb rb cap best w wr) ∧ Aside0 (Kd.R k76 76 wr w.heap.size (fun _ => True) vo (diff_grid.enc out)))
    case atStart => exact ⟨j, rfl, rfl, rfl, rfl, ⟨by have := HI.out; omega, Nat.le_refl _⟩, ⟨rfl⟩, ST, HO⟩
    case round =>
     clear ST HO
     obtain ⟨q, rfl, rfl, rfl, rfl, HGQ, HQ, ST, HO⟩ := hrel
     obtain ⟨vo, rfl⟩ : ∃ vo : Value, vo = u3 := ⟨_, rfl⟩
     have hz1 : wr.cell? ⟨gb, 1, none⟩ = some (.int .i64 (m : Int)) := (blk_cell ST.out.blk 1).trans rfl
     rcases Nat.lt_or_ge q m with hq0|hq0
     ·have hqm : decide ((q : Int) < (m : Int)) = true := decide_eq_true (by omega)
      have hqm2 : decide (q < m) = true := decide_eq_true hq0
      have HQM := aM hq0
      have hz3 : wr.cell? ⟨gb, 3, none⟩ = some (.func (.func C) #[] bs) := (blk_cell ST.out.blk 3).trans rfl
      have q7 : (0 : Int) ≤ (q : Int) := by omega
      have q8 : (q : Int) ≤ 400 := by have := HM.out; omega
      obtain ⟨z, hz⟩ : ∃ z : Int, z = (DiffT.T like n m (p + 1) (q + 1) : Int) := ⟨_, rfl⟩
      have HZ := aM hz
      have l3 := DiffT.T_le (like := like) (n := n) (m := m) _ (p + 1) (q + 1) rfl
      have q9 : 0 ≤ z := by omega
      have q10 : z ≤ 400 := by have := HN.out; omega
      clear hz l3 hq0
      cases hlk : like p q with
     |false =>
       have HLT := aM hlk
       clear hlk
       go_wp2_with (first|((with_reducible refine gate_dst (N := 37) rfl ?_); refine diff_grid.goesV (some 37) rfl rfl HE.out #[.int .i64 (p : Int), .int .i64 (q : Int)] rfl rfl (by (try simp only [List.map_toArray, List.map_cons, List.map_nil]); first|done|rfl) ?_; refine (HLK.out _ ST.out.below p q HPN.out HQM.out).mono ?_; rw [HLT.out]; rintro e w5 ⟨rfl, hb5⟩; refine ⟨_, rfl, ?_⟩; have n0_ := aM (ST.out.step hb5); have n1_ := aM (Kd.R_below HO.out hb5); clear ST HO hb5 hz1 hz3; have ST := n0_; have HO := n1_; clear n0_ n1_))
       go_roundg (m - (q + 1))
       case measure => have := HGQ.out; have := HQM.out; omega
       case rel => exact ⟨q + 1, rfl, rfl, rfl, by first|rfl|go_num, ⟨by have := HQM.out; omega, by have := HGQ.out; omega⟩, ⟨diff_grid.row_no HQ.out HQM.out (by simp [DiffT.Fit, HLT.out])⟩, ST, HO⟩
     |true =>
       have HLT := aM hlk
       clear hlk
       by_cases hc : 1 + z = t
       ·have hc1 : ((1 + z : Int) == t) = true := beq_iff_eq.mpr hc
        have HCC := aM hc
        clear hc
        have hfit : DiffT.Fit like n m i j p q = true := by
         rw [DiffT.fit_iff]
         exact ⟨HLT.out, by have h1 := HZ.out; have h2 := HTT.out; have h3 := HCC.out; omega⟩
        have HFS := aM (diff_grid.row_yes HPN.out HF.out HQ.out HQM.out hfit)
        clear hfit
        go_wp2_with ((with_reducible refine gate_dst (N := 37) rfl ?_); refine diff_grid.goesV (some 37) rfl rfl HE.out #[.int .i64 (p : Int), .int .i64 (q : Int)] rfl rfl (by (try simp only [List.map_toArray, List.map_cons, List.map_nil]); first|done|rfl) ?_; refine (HLK.out _ ST.out.below p q HPN.out HQM.out).mono ?_; rw [HLT.out]; rintro e w5 ⟨rfl, hb5⟩; refine ⟨_, rfl, ?_⟩; have n0_ := aM (ST.out.step hb5); have n1_ := aM (Kd.R_below HO.out hb5); clear ST HO hb5 hz1 hz3; have ST := n0_; have HO := n1_; clear n0_ n1_)
        refine (ST.out.at_ HT.out (p + 1) (q + 1) _ _ z (by first|rfl|(push_cast; rfl)) (by first|rfl|(push_cast; rfl)) HZ.out HN.out HM.out (by have := HPN.out; omega) (by have := HQM.out; omega) HLN.out).mono ?_
        rintro e w6 ⟨rfl, hb6⟩
        have n0_ := aM (ST.out.step hb6)
        have n1_ := aM (Kd.R_below HO.out hb6)
        clear ST HO hb6
        have ST := n0_
        have HO := n1_
        clear n0_ n1_
        go_wp2_with fail
        refine (ST.out.at_ HT.out i j _ _ t rfl rfl HTT.out HN.out HM.out HI.out.1 HI.out.2.1 HLN.out).mono ?_
        rintro e w7 ⟨rfl, hb7⟩
        have n0_ := aM (ST.out.step hb7)
        have n1_ := aM (Kd.R_below HO.out hb7)
        clear ST HO hb7
        have ST := n0_
        have HO := n1_
        clear n0_ n1_
        go_wp2_with (at_builtin; refine Kd.R_append k76 (w0 := w) w.heap.size rfl (.tmp 52) (.tmp 56) 26 76 (.agg #[.int .i64 0, .int .i64 0]) 16 rfl Try.underlying26 info76 rfl (by decide) (by decide) vo (diff_grid.enc out) (⟨(p : Int), (q : Int)⟩ : S76) [.int .i64 (p : Int), .int .i64 (q : Int)] (fun _ => True) (fun _ => False) rfl rfl (k76_mkM _ _ _ _) (fun _ h => h.elim) (fun _ _ => trivial) HO.out ST.out.below ST.out.below.size (by have := HI.out; have := HN.out; simp [diff_grid.enc]; omega) ?_; intro v1 w8 hR1 hb8 hg1 hat1; have n0_ := aM (HR0.out.step hb8); have n1_ := aM hR1; clear ST HO hb8 hR1 hg1 hat1; have ST := n0_; have HO := n1_; clear n0_ n1_)
        rw [Exit.noGoto_normal]
        go_wp2
        go_roundg (n - (p + 1))
        case measure => have := HG0.out; have := HP.out; have := HGP.out; have := HPN.out; omega
        case rel =>
         have hfs := HFS.out
         simp only [Option.some.injEq, Prod.mk.injEq] at hfs
         obtain ⟨e1, e2⟩ := hfs
         have hI := HI.out
         have hpn := HPN.out
         have hqm := HQM.out
         have hgp := HGP.out
         obtain ⟨k', hk'⟩ : ∃ k', k = k' + 1 := ⟨k - 1, by omega⟩
         have hl := HL.out
         rw [hk'] at hl
         have hf := HF0.out
         rw [e1, e2] at hf
         exact ⟨p + 1, q + 1, k', out ++ [(p, q)], by first|rfl|go_num, by first|rfl|go_num, ⟨by omega⟩, ⟨by omega, by omega, by omega, by rw [List.length_append]; simp; omega⟩, ⟨diff_grid.P_step hl HP.out.2.2.2.2 hf⟩, ST, ⟨by have h_ := HO.out; simp only [diff_grid.enc, List.map_append, List.map_cons, List.map_nil] at h_ ⊢; exact h_⟩⟩
       ·have hc1 : ((1 + z : Int) == t) = false := beq_eq_false_iff_ne.mpr hc
        have HCC := aM hc
        clear hc
        go_wp2_with ((with_reducible refine gate_dst (N := 37) rfl ?_); refine diff_grid.goesV (some 37) rfl rfl HE.out #[.int .i64 (p : Int), .int .i64 (q : Int)] rfl rfl (by (try simp only [List.map_toArray, List.map_cons, List.map_nil]); first|done|rfl) ?_; refine (HLK.out _ ST.out.below p q HPN.out HQM.out).mono ?_; rw [HLT.out]; rintro e w5 ⟨rfl, hb5⟩; refine ⟨_, rfl, ?_⟩; have n0_ := aM (ST.out.step hb5); have n1_ := aM (Kd.R_below HO.out hb5); clear ST HO hb5 hz1 hz3; have ST := n0_; have HO := n1_; clear n0_ n1_)
        refine (ST.out.at_ HT.out (p + 1) (q + 1) _ _ z (by first|rfl|(push_cast; rfl)) (by first|rfl|(push_cast; rfl)) HZ.out HN.out HM.out (by have := HPN.out; omega) (by have := HQM.out; omega) HLN.out).mono ?_
        rintro e w6 ⟨rfl, hb6⟩
        have n0_ := aM (ST.out.step hb6)
        have n1_ := aM (Kd.R_below HO.out hb6)
        clear ST HO hb6
        have ST := n0_
        have HO := n1_
        clear n0_ n1_
        go_wp2_with fail
        refine (ST.out.at_ HT.out i j _ _ t rfl rfl HTT.out HN.out HM.out HI.out.1 HI.out.2.1 HLN.out).mono ?_
        rintro e w7 ⟨rfl, hb7⟩
        have n0_ := aM (ST.out.step hb7)
        have n1_ := aM (Kd.R_below HO.out hb7)
        clear ST HO hb7
        have ST := n0_
        have HO := n1_
        clear n0_ n1_
        go_wp2
        go_roundg (m - (q + 1))
        case measure => have := HGQ.out; have := HQM.out; omega
        case rel => exact ⟨q + 1, rfl, rfl, rfl, by first|rfl|go_num, ⟨by have := HQM.out; omega, by have := HGQ.out; omega⟩, ⟨diff_grid.row_no HQ.out HQM.out (by have h1 := HZ.out; have h2 := HTT.out; have h3 := HCC.out; simp only [DiffT.Fit, HLT.out, Bool.true_and]; exact decide_eq_false (by omega))⟩, ST, HO⟩
     ·have hqm : decide ((q : Int) < (m : Int)) = false := decide_eq_false (by omega)
      have hqm2 : decide (q < m) = false := decide_eq_false (by omega)
      have HQM := aM hq0
      clear hq0
      go_wp2
      go_roundg (n - (p + 1))
      case measure => have := HGP.out; have := HPN.out; omega
      case rel => exact ⟨p + 1, rfl, rfl, rfl, by first|rfl|go_num, ⟨by have := HPN.out; omega, by have := HGP.out; omega⟩, ⟨diff_grid.row_end HPN.out HF.out HQ.out (by have := HQM.out; omega)⟩, ST, HO⟩
attribute [local go_sem high] eqA64
/-- The same token? -/
def diff_Pairs.same (x y : S64) : Bool := x.f0 == y.f0 && (x.f1 == y.f1 && (x.f2 == y.f2 && (x.f3 == y.f3)))
def diff_Pairs.like (l0 l1 : List S64) (i j : Nat) : Bool := diff_Pairs.same (rd_T64 l0 (i : Int)) (rd_T64 l1 (j : Int))
set_option maxRecDepth 100000 in
set_option maxHeartbeats 2000000 in
theorem diff_Pairs.one (ba bb : Nat) (A0 A1 : Option Addr) (c0 c1 : Nat) (l0 l1 : List S64) (i j : Nat) (hi : i < l0.length) (hj : j < l1.length) (w : World) (h0 : w.cell? ⟨ba, 0, none⟩ = some (.slice A0 l0.length c0)) (h1 : w.cell? ⟨bb, 0, none⟩ = some (.slice A1 l1.length c1)) (hr0 : Kd.C k64 w A0 l0.length l0) (hr1 : Kd.C k64 w A1 l1.length l1) :
  Calls Try.prog 30 (#[.int .i64 (i : Int), .int .i64 (j : Int)] ++ #[.pointer (some ⟨ba, 0, none⟩), .pointer (some ⟨bb, 0, none⟩)]) w fun e w' => e = .returned (.bool (diff_Pairs.like l0 l1 i j)) ∧ Below w.heap.size w w' := by
 unfold diff_Pairs.like diff_Pairs.same
 obtain ⟨x, hx⟩ : ∃ x : Int, x = (i : Int) := ⟨_, rfl⟩
 obtain ⟨y, hy⟩ : ∃ y : Int, y = (j : Int) := ⟨_, rfl⟩
 rw [← hx, ← hy]
 have q1 : (0 : Int) ≤ x := by omega
 have q2 : x < (l0.length : Int) := by omega
 have q3 : (0 : Int) ≤ y := by omega
 have q4 : y < (l1.length : Int) := by omega
 obtain ⟨ad, rfl, a0, a1, a2, a3⟩ := at_T64 hr0 x q1 q2
 obtain ⟨bd, rfl, b0, b1, b2, b3⟩ := at_T64 hr1 y q3 q4
 generalize (rd_T64 l0 x).f0 = x0 at a0 ⊢
 generalize (rd_T64 l0 x).f1 = x1 at a1 ⊢
 generalize (rd_T64 l0 x).f2 = x2 at a2 ⊢
 generalize (rd_T64 l0 x).f3 = x3 at a3 ⊢
 generalize (rd_T64 l1 y).f0 = y0 at b0 ⊢
 generalize (rd_T64 l1 y).f1 = y1 at b1 ⊢
 generalize (rd_T64 l1 y).f2 = y2 at b2 ⊢
 generalize (rd_T64 l1 y).f3 = y3 at b3 ⊢
 clear hr0 hr1 hx hy
 go_enter Try.func30, Try.ntmps30
 go_wp2
 go_quiet (fail)
 go_wp2
 go_ret
 exact ⟨rfl, Drawn0.below ⟨⟨_, rfl⟩⟩⟩
def diff_Pairs.f (l0 l1 : List S64) : Option (List S76 × Int) := some (if l0.length > 400 ∨ l1.length > 400 then ([], 2) else (diff_grid.enc (DiffT.P (diff_Pairs.like l0 l1) l0.length l1.length l0.length 0 0), 0))
theorem diff_Pairs.mono : ∀ a0 a1, LeO (diff_Pairs.f a0 a1) (diff_Pairs.f a0 a1) := fun _ _ => LeO.refl _
set_option maxRecDepth 100000 in
set_option maxHeartbeats 2000000 in
theorem diff_Pairs.calls (A0 : Option Addr) (c0 : Nat) (l0 : List S64) (A1 : Option Addr) (c1 : Nat) (l1 : List S64) (r1 : List S76) (r2 : Int) (w : World) (hr0 : Kd.C k64 w A0 l0.length l0) (hc0 : l0.length ≤ c0) (hr1 : Kd.C k64 w A1 l1.length l1) (hc1 : l1.length ≤ c1) (h : diff_Pairs.f l0 l1 = some (r1, r2)) :
  Calls Try.prog 11 #[.slice A0 l0.length c0, .slice A1 l1.length c1] w fun e w' => ∃ v0_ : Value, e = .returned (.tuple #[v0_, .int .i64 r2]) ∧ Kd.R k76 76 w' w.heap.size (fun _ => True) v0_ r1 ∧ Below w.heap.size w w' := by
 have h := Option.some.inj h
 have HR0 := aM hr0
 have HR1 := aM hr1
 have HB0 := aM (Below.refl w.heap.size w)
 clear hr0 hr1 hc0 hc1
 have hx : l0.length < l1.length ∨ ¬ l0.length < l1.length := Decidable.em _
 by_cases hbig : l0.length > 400 ∨ l1.length > 400
 ·rw [if_pos hbig] at h
  simp only [Prod.mk.injEq] at h
  obtain ⟨rfl, rfl⟩ := h
  rcases hx with hx|hx
  ·have q1 := eq_true hx
   have q2 : decide (400 < (l1.length : Int)) = true := decide_eq_true (by omega)
   have q3 : decide (400 < l1.length) = true := decide_eq_true (by omega)
   have q4 : decide (l0.length < l1.length) = true := decide_eq_true hx
   have q5 : ((l0.length : Int) < (l1.length : Int)) = True := eq_true (by omega)
   clear hx hbig
   go_enter Try.func11, Try.ntmps11
   go_wp2
   go_ret2
   exact ⟨_, rfl, Kd.R_nil _ _ _ _ _, lA (lA HB0.out _) _⟩
  ·have q1 := eq_false hx
   have q2 : decide (400 < (l0.length : Int)) = true := decide_eq_true (by omega)
   have q3 : decide (400 < l0.length) = true := decide_eq_true (by omega)
   have q4 : decide (l0.length < l1.length) = false := decide_eq_false hx
   have q5 : ((l0.length : Int) < (l1.length : Int)) = False := eq_false (by omega)
   clear hx hbig
   go_enter Try.func11, Try.ntmps11
   go_wp2
   go_ret2
   exact ⟨_, rfl, Kd.R_nil _ _ _ _ _, lA (lA HB0.out _) _⟩
 ·rw [if_neg hbig] at h
  simp only [Prod.mk.injEq] at h
  obtain ⟨rfl, rfl⟩ := h
  have HN := aM (show l0.length ≤ 400 by omega)
  have HM := aM (show l1.length ≤ 400 by omega)
  have fin : ∀ (ba bb : Nat) (w2 : World), w2.heap[ba]? = some (.cells #[.slice A0 l0.length c0] 22 (0, 0)) → w2.heap[bb]? = some (.cells #[.slice A1 l1.length c1] 22 (0, 0)) → Below w.heap.size w w2 → ∀ W : World, Below w2.heap.size w2 W → ∀ i j : Nat, i < l0.length → j < l1.length → Calls Try.prog 30 (#[.int .i64 (i : Int), .int .i64 (j : Int)] ++ #[.pointer (some ⟨ba, 0, none⟩), .pointer (some ⟨bb, 0, none⟩)]) W fun e W' => e = .returned (.bool (diff_Pairs.like l0 l1 i j)) ∧ Below W.heap.size W W' :=
   fun ba bb w2 k0 k1 kb W hb i j hi hj => diff_Pairs.one ba bb A0 A1 c0 c1 l0 l1 i j hi hj W ((blk_cell (blk_below k0 hb) 0).trans rfl) ((blk_cell (blk_below k1 hb) 0).trans rfl) (Kd.C_below HR0.out (below_step kb hb)) (Kd.C_below HR1.out (below_step kb hb))
  have FIN := aM fin
  have HE := aM (fun xs W => enters_ (P := Try.prog) Try.func30 (by kernel_rfl) rfl xs W)
  clear fin hbig
  rcases hx with hx|hx
  ·have q1 := eq_true hx
   have q4 : decide (l0.length < l1.length) = true := decide_eq_true hx
   have q5 : ((l0.length : Int) < (l1.length : Int)) = True := eq_true (by omega)
   have q2 : decide (400 < (l1.length : Int)) = false := decide_eq_false (by have := HM.out; omega)
   have q3 : decide (400 < l1.length) = false := decide_eq_false (by have := HM.out; omega)
   clear hx
   go_enter Try.func11, Try.ntmps11
   go_wp2_with (first|((with_reducible refine gate_dst (N := 2) rfl ?_); refine box_event ?hg (N := 2) ?hd (cs := #[.slice A0 l0.length c0]) (t := 22) ?hr ?_; (case hd => rfl); (case hg => rfl); (case hr => first|(go_simp; done)|(go_simp; rfl)); intro ba hg2 w1 hbox2 hb2; have K0 := aM hbox2; have HB1 := aM (below_step HB0.out hb2); clear HB0 hg2 hbox2 hb2)|((with_reducible refine gate_dst (N := 3) rfl ?_); refine box_event ?hg (N := 3) ?hd (cs := #[.slice A1 l1.length c1]) (t := 22) ?hr ?_; (case hd => rfl); (case hg => rfl); (case hr => first|(go_simp; done)|(go_simp; rfl)); intro bb hg3 w2 hbox3 hb3; have K1 := aM hbox3; have n0_ := aM (blk_below K0.out hb3); have HB2 := aM (below_step HB1.out hb3); clear HB1 K0 hg3 hbox3 hb3; have K0 := n0_; clear n0_; have hz0 : w2.cell? ⟨ba, 0, none⟩ = some (.slice A0 l0.length c0) := (blk_cell K0.out 0).trans rfl; have hz1 : w2.cell? ⟨bb, 0, none⟩ = some (.slice A1 l1.length c1) := (blk_cell K1.out 0).trans rfl))
   refine (diff_filled.calls l0.length l1.length HN.out HM.out 30 #[.pointer (some ⟨ba, 0, none⟩), .pointer (some ⟨bb, 0, none⟩)] HE.out (diff_Pairs.like l0 l1) w2 (FIN.out ba bb w2 K0.out K1.out HB2.out)).mono ?_
   rintro e w3 ⟨gb, rb, cap, best, rfl, hge, hblk, hC, hlen, hT, hb3⟩
   have G := aM (And.intro hblk (And.intro hC (And.intro hlen (And.intro hT hb3))))
   clear hge hblk hC hlen hT hb3 hz0 hz1
   go_wp2_with fail
   refine (diff_pairs.calls l0.length l1.length HN.out HM.out 30 #[.pointer (some ⟨ba, 0, none⟩), .pointer (some ⟨bb, 0, none⟩)] HE.out (diff_Pairs.like l0 l1) w3 (fun W hb i j hi hj => FIN.out ba bb w2 K0.out K1.out HB2.out W (below_step G.out.2.2.2.2 hb) i j hi hj) gb rb cap best ⟨G.out.1, G.out.2.1, Below.refl _ _⟩ G.out.2.2.1 G.out.2.2.2.1).mono ?_
   rintro e w4 ⟨v, rfl, hR, hb4⟩
   have n0_ := aM hR
   have n1_ := aM hb4
   clear hR hb4
   go_wp2
   go_ret2
   exact ⟨_, rfl, Kd.R_lower n0_.out (Nat.le_trans HB2.out.size G.out.2.2.2.2.size), below_step (below_step HB2.out G.out.2.2.2.2) n1_.out⟩
  ·have q1 := eq_false hx
   have q4 : decide (l0.length < l1.length) = false := decide_eq_false hx
   have q5 : ((l0.length : Int) < (l1.length : Int)) = False := eq_false (by omega)
   have q2 : decide (400 < (l0.length : Int)) = false := decide_eq_false (by have := HN.out; omega)
   have q3 : decide (400 < l0.length) = false := decide_eq_false (by have := HN.out; omega)
   clear hx
   go_enter Try.func11, Try.ntmps11
   go_wp2_with (first|((with_reducible refine gate_dst (N := 2) rfl ?_); refine box_event ?hg (N := 2) ?hd (cs := #[.slice A0 l0.length c0]) (t := 22) ?hr ?_; (case hd => rfl); (case hg => rfl); (case hr => first|(go_simp; done)|(go_simp; rfl)); intro ba hg2 w1 hbox2 hb2; have K0 := aM hbox2; have HB1 := aM (below_step HB0.out hb2); clear HB0 hg2 hbox2 hb2)|((with_reducible refine gate_dst (N := 3) rfl ?_); refine box_event ?hg (N := 3) ?hd (cs := #[.slice A1 l1.length c1]) (t := 22) ?hr ?_; (case hd => rfl); (case hg => rfl); (case hr => first|(go_simp; done)|(go_simp; rfl)); intro bb hg3 w2 hbox3 hb3; have K1 := aM hbox3; have n0_ := aM (blk_below K0.out hb3); have HB2 := aM (below_step HB1.out hb3); clear HB1 K0 hg3 hbox3 hb3; have K0 := n0_; clear n0_; have hz0 : w2.cell? ⟨ba, 0, none⟩ = some (.slice A0 l0.length c0) := (blk_cell K0.out 0).trans rfl; have hz1 : w2.cell? ⟨bb, 0, none⟩ = some (.slice A1 l1.length c1) := (blk_cell K1.out 0).trans rfl))
   refine (diff_filled.calls l0.length l1.length HN.out HM.out 30 #[.pointer (some ⟨ba, 0, none⟩), .pointer (some ⟨bb, 0, none⟩)] HE.out (diff_Pairs.like l0 l1) w2 (FIN.out ba bb w2 K0.out K1.out HB2.out)).mono ?_
   rintro e w3 ⟨gb, rb, cap, best, rfl, hge, hblk, hC, hlen, hT, hb3⟩
   have G := aM (And.intro hblk (And.intro hC (And.intro hlen (And.intro hT hb3))))
   clear hge hblk hC hlen hT hb3 hz0 hz1
   go_wp2_with fail
   refine (diff_pairs.calls l0.length l1.length HN.out HM.out 30 #[.pointer (some ⟨ba, 0, none⟩), .pointer (some ⟨bb, 0, none⟩)] HE.out (diff_Pairs.like l0 l1) w3 (fun W hb i j hi hj => FIN.out ba bb w2 K0.out K1.out HB2.out W (below_step G.out.2.2.2.2 hb) i j hi hj) gb rb cap best ⟨G.out.1, G.out.2.1, Below.refl _ _⟩ G.out.2.2.1 G.out.2.2.2.1).mono ?_
   rintro e w4 ⟨v, rfl, hR, hb4⟩
   have n0_ := aM hR
   have n1_ := aM hb4
   clear hR hb4
   go_wp2
   go_ret2
   exact ⟨_, rfl, Kd.R_lower n0_.out (Nat.le_trans HB2.out.size G.out.2.2.2.2.size), below_step (below_step HB2.out G.out.2.2.2.2) n1_.out⟩

end Go.Proofs.Ytjpmlggkhhoooaa.PDq
-- Written for this claim by a program (the kit's print, with hand-made contracts for what it does not take).
namespace Go.Proofs.Ytjpmlggkhhoooaa.PDq
open Go.RowKit Go.Proofs.YtjpmlggkhhoooaaW.PrintWords Go.Proofs.YtjpmlggkhhoooaaW.PrintLast Go.Proofs.YtjpmlggkhhoooaaW.PrintMore
attribute [local go_sem] max2_int min2_int max_two min_two max_three min_three max_four min_four   -- for this text's walks alone
set_option linter.unusedVariables false
set_option linter.unusedSimpArgs false

attribute [local go_sem high] eqA64 eqA76
/-- What 'gaps' calls for, one call behind the other: from, to, and whether a pair comes behind. -/
def diff_gaps.trace (n m : Int) : Int × Int → List S76 → List ((Int × Int) × (Int × Int) × Bool)
|last, [] => [(last, (n, m), false)]
|last, p :: r => (last, (p.f0, p.f1), true) :: diff_gaps.trace n m (p.f0 + 1, p.f1 + 1) r
/-- All blocks of pairs stay. -/
def diff_gaps.Keep (W W' : World) : Prop := ∀ (g : Nat) (cs : Array Value), W.heap[g]? = some (.cells cs 76 (0, 0)) → W'.heap[g]? = some (.cells cs 76 (0, 0))
theorem diff_gaps.Keep.trans {A B C : World} (h : diff_gaps.Keep A B) (k : diff_gaps.Keep B C) : diff_gaps.Keep A C := fun g cs hg => k g cs (h g cs hg)
theorem diff_gaps.Keep.grown {A B : World} (h : A.grownBy B none) : diff_gaps.Keep A B := fun g cs hg => blk_grown hg h (by simp)
theorem diff_gaps.Keep.row {W W' : World} {B : Nat} {v : Value} {l : List S76} (h : diff_gaps.Keep W W') (hr : Kd.R k76 76 W B (fun _ => True) v l) : Kd.R k76 76 W' B (fun _ => True) v l := by
 refine Kd.R_mono (Kd.R_move (Kd.R_bound hr) (fun k hk => ?_)) (fun _ _ => trivial)
 obtain ⟨_, _, _, q, hq, cells, hc⟩ := hk
 have hq' : q = 76 := by simpa [k76, Kd.iso, Kd.pair, Kd.int, Kd.scalar] using hq
 subst hq'
 rw [h k cells hc, hc]
theorem diff_gaps.own_set {w W : World} {g : Nat} (hk : diff_gaps.Keep w W) (hg : w.heap.size ≤ g) (j : Nat) (u : Value) : diff_gaps.Keep w (W.setCell ⟨g, j, none⟩ u) := by
 intro k cs h
 have := (Array.getElem?_eq_some_iff.1 h).1
 rw [Below.heap_setCell W ⟨g, j, none⟩ u k (by simp; omega)]
 exact hk k cs h
theorem diff_gaps.trace_end {n m : Int} {l : List S76} {i : Nat} {pre : List ((Int × Int) × (Int × Int) × Bool)} {last : Int × Int} (h : diff_gaps.trace n m (0, 0) l = pre ++ diff_gaps.trace n m last (l.drop i)) (hi : l.length ≤ i) : diff_gaps.trace n m (0, 0) l = pre ++ [(last, (n, m), false)] := by
 rw [h, List.drop_eq_nil_of_le hi]
 rfl
theorem diff_gaps.trace_next {n m : Int} {l : List S76} {i : Nat} {pre : List ((Int × Int) × (Int × Int) × Bool)} {last : Int × Int} (h : diff_gaps.trace n m (0, 0) l = pre ++ diff_gaps.trace n m last (l.drop i)) (hi : i < l.length) :
  diff_gaps.trace n m (0, 0) l = (pre ++ [(last, ((rd_T76 l (i : Int)).f0, (rd_T76 l (i : Int)).f1), true)]) ++ diff_gaps.trace n m ((rd_T76 l (i : Int)).f0 + 1, (rd_T76 l (i : Int)).f1 + 1) (l.drop (i + 1)) := by
 have e : rd_T76 l (i : Int) = l[i] := by simp [rd_T76, List.getD_eq_getElem?_getD, List.getElem?_eq_getElem hi]
 rw [h, List.drop_eq_getElem_cons hi, e]
 simp [diff_gaps.trace]
theorem diff_gaps.rd_mem {l : List S76} {i : Nat} (hi : i < l.length) : rd_T76 l (i : Int) ∈ l := by
 have e : rd_T76 l (i : Int) = l[i] := by simp [rd_T76, List.getD_eq_getElem?_getD, List.getElem?_eq_getElem hi]
 rw [e]
 exact List.getElem_mem hi
set_option maxRecDepth 100000 in
set_option maxHeartbeats 4000000 in
theorem diff_gaps.calls (C : Nat) (bs : Array Value) (hent : ∀ (xs : Array Value) (W : World), (callFunc C xs).run Try.prog W = .ok (.enter C xs) W) (v : Value) (l : List S76) (n m : Int) (B : Nat) (w : World) (hR : Kd.R k76 76 w B (fun _ => True) v l)
  (hn : 0 ≤ n ∧ n ≤ 4000000) (hm : 0 ≤ m ∧ m ≤ 4000000) (hl : ∀ x ∈ l, (0 ≤ x.f0 ∧ x.f0 ≤ 4000000) ∧ (0 ≤ x.f1 ∧ x.f1 ≤ 4000000)) (J : List ((Int × Int) × (Int × Int) × Bool) → World → Prop) (hJ0 : J [] w)
  (hJa : ∀ pre W W', J pre W → W.grownBy W' none → J pre W') (hJs : ∀ pre W (g : Nat) (cs : Array Value) (j : Nat) (u : Value), J pre W → W.heap[g]? = some (.cells cs 76 (0, 0)) → w.heap.size ≤ g → J pre (W.setCell ⟨g, j, none⟩ u))
  (hcall : ∀ pre rest f t b W, diff_gaps.trace n m (0, 0) l = pre ++ (f, t, b) :: rest → J pre W → Calls Try.prog C (#[.agg #[.int .i64 f.1, .int .i64 f.2], .agg #[.int .i64 t.1, .int .i64 t.2], .bool b] ++ bs) W fun e W' => (∃ x, e = .returned x) ∧ J (pre ++ [(f, t, b)]) W' ∧ diff_gaps.Keep W W') :
  Calls Try.prog 33 #[v, .int .i64 n, .int .i64 m, .func (.func C) #[] bs] w fun e w' => (∃ x, e = .returned x) ∧ J (diff_gaps.trace n m (0, 0) l) w' := by
 obtain ⟨A, c, rfl⟩ := Kd.R_slice hR
 have HE := aM hent
 have HC := aM hcall
 have HJA := aM hJa
 have HJS := aM hJs
 have HJ := aM hJ0
 have HR := aM hR
 have HLB := aM hl
 have HK := aM (show diff_gaps.Keep w w from fun g cs hg => hg)
 have HLEN := aM (Kd.R_reads' hR).2.2.2.1
 obtain ⟨n0, n1⟩ := hn
 obtain ⟨m0, m1⟩ := hm
 clear hent hcall hJa hJs hJ0 hR hl
 go_enter Try.func33, Try.ntmps33
 go_wp2
 have BK := aM (heap_alloc_new w (.cells #[.int .i64 0, .int .i64 0] 76 (0, 0)))
 have n0_ := aM (HJA.out _ _ _ HJ.out (World.grownBy_alloc w (.cells #[.int .i64 0, .int .i64 0] 76 (0, 0)) none))
 have n1_ := aM (HK.out.trans (diff_gaps.Keep.grown (World.grownBy_alloc w (.cells #[.int .i64 0, .int .i64 0] 76 (0, 0)) none)))
 clear HJ HK
 have HJ := n0_
 have HK := n1_
 clear n0_ n1_
 go_loopw [14] (fun v14 wr => ∃ (i : Nat) (f0 f1 : Int) (pre : List ((Int × Int) × (Int × Int) × Bool)), v14 = .int .i64 (i : Int) ∧ Aside0 (i ≤ l.length) ∧ Aside0 (wr.heap[w.heap.size]? = some (.cells #[.int .i64 f0, .int .i64 f1] 76 (0, 0))) ∧ Aside0 (diff_gaps.trace n m (0, 0) l = pre ++ diff_gaps.trace n m (f0, f1) (l.drop i)) ∧ Aside0 (J pre wr) ∧ Aside0 (diff_gaps.Keep w wr)) (fun v14 _ => l.length - (intOf v14).toNat)
 case atStart => exact ⟨0, 0, 0, [], rfl, ⟨Nat.zero_le _⟩, BK, ⟨rfl⟩, HJ, HK⟩
 case round =>
  clear BK HJ HK
  obtain ⟨i, f0, f1, pre, rfl, HI, BK, HT, HJ, HK⟩ := hrel
  have hcz0 : wr.cell? ⟨w.heap.size, 0, none⟩ = some (.int .i64 f0) := (blk_cell BK.out 0).trans rfl
  have hcz1 : wr.cell? ⟨w.heap.size, 1, none⟩ = some (.int .i64 f1) := (blk_cell BK.out 1).trans rfl
  have hfz0 := blk_frozen BK.out 0
  have hfz1 := blk_frozen BK.out 1
  by_cases hlt : i < l.length
  ·have q1 : decide ((i : Int) < (l.length : Int)) = true := decide_eq_true (by omega)
   have q2 : decide (i < l.length) = true := decide_eq_true hlt
   have q3 : (i : Int) < (l.length : Int) := by omega
   have q4 : (0 : Int) ≤ (i : Int) := by omega
   have q5 : (i : Int) ≤ 9223372036854775806 := by have := HLEN.out; omega
   obtain ⟨⟨p00, p01⟩, ⟨p10, p11⟩⟩ := HLB.out _ (diff_gaps.rd_mem hlt)
   have TR := aM (diff_gaps.trace_next HT.out hlt)
   have HLT := aM hlt
   obtain ⟨ad, rfl, x0, x1⟩ := at_T76 (Kd.R_reads' (HK.out.row HR.out)).2.2 (i : Int) q4 q3
   rw [Int.toNat_natCast] at x0 x1
   obtain ⟨y0, hy0⟩ : ∃ y, y = (rd_T76 l (i : Int)).f0 := ⟨_, rfl⟩
   obtain ⟨y1, hy1⟩ : ∃ y, y = (rd_T76 l (i : Int)).f1 := ⟨_, rfl⟩
   rw [← hy0] at x0 p00 p01
   rw [← hy1] at x1 p10 p11
   have TR2 := aM (show diff_gaps.trace n m (0, 0) l = (pre ++ [((f0, f1), (y0, y1), true)]) ++ diff_gaps.trace n m (y0 + 1, y1 + 1) (l.drop (i + 1)) by rw [hy0, hy1]; exact TR.out)
   clear TR hy0 hy1 hlt
   go_wp2_with (first|((with_reducible refine gate_dst (N := 10) rfl ?_); refine box_event ?hg (N := 10) ?hd (cs := #[.int .i64 0, .int .i64 0]) (t := 76) ?hr ?_; (case hd => rfl); (case hg => rfl); (case hr => first|(go_simp; done)|(go_simp; rfl)); intro gp hg w2 hbox hb; have GP := aM (show w.heap.size < gp by rw [hg]; exact blk_lt BK.out); have n0_ := aM (HJA.out _ _ _ HJ.out (grown_of_below hb none)); have n1_ := aM (HK.out.trans (diff_gaps.Keep.grown (grown_of_below hb none))); have n2_ := aM (blk_below BK.out hb); have BP := aM hbox; clear HJ HK BK hg hbox hb hcz0 hcz1 hfz0 hfz1 x0 x1; have HJ := n0_; have HK := n1_; have BK := n2_; clear n0_ n1_ n2_; have hcz0 : w2.cell? ⟨w.heap.size, 0, none⟩ = some (.int .i64 f0) := (blk_cell BK.out 0).trans rfl; have hcz1 : w2.cell? ⟨w.heap.size, 1, none⟩ = some (.int .i64 f1) := (blk_cell BK.out 1).trans rfl; have hcp0 : w2.cell? ⟨gp, 0, none⟩ = some (.int .i64 0) := (blk_cell BP.out 0).trans rfl; have hcp1 : w2.cell? ⟨gp, 1, none⟩ = some (.int .i64 0) := (blk_cell BP.out 1).trans rfl; have hfp0 := blk_frozen BP.out 0; have hfp1 := blk_frozen BP.out 1; have hne1 : ¬ (gp = w.heap.size) := (by have := GP.out; omega); have hne2 : ¬ (w.heap.size = gp) := (by have := GP.out; omega))|((with_reducible refine gate_dst (N := 21) rfl ?_); refine diff_grid.goesV (some 21) rfl rfl HE.out #[.agg #[.int .i64 f0, .int .i64 f1], .agg #[.int .i64 y0, .int .i64 y1], .bool true] rfl rfl (by (try simp only [List.map_toArray, List.map_cons, List.map_nil]); first|done|rfl) ?_; refine (HC.out pre _ (f0, f1) (y0, y1) true _ (TR2.out.trans (by rw [List.append_assoc]; rfl)) (HJS.out _ _ gp _ 1 _ (HJS.out _ _ gp _ 0 _ HJ.out BP.out (Nat.le_of_lt GP.out)) (blk_set BP.out 0 _) (Nat.le_of_lt GP.out))).mono ?_; rintro e w5 ⟨⟨x, rfl⟩, hj5, hk5⟩; refine ⟨_, rfl, ?_⟩; have n0_ := aM hj5; have n1_ := aM ((diff_gaps.own_set (diff_gaps.own_set HK.out (Nat.le_of_lt GP.out) 0 _) (Nat.le_of_lt GP.out) 1 _).trans hk5); have n2_ := aM (hk5 _ _ (bF (p := ⟨gp, 1, none⟩) (bF (p := ⟨gp, 0, none⟩) BK.out hne2 _) hne2 _)); have n3_ := aM (hk5 _ _ (blk_put (cs' := #[.int .i64 y0, .int .i64 y1]) (blk_put (cs' := #[.int .i64 y0, .int .i64 0]) BP.out 0 _ rfl) 1 _ rfl)); clear HJ HK BK BP hj5 hk5 hcz0 hcz1 hcp0 hcp1 hfp0 hfp1; have HJ := n0_; have HK := n1_; have BK := n2_; have BP := n3_; clear n0_ n1_ n2_ n3_; have hcz0 : w5.cell? ⟨w.heap.size, 0, none⟩ = some (.int .i64 f0) := (blk_cell BK.out 0).trans rfl; have hcz1 : w5.cell? ⟨w.heap.size, 1, none⟩ = some (.int .i64 f1) := (blk_cell BK.out 1).trans rfl; have hfz0 := blk_frozen BK.out 0; have hfz1 := blk_frozen BK.out 1; have hcp0 : w5.cell? ⟨gp, 0, none⟩ = some (.int .i64 y0) := (blk_cell BP.out 0).trans rfl; have hcp1 : w5.cell? ⟨gp, 1, none⟩ = some (.int .i64 y1) := (blk_cell BP.out 1).trans rfl))
   go_roundw
   case rel => exact ⟨i + 1, y0 + 1, y1 + 1, pre ++ [((f0, f1), (y0, y1), true)], by first|rfl|go_num, ⟨by have := HLT.out; omega⟩, ⟨blk_put (cs' := #[.int .i64 (y0 + 1), .int .i64 (y1 + 1)]) (blk_put (cs' := #[.int .i64 (y0 + 1), .int .i64 f1]) BK.out 0 _ rfl) 1 _ rfl⟩, TR2, ⟨HJS.out _ _ _ _ 1 _ (HJS.out _ _ _ _ 0 _ HJ.out BK.out (Nat.le_refl _)) (blk_set BK.out 0 _) (Nat.le_refl _)⟩, ⟨diff_gaps.own_set (diff_gaps.own_set HK.out (Nat.le_refl _) 0 _) (Nat.le_refl _) 1 _⟩⟩
   case measure => have := HLT.out; simp [intOf]; omega
  ·have q1 : decide ((i : Int) < (l.length : Int)) = false := decide_eq_false (by omega)
   have q2 : decide (i < l.length) = false := decide_eq_false hlt
   have TR := aM (diff_gaps.trace_end HT.out (Nat.le_of_not_lt hlt))
   clear hlt
   go_wp2_with ((with_reducible refine gate_dst (N := 35) rfl ?_); refine diff_grid.goesV (some 35) rfl rfl HE.out #[.agg #[.int .i64 f0, .int .i64 f1], .agg #[.int .i64 n, .int .i64 m], .bool false] rfl rfl (by (try simp only [List.map_toArray, List.map_cons, List.map_nil]); first|done|rfl) ?_; refine (HC.out pre [] (f0, f1) (n, m) false _ TR.out HJ.out).mono ?_; rintro e w5 ⟨⟨x, rfl⟩, hj5, hk5⟩; refine ⟨_, rfl, ?_⟩; have n0_ := aM hj5; clear hj5 hk5)
   go_end0
   rw [TR.out]
   exact ⟨⟨_, rfl⟩, n0_.out⟩
theorem diff_Edits.eqA (d : Nat) (w : World) (x0 y0 : Int) (x1 y1 : Int) :
  (Op.equalIn (d + 2) 76 (.agg #[.int .i64 x0, .int .i64 x1]) (.agg #[.int .i64 y0, .int .i64 y1])).run Try.prog w = .ok (x0 == y0 && (x1 == y1)) w := eqA76 d w x0 y0 x1 y1
attribute [local go_sem high] diff_Edits.eqA
def diff_Edits.add (f t : Int × Int) : List S41 := if f = t then [] else [⟨f.1, t.1 - f.1, t.2 - f.2⟩]
/-- What was found so far. -/
structure diff_Edits.St (bo B : Nat) (w0 : World) (out : List S41) (W : World) : Prop where
 ex : ∃ v, W.heap[bo]? = some (.cells #[v] 32 (0, 0)) ∧ Kd.R k41 41 W B (fun _ => True) v out
 below : Below B w0 W
theorem diff_Edits.St.grown {bo B : Nat} {w0 W W' : World} {out : List S41} (h : diff_Edits.St bo B w0 out W) (hB : B ≤ W.heap.size) (hg : W.grownBy W' none) : diff_Edits.St bo B w0 out W' := by
 obtain ⟨⟨v, h1, h2⟩, h3⟩ := h
 exact ⟨⟨v, blk_grown h1 hg (by simp), Kd.R_grown h2 hg (fun _ _ => by simp)⟩, h3.grown hg hB (fun r e => by cases e)⟩
theorem diff_Edits.St.set {bo B : Nat} {w0 W : World} {out : List S41} (h : diff_Edits.St bo B w0 out W) {g : Nat} {cs : Array Value} (hg : W.heap[g]? = some (.cells cs 76 (0, 0))) (hB : B ≤ g) (j : Nat) (u : Value) : diff_Edits.St bo B w0 out (W.setCell ⟨g, j, none⟩ u) := by
 obtain ⟨⟨v, h1, h2⟩, h3⟩ := h
 exact ⟨⟨v, bF h1 (blk_ne h1 hg (by decide)) u, Kd.R_set h2 hg (by decide) j u⟩, h3.setCell hB _⟩
set_option maxRecDepth 100000 in
set_option maxHeartbeats 4000000 in
theorem diff_Edits.one (bo B : Nat) (w0 : World) (f0 f1 t0 t1 : Int) (b : Bool) (out : List S41) (hlen : out.length ≤ 100000) (h00 : -4000001 ≤ f0 ∧ f0 ≤ 4000001) (h01 : -4000001 ≤ f1 ∧ f1 ≤ 4000001) (h10 : -4000001 ≤ t0 ∧ t0 ≤ 4000001) (h11 : -4000001 ≤ t1 ∧ t1 ≤ 4000001) (w : World) (hS : diff_Edits.St bo B w0 out w) (hB : B ≤ w.heap.size) (hBo : B ≤ bo) :
  Calls Try.prog 34 (#[.agg #[.int .i64 f0, .int .i64 f1], .agg #[.int .i64 t0, .int .i64 t1], .bool b] ++ #[.pointer (some ⟨bo, 0, none⟩)]) w fun e W' => (∃ x, e = .returned x) ∧ diff_Edits.St bo B w0 (out ++ diff_Edits.add (f0, f1) (t0, t1)) W' ∧ diff_gaps.Keep w W' := by
 have HS := aM hS
 have HBB := aM hB
 have HBO := aM hBo
 have HL := aM hlen
 obtain ⟨p0, p1⟩ := h00
 obtain ⟨p2, p3⟩ := h01
 obtain ⟨p4, p5⟩ := h10
 obtain ⟨p6, p7⟩ := h11
 clear hS hB hBo hlen
 by_cases he : f0 = t0 ∧ f1 = t1
 ·obtain ⟨rfl, rfl⟩ := he
  go_enter Try.func34, Try.ntmps34
  go_wp2
  go_end0
  refine ⟨⟨_, rfl⟩, ?_, (diff_gaps.Keep.grown (World.grownBy_alloc _ _ none)).trans (diff_gaps.Keep.grown (World.grownBy_alloc _ _ none))⟩
  have h1 := HS.out.grown HBB.out (World.grownBy_alloc w (.cells #[.int .i64 f0, .int .i64 f1] 76 (0, 0)) none)
  have h2 := h1.grown (Nat.le_trans HBB.out (by simp)) (World.grownBy_alloc _ (.cells #[.int .i64 f0, .int .i64 f1] 76 (0, 0)) none)
  simpa [diff_Edits.add] using h2
 ·have hadd : diff_Edits.add (f0, f1) (t0, t1) = [⟨f0, t0 - f0, t1 - f1⟩] := by
   unfold diff_Edits.add
   rw [if_neg (fun e => he (by simpa using e))]
  rw [hadd]
  by_cases h0 : f0 = t0
  ·have h1 : ¬ f1 = t1 := fun h => he ⟨h0, h⟩
   have q0 : (f0 == t0) = true := beq_iff_eq.mpr h0
   have q1 : (f1 == t1) = false := beq_eq_false_iff_ne.mpr h1
   clear h0 h1 he hadd
   have q2 := True.intro
   go_enter Try.func34, Try.ntmps34
   go_wp2_with (first|((with_reducible refine gate_dst (N := 4) rfl ?_); refine box_event ?hg (N := 4) ?hd (cs := #[.int .i64 f0, .int .i64 f1]) (t := 76) ?hr ?_; (case hd => rfl); (case hg => rfl); (case hr => first|(go_simp; done)|(go_simp; rfl)); intro ga hg4 w1 hbox4 hb4; have n0_ := aM (HS.out.grown HBB.out (grown_of_below hb4 none)); have HB1 := aM (Nat.le_trans HBB.out hb4.size); have K1 := aM (diff_gaps.Keep.grown (grown_of_below hb4 none)); have BA := aM hbox4; clear HS hg4 hbox4 hb4; have HS := n0_; clear n0_)|((with_reducible refine gate_dst (N := 5) rfl ?_); refine box_event ?hg (N := 5) ?hd (cs := #[.int .i64 t0, .int .i64 t1]) (t := 76) ?hr ?_; (case hd => rfl); (case hg => rfl); (case hr => first|(go_simp; done)|(go_simp; rfl)); intro gb hg5 w2 hbox5 hb5; have n0_ := aM (HS.out.grown HB1.out (grown_of_below hb5 none)); have HB2 := aM (Nat.le_trans HB1.out hb5.size); have K2 := aM (K1.out.trans (diff_gaps.Keep.grown (grown_of_below hb5 none))); have n1_ := aM (blk_below BA.out hb5); have BB := aM hbox5; clear HS BA K1 HB1 hg5 hbox5 hb5; have HS := n0_; have BA := n1_; clear n0_ n1_; have hca0 : w2.cell? ⟨ga, 0, none⟩ = some (.int .i64 f0) := (blk_cell BA.out 0).trans rfl; have hca1 : w2.cell? ⟨ga, 1, none⟩ = some (.int .i64 f1) := (blk_cell BA.out 1).trans rfl; have hcb0 : w2.cell? ⟨gb, 0, none⟩ = some (.int .i64 t0) := (blk_cell BB.out 0).trans rfl; have hcb1 : w2.cell? ⟨gb, 1, none⟩ = some (.int .i64 t1) := (blk_cell BB.out 1).trans rfl; obtain ⟨⟨vo, hbo_, hro_⟩, hbel_⟩ := HS.out; have BO := aM hbo_; have RO := aM hro_; have BL := aM hbel_; clear hbo_ hro_ hbel_; have hco : w2.cell? ⟨bo, 0, none⟩ = some vo := (blk_cell BO.out 0).trans rfl; have hfo := blk_frozen BO.out 0)|(at_builtin; refine Kd.R_append k41 (w0 := w0) B rfl (.tmp 10) (.tmp 24) 32 41 (.agg #[.int .i64 0, .int .i64 0, .int .i64 0]) 24 rfl Try.underlying32 info41 rfl (by decide) (by decide) vo out (⟨f0, t0 - f0, t1 - f1⟩ : S41) [.int .i64 f0, .int .i64 (t0 - f0), .int .i64 (t1 - f1)] (fun _ => True) (fun _ => False) rfl rfl (k41_mkM _ _ _ _) (fun _ h => h.elim) (fun _ _ => trivial) RO.out BL.out HB2.out (by have := HL.out; omega) ?_; intro v1 w8 hR1 hb8 hg1 hat1; obtain ⟨av_, cv_, hv1_⟩ := Kd.R_slice hR1; obtain ⟨nv_, hnv_⟩ : ∃ n, n = (out ++ [(⟨f0, t0 - f0, t1 - f1⟩ : S41)]).length := ⟨_, rfl⟩; rw [← hnv_] at hv1_; subst hv1_; have R8 := aM hR1; have B8 := aM hb8; have O8 := aM (blk_grown BO.out hg1 (Kd.R_ne RO.out BO.out (by decide))); have K8 := aM (show diff_gaps.Keep w2 w8 from fun g cs hg => blk_grown hg hg1 (Kd.R_ne RO.out hg (by decide))); clear hca0 hca1 hcb0 hcb1 hco hfo hR1 hb8 hg1 hat1 hnv_; have hco : w8.cell? ⟨bo, 0, none⟩ = some vo := (blk_cell O8.out 0).trans rfl; have hfo := blk_frozen O8.out 0))
   go_end0
   refine ⟨⟨_, rfl⟩, ⟨⟨_, (blk_set O8.out 0 _).trans rfl, Kd.R_set R8.out O8.out (by decide) 0 _⟩, B8.out.setCell HBO.out _⟩, fun g cs hg => ?_⟩
   exact bF (K8.out g cs (K2.out g cs hg)) (fun e_ => blk_ne O8.out (K8.out g cs (K2.out g cs hg)) (by decide) e_.symm) _
  ·have q0 : (f0 == t0) = false := beq_eq_false_iff_ne.mpr h0
   clear h0 he hadd
   have q2 := True.intro
   go_enter Try.func34, Try.ntmps34
   go_wp2_with (first|((with_reducible refine gate_dst (N := 4) rfl ?_); refine box_event ?hg (N := 4) ?hd (cs := #[.int .i64 f0, .int .i64 f1]) (t := 76) ?hr ?_; (case hd => rfl); (case hg => rfl); (case hr => first|(go_simp; done)|(go_simp; rfl)); intro ga hg4 w1 hbox4 hb4; have n0_ := aM (HS.out.grown HBB.out (grown_of_below hb4 none)); have HB1 := aM (Nat.le_trans HBB.out hb4.size); have K1 := aM (diff_gaps.Keep.grown (grown_of_below hb4 none)); have BA := aM hbox4; clear HS hg4 hbox4 hb4; have HS := n0_; clear n0_)|((with_reducible refine gate_dst (N := 5) rfl ?_); refine box_event ?hg (N := 5) ?hd (cs := #[.int .i64 t0, .int .i64 t1]) (t := 76) ?hr ?_; (case hd => rfl); (case hg => rfl); (case hr => first|(go_simp; done)|(go_simp; rfl)); intro gb hg5 w2 hbox5 hb5; have n0_ := aM (HS.out.grown HB1.out (grown_of_below hb5 none)); have HB2 := aM (Nat.le_trans HB1.out hb5.size); have K2 := aM (K1.out.trans (diff_gaps.Keep.grown (grown_of_below hb5 none))); have n1_ := aM (blk_below BA.out hb5); have BB := aM hbox5; clear HS BA K1 HB1 hg5 hbox5 hb5; have HS := n0_; have BA := n1_; clear n0_ n1_; have hca0 : w2.cell? ⟨ga, 0, none⟩ = some (.int .i64 f0) := (blk_cell BA.out 0).trans rfl; have hca1 : w2.cell? ⟨ga, 1, none⟩ = some (.int .i64 f1) := (blk_cell BA.out 1).trans rfl; have hcb0 : w2.cell? ⟨gb, 0, none⟩ = some (.int .i64 t0) := (blk_cell BB.out 0).trans rfl; have hcb1 : w2.cell? ⟨gb, 1, none⟩ = some (.int .i64 t1) := (blk_cell BB.out 1).trans rfl; obtain ⟨⟨vo, hbo_, hro_⟩, hbel_⟩ := HS.out; have BO := aM hbo_; have RO := aM hro_; have BL := aM hbel_; clear hbo_ hro_ hbel_; have hco : w2.cell? ⟨bo, 0, none⟩ = some vo := (blk_cell BO.out 0).trans rfl; have hfo := blk_frozen BO.out 0)|(at_builtin; refine Kd.R_append k41 (w0 := w0) B rfl (.tmp 10) (.tmp 24) 32 41 (.agg #[.int .i64 0, .int .i64 0, .int .i64 0]) 24 rfl Try.underlying32 info41 rfl (by decide) (by decide) vo out (⟨f0, t0 - f0, t1 - f1⟩ : S41) [.int .i64 f0, .int .i64 (t0 - f0), .int .i64 (t1 - f1)] (fun _ => True) (fun _ => False) rfl rfl (k41_mkM _ _ _ _) (fun _ h => h.elim) (fun _ _ => trivial) RO.out BL.out HB2.out (by have := HL.out; omega) ?_; intro v1 w8 hR1 hb8 hg1 hat1; obtain ⟨av_, cv_, hv1_⟩ := Kd.R_slice hR1; obtain ⟨nv_, hnv_⟩ : ∃ n, n = (out ++ [(⟨f0, t0 - f0, t1 - f1⟩ : S41)]).length := ⟨_, rfl⟩; rw [← hnv_] at hv1_; subst hv1_; have R8 := aM hR1; have B8 := aM hb8; have O8 := aM (blk_grown BO.out hg1 (Kd.R_ne RO.out BO.out (by decide))); have K8 := aM (show diff_gaps.Keep w2 w8 from fun g cs hg => blk_grown hg hg1 (Kd.R_ne RO.out hg (by decide))); clear hca0 hca1 hcb0 hcb1 hco hfo hR1 hb8 hg1 hat1 hnv_; have hco : w8.cell? ⟨bo, 0, none⟩ = some vo := (blk_cell O8.out 0).trans rfl; have hfo := blk_frozen O8.out 0))
   go_end0
   refine ⟨⟨_, rfl⟩, ⟨⟨_, (blk_set O8.out 0 _).trans rfl, Kd.R_set R8.out O8.out (by decide) 0 _⟩, B8.out.setCell HBO.out _⟩, fun g cs hg => ?_⟩
   exact bF (K8.out g cs (K2.out g cs hg)) (fun e_ => blk_ne O8.out (K8.out g cs (K2.out g cs hg)) (by decide) e_.symm) _
def diff_Edits.outs (l : List ((Int × Int) × (Int × Int) × Bool)) : List S41 := l.flatMap fun c => diff_Edits.add c.1 c.2.1
theorem diff_Edits.outs_len : ∀ l : List ((Int × Int) × (Int × Int) × Bool), (diff_Edits.outs l).length ≤ l.length
|[] => by simp [diff_Edits.outs]
|c :: r => by
  have := diff_Edits.outs_len r
  have h : (diff_Edits.add c.1 c.2.1).length ≤ 1 := by unfold diff_Edits.add; split <;> simp
  simp only [diff_Edits.outs, List.flatMap_cons, List.length_append, List.length_cons] at this ⊢
  omega
theorem diff_gaps.trace_len (n m : Int) : ∀ (l : List S76) (last : Int × Int), (diff_gaps.trace n m last l).length = l.length + 1
|[], _ => rfl
|p :: r, _ => by simp [diff_gaps.trace, diff_gaps.trace_len n m r]
theorem diff_gaps.trace_mem (n m : Int) (hn : 0 ≤ n ∧ n ≤ 4000000) (hm : 0 ≤ m ∧ m ≤ 4000000) : ∀ (l : List S76) (last : Int × Int), (0 ≤ last.1 ∧ last.1 ≤ 4000001) → (0 ≤ last.2 ∧ last.2 ≤ 4000001) → (∀ x ∈ l, (0 ≤ x.f0 ∧ x.f0 ≤ 4000000) ∧ (0 ≤ x.f1 ∧ x.f1 ≤ 4000000)) →
  ∀ c ∈ diff_gaps.trace n m last l, (0 ≤ c.1.1 ∧ c.1.1 ≤ 4000001) ∧ (0 ≤ c.1.2 ∧ c.1.2 ≤ 4000001) ∧ (0 ≤ c.2.1.1 ∧ c.2.1.1 ≤ 4000001) ∧ (0 ≤ c.2.1.2 ∧ c.2.1.2 ≤ 4000001)
|[], last, h1, h2, hl, c, hc => by
  simp only [diff_gaps.trace, List.mem_singleton] at hc
  subst hc
  exact ⟨h1, h2, by simp; omega, by simp; omega⟩
|p :: r, last, h1, h2, hl, c, hc => by
  obtain ⟨a, b⟩ := hl p (List.mem_cons_self ..)
  simp only [diff_gaps.trace, List.mem_cons] at hc
  rcases hc with rfl|hc
  ·exact ⟨h1, h2, by simp; omega, by simp; omega⟩
  ·exact diff_gaps.trace_mem n m hn hm r _ (by simp; omega) (by simp; omega) (fun x hx => hl x (List.mem_cons_of_mem _ hx)) c hc
theorem diff_grid.enc_bound {like : Nat → Nat → Bool} {n m : Nat} (hn : n ≤ 400) (hm : m ≤ 400) : ∀ {i j : Nat} {l : List (Nat × Nat)}, DiffT.Rise like n m i j l → ∀ x ∈ diff_grid.enc l, (0 ≤ x.f0 ∧ x.f0 ≤ 4000000) ∧ (0 ≤ x.f1 ∧ x.f1 ≤ 4000000) := by
 intro i j l h
 induction h with
|nil => intro x hx; simp [diff_grid.enc] at hx
|cons i j p q l h1 h2 h3 h4 h5 h ih =>
  intro x hx
  simp only [diff_grid.enc, List.map_cons, List.mem_cons] at hx
  rcases hx with rfl|hx
  ·simp; omega
  ·exact ih x hx
def diff_Edits.f (l0 l1 : List S64) : Option (List S41 × Int) := some (if l0.length > 400 ∨ l1.length > 400 then ([], 2) else (diff_Edits.outs (diff_gaps.trace l0.length l1.length (0, 0) (diff_grid.enc (DiffT.P (diff_Pairs.like l0 l1) l0.length l1.length l0.length 0 0))), 0))
theorem diff_Edits.mono : ∀ a0 a1, LeO (diff_Edits.f a0 a1) (diff_Edits.f a0 a1) := fun _ _ => LeO.refl _
set_option maxRecDepth 100000 in
set_option maxHeartbeats 4000000 in
theorem diff_Edits.calls (A0 : Option Addr) (c0 : Nat) (l0 : List S64) (A1 : Option Addr) (c1 : Nat) (l1 : List S64) (r1 : List S41) (r2 : Int) (w : World) (hr0 : Kd.C k64 w A0 l0.length l0) (hc0 : l0.length ≤ c0) (hr1 : Kd.C k64 w A1 l1.length l1) (hc1 : l1.length ≤ c1) (h : diff_Edits.f l0 l1 = some (r1, r2)) :
  Calls Try.prog 13 #[.slice A0 l0.length c0, .slice A1 l1.length c1] w fun e w' => ∃ v0_ : Value, e = .returned (.tuple #[v0_, .int .i64 r2]) ∧ Kd.R k41 41 w' w.heap.size (fun _ => True) v0_ r1 ∧ Below w.heap.size w w' := by
 have h := Option.some.inj h
 have HR0 := aM hr0
 have HR1 := aM hr1
 have HC0 := aM hc0
 have HC1 := aM hc1
 clear hr0 hr1 hc0 hc1
 by_cases hbig : l0.length > 400 ∨ l1.length > 400
 ·rw [if_pos hbig] at h
  simp only [Prod.mk.injEq] at h
  obtain ⟨rfl, rfl⟩ := h
  have HP := aM (show diff_Pairs.f l0 l1 = some ([], 2) by unfold diff_Pairs.f; rw [if_pos hbig])
  clear hbig
  go_enter Try.func13, Try.ntmps13
  go_wp2_with (go_at_call 11; refine (diff_Pairs.calls A0 c0 l0 A1 c1 l1 [] 2 _ HR0.out HC0.out HR1.out HC1.out HP.out).mono ?_; rintro e w1 ⟨v, rfl, hR, hb⟩; have HB := aM hb; clear hR hb)
  go_ret2
  exact ⟨_, rfl, Kd.R_nil _ _ _ _ _, HB.out⟩
 ·rw [if_neg hbig] at h
  simp only [Prod.mk.injEq] at h
  obtain ⟨rfl, rfl⟩ := h
  have HN := aM (show l0.length ≤ 400 by omega)
  have HM := aM (show l1.length ≤ 400 by omega)
  have HP := aM (show diff_Pairs.f l0 l1 = some (diff_grid.enc (DiffT.P (diff_Pairs.like l0 l1) l0.length l1.length l0.length 0 0), 0) by unfold diff_Pairs.f; rw [if_neg hbig])
  have HE := aM (fun xs W => enters_ (P := Try.prog) Try.func34 (by kernel_rfl) rfl xs W)
  have HLB := aM (diff_grid.enc_bound (like := diff_Pairs.like l0 l1) HN.out HM.out (DiffT.P_rise l0.length 0 0))
  have HPL := aM (show (diff_grid.enc (DiffT.P (diff_Pairs.like l0 l1) l0.length l1.length l0.length 0 0)).length ≤ 400 by
   have h1 := DiffT.T_le (like := diff_Pairs.like l0 l1) (n := l0.length) (m := l1.length) _ 0 0 rfl
   have h2 := DiffT.P_length (like := diff_Pairs.like l0 l1) (n := l0.length) (m := l1.length) l0.length 0 0 (by omega)
   have h3 := HN.out
   simp only [diff_grid.enc, List.length_map]
   omega)
  obtain ⟨L, hL⟩ : ∃ L, L = diff_grid.enc (DiffT.P (diff_Pairs.like l0 l1) l0.length l1.length l0.length 0 0) := ⟨_, rfl⟩
  rw [← hL] at HP HLB HPL ⊢
  clear hbig hL
  go_enter Try.func13, Try.ntmps13
  go_wp2_with (first|(go_at_call 11; refine (diff_Pairs.calls A0 c0 l0 A1 c1 l1 L 0 _ HR0.out HC0.out HR1.out HC1.out HP.out).mono ?_; rintro e w1 ⟨v, rfl, hR, hb⟩; have HR := aM hR; have HB := aM hb; clear hR hb)|((with_reducible refine gate_dst (N := 8) rfl ?_); refine box_event ?hg (N := 8) ?hd (cs := #[.slice none 0 0]) (t := 32) ?hr ?_; (case hd => rfl); (case hg => rfl); (case hr => first|(go_simp; done)|(go_simp; rfl)); intro bo hg w2 hbox hb; have n0_ := aM (Kd.R_below HR.out hb); have ST := aM (show diff_Edits.St bo w.heap.size w [] w2 from ⟨⟨_, hbox, Kd.R_nil _ _ _ _ _⟩, below_step HB.out hb⟩); have HBO := aM (show w.heap.size ≤ bo by rw [hg]; exact HB.out.size); clear HR HB hg hbox hb; have HR := n0_; clear n0_))
  refine (diff_gaps.calls 34 #[.pointer (some ⟨bo, 0, none⟩)] HE.out v L (l0.length : Int) (l1.length : Int) w.heap.size w2 HR.out ⟨by omega, by have := HN.out; omega⟩ ⟨by omega, by have := HM.out; omega⟩ HLB.out (fun pre W => diff_Edits.St bo w.heap.size w (diff_Edits.outs pre) W) ST.out (fun pre W W' hj hg => hj.grown hj.below.size hg) (fun pre W g cs j u hj hg hle => hj.set hg (Nat.le_trans ST.out.below.size hle) j u) ?_).mono ?_
  ·intro pre rest f t b W htr hj
   have hmem := diff_gaps.trace_mem (l0.length : Int) (l1.length : Int) ⟨by omega, by have := HN.out; omega⟩ ⟨by omega, by have := HM.out; omega⟩ L (0, 0) (by simp) (by simp) HLB.out (f, t, b) (by rw [htr]; simp)
   have hpl : pre.length ≤ 401 := by
    have h1 := diff_gaps.trace_len (l0.length : Int) (l1.length : Int) L (0, 0)
    rw [htr] at h1
    simp only [List.length_append, List.length_cons] at h1
    have := HPL.out
    omega
   have hol := diff_Edits.outs_len pre
   simp only at hmem
   refine (diff_Edits.one bo w.heap.size w f.1 f.2 t.1 t.2 b (diff_Edits.outs pre) (by omega) (by omega) (by omega) (by omega) (by omega) W hj hj.below.size HBO.out).mono ?_
   rintro e W' ⟨h1, h2, h3⟩
   refine ⟨h1, ?_, h3⟩
   have e : diff_Edits.outs (pre ++ [(f, t, b)]) = diff_Edits.outs pre ++ diff_Edits.add (f.1, f.2) (t.1, t.2) := by simp [diff_Edits.outs]
   rw [e]
   exact h2
  ·rintro e w3 ⟨⟨x, rfl⟩, hj⟩
   obtain ⟨⟨vo, hbo, hro⟩, hbel⟩ := hj
   have RO := aM hro
   have BL := aM hbel
   have hco : w3.cell? ⟨bo, 0, none⟩ = some vo := (blk_cell hbo 0).trans rfl
   clear hbo hro hbel
   go_wp2
   go_ret2
   exact ⟨_, rfl, RO.out, BL.out⟩

def mark_Right.f (a0 : Int) : Option (Bool) := if a0 ≥ 0 then (some (decide (a0 ≤ 4))) else (some false)
set_option maxHeartbeats 8000000 in
set_option maxRecDepth 100000 in
theorem mark_Right.calls (a0 : Int) (r : Bool) (w : World) (h : mark_Right.f a0 = some r) :
  Calls Try.prog 59 #[.int .i64 a0] w fun e w' => e = .returned (.bool r) ∧ Drawn0 w w' := by
 have H : (if a0 ≥ 0 then (some (decide (a0 ≤ 4))) else (some false)) = some r := h
 clear h
 by_cases c2 : a0 ≥ 0
 ·rw [if_pos c2] at H
  have c2b0 : decide (0 ≤ a0) = true := decide_eq_true c2
  clear c2
  obtain rfl := Option.some.inj H
  go_enter Try.func59, Try.ntmps59
  go_wp2
  go_ret
  exact ⟨by first|rfl|(simp; done)|(simp [*]; done), by repeat (first|exact Drawn0.refl _|apply Drawn0.step)⟩
 ·rw [if_neg c2] at H
  have c2b0 : decide (0 ≤ a0) = false := decide_eq_false c2
  clear c2
  obtain rfl := Option.some.inj H
  go_enter Try.func59, Try.ntmps59
  go_wp2
  go_ret
  exact ⟨by first|rfl|(simp; done)|(simp [*]; done), by repeat (first|exact Drawn0.refl _|apply Drawn0.step)⟩

end Go.Proofs.Ytjpmlggkhhoooaa.PDq
