-- Written for this claim by a program (the kit's print, with hand-made contracts for what it does not take).
import Derived.Test.YtjpmlggkhhoooaaPDpx0
import Derived.Test.YtjpmlggkhhoooaaPDpx6
import Derived.Test.YtjpmlggkhhoooaaPDpx7
import Derived.Test.YtjpmlggkhhoooaaPDpx8
import Derived.Test.YtjpmlggkhhoooaaPDpx11
import Derived.Test.YtjpmlggkhhoooaaPDpx12
import Derived.Test.YtjpmlggkhhoooaaPDpx13
import Derived.Test.YtjpmlggkhhoooaaPDpx14
namespace Go.Proofs.Ytjpmlggkhhoooaa.PDp
open Go.RowKit Go.Proofs.YtjpmlggkhhoooaaW.PrintWords Go.Proofs.YtjpmlggkhhoooaaW.PrintLast Go.Proofs.YtjpmlggkhhoooaaW.PrintMore
attribute [local go_sem] max2_int min2_int max_two min_two max_three min_three max_four min_four   -- for this text's walks alone
set_option linter.unusedVariables false
set_option linter.unusedSimpArgs false

/-! ### emenderlaw23_DiffPairs: function 3 -/
def emenderlaw23_DiffPairs.j0 : Nat → List (S64) → List (S64) → Bool → Option (Bool)
  | 0, _, _, _ => none
  | k + 1, x0, x1, x34 => if x34 = true then ((emenderlaw23_awake.f k).bind fun t224 => (some t224)) else ((diff_Ends.f k x0 x1).bind fun bt225 => ((emenderref23_Ends.f k x0 x1).bind fun bt227 => ((diff_Pairs.f x0 x1).bind fun bt229 => ((emenderref23_Pairs.f k x0 x1).bind fun bt233 => ((diff_Edits.f x0 x1).bind fun bt237 => ((emenderref23_Edits.f k x0 x1).bind fun bt241 => (if bt225.1 = bt227.1 then (if bt225.2 = bt227.2 then ((emenderlaw23_pairs.f k bt229.1 bt233.1).bind fun t245 => (if t245 = true then (if bt229.2 = bt233.2 then ((emenderlaw23_ranges.f k bt237.1 bt241.1).bind fun t246 => (if t246 = true then (if bt237.2 = bt241.2 then ((emenderlaw23_awake.f k).bind fun t247 => (some t247)) else (none)) else (none))) else (none)) else (none))) else (none)) else (none))))))))
def emenderlaw23_DiffPairs.f (k : Nat) (l0 : List (S64)) (l1 : List (S64)) : Option (Bool) := if (l0.length : Int) > 60 then (if (l0.length : Int) ≤ 400 then (emenderlaw23_DiffPairs.j0 k l0 l1 (decide ((l1.length : Int) ≤ 400))) else (emenderlaw23_DiffPairs.j0 k l0 l1 false)) else (if (l1.length : Int) > 60 then (if (l0.length : Int) ≤ 400 then (emenderlaw23_DiffPairs.j0 k l0 l1 (decide ((l1.length : Int) ≤ 400))) else (emenderlaw23_DiffPairs.j0 k l0 l1 false)) else (emenderlaw23_DiffPairs.j0 k l0 l1 false))
theorem emenderlaw23_DiffPairs.mono_l : ∀ k, (∀ y0 y1 y2, LeO (emenderlaw23_DiffPairs.j0 k y0 y1 y2) (emenderlaw23_DiffPairs.j0 (k + 1) y0 y1 y2))
  | 0 => fun _ _ _ r h => by simp [emenderlaw23_DiffPairs.j0] at h
  | k + 1 => by
    have ih0 := emenderlaw23_DiffPairs.mono_l k
    · intro y0 y1 y2
      unfold emenderlaw23_DiffPairs.j0
      repeat' first
      | (with_reducible exact ih0 _ _ _)
      | (with_reducible exact diff_Ends.mono _ _ _)
      | (with_reducible exact emenderlaw23_awake.mono _)
      | (with_reducible exact emenderlaw23_pairs.mono _ _ _)
      | (with_reducible exact emenderlaw23_ranges.mono _ _ _)
      | (with_reducible exact emenderref23_Edits.mono _ _ _)
      | (with_reducible exact emenderref23_Ends.mono _ _ _)
      | (with_reducible exact emenderref23_Pairs.mono _ _ _)
      | (with_reducible exact LeO.refl _)
      | (with_reducible exact LeO.none _)
      | (with_reducible refine LeO.ite ?_ ?_)
      | (with_reducible refine LeO.bind ?_ (fun _ => ?_))
      | exact ih0 _ _ _
      | exact diff_Ends.mono _ _ _
      | exact emenderlaw23_awake.mono _
      | exact emenderlaw23_pairs.mono _ _ _
      | exact emenderlaw23_ranges.mono _ _ _
      | exact emenderref23_Edits.mono _ _ _
      | exact emenderref23_Ends.mono _ _ _
      | exact emenderref23_Pairs.mono _ _ _
      | exact LeO.none _
      | refine LeO.ite ?_ ?_
      | refine LeO.bind ?_ (fun _ => ?_)
theorem emenderlaw23_DiffPairs.mono : ∀ a0 a1 k, LeO (emenderlaw23_DiffPairs.f k a0 a1) (emenderlaw23_DiffPairs.f (k + 1) a0 a1) := by
  intro a0 a1 k
  have ih0 := emenderlaw23_DiffPairs.mono_l k
  unfold emenderlaw23_DiffPairs.f
  repeat' first
      | (with_reducible exact ih0 _ _ _)
      | (with_reducible exact diff_Ends.mono _ _ _)
      | (with_reducible exact emenderlaw23_awake.mono _)
      | (with_reducible exact emenderlaw23_pairs.mono _ _ _)
      | (with_reducible exact emenderlaw23_ranges.mono _ _ _)
      | (with_reducible exact emenderref23_Edits.mono _ _ _)
      | (with_reducible exact emenderref23_Ends.mono _ _ _)
      | (with_reducible exact emenderref23_Pairs.mono _ _ _)
      | (with_reducible exact LeO.refl _)
      | (with_reducible exact LeO.none _)
      | (with_reducible refine LeO.ite ?_ ?_)
      | (with_reducible refine LeO.bind ?_ (fun _ => ?_))
      | exact ih0 _ _ _
      | exact diff_Ends.mono _ _ _
      | exact emenderlaw23_awake.mono _
      | exact emenderlaw23_pairs.mono _ _ _
      | exact emenderlaw23_ranges.mono _ _ _
      | exact emenderref23_Edits.mono _ _ _
      | exact emenderref23_Ends.mono _ _ _
      | exact emenderref23_Pairs.mono _ _ _
      | exact LeO.none _
      | refine LeO.ite ?_ ?_
      | refine LeO.bind ?_ (fun _ => ?_)
set_option maxHeartbeats 8000000 in
set_option maxRecDepth 100000 in
theorem emenderlaw23_DiffPairs.calls (k : Nat) (A0 : Option Addr) (c0 : Nat) (l0 : List (S64)) (A1 : Option Addr) (c1 : Nat) (l1 : List (S64)) (r : Bool) (w : World) (hr0 : Kd.C k64 w A0 l0.length l0) (hc0 : l0.length ≤ c0) (hr1 : Kd.C k64 w A1 l1.length l1) (hc1 : l1.length ≤ c1) (h : emenderlaw23_DiffPairs.f k l0 l1 = some r) :
    Calls Try.prog 3 #[.slice A0 l0.length c0, .slice A1 l1.length c1] w fun e w' => e = .returned (.bool r) ∧ Below w.heap.size w w' := by
  have HR0 := Aside0.mk hr0
  have HC0 := Aside0.mk hc0
  clear hr0 hc0
  have HR1 := Aside0.mk hr1
  have HC1 := Aside0.mk hc1
  clear hr1 hc1
  have HB := Aside0.mk (Below.refl w.heap.size w)
  have H : (if (l0.length : Int) > 60 then (if (l0.length : Int) ≤ 400 then (emenderlaw23_DiffPairs.j0 k l0 l1 (decide ((l1.length : Int) ≤ 400))) else (emenderlaw23_DiffPairs.j0 k l0 l1 false)) else (if (l1.length : Int) > 60 then (if (l0.length : Int) ≤ 400 then (emenderlaw23_DiffPairs.j0 k l0 l1 (decide ((l1.length : Int) ≤ 400))) else (emenderlaw23_DiffPairs.j0 k l0 l1 false)) else (emenderlaw23_DiffPairs.j0 k l0 l1 false))) = some r := h
  clear h
  have HC3 := Aside0.mk H
  clear H
  go_enter Try.func3, Try.ntmps3
  go_upto_region 1 with (fail)
  go_cut [34] (fun v34 wc => ∃ (kq : Nat) (x34_2 : Bool), v34 = .bool x34_2 ∧ Aside0 (emenderlaw23_DiffPairs.j0 kq l0 l1 x34_2 = some r) ∧ Aside0 (kq ≤ k) ∧ Aside0 (Below w.heap.size w wc))
  case first =>
    have H := HC3.out
    clear HC3
    by_cases c4 : (l0.length : Int) > 60
    · rw [if_pos c4] at H
      have c4b0 : decide (60 < (l0.length : Int)) = true := decide_eq_true c4
      have c4b1 : decide (60 < l0.length) = true := decide_eq_true (by omega)
      clear c4
      (first | rw [c4b0] | (simp only [i64_w, i32_w]; rw [c4b0]) | skip)
      by_cases c5 : (l0.length : Int) ≤ 400
      · rw [if_pos c5] at H
        have c5b0 : decide ((l0.length : Int) ≤ 400) = true := decide_eq_true c5
        have c5b1 : decide (l0.length ≤ 400) = true := decide_eq_true (by omega)
        clear c5
        have H' := Aside0.mk H
        clear H
        go_wp2
        go_meet
        case rel => exact ⟨_, (decide ((l1.length : Int) ≤ 400)), (by first | rfl | (simp; done) | (simp [*]; done)), H', ⟨by first | omega | exact Nat.le_refl _⟩, ⟨by repeat (first | (with_reducible first | exact HB.out | apply below_alloc | apply pw_below_drewN | apply below_drew1) | exact HB.out)⟩⟩
      · rw [if_neg c5] at H
        have c5b0 : decide ((l0.length : Int) ≤ 400) = false := decide_eq_false c5
        have c5b1 : decide (l0.length ≤ 400) = false := decide_eq_false (by omega)
        clear c5
        have H' := Aside0.mk H
        clear H
        go_wp2
        go_meet
        case rel => exact ⟨_, (false), (by first | rfl | (simp; done) | (simp [*]; done)), H', ⟨by first | omega | exact Nat.le_refl _⟩, ⟨by repeat (first | (with_reducible first | exact HB.out | apply below_alloc | apply pw_below_drewN | apply below_drew1) | exact HB.out)⟩⟩
    · rw [if_neg c4] at H
      have c4b0 : decide (60 < (l0.length : Int)) = false := decide_eq_false c4
      have c4b1 : decide (60 < l0.length) = false := decide_eq_false (by omega)
      clear c4
      (first | rw [c4b0] | (simp only [i64_w, i32_w]; rw [c4b0]) | skip)
      by_cases c6 : (l1.length : Int) > 60
      · rw [if_pos c6] at H
        have c6b0 : decide (60 < (l1.length : Int)) = true := decide_eq_true c6
        have c6b1 : decide (60 < l1.length) = true := decide_eq_true (by omega)
        clear c6
        by_cases c7 : (l0.length : Int) ≤ 400
        · rw [if_pos c7] at H
          have c7b0 : decide ((l0.length : Int) ≤ 400) = true := decide_eq_true c7
          have c7b1 : decide (l0.length ≤ 400) = true := decide_eq_true (by omega)
          clear c7
          have H' := Aside0.mk H
          clear H
          go_wp2
          go_meet
          case rel => exact ⟨_, (decide ((l1.length : Int) ≤ 400)), (by first | rfl | (simp; done) | (simp [*]; done)), H', ⟨by first | omega | exact Nat.le_refl _⟩, ⟨by repeat (first | (with_reducible first | exact HB.out | apply below_alloc | apply pw_below_drewN | apply below_drew1) | exact HB.out)⟩⟩
        · rw [if_neg c7] at H
          have c7b0 : decide ((l0.length : Int) ≤ 400) = false := decide_eq_false c7
          have c7b1 : decide (l0.length ≤ 400) = false := decide_eq_false (by omega)
          clear c7
          have H' := Aside0.mk H
          clear H
          go_wp2
          go_meet
          case rel => exact ⟨_, (false), (by first | rfl | (simp; done) | (simp [*]; done)), H', ⟨by first | omega | exact Nat.le_refl _⟩, ⟨by repeat (first | (with_reducible first | exact HB.out | apply below_alloc | apply pw_below_drewN | apply below_drew1) | exact HB.out)⟩⟩
      · rw [if_neg c6] at H
        have c6b0 : decide (60 < (l1.length : Int)) = false := decide_eq_false c6
        have c6b1 : decide (60 < l1.length) = false := decide_eq_false (by omega)
        clear c6
        have H' := Aside0.mk H
        clear H
        go_wp2
        go_meet
        case rel => exact ⟨_, (false), (by first | rfl | (simp; done) | (simp [*]; done)), H', ⟨by first | omega | exact Nat.le_refl _⟩, ⟨by repeat (first | (with_reducible first | exact HB.out | apply below_alloc | apply pw_below_drewN | apply below_drew1) | exact HB.out)⟩⟩
  case rest =>
    clear HC3
    try clear c1
    try clear p2
    try clear c3
    try clear c4
    try clear c4b0
    try clear c4b1
    try clear c5
    try clear c5b0
    try clear c5b1
    try clear c6
    try clear c6b0
    try clear c6b1
    try clear c7
    try clear c7b0
    try clear c7b1
    obtain ⟨kq, x34_2, rfl, HA, HJ2, HB⟩ := hcut
    cases kq with
    | zero => exact absurd HA.out (by simp [emenderlaw23_DiffPairs.j0])
    | succ kj2 =>
      have H := HA.out
      clear HA
      simp only [emenderlaw23_DiffPairs.j0] at H
      by_cases c8 : x34_2 = true
      · subst c8
        have H1 : ((emenderlaw23_awake.f kj2).bind fun t224 => (some t224)) = some r := by rw [if_pos rfl] at H; exact H
        clear H
        have H := H1
        clear H1
        replace H := Option.bind_eq_some_iff.mp H
        obtain ⟨t224, A90, H⟩ := H
        replace H : (some t224) = some r := H
        have A9 := Aside0.mk A90
        clear A90
        obtain rfl := Option.some.inj H
        go_wp2_with (first | ((with_reducible refine gate_callee (f := 8) rfl ?_); refine goesL_ (some 35) rfl rfl Try.func8 (by kernel_rfl) rfl #[] rfl (by (try simp only [List.map_toArray, List.map_cons, List.map_nil]); first | done | rfl | (simp only [List.length_drop, List.length_take]; rfl)) ?_; (with_reducible refine (emenderlaw23_awake.calls kj2  t224 _ A9.out).mono ?_); rintro e w10 ⟨rfl, hb⟩; refine ⟨_, rfl, ?_⟩; have n0_ := Aside0.mk (below_step (by repeat (first | (with_reducible first | exact HB.out | apply below_alloc | apply pw_below_drewN | apply below_drew1) | exact HB.out)) hb); clear HB; have HB := n0_; clear n0_; (try clear hb); (try clear hb2); (try clear hk); (try clear hi)))
        go_ret
        exact ⟨by first | rfl | (simp [errW_none, errW_some] <;> rfl) | (simp [*, errW_none, errW_some] <;> rfl), by repeat (first | (with_reducible first | exact HB.out | apply below_alloc | apply pw_below_drewN | apply below_drew1) | exact HB.out)⟩
      · replace c8 := Bool.eq_false_iff.mpr c8
        subst c8
        have H1 : ((diff_Ends.f kj2 l0 l1).bind fun bt225 => ((emenderref23_Ends.f kj2 l0 l1).bind fun bt227 => ((diff_Pairs.f l0 l1).bind fun bt229 => ((emenderref23_Pairs.f kj2 l0 l1).bind fun bt233 => ((diff_Edits.f l0 l1).bind fun bt237 => ((emenderref23_Edits.f kj2 l0 l1).bind fun bt241 => (if bt225.1 = bt227.1 then (if bt225.2 = bt227.2 then ((emenderlaw23_pairs.f kj2 bt229.1 bt233.1).bind fun t245 => (if t245 = true then (if bt229.2 = bt233.2 then ((emenderlaw23_ranges.f kj2 bt237.1 bt241.1).bind fun t246 => (if t246 = true then (if bt237.2 = bt241.2 then ((emenderlaw23_awake.f kj2).bind fun t247 => (some t247)) else (none)) else (none))) else (none)) else (none))) else (none)) else (none)))))))) = some r := by rw [if_neg (show ¬ (false = true) by decide)] at H; exact H
        clear H
        have H := H1
        clear H1
        replace H := Option.bind_eq_some_iff.mp H
        obtain ⟨⟨t225, t226⟩, A110, H⟩ := H
        replace H : ((emenderref23_Ends.f kj2 l0 l1).bind fun bt227 => ((diff_Pairs.f l0 l1).bind fun bt229 => ((emenderref23_Pairs.f kj2 l0 l1).bind fun bt233 => ((diff_Edits.f l0 l1).bind fun bt237 => ((emenderref23_Edits.f kj2 l0 l1).bind fun bt241 => (if t225 = bt227.1 then (if t226 = bt227.2 then ((emenderlaw23_pairs.f kj2 bt229.1 bt233.1).bind fun t245 => (if t245 = true then (if bt229.2 = bt233.2 then ((emenderlaw23_ranges.f kj2 bt237.1 bt241.1).bind fun t246 => (if t246 = true then (if bt237.2 = bt241.2 then ((emenderlaw23_awake.f kj2).bind fun t247 => (some t247)) else (none)) else (none))) else (none)) else (none))) else (none)) else (none))))))) = some r := H
        have A11 := Aside0.mk A110
        clear A110
        replace H := Option.bind_eq_some_iff.mp H
        obtain ⟨⟨t227, t228⟩, A120, H⟩ := H
        replace H : ((diff_Pairs.f l0 l1).bind fun bt229 => ((emenderref23_Pairs.f kj2 l0 l1).bind fun bt233 => ((diff_Edits.f l0 l1).bind fun bt237 => ((emenderref23_Edits.f kj2 l0 l1).bind fun bt241 => (if t225 = t227 then (if t226 = t228 then ((emenderlaw23_pairs.f kj2 bt229.1 bt233.1).bind fun t245 => (if t245 = true then (if bt229.2 = bt233.2 then ((emenderlaw23_ranges.f kj2 bt237.1 bt241.1).bind fun t246 => (if t246 = true then (if bt237.2 = bt241.2 then ((emenderlaw23_awake.f kj2).bind fun t247 => (some t247)) else (none)) else (none))) else (none)) else (none))) else (none)) else (none)))))) = some r := H
        have A12 := Aside0.mk A120
        clear A120
        replace H := Option.bind_eq_some_iff.mp H
        obtain ⟨⟨t229, t230⟩, A130, H⟩ := H
        replace H : ((emenderref23_Pairs.f kj2 l0 l1).bind fun bt233 => ((diff_Edits.f l0 l1).bind fun bt237 => ((emenderref23_Edits.f kj2 l0 l1).bind fun bt241 => (if t225 = t227 then (if t226 = t228 then ((emenderlaw23_pairs.f kj2 t229 bt233.1).bind fun t245 => (if t245 = true then (if t230 = bt233.2 then ((emenderlaw23_ranges.f kj2 bt237.1 bt241.1).bind fun t246 => (if t246 = true then (if bt237.2 = bt241.2 then ((emenderlaw23_awake.f kj2).bind fun t247 => (some t247)) else (none)) else (none))) else (none)) else (none))) else (none)) else (none))))) = some r := H
        have A13 := Aside0.mk A130
        clear A130
        replace H := Option.bind_eq_some_iff.mp H
        obtain ⟨⟨t233, t234⟩, A140, H⟩ := H
        replace H : ((diff_Edits.f l0 l1).bind fun bt237 => ((emenderref23_Edits.f kj2 l0 l1).bind fun bt241 => (if t225 = t227 then (if t226 = t228 then ((emenderlaw23_pairs.f kj2 t229 t233).bind fun t245 => (if t245 = true then (if t230 = t234 then ((emenderlaw23_ranges.f kj2 bt237.1 bt241.1).bind fun t246 => (if t246 = true then (if bt237.2 = bt241.2 then ((emenderlaw23_awake.f kj2).bind fun t247 => (some t247)) else (none)) else (none))) else (none)) else (none))) else (none)) else (none)))) = some r := H
        have A14 := Aside0.mk A140
        clear A140
        replace H := Option.bind_eq_some_iff.mp H
        obtain ⟨⟨t237, t238⟩, A150, H⟩ := H
        replace H : ((emenderref23_Edits.f kj2 l0 l1).bind fun bt241 => (if t225 = t227 then (if t226 = t228 then ((emenderlaw23_pairs.f kj2 t229 t233).bind fun t245 => (if t245 = true then (if t230 = t234 then ((emenderlaw23_ranges.f kj2 t237 bt241.1).bind fun t246 => (if t246 = true then (if t238 = bt241.2 then ((emenderlaw23_awake.f kj2).bind fun t247 => (some t247)) else (none)) else (none))) else (none)) else (none))) else (none)) else (none))) = some r := H
        have A15 := Aside0.mk A150
        clear A150
        replace H := Option.bind_eq_some_iff.mp H
        obtain ⟨⟨t241, t242⟩, A160, H⟩ := H
        replace H : (if t225 = t227 then (if t226 = t228 then ((emenderlaw23_pairs.f kj2 t229 t233).bind fun t245 => (if t245 = true then (if t230 = t234 then ((emenderlaw23_ranges.f kj2 t237 t241).bind fun t246 => (if t246 = true then (if t238 = t242 then ((emenderlaw23_awake.f kj2).bind fun t247 => (some t247)) else (none)) else (none))) else (none)) else (none))) else (none)) else (none)) = some r := H
        have A16 := Aside0.mk A160
        clear A160
        by_cases c17 : t225 = t227
        · rw [if_pos c17] at H
          have c17b0 : (t225 == t227) = true := beq_iff_eq.mpr c17
          have c17b1 : (t225 != t227) = false := bne_eq_false_iff_eq.mpr c17
          clear c17
          by_cases c18 : t226 = t228
          · rw [if_pos c18] at H
            have c18b0 : (t226 == t228) = true := beq_iff_eq.mpr c18
            have c18b1 : (t226 != t228) = false := bne_eq_false_iff_eq.mpr c18
            clear c18
            replace H := Option.bind_eq_some_iff.mp H
            obtain ⟨t245, A190, H⟩ := H
            replace H : (if t245 = true then (if t230 = t234 then ((emenderlaw23_ranges.f kj2 t237 t241).bind fun t246 => (if t246 = true then (if t238 = t242 then ((emenderlaw23_awake.f kj2).bind fun t247 => (some t247)) else (none)) else (none))) else (none)) else (none)) = some r := H
            have A19 := Aside0.mk A190
            clear A190
            by_cases c20 : t245 = true
            · subst c20
              have H1 : (if t230 = t234 then ((emenderlaw23_ranges.f kj2 t237 t241).bind fun t246 => (if t246 = true then (if t238 = t242 then ((emenderlaw23_awake.f kj2).bind fun t247 => (some t247)) else (none)) else (none))) else (none)) = some r := by rw [if_pos rfl] at H; exact H
              clear H
              have H := H1
              clear H1
              by_cases c21 : t230 = t234
              · rw [if_pos c21] at H
                have c21b0 : (t230 == t234) = true := beq_iff_eq.mpr c21
                have c21b1 : (t230 != t234) = false := bne_eq_false_iff_eq.mpr c21
                clear c21
                replace H := Option.bind_eq_some_iff.mp H
                obtain ⟨t246, A220, H⟩ := H
                replace H : (if t246 = true then (if t238 = t242 then ((emenderlaw23_awake.f kj2).bind fun t247 => (some t247)) else (none)) else (none)) = some r := H
                have A22 := Aside0.mk A220
                clear A220
                by_cases c23 : t246 = true
                · subst c23
                  have H1 : (if t238 = t242 then ((emenderlaw23_awake.f kj2).bind fun t247 => (some t247)) else (none)) = some r := by rw [if_pos rfl] at H; exact H
                  clear H
                  have H := H1
                  clear H1
                  by_cases c24 : t238 = t242
                  · rw [if_pos c24] at H
                    have c24b0 : (t238 == t242) = true := beq_iff_eq.mpr c24
                    have c24b1 : (t238 != t242) = false := bne_eq_false_iff_eq.mpr c24
                    clear c24
                    replace H := Option.bind_eq_some_iff.mp H
                    obtain ⟨t247, A250, H⟩ := H
                    replace H : (some t247) = some r := H
                    have A25 := Aside0.mk A250
                    clear A250
                    obtain rfl := Option.some.inj H
                    go_wp2_with (first | ((with_reducible refine gate_callee (f := 9) rfl ?_); refine goesL_ (some 39) rfl rfl Try.func9 (by kernel_rfl) rfl #[.slice A0 l0.length c0, .slice A1 l1.length c1] rfl (by (try simp only [List.map_toArray, List.map_cons, List.map_nil]); first | done | rfl | (simp only [List.length_drop, List.length_take]; rfl)) ?_; (with_reducible refine (diff_Ends.calls kj2 _ _ l0 _ _ l1 t225 t226 _ ?side1 ?side2 ?side3 ?side4 A11.out).mono ?_); (case side1 => repeat (first | exact (Kd.C_below HR0.out HB.out) | (with_reducible refine Kd.C_alloc ?_ _) | (with_reducible refine Kd.C_drewN ?_ _) | (with_reducible refine Kd.C_drew ?_))); (case side2 => exact HC0.out); (case side3 => repeat (first | exact (Kd.C_below HR1.out HB.out) | (with_reducible refine Kd.C_alloc ?_ _) | (with_reducible refine Kd.C_drewN ?_ _) | (with_reducible refine Kd.C_drew ?_))); (case side4 => exact HC1.out); rintro e w26 ⟨rfl, hb⟩; refine ⟨_, rfl, ?_⟩; have n0_ := Aside0.mk (below_step (by repeat (first | (with_reducible first | exact HB.out | apply below_alloc | apply pw_below_drewN | apply below_drew1) | exact HB.out)) hb); clear HB; have HB := n0_; clear n0_; (try clear hb); (try clear hb2); (try clear hk); (try clear hi)) | ((with_reducible refine gate_callee (f := 10) rfl ?_); refine goesL_ (some 45) rfl rfl Try.func10 (by kernel_rfl) rfl #[.slice A0 l0.length c0, .slice A1 l1.length c1] rfl (by (try simp only [List.map_toArray, List.map_cons, List.map_nil]); first | done | rfl | (simp only [List.length_drop, List.length_take]; rfl)) ?_; (with_reducible refine (emenderref23_Ends.calls kj2 _ _ l0 _ _ l1 t227 t228 _ ?side1 ?side2 ?side3 ?side4 A12.out).mono ?_); (case side1 => repeat (first | exact (Kd.C_below HR0.out HB.out) | (with_reducible refine Kd.C_alloc ?_ _) | (with_reducible refine Kd.C_drewN ?_ _) | (with_reducible refine Kd.C_drew ?_))); (case side2 => exact HC0.out); (case side3 => repeat (first | exact (Kd.C_below HR1.out HB.out) | (with_reducible refine Kd.C_alloc ?_ _) | (with_reducible refine Kd.C_drewN ?_ _) | (with_reducible refine Kd.C_drew ?_))); (case side4 => exact HC1.out); rintro e w' ⟨rfl, ⟨nd, rfl⟩⟩; refine ⟨_, rfl, ?_⟩) | ((with_reducible refine gate_callee (f := 11) rfl ?_); refine goesL_ (some 51) rfl rfl Try.func11 (by kernel_rfl) rfl #[.slice A0 l0.length c0, .slice A1 l1.length c1] rfl (by (try simp only [List.map_toArray, List.map_cons, List.map_nil]); first | done | rfl | (simp only [List.length_drop, List.length_take]; rfl)) ?_; (with_reducible refine (diff_Pairs.calls _ _ l0 _ _ l1 t229 t230 _ ?side1 ?side2 ?side3 ?side4 A13.out).mono ?_); (case side1 => repeat (first | exact (Kd.C_below HR0.out (by repeat (first | (with_reducible first | exact HB.out | apply below_alloc | apply pw_below_drewN | apply below_drew1) | exact HB.out))) | (with_reducible refine Kd.C_alloc ?_ _) | (with_reducible refine Kd.C_drewN ?_ _) | (with_reducible refine Kd.C_drew ?_))); (case side2 => exact HC0.out); (case side3 => repeat (first | exact (Kd.C_below HR1.out (by repeat (first | (with_reducible first | exact HB.out | apply below_alloc | apply pw_below_drewN | apply below_drew1) | exact HB.out))) | (with_reducible refine Kd.C_alloc ?_ _) | (with_reducible refine Kd.C_drewN ?_ _) | (with_reducible refine Kd.C_drew ?_))); (case side4 => exact HC1.out); rintro e w27 ⟨v231, rfl, ho0, hb⟩; refine ⟨_, rfl, ?_⟩; have n0_ := Aside0.mk (Kd.R_lower ho0 (below_size (by repeat (first | (with_reducible first | exact HB.out | apply below_alloc | apply pw_below_drewN | apply below_drew1) | exact HB.out)))); have n1_ := Aside0.mk (below_step (by repeat (first | (with_reducible first | exact HB.out | apply below_alloc | apply pw_below_drewN | apply below_drew1) | exact HB.out)) hb); clear HB; have HO232 := n0_; have HB := n1_; clear n0_ n1_; (try clear hb); (try clear hb2); (try clear hk); (try clear hi); (try clear ho0)) | ((with_reducible refine gate_callee (f := 12) rfl ?_); refine goesL_ (some 57) rfl rfl Try.func12 (by kernel_rfl) rfl #[.slice A0 l0.length c0, .slice A1 l1.length c1] rfl (by (try simp only [List.map_toArray, List.map_cons, List.map_nil]); first | done | rfl | (simp only [List.length_drop, List.length_take]; rfl)) ?_; (with_reducible refine (emenderref23_Pairs.calls kj2 _ _ l0 _ _ l1 t233 t234 _ ?side1 ?side2 ?side3 ?side4 A14.out).mono ?_); (case side1 => repeat (first | exact (Kd.C_below HR0.out HB.out) | (with_reducible refine Kd.C_alloc ?_ _) | (with_reducible refine Kd.C_drewN ?_ _) | (with_reducible refine Kd.C_drew ?_))); (case side2 => exact HC0.out); (case side3 => repeat (first | exact (Kd.C_below HR1.out HB.out) | (with_reducible refine Kd.C_alloc ?_ _) | (with_reducible refine Kd.C_drewN ?_ _) | (with_reducible refine Kd.C_drew ?_))); (case side4 => exact HC1.out); rintro e w28 ⟨v235, rfl, ho0, hb⟩; refine ⟨_, rfl, ?_⟩; have n0_ := Aside0.mk (Kd.R_elder' (by (with_reducible repeat (first | apply Kd.R_alloc | apply Kd.R_drewN | apply Kd.R_drew)); exact HO232.out) (Kd.R_base ho0) hb); have n1_ := Aside0.mk (Kd.R_lower (Kd.R_new' ho0 (Kd.R_lt (by (with_reducible repeat (first | apply Kd.R_alloc | apply Kd.R_drewN | apply Kd.R_drew)); exact HO232.out))) (below_size (by repeat (first | (with_reducible first | exact HB.out | apply below_alloc | apply pw_below_drewN | apply below_drew1) | exact HB.out)))); have n2_ := Aside0.mk (below_step (by repeat (first | (with_reducible first | exact HB.out | apply below_alloc | apply pw_below_drewN | apply below_drew1) | exact HB.out)) hb); clear HO232; clear HB; have HO232 := n0_; have HO236 := n1_; have HB := n2_; clear n0_ n1_ n2_; (try clear hb); (try clear hb2); (try clear hk); (try clear hi); (try clear ho0)) | ((with_reducible refine gate_callee (f := 13) rfl ?_); refine goesL_ (some 63) rfl rfl Try.func13 (by kernel_rfl) rfl #[.slice A0 l0.length c0, .slice A1 l1.length c1] rfl (by (try simp only [List.map_toArray, List.map_cons, List.map_nil]); first | done | rfl | (simp only [List.length_drop, List.length_take]; rfl)) ?_; (with_reducible refine (diff_Edits.calls _ _ l0 _ _ l1 t237 t238 _ ?side1 ?side2 ?side3 ?side4 A15.out).mono ?_); (case side1 => repeat (first | exact (Kd.C_below HR0.out HB.out) | (with_reducible refine Kd.C_alloc ?_ _) | (with_reducible refine Kd.C_drewN ?_ _) | (with_reducible refine Kd.C_drew ?_))); (case side2 => exact HC0.out); (case side3 => repeat (first | exact (Kd.C_below HR1.out HB.out) | (with_reducible refine Kd.C_alloc ?_ _) | (with_reducible refine Kd.C_drewN ?_ _) | (with_reducible refine Kd.C_drew ?_))); (case side4 => exact HC1.out); rintro e w29 ⟨v239, rfl, ho0, hb⟩; refine ⟨_, rfl, ?_⟩; have n0_ := Aside0.mk (Kd.R_below (by (with_reducible repeat (first | apply Kd.R_alloc | apply Kd.R_drewN | apply Kd.R_drew)); exact HO232.out) hb); have n1_ := Aside0.mk (Kd.R_below (by (with_reducible repeat (first | apply Kd.R_alloc | apply Kd.R_drewN | apply Kd.R_drew)); exact HO236.out) hb); have n2_ := Aside0.mk (Kd.R_lower ho0 (below_size (by repeat (first | (with_reducible first | exact HB.out | apply below_alloc | apply pw_below_drewN | apply below_drew1) | exact HB.out)))); have n3_ := Aside0.mk (below_step (by repeat (first | (with_reducible first | exact HB.out | apply below_alloc | apply pw_below_drewN | apply below_drew1) | exact HB.out)) hb); clear HO232; clear HO236; clear HB; have HO232 := n0_; have HO236 := n1_; have HO240 := n2_; have HB := n3_; clear n0_ n1_ n2_ n3_; (try clear hb); (try clear hb2); (try clear hk); (try clear hi); (try clear ho0)) | ((with_reducible refine gate_callee (f := 14) rfl ?_); refine goesL_ (some 69) rfl rfl Try.func14 (by kernel_rfl) rfl #[.slice A0 l0.length c0, .slice A1 l1.length c1] rfl (by (try simp only [List.map_toArray, List.map_cons, List.map_nil]); first | done | rfl | (simp only [List.length_drop, List.length_take]; rfl)) ?_; (with_reducible refine (emenderref23_Edits.calls kj2 _ _ l0 _ _ l1 t241 t242 _ ?side1 ?side2 ?side3 ?side4 A16.out).mono ?_); (case side1 => repeat (first | exact (Kd.C_below HR0.out HB.out) | (with_reducible refine Kd.C_alloc ?_ _) | (with_reducible refine Kd.C_drewN ?_ _) | (with_reducible refine Kd.C_drew ?_))); (case side2 => exact HC0.out); (case side3 => repeat (first | exact (Kd.C_below HR1.out HB.out) | (with_reducible refine Kd.C_alloc ?_ _) | (with_reducible refine Kd.C_drewN ?_ _) | (with_reducible refine Kd.C_drew ?_))); (case side4 => exact HC1.out); rintro e w30 ⟨v243, rfl, ho0, hb⟩; refine ⟨_, rfl, ?_⟩; have n0_ := Aside0.mk (Kd.R_below (by (with_reducible repeat (first | apply Kd.R_alloc | apply Kd.R_drewN | apply Kd.R_drew)); exact HO232.out) hb); have n1_ := Aside0.mk (Kd.R_below (by (with_reducible repeat (first | apply Kd.R_alloc | apply Kd.R_drewN | apply Kd.R_drew)); exact HO236.out) hb); have n2_ := Aside0.mk (Kd.R_elder' (by (with_reducible repeat (first | apply Kd.R_alloc | apply Kd.R_drewN | apply Kd.R_drew)); exact HO240.out) (Kd.R_base ho0) hb); have n3_ := Aside0.mk (Kd.R_lower (Kd.R_new' ho0 (Kd.R_lt (by (with_reducible repeat (first | apply Kd.R_alloc | apply Kd.R_drewN | apply Kd.R_drew)); exact HO240.out))) (below_size (by repeat (first | (with_reducible first | exact HB.out | apply below_alloc | apply pw_below_drewN | apply below_drew1) | exact HB.out)))); have n4_ := Aside0.mk (below_step (by repeat (first | (with_reducible first | exact HB.out | apply below_alloc | apply pw_below_drewN | apply below_drew1) | exact HB.out)) hb); clear HO232; clear HO236; clear HO240; clear HB; have HO232 := n0_; have HO236 := n1_; have HO240 := n2_; have HO244 := n3_; have HB := n4_; clear n0_ n1_ n2_ n3_ n4_; (try clear hb); (try clear hb2); (try clear hk); (try clear hi); (try clear ho0); obtain ⟨Ao31, co31, eo31⟩ := Kd.R_slice HO232.out; subst eo31; obtain ⟨Ao32, co32, eo32⟩ := Kd.R_slice HO236.out; subst eo32) | (go_at_call 15; (with_reducible refine (emenderlaw23_pairs.calls kj2 _ _ t229 _ _ t233 true _ ?side1 ?side2 ?side3 ?side4 A19.out).mono ?_); (case side1 => repeat (first | exact (Kd.R_reads' HO232.out).2.2 | (with_reducible refine Kd.C_alloc ?_ _) | (with_reducible refine Kd.C_drewN ?_ _) | (with_reducible refine Kd.C_drew ?_))); (case side2 => exact (Kd.R_reads' HO232.out).2.1); (case side3 => repeat (first | exact (Kd.R_reads' HO236.out).2.2 | (with_reducible refine Kd.C_alloc ?_ _) | (with_reducible refine Kd.C_drewN ?_ _) | (with_reducible refine Kd.C_drew ?_))); (case side4 => exact (Kd.R_reads' HO236.out).2.1); rintro e w' ⟨rfl, ⟨nd, rfl⟩⟩; obtain ⟨Ao33, co33, eo33⟩ := Kd.R_slice HO240.out; subst eo33; obtain ⟨Ao34, co34, eo34⟩ := Kd.R_slice HO244.out; subst eo34) | (go_at_call 16; (with_reducible refine (emenderlaw23_ranges.calls kj2 _ _ t237 _ _ t241 true _ ?side1 ?side2 ?side3 ?side4 A22.out).mono ?_); (case side1 => repeat (first | exact (Kd.R_reads' HO240.out).2.2 | (with_reducible refine Kd.C_alloc ?_ _) | (with_reducible refine Kd.C_drewN ?_ _) | (with_reducible refine Kd.C_drew ?_))); (case side2 => exact (Kd.R_reads' HO240.out).2.1); (case side3 => repeat (first | exact (Kd.R_reads' HO244.out).2.2 | (with_reducible refine Kd.C_alloc ?_ _) | (with_reducible refine Kd.C_drewN ?_ _) | (with_reducible refine Kd.C_drew ?_))); (case side4 => exact (Kd.R_reads' HO244.out).2.1); rintro e w' ⟨rfl, ⟨nd, rfl⟩⟩) | (go_at_call 8; (with_reducible refine (emenderlaw23_awake.calls kj2  t247 _ A25.out).mono ?_); rintro e w35 ⟨rfl, hb⟩; have n0_ := Aside0.mk (Kd.R_below (by (with_reducible repeat (first | apply Kd.R_alloc | apply Kd.R_drewN | apply Kd.R_drew)); exact HO232.out) hb); have n1_ := Aside0.mk (Kd.R_below (by (with_reducible repeat (first | apply Kd.R_alloc | apply Kd.R_drewN | apply Kd.R_drew)); exact HO236.out) hb); have n2_ := Aside0.mk (Kd.R_below (by (with_reducible repeat (first | apply Kd.R_alloc | apply Kd.R_drewN | apply Kd.R_drew)); exact HO240.out) hb); have n3_ := Aside0.mk (Kd.R_below (by (with_reducible repeat (first | apply Kd.R_alloc | apply Kd.R_drewN | apply Kd.R_drew)); exact HO244.out) hb); have n4_ := Aside0.mk (below_step (by repeat (first | (with_reducible first | exact HB.out | apply below_alloc | apply pw_below_drewN | apply below_drew1) | exact HB.out)) hb); clear HO232; clear HO236; clear HO240; clear HO244; clear HB; have HO232 := n0_; have HO236 := n1_; have HO240 := n2_; have HO244 := n3_; have HB := n4_; clear n0_ n1_ n2_ n3_ n4_; (try clear hb); (try clear hb2); (try clear hk); (try clear hi)))
                    go_ret
                    exact ⟨by first | rfl | (simp [errW_none, errW_some] <;> rfl) | (simp [*, errW_none, errW_some] <;> rfl), by repeat (first | (with_reducible first | exact HB.out | apply below_alloc | apply pw_below_drewN | apply below_drew1) | exact HB.out)⟩
                  · rw [if_neg c24] at H
                    exact absurd H (by simp)
                · replace c23 := Bool.eq_false_iff.mpr c23
                  subst c23
                  have H1 : (none) = some r := by rw [if_neg (show ¬ (false = true) by decide)] at H; exact H
                  clear H
                  have H := H1
                  clear H1
                  exact absurd H (by simp)
              · rw [if_neg c21] at H
                exact absurd H (by simp)
            · replace c20 := Bool.eq_false_iff.mpr c20
              subst c20
              have H1 : (none) = some r := by rw [if_neg (show ¬ (false = true) by decide)] at H; exact H
              clear H
              have H := H1
              clear H1
              exact absurd H (by simp)
          · rw [if_neg c18] at H
            exact absurd H (by simp)
        · rw [if_neg c17] at H
          exact absurd H (by simp)

end Go.Proofs.Ytjpmlggkhhoooaa.PDp
