-- Written for this claim by a program (printed texts under one roof).
import Derived.Test.YtfnafjohfmlniaaDoorPCsx0
import Derived.Test.YtfnafjohfmlniaaDoorPCsy4
import Derived.Test.YtfnafjohfmlniaaDoorPCsy1
import Derived.Test.YtfnafjohfmlniaaDoorPCsy0
import Derived.Test.YtfnafjohfmlniaaDoorPCsy2
-- Written for this claim by a program (the kit's print, with hand-made contracts for what it does not take).
namespace Go.Proofs.YtfnafjohfmlniaaDoor.PCs
open Go.RowKit Go.Proofs.YtfnafjohfmlniaaDoorW.PrintWords Go.Proofs.YtfnafjohfmlniaaDoorW.PrintLast Go.Proofs.YtfnafjohfmlniaaDoorW.PrintMore
attribute [local go_sem] max2_int min2_int max_two min_two max_three min_three max_four min_four   -- for this text's walks alone
set_option linter.unusedVariables false
set_option linter.unusedSimpArgs false

/-! ### emenderref14_Points: function 36 -/
def emenderref14_Points.l0 : Nat → ByteArray → List Int → Int → Option (List Int × Int × Bool)
  | 0, _, _, _ => none
  | k + 1, x0, x5, x6 => if x6 < (x0.size : Int) then ((emenderref14_Point.f k x0 x6).bind fun bt111 => (if bt111.2 = 0 then (some (([] : List Int), x6, false)) else (if bt111.1 = 10 then (some (([] : List Int), x6, false)) else (if x5.length < 17592186044416 then (emenderref14_Points.l0 k x0 (x5 ++ [bt111.1]) (wrap64 (x6 + bt111.2))) else (none))))) else (some (x5, (x0.size : Int), true))
def emenderref14_Points.f (k : Nat) (a0 : ByteArray) : Option (List Int × Int × Bool) := emenderref14_Points.l0 k a0 ([] : List Int) 0
theorem emenderref14_Points.mono_l : ∀ k, (∀ y0 y1 y2, LeO (emenderref14_Points.l0 k y0 y1 y2) (emenderref14_Points.l0 (k + 1) y0 y1 y2))
  | 0 => fun _ _ _ r h => by simp [emenderref14_Points.l0] at h
  | k + 1 => by
    have ih0 := emenderref14_Points.mono_l k
    · intro y0 y1 y2
      unfold emenderref14_Points.l0
      repeat' first
      | (with_reducible exact ih0 _ _ _)
      | (with_reducible exact emenderref14_Point.mono _ _ _)
      | (with_reducible exact LeO.refl _)
      | (with_reducible exact LeO.none _)
      | (with_reducible refine LeO.ite ?_ ?_)
      | (with_reducible refine LeO.bind ?_ (fun _ => ?_))
      | exact ih0 _ _ _
      | exact emenderref14_Point.mono _ _ _
      | exact LeO.none _
      | refine LeO.ite ?_ ?_
      | refine LeO.bind ?_ (fun _ => ?_)
theorem emenderref14_Points.mono : ∀ a0 k, LeO (emenderref14_Points.f k a0) (emenderref14_Points.f (k + 1) a0) := by
  intro a0 k
  have ih0 := emenderref14_Points.mono_l k
  unfold emenderref14_Points.f
  repeat' first
      | (with_reducible exact ih0 _ _ _)
      | (with_reducible exact emenderref14_Point.mono _ _ _)
      | (with_reducible exact LeO.refl _)
      | (with_reducible exact LeO.none _)
      | (with_reducible refine LeO.ite ?_ ?_)
      | (with_reducible refine LeO.bind ?_ (fun _ => ?_))
      | exact ih0 _ _ _
      | exact emenderref14_Point.mono _ _ _
      | exact LeO.none _
      | refine LeO.ite ?_ ?_
      | refine LeO.bind ?_ (fun _ => ?_)
set_option maxHeartbeats 8000000 in
set_option maxRecDepth 100000 in
theorem emenderref14_Points.calls (k : Nat) (a0 : ByteArray) (r1 : List Int) (r2 : Int) (r3 : Bool) (w : World) (h : emenderref14_Points.f k a0 = some (r1, r2, r3)) :
    Calls Tryd.prog 36 #[.string a0] w fun e w' => ∃ v0_ : Value, e = .returned (.tuple #[v0_, .int .i64 r2, .bool r3]) ∧ Kd.R (Kd.int .i64) 3 w' w.heap.size (fun _ => True) v0_ r1 ∧ Below w.heap.size w w' := by
  have HB := Aside0.mk (Below.refl w.heap.size w)
  have H : (emenderref14_Points.l0 k a0 ([] : List Int) 0) = some (r1, r2, r3) := h
  clear h
  have H' := Aside0.mk H
  clear H
  go_enter Tryd.func36, Tryd.ntmps36
  go_wp2
  go_loopg [5, 6] k (fun kq v5 v6 w' => ∃ (x5_1 : List Int) (x6_1 : Int), v6 = .int .i64 x6_1 ∧ Aside0 (emenderref14_Points.l0 kq a0 x5_1 x6_1 = some (r1, r2, r3)) ∧ Aside0 (kq ≤ k) ∧ Aside0 (Kd.R (Kd.int .i64) 3 w' w.heap.size (fun _ => True) v5 x5_1) ∧ Aside0 (Below w.heap.size w w'))
  case atStart => exact ⟨(([] : List Int)), (0), (by first | rfl | (simp; done) | (simp [*]; done)), H', ⟨Nat.le_refl _⟩, ⟨by first | exact Kd.R_nil _ _ _ _ _ | exact Kd.N_nil _ _ _ _ _ | exact Kd.V_nil _ _ _ _ _ | exact Kd.Q_nil _ _ _ _ _ | exact Kd.S_nil _ _ _ _ _⟩, ⟨by repeat (first | (with_reducible first | exact HB.out | apply below_alloc | apply pw_below_drewN | apply below_drew1) | exact HB.out)⟩⟩
  case round =>
    clear H'
    obtain ⟨x5_1, x6_1, rfl, HA, HK1, HO_5, HB⟩ := hrel
    cases gk with
    | zero => exact absurd HA.out (by simp [emenderref14_Points.l0])
    | succ k1 =>
      have H := HA.out
      clear HA
      simp only [emenderref14_Points.l0] at H
      by_cases c2 : x6_1 < (a0.size : Int)
      · rw [if_pos c2] at H
        have c2b0 : decide (x6_1 < (a0.size : Int)) = true := decide_eq_true c2
        clear c2
        replace H := Option.bind_eq_some_iff.mp H
        obtain ⟨⟨t111, t112⟩, A30, H⟩ := H
        replace H : (if t112 = 0 then (some (([] : List Int), x6_1, false)) else (if t111 = 10 then (some (([] : List Int), x6_1, false)) else (if x5_1.length < 17592186044416 then (emenderref14_Points.l0 k1 a0 (x5_1 ++ [t111]) (wrap64 (x6_1 + t112))) else (none)))) = some (r1, r2, r3) := H
        have A3 := Aside0.mk A30
        clear A30
        by_cases c4 : t112 = 0
        · rw [if_pos c4] at H
          have c4b0 : (t112 == 0) = true := beq_iff_eq.mpr c4
          have c4b1 : (t112 != 0) = false := bne_eq_false_iff_eq.mpr c4
          clear c4
          simp only [Option.some.injEq, Prod.mk.injEq] at H
          obtain ⟨rfl, rfl, rfl⟩ := H
          go_wp2_with (first | ((with_reducible refine gate_callee (f := 51) rfl ?_); refine goesL_ (some 16) rfl rfl Tryd.func51 (by kernel_rfl) rfl #[.string a0, .int .i64 x6_1] rfl (by (try simp only [List.map_toArray, List.map_cons, List.map_nil]); first | done | rfl | (simp only [List.length_drop, List.length_take]; rfl)) ?_; (with_reducible refine (emenderref14_Point.calls k1 a0 x6_1 t111 t112 _ A3.out).mono ?_); rintro e w' ⟨rfl, ⟨nd, rfl⟩⟩; refine ⟨_, rfl, ?_⟩))
          go_ret3
          exact ⟨_, by first | rfl | (simp [errW_none, errW_some] <;> rfl) | (simp [*, errW_none, errW_some] <;> rfl), by first | exact Kd.R_nil _ _ _ _ _ | exact Kd.N_nil _ _ _ _ _ | exact Kd.V_nil _ _ _ _ _ | exact Kd.Q_nil _ _ _ _ _ | exact Kd.S_nil _ _ _ _ _, by repeat (first | (with_reducible first | exact HB.out | apply below_alloc | apply pw_below_drewN | apply below_drew1) | exact HB.out)⟩
        · rw [if_neg c4] at H
          have c4b0 : (t112 == 0) = false := beq_eq_false_iff_ne.mpr c4
          have c4b1 : (t112 != 0) = true := bne_iff_ne.mpr c4
          by_cases c5 : t111 = 10
          · rw [if_pos c5] at H
            have c5b0 : (t111 == 10) = true := beq_iff_eq.mpr c5
            have c5b1 : (t111 != 10) = false := bne_eq_false_iff_eq.mpr c5
            clear c5
            simp only [Option.some.injEq, Prod.mk.injEq] at H
            obtain ⟨rfl, rfl, rfl⟩ := H
            go_wp2_with (first | ((with_reducible refine gate_callee (f := 51) rfl ?_); refine goesL_ (some 16) rfl rfl Tryd.func51 (by kernel_rfl) rfl #[.string a0, .int .i64 x6_1] rfl (by (try simp only [List.map_toArray, List.map_cons, List.map_nil]); first | done | rfl | (simp only [List.length_drop, List.length_take]; rfl)) ?_; (with_reducible refine (emenderref14_Point.calls k1 a0 x6_1 t111 t112 _ A3.out).mono ?_); rintro e w' ⟨rfl, ⟨nd, rfl⟩⟩; refine ⟨_, rfl, ?_⟩))
            go_ret3
            exact ⟨_, by first | rfl | (simp [errW_none, errW_some] <;> rfl) | (simp [*, errW_none, errW_some] <;> rfl), by first | exact Kd.R_nil _ _ _ _ _ | exact Kd.N_nil _ _ _ _ _ | exact Kd.V_nil _ _ _ _ _ | exact Kd.Q_nil _ _ _ _ _ | exact Kd.S_nil _ _ _ _ _, by repeat (first | (with_reducible first | exact HB.out | apply below_alloc | apply pw_below_drewN | apply below_drew1) | exact HB.out)⟩
          · rw [if_neg c5] at H
            have c5b0 : (t111 == 10) = false := beq_eq_false_iff_ne.mpr c5
            have c5b1 : (t111 != 10) = true := bne_iff_ne.mpr c5
            by_cases c6 : x5_1.length < 17592186044416
            · rw [if_pos c6] at H
              have LMc6 := Aside0.mk c6
              clear c6
              obtain ⟨y113, hy113⟩ : ∃ y_ : List Int, y_ = (x5_1 ++ [t111]) := ⟨_, rfl⟩
              replace H : (emenderref14_Points.l0 k1 a0 y113 (wrap64 (x6_1 + t112))) = some (r1, r2, r3) := by first | (rw [hy113]; with_reducible exact H) | (have H2_ := (Option.bind_some _ _).symm.trans H; rw [hy113]; with_reducible exact H2_) | (have H2_ := (Option.bind_some _ _).symm.trans H; with_reducible exact H2_) | with_reducible exact H | (rw [hy113]; exact H) | exact H
              have Ny113 := Aside0.mk hy113
              clear hy113
              have H' := Aside0.mk H
              clear H
              go_wp2_with (first | ((with_reducible refine gate_callee (f := 51) rfl ?_); refine goesL_ (some 16) rfl rfl Tryd.func51 (by kernel_rfl) rfl #[.string a0, .int .i64 x6_1] rfl (by (try simp only [List.map_toArray, List.map_cons, List.map_nil]); first | done | rfl | (simp only [List.length_drop, List.length_take]; rfl)) ?_; (with_reducible refine (emenderref14_Point.calls k1 a0 x6_1 t111 t112 _ A3.out).mono ?_); rintro e w' ⟨rfl, ⟨nd, rfl⟩⟩; refine ⟨_, rfl, ?_⟩) | ((with_reducible refine gate_builtin (b := .append) (xs := #[.tmp 26, .tmp 28]) rfl ?_); at_builtin; refine Kd.R_append (Kd.int .i64) (w0 := w) w.heap.size rfl (.tmp 26) (.tmp 28) 58 3 (.int .i64 0) 8 rfl Tryd.underlying58 info3 rfl (by decide) (by omega) u5 x5_1 t111 [.int .i64 t111] (fun _ => True) (fun _ => False) rfl rfl ?aP (fun _ hk => hk.elim) ?aF ?aO ?aB ?aS ?aL ?_; (case aP => exact rfl); (case aB => exact (by repeat (first | (with_reducible first | exact HB.out | apply below_alloc | apply pw_below_drewN | apply below_drew1) | exact HB.out))); (case aF => exact (fun _ _ => trivial)); (case aO => exact (by (with_reducible repeat (first | apply Kd.R_alloc | apply Kd.R_drewN | apply Kd.R_drew)); exact HO_5.out)); (case aS => exact (below_size (by repeat (first | (with_reducible first | exact HB.out | apply below_alloc | apply pw_below_drewN | apply below_drew1) | exact HB.out)))); (case aL => have := LMc6.out; omega); intro v114 w7 ho hb hg hat; rw [← Ny113.out] at ho; have n0_ := Aside0.mk (hb); have n1_ := Aside0.mk (ho); clear HB; clear HO_5; have HB := n0_; have HO115 := n1_; clear n0_ n1_; clear ho hb hg hat))
              go_roundg k1
              case measure => have := HK1.out; omega
              case rel => exact ⟨(y113), (wrap64 (x6_1 + t112)), (by first | rfl | (simp; done) | (simp [*]; done)), H', ⟨by have := HK1.out; omega⟩, ⟨by (with_reducible repeat (first | apply Kd.R_alloc | apply Kd.R_drewN | apply Kd.R_drew)); exact HO115.out⟩, ⟨by repeat (first | (with_reducible first | exact HB.out | apply below_alloc | apply pw_below_drewN | apply below_drew1) | exact HB.out)⟩⟩
            · rw [if_neg c6] at H
              exact absurd H (by simp)
      · rw [if_neg c2] at H
        have c2b0 : decide (x6_1 < (a0.size : Int)) = false := decide_eq_false c2
        clear c2
        simp only [Option.some.injEq, Prod.mk.injEq] at H
        obtain ⟨rfl, rfl, rfl⟩ := H
        go_wp2
        go_ret3
        exact ⟨_, by first | rfl | (simp [errW_none, errW_some] <;> rfl) | (simp [*, errW_none, errW_some] <;> rfl), by (with_reducible repeat (first | apply Kd.R_alloc | apply Kd.R_drewN | apply Kd.R_drew)); exact HO_5.out, by repeat (first | (with_reducible first | exact HB.out | apply below_alloc | apply pw_below_drewN | apply below_drew1) | exact HB.out)⟩

/-! ### emenderref28_read: function 20 -/
def emenderref28_read.f (k : Nat) (a0 : ByteArray) : Option (List Int × Int × Int) := if (a0.size : Int) > 4000 then (some (([] : List Int), 0, 2)) else ((emenderref14_Points.f k a0).bind fun bt116 => (if bt116.2.2 = true then (some (bt116.1, (a0.size : Int), 0)) else (some (([] : List Int), bt116.2.1, 4))))
theorem emenderref28_read.mono : ∀ a0 k, LeO (emenderref28_read.f k a0) (emenderref28_read.f (k + 1) a0) := by
  intro a0 k
  unfold emenderref28_read.f
  repeat' first
      | (with_reducible exact emenderref14_Points.mono _ _)
      | (with_reducible exact LeO.refl _)
      | (with_reducible exact LeO.none _)
      | (with_reducible refine LeO.ite ?_ ?_)
      | (with_reducible refine LeO.bind ?_ (fun _ => ?_))
      | exact emenderref14_Points.mono _ _
      | exact LeO.none _
      | refine LeO.ite ?_ ?_
      | refine LeO.bind ?_ (fun _ => ?_)
set_option maxHeartbeats 8000000 in
set_option maxRecDepth 100000 in
theorem emenderref28_read.calls (k : Nat) (a0 : ByteArray) (r1 : List Int) (r2 : Int) (r3 : Int) (w : World) (h : emenderref28_read.f k a0 = some (r1, r2, r3)) :
    Calls Tryd.prog 20 #[.string a0] w fun e w' => ∃ v0_ : Value, e = .returned (.tuple #[v0_, .int .i64 r2, .int .i64 r3]) ∧ Kd.R (Kd.int .i64) 3 w' w.heap.size (fun _ => True) v0_ r1 ∧ Below w.heap.size w w' := by
  have HB := Aside0.mk (Below.refl w.heap.size w)
  have H : (if (a0.size : Int) > 4000 then (some (([] : List Int), 0, 2)) else ((emenderref14_Points.f k a0).bind fun bt116 => (if bt116.2.2 = true then (some (bt116.1, (a0.size : Int), 0)) else (some (([] : List Int), bt116.2.1, 4))))) = some (r1, r2, r3) := h
  clear h
  by_cases c2 : (a0.size : Int) > 4000
  · rw [if_pos c2] at H
    have c2b0 : decide (4000 < (a0.size : Int)) = true := decide_eq_true c2
    have c2b1 : decide (4000 < a0.size) = true := decide_eq_true (by omega)
    clear c2
    simp only [Option.some.injEq, Prod.mk.injEq] at H
    obtain ⟨rfl, rfl, rfl⟩ := H
    go_enter Tryd.func20, Tryd.ntmps20
    go_wp2
    go_ret3
    exact ⟨_, by first | rfl | (simp [errW_none, errW_some] <;> rfl) | (simp [*, errW_none, errW_some] <;> rfl), by first | exact Kd.R_nil _ _ _ _ _ | exact Kd.N_nil _ _ _ _ _ | exact Kd.V_nil _ _ _ _ _ | exact Kd.Q_nil _ _ _ _ _ | exact Kd.S_nil _ _ _ _ _, by repeat (first | (with_reducible first | exact HB.out | apply below_alloc | apply pw_below_drewN | apply below_drew1) | exact HB.out)⟩
  · rw [if_neg c2] at H
    have c2b0 : decide (4000 < (a0.size : Int)) = false := decide_eq_false c2
    have c2b1 : decide (4000 < a0.size) = false := decide_eq_false (by omega)
    clear c2
    replace H := Option.bind_eq_some_iff.mp H
    obtain ⟨⟨t116, t117, t118⟩, A30, H⟩ := H
    replace H : (if t118 = true then (some (t116, (a0.size : Int), 0)) else (some (([] : List Int), t117, 4))) = some (r1, r2, r3) := H
    have A3 := Aside0.mk A30
    clear A30
    by_cases c4 : t118 = true
    · subst c4
      have H1 : (some (t116, (a0.size : Int), 0)) = some (r1, r2, r3) := by rw [if_pos rfl] at H; exact H
      clear H
      have H := H1
      clear H1
      simp only [Option.some.injEq, Prod.mk.injEq] at H
      obtain ⟨rfl, rfl, rfl⟩ := H
      go_enter Tryd.func20, Tryd.ntmps20
      go_wp2_with (first | ((with_reducible refine gate_callee (f := 36) rfl ?_); refine goesL_ (some 13) rfl rfl Tryd.func36 (by kernel_rfl) rfl #[.string a0] rfl (by (try simp only [List.map_toArray, List.map_cons, List.map_nil]); first | done | rfl | (simp only [List.length_drop, List.length_take]; rfl)) ?_; (with_reducible refine (emenderref14_Points.calls k a0 t116 t117 true _ A3.out).mono ?_); rintro e w5 ⟨v119, rfl, ho0, hb⟩; refine ⟨_, rfl, ?_⟩; have n0_ := Aside0.mk (Kd.R_lower ho0 (below_size (by repeat (first | (with_reducible first | exact HB.out | apply below_alloc | apply pw_below_drewN | apply below_drew1) | exact HB.out)))); have n1_ := Aside0.mk (below_step (by repeat (first | (with_reducible first | exact HB.out | apply below_alloc | apply pw_below_drewN | apply below_drew1) | exact HB.out)) hb); clear HB; have HO120 := n0_; have HB := n1_; clear n0_ n1_; (try clear hb); (try clear hb2); (try clear hk); (try clear hi); (try clear ho0)))
      go_ret3
      exact ⟨_, by first | rfl | (simp [errW_none, errW_some] <;> rfl) | (simp [*, errW_none, errW_some] <;> rfl), by (with_reducible repeat (first | apply Kd.R_alloc | apply Kd.R_drewN | apply Kd.R_drew)); exact HO120.out, by repeat (first | (with_reducible first | exact HB.out | apply below_alloc | apply pw_below_drewN | apply below_drew1) | exact HB.out)⟩
    · replace c4 := Bool.eq_false_iff.mpr c4
      subst c4
      have H1 : (some (([] : List Int), t117, 4)) = some (r1, r2, r3) := by rw [if_neg (show ¬ (false = true) by decide)] at H; exact H
      clear H
      have H := H1
      clear H1
      simp only [Option.some.injEq, Prod.mk.injEq] at H
      obtain ⟨rfl, rfl, rfl⟩ := H
      go_enter Tryd.func20, Tryd.ntmps20
      go_wp2_with (first | ((with_reducible refine gate_callee (f := 36) rfl ?_); refine goesL_ (some 13) rfl rfl Tryd.func36 (by kernel_rfl) rfl #[.string a0] rfl (by (try simp only [List.map_toArray, List.map_cons, List.map_nil]); first | done | rfl | (simp only [List.length_drop, List.length_take]; rfl)) ?_; (with_reducible refine (emenderref14_Points.calls k a0 t116 t117 false _ A3.out).mono ?_); rintro e w6 ⟨v119, rfl, ho0, hb⟩; refine ⟨_, rfl, ?_⟩; have n0_ := Aside0.mk (Kd.R_lower ho0 (below_size (by repeat (first | (with_reducible first | exact HB.out | apply below_alloc | apply pw_below_drewN | apply below_drew1) | exact HB.out)))); have n1_ := Aside0.mk (below_step (by repeat (first | (with_reducible first | exact HB.out | apply below_alloc | apply pw_below_drewN | apply below_drew1) | exact HB.out)) hb); clear HB; have HO120 := n0_; have HB := n1_; clear n0_ n1_; (try clear hb); (try clear hb2); (try clear hk); (try clear hi); (try clear ho0)))
      go_ret3
      exact ⟨_, by first | rfl | (simp [errW_none, errW_some] <;> rfl) | (simp [*, errW_none, errW_some] <;> rfl), by first | exact Kd.R_nil _ _ _ _ _ | exact Kd.N_nil _ _ _ _ _ | exact Kd.V_nil _ _ _ _ _ | exact Kd.Q_nil _ _ _ _ _ | exact Kd.S_nil _ _ _ _ _, by repeat (first | (with_reducible first | exact HB.out | apply below_alloc | apply pw_below_drewN | apply below_drew1) | exact HB.out)⟩

/-! ### emenderref28_row: function 39 -/
def emenderref28_row.l0 : Nat → List Int → Int → Int → Option (Int)
  | 0, _, _, _ => none
  | k + 1, x0, x1, x5 => if (wrap64 (x1 + x5)) < (x0.length : Int) then (if 0 ≤ (wrap64 (x1 + x5)) then (if 0 ≤ x1 then (if x1 < (x0.length : Int) then (if (rd x0 (wrap64 (x1 + x5))) = (rd x0 x1) then (emenderref28_row.l0 k x0 x1 (wrap64 (x5 + 1))) else (some x5)) else (none)) else (none)) else (none)) else (some x5)
def emenderref28_row.f (k : Nat) (l0 : List Int) (a1 : Int) : Option (Int) := emenderref28_row.l0 k l0 a1 0
theorem emenderref28_row.mono_l : ∀ k, (∀ y0 y1 y2, LeO (emenderref28_row.l0 k y0 y1 y2) (emenderref28_row.l0 (k + 1) y0 y1 y2))
  | 0 => fun _ _ _ r h => by simp [emenderref28_row.l0] at h
  | k + 1 => by
    have ih0 := emenderref28_row.mono_l k
    · intro y0 y1 y2
      unfold emenderref28_row.l0
      repeat' first
      | (with_reducible exact ih0 _ _ _)
      | (with_reducible exact LeO.refl _)
      | (with_reducible exact LeO.none _)
      | (with_reducible refine LeO.ite ?_ ?_)
      | (with_reducible refine LeO.bind ?_ (fun _ => ?_))
      | exact ih0 _ _ _
      | exact LeO.none _
      | refine LeO.ite ?_ ?_
      | refine LeO.bind ?_ (fun _ => ?_)
theorem emenderref28_row.mono : ∀ a0 a1 k, LeO (emenderref28_row.f k a0 a1) (emenderref28_row.f (k + 1) a0 a1) := by
  intro a0 a1 k
  have ih0 := emenderref28_row.mono_l k
  unfold emenderref28_row.f
  repeat' first
      | (with_reducible exact ih0 _ _ _)
      | (with_reducible exact LeO.refl _)
      | (with_reducible exact LeO.none _)
      | (with_reducible refine LeO.ite ?_ ?_)
      | (with_reducible refine LeO.bind ?_ (fun _ => ?_))
      | exact ih0 _ _ _
      | exact LeO.none _
      | refine LeO.ite ?_ ?_
      | refine LeO.bind ?_ (fun _ => ?_)
set_option maxHeartbeats 8000000 in
set_option maxRecDepth 100000 in
theorem emenderref28_row.calls (k : Nat) (A0 : Option Addr) (c0 : Nat) (l0 : List Int) (a1 : Int) (r : Int) (w : World) (hr0 : Kd.C (Kd.int .i64) w A0 l0.length l0) (hc0 : l0.length ≤ c0) (h : emenderref28_row.f k l0 a1 = some r) :
    Calls Tryd.prog 39 #[.slice A0 l0.length c0, .int .i64 a1] w fun e w' => e = .returned (.int .i64 r) ∧ Drawn0 w w' := by
  have HR0 := Aside0.mk hr0
  have HC0 := Aside0.mk hc0
  clear hr0 hc0
  have H : (emenderref28_row.l0 k l0 a1 0) = some r := h
  clear h
  have H' := Aside0.mk H
  clear H
  go_enter Tryd.func39, Tryd.ntmps39
  go_wp2
  repeat (go_quiet (fail); try go_wp2)
  go_loopg [5] k (fun kq v5 w' => ∃ (x5_1 : Int), v5 = .int .i64 x5_1 ∧ Aside0 (emenderref28_row.l0 kq l0 a1 x5_1 = some r) ∧ Aside0 (kq ≤ k) ∧ Drawn0 w w')
  case atStart => exact ⟨(0), (by first | rfl | (simp; done) | (simp [*]; done)), H', ⟨Nat.le_refl _⟩, by repeat (first | exact Drawn0.refl _ | apply Drawn0.step)⟩
  case round =>
    clear H'
    try clear p2
    obtain ⟨x5_1, rfl, HA, HK1, ⟨m1, rfl⟩⟩ := hrel
    cases gk with
    | zero => exact absurd HA.out (by simp [emenderref28_row.l0])
    | succ k1 =>
      have H := HA.out
      clear HA
      simp only [emenderref28_row.l0] at H
      by_cases c3 : (wrap64 (a1 + x5_1)) < (l0.length : Int)
      · rw [if_pos c3] at H
        have c3b0 : decide ((wrap64 (a1 + x5_1)) < (l0.length : Int)) = true := decide_eq_true c3
        clear c3
        obtain ⟨ji4, hji4⟩ : ∃ j_ : Int, (wrap64 (a1 + x5_1)) = j_ := ⟨_, rfl⟩
        replace H : (if 0 ≤ (ji4) then (if 0 ≤ a1 then (if a1 < (l0.length : Int) then (if (rd l0 (ji4)) = (rd l0 a1) then (emenderref28_row.l0 k1 l0 a1 (wrap64 (x5_1 + 1))) else (some x5_1)) else (none)) else (none)) else (none)) = some r := by first | (rw [hji4] at H; exact H) | (simp only [hji4] at H ⊢; exact H)
        (try rw [hji4] at c3b0)
        have hji4w : (IntKind.i64.wrap (a1 + x5_1)) = ji4 := (i64_w _).trans hji4
        by_cases c5 : 0 ≤ (ji4)
        · rw [if_pos c5] at H
          have c5b0 : decide (0 ≤ (ji4)) = true := decide_eq_true c5
          clear c5
          by_cases c6 : 0 ≤ a1
          · rw [if_pos c6] at H
            have c6b0 : decide (0 ≤ a1) = true := decide_eq_true c6
            clear c6
            by_cases c7 : a1 < (l0.length : Int)
            · rw [if_pos c7] at H
              have c7b0 : decide (a1 < (l0.length : Int)) = true := decide_eq_true c7
              clear c7
              by_cases c8 : (rd l0 (ji4)) = (rd l0 a1)
              · rw [if_pos c8] at H
                have c8b0 : ((rd l0 (ji4)) == (rd l0 a1)) = true := beq_iff_eq.mpr c8
                have c8b1 : ((rd l0 (ji4)) != (rd l0 a1)) = false := bne_eq_false_iff_eq.mpr c8
                clear c8
                have H' := Aside0.mk H
                clear H
                have p121 : 0 ≤ ((ji4) : Int) := of_decide_eq_true (by first | (with_reducible assumption) | assumption)
                have q121 : (ji4) < (l0.length : Int) := of_decide_eq_true (by first | (with_reducible assumption) | assumption)
                obtain ⟨ad121, e121, hx121_0⟩ := Kd.at_int HR0.out (ji4) p121 q121
                cases e121
                replace p121 := eq_true p121
                replace q121 := eq_true q121
                have p122 : 0 ≤ (a1 : Int) := of_decide_eq_true (by first | (with_reducible assumption) | assumption)
                have q122 : a1 < (l0.length : Int) := of_decide_eq_true (by first | (with_reducible assumption) | assumption)
                obtain ⟨ad122, e122, hx122_0⟩ := Kd.at_int HR0.out a1 p122 q122
                obtain rfl : ad121 = ad122 := (by injection e122)
                replace p122 := eq_true p122
                replace q122 := eq_true q122
                go_wp2
                repeat (go_quiet (fail); try go_wp2)
                go_roundg k1
                case measure => have := HK1.out; omega
                case rel => exact ⟨(wrap64 (x5_1 + 1)), (by first | rfl | (simp; done) | (simp [*]; done)), H', ⟨by have := HK1.out; omega⟩, by repeat (first | exact Drawn0.refl _ | apply Drawn0.step)⟩
              · rw [if_neg c8] at H
                have c8b0 : ((rd l0 (ji4)) == (rd l0 a1)) = false := beq_eq_false_iff_ne.mpr c8
                have c8b1 : ((rd l0 (ji4)) != (rd l0 a1)) = true := bne_iff_ne.mpr c8
                obtain rfl := Option.some.inj H
                have p121 : 0 ≤ ((ji4) : Int) := of_decide_eq_true (by first | (with_reducible assumption) | assumption)
                have q121 : (ji4) < (l0.length : Int) := of_decide_eq_true (by first | (with_reducible assumption) | assumption)
                obtain ⟨ad121, e121, hx121_0⟩ := Kd.at_int HR0.out (ji4) p121 q121
                cases e121
                replace p121 := eq_true p121
                replace q121 := eq_true q121
                have p122 : 0 ≤ (a1 : Int) := of_decide_eq_true (by first | (with_reducible assumption) | assumption)
                have q122 : a1 < (l0.length : Int) := of_decide_eq_true (by first | (with_reducible assumption) | assumption)
                obtain ⟨ad122, e122, hx122_0⟩ := Kd.at_int HR0.out a1 p122 q122
                obtain rfl : ad121 = ad122 := (by injection e122)
                replace p122 := eq_true p122
                replace q122 := eq_true q122
                go_wp2
                repeat (go_quiet (fail); try go_wp2)
                go_ret
                exact ⟨by first | rfl | (simp; done) | (simp only [← hji4] <;> (first | rfl | simp)) | (simp [*]; done), by repeat (first | exact Drawn0.refl _ | apply Drawn0.step)⟩
            · rw [if_neg c7] at H
              exact absurd H (by simp)
          · rw [if_neg c6] at H
            exact absurd H (by simp)
        · rw [if_neg c5] at H
          exact absurd H (by simp)
      · rw [if_neg c3] at H
        have c3b0 : decide ((wrap64 (a1 + x5_1)) < (l0.length : Int)) = false := decide_eq_false c3
        clear c3
        obtain rfl := Option.some.inj H
        go_wp2
        repeat (go_quiet (fail); try go_wp2)
        go_ret
        exact ⟨by first | rfl | (simp; done) | (simp [*]; done), by repeat (first | exact Drawn0.refl _ | apply Drawn0.step)⟩

end Go.Proofs.YtfnafjohfmlniaaDoor.PCs
-- Written for this claim by a program (the kit's print, with hand-made contracts for what it does not take).
namespace Go.Proofs.YtfnafjohfmlniaaDoor.PCs
open Go.RowKit Go.Proofs.YtfnafjohfmlniaaDoorW.PrintWords Go.Proofs.YtfnafjohfmlniaaDoorW.PrintLast Go.Proofs.YtfnafjohfmlniaaDoorW.PrintMore
attribute [local go_sem] max2_int min2_int max_two min_two max_three min_three max_four min_four   -- for this text's walks alone
set_option linter.unusedVariables false
set_option linter.unusedSimpArgs false

/-! ### emenderref28_sign: function 40 -/
def emenderref28_sign.f (a0 : Int) : Option (Bool) := if a0 ≥ 33 then (if a0 ≤ 47 then (some true) else (if a0 ≥ 58 then (if a0 ≤ 64 then (some true) else (if a0 ≥ 91 then (if a0 ≤ 96 then (some true) else (if a0 ≥ 123 then (some (decide (a0 ≤ 126))) else (some false))) else (if a0 ≥ 123 then (some (decide (a0 ≤ 126))) else (some false)))) else (if a0 ≥ 91 then (if a0 ≤ 96 then (some true) else (if a0 ≥ 123 then (some (decide (a0 ≤ 126))) else (some false))) else (if a0 ≥ 123 then (some (decide (a0 ≤ 126))) else (some false))))) else (if a0 ≥ 58 then (if a0 ≤ 64 then (some true) else (if a0 ≥ 91 then (if a0 ≤ 96 then (some true) else (if a0 ≥ 123 then (some (decide (a0 ≤ 126))) else (some false))) else (if a0 ≥ 123 then (some (decide (a0 ≤ 126))) else (some false)))) else (if a0 ≥ 91 then (if a0 ≤ 96 then (some true) else (if a0 ≥ 123 then (some (decide (a0 ≤ 126))) else (some false))) else (if a0 ≥ 123 then (some (decide (a0 ≤ 126))) else (some false))))
set_option maxHeartbeats 8000000 in
set_option maxRecDepth 100000 in
theorem emenderref28_sign.calls (a0 : Int) (r : Bool) (w : World) (h : emenderref28_sign.f a0 = some r) :
    Calls Tryd.prog 40 #[.int .i64 a0] w fun e w' => e = .returned (.bool r) ∧ Drawn0 w w' := by
  have H : (if a0 ≥ 33 then (if a0 ≤ 47 then (some true) else (if a0 ≥ 58 then (if a0 ≤ 64 then (some true) else (if a0 ≥ 91 then (if a0 ≤ 96 then (some true) else (if a0 ≥ 123 then (some (decide (a0 ≤ 126))) else (some false))) else (if a0 ≥ 123 then (some (decide (a0 ≤ 126))) else (some false)))) else (if a0 ≥ 91 then (if a0 ≤ 96 then (some true) else (if a0 ≥ 123 then (some (decide (a0 ≤ 126))) else (some false))) else (if a0 ≥ 123 then (some (decide (a0 ≤ 126))) else (some false))))) else (if a0 ≥ 58 then (if a0 ≤ 64 then (some true) else (if a0 ≥ 91 then (if a0 ≤ 96 then (some true) else (if a0 ≥ 123 then (some (decide (a0 ≤ 126))) else (some false))) else (if a0 ≥ 123 then (some (decide (a0 ≤ 126))) else (some false)))) else (if a0 ≥ 91 then (if a0 ≤ 96 then (some true) else (if a0 ≥ 123 then (some (decide (a0 ≤ 126))) else (some false))) else (if a0 ≥ 123 then (some (decide (a0 ≤ 126))) else (some false))))) = some r := h
  clear h
  by_cases c2 : a0 ≥ 33
  · rw [if_pos c2] at H
    have c2b0 : decide (33 ≤ a0) = true := decide_eq_true c2
    clear c2
    by_cases c3 : a0 ≤ 47
    · rw [if_pos c3] at H
      have c3b0 : decide (a0 ≤ 47) = true := decide_eq_true c3
      clear c3
      obtain rfl := Option.some.inj H
      go_enter Tryd.func40, Tryd.ntmps40
      go_wp2
      go_ret
      exact ⟨by first | rfl | (simp; done) | (simp [*]; done), by repeat (first | exact Drawn0.refl _ | apply Drawn0.step)⟩
    · rw [if_neg c3] at H
      have c3b0 : decide (a0 ≤ 47) = false := decide_eq_false c3
      clear c3
      by_cases c4 : a0 ≥ 58
      · rw [if_pos c4] at H
        have c4b0 : decide (58 ≤ a0) = true := decide_eq_true c4
        clear c4
        by_cases c5 : a0 ≤ 64
        · rw [if_pos c5] at H
          have c5b0 : decide (a0 ≤ 64) = true := decide_eq_true c5
          clear c5
          obtain rfl := Option.some.inj H
          go_enter Tryd.func40, Tryd.ntmps40
          go_wp2
          go_ret
          exact ⟨by first | rfl | (simp; done) | (simp [*]; done), by repeat (first | exact Drawn0.refl _ | apply Drawn0.step)⟩
        · rw [if_neg c5] at H
          have c5b0 : decide (a0 ≤ 64) = false := decide_eq_false c5
          clear c5
          by_cases c6 : a0 ≥ 91
          · rw [if_pos c6] at H
            have c6b0 : decide (91 ≤ a0) = true := decide_eq_true c6
            clear c6
            by_cases c7 : a0 ≤ 96
            · rw [if_pos c7] at H
              have c7b0 : decide (a0 ≤ 96) = true := decide_eq_true c7
              clear c7
              obtain rfl := Option.some.inj H
              go_enter Tryd.func40, Tryd.ntmps40
              go_wp2
              go_ret
              exact ⟨by first | rfl | (simp; done) | (simp [*]; done), by repeat (first | exact Drawn0.refl _ | apply Drawn0.step)⟩
            · rw [if_neg c7] at H
              have c7b0 : decide (a0 ≤ 96) = false := decide_eq_false c7
              clear c7
              by_cases c8 : a0 ≥ 123
              · rw [if_pos c8] at H
                have c8b0 : decide (123 ≤ a0) = true := decide_eq_true c8
                clear c8
                obtain rfl := Option.some.inj H
                go_enter Tryd.func40, Tryd.ntmps40
                go_wp2
                go_ret
                exact ⟨by first | rfl | (simp; done) | (simp [*]; done), by repeat (first | exact Drawn0.refl _ | apply Drawn0.step)⟩
              · rw [if_neg c8] at H
                have c8b0 : decide (123 ≤ a0) = false := decide_eq_false c8
                clear c8
                obtain rfl := Option.some.inj H
                go_enter Tryd.func40, Tryd.ntmps40
                go_wp2
                go_ret
                exact ⟨by first | rfl | (simp; done) | (simp [*]; done), by repeat (first | exact Drawn0.refl _ | apply Drawn0.step)⟩
          · rw [if_neg c6] at H
            have c6b0 : decide (91 ≤ a0) = false := decide_eq_false c6
            clear c6
            by_cases c9 : a0 ≥ 123
            · rw [if_pos c9] at H
              have c9b0 : decide (123 ≤ a0) = true := decide_eq_true c9
              clear c9
              obtain rfl := Option.some.inj H
              go_enter Tryd.func40, Tryd.ntmps40
              go_wp2
              go_ret
              exact ⟨by first | rfl | (simp; done) | (simp [*]; done), by repeat (first | exact Drawn0.refl _ | apply Drawn0.step)⟩
            · rw [if_neg c9] at H
              have c9b0 : decide (123 ≤ a0) = false := decide_eq_false c9
              clear c9
              obtain rfl := Option.some.inj H
              go_enter Tryd.func40, Tryd.ntmps40
              go_wp2
              go_ret
              exact ⟨by first | rfl | (simp; done) | (simp [*]; done), by repeat (first | exact Drawn0.refl _ | apply Drawn0.step)⟩
      · rw [if_neg c4] at H
        have c4b0 : decide (58 ≤ a0) = false := decide_eq_false c4
        clear c4
        by_cases c10 : a0 ≥ 91
        · rw [if_pos c10] at H
          have c10b0 : decide (91 ≤ a0) = true := decide_eq_true c10
          clear c10
          by_cases c11 : a0 ≤ 96
          · rw [if_pos c11] at H
            have c11b0 : decide (a0 ≤ 96) = true := decide_eq_true c11
            clear c11
            obtain rfl := Option.some.inj H
            go_enter Tryd.func40, Tryd.ntmps40
            go_wp2
            go_ret
            exact ⟨by first | rfl | (simp; done) | (simp [*]; done), by repeat (first | exact Drawn0.refl _ | apply Drawn0.step)⟩
          · rw [if_neg c11] at H
            have c11b0 : decide (a0 ≤ 96) = false := decide_eq_false c11
            clear c11
            by_cases c12 : a0 ≥ 123
            · rw [if_pos c12] at H
              have c12b0 : decide (123 ≤ a0) = true := decide_eq_true c12
              clear c12
              obtain rfl := Option.some.inj H
              go_enter Tryd.func40, Tryd.ntmps40
              go_wp2
              go_ret
              exact ⟨by first | rfl | (simp; done) | (simp [*]; done), by repeat (first | exact Drawn0.refl _ | apply Drawn0.step)⟩
            · rw [if_neg c12] at H
              have c12b0 : decide (123 ≤ a0) = false := decide_eq_false c12
              clear c12
              obtain rfl := Option.some.inj H
              go_enter Tryd.func40, Tryd.ntmps40
              go_wp2
              go_ret
              exact ⟨by first | rfl | (simp; done) | (simp [*]; done), by repeat (first | exact Drawn0.refl _ | apply Drawn0.step)⟩
        · rw [if_neg c10] at H
          have c10b0 : decide (91 ≤ a0) = false := decide_eq_false c10
          clear c10
          by_cases c13 : a0 ≥ 123
          · rw [if_pos c13] at H
            have c13b0 : decide (123 ≤ a0) = true := decide_eq_true c13
            clear c13
            obtain rfl := Option.some.inj H
            go_enter Tryd.func40, Tryd.ntmps40
            go_wp2
            go_ret
            exact ⟨by first | rfl | (simp; done) | (simp [*]; done), by repeat (first | exact Drawn0.refl _ | apply Drawn0.step)⟩
          · rw [if_neg c13] at H
            have c13b0 : decide (123 ≤ a0) = false := decide_eq_false c13
            clear c13
            obtain rfl := Option.some.inj H
            go_enter Tryd.func40, Tryd.ntmps40
            go_wp2
            go_ret
            exact ⟨by first | rfl | (simp; done) | (simp [*]; done), by repeat (first | exact Drawn0.refl _ | apply Drawn0.step)⟩
  · rw [if_neg c2] at H
    have c2b0 : decide (33 ≤ a0) = false := decide_eq_false c2
    clear c2
    by_cases c14 : a0 ≥ 58
    · rw [if_pos c14] at H
      have c14b0 : decide (58 ≤ a0) = true := decide_eq_true c14
      clear c14
      by_cases c15 : a0 ≤ 64
      · rw [if_pos c15] at H
        have c15b0 : decide (a0 ≤ 64) = true := decide_eq_true c15
        clear c15
        obtain rfl := Option.some.inj H
        go_enter Tryd.func40, Tryd.ntmps40
        go_wp2
        go_ret
        exact ⟨by first | rfl | (simp; done) | (simp [*]; done), by repeat (first | exact Drawn0.refl _ | apply Drawn0.step)⟩
      · rw [if_neg c15] at H
        have c15b0 : decide (a0 ≤ 64) = false := decide_eq_false c15
        clear c15
        by_cases c16 : a0 ≥ 91
        · rw [if_pos c16] at H
          have c16b0 : decide (91 ≤ a0) = true := decide_eq_true c16
          clear c16
          by_cases c17 : a0 ≤ 96
          · rw [if_pos c17] at H
            have c17b0 : decide (a0 ≤ 96) = true := decide_eq_true c17
            clear c17
            obtain rfl := Option.some.inj H
            go_enter Tryd.func40, Tryd.ntmps40
            go_wp2
            go_ret
            exact ⟨by first | rfl | (simp; done) | (simp [*]; done), by repeat (first | exact Drawn0.refl _ | apply Drawn0.step)⟩
          · rw [if_neg c17] at H
            have c17b0 : decide (a0 ≤ 96) = false := decide_eq_false c17
            clear c17
            by_cases c18 : a0 ≥ 123
            · rw [if_pos c18] at H
              have c18b0 : decide (123 ≤ a0) = true := decide_eq_true c18
              clear c18
              obtain rfl := Option.some.inj H
              go_enter Tryd.func40, Tryd.ntmps40
              go_wp2
              go_ret
              exact ⟨by first | rfl | (simp; done) | (simp [*]; done), by repeat (first | exact Drawn0.refl _ | apply Drawn0.step)⟩
            · rw [if_neg c18] at H
              have c18b0 : decide (123 ≤ a0) = false := decide_eq_false c18
              clear c18
              obtain rfl := Option.some.inj H
              go_enter Tryd.func40, Tryd.ntmps40
              go_wp2
              go_ret
              exact ⟨by first | rfl | (simp; done) | (simp [*]; done), by repeat (first | exact Drawn0.refl _ | apply Drawn0.step)⟩
        · rw [if_neg c16] at H
          have c16b0 : decide (91 ≤ a0) = false := decide_eq_false c16
          clear c16
          by_cases c19 : a0 ≥ 123
          · rw [if_pos c19] at H
            have c19b0 : decide (123 ≤ a0) = true := decide_eq_true c19
            clear c19
            obtain rfl := Option.some.inj H
            go_enter Tryd.func40, Tryd.ntmps40
            go_wp2
            go_ret
            exact ⟨by first | rfl | (simp; done) | (simp [*]; done), by repeat (first | exact Drawn0.refl _ | apply Drawn0.step)⟩
          · rw [if_neg c19] at H
            have c19b0 : decide (123 ≤ a0) = false := decide_eq_false c19
            clear c19
            obtain rfl := Option.some.inj H
            go_enter Tryd.func40, Tryd.ntmps40
            go_wp2
            go_ret
            exact ⟨by first | rfl | (simp; done) | (simp [*]; done), by repeat (first | exact Drawn0.refl _ | apply Drawn0.step)⟩
    · rw [if_neg c14] at H
      have c14b0 : decide (58 ≤ a0) = false := decide_eq_false c14
      clear c14
      by_cases c20 : a0 ≥ 91
      · rw [if_pos c20] at H
        have c20b0 : decide (91 ≤ a0) = true := decide_eq_true c20
        clear c20
        by_cases c21 : a0 ≤ 96
        · rw [if_pos c21] at H
          have c21b0 : decide (a0 ≤ 96) = true := decide_eq_true c21
          clear c21
          obtain rfl := Option.some.inj H
          go_enter Tryd.func40, Tryd.ntmps40
          go_wp2
          go_ret
          exact ⟨by first | rfl | (simp; done) | (simp [*]; done), by repeat (first | exact Drawn0.refl _ | apply Drawn0.step)⟩
        · rw [if_neg c21] at H
          have c21b0 : decide (a0 ≤ 96) = false := decide_eq_false c21
          clear c21
          by_cases c22 : a0 ≥ 123
          · rw [if_pos c22] at H
            have c22b0 : decide (123 ≤ a0) = true := decide_eq_true c22
            clear c22
            obtain rfl := Option.some.inj H
            go_enter Tryd.func40, Tryd.ntmps40
            go_wp2
            go_ret
            exact ⟨by first | rfl | (simp; done) | (simp [*]; done), by repeat (first | exact Drawn0.refl _ | apply Drawn0.step)⟩
          · rw [if_neg c22] at H
            have c22b0 : decide (123 ≤ a0) = false := decide_eq_false c22
            clear c22
            obtain rfl := Option.some.inj H
            go_enter Tryd.func40, Tryd.ntmps40
            go_wp2
            go_ret
            exact ⟨by first | rfl | (simp; done) | (simp [*]; done), by repeat (first | exact Drawn0.refl _ | apply Drawn0.step)⟩
      · rw [if_neg c20] at H
        have c20b0 : decide (91 ≤ a0) = false := decide_eq_false c20
        clear c20
        by_cases c23 : a0 ≥ 123
        · rw [if_pos c23] at H
          have c23b0 : decide (123 ≤ a0) = true := decide_eq_true c23
          clear c23
          obtain rfl := Option.some.inj H
          go_enter Tryd.func40, Tryd.ntmps40
          go_wp2
          go_ret
          exact ⟨by first | rfl | (simp; done) | (simp [*]; done), by repeat (first | exact Drawn0.refl _ | apply Drawn0.step)⟩
        · rw [if_neg c23] at H
          have c23b0 : decide (123 ≤ a0) = false := decide_eq_false c23
          clear c23
          obtain rfl := Option.some.inj H
          go_enter Tryd.func40, Tryd.ntmps40
          go_wp2
          go_ret
          exact ⟨by first | rfl | (simp; done) | (simp [*]; done), by repeat (first | exact Drawn0.refl _ | apply Drawn0.step)⟩

/-! ### emenderref28_plain: function 41 -/
def emenderref28_plain.l0 : Nat → List (S65) → List Int → Int → Int → Option ((List (S65)))
  | 0, _, _, _, _ => none
  | k + 1, x0, x1, x2, x7 => if x7 < (x1.length : Int) then (if 0 ≤ x7 then (if x0.length < 1759218604441 then (emenderref28_plain.l0 k (x0 ++ [(⟨(⟨0, 0, rd x1 x7, x2⟩ : S43), false, (⟨0, 0, 0, false, false⟩ : S39), 0, false⟩ : S65)]) x1 x2 (wrap64 (x7 + 1))) else (none)) else (none)) else (some x0)
def emenderref28_plain.f (k : Nat) (l0 : List (S65)) (l1 : List Int) (a2 : Int) : Option ((List (S65))) := emenderref28_plain.l0 k l0 l1 a2 0
theorem emenderref28_plain.mono_l : ∀ k, (∀ y0 y1 y2 y3, LeO (emenderref28_plain.l0 k y0 y1 y2 y3) (emenderref28_plain.l0 (k + 1) y0 y1 y2 y3))
  | 0 => fun _ _ _ _ r h => by simp [emenderref28_plain.l0] at h
  | k + 1 => by
    have ih0 := emenderref28_plain.mono_l k
    · intro y0 y1 y2 y3
      unfold emenderref28_plain.l0
      repeat' first
      | (with_reducible exact ih0 _ _ _ _)
      | (with_reducible exact LeO.refl _)
      | (with_reducible exact LeO.none _)
      | (with_reducible refine LeO.ite ?_ ?_)
      | (with_reducible refine LeO.bind ?_ (fun _ => ?_))
      | exact ih0 _ _ _ _
      | exact LeO.none _
      | refine LeO.ite ?_ ?_
      | refine LeO.bind ?_ (fun _ => ?_)
theorem emenderref28_plain.mono : ∀ a0 a1 a2 k, LeO (emenderref28_plain.f k a0 a1 a2) (emenderref28_plain.f (k + 1) a0 a1 a2) := by
  intro a0 a1 a2 k
  have ih0 := emenderref28_plain.mono_l k
  unfold emenderref28_plain.f
  repeat' first
      | (with_reducible exact ih0 _ _ _ _)
      | (with_reducible exact LeO.refl _)
      | (with_reducible exact LeO.none _)
      | (with_reducible refine LeO.ite ?_ ?_)
      | (with_reducible refine LeO.bind ?_ (fun _ => ?_))
      | exact ih0 _ _ _ _
      | exact LeO.none _
      | refine LeO.ite ?_ ?_
      | refine LeO.bind ?_ (fun _ => ?_)
set_option maxHeartbeats 8000000 in
set_option maxRecDepth 100000 in
theorem emenderref28_plain.calls (k : Nat) (P0_ : Nat → Prop) (u9000_ : Value) (l0 : List (S65)) (A1 : Option Addr) (c1 : Nat) (l1 : List Int) (a2 : Int) (r : List (S65)) (w0 w : World) (hB : Below w0.heap.size w0 w) (ho0 : Kd.R k65 65 w w0.heap.size P0_ u9000_ l0) (hr1 : ∀ W_, Kept w W_ (fun k_ => P0_ k_) → Kd.C (Kd.int .i64) W_ A1 l1.length l1) (hc1 : l1.length ≤ c1) (h : emenderref28_plain.f k l0 l1 a2 = some r) :
    Calls Tryd.prog 41 #[u9000_, .slice A1 l1.length c1, .int .i64 a2] w fun e w' => ∃ v0_ : Value, e = .returned (v0_) ∧ Kd.R k65 65 w' w0.heap.size (fun k_ => (P0_ k_ ∨ w.heap.size ≤ k_)) v0_ r ∧ Below w0.heap.size w0 w' ∧ Kept w w' (fun k_ => P0_ k_) := by
  have hu43 := Tryd.underlying43
  have hu65 := Tryd.underlying65
  have HO0 := Aside0.mk (show Kd.R k65 65 w w0.heap.size (fun k_ => (P0_ k_ ∨ w.heap.size ≤ k_)) u9000_ l0 from Kd.R_mono ho0 (fun k_ hk => (.inl hk)))
  have HR1 := Aside0.mk hr1
  have HC1 := Aside0.mk hc1
  clear hr1 hc1
  have HK := Aside0.mk (Kept.refl w (fun k_ => P0_ k_))
  have HW0 := Aside0.mk hB.size
  have HB := Aside0.mk hB
  clear hB
  have H : (emenderref28_plain.l0 k l0 l1 a2 0) = some r := h
  clear h
  have H' := Aside0.mk H
  clear H
  go_enter Tryd.func41, Tryd.ntmps41
  go_wp2
  go_loopg [0, 7] k (fun kq v0 v7 w' => ∃ (x0_1 : List (S65)) (x7_1 : Int), v7 = .int .i64 x7_1 ∧ Aside0 (emenderref28_plain.l0 kq x0_1 l1 a2 x7_1 = some r) ∧ Aside0 (kq ≤ k) ∧ Aside0 (Kd.R k65 65 w' w0.heap.size (fun k_ => (P0_ k_ ∨ w.heap.size ≤ k_)) v0 x0_1) ∧ Aside0 (Kept w w' (fun k_ => P0_ k_)) ∧ Aside0 (Below w0.heap.size w0 w'))
  case atStart => exact ⟨(l0), (0), (by first | rfl | (simp; done) | (simp [*]; done)), H', ⟨Nat.le_refl _⟩, ⟨by (with_reducible repeat (first | apply Kd.R_alloc | apply Kd.R_drewN | apply Kd.R_drew)); exact HO0.out⟩, ⟨by repeat (first | (with_reducible first | exact HK.out | apply Kept.alloc | apply Kept.drewN | apply Kept.drew) | exact HK.out)⟩, ⟨by repeat (first | (with_reducible first | exact HB.out | apply below_alloc | apply pw_below_drewN | apply below_drew1) | exact HB.out)⟩⟩
  case round =>
    clear H'
    try clear c1
    try clear p2
    obtain ⟨x0_1, x7_1, rfl, HA, HK1, HO_0, HK, HB⟩ := hrel
    cases gk with
    | zero => exact absurd HA.out (by simp [emenderref28_plain.l0])
    | succ k1 =>
      have H := HA.out
      clear HA
      simp only [emenderref28_plain.l0] at H
      by_cases c4 : x7_1 < (l1.length : Int)
      · rw [if_pos c4] at H
        have c4b0 : decide (x7_1 < (l1.length : Int)) = true := decide_eq_true c4
        clear c4
        by_cases c5 : 0 ≤ x7_1
        · rw [if_pos c5] at H
          have c5b0 : decide (0 ≤ x7_1) = true := decide_eq_true c5
          clear c5
          by_cases c6 : x0_1.length < 1759218604441
          · rw [if_pos c6] at H
            have LMc6 := Aside0.mk c6
            clear c6
            obtain ⟨y124, hy124⟩ : ∃ y_ : List (S65), y_ = (x0_1 ++ [(⟨(⟨0, 0, rd l1 x7_1, a2⟩ : S43), false, (⟨0, 0, 0, false, false⟩ : S39), 0, false⟩ : S65)]) := ⟨_, rfl⟩
            replace H : (emenderref28_plain.l0 k1 y124 l1 a2 (wrap64 (x7_1 + 1))) = some r := by first | (rw [hy124]; with_reducible exact H) | (have H2_ := (Option.bind_some _ _).symm.trans H; rw [hy124]; with_reducible exact H2_) | (have H2_ := (Option.bind_some _ _).symm.trans H; with_reducible exact H2_) | with_reducible exact H | (rw [hy124]; exact H) | exact H
            have Ny124 := Aside0.mk hy124
            clear hy124
            have H' := Aside0.mk H
            clear H
            have p123 : 0 ≤ (x7_1 : Int) := of_decide_eq_true (by first | (with_reducible assumption) | assumption)
            have q123 : x7_1 < (l1.length : Int) := of_decide_eq_true (by first | (with_reducible assumption) | assumption)
            obtain ⟨ad123, e123, hx123_0⟩ := Kd.at_int (Kd.C_kept_now HR1.out HK.out) x7_1 p123 q123
            cases e123
            replace p123 := eq_true p123
            replace q123 := eq_true q123
            go_wp2_with (first | ((with_reducible refine gate_builtin (b := .append) (xs := #[.tmp 14, .tmp 22]) rfl ?_); at_builtin; refine Kd.R_append k65 (w0 := w0) w0.heap.size rfl (.tmp 14) (.tmp 22) 61 65 (.agg #[(.int .i64 0), (.int .i64 0), (.int .i64 0), (.int .i64 0), (.bool false), (.int .i64 0), (.int .i64 0), (.int .u8 0), (.bool false), (.bool false), (.int .i64 0), (.bool false)]) 80 rfl Tryd.underlying61 info65 rfl (by decide) (by omega) u0 x0_1 (⟨(⟨0, 0, rd l1 x7_1, a2⟩ : S43), false, (⟨0, 0, 0, false, false⟩ : S39), 0, false⟩ : S65) [.int .i64 0, .int .i64 0, .int .i64 (rd l1 x7_1), .int .i64 a2, .bool false, .int .i64 0, .int .i64 0, .int .u8 0, .bool false, .bool false, .int .i64 0, .bool false] (fun k_ => (P0_ k_ ∨ w.heap.size ≤ k_)) (fun _ => False) rfl rfl ?aP (fun _ hk => hk.elim) ?aF ?aO ?aB ?aS ?aL ?_; (case aP => exact k65_mkM _ _ _ (⟨(⟨0, 0, rd l1 x7_1, a2⟩ : S43), false, (⟨0, 0, 0, false, false⟩ : S39), 0, false⟩ : S65)); (case aB => exact (by repeat (first | (with_reducible first | exact HB.out | apply below_alloc | apply pw_below_drewN | apply below_drew1) | exact HB.out))); (case aF => exact (fun k_ hk => (.inr (Nat.le_trans (by first | exact HK.out.1 | exact (show Kept w _ (fun k_ => P0_ k_) from by repeat (first | (with_reducible first | exact HK.out | apply Kept.alloc | apply Kept.drewN | apply Kept.drew) | exact HK.out)).1) hk)))); (case aO => exact (by (with_reducible repeat (first | apply Kd.R_alloc | apply Kd.R_drewN | apply Kd.R_drew)); exact HO_0.out)); (case aS => exact (below_size (by repeat (first | (with_reducible first | exact HB.out | apply below_alloc | apply pw_below_drewN | apply below_drew1) | exact HB.out)))); (case aL => have := LMc6.out; omega); intro v125 w7 ho hb hg hat; rw [← Ny124.out] at ho; have n0_ := Aside0.mk (hb); have n1_ := Aside0.mk (Kept.of_grown (S := (fun k_ => P0_ k_)) hg (by repeat (first | (with_reducible first | exact HK.out | apply Kept.alloc | apply Kept.drewN | apply Kept.drew) | exact HK.out)) (fun k_ e_ => (HO_0.out.1 k_ e_))); have n2_ := Aside0.mk (ho); clear HB; clear HK; clear HO_0; have HB := n0_; have HK := n1_; have HO126 := n2_; clear n0_ n1_ n2_; clear ho hb hg hat))
            go_roundg k1
            case measure => have := HK1.out; omega
            case rel => exact ⟨(y124), (wrap64 (x7_1 + 1)), (by first | rfl | (simp; done) | (simp [*]; done)), H', ⟨by have := HK1.out; omega⟩, ⟨by (with_reducible repeat (first | apply Kd.R_alloc | apply Kd.R_drewN | apply Kd.R_drew)); exact HO126.out⟩, ⟨by repeat (first | (with_reducible first | exact HK.out | apply Kept.alloc | apply Kept.drewN | apply Kept.drew) | exact HK.out)⟩, ⟨by repeat (first | (with_reducible first | exact HB.out | apply below_alloc | apply pw_below_drewN | apply below_drew1) | exact HB.out)⟩⟩
          · rw [if_neg c6] at H
            exact absurd H (by simp)
        · rw [if_neg c5] at H
          exact absurd H (by simp)
      · rw [if_neg c4] at H
        have c4b0 : decide (x7_1 < (l1.length : Int)) = false := decide_eq_false c4
        clear c4
        obtain rfl := Option.some.inj H
        go_wp2
        go_ret
        exact ⟨_, by first | rfl | (simp [errW_none, errW_some] <;> rfl) | (simp [*, errW_none, errW_some] <;> rfl), by (with_reducible repeat (first | apply Kd.R_alloc | apply Kd.R_drewN | apply Kd.R_drew)); exact HO_0.out, by repeat (first | (with_reducible first | exact HB.out | apply below_alloc | apply pw_below_drewN | apply below_drew1) | exact HB.out), by repeat (first | (with_reducible first | exact HK.out | apply Kept.alloc | apply Kept.drewN | apply Kept.drew) | exact HK.out)⟩

end Go.Proofs.YtfnafjohfmlniaaDoor.PCs
-- Written for this claim by a program (the kit's print, with hand-made contracts for what it does not take).
namespace Go.Proofs.YtfnafjohfmlniaaDoor.PCs
open Go.RowKit Go.Proofs.YtfnafjohfmlniaaDoorW.PrintWords Go.Proofs.YtfnafjohfmlniaaDoorW.PrintLast Go.Proofs.YtfnafjohfmlniaaDoorW.PrintMore
attribute [local go_sem] max2_int min2_int max_two min_two max_three min_three max_four min_four   -- for this text's walks alone
set_option linter.unusedVariables false
set_option linter.unusedSimpArgs false

/-! ### emenderref28_fence: function 42 -/
def emenderref28_fence.l0 : Nat → List Int → Int → Int → Option (Int)
  | 0, _, _, _ => none
  | k + 1, x0, x1, x2 => if x1 < (x0.length : Int) then (if 0 ≤ x1 then (if (rd x0 x1) = 96 then ((emenderref28_row.f k x0 x1).bind fun t128 => (if t128 = x2 then (some x1) else (emenderref28_fence.l0 k x0 (wrap64 (x1 + t128)) x2))) else (emenderref28_fence.l0 k x0 (wrap64 (x1 + 1)) x2)) else (none)) else (some (-1))
def emenderref28_fence.f (k : Nat) (l0 : List Int) (a1 : Int) (a2 : Int) : Option (Int) := emenderref28_fence.l0 k l0 a1 a2
theorem emenderref28_fence.mono_l : ∀ k, (∀ y0 y1 y2, LeO (emenderref28_fence.l0 k y0 y1 y2) (emenderref28_fence.l0 (k + 1) y0 y1 y2))
  | 0 => fun _ _ _ r h => by simp [emenderref28_fence.l0] at h
  | k + 1 => by
    have ih0 := emenderref28_fence.mono_l k
    · intro y0 y1 y2
      unfold emenderref28_fence.l0
      repeat' first
      | (with_reducible exact ih0 _ _ _)
      | (with_reducible exact emenderref28_row.mono _ _ _)
      | (with_reducible exact LeO.refl _)
      | (with_reducible exact LeO.none _)
      | (with_reducible refine LeO.ite ?_ ?_)
      | (with_reducible refine LeO.bind ?_ (fun _ => ?_))
      | exact ih0 _ _ _
      | exact emenderref28_row.mono _ _ _
      | exact LeO.none _
      | refine LeO.ite ?_ ?_
      | refine LeO.bind ?_ (fun _ => ?_)
theorem emenderref28_fence.mono : ∀ a0 a1 a2 k, LeO (emenderref28_fence.f k a0 a1 a2) (emenderref28_fence.f (k + 1) a0 a1 a2) := by
  intro a0 a1 a2 k
  have ih0 := emenderref28_fence.mono_l k
  unfold emenderref28_fence.f
  repeat' first
      | (with_reducible exact ih0 _ _ _)
      | (with_reducible exact emenderref28_row.mono _ _ _)
      | (with_reducible exact LeO.refl _)
      | (with_reducible exact LeO.none _)
      | (with_reducible refine LeO.ite ?_ ?_)
      | (with_reducible refine LeO.bind ?_ (fun _ => ?_))
      | exact ih0 _ _ _
      | exact emenderref28_row.mono _ _ _
      | exact LeO.none _
      | refine LeO.ite ?_ ?_
      | refine LeO.bind ?_ (fun _ => ?_)
set_option maxHeartbeats 8000000 in
set_option maxRecDepth 100000 in
theorem emenderref28_fence.calls (k : Nat) (A0 : Option Addr) (c0 : Nat) (l0 : List Int) (a1 : Int) (a2 : Int) (r : Int) (w : World) (hr0 : Kd.C (Kd.int .i64) w A0 l0.length l0) (hc0 : l0.length ≤ c0) (h : emenderref28_fence.f k l0 a1 a2 = some r) :
    Calls Tryd.prog 42 #[.slice A0 l0.length c0, .int .i64 a1, .int .i64 a2] w fun e w' => e = .returned (.int .i64 r) ∧ Drawn0 w w' := by
  have HR0 := Aside0.mk hr0
  have HC0 := Aside0.mk hc0
  clear hr0 hc0
  have H : (emenderref28_fence.l0 k l0 a1 a2) = some r := h
  clear h
  have H' := Aside0.mk H
  clear H
  go_enter Tryd.func42, Tryd.ntmps42
  go_wp2
  go_loopg [1] k (fun kq v1 w' => ∃ (x1_1 : Int), v1 = .int .i64 x1_1 ∧ Aside0 (emenderref28_fence.l0 kq l0 x1_1 a2 = some r) ∧ Aside0 (kq ≤ k) ∧ Drawn0 w w')
  case atStart => exact ⟨(a1), (by first | rfl | (simp; done) | (simp [*]; done)), H', ⟨Nat.le_refl _⟩, by repeat (first | exact Drawn0.refl _ | apply Drawn0.step)⟩
  case round =>
    clear H'
    try clear p2
    obtain ⟨x1_1, rfl, HA, HK1, ⟨m1, rfl⟩⟩ := hrel
    cases gk with
    | zero => exact absurd HA.out (by simp [emenderref28_fence.l0])
    | succ k1 =>
      have H := HA.out
      clear HA
      simp only [emenderref28_fence.l0] at H
      by_cases c4 : x1_1 < (l0.length : Int)
      · rw [if_pos c4] at H
        have c4b0 : decide (x1_1 < (l0.length : Int)) = true := decide_eq_true c4
        clear c4
        by_cases c5 : 0 ≤ x1_1
        · rw [if_pos c5] at H
          have c5b0 : decide (0 ≤ x1_1) = true := decide_eq_true c5
          clear c5
          by_cases c6 : (rd l0 x1_1) = 96
          · rw [if_pos c6] at H
            have c6b0 : ((rd l0 x1_1) == 96) = true := beq_iff_eq.mpr c6
            have c6b1 : ((rd l0 x1_1) != 96) = false := bne_eq_false_iff_eq.mpr c6
            clear c6
            replace H := Option.bind_eq_some_iff.mp H
            obtain ⟨t128, A70, H⟩ := H
            replace H : (if t128 = a2 then (some x1_1) else (emenderref28_fence.l0 k1 l0 (wrap64 (x1_1 + t128)) a2)) = some r := H
            have A7 := Aside0.mk A70
            clear A70
            by_cases c8 : t128 = a2
            · rw [if_pos c8] at H
              have c8b0 : (t128 == a2) = true := beq_iff_eq.mpr c8
              have c8b1 : (t128 != a2) = false := bne_eq_false_iff_eq.mpr c8
              clear c8
              obtain rfl := Option.some.inj H
              have p127 : 0 ≤ (x1_1 : Int) := of_decide_eq_true (by first | (with_reducible assumption) | assumption)
              have q127 : x1_1 < (l0.length : Int) := of_decide_eq_true (by first | (with_reducible assumption) | assumption)
              obtain ⟨ad127, e127, hx127_0⟩ := Kd.at_int HR0.out x1_1 p127 q127
              cases e127
              replace p127 := eq_true p127
              replace q127 := eq_true q127
              go_wp2_with (first | ((with_reducible refine gate_callee (f := 39) rfl ?_); refine goesL_ (some 21) rfl rfl Tryd.func39 (by kernel_rfl) rfl #[.slice (some ad127) l0.length c0, .int .i64 x1_1] rfl (by (try simp only [List.map_toArray, List.map_cons, List.map_nil]); first | done | rfl | (simp only [List.length_drop, List.length_take]; rfl)) ?_; (with_reducible refine (emenderref28_row.calls k1 _ _ l0 x1_1 t128 _ ?side1 ?side2 A7.out).mono ?_); (case side1 => repeat (first | exact HR0.out | (with_reducible refine Kd.C_alloc ?_ _) | (with_reducible refine Kd.C_drewN ?_ _) | (with_reducible refine Kd.C_drew ?_))); (case side2 => exact HC0.out); rintro e w' ⟨rfl, ⟨nd, rfl⟩⟩; refine ⟨_, rfl, ?_⟩))
              go_ret
              exact ⟨by first | rfl | (simp; done) | (simp [*]; done), by repeat (first | exact Drawn0.refl _ | apply Drawn0.step)⟩
            · rw [if_neg c8] at H
              have c8b0 : (t128 == a2) = false := beq_eq_false_iff_ne.mpr c8
              have c8b1 : (t128 != a2) = true := bne_iff_ne.mpr c8
              have H' := Aside0.mk H
              clear H
              have p127 : 0 ≤ (x1_1 : Int) := of_decide_eq_true (by first | (with_reducible assumption) | assumption)
              have q127 : x1_1 < (l0.length : Int) := of_decide_eq_true (by first | (with_reducible assumption) | assumption)
              obtain ⟨ad127, e127, hx127_0⟩ := Kd.at_int HR0.out x1_1 p127 q127
              cases e127
              replace p127 := eq_true p127
              replace q127 := eq_true q127
              go_wp2_with (first | ((with_reducible refine gate_callee (f := 39) rfl ?_); refine goesL_ (some 21) rfl rfl Tryd.func39 (by kernel_rfl) rfl #[.slice (some ad127) l0.length c0, .int .i64 x1_1] rfl (by (try simp only [List.map_toArray, List.map_cons, List.map_nil]); first | done | rfl | (simp only [List.length_drop, List.length_take]; rfl)) ?_; (with_reducible refine (emenderref28_row.calls k1 _ _ l0 x1_1 t128 _ ?side1 ?side2 A7.out).mono ?_); (case side1 => repeat (first | exact HR0.out | (with_reducible refine Kd.C_alloc ?_ _) | (with_reducible refine Kd.C_drewN ?_ _) | (with_reducible refine Kd.C_drew ?_))); (case side2 => exact HC0.out); rintro e w' ⟨rfl, ⟨nd, rfl⟩⟩; refine ⟨_, rfl, ?_⟩))
              go_roundg k1
              case measure => have := HK1.out; omega
              case rel => exact ⟨(wrap64 (x1_1 + t128)), (by first | rfl | (simp; done) | (simp [*]; done)), H', ⟨by have := HK1.out; omega⟩, by repeat (first | exact Drawn0.refl _ | apply Drawn0.step)⟩
          · rw [if_neg c6] at H
            have c6b0 : ((rd l0 x1_1) == 96) = false := beq_eq_false_iff_ne.mpr c6
            have c6b1 : ((rd l0 x1_1) != 96) = true := bne_iff_ne.mpr c6
            have H' := Aside0.mk H
            clear H
            have p127 : 0 ≤ (x1_1 : Int) := of_decide_eq_true (by first | (with_reducible assumption) | assumption)
            have q127 : x1_1 < (l0.length : Int) := of_decide_eq_true (by first | (with_reducible assumption) | assumption)
            obtain ⟨ad127, e127, hx127_0⟩ := Kd.at_int HR0.out x1_1 p127 q127
            cases e127
            replace p127 := eq_true p127
            replace q127 := eq_true q127
            go_wp2
            go_roundg k1
            case measure => have := HK1.out; omega
            case rel => exact ⟨(wrap64 (x1_1 + 1)), (by first | rfl | (simp; done) | (simp [*]; done)), H', ⟨by have := HK1.out; omega⟩, by repeat (first | exact Drawn0.refl _ | apply Drawn0.step)⟩
        · rw [if_neg c5] at H
          exact absurd H (by simp)
      · rw [if_neg c4] at H
        have c4b0 : decide (x1_1 < (l0.length : Int)) = false := decide_eq_false c4
        clear c4
        obtain rfl := Option.some.inj H
        go_wp2
        go_ret
        exact ⟨by first | rfl | (simp; done) | (simp [*]; done), by repeat (first | exact Drawn0.refl _ | apply Drawn0.step)⟩

/-! ### emenderref28_code: function 43 -/
/-! ### The document's code between its fences -/
def icut (p : List Int) (i j : Int) : List Int := (p.take j.toNat).drop i.toNat
theorem icut_length (p : List Int) (i j : Int) (hj : j ≤ (p.length : Int)) : (icut p i j).length = j.toNat - i.toNat := by
  unfold icut
  rw [List.length_drop, List.length_take]
  omega
theorem icut_go (A : Option Addr) (c : Nat) (p : List Int) (i j : Int) (h0 : 0 ≤ i) (h1 : i ≤ j) (h2 : j ≤ (p.length : Int)) (hc : p.length ≤ c) :
    ∃ A1 c1, (∀ W : World, (Instr.slice 58 (.slice A p.length c) (some (.int .i64 i)) (some (.int .i64 j)) none).run Tryd.prog W = .ok (.slice A1 (icut p i j).length c1) W) ∧ (∀ W : World, Kd.C (Kd.int .i64) W A p.length p → Kd.C (Kd.int .i64) W A1 (icut p i j).length (icut p i j)) ∧ (icut p i j).length ≤ c1 := by
  obtain ⟨i0_, hi0_, _, hsz_, _⟩ := info_parts info3
  have hcut := cut_mid (P := Tryd.prog) 58 3 .i64 .i64 Tryd.underlying58 hi0_ 1 hsz_ A p.length c i j h0 h1 h2 hc
  have hl := icut_length p i j h2
  rw [← hl] at hcut
  exact ⟨_, _, hcut, fun W hW => Kd.C_mid (lo := i.toNat) (hi := j.toNat) hW (by omega) (by omega) hc, by omega⟩
def emenderref28_code.all (q : List Int) : Bool := q.all (fun x => x == 32)
def emenderref28_code.bare (p : List Int) : Bool := decide (1 < (p.length : Int)) && (!(emenderref28_code.all p) && ((rd p 0 == 32) && (rd p ((p.length : Int) - 1) == 32)))
def emenderref28_code.f (p : List Int) : List Int := if emenderref28_code.bare p = true then icut p 1 ((p.length : Int) - 1) else p
def emenderref28_code.Post (A0 : Option Addr) (l0 : List Int) (w : World) (e : Ending) (w' : World) : Prop := ∃ (A' : Option Addr) (c' : Nat), e = .returned (.slice A' (emenderref28_code.f l0).length c') ∧ (∀ W : World, Kd.C (Kd.int .i64) W A0 l0.length l0 → Kd.C (Kd.int .i64) W A' (emenderref28_code.f l0).length (emenderref28_code.f l0)) ∧ (emenderref28_code.f l0).length ≤ c' ∧ Below w.heap.size w w'
set_option maxRecDepth 100000 in
set_option maxHeartbeats 8000000 in
theorem emenderref28_code.calls (A0 : Option Addr) (c0 : Nat) (l0 : List Int) (w : World) (hr0 : Kd.C (Kd.int .i64) w A0 l0.length l0) (hc0 : l0.length ≤ c0) (hl : l0.length ≤ 4000) :
    Calls Tryd.prog 43 #[.slice A0 l0.length c0] w (emenderref28_code.Post A0 l0 w) := by
  have HR := Aside0.mk hr0
  have HC := Aside0.mk hc0
  have HN := Aside0.mk hl
  clear hr0 hc0 hl
  go_enter Tryd.func43, Tryd.ntmps43
  go_wp2
  go_loopg [3, 4] l0.length (fun kq v3 v4 w' => ∃ k : Nat, v4 = .int .i64 (k : Int) ∧ v3 = .bool (emenderref28_code.all (l0.take k)) ∧ Aside0 (k + kq = l0.length ∧ Below w.heap.size w w'))
  case atStart => exact ⟨0, rfl, by rw [List.take_zero]; rfl, ⟨by omega, Below.refl _ _⟩⟩
  case round =>
    obtain ⟨k, rfl, rfl, HI⟩ := hrel
    by_cases c5 : (k : Int) < (l0.length : Int)
    · have c5b : decide ((k : Int) < (l0.length : Int)) = true := decide_eq_true c5
      have c5t := eq_true c5
      have k0t := eq_true (show (0 : Int) ≤ (k : Int) by omega)
      obtain ⟨ad, eA, x0⟩ := Kd.at_int (Kd.C_below HR.out HI.out.2) (k : Int) (by omega) c5
      subst eA
      rw [Int.toNat_natCast] at x0
      have hw3 : wrap64 ((k : Int) + 1) = ((k + 1 : Nat) : Int) := by have := HN.out; unfold wrap64; omega
      have NX := Aside0.mk (show emenderref28_code.all (l0.take (k + 1)) = (emenderref28_code.all (l0.take k) && (rd l0 (k : Int) == 32)) from by
        unfold emenderref28_code.all
        rw [List.take_add_one, List.all_append]
        simp [rd, List.getD_eq_getElem?_getD, List.getElem?_eq_getElem (show k < l0.length by omega)])
      have NK := Aside0.mk (And.intro HI.out.1 c5)
      have HB2 := Aside0.mk HI.out.2
      clear HI c5
      generalize emenderref28_code.all (l0.take k) = ot at *
      cases ot with
      | true =>
        go_wp2
        go_roundg (gk - 1)
        case measure => have := NK.out; omega
        case rel => exact ⟨k + 1, by rw [hw3], by rw [NX.out, Bool.true_and], ⟨by have := NK.out; omega, HB2.out⟩⟩
      | false =>
        go_wp2
        go_roundg (gk - 1)
        case measure => have := NK.out; omega
        case rel => exact ⟨k + 1, by rw [hw3], by rw [NX.out, Bool.false_and], ⟨by have := NK.out; omega, HB2.out⟩⟩
    · have c5b : decide ((k : Int) < (l0.length : Int)) = false := decide_eq_false c5
      have e : (l0.take k) = l0 := List.take_of_length_le (by omega)
      rw [e]
      have HB2 := Aside0.mk HI.out.2
      clear HI e
      obtain ⟨jm, hjm⟩ : ∃ x, x = (l0.length : Int) - 1 := ⟨_, rfl⟩
      have hwc : wrap64 ((l0.length : Int) - 1) = jm := by have := HN.out; unfold wrap64; omega
      have JM := Aside0.mk hjm
      have CF : Aside0 (emenderref28_code.f l0 = if (decide (1 < (l0.length : Int)) && (!(emenderref28_code.all l0) && ((rd l0 0 == 32) && (rd l0 jm == 32)))) = true then icut l0 1 jm else l0) := ⟨by rw [hjm]; rfl⟩
      have KEEP : Aside0 (emenderref28_code.f l0 = l0 → emenderref28_code.Post A0 l0 w (.returned (.slice A0 l0.length c0)) wr) := ⟨fun e => by
        unfold emenderref28_code.Post
        rw [e]
        exact ⟨A0, c0, rfl, fun W hW => hW, HC.out, HB2.out⟩⟩
      clear hjm
      generalize emenderref28_code.all l0 = ot at *
      by_cases d1 : 1 < (l0.length : Int)
      · have d1b : decide (1 < (l0.length : Int)) = true := decide_eq_true d1
        have i1 : (0 : Int) < (l0.length : Int) := by omega
        have j0 : 0 ≤ jm := by have := JM.out; omega
        have j1 : jm < (l0.length : Int) := by have := JM.out; omega
        obtain ⟨ad, eA, x0⟩ := Kd.at_int (Kd.C_below HR.out HB2.out) 0 (Int.le_refl 0) i1
        subst eA
        rw [show ad.add (0 : Int).toNat = ad from by simp [Addr.add]] at x0
        obtain ⟨ad_, eA, y0⟩ := Kd.at_int (Kd.C_below HR.out HB2.out) jm j0 j1
        cases eA
        obtain ⟨A1, c1, hcut, SEE, HC1⟩ := icut_go (some ad) c0 l0 1 jm (by decide) (by have := JM.out; omega) (by have := JM.out; omega) HC.out
        have i1n : 0 < l0.length := by omega
        have i1t := eq_true i1n
        have i1u := eq_true i1
        have j0t := eq_true j0
        have j1t := eq_true j1
        have S1 := Aside0.mk SEE
        have S2 := Aside0.mk HC1
        clear i1 i1n j0 j1 d1 SEE HC1
        cases ot with
        | true =>
          have E := Aside0.mk (KEEP.out (CF.out.trans (if_neg (by simp))))
          go_wp2
          go_ret
          exact E.out
        | false =>
          by_cases e1 : rd l0 0 = 32
          · have e1b : (rd l0 0 == 32) = true := beq_iff_eq.mpr e1
            by_cases e2 : rd l0 jm = 32
            · have e2b : (rd l0 jm == 32) = true := beq_iff_eq.mpr e2
              have E := Aside0.mk (show emenderref28_code.f l0 = icut l0 1 jm from CF.out.trans (if_pos (by rw [d1b, e1b, e2b]; rfl)))
              clear e1 e2 KEEP CF
              go_wp2
              go_ret
              unfold emenderref28_code.Post
              rw [E.out]
              exact ⟨A1, c1, rfl, S1.out, S2.out, HB2.out⟩
            · have e2b : (rd l0 jm == 32) = false := beq_eq_false_iff_ne.mpr e2
              have E := Aside0.mk (KEEP.out (CF.out.trans (if_neg (by rw [e2b]; simp))))
              clear e1 e2 KEEP CF
              go_wp2
              go_ret
              exact E.out
          · have e1b : (rd l0 0 == 32) = false := beq_eq_false_iff_ne.mpr e1
            have E := Aside0.mk (KEEP.out (CF.out.trans (if_neg (by rw [e1b]; simp))))
            clear e1 KEEP CF
            go_wp2
            go_ret
            exact E.out
      · have d1b : decide (1 < (l0.length : Int)) = false := decide_eq_false d1
        have E := Aside0.mk (KEEP.out (CF.out.trans (if_neg (by rw [d1b]; simp))))
        clear KEEP CF d1
        go_wp2
        go_ret
        exact E.out

/-! ### emenderref28_around: function 53 -/
def emenderref28_around.f (l0 : List Int) (a1 : Int) : Option (Int) := if a1 < 0 then (some 32) else (if a1 ≥ (l0.length : Int) then (some 32) else (if 0 ≤ a1 then (if a1 < (l0.length : Int) then (some (rd l0 a1)) else (none)) else (none)))
set_option maxHeartbeats 8000000 in
set_option maxRecDepth 100000 in
theorem emenderref28_around.calls (A0 : Option Addr) (c0 : Nat) (l0 : List Int) (a1 : Int) (r : Int) (w : World) (hr0 : Kd.C (Kd.int .i64) w A0 l0.length l0) (hc0 : l0.length ≤ c0) (h : emenderref28_around.f l0 a1 = some r) :
    Calls Tryd.prog 53 #[.slice A0 l0.length c0, .int .i64 a1] w fun e w' => e = .returned (.int .i64 r) ∧ Drawn0 w w' := by
  have HR0 := Aside0.mk hr0
  have HC0 := Aside0.mk hc0
  clear hr0 hc0
  have H : (if a1 < 0 then (some 32) else (if a1 ≥ (l0.length : Int) then (some 32) else (if 0 ≤ a1 then (if a1 < (l0.length : Int) then (some (rd l0 a1)) else (none)) else (none)))) = some r := h
  clear h
  by_cases c3 : a1 < 0
  · rw [if_pos c3] at H
    have c3b0 : decide (a1 < 0) = true := decide_eq_true c3
    clear c3
    obtain rfl := Option.some.inj H
    go_enter Tryd.func53, Tryd.ntmps53
    go_wp2
    go_ret
    exact ⟨by first | rfl | (simp; done) | (simp [*]; done), by repeat (first | exact Drawn0.refl _ | apply Drawn0.step)⟩
  · rw [if_neg c3] at H
    have c3b0 : decide (a1 < 0) = false := decide_eq_false c3
    clear c3
    by_cases c4 : a1 ≥ (l0.length : Int)
    · rw [if_pos c4] at H
      have c4b0 : decide ((l0.length : Int) ≤ a1) = true := decide_eq_true c4
      clear c4
      obtain rfl := Option.some.inj H
      go_enter Tryd.func53, Tryd.ntmps53
      go_wp2
      go_ret
      exact ⟨by first | rfl | (simp; done) | (simp [*]; done), by repeat (first | exact Drawn0.refl _ | apply Drawn0.step)⟩
    · rw [if_neg c4] at H
      have c4b0 : decide ((l0.length : Int) ≤ a1) = false := decide_eq_false c4
      clear c4
      by_cases c5 : 0 ≤ a1
      · rw [if_pos c5] at H
        have c5b0 : decide (0 ≤ a1) = true := decide_eq_true c5
        clear c5
        by_cases c6 : a1 < (l0.length : Int)
        · rw [if_pos c6] at H
          have c6b0 : decide (a1 < (l0.length : Int)) = true := decide_eq_true c6
          clear c6
          obtain rfl := Option.some.inj H
          have p129 : 0 ≤ (a1 : Int) := of_decide_eq_true (by first | (with_reducible assumption) | assumption)
          have q129 : a1 < (l0.length : Int) := of_decide_eq_true (by first | (with_reducible assumption) | assumption)
          obtain ⟨ad129, e129, hx129_0⟩ := Kd.at_int HR0.out a1 p129 q129
          cases e129
          replace p129 := eq_true p129
          replace q129 := eq_true q129
          go_enter Tryd.func53, Tryd.ntmps53
          go_wp2
          go_ret
          exact ⟨by first | rfl | (simp; done) | (simp [*]; done), by repeat (first | exact Drawn0.refl _ | apply Drawn0.step)⟩
        · rw [if_neg c6] at H
          exact absurd H (by simp)
      · rw [if_neg c5] at H
        exact absurd H (by simp)

/-! ### emenderref28_blank: function 54 -/
def emenderref28_blank.f (a0 : Int) : Option (Bool) := if a0 = 32 then (some true) else (some (a0 == 9))
set_option maxHeartbeats 8000000 in
set_option maxRecDepth 100000 in
theorem emenderref28_blank.calls (a0 : Int) (r : Bool) (w : World) (h : emenderref28_blank.f a0 = some r) :
    Calls Tryd.prog 54 #[.int .i64 a0] w fun e w' => e = .returned (.bool r) ∧ Drawn0 w w' := by
  have H : (if a0 = 32 then (some true) else (some (a0 == 9))) = some r := h
  clear h
  by_cases c2 : a0 = 32
  · rw [if_pos c2] at H
    have c2b0 : (a0 == 32) = true := beq_iff_eq.mpr c2
    have c2b1 : (a0 != 32) = false := bne_eq_false_iff_eq.mpr c2
    clear c2
    obtain rfl := Option.some.inj H
    go_enter Tryd.func54, Tryd.ntmps54
    go_wp2
    go_ret
    exact ⟨by first | rfl | (simp; done) | (simp [*]; done), by repeat (first | exact Drawn0.refl _ | apply Drawn0.step)⟩
  · rw [if_neg c2] at H
    have c2b0 : (a0 == 32) = false := beq_eq_false_iff_ne.mpr c2
    have c2b1 : (a0 != 32) = true := bne_iff_ne.mpr c2
    obtain rfl := Option.some.inj H
    go_enter Tryd.func54, Tryd.ntmps54
    go_wp2
    go_ret
    exact ⟨by first | rfl | (simp; done) | (simp [*]; done), by repeat (first | exact Drawn0.refl _ | apply Drawn0.step)⟩

end Go.Proofs.YtfnafjohfmlniaaDoor.PCs
-- Written for this claim by a program (the kit's print, with hand-made contracts for what it does not take).
namespace Go.Proofs.YtfnafjohfmlniaaDoor.PCs
open Go.RowKit Go.Proofs.YtfnafjohfmlniaaDoorW.PrintWords Go.Proofs.YtfnafjohfmlniaaDoorW.PrintLast Go.Proofs.YtfnafjohfmlniaaDoorW.PrintMore
attribute [local go_sem] max2_int min2_int max_two min_two max_three min_three max_four min_four   -- for this text's walks alone
set_option linter.unusedVariables false
set_option linter.unusedSimpArgs false

/-! ### emenderref28_run: function 44 -/
/-! ### The document's run at a place -/
def emenderref28_run.at (p : List Int) (i : Int) : Int := if i < 0 then 32 else if (p.length : Int) ≤ i then 32 else rd p i
theorem emenderref28_run.around (p : List Int) (i : Int) : emenderref28_around.f p i = some (emenderref28_run.at p i) := by
  unfold emenderref28_around.f emenderref28_run.at
  by_cases h : i < 0
  · rw [if_pos h, if_pos h]
  · rw [if_neg h, if_neg h]
    by_cases h2 : (p.length : Int) ≤ i
    · rw [if_pos h2, if_pos h2]
    · rw [if_neg (by omega), if_neg h2, if_pos (by omega), if_pos (by omega)]
theorem refSign (c : Int) : emenderref28_sign.f c = some (sg c) := by
  have hs : sg c = decide ((33 ≤ c ∧ c ≤ 47) ∨ (58 ≤ c ∧ c ≤ 64) ∨ (91 ≤ c ∧ c ≤ 96) ∨ (123 ≤ c ∧ c ≤ 126)) := by
    unfold sg
    rw [Bool.eq_iff_iff]
    simp only [Bool.and_eq_true, Bool.not_eq_true', Bool.and_eq_false_imp, decide_eq_true_eq, decide_eq_false_iff_not]
    omega
  rw [hs]
  unfold emenderref28_sign.f
  repeat' split
  all_goals (congr 1; rw [Bool.eq_iff_iff]; simp only [decide_eq_true_eq, true_iff, Bool.false_eq_true, false_iff]; omega)
theorem refBlank (c : Int) : emenderref28_blank.f c = some (bl c) := by
  unfold emenderref28_blank.f bl
  by_cases h : c = 32
  · rw [if_pos h, decide_eq_true h]; rfl
  · rw [if_neg h, decide_eq_false h, Bool.false_or]; rfl
def emenderref28_run.f (p : List Int) (i n pl : Int) : S38 :=
  common_run.mk pl n (rd p i) (bl (emenderref28_run.at p (i - 1))) (sg (emenderref28_run.at p (i - 1))) (bl (emenderref28_run.at p (i + n))) (sg (emenderref28_run.at p (i + n)))
def encRef (r : S38) : Array Value := #[.int .i64 r.f0, .int .i64 r.f1, .int .u8 r.f2, .bool r.f3, .bool r.f4]
set_option maxRecDepth 100000 in
set_option maxHeartbeats 16000000 in
theorem emenderref28_run.calls (A0 : Option Addr) (c0 : Nat) (p : List Int) (i n pl : Int) (w : World) (hr0 : Kd.C (Kd.int .i64) w A0 p.length p) (hc0 : p.length ≤ c0) (hp : p.length ≤ 4000) (h0 : 0 ≤ i) (h1 : i < (p.length : Int)) (hn : 0 ≤ n ∧ n ≤ 4000) (hc : rd p i = 42 ∨ rd p i = 95) :
    Calls Tryd.prog 44 #[.slice A0 p.length c0, .int .i64 i, .int .i64 n, .int .i64 pl] w fun e w' => e = .returned (.agg (encRef (emenderref28_run.f p i n pl))) ∧ Below w.heap.size w w' := by
  have hu39 := Tryd.underlying39
  have HR := Aside0.mk hr0
  have HC := Aside0.mk hc0
  have HB := Aside0.mk (Below.refl w.heap.size w)
  have hw1 : wrap64 (i - 1) = i - 1 := by unfold wrap64; omega
  have hw2 : wrap64 (i + n) = i + n := by unfold wrap64; omega
  unfold emenderref28_run.f
  have CA : Aside0 (∀ W, Kd.C (Kd.int .i64) W A0 p.length p → Calls Tryd.prog 53 #[.slice A0 p.length c0, .int .i64 (i - 1)] W fun e w' => e = .returned (.int .i64 (emenderref28_run.at p (i - 1))) ∧ Below W.heap.size W w') := ⟨fun W hW => (emenderref28_around.calls A0 c0 p (i - 1) _ W hW hc0 (emenderref28_run.around p _)).mono fun _ _ h => ⟨h.1, h.2.below⟩⟩
  have CD : Aside0 (∀ W, Kd.C (Kd.int .i64) W A0 p.length p → Calls Tryd.prog 53 #[.slice A0 p.length c0, .int .i64 (i + n)] W fun e w' => e = .returned (.int .i64 (emenderref28_run.at p (i + n))) ∧ Below W.heap.size W w') := ⟨fun W hW => (emenderref28_around.calls A0 c0 p (i + n) _ W hW hc0 (emenderref28_run.around p _)).mono fun _ _ h => ⟨h.1, h.2.below⟩⟩
  generalize emenderref28_run.at p (i - 1) = a at *
  generalize emenderref28_run.at p (i + n) = d at *
  have BA : Aside0 (∀ W : World, Calls Tryd.prog 54 #[.int .i64 a] W fun e w' => e = .returned (.bool (bl a)) ∧ Below W.heap.size W w') := ⟨fun W => (emenderref28_blank.calls a _ W (refBlank a)).mono fun _ _ h => ⟨h.1, h.2.below⟩⟩
  have BD : Aside0 (∀ W : World, Calls Tryd.prog 54 #[.int .i64 d] W fun e w' => e = .returned (.bool (bl d)) ∧ Below W.heap.size W w') := ⟨fun W => (emenderref28_blank.calls d _ W (refBlank d)).mono fun _ _ h => ⟨h.1, h.2.below⟩⟩
  have SA : Aside0 (∀ W : World, Calls Tryd.prog 40 #[.int .i64 a] W fun e w' => e = .returned (.bool (sg a)) ∧ Below W.heap.size W w') := ⟨fun W => (emenderref28_sign.calls a _ W (refSign a)).mono fun _ _ h => ⟨h.1, h.2.below⟩⟩
  have SD : Aside0 (∀ W : World, Calls Tryd.prog 40 #[.int .i64 d] W fun e w' => e = .returned (.bool (sg d)) ∧ Below W.heap.size W w') := ⟨fun W => (emenderref28_sign.calls d _ W (refSign d)).mono fun _ _ h => ⟨h.1, h.2.below⟩⟩
  generalize bl a = ba at *
  generalize bl d = bd at *
  generalize sg a = sa at *
  generalize sg d = sd at *
  obtain ⟨r, hr⟩ : ∃ r, r = common_run.mk pl n (rd p i) ba sa bd sd := ⟨_, rfl⟩
  rw [← hr]
  have RF := Aside0.mk hr
  clear hr
  obtain ⟨ad, eA, x0⟩ := Kd.at_int hr0 i h0 h1
  subst eA
  have X0 := Aside0.mk x0
  have i0t := eq_true h0
  have i1t := eq_true h1
  have HC95 := Aside0.mk hc
  clear hr0 hc0 hp hn x0 h0 h1 hc
  go_enter Tryd.func44, Tryd.ntmps44
  go_wp2_with (first | ((with_reducible refine gate_dst (N := 8) rfl ?_); refine box_event ?hg (N := 8) ?hd (cs := #[.int .i64 0, .int .i64 0, .int .u8 0, .bool false, .bool false]) (t := 39) ?hr ?_; (case hd => rfl); (case hg => rfl); (case hr => first | (go_simp; done) | (go_simp; rfl)); intro gb hg w8 hbox hb; have n0_ := Aside0.mk (below_step HB.out hb); have BK := Aside0.mk hbox; have GE : Aside0 (w.heap.size ≤ gb) := ⟨by rw [hg]; exact HB.out.size⟩; clear hb hbox hg HB; have HB := n0_; clear n0_))
  refine (CA.out _ (Kd.C_below HR.out HB.out)).mono ?_
  rintro e w0 ⟨rfl, hb⟩
  have n_ := Aside0.mk (below_step HB.out hb)
  have m_ := Aside0.mk (blk_below BK.out hb)
  clear HB hb BK
  have HB := n_
  have BK := m_
  clear n_ m_
  go_wp2_with fail
  refine (CD.out _ (Kd.C_below HR.out HB.out)).mono ?_
  rintro e w1 ⟨rfl, hb⟩
  have n_ := Aside0.mk (below_step HB.out hb)
  have m_ := Aside0.mk (blk_below BK.out hb)
  clear HB hb BK
  have HB := n_
  have BK := m_
  clear n_ m_
  go_upto_region 3 with (fail)
  (try simp only [Act.put, List.setIfInBounds_toArray, List.set_cons_zero, List.set_cons_succ])
  go_cut [11] (fun v11 wc => v11 = .bool (common_run.lf ba sa bd sd) ∧ Aside0 (wc.heap[gb]? = some (.cells #[.int .i64 0, .int .i64 0, .int .u8 0, .bool false, .bool false] 39 (0, 0))) ∧ Aside0 (Below w.heap.size w wc))
  case first =>
    cases bd with
    | true =>
      go_wp2_with fail
      refine (BD.out _).mono ?_
      rintro e w3 ⟨rfl, hb⟩
      have n_ := Aside0.mk (below_step HB.out hb)
      have m_ := Aside0.mk (blk_below BK.out hb)
      clear HB hb BK
      have HB := n_
      have BK := m_
      clear n_ m_
      go_wp2_with fail
      go_meet
      case rel => exact ⟨rfl, BK, HB⟩
    | false =>
      go_wp2_with fail
      refine (BD.out _).mono ?_
      rintro e w3 ⟨rfl, hb⟩
      have n_ := Aside0.mk (below_step HB.out hb)
      have m_ := Aside0.mk (blk_below BK.out hb)
      clear HB hb BK
      have HB := n_
      have BK := m_
      clear n_ m_
      cases sd with
      | false =>
        go_wp2_with fail
        refine (SD.out _).mono ?_
        rintro e w3 ⟨rfl, hb⟩
        have n_ := Aside0.mk (below_step HB.out hb)
        have m_ := Aside0.mk (blk_below BK.out hb)
        clear HB hb BK
        have HB := n_
        have BK := m_
        clear n_ m_
        go_wp2_with fail
        go_meet
        case rel => exact ⟨rfl, BK, HB⟩
      | true =>
        go_wp2_with fail
        refine (SD.out _).mono ?_
        rintro e w3 ⟨rfl, hb⟩
        have n_ := Aside0.mk (below_step HB.out hb)
        have m_ := Aside0.mk (blk_below BK.out hb)
        clear HB hb BK
        have HB := n_
        have BK := m_
        clear n_ m_
        cases ba with
        | true =>
          go_wp2_with fail
          refine (BA.out _).mono ?_
          rintro e w3 ⟨rfl, hb⟩
          have n_ := Aside0.mk (below_step HB.out hb)
          have m_ := Aside0.mk (blk_below BK.out hb)
          clear HB hb BK
          have HB := n_
          have BK := m_
          clear n_ m_
          go_wp2_with fail
          go_meet
          case rel => exact ⟨rfl, BK, HB⟩
        | false =>
          go_wp2_with fail
          refine (BA.out _).mono ?_
          rintro e w3 ⟨rfl, hb⟩
          have n_ := Aside0.mk (below_step HB.out hb)
          have m_ := Aside0.mk (blk_below BK.out hb)
          clear HB hb BK
          have HB := n_
          have BK := m_
          clear n_ m_
          go_wp2_with fail
          refine (SA.out _).mono ?_
          rintro e w3 ⟨rfl, hb⟩
          have n_ := Aside0.mk (below_step HB.out hb)
          have m_ := Aside0.mk (blk_below BK.out hb)
          clear HB hb BK
          have HB := n_
          have BK := m_
          clear n_ m_
          cases sa with
          | true =>
            go_wp2_with fail
            go_meet
            case rel => exact ⟨rfl, BK, HB⟩
          | false =>
            go_wp2_with fail
            go_meet
            case rel => exact ⟨rfl, BK, HB⟩
  case rest =>
    clear BK HB
    obtain ⟨rfl, BK, HB⟩ := hcut
    go_upto_region 4 with (fail)
    go_cut [12] (fun v12 wc => v12 = .bool (common_run.lf bd sd ba sa) ∧ Aside0 (wc.heap[gb]? = some (.cells #[.int .i64 0, .int .i64 0, .int .u8 0, .bool false, .bool false] 39 (0, 0))) ∧ Aside0 (Below w.heap.size w wc))
    case first =>
      cases ba with
      | true =>
        go_wp2_with fail
        refine (BA.out _).mono ?_
        rintro e w3 ⟨rfl, hb⟩
        have n_ := Aside0.mk (below_step HB.out hb)
        have m_ := Aside0.mk (blk_below BK.out hb)
        clear HB hb BK
        have HB := n_
        have BK := m_
        clear n_ m_
        go_wp2_with fail
        go_meet
        case rel => exact ⟨rfl, BK, HB⟩
      | false =>
        go_wp2_with fail
        refine (BA.out _).mono ?_
        rintro e w3 ⟨rfl, hb⟩
        have n_ := Aside0.mk (below_step HB.out hb)
        have m_ := Aside0.mk (blk_below BK.out hb)
        clear HB hb BK
        have HB := n_
        have BK := m_
        clear n_ m_
        cases sa with
        | false =>
          go_wp2_with fail
          refine (SA.out _).mono ?_
          rintro e w3 ⟨rfl, hb⟩
          have n_ := Aside0.mk (below_step HB.out hb)
          have m_ := Aside0.mk (blk_below BK.out hb)
          clear HB hb BK
          have HB := n_
          have BK := m_
          clear n_ m_
          go_wp2_with fail
          go_meet
          case rel => exact ⟨rfl, BK, HB⟩
        | true =>
          go_wp2_with fail
          refine (SA.out _).mono ?_
          rintro e w3 ⟨rfl, hb⟩
          have n_ := Aside0.mk (below_step HB.out hb)
          have m_ := Aside0.mk (blk_below BK.out hb)
          clear HB hb BK
          have HB := n_
          have BK := m_
          clear n_ m_
          cases bd with
          | true =>
            go_wp2_with fail
            refine (BD.out _).mono ?_
            rintro e w3 ⟨rfl, hb⟩
            have n_ := Aside0.mk (below_step HB.out hb)
            have m_ := Aside0.mk (blk_below BK.out hb)
            clear HB hb BK
            have HB := n_
            have BK := m_
            clear n_ m_
            go_wp2_with fail
            go_meet
            case rel => exact ⟨rfl, BK, HB⟩
          | false =>
            go_wp2_with fail
            refine (BD.out _).mono ?_
            rintro e w3 ⟨rfl, hb⟩
            have n_ := Aside0.mk (below_step HB.out hb)
            have m_ := Aside0.mk (blk_below BK.out hb)
            clear HB hb BK
            have HB := n_
            have BK := m_
            clear n_ m_
            go_wp2_with fail
            refine (SD.out _).mono ?_
            rintro e w3 ⟨rfl, hb⟩
            have n_ := Aside0.mk (below_step HB.out hb)
            have m_ := Aside0.mk (blk_below BK.out hb)
            clear HB hb BK
            have HB := n_
            have BK := m_
            clear n_ m_
            cases sd with
            | true =>
              go_wp2_with fail
              go_meet
              case rel => exact ⟨rfl, BK, HB⟩
            | false =>
              go_wp2_with fail
              go_meet
              case rel => exact ⟨rfl, BK, HB⟩
    case rest =>
      clear BK HB
      obtain ⟨rfl, BK, HB⟩ := hcut
      have RF2 := Aside0.mk (show r = if rd p i = 95 then ⟨pl, n, rd p i, common_run.lf ba sa bd sd && (!(common_run.lf bd sd ba sa) || sa), common_run.lf bd sd ba sa && (!(common_run.lf ba sa bd sd) || sd)⟩ else ⟨pl, n, rd p i, common_run.lf ba sa bd sd, common_run.lf bd sd ba sa⟩ from RF.out)
      clear RF
      generalize common_run.lf ba sa bd sd = lf at *
      generalize common_run.lf bd sd ba sa = rg at *
      have x0 := (HB.out.cell (World.block_lt_of_cell? w _ X0.out)).trans X0.out
      rcases HC95.out with h42 | h95
      · have RF := Aside0.mk (show r = ⟨pl, n, 42, lf, rg⟩ from RF2.out.trans (by rw [h42]; exact if_neg (by decide)))
        clear RF2
        rw [h42] at x0
        clear h42
        have x1 := ((below_alloc (Below.refl _ wc) (.cells #[.int .i64 pl, .int .i64 n, .int .u8 42, .bool lf, .bool rg] 39)).cell (World.block_lt_of_cell? wc _ x0)).trans x0
        go_upto_region 6 with (fail)
        have BX := Aside0.mk (blk_new wc (.cells #[.int .i64 pl, .int .i64 n, .int .u8 42, .bool lf, .bool rg] 39))
        have BK2 := Aside0.mk (blk_alloc BK.out (.cells #[.int .i64 pl, .int .i64 n, .int .u8 42, .bool lf, .bool rg] 39))
        have HB2 := Aside0.mk (below_alloc HB.out (.cells #[.int .i64 pl, .int .i64 n, .int .u8 42, .bool lf, .bool rg] 39))
        have NE : Aside0 (gb ≠ wc.heap.size) := ⟨Nat.ne_of_lt (blk_lt BK.out)⟩
        have GX : Aside0 (w.heap.size ≤ wc.heap.size) := ⟨HB.out.size⟩
        clear HB BK x0
        generalize wc.alloc (.cells #[.int .i64 pl, .int .i64 n, .int .u8 42, .bool lf, .bool rg] 39) = w5 at *
        generalize wc.heap.size = gx at *
        go_upto_region 9 with (fail)
        clear x1
        have y0 := (blk_cell BX.out 0).trans (show _ = some (.int .i64 pl) from rfl)
        have y1 := (blk_cell BX.out 1).trans (show _ = some (.int .i64 n) from rfl)
        have y2 := (blk_cell BX.out 2).trans (show _ = some (.int .u8 42) from rfl)
        have y3 := (blk_cell BX.out 3).trans (show _ = some (.bool lf) from rfl)
        have y4 := (blk_cell BX.out 4).trans (show _ = some (.bool rg) from rfl)
        have b0 : (w5).heap[gb]? = some (.cells #[.int .i64 0, .int .i64 0, .int .u8 0, .bool false, .bool false] 39 (0, 0)) := BK2.out
        have f0 := blk_frozen b0 0
        have g0 := (blk_cell b0 0).trans (show _ = some (.int .i64 0) from rfl)
        have b1 : ((w5).setCell ⟨gb, 0, none⟩ (.int .i64 pl)).heap[gb]? = some (.cells #[.int .i64 pl, .int .i64 0, .int .u8 0, .bool false, .bool false] 39 (0, 0)) := blk_put b0 0 _ rfl
        have f1 := blk_frozen b1 1
        have g1 := (blk_cell b1 1).trans (show _ = some (.int .i64 0) from rfl)
        have b2 : (((w5).setCell ⟨gb, 0, none⟩ (.int .i64 pl)).setCell ⟨gb, 1, none⟩ (.int .i64 n)).heap[gb]? = some (.cells #[.int .i64 pl, .int .i64 n, .int .u8 0, .bool false, .bool false] 39 (0, 0)) := blk_put b1 1 _ rfl
        have f2 := blk_frozen b2 2
        have g2 := (blk_cell b2 2).trans (show _ = some (.int .u8 0) from rfl)
        have b3 : ((((w5).setCell ⟨gb, 0, none⟩ (.int .i64 pl)).setCell ⟨gb, 1, none⟩ (.int .i64 n)).setCell ⟨gb, 2, none⟩ (.int .u8 42)).heap[gb]? = some (.cells #[.int .i64 pl, .int .i64 n, .int .u8 42, .bool false, .bool false] 39 (0, 0)) := blk_put b2 2 _ rfl
        have f3 := blk_frozen b3 3
        have g3 := (blk_cell b3 3).trans (show _ = some (.bool false) from rfl)
        have b4 : (((((w5).setCell ⟨gb, 0, none⟩ (.int .i64 pl)).setCell ⟨gb, 1, none⟩ (.int .i64 n)).setCell ⟨gb, 2, none⟩ (.int .u8 42)).setCell ⟨gb, 3, none⟩ (.bool lf)).heap[gb]? = some (.cells #[.int .i64 pl, .int .i64 n, .int .u8 42, .bool lf, .bool false] 39 (0, 0)) := blk_put b3 3 _ rfl
        have f4 := blk_frozen b4 4
        have g4 := (blk_cell b4 4).trans (show _ = some (.bool false) from rfl)
        have b5 : ((((((w5).setCell ⟨gb, 0, none⟩ (.int .i64 pl)).setCell ⟨gb, 1, none⟩ (.int .i64 n)).setCell ⟨gb, 2, none⟩ (.int .u8 42)).setCell ⟨gb, 3, none⟩ (.bool lf)).setCell ⟨gb, 4, none⟩ (.bool rg)).heap[gb]? = some (.cells #[.int .i64 pl, .int .i64 n, .int .u8 42, .bool lf, .bool rg] 39 (0, 0)) := blk_put b4 4 _ rfl
        have B5 := Aside0.mk b5
        clear b0 b1 b2 b3 b4 b5
        go_wp2
        refine bodyPost_ret (results_cell_row rfl _ _ gb 39 #[.int .i64 pl, .int .i64 n, .int .u8 42, .bool lf, .bool rg] (0, 0) _ rfl B5.out Tryd.underlying39 rfl (by kernel_rfl)) rfl ?_
        exact ⟨by rw [RF.out]; rfl, by repeat (first | exact HB2.out | refine below_set ?_ GE.out)⟩
      · have RF := Aside0.mk (show r = ⟨pl, n, 95, lf && (!rg || sa), rg && (!lf || sd)⟩ from RF2.out.trans (by rw [h95]; exact if_pos rfl))
        clear RF2
        rw [h95] at x0
        clear h95
        cases lf with
        | false =>
          cases rg with
          | false =>
            have x1 := ((below_alloc (Below.refl _ wc) (.cells #[.int .i64 pl, .int .i64 n, .int .u8 95, .bool false, .bool false] 39)).cell (World.block_lt_of_cell? wc _ x0)).trans x0
            go_upto_region 6 with (fail)
            have BX := Aside0.mk (blk_new wc (.cells #[.int .i64 pl, .int .i64 n, .int .u8 95, .bool false, .bool false] 39))
            have BK2 := Aside0.mk (blk_alloc BK.out (.cells #[.int .i64 pl, .int .i64 n, .int .u8 95, .bool false, .bool false] 39))
            have HB2 := Aside0.mk (below_alloc HB.out (.cells #[.int .i64 pl, .int .i64 n, .int .u8 95, .bool false, .bool false] 39))
            have NE : Aside0 (gb ≠ wc.heap.size) := ⟨Nat.ne_of_lt (blk_lt BK.out)⟩
            have GX : Aside0 (w.heap.size ≤ wc.heap.size) := ⟨HB.out.size⟩
            clear HB BK x0
            generalize wc.alloc (.cells #[.int .i64 pl, .int .i64 n, .int .u8 95, .bool false, .bool false] 39) = w5 at *
            generalize wc.heap.size = gx at *
            go_upto_region 7 with (fail)
            clear x1
            have fz := blk_frozen BX.out 3
            have fy := (blk_cell BX.out 3).trans (show _ = some (.bool false) from rfl)
            go_upto_region 8 with (fail)
            have BX3 := Aside0.mk (blk_put BX.out 3 (.bool false) rfl)
            have BK3 := Aside0.mk (blk_far BK2.out (p := ⟨gx, 3, none⟩) NE.out (.bool false))
            have HB3 := Aside0.mk (below_set (j := 3) (v := .bool false) HB2.out GX.out)
            clear BX BK2 HB2 fz fy
            have BX := BX3
            have BK2 := BK3
            have HB2 := HB3
            clear BX3 BK3 HB3
            generalize w5.setCell ⟨gx, 3, none⟩ (.bool false) = w7 at *
            have fz := blk_frozen BX.out 4
            have fy := (blk_cell BX.out 4).trans (show _ = some (.bool false) from rfl)
            go_upto_region 9 with (fail)
            have BX3 := Aside0.mk (blk_put BX.out 4 (.bool false) rfl)
            have BK3 := Aside0.mk (blk_far BK2.out (p := ⟨gx, 4, none⟩) NE.out (.bool false))
            have HB3 := Aside0.mk (below_set (j := 4) (v := .bool false) HB2.out GX.out)
            clear BX BK2 HB2 fz fy
            have BX := BX3
            have BK2 := BK3
            have HB2 := HB3
            clear BX3 BK3 HB3
            generalize w7.setCell ⟨gx, 4, none⟩ (.bool false) = w9 at *
            have y0 := (blk_cell BX.out 0).trans (show _ = some (.int .i64 pl) from rfl)
            have y1 := (blk_cell BX.out 1).trans (show _ = some (.int .i64 n) from rfl)
            have y2 := (blk_cell BX.out 2).trans (show _ = some (.int .u8 95) from rfl)
            have y3 := (blk_cell BX.out 3).trans (show _ = some (.bool false) from rfl)
            have y4 := (blk_cell BX.out 4).trans (show _ = some (.bool false) from rfl)
            have b0 : (w9).heap[gb]? = some (.cells #[.int .i64 0, .int .i64 0, .int .u8 0, .bool false, .bool false] 39 (0, 0)) := BK2.out
            have f0 := blk_frozen b0 0
            have g0 := (blk_cell b0 0).trans (show _ = some (.int .i64 0) from rfl)
            have b1 : ((w9).setCell ⟨gb, 0, none⟩ (.int .i64 pl)).heap[gb]? = some (.cells #[.int .i64 pl, .int .i64 0, .int .u8 0, .bool false, .bool false] 39 (0, 0)) := blk_put b0 0 _ rfl
            have f1 := blk_frozen b1 1
            have g1 := (blk_cell b1 1).trans (show _ = some (.int .i64 0) from rfl)
            have b2 : (((w9).setCell ⟨gb, 0, none⟩ (.int .i64 pl)).setCell ⟨gb, 1, none⟩ (.int .i64 n)).heap[gb]? = some (.cells #[.int .i64 pl, .int .i64 n, .int .u8 0, .bool false, .bool false] 39 (0, 0)) := blk_put b1 1 _ rfl
            have f2 := blk_frozen b2 2
            have g2 := (blk_cell b2 2).trans (show _ = some (.int .u8 0) from rfl)
            have b3 : ((((w9).setCell ⟨gb, 0, none⟩ (.int .i64 pl)).setCell ⟨gb, 1, none⟩ (.int .i64 n)).setCell ⟨gb, 2, none⟩ (.int .u8 95)).heap[gb]? = some (.cells #[.int .i64 pl, .int .i64 n, .int .u8 95, .bool false, .bool false] 39 (0, 0)) := blk_put b2 2 _ rfl
            have f3 := blk_frozen b3 3
            have g3 := (blk_cell b3 3).trans (show _ = some (.bool false) from rfl)
            have b4 : (((((w9).setCell ⟨gb, 0, none⟩ (.int .i64 pl)).setCell ⟨gb, 1, none⟩ (.int .i64 n)).setCell ⟨gb, 2, none⟩ (.int .u8 95)).setCell ⟨gb, 3, none⟩ (.bool false)).heap[gb]? = some (.cells #[.int .i64 pl, .int .i64 n, .int .u8 95, .bool false, .bool false] 39 (0, 0)) := blk_put b3 3 _ rfl
            have f4 := blk_frozen b4 4
            have g4 := (blk_cell b4 4).trans (show _ = some (.bool false) from rfl)
            have b5 : ((((((w9).setCell ⟨gb, 0, none⟩ (.int .i64 pl)).setCell ⟨gb, 1, none⟩ (.int .i64 n)).setCell ⟨gb, 2, none⟩ (.int .u8 95)).setCell ⟨gb, 3, none⟩ (.bool false)).setCell ⟨gb, 4, none⟩ (.bool false)).heap[gb]? = some (.cells #[.int .i64 pl, .int .i64 n, .int .u8 95, .bool false, .bool false] 39 (0, 0)) := blk_put b4 4 _ rfl
            have B5 := Aside0.mk b5
            clear b0 b1 b2 b3 b4 b5
            go_wp2
            refine bodyPost_ret (results_cell_row rfl _ _ gb 39 #[.int .i64 pl, .int .i64 n, .int .u8 95, .bool false, .bool false] (0, 0) _ rfl B5.out Tryd.underlying39 rfl (by kernel_rfl)) rfl ?_
            exact ⟨by rw [RF.out]; rfl, by repeat (first | exact HB2.out | refine below_set ?_ GE.out)⟩
          | true =>
            have x1 := ((below_alloc (Below.refl _ wc) (.cells #[.int .i64 pl, .int .i64 n, .int .u8 95, .bool false, .bool true] 39)).cell (World.block_lt_of_cell? wc _ x0)).trans x0
            go_upto_region 6 with (fail)
            have BX := Aside0.mk (blk_new wc (.cells #[.int .i64 pl, .int .i64 n, .int .u8 95, .bool false, .bool true] 39))
            have BK2 := Aside0.mk (blk_alloc BK.out (.cells #[.int .i64 pl, .int .i64 n, .int .u8 95, .bool false, .bool true] 39))
            have HB2 := Aside0.mk (below_alloc HB.out (.cells #[.int .i64 pl, .int .i64 n, .int .u8 95, .bool false, .bool true] 39))
            have NE : Aside0 (gb ≠ wc.heap.size) := ⟨Nat.ne_of_lt (blk_lt BK.out)⟩
            have GX : Aside0 (w.heap.size ≤ wc.heap.size) := ⟨HB.out.size⟩
            clear HB BK x0
            generalize wc.alloc (.cells #[.int .i64 pl, .int .i64 n, .int .u8 95, .bool false, .bool true] 39) = w5 at *
            generalize wc.heap.size = gx at *
            go_upto_region 7 with (fail)
            clear x1
            have fz := blk_frozen BX.out 3
            have fy := (blk_cell BX.out 3).trans (show _ = some (.bool false) from rfl)
            go_upto_region 8 with (fail)
            have BX3 := Aside0.mk (blk_put BX.out 3 (.bool false) rfl)
            have BK3 := Aside0.mk (blk_far BK2.out (p := ⟨gx, 3, none⟩) NE.out (.bool false))
            have HB3 := Aside0.mk (below_set (j := 3) (v := .bool false) HB2.out GX.out)
            clear BX BK2 HB2 fz fy
            have BX := BX3
            have BK2 := BK3
            have HB2 := HB3
            clear BX3 BK3 HB3
            generalize w5.setCell ⟨gx, 3, none⟩ (.bool false) = w7 at *
            have fz := blk_frozen BX.out 4
            have fy := (blk_cell BX.out 4).trans (show _ = some (.bool true) from rfl)
            go_upto_region 9 with (fail)
            have BX3 := Aside0.mk (blk_put BX.out 4 (.bool true) rfl)
            have BK3 := Aside0.mk (blk_far BK2.out (p := ⟨gx, 4, none⟩) NE.out (.bool true))
            have HB3 := Aside0.mk (below_set (j := 4) (v := .bool true) HB2.out GX.out)
            clear BX BK2 HB2 fz fy
            have BX := BX3
            have BK2 := BK3
            have HB2 := HB3
            clear BX3 BK3 HB3
            generalize w7.setCell ⟨gx, 4, none⟩ (.bool true) = w9 at *
            have y0 := (blk_cell BX.out 0).trans (show _ = some (.int .i64 pl) from rfl)
            have y1 := (blk_cell BX.out 1).trans (show _ = some (.int .i64 n) from rfl)
            have y2 := (blk_cell BX.out 2).trans (show _ = some (.int .u8 95) from rfl)
            have y3 := (blk_cell BX.out 3).trans (show _ = some (.bool false) from rfl)
            have y4 := (blk_cell BX.out 4).trans (show _ = some (.bool true) from rfl)
            have b0 : (w9).heap[gb]? = some (.cells #[.int .i64 0, .int .i64 0, .int .u8 0, .bool false, .bool false] 39 (0, 0)) := BK2.out
            have f0 := blk_frozen b0 0
            have g0 := (blk_cell b0 0).trans (show _ = some (.int .i64 0) from rfl)
            have b1 : ((w9).setCell ⟨gb, 0, none⟩ (.int .i64 pl)).heap[gb]? = some (.cells #[.int .i64 pl, .int .i64 0, .int .u8 0, .bool false, .bool false] 39 (0, 0)) := blk_put b0 0 _ rfl
            have f1 := blk_frozen b1 1
            have g1 := (blk_cell b1 1).trans (show _ = some (.int .i64 0) from rfl)
            have b2 : (((w9).setCell ⟨gb, 0, none⟩ (.int .i64 pl)).setCell ⟨gb, 1, none⟩ (.int .i64 n)).heap[gb]? = some (.cells #[.int .i64 pl, .int .i64 n, .int .u8 0, .bool false, .bool false] 39 (0, 0)) := blk_put b1 1 _ rfl
            have f2 := blk_frozen b2 2
            have g2 := (blk_cell b2 2).trans (show _ = some (.int .u8 0) from rfl)
            have b3 : ((((w9).setCell ⟨gb, 0, none⟩ (.int .i64 pl)).setCell ⟨gb, 1, none⟩ (.int .i64 n)).setCell ⟨gb, 2, none⟩ (.int .u8 95)).heap[gb]? = some (.cells #[.int .i64 pl, .int .i64 n, .int .u8 95, .bool false, .bool false] 39 (0, 0)) := blk_put b2 2 _ rfl
            have f3 := blk_frozen b3 3
            have g3 := (blk_cell b3 3).trans (show _ = some (.bool false) from rfl)
            have b4 : (((((w9).setCell ⟨gb, 0, none⟩ (.int .i64 pl)).setCell ⟨gb, 1, none⟩ (.int .i64 n)).setCell ⟨gb, 2, none⟩ (.int .u8 95)).setCell ⟨gb, 3, none⟩ (.bool false)).heap[gb]? = some (.cells #[.int .i64 pl, .int .i64 n, .int .u8 95, .bool false, .bool false] 39 (0, 0)) := blk_put b3 3 _ rfl
            have f4 := blk_frozen b4 4
            have g4 := (blk_cell b4 4).trans (show _ = some (.bool false) from rfl)
            have b5 : ((((((w9).setCell ⟨gb, 0, none⟩ (.int .i64 pl)).setCell ⟨gb, 1, none⟩ (.int .i64 n)).setCell ⟨gb, 2, none⟩ (.int .u8 95)).setCell ⟨gb, 3, none⟩ (.bool false)).setCell ⟨gb, 4, none⟩ (.bool true)).heap[gb]? = some (.cells #[.int .i64 pl, .int .i64 n, .int .u8 95, .bool false, .bool true] 39 (0, 0)) := blk_put b4 4 _ rfl
            have B5 := Aside0.mk b5
            clear b0 b1 b2 b3 b4 b5
            go_wp2
            refine bodyPost_ret (results_cell_row rfl _ _ gb 39 #[.int .i64 pl, .int .i64 n, .int .u8 95, .bool false, .bool true] (0, 0) _ rfl B5.out Tryd.underlying39 rfl (by kernel_rfl)) rfl ?_
            exact ⟨by rw [RF.out]; rfl, by repeat (first | exact HB2.out | refine below_set ?_ GE.out)⟩
        | true =>
          cases rg with
          | false =>
            have x1 := ((below_alloc (Below.refl _ wc) (.cells #[.int .i64 pl, .int .i64 n, .int .u8 95, .bool true, .bool false] 39)).cell (World.block_lt_of_cell? wc _ x0)).trans x0
            go_upto_region 6 with (fail)
            have BX := Aside0.mk (blk_new wc (.cells #[.int .i64 pl, .int .i64 n, .int .u8 95, .bool true, .bool false] 39))
            have BK2 := Aside0.mk (blk_alloc BK.out (.cells #[.int .i64 pl, .int .i64 n, .int .u8 95, .bool true, .bool false] 39))
            have HB2 := Aside0.mk (below_alloc HB.out (.cells #[.int .i64 pl, .int .i64 n, .int .u8 95, .bool true, .bool false] 39))
            have NE : Aside0 (gb ≠ wc.heap.size) := ⟨Nat.ne_of_lt (blk_lt BK.out)⟩
            have GX : Aside0 (w.heap.size ≤ wc.heap.size) := ⟨HB.out.size⟩
            clear HB BK x0
            generalize wc.alloc (.cells #[.int .i64 pl, .int .i64 n, .int .u8 95, .bool true, .bool false] 39) = w5 at *
            generalize wc.heap.size = gx at *
            go_upto_region 7 with (fail)
            clear x1
            have fz := blk_frozen BX.out 3
            have fy := (blk_cell BX.out 3).trans (show _ = some (.bool true) from rfl)
            go_upto_region 8 with (fail)
            have BX3 := Aside0.mk (blk_put BX.out 3 (.bool true) rfl)
            have BK3 := Aside0.mk (blk_far BK2.out (p := ⟨gx, 3, none⟩) NE.out (.bool true))
            have HB3 := Aside0.mk (below_set (j := 3) (v := .bool true) HB2.out GX.out)
            clear BX BK2 HB2 fz fy
            have BX := BX3
            have BK2 := BK3
            have HB2 := HB3
            clear BX3 BK3 HB3
            generalize w5.setCell ⟨gx, 3, none⟩ (.bool true) = w7 at *
            have fz := blk_frozen BX.out 4
            have fy := (blk_cell BX.out 4).trans (show _ = some (.bool false) from rfl)
            go_upto_region 9 with (fail)
            have BX3 := Aside0.mk (blk_put BX.out 4 (.bool false) rfl)
            have BK3 := Aside0.mk (blk_far BK2.out (p := ⟨gx, 4, none⟩) NE.out (.bool false))
            have HB3 := Aside0.mk (below_set (j := 4) (v := .bool false) HB2.out GX.out)
            clear BX BK2 HB2 fz fy
            have BX := BX3
            have BK2 := BK3
            have HB2 := HB3
            clear BX3 BK3 HB3
            generalize w7.setCell ⟨gx, 4, none⟩ (.bool false) = w9 at *
            have y0 := (blk_cell BX.out 0).trans (show _ = some (.int .i64 pl) from rfl)
            have y1 := (blk_cell BX.out 1).trans (show _ = some (.int .i64 n) from rfl)
            have y2 := (blk_cell BX.out 2).trans (show _ = some (.int .u8 95) from rfl)
            have y3 := (blk_cell BX.out 3).trans (show _ = some (.bool true) from rfl)
            have y4 := (blk_cell BX.out 4).trans (show _ = some (.bool false) from rfl)
            have b0 : (w9).heap[gb]? = some (.cells #[.int .i64 0, .int .i64 0, .int .u8 0, .bool false, .bool false] 39 (0, 0)) := BK2.out
            have f0 := blk_frozen b0 0
            have g0 := (blk_cell b0 0).trans (show _ = some (.int .i64 0) from rfl)
            have b1 : ((w9).setCell ⟨gb, 0, none⟩ (.int .i64 pl)).heap[gb]? = some (.cells #[.int .i64 pl, .int .i64 0, .int .u8 0, .bool false, .bool false] 39 (0, 0)) := blk_put b0 0 _ rfl
            have f1 := blk_frozen b1 1
            have g1 := (blk_cell b1 1).trans (show _ = some (.int .i64 0) from rfl)
            have b2 : (((w9).setCell ⟨gb, 0, none⟩ (.int .i64 pl)).setCell ⟨gb, 1, none⟩ (.int .i64 n)).heap[gb]? = some (.cells #[.int .i64 pl, .int .i64 n, .int .u8 0, .bool false, .bool false] 39 (0, 0)) := blk_put b1 1 _ rfl
            have f2 := blk_frozen b2 2
            have g2 := (blk_cell b2 2).trans (show _ = some (.int .u8 0) from rfl)
            have b3 : ((((w9).setCell ⟨gb, 0, none⟩ (.int .i64 pl)).setCell ⟨gb, 1, none⟩ (.int .i64 n)).setCell ⟨gb, 2, none⟩ (.int .u8 95)).heap[gb]? = some (.cells #[.int .i64 pl, .int .i64 n, .int .u8 95, .bool false, .bool false] 39 (0, 0)) := blk_put b2 2 _ rfl
            have f3 := blk_frozen b3 3
            have g3 := (blk_cell b3 3).trans (show _ = some (.bool false) from rfl)
            have b4 : (((((w9).setCell ⟨gb, 0, none⟩ (.int .i64 pl)).setCell ⟨gb, 1, none⟩ (.int .i64 n)).setCell ⟨gb, 2, none⟩ (.int .u8 95)).setCell ⟨gb, 3, none⟩ (.bool true)).heap[gb]? = some (.cells #[.int .i64 pl, .int .i64 n, .int .u8 95, .bool true, .bool false] 39 (0, 0)) := blk_put b3 3 _ rfl
            have f4 := blk_frozen b4 4
            have g4 := (blk_cell b4 4).trans (show _ = some (.bool false) from rfl)
            have b5 : ((((((w9).setCell ⟨gb, 0, none⟩ (.int .i64 pl)).setCell ⟨gb, 1, none⟩ (.int .i64 n)).setCell ⟨gb, 2, none⟩ (.int .u8 95)).setCell ⟨gb, 3, none⟩ (.bool true)).setCell ⟨gb, 4, none⟩ (.bool false)).heap[gb]? = some (.cells #[.int .i64 pl, .int .i64 n, .int .u8 95, .bool true, .bool false] 39 (0, 0)) := blk_put b4 4 _ rfl
            have B5 := Aside0.mk b5
            clear b0 b1 b2 b3 b4 b5
            go_wp2
            refine bodyPost_ret (results_cell_row rfl _ _ gb 39 #[.int .i64 pl, .int .i64 n, .int .u8 95, .bool true, .bool false] (0, 0) _ rfl B5.out Tryd.underlying39 rfl (by kernel_rfl)) rfl ?_
            exact ⟨by rw [RF.out]; rfl, by repeat (first | exact HB2.out | refine below_set ?_ GE.out)⟩
          | true =>
            have x1 := ((below_alloc (Below.refl _ wc) (.cells #[.int .i64 pl, .int .i64 n, .int .u8 95, .bool true, .bool true] 39)).cell (World.block_lt_of_cell? wc _ x0)).trans x0
            go_upto_region 6 with (fail)
            have BX := Aside0.mk (blk_new wc (.cells #[.int .i64 pl, .int .i64 n, .int .u8 95, .bool true, .bool true] 39))
            have BK2 := Aside0.mk (blk_alloc BK.out (.cells #[.int .i64 pl, .int .i64 n, .int .u8 95, .bool true, .bool true] 39))
            have HB2 := Aside0.mk (below_alloc HB.out (.cells #[.int .i64 pl, .int .i64 n, .int .u8 95, .bool true, .bool true] 39))
            have NE : Aside0 (gb ≠ wc.heap.size) := ⟨Nat.ne_of_lt (blk_lt BK.out)⟩
            have GX : Aside0 (w.heap.size ≤ wc.heap.size) := ⟨HB.out.size⟩
            clear HB BK x0
            generalize wc.alloc (.cells #[.int .i64 pl, .int .i64 n, .int .u8 95, .bool true, .bool true] 39) = w5 at *
            generalize wc.heap.size = gx at *
            go_upto_region 7 with (fail)
            clear x1
            go_wp2_with fail
            refine (SA.out _).mono ?_
            rintro e w6 ⟨rfl, hb⟩
            have n1 := Aside0.mk (below_step HB2.out hb)
            have n2 := Aside0.mk (blk_below BK2.out hb)
            have n3 := Aside0.mk (blk_below BX.out hb)
            clear HB2 hb BK2 BX
            have HB2 := n1
            have BK2 := n2
            have BX := n3
            clear n1 n2 n3
            have fz := blk_frozen BX.out 3
            have fy := (blk_cell BX.out 3).trans (show _ = some (.bool true) from rfl)
            go_upto_region 8 with (fail)
            have BX3 := Aside0.mk (blk_put BX.out 3 (.bool sa) rfl)
            have BK3 := Aside0.mk (blk_far BK2.out (p := ⟨gx, 3, none⟩) NE.out (.bool sa))
            have HB3 := Aside0.mk (below_set (j := 3) (v := .bool sa) HB2.out GX.out)
            clear BX BK2 HB2 fz fy
            have BX := BX3
            have BK2 := BK3
            have HB2 := HB3
            clear BX3 BK3 HB3
            generalize w6.setCell ⟨gx, 3, none⟩ (.bool sa) = w7 at *
            go_wp2_with fail
            refine (SD.out _).mono ?_
            rintro e w8 ⟨rfl, hb⟩
            have n1 := Aside0.mk (below_step HB2.out hb)
            have n2 := Aside0.mk (blk_below BK2.out hb)
            have n3 := Aside0.mk (blk_below BX.out hb)
            clear HB2 hb BK2 BX
            have HB2 := n1
            have BK2 := n2
            have BX := n3
            clear n1 n2 n3
            have fz := blk_frozen BX.out 4
            have fy := (blk_cell BX.out 4).trans (show _ = some (.bool true) from rfl)
            go_upto_region 9 with (fail)
            have BX3 := Aside0.mk (blk_put BX.out 4 (.bool sd) rfl)
            have BK3 := Aside0.mk (blk_far BK2.out (p := ⟨gx, 4, none⟩) NE.out (.bool sd))
            have HB3 := Aside0.mk (below_set (j := 4) (v := .bool sd) HB2.out GX.out)
            clear BX BK2 HB2 fz fy
            have BX := BX3
            have BK2 := BK3
            have HB2 := HB3
            clear BX3 BK3 HB3
            generalize w8.setCell ⟨gx, 4, none⟩ (.bool sd) = w9 at *
            have y0 := (blk_cell BX.out 0).trans (show _ = some (.int .i64 pl) from rfl)
            have y1 := (blk_cell BX.out 1).trans (show _ = some (.int .i64 n) from rfl)
            have y2 := (blk_cell BX.out 2).trans (show _ = some (.int .u8 95) from rfl)
            have y3 := (blk_cell BX.out 3).trans (show _ = some (.bool sa) from rfl)
            have y4 := (blk_cell BX.out 4).trans (show _ = some (.bool sd) from rfl)
            have b0 : (w9).heap[gb]? = some (.cells #[.int .i64 0, .int .i64 0, .int .u8 0, .bool false, .bool false] 39 (0, 0)) := BK2.out
            have f0 := blk_frozen b0 0
            have g0 := (blk_cell b0 0).trans (show _ = some (.int .i64 0) from rfl)
            have b1 : ((w9).setCell ⟨gb, 0, none⟩ (.int .i64 pl)).heap[gb]? = some (.cells #[.int .i64 pl, .int .i64 0, .int .u8 0, .bool false, .bool false] 39 (0, 0)) := blk_put b0 0 _ rfl
            have f1 := blk_frozen b1 1
            have g1 := (blk_cell b1 1).trans (show _ = some (.int .i64 0) from rfl)
            have b2 : (((w9).setCell ⟨gb, 0, none⟩ (.int .i64 pl)).setCell ⟨gb, 1, none⟩ (.int .i64 n)).heap[gb]? = some (.cells #[.int .i64 pl, .int .i64 n, .int .u8 0, .bool false, .bool false] 39 (0, 0)) := blk_put b1 1 _ rfl
            have f2 := blk_frozen b2 2
            have g2 := (blk_cell b2 2).trans (show _ = some (.int .u8 0) from rfl)
            have b3 : ((((w9).setCell ⟨gb, 0, none⟩ (.int .i64 pl)).setCell ⟨gb, 1, none⟩ (.int .i64 n)).setCell ⟨gb, 2, none⟩ (.int .u8 95)).heap[gb]? = some (.cells #[.int .i64 pl, .int .i64 n, .int .u8 95, .bool false, .bool false] 39 (0, 0)) := blk_put b2 2 _ rfl
            have f3 := blk_frozen b3 3
            have g3 := (blk_cell b3 3).trans (show _ = some (.bool false) from rfl)
            have b4 : (((((w9).setCell ⟨gb, 0, none⟩ (.int .i64 pl)).setCell ⟨gb, 1, none⟩ (.int .i64 n)).setCell ⟨gb, 2, none⟩ (.int .u8 95)).setCell ⟨gb, 3, none⟩ (.bool sa)).heap[gb]? = some (.cells #[.int .i64 pl, .int .i64 n, .int .u8 95, .bool sa, .bool false] 39 (0, 0)) := blk_put b3 3 _ rfl
            have f4 := blk_frozen b4 4
            have g4 := (blk_cell b4 4).trans (show _ = some (.bool false) from rfl)
            have b5 : ((((((w9).setCell ⟨gb, 0, none⟩ (.int .i64 pl)).setCell ⟨gb, 1, none⟩ (.int .i64 n)).setCell ⟨gb, 2, none⟩ (.int .u8 95)).setCell ⟨gb, 3, none⟩ (.bool sa)).setCell ⟨gb, 4, none⟩ (.bool sd)).heap[gb]? = some (.cells #[.int .i64 pl, .int .i64 n, .int .u8 95, .bool sa, .bool sd] 39 (0, 0)) := blk_put b4 4 _ rfl
            have B5 := Aside0.mk b5
            clear b0 b1 b2 b3 b4 b5
            go_wp2
            refine bodyPost_ret (results_cell_row rfl _ _ gb 39 #[.int .i64 pl, .int .i64 n, .int .u8 95, .bool sa, .bool sd] (0, 0) _ rfl B5.out Tryd.underlying39 rfl (by kernel_rfl)) rfl ?_
            exact ⟨by rw [RF.out]; rfl, by repeat (first | exact HB2.out | refine below_set ?_ GE.out)⟩

end Go.Proofs.YtfnafjohfmlniaaDoor.PCs
-- Written for this claim by a program (the kit's print, with hand-made contracts for what it does not take).
namespace Go.Proofs.YtfnafjohfmlniaaDoor.PCs
open Go.RowKit Go.Proofs.YtfnafjohfmlniaaDoorW.PrintWords Go.Proofs.YtfnafjohfmlniaaDoorW.PrintLast Go.Proofs.YtfnafjohfmlniaaDoorW.PrintMore
attribute [local go_sem] max2_int min2_int max_two min_two max_three min_three max_four min_four   -- for this text's walks alone
set_option linter.unusedVariables false
set_option linter.unusedSimpArgs false

/-! ### emenderref28_size: function 55 -/
def emenderref28_size.f (a0 : Int) : Option (Int) := if a0 < 128 then (some 1) else (if a0 < 2048 then (some 2) else (if a0 < 65536 then (some 3) else (some 4)))
set_option maxHeartbeats 8000000 in
set_option maxRecDepth 100000 in
theorem emenderref28_size.calls (a0 : Int) (r : Int) (w : World) (h : emenderref28_size.f a0 = some r) :
    Calls Tryd.prog 55 #[.int .i64 a0] w fun e w' => e = .returned (.int .i64 r) ∧ Drawn0 w w' := by
  have H : (if a0 < 128 then (some 1) else (if a0 < 2048 then (some 2) else (if a0 < 65536 then (some 3) else (some 4)))) = some r := h
  clear h
  by_cases c2 : a0 < 128
  · rw [if_pos c2] at H
    have c2b0 : decide (a0 < 128) = true := decide_eq_true c2
    clear c2
    obtain rfl := Option.some.inj H
    go_enter Tryd.func55, Tryd.ntmps55
    go_wp2
    go_ret
    exact ⟨by first | rfl | (simp; done) | (simp [*]; done), by repeat (first | exact Drawn0.refl _ | apply Drawn0.step)⟩
  · rw [if_neg c2] at H
    have c2b0 : decide (a0 < 128) = false := decide_eq_false c2
    clear c2
    by_cases c3 : a0 < 2048
    · rw [if_pos c3] at H
      have c3b0 : decide (a0 < 2048) = true := decide_eq_true c3
      clear c3
      obtain rfl := Option.some.inj H
      go_enter Tryd.func55, Tryd.ntmps55
      go_wp2
      go_ret
      exact ⟨by first | rfl | (simp; done) | (simp [*]; done), by repeat (first | exact Drawn0.refl _ | apply Drawn0.step)⟩
    · rw [if_neg c3] at H
      have c3b0 : decide (a0 < 2048) = false := decide_eq_false c3
      clear c3
      by_cases c4 : a0 < 65536
      · rw [if_pos c4] at H
        have c4b0 : decide (a0 < 65536) = true := decide_eq_true c4
        clear c4
        obtain rfl := Option.some.inj H
        go_enter Tryd.func55, Tryd.ntmps55
        go_wp2
        go_ret
        exact ⟨by first | rfl | (simp; done) | (simp [*]; done), by repeat (first | exact Drawn0.refl _ | apply Drawn0.step)⟩
      · rw [if_neg c4] at H
        have c4b0 : decide (a0 < 65536) = false := decide_eq_false c4
        clear c4
        obtain rfl := Option.some.inj H
        go_enter Tryd.func55, Tryd.ntmps55
        go_wp2
        go_ret
        exact ⟨by first | rfl | (simp; done) | (simp [*]; done), by repeat (first | exact Drawn0.refl _ | apply Drawn0.step)⟩

/-! ### emenderref28_sizes: function 45 -/
def emenderref28_sizes.l0 : Nat → List Int → Int → Int → Option (Int)
  | 0, _, _, _ => none
  | k + 1, x0, x3, x4 => if x4 < (x0.length : Int) then (if 0 ≤ x4 then ((emenderref28_size.f (rd x0 x4)).bind fun t131 => (emenderref28_sizes.l0 k x0 (wrap64 (x3 + t131)) (wrap64 (x4 + 1)))) else (none)) else (some x3)
def emenderref28_sizes.f (k : Nat) (l0 : List Int) : Option (Int) := emenderref28_sizes.l0 k l0 0 0
theorem emenderref28_sizes.mono_l : ∀ k, (∀ y0 y1 y2, LeO (emenderref28_sizes.l0 k y0 y1 y2) (emenderref28_sizes.l0 (k + 1) y0 y1 y2))
  | 0 => fun _ _ _ r h => by simp [emenderref28_sizes.l0] at h
  | k + 1 => by
    have ih0 := emenderref28_sizes.mono_l k
    · intro y0 y1 y2
      unfold emenderref28_sizes.l0
      repeat' first
      | (with_reducible exact ih0 _ _ _)
      | (with_reducible exact LeO.refl _)
      | (with_reducible exact LeO.none _)
      | (with_reducible refine LeO.ite ?_ ?_)
      | (with_reducible refine LeO.bind ?_ (fun _ => ?_))
      | exact ih0 _ _ _
      | exact LeO.none _
      | refine LeO.ite ?_ ?_
      | refine LeO.bind ?_ (fun _ => ?_)
theorem emenderref28_sizes.mono : ∀ a0 k, LeO (emenderref28_sizes.f k a0) (emenderref28_sizes.f (k + 1) a0) := by
  intro a0 k
  have ih0 := emenderref28_sizes.mono_l k
  unfold emenderref28_sizes.f
  repeat' first
      | (with_reducible exact ih0 _ _ _)
      | (with_reducible exact LeO.refl _)
      | (with_reducible exact LeO.none _)
      | (with_reducible refine LeO.ite ?_ ?_)
      | (with_reducible refine LeO.bind ?_ (fun _ => ?_))
      | exact ih0 _ _ _
      | exact LeO.none _
      | refine LeO.ite ?_ ?_
      | refine LeO.bind ?_ (fun _ => ?_)
set_option maxHeartbeats 8000000 in
set_option maxRecDepth 100000 in
theorem emenderref28_sizes.calls (k : Nat) (A0 : Option Addr) (c0 : Nat) (l0 : List Int) (r : Int) (w : World) (hr0 : Kd.C (Kd.int .i64) w A0 l0.length l0) (hc0 : l0.length ≤ c0) (h : emenderref28_sizes.f k l0 = some r) :
    Calls Tryd.prog 45 #[.slice A0 l0.length c0] w fun e w' => e = .returned (.int .i64 r) ∧ Drawn0 w w' := by
  have HR0 := Aside0.mk hr0
  have HC0 := Aside0.mk hc0
  clear hr0 hc0
  have H : (emenderref28_sizes.l0 k l0 0 0) = some r := h
  clear h
  have H' := Aside0.mk H
  clear H
  go_enter Tryd.func45, Tryd.ntmps45
  go_wp2
  go_loopg [3, 4] k (fun kq v3 v4 w' => ∃ (x3_1 : Int) (x4_1 : Int), v3 = .int .i64 x3_1 ∧ v4 = .int .i64 x4_1 ∧ Aside0 (emenderref28_sizes.l0 kq l0 x3_1 x4_1 = some r) ∧ Aside0 (kq ≤ k) ∧ Drawn0 w w')
  case atStart => exact ⟨(0), (0), (by first | rfl | (simp; done) | (simp [*]; done)), (by first | rfl | (simp; done) | (simp [*]; done)), H', ⟨Nat.le_refl _⟩, by repeat (first | exact Drawn0.refl _ | apply Drawn0.step)⟩
  case round =>
    clear H'
    obtain ⟨x3_1, x4_1, rfl, rfl, HA, HK1, ⟨m1, rfl⟩⟩ := hrel
    cases gk with
    | zero => exact absurd HA.out (by simp [emenderref28_sizes.l0])
    | succ k1 =>
      have H := HA.out
      clear HA
      simp only [emenderref28_sizes.l0] at H
      by_cases c2 : x4_1 < (l0.length : Int)
      · rw [if_pos c2] at H
        have c2b0 : decide (x4_1 < (l0.length : Int)) = true := decide_eq_true c2
        clear c2
        by_cases c3 : 0 ≤ x4_1
        · rw [if_pos c3] at H
          have c3b0 : decide (0 ≤ x4_1) = true := decide_eq_true c3
          clear c3
          replace H := Option.bind_eq_some_iff.mp H
          obtain ⟨t131, A40, H⟩ := H
          replace H : (emenderref28_sizes.l0 k1 l0 (wrap64 (x3_1 + t131)) (wrap64 (x4_1 + 1))) = some r := H
          have A4 := Aside0.mk A40
          clear A40
          have H' := Aside0.mk H
          clear H
          have p130 : 0 ≤ (x4_1 : Int) := of_decide_eq_true (by first | (with_reducible assumption) | assumption)
          have q130 : x4_1 < (l0.length : Int) := of_decide_eq_true (by first | (with_reducible assumption) | assumption)
          obtain ⟨ad130, e130, hx130_0⟩ := Kd.at_int HR0.out x4_1 p130 q130
          cases e130
          replace p130 := eq_true p130
          replace q130 := eq_true q130
          go_wp2_with (first | ((with_reducible refine gate_callee (f := 55) rfl ?_); refine goesL_ (some 16) rfl rfl Tryd.func55 (by kernel_rfl) rfl #[.int .i64 (rd l0 x4_1)] rfl (by (try simp only [List.map_toArray, List.map_cons, List.map_nil]); first | done | rfl | (simp only [List.length_drop, List.length_take]; rfl)) ?_; (with_reducible refine (emenderref28_size.calls (rd l0 x4_1) t131 _ A4.out).mono ?_); rintro e w' ⟨rfl, ⟨nd, rfl⟩⟩; refine ⟨_, rfl, ?_⟩))
          go_roundg k1
          case measure => have := HK1.out; omega
          case rel => exact ⟨(wrap64 (x3_1 + t131)), (wrap64 (x4_1 + 1)), (by first | rfl | (simp; done) | (simp [*]; done)), (by first | rfl | (simp; done) | (simp [*]; done)), H', ⟨by have := HK1.out; omega⟩, by repeat (first | exact Drawn0.refl _ | apply Drawn0.step)⟩
        · rw [if_neg c3] at H
          exact absurd H (by simp)
      · rw [if_neg c2] at H
        have c2b0 : decide (x4_1 < (l0.length : Int)) = false := decide_eq_false c2
        clear c2
        obtain rfl := Option.some.inj H
        go_wp2
        go_ret
        exact ⟨by first | rfl | (simp; done) | (simp [*]; done), by repeat (first | exact Drawn0.refl _ | apply Drawn0.step)⟩

end Go.Proofs.YtfnafjohfmlniaaDoor.PCs
-- Written for this claim by a program (the kit's print, with hand-made contracts for what it does not take).
namespace Go.Proofs.YtfnafjohfmlniaaDoor.PCs
open Go.RowKit Go.Proofs.YtfnafjohfmlniaaDoorW.PrintWords Go.Proofs.YtfnafjohfmlniaaDoorW.PrintLast Go.Proofs.YtfnafjohfmlniaaDoorW.PrintMore
attribute [local go_sem] max2_int min2_int max_two min_two max_three min_three max_four min_four   -- for this text's walks alone
set_option linter.unusedVariables false
set_option linter.unusedSimpArgs false

/-! ### emenderref28_parts: function 22 -/
/-! ### The document's parts: its helpers say what the program's say -/
def refSize (c : Int) : Int := if c < 128 then 1 else if c < 2048 then 2 else if c < 65536 then 3 else 4
def refSizes : List Int → Int
  | [] => 0
  | c :: p => refSize c + refSizes p
def refPts : Int → List Int → List S79
  | _, [] => []
  | n, c :: p => ⟨c, n⟩ :: refPts (n + refSize c) p
theorem refPts_length : ∀ (n : Int) (p : List Int), (refPts n p).length = p.length
  | _, [] => rfl
  | n, c :: p => by rw [refPts, List.length_cons, List.length_cons, refPts_length]
theorem refPts_map : ∀ (n : Int) (p : List Int), (refPts n p).map (fun x => x.f0) = p
  | _, [] => rfl
  | n, c :: p => by rw [refPts, List.map_cons, refPts_map]
theorem refPts_get : ∀ (p : List Int) (n : Int) (i : Nat) (h : i < p.length), (refPts n p)[i]? = some ⟨p[i], n + refSizes (p.take i)⟩
  | [], _, i, h => by simp at h
  | c :: p, n, 0, _ => by simp [refPts, refSizes]
  | c :: p, n, i + 1, h => by
    rw [refPts, List.getElem?_cons_succ, refPts_get p _ i (by simpa using h)]
    simp only [List.take_succ_cons, refSizes, List.getElem_cons_succ]
    rw [Int.add_assoc]
theorem refPts_rd (p : List Int) (n i : Int) (h0 : 0 ≤ i) (h1 : i < (p.length : Int)) : rd_T79 (refPts n p) i = ⟨rd p i, n + refSizes (p.take i.toNat)⟩ := by
  unfold rd_T79 rd
  rw [List.getD_eq_getElem?_getD, refPts_get p n i.toNat (by omega), List.getD_eq_getElem?_getD, List.getElem?_eq_getElem (show i.toNat < p.length by omega)]
  rfl
theorem refPts_rd0 (p : List Int) (i : Int) (h0 : 0 ≤ i) (h1 : i < (p.length : Int)) : (rd_T79 (refPts 0 p) i).f0 = rd p i := by rw [refPts_rd p 0 i h0 h1]
theorem refSize_bd (c : Int) : 1 ≤ refSize c ∧ refSize c ≤ 4 := by unfold refSize; split <;> (try split) <;> (try split) <;> omega
theorem refSizes_bd : ∀ (p : List Int), 0 ≤ refSizes p ∧ refSizes p ≤ 4 * (p.length : Int)
  | [] => by simp [refSizes]
  | c :: p => by
    have := refSize_bd c
    have := refSizes_bd p
    rw [refSizes, List.length_cons]
    omega
theorem refW {x : Int} (h : -1000000000 ≤ x ∧ x ≤ 1000000000) : wrap64 x = x := by unfold wrap64; omega
/-- How many stand there. -/
theorem refRow_l (p : List Int) (hp : p.length ≤ 4000) (i : Int) (h0 : 0 ≤ i) (h1 : i < (p.length : Int)) : ∀ (d k : Nat) (n : Int), 0 ≤ n → i + n ≤ (p.length : Int) → (p.length : Int) - i - n ≤ (d : Int) → d < k → emenderref28_row.l0 k p i n = some (n + common_row.rest (refPts 0 p) i n)
  | 0, k, n, hn, hl, hd, hk => by
    obtain ⟨k, rfl⟩ : ∃ m, k = m + 1 := ⟨k - 1, by omega⟩
    rw [emenderref28_row.l0, refW (by omega), if_neg (by omega), common_row.rest_end _ _ _ (by rw [refPts_length]; omega), Int.add_zero]
  | d + 1, k, n, hn, hl, hd, hk => by
    obtain ⟨k, rfl⟩ : ∃ m, k = m + 1 := ⟨k - 1, by omega⟩
    rw [emenderref28_row.l0, refW (x := i + n) (by omega)]
    by_cases c : i + n < (p.length : Int)
    · rw [if_pos c, if_pos (by omega), if_pos h0, if_pos h1, common_row.rest_step _ _ _ (by omega) (by rw [refPts_length]; omega), refPts_rd0 p _ (by omega) c, refPts_rd0 p _ h0 h1]
      by_cases e : rd p (i + n) = rd p i
      · rw [if_pos e, if_pos e, refW (x := n + 1) (by omega), refRow_l p hp i h0 h1 d k (n + 1) (by omega) (by omega) (by omega) (by omega), Int.add_assoc]
      · rw [if_neg e, if_neg e, Int.add_zero]
    · rw [if_neg c, common_row.rest_end _ _ _ (by rw [refPts_length]; omega), Int.add_zero]
theorem refRow (p : List Int) (hp : p.length ≤ 4000) (i : Int) (h0 : 0 ≤ i) (h1 : i < (p.length : Int)) (k : Nat) (hk : 4001 ≤ k) : emenderref28_row.f k p i = some (common_row.f (refPts 0 p) i) := by
  unfold emenderref28_row.f common_row.f
  rw [refRow_l p hp i h0 h1 4000 k 0 (by omega) (by omega) (by omega) (by omega), common_row.rest_step _ _ _ (by omega) (by rw [refPts_length]; omega), if_pos (by rw [Int.add_zero]), Int.zero_add]
  rfl
theorem refFence_l (p : List Int) (hp : p.length ≤ 4000) (n : Int) : ∀ (f k : Nat) (i : Int), 0 ≤ i → (p.length : Int) < i + f → f + 4001 ≤ k → emenderref28_fence.l0 k p i n = some (common_fence.go (refPts 0 p) n f i)
  | 0, k, i, h0, hf, hk => by
    obtain ⟨k, rfl⟩ : ∃ m, k = m + 1 := ⟨k - 1, by omega⟩
    rw [emenderref28_fence.l0, if_neg (by omega)]
    rfl
  | f + 1, k, i, h0, hf, hk => by
    obtain ⟨k, rfl⟩ : ∃ m, k = m + 1 := ⟨k - 1, by omega⟩
    rw [emenderref28_fence.l0, common_fence.go, refPts_length]
    by_cases c : i < (p.length : Int)
    · rw [if_pos c, if_pos c, if_pos h0, refPts_rd0 p i h0 c]
      by_cases e : rd p i = 96
      · have hb := common_row.bound (refPts 0 p) i h0 (by rw [refPts_length]; exact c)
        rw [refPts_length] at hb
        rw [if_pos e, if_pos e, refRow p hp i h0 c k (by omega), Option.bind_some]
        by_cases e2 : common_row.f (refPts 0 p) i = n
        · rw [if_pos e2, if_pos e2]
        · rw [if_neg e2, if_neg e2, refW (by omega), refFence_l p hp n f k _ (by omega) (by omega) (by omega)]
      · rw [if_neg e, if_neg e, refW (by omega), refFence_l p hp n f k _ (by omega) (by omega) (by omega)]
    · rw [if_neg c, if_neg c]
theorem refFence (p : List Int) (hp : p.length ≤ 4000) (i n : Int) (h0 : 0 ≤ i) (k : Nat) (hk : 8100 ≤ k) : emenderref28_fence.f k p i n = some (common_fence.f (refPts 0 p) i n) := by
  unfold emenderref28_fence.f common_fence.f
  rw [refPts_length]
  exact refFence_l p hp n (p.length + 1) k i h0 (by omega) (by omega)
theorem refAround (p : List Int) (i : Int) : emenderref28_run.at p i = common_at.f (refPts 0 p) i := by
  unfold emenderref28_run.at common_at.f
  rw [refPts_length]
  by_cases h : i < 0
  · rw [if_pos h, if_pos h]
  · rw [if_neg h, if_neg h]
    by_cases h2 : (p.length : Int) ≤ i
    · rw [if_pos h2, if_pos h2]
    · rw [if_neg h2, if_neg h2, refPts_rd0 p i (by omega) (by omega)]
def refOne (m c : Int) : S65 := ⟨⟨0, 0, c, m⟩, false, ⟨0, 0, 0, false, false⟩, 0, false⟩
theorem refPlain_l (q : List Int) (hq : q.length ≤ 4000) (m : Int) : ∀ (d k : Nat) (l : List S65) (n : Nat), q.length - n ≤ d → n ≤ q.length → d < k → l.length + (q.length - n) ≤ 1000000 → emenderref28_plain.l0 k l q m (n : Int) = some (l ++ (q.drop n).map (refOne m))
  | 0, k, l, n, hd, hn, hk, hl => by
    obtain ⟨k, rfl⟩ : ∃ m, k = m + 1 := ⟨k - 1, by omega⟩
    rw [emenderref28_plain.l0, if_neg (by omega), List.drop_eq_nil_of_le (by omega), List.map_nil, List.append_nil]
  | d + 1, k, l, n, hd, hn, hk, hl => by
    obtain ⟨k, rfl⟩ : ∃ m, k = m + 1 := ⟨k - 1, by omega⟩
    rw [emenderref28_plain.l0]
    by_cases c : n < q.length
    · rw [if_pos (by omega), if_pos (by omega), if_pos (by omega), refW (by omega), show (n : Int) + 1 = ((n + 1 : Nat) : Int) by omega, refPlain_l q hq m d k _ (n + 1) (by omega) (by omega) (by omega) (by rw [List.length_append, List.length_singleton]; omega), List.drop_eq_getElem_cons c, List.map_cons, List.append_assoc, List.singleton_append]
      have e : rd q (n : Int) = q[n] := by unfold rd; rw [Int.toNat_natCast, List.getD_eq_getElem?_getD, List.getElem?_eq_getElem c]; rfl
      rw [e]
      rfl
    · rw [if_neg (by omega), List.drop_eq_nil_of_le (by omega), List.map_nil, List.append_nil]
theorem refPlain (l : List S65) (q : List Int) (hq : q.length ≤ 4000) (m : Int) (k : Nat) (hk : 4001 ≤ k) (hl : l.length ≤ 900000) : emenderref28_plain.f k l q m = some (l ++ q.map (refOne m)) := by
  have h := refPlain_l q hq m 4000 k l 0 (by omega) (by omega) (by omega) (by omega)
  exact h
theorem refSizes_l (q : List Int) (hq : q.length ≤ 4000) : ∀ (d k : Nat) (s : Int) (n : Nat), q.length - n ≤ d → n ≤ q.length → d < k → 0 ≤ s → s + 4 * ((q.length : Int) - n) ≤ 1000000 → emenderref28_sizes.l0 k q s (n : Int) = some (s + refSizes (q.drop n))
  | 0, k, s, n, hd, hn, hk, h0, hs => by
    obtain ⟨k, rfl⟩ : ∃ m, k = m + 1 := ⟨k - 1, by omega⟩
    rw [emenderref28_sizes.l0, if_neg (by omega), List.drop_eq_nil_of_le (by omega), refSizes, Int.add_zero]
  | d + 1, k, s, n, hd, hn, hk, h0, hs => by
    obtain ⟨k, rfl⟩ : ∃ m, k = m + 1 := ⟨k - 1, by omega⟩
    rw [emenderref28_sizes.l0]
    by_cases c : n < q.length
    · have e : rd q (n : Int) = q[n] := by unfold rd; rw [Int.toNat_natCast, List.getD_eq_getElem?_getD, List.getElem?_eq_getElem c]; rfl
      have e2 : emenderref28_size.f q[n] = some (refSize q[n]) := by unfold emenderref28_size.f refSize; split <;> (try split) <;> (try split) <;> rfl
      have hb := refSize_bd q[n]
      rw [if_pos (by omega), if_pos (by omega), e, e2, Option.bind_some, refW (by omega), refW (by omega), show (n : Int) + 1 = ((n + 1 : Nat) : Int) by omega, refSizes_l q hq d k _ (n + 1) (by omega) (by omega) (by omega) (by omega) (by omega), List.drop_eq_getElem_cons c, refSizes, Int.add_assoc]
    · rw [if_neg (by omega), List.drop_eq_nil_of_le (by omega), refSizes, Int.add_zero]
theorem refSizesF (q : List Int) (hq : q.length ≤ 4000) (k : Nat) (hk : 4001 ≤ k) : emenderref28_sizes.f k q = some (refSizes q) := by
  have h := refSizes_l q hq 4000 k 0 0 (by omega) (by omega) (by omega) (by omega) (by omega)
  rw [Int.zero_add] at h
  exact h
theorem refRun (p : List Int) (i n : Int) (h0 : 0 ≤ i) (h1 : i < (p.length : Int)) : emenderref28_run.f p i n (refSizes (p.take i.toNat)) = common_run.f (refPts 0 p) i n := by
  unfold emenderref28_run.f common_run.f
  rw [refPts_rd p 0 i h0 h1, Int.zero_add, refAround, refAround]
def refPart (x : Prt) : S65 := match x.run with
  | none => ⟨x.tok, false, ⟨0, 0, 0, false, false⟩, x.left, x.passed⟩
  | some r => ⟨x.tok, true, ⟨r.f0, r.f1, r.f2, r.f3, r.f4⟩, x.left, x.passed⟩
theorem refPlainF (p : List Int) (i j m : Int) : (common_plain.f (refPts 0 p) i j m).map refPart = (icut p i j).map (refOne m) := by
  unfold common_plain.f icut common_cut
  rw [List.map_map]
  conv => rhs; rw [← refPts_map 0 p, ← List.map_take, ← List.map_drop, List.map_map]
  rfl
theorem icut_rd (p : List Int) (i j x : Int) (h0 : 0 ≤ i) (h1 : 0 ≤ x) (h2 : i + x < j) (h3 : j ≤ (p.length : Int)) : rd (icut p i j) x = rd p (i + x) := by
  unfold rd icut
  rw [List.getD_eq_getElem?_getD, List.getD_eq_getElem?_getD, List.getElem?_drop, List.getElem?_take, if_pos (by omega), show i.toNat + x.toNat = (i + x).toNat by omega]
theorem icut_icut (p : List Int) (i j : Int) (h0 : 0 ≤ i) (h1 : i + 2 ≤ j) : icut (icut p i j) 1 (j - i - 1) = icut p (i + 1) (j - 1) := by
  unfold icut
  rw [List.take_drop, List.drop_drop, List.take_take]
  congr 1
  · omega
  · congr 1; omega
theorem refCode (p : List Int) (i j : Int) (h0 : 0 ≤ i) (h1 : i ≤ j) (h2 : j ≤ (p.length : Int)) : (common_code.f (refPts 0 p) i j).map refPart = (emenderref28_code.f (icut p i j)).map (refOne 4) := by
  have hl := icut_length p i j h2
  have ho : common_code.other (common_cut (refPts 0 p) i j) = !(emenderref28_code.all (icut p i j)) := by
    have e : icut p i j = (common_cut (refPts 0 p) i j).map (fun x => x.f0) := by
      unfold icut common_cut
      conv => lhs; rw [← refPts_map 0 p, ← List.map_take, ← List.map_drop]
    rw [e]
    unfold common_code.other emenderref28_code.all
    rw [List.all_map, List.not_all_eq_any_not]
    rfl
  have hb : common_code.bare (refPts 0 p) i j = emenderref28_code.bare (icut p i j) := by
    unfold common_code.bare emenderref28_code.bare
    rw [ho, hl, show ((j.toNat - i.toNat : Nat) : Int) = j - i by omega]
    by_cases c : 1 < j - i
    · rw [refPts_rd0 p i h0 (by omega), refPts_rd0 p (j - 1) (by omega) (by omega), icut_rd p i j 0 h0 (by omega) (by omega) h2, icut_rd p i j (j - i - 1) h0 (by omega) (by omega) h2, show i + 0 = i by omega, show i + (j - i - 1) = j - 1 by omega]
    · rw [decide_eq_false c, Bool.false_and, Bool.false_and]
  unfold common_code.f emenderref28_code.f
  rw [hb]
  by_cases c : emenderref28_code.bare (icut p i j) = true
  · have c2 := c
    unfold emenderref28_code.bare at c2
    rw [hl] at c2
    simp only [Bool.and_eq_true, decide_eq_true_eq] at c2
    rw [if_pos c, if_pos c, refPlainF, hl, show ((j.toNat - i.toNat : Nat) : Int) - 1 = j - i - 1 by omega, icut_icut p i j h0 (by omega)]
  · rw [if_neg c, if_neg c, refPlainF]
theorem icut_zero (p : List Int) (j : Int) : icut p 0 j = p.take j.toNat := rfl
theorem icut_to (A : Option Addr) (c : Nat) (p : List Int) (j : Int) (h0 : 0 ≤ j) (hm : j ≤ (p.length : Int)) (hc : p.length ≤ c) :
    (∀ W : World, (Instr.slice 58 (.slice A p.length c) none (some (.int .i64 j)) none).run Tryd.prog W = .ok (.slice A (icut p 0 j).length c) W) ∧ (∀ W : World, Kd.C (Kd.int .i64) W A p.length p → Kd.C (Kd.int .i64) W A (icut p 0 j).length (icut p 0 j)) ∧ (icut p 0 j).length ≤ c := by
  obtain ⟨i0_, hi0_, _, hsz_, _⟩ := info_parts info3
  have hcut := cut_to (P := Tryd.prog) 58 3 .i64 Tryd.underlying58 hi0_ A p.length c j h0 hm hc
  rw [icut_zero]
  have hl : (p.take j.toNat).length = j.toNat := by rw [List.length_take]; omega
  exact ⟨by rw [hl]; exact hcut, fun W hW => Kd.C_take hW (by omega), by omega⟩
/-- A call of plain: the row is longer by what the program's part is. -/
theorem refPlainC {w W : World} {A : Option Addr} {p : List Int} {v : Value} {o x : List Prt} {A1 : Option Addr} {c1 : Nat} {q : List Int} {m : Int} (hB : Below w.heap.size w W) (hr0 : Kd.C (Kd.int .i64) w A p.length p) (row : Kd.R k65 65 W w.heap.size (fun _ => True) v (o.map refPart))
    (SEE : ∀ W : World, Kd.C (Kd.int .i64) W A p.length p → Kd.C (Kd.int .i64) W A1 q.length q) (hq : q.length ≤ c1) (hq4 : q.length ≤ 4000) (ho : o.length ≤ 4000) (hx : x.map refPart = q.map (refOne m)) :
    Calls Tryd.prog 41 #[v, .slice A1 q.length c1, .int .i64 m] W fun e w' => ∃ v', e = .returned v' ∧ Kd.R k65 65 w' w.heap.size (fun _ => True) v' ((o ++ x).map refPart) ∧ Below w.heap.size w w' :=
  (emenderref28_plain.calls 4001 (fun k => w.heap.size ≤ k) v (o.map refPart) A1 c1 q m _ w W hB (Kd.R_mono (Kd.R_bound row) (fun _ hk => hk.2.1)) (fun W_ hk => SEE W_ (Kd.C_kept_came (Kd.heap_int .i64) hr0 hB (fun _ h => h) W_ hk)) hq (refPlain _ _ hq4 m 4001 (by omega) (by rw [List.length_map]; omega))).mono
    (fun e w' h => by
      obtain ⟨v0, h1, h2, h3, _⟩ := h
      refine ⟨v0, h1, ?_, h3⟩
      rw [List.map_append, hx]
      exact Kd.R_mono h2 (fun _ _ => trivial))
theorem refGo (p : List Int) (f : Nat) (i : Int) (h0 : 0 ≤ i) (c5 : i < (p.length : Int)) : common_split.go (refPts 0 p) (f + 1) i =
      (if rd p i = 96 then
        (if common_fence.f (refPts 0 p) (i + common_row.f (refPts 0 p) i) (common_row.f (refPts 0 p) i) < 0 then common_plain.f (refPts 0 p) i (i + common_row.f (refPts 0 p) i) 0 ++ common_split.go (refPts 0 p) f (i + common_row.f (refPts 0 p) i)
         else common_code.f (refPts 0 p) (i + common_row.f (refPts 0 p) i) (common_fence.f (refPts 0 p) (i + common_row.f (refPts 0 p) i) (common_row.f (refPts 0 p) i)) ++ common_split.go (refPts 0 p) f (common_fence.f (refPts 0 p) (i + common_row.f (refPts 0 p) i) (common_row.f (refPts 0 p) i) + common_row.f (refPts 0 p) i))
       else if rd p i = 42 ∨ rd p i = 95 then (⟨⟨0, 0, 0, 0⟩, some (common_run.f (refPts 0 p) i (common_row.f (refPts 0 p) i)), common_row.f (refPts 0 p) i, false⟩ : Prt) :: common_split.go (refPts 0 p) f (i + common_row.f (refPts 0 p) i)
       else if rd p i = 92 ∧ sg (emenderref28_run.at p (i + 1)) = true then common_plain.f (refPts 0 p) (i + 1) (i + 1 + 1) 0 ++ common_split.go (refPts 0 p) f (i + 1 + 1)
       else common_plain.f (refPts 0 p) i (i + 1) 0 ++ common_split.go (refPts 0 p) f (i + 1)) := by
  rw [common_split.go, refPts_length, if_pos c5, refPts_rd0 p i h0 c5, refAround]
def emenderref28_parts.f (p : List Int) : Option (List S65) := if p.length ≤ 4000 then some ((common_split.f (refPts 0 p)).map refPart) else none
structure emenderref28_parts.I (w : World) (p : List Int) (kq : Nat) (i : Int) (o : List Prt) (v : Value) (W : World) : Prop where
  row : Kd.R k65 65 W w.heap.size (fun _ => True) v (o.map refPart)
  below : Below w.heap.size w W
  lo : 0 ≤ i
  hi : i ≤ (p.length : Int)
  fuel : p.length < i + kq
  len : (o.length : Int) ≤ i
  go : o ++ common_split.go (refPts 0 p) kq i = common_split.f (refPts 0 p)
set_option maxRecDepth 100000 in
set_option maxHeartbeats 16000000 in
theorem emenderref28_parts.calls (A0 : Option Addr) (c0 : Nat) (p : List Int) (r : List S65) (w : World) (hr0 : Kd.C (Kd.int .i64) w A0 p.length p) (hc0 : p.length ≤ c0) (h : emenderref28_parts.f p = some r) :
    Calls Tryd.prog 22 #[.slice A0 p.length c0] w fun e w' => ∃ v0_ : Value, e = .returned (v0_) ∧ Kd.R k65 65 w' w.heap.size (fun _ => True) v0_ r ∧ Below w.heap.size w w' := by
  have hu39 := Tryd.underlying39
  have hu65 := Tryd.underlying65
  have hu43 := Tryd.underlying43
  unfold emenderref28_parts.f at h
  by_cases hp : p.length ≤ 4000
  case neg => rw [if_neg hp] at h; cases h
  rw [if_pos hp] at h
  have RR := Aside0.mk (Option.some.inj h)
  have HR := Aside0.mk hr0
  have HC := Aside0.mk hc0
  have HP := Aside0.mk hp
  have I0 := Aside0.mk (show emenderref28_parts.I w p (p.length + 1) 0 [] (.slice none 0 0) w from ⟨Kd.R_nil _ _ _ _ _, Below.refl _ _, by omega, by omega, by omega, by simp, by unfold common_split.f; rw [refPts_length]; rfl⟩)
  clear hr0 hc0 hp h
  go_enter Tryd.func22, Tryd.ntmps22
  go_wp2
  go_loopg [3, 4] (p.length + 1) (fun kq v3 v4 w' => ∃ (i : Int) (o : List Prt), v4 = .int .i64 i ∧ Aside0 (emenderref28_parts.I w p kq i o v3 w'))
  case atStart => exact ⟨0, [], rfl, I0⟩
  case round =>
    clear I0
    obtain ⟨i, o, rfl, HI⟩ := hrel
    cases gk with
    | zero => have := HI.out.fuel; have := HI.out.hi; omega
    | succ f =>
    by_cases c5 : i < (p.length : Int)
    · have c5b : decide (i < (p.length : Int)) = true := decide_eq_true c5
      have i0 : 0 ≤ i := HI.out.lo
      have hgo := HI.out.go
      rw [refGo p f i i0 c5] at hgo
      have HG0 := Aside0.mk hgo
      have RB := Aside0.mk (show 1 ≤ common_row.f (refPts 0 p) i ∧ i + common_row.f (refPts 0 p) i ≤ (p.length : Int) from by have h := common_row.bound (refPts 0 p) i i0 (by rw [refPts_length]; exact c5); rw [refPts_length] at h; exact h)
      have LEN := Aside0.mk HI.out.len
      have FU := Aside0.mk HI.out.fuel
      have HOL : Aside0 (o.length ≤ 4000) := ⟨by have := HI.out.len; have := HP.out; omega⟩
      have C5 := Aside0.mk c5
      have I0 := Aside0.mk i0
      have FB0 := Aside0.mk (fun h => common_fence.bound (refPts 0 p) (i + common_row.f (refPts 0 p) i) (common_row.f (refPts 0 p) i) (by have := RB.out; omega) h)
      have FF := Aside0.mk (fun (h : 0 ≤ i + common_row.f (refPts 0 p) i) => refFence p HP.out (i + common_row.f (refPts 0 p) i) (common_row.f (refPts 0 p) i) h 8100 (by omega))
      have hc2 : ∀ h42 : rd p i = 42 ∨ rd p i = 95, emenderref28_run.f p i (common_row.f (refPts 0 p) i) (refSizes (icut p 0 i)) = common_run.f (refPts 0 p) i (common_row.f (refPts 0 p) i) := fun _ => refRun p i _ i0 c5
      have RC := Aside0.mk hc2
      clear hgo hc2
      go_wp2_with fail
      refine (emenderref28_row.calls 4001 A0 c0 p i _ _ (Kd.C_below HR.out HI.out.below) HC.out (refRow p HP.out i i0 c5 4001 (by omega))).mono ?_
      rintro e w1 ⟨rfl, hd⟩
      have HB := Aside0.mk (HI.out.below.trans (hd.below.mono HI.out.below.size))
      have HW := Aside0.mk (Kd.R_below HI.out.row hd.below)
      clear hd HI
      rw [refPts_length] at FB0
      generalize common_run.f (refPts 0 p) i (common_row.f (refPts 0 p) i) = rn at *
      generalize common_fence.f (refPts 0 p) (i + common_row.f (refPts 0 p) i) (common_row.f (refPts 0 p) i) = en at *
      generalize common_row.f (refPts 0 p) i = n at *
      have hw : wrap64 (i + n) = i + n := by have := I0.out; have := RB.out; have := HP.out; unfold wrap64; omega
      have hw1 : wrap64 (i + 1) = i + 1 := by have := I0.out; have := C5.out; have := HP.out; unfold wrap64; omega
      obtain ⟨ad, eA, x0⟩ := Kd.at_int (Kd.C_below HR.out HB.out) i i0 c5
      subst eA
      have i0t := eq_true i0
      have i1t := eq_true c5
      clear i0 c5
      by_cases k92 : rd p i = 92
      · have n96 : ¬ rd p i = 96 := by omega
        have n42 : ¬ (rd p i = 42 ∨ rd p i = 95) := by omega
        have hgo := HG0.out
        rw [if_neg n96, if_neg n42] at hgo
        have HG1 := Aside0.mk hgo
        have K92 := Aside0.mk k92
        rw [k92] at x0
        clear hgo HG0 n96 n42 k92
        by_cases l1 : i + 1 < (p.length : Int)
        · have l1b : decide (i + 1 < (p.length : Int)) = true := decide_eq_true l1
          have L1 := Aside0.mk l1
          have hw2 : wrap64 (i + 1 + 1) = i + 1 + 1 := by have := I0.out; have := C5.out; have := HP.out; unfold wrap64; omega
          obtain ⟨ad_, eA, x1⟩ := Kd.at_int (Kd.C_below HR.out HB.out) (i + 1) (by have := I0.out; omega) l1
          cases eA
          have l0t := eq_true (show 0 ≤ i + 1 by have := I0.out; omega)
          have l1t := eq_true l1
          have AT : Aside0 (emenderref28_run.at p (i + 1) = rd p (i + 1)) := ⟨by unfold emenderref28_run.at; rw [if_neg (by have := I0.out; omega), if_neg (by omega)]⟩
          have SG := Aside0.mk (refSign (rd p (i + 1)))
          rw [AT.out] at HG1
          clear AT l1
          generalize rd p (i + 1) = c1v at *
          go_wp2_with fail
          refine (emenderref28_sign.calls c1v _ _ SG.out).mono ?_
          rintro e w2 ⟨rfl, hd⟩
          have HB2 := Aside0.mk (HB.out.trans (hd.below.mono HB.out.size))
          have HW2 := Aside0.mk (Kd.R_below HW.out hd.below)
          clear hd HB HW x0 x1 SG
          generalize sg c1v = sv at *
          cases sv with
          | true =>
            have hgo := HG1.out
            have hcond : rd p i = 92 ∧ true = true := ⟨K92.out, rfl⟩
            rw [if_pos hcond] at hgo
            have HG := Aside0.mk hgo
            clear hgo HG1 hcond K92
            obtain ⟨A1, c1, hcut, SEE, HC1⟩ := icut_go (some ad) c0 p (i + 1) (i + 1 + 1) (by have := I0.out; omega) (by omega) (by have := L1.out; omega) HC.out
            have S1 := Aside0.mk SEE
            have S2 := Aside0.mk HC1
            have S3 : Aside0 ((icut p (i + 1) (i + 1 + 1)).length ≤ 4000) := ⟨by unfold icut; rw [List.length_drop, List.length_take]; have := HP.out; omega⟩
            clear SEE HC1
            go_wp2_with fail
            refine (refPlainC HB2.out HR.out HW2.out S1.out S2.out S3.out HOL.out (refPlainF p (i + 1) (i + 1 + 1) 0)).mono ?_
            rintro e w4 ⟨v4, rfl, g1, g2⟩
            have G1 := Aside0.mk g1
            have G2 := Aside0.mk g2
            clear g1 g2
            go_wp2
            go_roundg f
            case measure => omega
            case rel => exact ⟨i + 1 + 1, o ++ common_plain.f (refPts 0 p) (i + 1) (i + 1 + 1) 0, by rw [hw2], ⟨G1.out, G2.out, by have := L1.out; have := I0.out; have := HP.out; omega, by have := L1.out; have := I0.out; have := HP.out; omega, by have := FU.out; omega, by rw [List.length_append]; have := common_plain.len (refPts 0 p) (i + 1) (i + 1 + 1) 0 (by have := I0.out; omega) (by omega) (by rw [refPts_length]; have := L1.out; omega); have := LEN.out; omega, by rw [List.append_assoc]; exact HG.out⟩⟩
          | false =>
            have hgo := HG1.out
            have hcond : ¬ (rd p i = 92 ∧ false = true) := fun h => by cases h.2
            rw [if_neg hcond] at hgo
            have HG := Aside0.mk hgo
            clear hgo HG1 hcond K92
            obtain ⟨A1, c1, hcut, SEE, HC1⟩ := icut_go (some ad) c0 p (i) (i + 1) (I0.out) (by omega) (by have := C5.out; omega) HC.out
            have S1 := Aside0.mk SEE
            have S2 := Aside0.mk HC1
            have S3 : Aside0 ((icut p (i) (i + 1)).length ≤ 4000) := ⟨by unfold icut; rw [List.length_drop, List.length_take]; have := HP.out; omega⟩
            clear SEE HC1
            go_wp2_with fail
            refine (refPlainC HB2.out HR.out HW2.out S1.out S2.out S3.out HOL.out (refPlainF p i (i + 1) 0)).mono ?_
            rintro e w4 ⟨v4, rfl, g1, g2⟩
            have G1 := Aside0.mk g1
            have G2 := Aside0.mk g2
            clear g1 g2
            go_wp2
            go_roundg f
            case measure => omega
            case rel => exact ⟨i + 1, o ++ common_plain.f (refPts 0 p) i (i + 1) 0, by rw [hw1], ⟨G1.out, G2.out, by have := I0.out; omega, by have := C5.out; omega, by have := FU.out; omega, by rw [List.length_append]; have := common_plain.len (refPts 0 p) i (i + 1) 0 I0.out (by omega) (by rw [refPts_length]; have := C5.out; omega); have := LEN.out; omega, by rw [List.append_assoc]; exact HG.out⟩⟩
        · have l1b : decide (i + 1 < (p.length : Int)) = false := decide_eq_false l1
          have hcond : ¬ (rd p i = 92 ∧ sg (emenderref28_run.at p (i + 1)) = true) := fun h => by have h2 := h.2; unfold emenderref28_run.at at h2; rw [if_neg (by have := I0.out; omega), if_pos (by omega)] at h2; cases h2
          have hgo := HG1.out
          rw [if_neg hcond] at hgo
          have HG := Aside0.mk hgo
          clear hgo HG1 hcond K92 l1
          obtain ⟨A1, c1, hcut, SEE, HC1⟩ := icut_go (some ad) c0 p (i) (i + 1) (I0.out) (by omega) (by have := C5.out; omega) HC.out
          have S1 := Aside0.mk SEE
          have S2 := Aside0.mk HC1
          have S3 : Aside0 ((icut p (i) (i + 1)).length ≤ 4000) := ⟨by unfold icut; rw [List.length_drop, List.length_take]; have := HP.out; omega⟩
          clear SEE HC1
          go_wp2_with fail
          refine (refPlainC HB.out HR.out HW.out S1.out S2.out S3.out HOL.out (refPlainF p i (i + 1) 0)).mono ?_
          rintro e w4 ⟨v4, rfl, g1, g2⟩
          have G1 := Aside0.mk g1
          have G2 := Aside0.mk g2
          clear g1 g2
          go_wp2
          go_roundg f
          case measure => omega
          case rel => exact ⟨i + 1, o ++ common_plain.f (refPts 0 p) i (i + 1) 0, by rw [hw1], ⟨G1.out, G2.out, by have := I0.out; omega, by have := C5.out; omega, by have := FU.out; omega, by rw [List.length_append]; have := common_plain.len (refPts 0 p) i (i + 1) 0 I0.out (by omega) (by rw [refPts_length]; have := C5.out; omega); have := LEN.out; omega, by rw [List.append_assoc]; exact HG.out⟩⟩
      have k92b : (rd p i == 92) = false := beq_eq_false_iff_ne.mpr k92
      by_cases k96 : rd p i = 96
      · have hgo := HG0.out
        rw [if_pos k96] at hgo
        have HG1 := Aside0.mk hgo
        rw [k96] at x0
        clear hgo HG0 k92 k92b k96
        go_wp2_with fail
        refine (emenderref28_fence.calls 8100 (some ad) c0 p (i + n) n _ _ (Kd.C_below HR.out HB.out) HC.out (FF.out (by have := RB.out; have := I0.out; omega))).mono ?_
        rintro e w2 ⟨rfl, hd⟩
        have HB2 := Aside0.mk (HB.out.trans (hd.below.mono HB.out.size))
        have HW2 := Aside0.mk (Kd.R_below HW.out hd.below)
        clear hd HB HW x0 FF
        by_cases e0 : en < 0
        · have e0b : decide (en < 0) = true := decide_eq_true e0
          have hgo := HG1.out
          rw [if_pos e0] at hgo
          have HG := Aside0.mk hgo
          clear hgo HG1 e0
          obtain ⟨A1, c1, hcut, SEE, HC1⟩ := icut_go (some ad) c0 p (i) (i + n) (I0.out) (by have := RB.out; omega) (by have := RB.out; omega) HC.out
          have S1 := Aside0.mk SEE
          have S2 := Aside0.mk HC1
          have S3 : Aside0 ((icut p (i) (i + n)).length ≤ 4000) := ⟨by unfold icut; rw [List.length_drop, List.length_take]; have := HP.out; omega⟩
          clear SEE HC1
          go_wp2_with fail
          refine (refPlainC HB2.out HR.out HW2.out S1.out S2.out S3.out HOL.out (refPlainF p i (i + n) 0)).mono ?_
          rintro e w4 ⟨v4, rfl, g1, g2⟩
          have G1 := Aside0.mk g1
          have G2 := Aside0.mk g2
          clear g1 g2
          go_wp2
          go_roundg f
          case measure => omega
          case rel => exact ⟨i + n, o ++ common_plain.f (refPts 0 p) i (i + n) 0, by rw [hw], ⟨G1.out, G2.out, by have := I0.out; have := RB.out; omega, by have := RB.out; omega, by have := FU.out; have := RB.out; omega, by rw [List.length_append]; have := common_plain.len (refPts 0 p) i (i + n) 0 I0.out (by have := RB.out; omega) (by rw [refPts_length]; have := RB.out; omega); have := LEN.out; omega, by rw [List.append_assoc]; exact HG.out⟩⟩
        · have e0b : decide (en < 0) = false := decide_eq_false e0
          have hgo := HG1.out
          rw [if_neg e0] at hgo
          have HG := Aside0.mk hgo
          have FB := Aside0.mk (FB0.out (by omega))
          clear hgo HG1 e0
          have hw2 : wrap64 (en + n) = en + n := by have := FB.out; have := RB.out; have := HP.out; have := I0.out; unfold wrap64; omega
          have hw3 : wrap64 (en + n - i) = en + n - i := by have := FB.out; have := RB.out; have := HP.out; have := I0.out; unfold wrap64; omega
          have hw4 : wrap64 (i + (en + n - i)) = en + n := by have := FB.out; have := RB.out; have := HP.out; have := I0.out; unfold wrap64; omega
          obtain ⟨A1, c1, hcut, SEE, HC1⟩ := icut_go (some ad) c0 p (i + n) (en) (by have := FB.out; have := RB.out; have := I0.out; omega) (by have := FB.out; have := RB.out; have := I0.out; omega) (by have := FB.out; have := RB.out; have := I0.out; omega) HC.out
          have S1 := Aside0.mk SEE
          have S2 := Aside0.mk HC1
          have S3 : Aside0 ((icut p (i + n) (en)).length ≤ 4000) := ⟨by unfold icut; rw [List.length_drop, List.length_take]; have := HP.out; omega⟩
          clear SEE HC1
          have RCd := Aside0.mk (refCode p (i + n) en (by have := FB.out; have := RB.out; have := I0.out; omega) (by have := FB.out; have := RB.out; have := I0.out; omega) (by have := FB.out; have := RB.out; have := I0.out; omega))
          go_wp2_with fail
          refine (emenderref28_code.calls A1 c1 (icut p (i + n) en) _ (S1.out _ (Kd.C_below HR.out HB2.out)) S2.out S3.out).mono ?_
          rintro e w3 ⟨A2, c2, rfl, see2, hc2, hb⟩
          have HB3 := Aside0.mk (HB2.out.trans (hb.mono HB2.out.size))
          have HW3 := Aside0.mk (Kd.R_below HW2.out hb)
          have S4 := Aside0.mk see2
          have S5 := Aside0.mk hc2
          have S6 : Aside0 ((emenderref28_code.f (icut p (i + n) en)).length ≤ 4000) := ⟨by have h := congrArg List.length RCd.out; rw [List.length_map, List.length_map] at h; have := common_code.len (refPts 0 p) (i + n) en (by have := FB.out; have := RB.out; have := I0.out; omega) (by have := FB.out; have := RB.out; have := I0.out; omega) (by rw [refPts_length]; have := FB.out; have := RB.out; omega); have := FB.out; have := RB.out; have := HP.out; have := I0.out; omega⟩
          clear hb see2 hc2 HB2 HW2
          go_wp2_with fail
          refine (refPlainC HB3.out HR.out HW3.out (fun W hW => S4.out W (S1.out W hW)) S5.out S6.out HOL.out (RCd.out)).mono ?_
          rintro e w4 ⟨v4, rfl, g1, g2⟩
          have G1 := Aside0.mk g1
          have G2 := Aside0.mk g2
          clear g1 g2
          go_wp2
          go_roundg f
          case measure => omega
          case rel => exact ⟨en + n, o ++ common_code.f (refPts 0 p) (i + n) en, by rw [hw4], ⟨G1.out, G2.out, by have := FB.out; have := RB.out; have := I0.out; omega, by have := FB.out; have := RB.out; have := I0.out; omega, by have := FU.out; have := RB.out; have := FB.out; omega, by rw [List.length_append]; have := common_code.len (refPts 0 p) (i + n) en (by have := FB.out; have := RB.out; have := I0.out; omega) (by have := FB.out; have := RB.out; have := I0.out; omega) (by rw [refPts_length]; have := FB.out; have := RB.out; omega); have := LEN.out; have := FB.out; have := RB.out; omega, by rw [List.append_assoc]; exact HG.out⟩⟩
      have k96b : (rd p i == 96) = false := beq_eq_false_iff_ne.mpr k96
      by_cases kr : rd p i = 42 ∨ rd p i = 95
      · have hgo := HG0.out
        rw [if_neg k96, if_pos kr] at hgo
        have HG := Aside0.mk hgo
        have RR2 := Aside0.mk (RC.out kr)
        clear hgo HG0 k92 k92b k96 k96b RC FF FB0
        obtain ⟨hcut, SEE, HC1⟩ := icut_to (some ad) c0 p i I0.out (by have := C5.out; omega) HC.out
        have S1 := Aside0.mk SEE
        have S2 := Aside0.mk HC1
        have S3 : Aside0 ((icut p 0 i).length ≤ 4000) := ⟨by rw [icut_zero, List.length_take]; have := HP.out; omega⟩
        have KR := Aside0.mk kr
        clear SEE HC1
        rcases kr with k42 | k95
        · rw [k42] at x0
          clear k42
          go_wp2_with fail
          refine (emenderref28_sizes.calls 4001 (some ad) c0 (icut p 0 i) _ _ (S1.out _ (Kd.C_below HR.out HB.out)) S2.out (refSizesF _ S3.out 4001 (by omega))).mono ?_
          rintro e w2 ⟨rfl, hd⟩
          have HB2 := Aside0.mk (HB.out.trans (hd.below.mono HB.out.size))
          have HW2 := Aside0.mk (Kd.R_below HW.out hd.below)
          clear hd HB HW x0
          go_wp2_with fail
          refine (emenderref28_run.calls (some ad) c0 p i n _ _ (Kd.C_below HR.out HB2.out) HC.out HP.out I0.out C5.out (by have := RB.out; have := HP.out; have := I0.out; omega) KR.out).mono ?_
          rintro e w3 ⟨rfl, hb⟩
          have HB3 := Aside0.mk (HB2.out.trans (hb.mono HB2.out.size))
          have HW3 := Aside0.mk (Kd.R_below HW2.out hb)
          clear hb HB2 HW2
          unfold encRef
          rw [RR2.out]
          obtain ⟨q0, q1, q2, q3, q4⟩ := rn
          dsimp only
          have z0 := (blk_cell (blk_new w3 (.cells #[.int .i64 q0, .int .i64 q1, .int .u8 q2, .bool q3, .bool q4] 39)) 0).trans (show _ = some (.int .i64 q0) from rfl)
          have z1 := (blk_cell (blk_new w3 (.cells #[.int .i64 q0, .int .i64 q1, .int .u8 q2, .bool q3, .bool q4] 39)) 1).trans (show _ = some (.int .i64 q1) from rfl)
          have z2 := (blk_cell (blk_new w3 (.cells #[.int .i64 q0, .int .i64 q1, .int .u8 q2, .bool q3, .bool q4] 39)) 2).trans (show _ = some (.int .u8 q2) from rfl)
          have z3 := (blk_cell (blk_new w3 (.cells #[.int .i64 q0, .int .i64 q1, .int .u8 q2, .bool q3, .bool q4] 39)) 3).trans (show _ = some (.bool q3) from rfl)
          have z4 := (blk_cell (blk_new w3 (.cells #[.int .i64 q0, .int .i64 q1, .int .u8 q2, .bool q3, .bool q4] 39)) 4).trans (show _ = some (.bool q4) from rfl)
          have TR_ := Aside0.mk (Kd.R_alloc HW3.out (.cells #[.int .i64 q0, .int .i64 q1, .int .u8 q2, .bool q3, .bool q4] 39))
          have HB4 := Aside0.mk (below_alloc HB3.out (.cells #[.int .i64 q0, .int .i64 q1, .int .u8 q2, .bool q3, .bool q4] 39))
          clear HB3 HW3
          go_wp2_with (first | (at_builtin; refine Kd.R_append k65 (w0 := w) w.heap.size rfl (.tmp 93) (.tmp 97) 61 65 (.agg #[.int .i64 0, .int .i64 0, .int .i64 0, .int .i64 0, .bool false, .int .i64 0, .int .i64 0, .int .u8 0, .bool false, .bool false, .int .i64 0, .bool false]) 80 rfl Tryd.underlying61 info65 rfl (by decide) (by decide) u3 (o.map refPart) (refPart (⟨⟨0, 0, 0, 0⟩, some ⟨q0, q1, q2, q3, q4⟩, n, false⟩ : Prt)) [.int .i64 0, .int .i64 0, .int .i64 0, .int .i64 0, .bool true, .int .i64 q0, .int .i64 q1, .int .u8 q2, .bool q3, .bool q4, .int .i64 n, .bool false] (fun _ => True) (fun _ => False) rfl (by first | rfl | (go_simp; done) | (go_simp; rfl) | simp) (k65_mkM _ _ _ (refPart (⟨⟨0, 0, 0, 0⟩, some ⟨q0, q1, q2, q3, q4⟩, n, false⟩ : Prt))) (fun _ h => h.elim) (fun _ _ => trivial) TR_.out HB4.out HB4.out.size (by rw [List.length_map]; have := HOL.out; omega) ?_; intro v1 w8 ho hb hg hat; have G1 := Aside0.mk (show Kd.R k65 65 w8 w.heap.size (fun _ => True) v1 ((o ++ [(⟨⟨0, 0, 0, 0⟩, some ⟨q0, q1, q2, q3, q4⟩, n, false⟩ : Prt)]).map refPart) from by rw [List.map_append]; exact ho); have G2 := Aside0.mk hb; clear ho hb hg hat TR_ HB4))
          go_roundg f
          case measure => omega
          case rel => exact ⟨i + n, o ++ [(⟨⟨0, 0, 0, 0⟩, some ⟨q0, q1, q2, q3, q4⟩, n, false⟩ : Prt)], by rw [hw], ⟨G1.out, G2.out, by have := RB.out; have := I0.out; omega, by have := RB.out; omega, by have := RB.out; have := FU.out; omega, by rw [List.length_append, List.length_singleton]; have := LEN.out; have := RB.out; omega, by rw [List.append_assoc]; exact HG.out⟩⟩
        · rw [k95] at x0
          clear k95
          go_wp2_with fail
          refine (emenderref28_sizes.calls 4001 (some ad) c0 (icut p 0 i) _ _ (S1.out _ (Kd.C_below HR.out HB.out)) S2.out (refSizesF _ S3.out 4001 (by omega))).mono ?_
          rintro e w2 ⟨rfl, hd⟩
          have HB2 := Aside0.mk (HB.out.trans (hd.below.mono HB.out.size))
          have HW2 := Aside0.mk (Kd.R_below HW.out hd.below)
          clear hd HB HW x0
          go_wp2_with fail
          refine (emenderref28_run.calls (some ad) c0 p i n _ _ (Kd.C_below HR.out HB2.out) HC.out HP.out I0.out C5.out (by have := RB.out; have := HP.out; have := I0.out; omega) KR.out).mono ?_
          rintro e w3 ⟨rfl, hb⟩
          have HB3 := Aside0.mk (HB2.out.trans (hb.mono HB2.out.size))
          have HW3 := Aside0.mk (Kd.R_below HW2.out hb)
          clear hb HB2 HW2
          unfold encRef
          rw [RR2.out]
          obtain ⟨q0, q1, q2, q3, q4⟩ := rn
          dsimp only
          have z0 := (blk_cell (blk_new w3 (.cells #[.int .i64 q0, .int .i64 q1, .int .u8 q2, .bool q3, .bool q4] 39)) 0).trans (show _ = some (.int .i64 q0) from rfl)
          have z1 := (blk_cell (blk_new w3 (.cells #[.int .i64 q0, .int .i64 q1, .int .u8 q2, .bool q3, .bool q4] 39)) 1).trans (show _ = some (.int .i64 q1) from rfl)
          have z2 := (blk_cell (blk_new w3 (.cells #[.int .i64 q0, .int .i64 q1, .int .u8 q2, .bool q3, .bool q4] 39)) 2).trans (show _ = some (.int .u8 q2) from rfl)
          have z3 := (blk_cell (blk_new w3 (.cells #[.int .i64 q0, .int .i64 q1, .int .u8 q2, .bool q3, .bool q4] 39)) 3).trans (show _ = some (.bool q3) from rfl)
          have z4 := (blk_cell (blk_new w3 (.cells #[.int .i64 q0, .int .i64 q1, .int .u8 q2, .bool q3, .bool q4] 39)) 4).trans (show _ = some (.bool q4) from rfl)
          have TR_ := Aside0.mk (Kd.R_alloc HW3.out (.cells #[.int .i64 q0, .int .i64 q1, .int .u8 q2, .bool q3, .bool q4] 39))
          have HB4 := Aside0.mk (below_alloc HB3.out (.cells #[.int .i64 q0, .int .i64 q1, .int .u8 q2, .bool q3, .bool q4] 39))
          clear HB3 HW3
          go_wp2_with (first | (at_builtin; refine Kd.R_append k65 (w0 := w) w.heap.size rfl (.tmp 93) (.tmp 97) 61 65 (.agg #[.int .i64 0, .int .i64 0, .int .i64 0, .int .i64 0, .bool false, .int .i64 0, .int .i64 0, .int .u8 0, .bool false, .bool false, .int .i64 0, .bool false]) 80 rfl Tryd.underlying61 info65 rfl (by decide) (by decide) u3 (o.map refPart) (refPart (⟨⟨0, 0, 0, 0⟩, some ⟨q0, q1, q2, q3, q4⟩, n, false⟩ : Prt)) [.int .i64 0, .int .i64 0, .int .i64 0, .int .i64 0, .bool true, .int .i64 q0, .int .i64 q1, .int .u8 q2, .bool q3, .bool q4, .int .i64 n, .bool false] (fun _ => True) (fun _ => False) rfl (by first | rfl | (go_simp; done) | (go_simp; rfl) | simp) (k65_mkM _ _ _ (refPart (⟨⟨0, 0, 0, 0⟩, some ⟨q0, q1, q2, q3, q4⟩, n, false⟩ : Prt))) (fun _ h => h.elim) (fun _ _ => trivial) TR_.out HB4.out HB4.out.size (by rw [List.length_map]; have := HOL.out; omega) ?_; intro v1 w8 ho hb hg hat; have G1 := Aside0.mk (show Kd.R k65 65 w8 w.heap.size (fun _ => True) v1 ((o ++ [(⟨⟨0, 0, 0, 0⟩, some ⟨q0, q1, q2, q3, q4⟩, n, false⟩ : Prt)]).map refPart) from by rw [List.map_append]; exact ho); have G2 := Aside0.mk hb; clear ho hb hg hat TR_ HB4))
          go_roundg f
          case measure => omega
          case rel => exact ⟨i + n, o ++ [(⟨⟨0, 0, 0, 0⟩, some ⟨q0, q1, q2, q3, q4⟩, n, false⟩ : Prt)], by rw [hw], ⟨G1.out, G2.out, by have := RB.out; have := I0.out; omega, by have := RB.out; omega, by have := RB.out; have := FU.out; omega, by rw [List.length_append, List.length_singleton]; have := LEN.out; have := RB.out; omega, by rw [List.append_assoc]; exact HG.out⟩⟩
      · have k42b : (rd p i == 42) = false := beq_eq_false_iff_ne.mpr (fun e => kr (.inl e))
        have k95b : (rd p i == 95) = false := beq_eq_false_iff_ne.mpr (fun e => kr (.inr e))
        have hcond : ¬ (rd p i = 92 ∧ sg (emenderref28_run.at p (i + 1)) = true) := fun h => k92 h.1
        have hgo := HG0.out
        rw [if_neg k96, if_neg kr, if_neg hcond] at hgo
        have HG := Aside0.mk hgo
        clear hgo HG0 hcond k92 k96 kr
        obtain ⟨A1, c1, hcut, SEE, HC1⟩ := icut_go (some ad) c0 p (i) (i + 1) (I0.out) (by omega) (by have := C5.out; omega) HC.out
        have S1 := Aside0.mk SEE
        have S2 := Aside0.mk HC1
        have S3 : Aside0 ((icut p (i) (i + 1)).length ≤ 4000) := ⟨by unfold icut; rw [List.length_drop, List.length_take]; have := HP.out; omega⟩
        clear SEE HC1
        go_wp2_with fail
        refine (refPlainC HB.out HR.out HW.out S1.out S2.out S3.out HOL.out (refPlainF p i (i + 1) 0)).mono ?_
        rintro e w4 ⟨v4, rfl, g1, g2⟩
        have G1 := Aside0.mk g1
        have G2 := Aside0.mk g2
        clear g1 g2
        go_wp2
        go_roundg f
        case measure => omega
        case rel => exact ⟨i + 1, o ++ common_plain.f (refPts 0 p) i (i + 1) 0, by rw [hw1], ⟨G1.out, G2.out, by have := I0.out; omega, by have := C5.out; omega, by have := FU.out; omega, by rw [List.length_append]; have := common_plain.len (refPts 0 p) i (i + 1) 0 I0.out (by omega) (by rw [refPts_length]; have := C5.out; omega); have := LEN.out; omega, by rw [List.append_assoc]; exact HG.out⟩⟩
    · have c5b : decide (i < (p.length : Int)) = false := decide_eq_false c5
      have hgo := HI.out.go
      rw [common_split.go, refPts_length, if_neg c5, List.append_nil] at hgo
      have HX := Aside0.mk HI.out.row
      rw [hgo, RR.out] at HX
      have HB := Aside0.mk HI.out.below
      clear HI hgo
      go_wp2
      go_ret
      exact ⟨_, rfl, HX.out, HB.out⟩

end Go.Proofs.YtfnafjohfmlniaaDoor.PCs
