-- Written for this claim by a program (the kit's print, with hand-made contracts for what it does not take).
import Derived.Test.YtgafgkojbbndmaaPAsx0
import Derived.Test.YtgafgkojbbndmaaPAsx1
namespace Go.Proofs.Ytgafgkojbbndmaa.PAs
open Go.RowKit Go.Proofs.YtgafgkojbbndmaaW.PrintWords Go.Proofs.YtgafgkojbbndmaaW.PrintLast Go.Proofs.YtgafgkojbbndmaaW.PrintMore
attribute [local go_sem] max2_int min2_int max_two min_two max_three min_three max_four min_four   -- for this text's walks alone
set_option linter.unusedVariables false
set_option linter.unusedSimpArgs false

/-! ### anchor_Set_List: function 12 -/
/-! ### The order of notes -/
def anc_or (x y z : Int) : Int := if x ≠ 0 then x else if y ≠ 0 then y else z
set_option maxHeartbeats 2000000 in
set_option maxRecDepth 100000 in
theorem anc_Or.calls (g : Nat) (x y z : Int) (w : World) (h : w.heap[g]? = some (.cells #[.int .i64 x, .int .i64 y, .int .i64 z] 3 (0, 0))) : Calls Try.prog 25 #[.slice (some ⟨g, 0, none⟩) 3 3] w fun e w' => e = .returned (.int .i64 (anc_or x y z)) ∧ w' = w := by
  have h0 : w.cell? ⟨g, 0, none⟩ = some (.int .i64 x) := (blk_cell h 0).trans rfl
  have h1 : w.cell? ⟨g, 1, none⟩ = some (.int .i64 y) := (blk_cell h 1).trans rfl
  have h2 : w.cell? ⟨g, 2, none⟩ = some (.int .i64 z) := (blk_cell h 2).trans rfl
  clear h
  unfold anc_or
  by_cases c0 : x = 0
  · subst c0
    rw [if_neg (fun h => h rfl)]
    by_cases c1 : y = 0
    · subst c1
      rw [if_neg (fun h => h rfl)]
      by_cases c2 : z = 0
      · subst c2
        go_enter Try.func25, Try.ntmps25
        go_wp2_with fail
        refine wp_loop_rounds 4 ?_
        rw [rounds_succ]
        go_wp2
        rw [rounds_succ]
        go_wp2
        rw [rounds_succ]
        go_wp2
        rw [rounds_succ]
        go_wp2
        go_ret
        exact ⟨rfl, rfl⟩
      · have d2 : (z == 0) = false := beq_eq_false_iff_ne.mpr c2
        have e2 : (z != 0) = true := bne_iff_ne.mpr c2
        clear c2
        go_enter Try.func25, Try.ntmps25
        go_wp2_with fail
        refine wp_loop_rounds 4 ?_
        rw [rounds_succ]
        go_wp2
        rw [rounds_succ]
        go_wp2
        rw [rounds_succ]
        go_wp2
        go_ret
        exact ⟨rfl, rfl⟩
    · rw [if_pos c1]
      have d1 : (y == 0) = false := beq_eq_false_iff_ne.mpr c1
      have e1 : (y != 0) = true := bne_iff_ne.mpr c1
      clear c1
      go_enter Try.func25, Try.ntmps25
      go_wp2_with fail
      refine wp_loop_rounds 3 ?_
      rw [rounds_succ]
      go_wp2
      rw [rounds_succ]
      go_wp2
      go_ret
      exact ⟨rfl, rfl⟩
  · rw [if_pos c0]
    have d0 : (x == 0) = false := beq_eq_false_iff_ne.mpr c0
    have e0 : (x != 0) = true := bne_iff_ne.mpr c0
    clear c0
    go_enter Try.func25, Try.ntmps25
    go_wp2_with fail
    refine wp_loop_rounds 2 ?_
    rw [rounds_succ]
    go_wp2
    go_ret
    exact ⟨rfl, rfl⟩
theorem anc_cmp (x y : Int) (W : World) : Calls Try.prog 26 #[.int .i64 x, .int .i64 y] W fun e w' => e = .returned (.int .i64 (Lib.compareInt x y)) ∧ w' = W := AnyG.cmp_Compare_int Try.cmpInt x y W
def anc_enc (n : S35) : List Value := [.int .i64 n.f0, .int .i64 n.f1, .int .i64 n.f2]
def anc_cf (a b : S35) : Int := anc_or (Lib.compareInt a.f1 b.f1) (Lib.compareInt a.f2 b.f2) (Lib.compareInt a.f0 b.f0)
def anc_less.T1 : Bool × List (List Nat × List Nat) := (true, [([], []), ([0], [0]), ([], []), ([2], [2]), ([1, 3], [1, 3]), ([], []), ([5], [5]), ([], []), ([7], [7]), ([6, 8, 4], [6, 8]), ([], []), ([10], [10]), ([], []), ([12], [12]), ([11, 13, 9], [11, 13]), ([4, 9, 14], [4, 9, 14]), ([15, 14], [15]), ([16, 16, 0, 1, 2, 3, 4, 5, 6, 7, 8, 9, 10, 11, 12, 13, 14, 15, 16], [16])])
def anc_less.B1 : List Nat := [0, 1, 0, 4, 15, 0, 32, 0, 128, 511, 0, 1024, 0, 4096, 16383, 32767, 65535, 131071]
theorem anc_less.tab1 : rtab .any (opsOf Try.f24 1) = anc_less.T1 := by kernel_rfl
theorem anc_less.bits1 : waitsOk anc_less.T1.2 anc_less.B1 = true := by kernel_rfl
set_option maxHeartbeats 8000000 in
set_option maxRecDepth 100000 in
theorem anc_less.calls (x y : S35) (W : World) : Calls Try.prog 24 #[.agg #[.int .i64 x.f0, .int .i64 x.f1, .int .i64 x.f2], .agg #[.int .i64 y.f0, .int .i64 y.f1, .int .i64 y.f2]] W fun e w' => e = .returned (.int .i64 (anc_cf x y)) ∧ ∃ q os, w' = Go.Sort.grow (W.drewN q) os := by
  go_enter Try.func24, Try.ntmps24
  go_upto_region 1 with (fail)
  have e1 : (W.alloc (.cells #[.int .i64 x.f0, .int .i64 x.f1, .int .i64 x.f2] 35 (0, 0))).heap.size = W.heap.size + 1 := by simp
  have ka := blk_below (blk_new W (.cells #[.int .i64 x.f0, .int .i64 x.f1, .int .i64 x.f2] 35 (0, 0))) (below_alloc (Below.refl _ _) (.cells #[.int .i64 y.f0, .int .i64 y.f1, .int .i64 y.f2] 35 (0, 0)))
  have kb := blk_new (W.alloc (.cells #[.int .i64 x.f0, .int .i64 x.f1, .int .i64 x.f2] 35 (0, 0))) (.cells #[.int .i64 y.f0, .int .i64 y.f1, .int .i64 y.f2] 35 (0, 0))
  rw [e1] at kb
  clear e1
  have h0 := (blk_cell ka 1).trans (show _ = some (Value.int .i64 x.f1) from rfl)
  have h1 := (blk_cell ka 2).trans (show _ = some (Value.int .i64 x.f2) from rfl)
  have h2 := (blk_cell ka 0).trans (show _ = some (Value.int .i64 x.f0) from rfl)
  have h3 := (blk_cell kb 1).trans (show _ = some (Value.int .i64 y.f1) from rfl)
  have h4 := (blk_cell kb 2).trans (show _ = some (Value.int .i64 y.f2) from rfl)
  have h5 := (blk_cell kb 0).trans (show _ = some (Value.int .i64 y.f0) from rfl)
  refine start_ (n := 18) (S := fun w' => w'.cell? ⟨W.heap.size, 1, none⟩ = some (.int .i64 x.f1) ∧ w'.cell? ⟨W.heap.size, 2, none⟩ = some (.int .i64 x.f2) ∧ w'.cell? ⟨W.heap.size, 0, none⟩ = some (.int .i64 x.f0) ∧ w'.cell? ⟨W.heap.size + 1, 1, none⟩ = some (.int .i64 y.f1) ∧ w'.cell? ⟨W.heap.size + 1, 2, none⟩ = some (.int .i64 y.f2) ∧ w'.cell? ⟨W.heap.size + 1, 0, none⟩ = some (.int .i64 y.f0)) (ds := [16]) #[false, false, false, false, false, false, false, false, false, false, false, false, false, false, false, false, false, false] (by kernel_rfl) rfl rfl ⟨h0, h1, h2, h3, h4, h5⟩ (fun hHeld => ?_)
  refine with_tabW anc_less.tab1 anc_less.bits1 (fun HT_ HW_ => ?_)
  generalize hwd : World.drew _ = wd at *
  have HWD := Aside0.mk hwd
  clear hwd h0 h1 h2 h3 h4 h5 ka kb
  refine pure_ (i := 0) (N := some 5) (v := ?_) (a' := ?_) #[true, false, false, false, false, false, false, false, false, false, false, false, false, false, false, false, false, false] rfl rfl (any_of HT_.out (by kernel_rfl)) (fun _ _ _ h => h) (Or.inl ⟨by rfl, ?_⟩) ?_ ?_
  rotate_left
  · intro w'
    go_simp
    with_reducible rfl
  rotate_left
  · simp only [Act.put, List.setIfInBounds_toArray, List.set_cons_zero, List.set_cons_succ, i64_w, i32_w]
    rfl
  refine take_ (i := 1) (N := some 6) (v := ?_) (a' := ?_) #[true, true, false, false, false, false, false, false, false, false, false, false, false, false, false, false, false, false] rfl rfl (take_ofW HT_.out HW_.out (by kernel_rfl)) (fun _ _ _ h => h) (Or.inl ⟨by rfl, ?_⟩) hHeld ?_ ?_
  rotate_left
  · rintro w' ⟨s0, s1, s2, s3, s4, s5⟩
    go_simp
    with_reducible rfl
  rotate_left
  · simp only [Act.put, List.setIfInBounds_toArray, List.set_cons_zero, List.set_cons_succ, i64_w, i32_w]
    rfl
  refine pure_ (i := 2) (N := some 7) (v := ?_) (a' := ?_) #[true, true, true, false, false, false, false, false, false, false, false, false, false, false, false, false, false, false] rfl rfl (any_of HT_.out (by kernel_rfl)) (fun _ _ _ h => h) (Or.inl ⟨by rfl, ?_⟩) ?_ ?_
  rotate_left
  · intro w'
    go_simp
    with_reducible rfl
  rotate_left
  · simp only [Act.put, List.setIfInBounds_toArray, List.set_cons_zero, List.set_cons_succ, i64_w, i32_w]
    rfl
  refine take_ (i := 3) (N := some 8) (v := ?_) (a' := ?_) #[true, true, true, true, false, false, false, false, false, false, false, false, false, false, false, false, false, false] rfl rfl (take_ofW HT_.out HW_.out (by kernel_rfl)) (fun _ _ _ h => h) (Or.inl ⟨by rfl, ?_⟩) hHeld ?_ ?_
  rotate_left
  · rintro w' ⟨s0, s1, s2, s3, s4, s5⟩
    go_simp
    with_reducible rfl
  rotate_left
  · simp only [Act.put, List.setIfInBounds_toArray, List.set_cons_zero, List.set_cons_succ, i64_w, i32_w]
    rfl
  refine pure_ (i := 5) (N := some 10) (v := ?_) (a' := ?_) #[true, true, true, true, false, true, false, false, false, false, false, false, false, false, false, false, false, false] rfl rfl (any_of HT_.out (by kernel_rfl)) (fun _ _ _ h => h) (Or.inl ⟨by rfl, ?_⟩) ?_ ?_
  rotate_left
  · intro w'
    go_simp
    with_reducible rfl
  rotate_left
  · simp only [Act.put, List.setIfInBounds_toArray, List.set_cons_zero, List.set_cons_succ, i64_w, i32_w]
    rfl
  refine take_ (i := 6) (N := some 11) (v := ?_) (a' := ?_) #[true, true, true, true, false, true, true, false, false, false, false, false, false, false, false, false, false, false] rfl rfl (take_ofW HT_.out HW_.out (by kernel_rfl)) (fun _ _ _ h => h) (Or.inl ⟨by rfl, ?_⟩) hHeld ?_ ?_
  rotate_left
  · rintro w' ⟨s0, s1, s2, s3, s4, s5⟩
    go_simp
    with_reducible rfl
  rotate_left
  · simp only [Act.put, List.setIfInBounds_toArray, List.set_cons_zero, List.set_cons_succ, i64_w, i32_w]
    rfl
  refine pure_ (i := 7) (N := some 12) (v := ?_) (a' := ?_) #[true, true, true, true, false, true, true, true, false, false, false, false, false, false, false, false, false, false] rfl rfl (any_of HT_.out (by kernel_rfl)) (fun _ _ _ h => h) (Or.inl ⟨by rfl, ?_⟩) ?_ ?_
  rotate_left
  · intro w'
    go_simp
    with_reducible rfl
  rotate_left
  · simp only [Act.put, List.setIfInBounds_toArray, List.set_cons_zero, List.set_cons_succ, i64_w, i32_w]
    rfl
  refine take_ (i := 8) (N := some 13) (v := ?_) (a' := ?_) #[true, true, true, true, false, true, true, true, true, false, false, false, false, false, false, false, false, false] rfl rfl (take_ofW HT_.out HW_.out (by kernel_rfl)) (fun _ _ _ h => h) (Or.inl ⟨by rfl, ?_⟩) hHeld ?_ ?_
  rotate_left
  · rintro w' ⟨s0, s1, s2, s3, s4, s5⟩
    go_simp
    with_reducible rfl
  rotate_left
  · simp only [Act.put, List.setIfInBounds_toArray, List.set_cons_zero, List.set_cons_succ, i64_w, i32_w]
    rfl
  refine pure_ (i := 10) (N := some 15) (v := ?_) (a' := ?_) #[true, true, true, true, false, true, true, true, true, false, true, false, false, false, false, false, false, false] rfl rfl (any_of HT_.out (by kernel_rfl)) (fun _ _ _ h => h) (Or.inl ⟨by rfl, ?_⟩) ?_ ?_
  rotate_left
  · intro w'
    go_simp
    with_reducible rfl
  rotate_left
  · simp only [Act.put, List.setIfInBounds_toArray, List.set_cons_zero, List.set_cons_succ, i64_w, i32_w]
    rfl
  refine take_ (i := 11) (N := some 16) (v := ?_) (a' := ?_) #[true, true, true, true, false, true, true, true, true, false, true, true, false, false, false, false, false, false] rfl rfl (take_ofW HT_.out HW_.out (by kernel_rfl)) (fun _ _ _ h => h) (Or.inl ⟨by rfl, ?_⟩) hHeld ?_ ?_
  rotate_left
  · rintro w' ⟨s0, s1, s2, s3, s4, s5⟩
    go_simp
    with_reducible rfl
  rotate_left
  · simp only [Act.put, List.setIfInBounds_toArray, List.set_cons_zero, List.set_cons_succ, i64_w, i32_w]
    rfl
  refine pure_ (i := 12) (N := some 17) (v := ?_) (a' := ?_) #[true, true, true, true, false, true, true, true, true, false, true, true, true, false, false, false, false, false] rfl rfl (any_of HT_.out (by kernel_rfl)) (fun _ _ _ h => h) (Or.inl ⟨by rfl, ?_⟩) ?_ ?_
  rotate_left
  · intro w'
    go_simp
    with_reducible rfl
  rotate_left
  · simp only [Act.put, List.setIfInBounds_toArray, List.set_cons_zero, List.set_cons_succ, i64_w, i32_w]
    rfl
  refine take_ (i := 13) (N := some 18) (v := ?_) (a' := ?_) #[true, true, true, true, false, true, true, true, true, false, true, true, true, true, false, false, false, false] rfl rfl (take_ofW HT_.out HW_.out (by kernel_rfl)) (fun _ _ _ h => h) (Or.inl ⟨by rfl, ?_⟩) hHeld ?_ ?_
  rotate_left
  · rintro w' ⟨s0, s1, s2, s3, s4, s5⟩
    go_simp
    with_reducible rfl
  rotate_left
  · simp only [Act.put, List.setIfInBounds_toArray, List.set_cons_zero, List.set_cons_succ, i64_w, i32_w]
    rfl
  refine one_ (i := 4) (N := some 9) #[true, true, true, true, true, true, true, true, true, false, true, true, true, true, false, false, false, false] rfl rfl (one_of HT_.out (by kernel_rfl)) (by decide) (fun K hK => ?_)
  refine goes_ Try.func26 (by kernel_rfl) rfl #[.int .i64 x.f1, .int .i64 y.f1] (by rfl) rfl rfl (by simp only [List.map_toArray, List.map_cons, List.map_nil]; rfl) ?_
  refine (anc_cmp _ _ _).mono ?_
  rintro e w5 ⟨rfl, hw5⟩
  subst hw5
  refine ⟨_, rfl, ?_⟩
  refine hK.out _ _ hHeld (fun hHeld => ?_)
  clear hK K
  refine norm_ (a' := ?_) ?_ ?_
  rotate_left
  · show Act.put _ (some 9) _ = _
    simp only [Act.put, List.setIfInBounds_toArray, List.set_cons_zero, List.set_cons_succ, i64_w, i32_w]
    rfl
  refine one_ (i := 9) (N := some 14) #[true, true, true, true, true, true, true, true, true, true, true, true, true, true, false, false, false, false] rfl rfl (one_of HT_.out (by kernel_rfl)) (by decide) (fun K hK => ?_)
  refine goes_ Try.func26 (by kernel_rfl) rfl #[.int .i64 x.f2, .int .i64 y.f2] (by rfl) rfl rfl (by simp only [List.map_toArray, List.map_cons, List.map_nil]; rfl) ?_
  refine (anc_cmp _ _ _).mono ?_
  rintro e w5 ⟨rfl, hw5⟩
  subst hw5
  refine ⟨_, rfl, ?_⟩
  refine hK.out _ _ hHeld (fun hHeld => ?_)
  clear hK K
  refine norm_ (a' := ?_) ?_ ?_
  rotate_left
  · show Act.put _ (some 14) _ = _
    simp only [Act.put, List.setIfInBounds_toArray, List.set_cons_zero, List.set_cons_succ, i64_w, i32_w]
    rfl
  refine one_ (i := 14) (N := some 19) #[true, true, true, true, true, true, true, true, true, true, true, true, true, true, true, false, false, false] rfl rfl (one_of HT_.out (by kernel_rfl)) (by decide) (fun K hK => ?_)
  refine goes_ Try.func26 (by kernel_rfl) rfl #[.int .i64 x.f0, .int .i64 y.f0] (by rfl) rfl rfl (by simp only [List.map_toArray, List.map_cons, List.map_nil]; rfl) ?_
  refine (anc_cmp _ _ _).mono ?_
  rintro e w5 ⟨rfl, hw5⟩
  subst hw5
  refine ⟨_, rfl, ?_⟩
  refine hK.out _ _ hHeld (fun hHeld => ?_)
  clear hK K
  refine norm_ (a' := ?_) ?_ ?_
  rotate_left
  · show Act.put _ (some 19) _ = _
    simp only [Act.put, List.setIfInBounds_toArray, List.set_cons_zero, List.set_cons_succ, i64_w, i32_w]
    rfl
  refine one_ (i := 15) (N := some 20) #[true, true, true, true, true, true, true, true, true, true, true, true, true, true, true, true, false, false] rfl rfl (one_of HT_.out (by kernel_rfl)) (by decide) (fun K hK => ?_)
  refine value_ (w1 := ?_) (v := ?_) (by rfl) rfl ?_ ?_
  rotate_left 2
  · go_simp
    constructor
    · rfl
    · rfl
  refine hK.out _ _ ⟨anc_grown (World.grownBy_alloc _ (.cells #[.int .i64 (Lib.compareInt x.f1 y.f1), .int .i64 (Lib.compareInt x.f2 y.f2), .int .i64 (Lib.compareInt x.f0 y.f0)] 3 (0, 0)) none) hHeld.1 (by simp), anc_grown (World.grownBy_alloc _ (.cells #[.int .i64 (Lib.compareInt x.f1 y.f1), .int .i64 (Lib.compareInt x.f2 y.f2), .int .i64 (Lib.compareInt x.f0 y.f0)] 3 (0, 0)) none) hHeld.2.1 (by simp), anc_grown (World.grownBy_alloc _ (.cells #[.int .i64 (Lib.compareInt x.f1 y.f1), .int .i64 (Lib.compareInt x.f2 y.f2), .int .i64 (Lib.compareInt x.f0 y.f0)] 3 (0, 0)) none) hHeld.2.2.1 (by simp), anc_grown (World.grownBy_alloc _ (.cells #[.int .i64 (Lib.compareInt x.f1 y.f1), .int .i64 (Lib.compareInt x.f2 y.f2), .int .i64 (Lib.compareInt x.f0 y.f0)] 3 (0, 0)) none) hHeld.2.2.2.1 (by simp), anc_grown (World.grownBy_alloc _ (.cells #[.int .i64 (Lib.compareInt x.f1 y.f1), .int .i64 (Lib.compareInt x.f2 y.f2), .int .i64 (Lib.compareInt x.f0 y.f0)] 3 (0, 0)) none) hHeld.2.2.2.2.1 (by simp), anc_grown (World.grownBy_alloc _ (.cells #[.int .i64 (Lib.compareInt x.f1 y.f1), .int .i64 (Lib.compareInt x.f2 y.f2), .int .i64 (Lib.compareInt x.f0 y.f0)] 3 (0, 0)) none) hHeld.2.2.2.2.2 (by simp)⟩ (fun hHeld => ?_)
  clear hK K
  refine norm_ (a' := ?_) ?_ ?_
  rotate_left
  · show Act.put _ (some 20) _ = _
    simp only [Act.put, List.setIfInBounds_toArray, List.set_cons_zero, List.set_cons_succ, i64_w, i32_w]
    rfl
  refine last_ (i := 16) (N := some 21) #[true, true, true, true, true, true, true, true, true, true, true, true, true, true, true, true, true, false] rfl rfl (one_of HT_.out (by kernel_rfl)) (by decide) (fun K hK => ?_)
  refine goes_ Try.func25 (by kernel_rfl) rfl #[.slice (some ⟨_, 0, none⟩) 3 3] (by rfl) rfl rfl (by simp only [List.map_toArray, List.map_cons, List.map_nil]; rfl) ?_
  refine (anc_Or.calls _ _ _ _ _ (blk_new _ _)).mono ?_
  rintro e w6 ⟨rfl, hw6⟩
  subst hw6
  refine ⟨_, rfl, ?_⟩
  refine hK.out _ _ ?_
  clear hK K
  refine norm_ (a' := ?_) ?_ ?_
  rotate_left
  · show Act.put _ (some 21) _ = _
    simp only [Act.put, List.setIfInBounds_toArray, List.set_cons_zero, List.set_cons_succ, i64_w, i32_w]
    rfl
  refine pure_ (i := 17) (N := some 4) (v := ?_) (a' := ?_) #[true, true, true, true, true, true, true, true, true, true, true, true, true, true, true, true, true, true] rfl rfl (any_of HT_.out (by kernel_rfl)) (fun _ _ _ h => h) (Or.inl ⟨by rfl, ?_⟩) ?_ ?_
  rotate_left
  · intro w'
    go_simp
    with_reducible rfl
  rotate_left
  · simp only [Act.put, List.setIfInBounds_toArray, List.set_cons_zero, List.set_cons_succ, i64_w, i32_w]
    rfl
  refine done_ (done_of HT_.out (by kernel_rfl)) ?_
  go_wp2
  go_ret
  refine ⟨rfl, 1, #[.cells #[.int .i64 x.f0, .int .i64 x.f1, .int .i64 x.f2] 35 (0, 0), .cells #[.int .i64 y.f0, .int .i64 y.f1, .int .i64 y.f2] 35 (0, 0), .cells #[.int .i64 (Lib.compareInt x.f1 y.f1), .int .i64 (Lib.compareInt x.f2 y.f2), .int .i64 (Lib.compareInt x.f0 y.f0)] 3 (0, 0)], ?_⟩
  rw [← HWD.out]
  rfl
/-! ### Rows of notes, sorted -/
def anc_sort (l : List S35) : List S35 := l.mergeSort fun x y => !Go.Proofs.ltOf anc_cf y x
def anc_lt (x y : S35) : Prop := x.f1 < y.f1 ∨ (x.f1 = y.f1 ∧ (x.f2 < y.f2 ∨ (x.f2 = y.f2 ∧ x.f0 < y.f0)))
theorem anc_cmp_cases (a b : Int) : (a < b ∧ Lib.compareInt a b = -1) ∨ (a = b ∧ Lib.compareInt a b = 0) ∨ (b < a ∧ Lib.compareInt a b = 1) := by
  unfold Lib.compareInt
  by_cases h1 : a < b
  · exact .inl ⟨h1, by simp [h1]⟩
  · by_cases h2 : b < a
    · exact .inr (.inr ⟨h2, by simp [h1, h2]⟩)
    · exact .inr (.inl ⟨by omega, by simp [h1, h2]⟩)
theorem anc_ltOf (x y : S35) : Go.Proofs.ltOf anc_cf x y = true ↔ anc_lt x y := by
  unfold Go.Proofs.ltOf anc_cf anc_or anc_lt
  rw [decide_eq_true_eq]
  rcases anc_cmp_cases x.f1 y.f1 with ⟨h1, e1⟩ | ⟨h1, e1⟩ | ⟨h1, e1⟩ <;> rcases anc_cmp_cases x.f2 y.f2 with ⟨h2, e2⟩ | ⟨h2, e2⟩ | ⟨h2, e2⟩ <;> rcases anc_cmp_cases x.f0 y.f0 with ⟨h3, e3⟩ | ⟨h3, e3⟩ | ⟨h3, e3⟩ <;> rw [e1, e2, e3] <;> simp <;> omega
theorem anc_ltOf_false (x y : S35) : Go.Proofs.ltOf anc_cf x y = false ↔ ¬ anc_lt x y := by
  rw [← anc_ltOf]
  simp
theorem anc_swo : Sort.SWO (Go.Proofs.ltOf anc_cf) where
  irrefl x := by
    rw [anc_ltOf_false]
    unfold anc_lt
    omega
  trans x y z h1 h2 := by
    rw [anc_ltOf] at *
    unfold anc_lt at *
    omega
  ntrans x y z h1 h2 := by
    rw [anc_ltOf_false] at *
    unfold anc_lt at *
    omega
theorem anc_total (x y : S35) (h1 : Go.Proofs.ltOf anc_cf x y = false) (h2 : Go.Proofs.ltOf anc_cf y x = false) : x = y := by
  rw [anc_ltOf_false] at *
  unfold anc_lt at *
  obtain ⟨a, b, c⟩ := x
  obtain ⟨a', b', c'⟩ := y
  simp only at h1 h2
  simp only [S35.mk.injEq]
  omega
theorem anc_sort_sorted (l : List S35) : (anc_sort l).Pairwise fun x y => (!Go.Proofs.ltOf anc_cf y x) = true := by
  unfold anc_sort
  refine List.pairwise_mergeSort (le := fun x y => !Go.Proofs.ltOf anc_cf y x) ?_ ?_ l
  · intro a b c h1 h2
    simp only [Bool.not_eq_true'] at *
    exact anc_swo.ntrans c b a h2 h1
  · intro a b
    simp only [Bool.or_eq_true, Bool.not_eq_true']
    by_cases h : Go.Proofs.ltOf anc_cf b a = true
    · right
      rw [anc_ltOf] at h
      rw [anc_ltOf_false]
      unfold anc_lt at *
      omega
    · left
      simpa using h
theorem anc_sort_perm {l l' : List S35} (h : l.Perm l') : anc_sort l = anc_sort l' := by
  refine List.Perm.eq_of_pairwise (le := fun x y => (!Go.Proofs.ltOf anc_cf y x) = true) ?_ (anc_sort_sorted l) (anc_sort_sorted l') (((List.mergeSort_perm _ _).trans h).trans (List.mergeSort_perm _ _).symm)
  intro a b _ _ h1 h2
  simp only [Bool.not_eq_true'] at h1 h2
  exact anc_total a b h2 h1
theorem anc_flat_len : ∀ l : List S35, (l.flatMap anc_enc).length = l.length * 3
  | [] => rfl
  | x :: r => by rw [List.flatMap_cons, List.length_append, anc_flat_len r, List.length_cons]; show 3 + _ = _; omega
theorem anc_flat_get : ∀ (l : List S35) (t : Nat), t < l.length * 3 → (l.flatMap anc_enc)[t]? = (anc_enc (l.getD (t / 3) z35))[t % 3]?
  | [], t, h => by simp at h
  | x :: r, t, h => by
    rw [List.flatMap_cons]
    by_cases c : t < 3
    · rw [List.getElem?_append_left (show t < (anc_enc x).length from c), show t / 3 = 0 by omega, show t % 3 = t by omega]
      rfl
    · rw [List.getElem?_append_right (show (anc_enc x).length ≤ t from by show 3 ≤ t; omega)]
      rw [List.length_cons] at h
      have := anc_flat_get r (t - 3) (by omega)
      rw [show (anc_enc x).length = 3 from rfl, this, show t / 3 = (t - 3) / 3 + 1 by omega, show t % 3 = (t - 3) % 3 by omega]
      rfl
instance : Inhabited S35 := ⟨z35⟩
theorem anc_flatK (l : List S35) : (Go.Sort.flatK anc_enc 3 l.toArray).toList = l.flatMap anc_enc := by
  refine List.ext_getElem? fun t => ?_
  by_cases h : t < l.length * 3
  · have hd : t / 3 < l.length := by omega
    rw [anc_flat_get l t h]
    have h1 : t < (Go.Sort.flatK anc_enc 3 l.toArray).size := by rw [Go.Sort.size_flatK]; simpa using h
    have h2 := Go.Sort.get_flatK anc_enc 3 l.toArray t (by simpa using h)
    rw [getElem!_pos _ t h1] at h2
    rw [Array.getElem?_toList, Array.getElem?_eq_getElem h1, h2]
    have h3 : l.toArray[t / 3]! = l.getD (t / 3) z35 := by
      rw [getElem!_pos _ _ (by simpa using hd)]
      simp [List.getD_eq_getElem?_getD, List.getElem?_eq_getElem hd]
    rw [h3]
    have h4 : t % 3 < (anc_enc (l.getD (t / 3) z35)).length := Nat.mod_lt _ (by decide)
    rw [getElem!_pos (anc_enc (l.getD (t / 3) z35)) (t % 3) h4, List.getElem?_eq_getElem h4]
  · rw [List.getElem?_eq_none (show (Go.Sort.flatK anc_enc 3 l.toArray).toList.length ≤ t by rw [Array.length_toList, Go.Sort.size_flatK]; simp; omega), List.getElem?_eq_none (show (l.flatMap anc_enc).length ≤ t by rw [anc_flat_len]; omega)]
theorem anc_inner {w : World} {B : Nat} {ok : Nat → Prop} : ∀ {l : List S35} {inner : List Value}, Reps (k35.M w B ok) 3 l inner → inner = l.flatMap anc_enc
  | [], inner, h => by
    have := h.1
    simp at this
    rw [this]
    rfl
  | x :: r, inner, h => by
    have h0 := h.2 0 x rfl
    rw [Nat.zero_mul, List.drop_zero] at h0
    have h1 := Kd.reps_drop (m := 1) h
    rw [List.drop_one, List.tail_cons, Nat.one_mul] at h1
    have h2 := anc_inner h1
    rw [List.flatMap_cons, ← h2, ← show inner.take 3 = anc_enc x from k35_openM h0, List.take_append_drop]
theorem anc_reps (w : World) (B : Nat) (ok : Nat → Prop) : ∀ l : List S35, Reps (k35.M w B ok) 3 l (l.flatMap anc_enc)
  | [] => Reps.none _ _
  | x :: r => by
    have h1 : Reps (k35.M w B ok) 3 [x] (anc_enc x) := Reps.snoc (Reps.none _ _) (k35_mkM w B ok x) rfl
    exact Kd.reps_append h1 (anc_reps w B ok r)
theorem anc_holds {W : World} {g : Nat} {cur : Array Value} {e : TypeId} {vs : Array Value} (hb : W.heap[g]? = some (.cells cur e (0, 0))) (ht : cur.toList.take vs.size = vs.toList) : Sort.Holds id W g 0 vs := by
  intro j hj
  refine ⟨?_, by simp [World.frozen?, hb]⟩
  have h1 : (cur.toList.take vs.size)[j]? = vs.toList[j]? := by rw [ht]
  rw [List.getElem?_take_of_lt hj] at h1
  simp only [World.cell?, hb, Nat.zero_add]
  simp only [Option.isSome_none, Bool.false_eq_true, if_false]
  rw [← Array.getElem?_toList, h1]
  simp [hj]
theorem anc_heap_sorted {w : World} {g n : Nat} {os : Array Obj} {cur : Array Value} {e : TypeId} (d : Array Value) (hb : w.heap[g]? = some (.cells cur e (0, 0))) :
    (Sort.grow (Sort.putRow id (Sort.ahead w n) g 0 d) os).heap[g]? = some (.cells (Sort.putCells id 0 d cur) e (0, 0)) := by
  have hg : g < w.heap.size := (Array.getElem?_eq_some_iff.1 hb).1
  rw [Sort.heap_grow_old _ _ (by simpa using hg)]
  simp [Sort.putRow, Sort.mapBlock, Sort.ahead, Array.getElem?_modify, hb, Sort.onCells]
theorem anc_grown_sorted {w : World} {g n : Nat} {os : Array Obj} (d : Array Value) : w.grownBy (Sort.grow (Sort.putRow id (Sort.ahead w n) g 0 d) os) (some g) := by
  refine ⟨rfl, rfl, rfl, by simp, fun k hk hne => ?_⟩
  rw [Sort.heap_grow_old _ _ (by simpa using hk)]
  have : g ≠ k := fun e => hne (by rw [e])
  simp [Sort.putRow, Sort.mapBlock, Sort.ahead, Array.getElem?_modify, this]
theorem anc_take_put (cur vs : Array Value) (h : vs.size ≤ cur.size) : (Sort.putCells id 0 vs cur).toList.take vs.size = vs.toList := by
  apply List.ext_getElem?
  intro j
  by_cases hj : j < vs.size
  · rw [List.getElem?_take_of_lt hj, Array.getElem?_toList]
    simp [Sort.putCells, hj, show j < cur.size by omega]
  · rw [List.getElem?_take_eq_none (by omega), List.getElem?_eq_none (by simp; omega)]
theorem anc_sorted_row {W : World} {B g cap n : Nat} {os : Array Obj} {cur : Array Value} {l : List S35} (ok : Nat → Prop) (hok : ok g) (hbase : B ≤ g) (hb : W.heap[g]? = some (.cells cur 35 (0, 0))) (m : Nat) (hm : m = l.length) (h1 : l.length ≤ cap) (h2 : cap ≤ maxLen) (h3 : cur.size = cap * 3) :
    Kd.R k35 35 (Go.Proofs.sortWorldK anc_enc 3 W g 0 n l.toArray os) B ok (.slice (some ⟨g, 0, none⟩) m cap) l := by
  subst hm
  have hs : (Go.Sort.flatK anc_enc 3 l.toArray).size = l.length * 3 := by rw [Go.Sort.size_flatK]; simp
  refine ⟨fun k hk => ?_, l.flatMap anc_enc, ⟨anc_flat_len l, .inr ⟨g, cap, _, rfl, hbase, anc_heap_sorted _ hb, h1, h2, (by simp [Sort.putCells, h3]; rfl), ?_⟩⟩, anc_reps _ _ _ l⟩
  · simp [Value.ownBlock] at hk
    rw [← hk]
    exact hok
  · have := anc_take_put cur (Go.Sort.flatK anc_enc 3 l.toArray) (by rw [hs, h3]; exact Nat.mul_le_mul_right 3 h1)
    rw [hs, anc_flatK] at this
    exact this
/-! ### All notes, in order -/
theorem anc_filter_step {l : List S35} {left : Lit → Bool} {n : S35} (hinc : l.Pairwise (fun x y => x.f0 < y.f0)) (hn : n ∈ l) (hl : left (.int .i64 n.f0) = true) : (n :: l.filter fun x => !left (.int .i64 x.f0)).Perm (l.filter fun x => !(left (.int .i64 x.f0) && !Lit.sameKey (.int .i64 x.f0) (.int .i64 n.f0))) := by
  induction l with
  | nil => cases hn
  | cons x r ih =>
    obtain ⟨h1, h2⟩ := List.pairwise_cons.1 hinc
    rw [List.filter_cons, List.filter_cons]
    rcases List.mem_cons.1 hn with rfl | hn
    · have e : (!(left (.int .i64 n.f0) && !Lit.sameKey (.int .i64 n.f0) (.int .i64 n.f0))) = true := by simp [Lit.sameKey]
      rw [e, hl, if_pos rfl, if_neg (by decide)]
      refine List.Perm.of_eq ?_
      congr 1
      refine List.filter_congr fun y hy => ?_
      have : ¬ y.f0 = n.f0 := by have := h1 y hy; omega
      simp [Lit.sameKey, this]
    · have hx : ¬ x.f0 = n.f0 := by have := h1 n hn; omega
      have e : (!(left (.int .i64 x.f0) && !Lit.sameKey (.int .i64 x.f0) (.int .i64 n.f0))) = !left (.int .i64 x.f0) := by simp [Lit.sameKey, hx]
      rw [e]
      by_cases c : (!left (.int .i64 x.f0)) = true
      · rw [if_pos c, if_pos c]
        exact (List.Perm.swap x n _).trans (List.Perm.cons x (ih h2 hn))
      · rw [if_neg c, if_neg c]
        exact ih h2 hn
theorem anc_next {ops : Array Oper} {rest : List Oper} {o : Oper} {a : Act} {Q : Exit → Act → World → Prop} {w : World} (hg : o.guard = none) (it : Operand) (hop : o.op = Op.next it false) (g r : Nat) (l : List S35) (left : Lit → Bool) (cnt : Nat)
    (hit : a.eval it = .pointer (some ⟨r, 0, none⟩)) (h : w.ranges Try.prog 3 anc_R g r l.length (anc_D l) left cnt)
    (hDone : (∀ kl, left kl = false) → wpList Try.prog ops Q rest (a.put o.dst (.tuple #[.bool false])) w)
    (hMore : ∀ (n : S35) (w' : World) (cnt' : Nat), n ∈ l → left (.int .i64 n.f0) = true → w'.ranges Try.prog 3 anc_R g r l.length (anc_D l) (fun z => left z && !z.sameKey (.int .i64 n.f0)) cnt' → cnt' < cnt → w.grownBy w' (some r) → w'.heap.size = w.heap.size →
      (Instr.entry (.pointer (some ⟨r, 0, none⟩))).run Try.prog w' = .ok (.tuple #[.int .i64 n.f0, .agg #[.int .i64 n.f0, .int .i64 n.f1, .int .i64 n.f2]]) w' → wpList Try.prog ops Q rest (a.put o.dst (.tuple #[.bool true, .int .i64 n.f0, .agg #[.int .i64 n.f0, .int .i64 n.f1, .int .i64 n.f2]])) w') :
    wpList Try.prog ops Q (o :: rest) a w :=
  wpList_next_ranges w hg it hop 3 anc_K anc_R (Value.int .i64) anc_V (fun key kl hkey => by obtain ⟨x, rfl, _⟩ := Maps.keyOf_int_inv Try.underlying3 hkey; exact ⟨x, rfl⟩) (fun v y hv => by obtain ⟨n, rfl, _⟩ := anc_R_inv hv; exact ⟨n, rfl⟩)
    g r l.length (anc_D l) left cnt hit h (fun _ hl => hDone hl) (fun x c kl y w' cnt' hkey hlk hv hat hrg hlt hgr hsz hen => by
      obtain ⟨x', ex, rfl, _⟩ := Maps.keyOf_int_inv Try.underlying3 hkey
      cases ex
      obtain ⟨n', en, ey⟩ := anc_R_inv hv
      obtain ⟨n, hn, h0, ey2⟩ := anc_at hat
      have e1 : (anc_ent n').2 = (anc_ent n).2 := by rw [← ey2, ey]
      have e2 : c = n := by
        have h3 : anc_V c = anc_V n' := en
        obtain ⟨a, b, d⟩ := c
        obtain ⟨a', b', d'⟩ := n'
        obtain ⟨a2, b2, d2⟩ := n
        simp only [anc_V, Value.agg.injEq, Array.mk.injEq, List.cons.injEq, Value.int.injEq, true_and, and_true] at h3
        simp only [anc_ent, DataW.agg.injEq, List.cons.injEq, DataW.lit.injEq, Lit.int.injEq, true_and, and_true] at e1
        simp only [S35.mk.injEq]
        omega
      subst e2
      rw [← h0]
      subst h0
      exact hMore c w' cnt' hn hlk hrg hlt hgr hsz hen)
structure anc_List.I (l : List S35) (g : Nat) (w wr : World) (left : Lit → Bool) (cnt : Nat) (v : Value) (ol : List S35) : Prop where
  rng : wr.ranges Try.prog 3 anc_R g w.heap.size l.length (anc_D l) left cnt
  row : Kd.R k35 35 wr w.heap.size (fun k => k ≠ w.heap.size) v ol
  per : ol.Perm (l.filter fun x => !left (.int .i64 x.f0))
  below : Below w.heap.size w wr
  big : w.heap.size < wr.heap.size
set_option maxHeartbeats 8000000 in
set_option maxRecDepth 100000 in
theorem anc_List.calls (B b : Nat) (l : List S35) (w : World) (h : anc_M B b l w) :
    Calls Try.prog 12 #[.pointer (some ⟨b, 0, none⟩)] w fun e w' => ∃ v, e = .returned v ∧ Kd.R k35 35 w' w.heap.size (fun _ => True) v (anc_sort l) ∧ Below w.heap.size w w' := by
  have hu46 := Try.underlying46
  have HM := Aside0.mk h
  obtain ⟨⟨g, h1, h2, h3⟩, h4, h5, h6⟩ := h
  have hc : w.cell? ⟨b, 0, none⟩ = some (.map (some g)) := (blk_cell h1 0).trans rfl
  have HOWN := Aside0.mk h2
  have HINC := Aside0.mk h6
  have HLE := Aside0.mk h5
  have HBG := Aside0.mk (show g < w.heap.size from h2.lt)
  clear h1 h2 h3 h4 h5 h6
  go_enter Try.func12, Try.ntmps12
  go_wp2_with (first
    | ((with_reducible refine gate_callee (f := 20) rfl ?_); refine goesL_ (some 7) rfl rfl Try.func20 (by kernel_rfl) rfl #[.pointer (some ⟨b, 0, none⟩)] rfl (by (try simp only [List.map_toArray, List.map_cons, List.map_nil]); first | done | rfl) ?_; refine (anc_none.calls B b l w HM.out).mono ?_; rintro e w1 ⟨rfl, hw1⟩; obtain rfl := hw1.symm; refine ⟨_, rfl, ?_⟩)
    | (at_range; refine wpList_range_own _ rfl _ 44 rfl 3 35 anc_K Try.underlying44 anc_R g l.length _ rfl HOWN.out ?_; intro w1 hrg0 hg0 hs0))
  have I0 : anc_List.I l g w w1 (Maps.has (anc_D l)) (Maps.size (anc_D l)) (.slice none 0 0) [] := ⟨hrg0, Kd.R_nil _ _ _ _ _, by
      rw [List.filter_eq_nil_iff.2 fun x hx => by
        rw [anc_has, List.any_eq_true.2 ⟨x, hx, decide_eq_true rfl⟩]
        decide], (Below.refl w.heap.size w).grown hg0 (Nat.le_refl _) (fun j hj => by cases hj), by omega⟩
  clear hrg0 hg0 hs0
  go_loopw [3, 5] (fun v3 v5 wr => ∃ left cnt ol, Aside0 (anc_List.I l g w wr left cnt v3 ol)) (fun _ _ wr => wr.rangeLeft g w.heap.size)
  case atStart => exact ⟨_, _, _, ⟨I0⟩⟩
  case round =>
    obtain ⟨left, cnt, ol, HI⟩ := hrel
    clear I0
    go_wp2_with (first | (at_next; refine anc_next rfl _ rfl g w.heap.size l left cnt rfl HI.out.rng ?_ ?_))
    · intro hl0
      have hper : anc_sort ol = anc_sort l := anc_sort_perm (by
        have := HI.out.per
        rw [List.filter_eq_self.2 fun x _ => by rw [hl0]; rfl] at this
        exact this)
      obtain ⟨hok, inner, hown, hrep⟩ := HI.out.row
      have eg : ∀ args w, (callFunc 24 args).run Try.prog w = .ok (.enter 24 args) w := enters_of Try.func24 (by kernel_rfl) rfl
      rcases hown.2 with ⟨ev, e0⟩ | ⟨gb, cap, cur, ev, hgb, hcur, hlc, hcm, hcs, htk⟩
      · have eol : ol = [] := List.eq_nil_of_length_eq_zero e0
        subst eol
        have HPER := Aside0.mk hper
        clear hper hown hrep hok
        subst ev
        go_wp2_with fail
        refine (AnyF.slices_SortFunc_none Try.sortNotes none 0 _ _).mono ?_
        rintro e w9 ⟨rfl, hw9⟩
        obtain rfl := hw9.symm
        go_wp2
        go_ret
        exact ⟨_, rfl, by rw [← HPER.out, show anc_sort [] = [] by unfold anc_sort; exact List.mergeSort_nil]; exact Kd.R_nil _ _ _ _ _, HI.out.below⟩
      · have hin := anc_inner hrep
        have hH : Go.Sort.HoldsK anc_enc 3 wr gb 0 ol.toArray := anc_holds hcur (by
          have e1 : (Go.Sort.flatK anc_enc 3 ol.toArray).size = ol.length * 3 := by rw [Go.Sort.size_flatK]; simp
          rw [e1, anc_flatK, ← hin]
          exact htk)
        have hlen : ol.length ≤ 200 := by have e := HI.out.per.length_eq; have f := List.length_filter_le (fun x : S35 => !left (.int .i64 x.f0)) l; have := HLE.out; omega
        have hcon := AnyQ.slices_SortFunc_total Try.sortNotes 3 Try.isAgg35 Try.sizeOf35 anc_enc (fun _ => rfl) (fun x v hv => by simp [anc_enc] at hv; rcases hv with rfl | rfl | rfl <;> rfl) anc_cf anc_swo 24 #[] gb 0 cap ol.toArray wr eg (fun _ _ _ _ x y => anc_less.calls x y _) hH (Array.getElem?_eq_some_iff.1 hcur).1 (by simp; omega) anc_total
        change Calls Try.prog 23 #[.slice (some ⟨gb, 0, none⟩) ol.length cap, .func (.func 24) #[] #[]] wr _ at hcon
        have HCON := Aside0.mk hcon
        have HPER := Aside0.mk hper
        have HCUR := Aside0.mk hcur
        have HNUM := Aside0.mk (And.intro hlc (And.intro hcm hcs))
        have HGB := Aside0.mk hgb
        clear hcon hper hown hrep hok hcur hlc hcm hcs hgb htk hin hH eg hlen
        subst ev
        go_wp2_with fail
        refine HCON.out.mono ?_
        rintro e w9 ⟨rfl, m, os, hw9⟩
        have HW9 := Aside0.mk hw9
        clear hw9
        go_wp2
        go_ret
        have ew : w9 = Go.Proofs.sortWorldK anc_enc 3 wr gb 0 m (anc_sort ol).toArray os := HW9.out
        have el : (anc_sort ol).length = ol.length := by unfold anc_sort; exact List.length_mergeSort _
        refine ⟨_, rfl, ?_, ?_⟩
        · rw [ew, ← HPER.out]
          exact anc_sorted_row (fun _ => True) trivial HGB.out HCUR.out ol.length el.symm (by rw [el]; exact HNUM.out.1) HNUM.out.2.1 HNUM.out.2.2
        · rw [ew]
          exact HI.out.below.grown (anc_grown_sorted _) (Nat.le_of_lt HI.out.big) (fun j hj => by cases hj; exact HGB.out)
    · intro n w2 cnt2 hn hlx hrg2 hlt hg2 hs2 hen
      have ROW := Aside0.mk (Kd.R_grown HI.out.row hg2 (fun k hk e => hk (Option.some.inj e)))
      have BEL := Aside0.mk (HI.out.below.grown hg2 (Nat.le_of_lt HI.out.big) (fun j hj => by cases hj; exact Nat.le_refl _))
      have BIG := Aside0.mk (show w.heap.size < w2.heap.size by rw [hs2]; exact HI.out.big)
      have LEN := Aside0.mk (show (ol.length + 1) * 24 ≤ 140737488355328 by have e := HI.out.per.length_eq; have f := List.length_filter_le (fun x : S35 => !left (.int .i64 x.f0)) l; have := HLE.out; omega)
      have RNG := Aside0.mk hrg2
      have PER := Aside0.mk ((List.perm_append_singleton n ol).trans ((HI.out.per.cons n).trans (anc_filter_step HINC.out hn hlx)))
      have LT := Aside0.mk (And.intro hlt HI.out.rng.left_eq)
      clear hn hlx hrg2 hlt hg2 hs2
      obtain ⟨n0, n1, n2⟩ := n
      simp only at hen
      go_wp2_with (first | ((with_reducible refine gate_dst (N := 5) rfl ?_); refine box_event ?hg (N := 5) ?hd (cs := #[.int .i64 0, .int .i64 0, .int .i64 0]) (t := 35) ?hr ?_; (case hd => rfl); (case hg => rfl); (case hr => first | (go_simp; done) | (go_simp; rfl)); intro g5 hg5 w3 hbox hb3; have HB3 := Aside0.mk hb3; have GE := Aside0.mk (show w2.heap.size ≤ g5 by omega); have HB4 := Aside0.mk (below_set (v := .int .i64 n2) (j := 2) (below_set (v := .int .i64 n1) (j := 1) (below_set (v := .int .i64 n0) (j := 0) HB3.out GE.out) GE.out) GE.out); have hz0 : w3.cell? ⟨g5, 0, none⟩ = some (.int .i64 0) := (blk_cell hbox 0).trans rfl; have hz1 : w3.cell? ⟨g5, 1, none⟩ = some (.int .i64 0) := (blk_cell hbox 1).trans rfl; have hz2 : w3.cell? ⟨g5, 2, none⟩ = some (.int .i64 0) := (blk_cell hbox 2).trans rfl; have hf0 : w3.frozen? ⟨g5, 0, none⟩ = false := blk_frozen hbox 0; have hf1 : w3.frozen? ⟨g5, 1, none⟩ = false := blk_frozen hbox 1; have hf2 : w3.frozen? ⟨g5, 2, none⟩ = false := blk_frozen hbox 2; clear hbox hb3 hg5) | ((with_reducible refine gate_builtin (b := .append) (xs := #[.tmp 17, .tmp 19]) rfl ?_); at_builtin; refine Kd.R_append k35 (w0 := w) w.heap.size rfl (.tmp 17) (.tmp 19) 32 35 (.agg #[.int .i64 0, .int .i64 0, .int .i64 0]) 24 rfl Try.underlying32 info35 rfl (by decide) (by omega) u3 ol (⟨n0, n1, n2⟩ : S35) [.int .i64 n0, .int .i64 n1, .int .i64 n2] (fun k => k ≠ w.heap.size) (fun _ => False) rfl (by first | (go_simp; done) | (go_simp; rfl)) ?aP (fun _ hk => hk.elim) ?aF ?aO ?aB ?aS ?aL ?_; (case aP => exact k35_mkM _ _ _ (⟨n0, n1, n2⟩ : S35)); (case aF => exact (fun k hk => by have := BIG.out; have := below_size HB4.out; omega)); (case aO => exact Kd.R_below ROW.out HB4.out); (case aB => exact below_then BEL.out (Nat.le_of_lt BIG.out) HB4.out); (case aS => exact (by have := BIG.out; have := below_size HB4.out; omega)); (case aL => exact LEN.out); intro v1 w7 ho hb hg hat))
      have GRW := grown_of_below HB4.out none
      have hne : ∀ k, u3.ownBlock = some k → k ≠ w.heap.size ∧ w.heap.size ≤ k := fun k hk => ⟨ROW.out.1 k hk, Kd.R_base ROW.out k hk⟩
      have hrg7 := (RNG.out.kept GRW (by simp) (by simp)).kept hg (fun e => by have := hne g e.symm; have := HBG.out; omega) (fun e => (hne _ e.symm).1 rfl)
      go_roundw
      case measure => rw [hrg7.left_eq, LT.out.2]; exact LT.out.1
      case rel => exact ⟨_, cnt2, ol ++ [⟨n0, n1, n2⟩], ⟨⟨hrg7, ho, PER.out, hb, Nat.lt_of_lt_of_le BIG.out (Nat.le_trans (below_size HB4.out) hg.size)⟩⟩⟩

end Go.Proofs.Ytgafgkojbbndmaa.PAs
