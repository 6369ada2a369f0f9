-- Written for this claim by a program (the kit's print, with hand-made contracts for what it does not take).
import Derived.Test.YtcoolajjjnkfpaaPPdx0
import Derived.Test.YtcoolajjjnkfpaaPPdx5
namespace Go.Proofs.Ytcoolajjjnkfpaa.PPd
open Go.RowKit Go.Proofs.YtcoolajjjnkfpaaW.PrintWords Go.Proofs.YtcoolajjjnkfpaaW.PrintLast Go.Proofs.YtcoolajjjnkfpaaW.PrintMore
attribute [local go_sem] max2_int min2_int max_two min_two max_three min_three max_four min_four   -- for this text's walks alone
set_option linter.unusedVariables false
set_option linter.unusedSimpArgs false

/-! ### pos_Mapping_Mirror: function 25 -/

def pos_Mirror.T5 : Bool × List (List Nat × List Nat) := (true, [([], []), ([0], [0]), ([1], [1]), ([2], [2]), ([], []), ([], []), ([5], [5]), ([6], [6]), ([7], [7]), ([], []), ([], []), ([], []), ([3, 4, 0, 1, 2, 3, 4, 8, 10], [3, 4]), ([12, 0, 1, 2, 3, 4, 8, 10], [12]), ([13, 10, 0, 1, 2, 3, 4, 8, 10], [10, 13]), ([8, 9, 0, 1, 2, 3, 4, 5, 6, 7, 8, 9, 10, 11, 12, 13, 14], [8, 9]), ([15, 0, 1, 2, 3, 4, 5, 6, 7, 8, 9, 10, 11, 12, 13, 14], [15]), ([16, 11, 14, 0, 1, 2, 3, 4, 5, 6, 7, 8, 9, 10, 11, 12, 13, 14], [11, 16])])
def pos_Mirror.B5 : List Nat := [0, 1, 3, 7, 0, 0, 32, 96, 224, 0, 0, 0, 1535, 5631, 13823, 32767, 65535, 131071]
theorem pos_Mirror.tab5 : rtab .any (opsOf Try.f25 5) = pos_Mirror.T5 := by kernel_rfl
theorem pos_Mirror.bits5 : waitsOk pos_Mirror.T5.2 pos_Mirror.B5 = true := by kernel_rfl
theorem setCells_one (W : World) (g j : Nat) (u : Value) : W.setCells g j [u] = W.setCell ⟨g, j, none⟩ u := rfl
/-- A mirror is written into a mapping's element. -/
theorem one_store {W : World} {B g n cap : Nat} {l : List MapOne} (h : Kd.R kOne 76 W B (fun _ => True) (.slice (some ⟨g, 0, none⟩) n cap) l) (i : Int) (h0 : 0 ≤ i) (h1 : i < n) (j : Int) :
    Kd.R kOne 76 (W.setCell ⟨g, i.toNat * 2 + 1, none⟩ (.int .i64 j)) B (fun _ => True) (.slice (some ⟨g, 0, none⟩) n cap) (l.set i.toNat ⟨(oneAt l i).m, j⟩) ∧ W.grownBy (W.setCell ⟨g, i.toNat * 2 + 1, none⟩ (.int .i64 j)) (some g) ∧ W.frozen? ⟨g, i.toNat * 2 + 1, none⟩ = false ∧ W.cell? ⟨g, i.toNat * 2 + 1, none⟩ = some (.int .i64 (oneAt l i).mirror) := by
  obtain ⟨c, hcl, hM, hcc, hfz⟩ := Kd.R_elem h zOne i h0 h1
  obtain ⟨_, _, rfl, ⟨v, rfl, hv⟩, rfl⟩ := hM
  have hs := Kd.R_seg (seg := [.int .i64 j]) (j := 1) h i h0 h1 hcl hcc (show 1 + 1 ≤ 2 by decide) (x' := ⟨(oneAt l i).m, j⟩) (okp := fun k => True ∧ k ≠ g) ⟨[v], [.int .i64 j], rfl, ⟨v, rfl, hv⟩, rfl⟩ (fun _ hk => hk)
  exact ⟨hs.1, hs.2, hfz 1, hcc 1 _ rfl⟩
def pos_Mirror.bad (l : List MapOne) (i j : Int) : Bool := decide (i < 0) || (decide (j ≤ i) || (decide ((l.length : Int) ≤ j) || (decide (0 ≤ (oneAt l i).mirror) || decide (0 ≤ (oneAt l j).mirror))))
def pos_Mirror.e (l : List MapOne) (i j : Int) : Int := if pos_Mirror.bad l i j = true then 1 else 0
def pos_Mirror.l (l : List MapOne) (i j : Int) : List MapOne := if pos_Mirror.bad l i j = true then l else (l.set i.toNat ⟨(oneAt l i).m, j⟩).set j.toNat ⟨(oneAt l j).m, i⟩
set_option maxHeartbeats 8000000 in
set_option maxRecDepth 100000 in
theorem pos_Mirror.calls (B b : Nat) (l : List MapOne) (i j : Int) (w0 w : World) (h : pos_M B b l w) (hB : Below B w0 w) :
    Calls Try.prog 25 #[.pointer (some ⟨b, 0, none⟩), .int .i64 i, .int .i64 j] w fun e w' => e = .returned (.int .i64 (pos_Mirror.e l i j)) ∧ pos_M B b (pos_Mirror.l l i j) w' ∧ Below B w0 w' ∧ pos_Keep w w' := by
  have hu56 := Try.underlying56
  have hu76 := Try.underlying76
  have hm := h
  obtain ⟨⟨v, h1, h2⟩, h3⟩ := hm
  obtain ⟨A, c, rfl⟩ := Kd.R_slice h2
  have s0 : w.cell? ⟨b, 0, none⟩ = some (.slice A l.length c) := (blk_cell h1 0).trans rfl
  have HM := Aside0.mk h
  have HB := Aside0.mk hB
  have H1 := Aside0.mk h1
  have H2 := Aside0.mk h2
  have H3 := Aside0.mk h3
  clear h1 h2 h3 h hB
  have DONE : Aside0 (pos_Mirror.bad l i j = true → (Ending.returned (.int .i64 1) = .returned (.int .i64 (pos_Mirror.e l i j)) ∧ pos_M B b (pos_Mirror.l l i j) w ∧ Below B w0 w ∧ pos_Keep w w)) := ⟨fun hb => ⟨by unfold pos_Mirror.e; rw [if_pos hb], by unfold pos_Mirror.l; rw [if_pos hb]; exact HM.out, HB.out, pos_Keep.refl _⟩⟩
  by_cases n1 : i < 0
  · have n1b : decide (i < 0) = true := decide_eq_true n1
    have hbad : pos_Mirror.bad l i j = true := by unfold pos_Mirror.bad; rw [n1b]; rfl
    have D := Aside0.mk (DONE.out hbad)
    clear n1 hbad DONE H1 H2 H3 HB
    go_enter Try.func25, Try.ntmps25
    go_wp2_with ((with_reducible refine gate_callee (f := 33) rfl ?_); refine goesL_ (some 9) rfl rfl Try.func33 (by kernel_rfl) rfl #[.pointer (some ⟨b, 0, none⟩)] rfl (by (try simp only [List.map_toArray, List.map_cons, List.map_nil]); first | done | rfl) ?_; refine (pos_none.calls B b l _ HM.out).mono ?_; rintro e w1 ⟨rfl, hw1⟩; subst w1; refine ⟨_, rfl, ?_⟩)
    go_ret
    exact D.out
  · have n1b : decide (i < 0) = false := decide_eq_false n1
    by_cases n2 : j ≤ i
    · have n2b : decide (j ≤ i) = true := decide_eq_true n2
      have hbad : pos_Mirror.bad l i j = true := by unfold pos_Mirror.bad; rw [n1b, n2b]; rfl
      have D := Aside0.mk (DONE.out hbad)
      clear n1 n2 hbad DONE H1 H2 H3 HB
      go_enter Try.func25, Try.ntmps25
      go_wp2_with ((with_reducible refine gate_callee (f := 33) rfl ?_); refine goesL_ (some 9) rfl rfl Try.func33 (by kernel_rfl) rfl #[.pointer (some ⟨b, 0, none⟩)] rfl (by (try simp only [List.map_toArray, List.map_cons, List.map_nil]); first | done | rfl) ?_; refine (pos_none.calls B b l _ HM.out).mono ?_; rintro e w1 ⟨rfl, hw1⟩; subst w1; refine ⟨_, rfl, ?_⟩)
      go_ret
      exact D.out
    · have n2b : decide (j ≤ i) = false := decide_eq_false n2
      by_cases n3 : (l.length : Int) ≤ j
      · have n3b : decide ((l.length : Int) ≤ j) = true := decide_eq_true n3
        have hbad : pos_Mirror.bad l i j = true := by unfold pos_Mirror.bad; rw [n1b, n2b, n3b]; rfl
        have D := Aside0.mk (DONE.out hbad)
        clear n1 n2 n3 hbad DONE H1 H2 H3 HB
        go_enter Try.func25, Try.ntmps25
        go_wp2_with ((with_reducible refine gate_callee (f := 33) rfl ?_); refine goesL_ (some 9) rfl rfl Try.func33 (by kernel_rfl) rfl #[.pointer (some ⟨b, 0, none⟩)] rfl (by (try simp only [List.map_toArray, List.map_cons, List.map_nil]); first | done | rfl) ?_; refine (pos_none.calls B b l _ HM.out).mono ?_; rintro e w1 ⟨rfl, hw1⟩; subst w1; refine ⟨_, rfl, ?_⟩)
        go_ret
        exact D.out
      · have n3b : decide ((l.length : Int) ≤ j) = false := decide_eq_false n3
        have i0 : 0 ≤ i := by omega
        have i1 : i < (l.length : Int) := by omega
        have j0 : 0 ≤ j := by omega
        have j1 : j < (l.length : Int) := by omega
        obtain ⟨cp, hvA⟩ : ∃ g, A = some ⟨g, 0, none⟩ := by
          obtain ⟨ad, c', e⟩ := Kd.R_slice1 H2.out (by omega)
          injection e with e1 e2 e3
          subst e1
          rcases H2.out with ⟨_, inner, ⟨_, hh⟩, _⟩
          rcases hh with ⟨hh, _⟩ | ⟨g, cap, cur, hh, _⟩
          · cases hh
          · injection hh with hh
            exact ⟨g, hh⟩
        subst hvA
        obtain ⟨si, gi, fi, ci⟩ := one_store H2.out i i0 i1 j
        obtain ⟨_, _, fj, cj⟩ := one_store H2.out j j0 j1 i
        have hij : i.toNat * 2 + 1 ≠ j.toNat * 2 + 1 := by omega
        have SI := Aside0.mk si
        have GI := Aside0.mk gi
        have NN := Aside0.mk (And.intro i0 (And.intro i1 (And.intro j0 (And.intro j1 (And.intro hij n2)))))
        have a0 := eq_true i0
        have a1 := eq_true i1
        have a2 := eq_true j0
        have a3 := eq_true j1
        clear si gi n1 n2 n3 i0 i1 j0 j1
        by_cases n4 : 0 ≤ (oneAt l i).mirror
        · have n4b : decide (0 ≤ (oneAt l i).mirror) = true := decide_eq_true n4
          have hbad : pos_Mirror.bad l i j = true := by unfold pos_Mirror.bad; rw [n1b, n2b, n3b, n4b]; rfl
          have D := Aside0.mk (DONE.out hbad)
          clear n4 hbad DONE H1 H2 H3 HB hij
          go_enter Try.func25, Try.ntmps25
          go_wp2_with ((with_reducible refine gate_callee (f := 33) rfl ?_); refine goesL_ (some 9) rfl rfl Try.func33 (by kernel_rfl) rfl #[.pointer (some ⟨b, 0, none⟩)] rfl (by (try simp only [List.map_toArray, List.map_cons, List.map_nil]); first | done | rfl) ?_; refine (pos_none.calls B b l _ HM.out).mono ?_; rintro e w1 ⟨rfl, hw1⟩; subst w1; refine ⟨_, rfl, ?_⟩)
          go_ret
          exact D.out
        · have n4b : decide (0 ≤ (oneAt l i).mirror) = false := decide_eq_false n4
          by_cases n5 : 0 ≤ (oneAt l j).mirror
          · have n5b : decide (0 ≤ (oneAt l j).mirror) = true := decide_eq_true n5
            have hbad : pos_Mirror.bad l i j = true := by unfold pos_Mirror.bad; rw [n1b, n2b, n3b, n4b, n5b]; rfl
            have D := Aside0.mk (DONE.out hbad)
            clear n4 n5 hbad DONE H1 H2 H3 HB hij
            go_enter Try.func25, Try.ntmps25
            go_wp2_with ((with_reducible refine gate_callee (f := 33) rfl ?_); refine goesL_ (some 9) rfl rfl Try.func33 (by kernel_rfl) rfl #[.pointer (some ⟨b, 0, none⟩)] rfl (by (try simp only [List.map_toArray, List.map_cons, List.map_nil]); first | done | rfl) ?_; refine (pos_none.calls B b l _ HM.out).mono ?_; rintro e w1 ⟨rfl, hw1⟩; subst w1; refine ⟨_, rfl, ?_⟩)
            go_ret
            exact D.out
          · have n5b : decide (0 ≤ (oneAt l j).mirror) = false := decide_eq_false n5
            have hbad : ¬ pos_Mirror.bad l i j = true := by unfold pos_Mirror.bad; rw [n1b, n2b, n3b, n4b, n5b]; decide
            have E := Aside0.mk (show pos_Mirror.e l i j = 0 ∧ pos_Mirror.l l i j = (l.set i.toNat ⟨(oneAt l i).m, j⟩).set j.toNat ⟨(oneAt l j).m, i⟩ from ⟨by unfold pos_Mirror.e; rw [if_neg hbad], by unfold pos_Mirror.l; rw [if_neg hbad]⟩)
            clear n4 n5 hbad DONE
            go_enter Try.func25, Try.ntmps25
            go_wp2_with ((with_reducible refine gate_callee (f := 33) rfl ?_); refine goesL_ (some 9) rfl rfl Try.func33 (by kernel_rfl) rfl #[.pointer (some ⟨b, 0, none⟩)] rfl (by (try simp only [List.map_toArray, List.map_cons, List.map_nil]); first | done | rfl) ?_; refine (pos_none.calls B b l _ HM.out).mono ?_; rintro e w1 ⟨rfl, hw1⟩; subst w1; refine ⟨_, rfl, ?_⟩)
            refine start_ (n := 18) (S := fun w' => w'.cell? ⟨b, 0, none⟩ = some (.slice (some ⟨cp, 0, none⟩) l.length c)) (ds := [14, 17]) #[false, false, false, false, false, false, false, false, false, false, false, false, false, false, false, false, false, false] (by kernel_rfl) rfl rfl s0 (fun hHeld => ?_)
            refine with_tabW pos_Mirror.tab5 pos_Mirror.bits5 (fun HT_ HW_ => ?_)
            have R2 := Aside0.mk (Kd.R_drew H2.out)
            have M2 := Aside0.mk (blk_drew H1.out)
            have B2 := Aside0.mk (show Below B w0 w.drew from Below.drew HB.out)
            have K2 := Aside0.mk (show pos_Keep w w.drew from fun g cs t _ _ h => blk_drew h)
            have NE := Aside0.mk (show b ≠ cp from fun e => by subst e; exact Kd.R_ne H2.out H1.out (by decide) rfl)
            clear H1 H2 HB s0 fi fj ci cj SI GI HM
            generalize w.drew = w2 at *
            obtain ⟨si, gi, fi, ci⟩ := one_store R2.out i NN.out.1 NN.out.2.1 j
            have SI := Aside0.mk si
            have GI := Aside0.mk gi
            have BG := Aside0.mk (Kd.R_base R2.out cp (by simp [Value.ownBlock]))
            have HG := Aside0.mk (Kd.R_typed R2.out cp (by simp [Value.ownBlock]))
            clear si gi
            refine pure_ (i := 0) (N := some 49) (v := ?_) (a' := ?_) #[true, false, false, false, false, false, false, false, false, false, false, false, false, false, false, false, false, false] rfl rfl (any_of HT_.out (by kernel_rfl)) (fun _ _ _ h => h) (Or.inl ⟨by rfl, ?_⟩) ?_ ?_
            rotate_left
            · intro w'
              go_simp
              with_reducible rfl
            rotate_left
            · simp only [Act.put, List.setIfInBounds_toArray, List.set_cons_zero, List.set_cons_succ, i64_w, i32_w]
              rfl
            refine pure_ (i := 1) (N := some 50) (v := ?_) (a' := ?_) #[true, true, false, false, false, false, false, false, false, false, false, false, false, false, false, false, false, false] rfl rfl (any_of HT_.out (by kernel_rfl)) (fun _ _ _ h => h) (Or.inl ⟨by rfl, ?_⟩) ?_ ?_
            rotate_left
            · intro w'
              go_simp
              with_reducible rfl
            rotate_left
            · simp only [Act.put, List.setIfInBounds_toArray, List.set_cons_zero, List.set_cons_succ, i64_w, i32_w]
              rfl
            refine pure_ (i := 2) (N := some 51) (v := ?_) (a' := ?_) #[true, true, true, false, false, false, false, false, false, false, false, false, false, false, false, false, false, false] rfl rfl (any_of HT_.out (by kernel_rfl)) (fun _ _ _ h => h) (Or.inl ⟨by rfl, ?_⟩) ?_ ?_
            rotate_left
            · intro w'
              go_simp
              with_reducible rfl
            rotate_left
            · simp only [Act.put, List.setIfInBounds_toArray, List.set_cons_zero, List.set_cons_succ, i64_w, i32_w]
              rfl
            refine take_ (i := 3) (N := some 52) (v := ?_) (a' := ?_) #[true, true, true, true, false, false, false, false, false, false, false, false, false, false, false, false, false, false] rfl rfl (take_ofW HT_.out HW_.out (by kernel_rfl)) (fun _ _ _ h => h) (Or.inl ⟨by rfl, ?_⟩) hHeld ?_ ?_
            rotate_left
            · intro w' s0
              go_simp
              with_reducible rfl
            rotate_left
            · simp only [Act.put, List.setIfInBounds_toArray, List.set_cons_zero, List.set_cons_succ, i64_w, i32_w]
              rfl
            refine pure_ (i := 4) (N := some 53) (v := ?_) (a' := ?_) #[true, true, true, true, true, false, false, false, false, false, false, false, false, false, false, false, false, false] rfl rfl (any_of HT_.out (by kernel_rfl)) (fun _ _ _ h => h) (Or.inl ⟨by rfl, ?_⟩) ?_ ?_
            rotate_left
            · intro w'
              go_simp
              with_reducible rfl
            rotate_left
            · simp only [Act.put, List.setIfInBounds_toArray, List.set_cons_zero, List.set_cons_succ, i64_w, i32_w]
              rfl
            refine pure_ (i := 5) (N := some 54) (v := ?_) (a' := ?_) #[true, true, true, true, true, true, false, false, false, false, false, false, false, false, false, false, false, false] rfl rfl (any_of HT_.out (by kernel_rfl)) (fun _ _ _ h => h) (Or.inl ⟨by rfl, ?_⟩) ?_ ?_
            rotate_left
            · intro w'
              go_simp
              with_reducible rfl
            rotate_left
            · simp only [Act.put, List.setIfInBounds_toArray, List.set_cons_zero, List.set_cons_succ, i64_w, i32_w]
              rfl
            refine pure_ (i := 6) (N := some 55) (v := ?_) (a' := ?_) #[true, true, true, true, true, true, true, false, false, false, false, false, false, false, false, false, false, false] rfl rfl (any_of HT_.out (by kernel_rfl)) (fun _ _ _ h => h) (Or.inl ⟨by rfl, ?_⟩) ?_ ?_
            rotate_left
            · intro w'
              go_simp
              with_reducible rfl
            rotate_left
            · simp only [Act.put, List.setIfInBounds_toArray, List.set_cons_zero, List.set_cons_succ, i64_w, i32_w]
              rfl
            refine pure_ (i := 7) (N := some 56) (v := ?_) (a' := ?_) #[true, true, true, true, true, true, true, true, false, false, false, false, false, false, false, false, false, false] rfl rfl (any_of HT_.out (by kernel_rfl)) (fun _ _ _ h => h) (Or.inl ⟨by rfl, ?_⟩) ?_ ?_
            rotate_left
            · intro w'
              go_simp
              with_reducible rfl
            rotate_left
            · simp only [Act.put, List.setIfInBounds_toArray, List.set_cons_zero, List.set_cons_succ, i64_w, i32_w]
              rfl
            refine take_ (i := 8) (N := some 57) (v := ?_) (a' := ?_) #[true, true, true, true, true, true, true, true, true, false, false, false, false, false, false, false, false, false] rfl rfl (take_ofW HT_.out HW_.out (by kernel_rfl)) (fun _ _ _ h => h) (Or.inl ⟨by rfl, ?_⟩) hHeld ?_ ?_
            rotate_left
            · intro w' s0
              go_simp
              with_reducible rfl
            rotate_left
            · simp only [Act.put, List.setIfInBounds_toArray, List.set_cons_zero, List.set_cons_succ, i64_w, i32_w]
              rfl
            refine pure_ (i := 9) (N := some 58) (v := ?_) (a' := ?_) #[true, true, true, true, true, true, true, true, true, true, false, false, false, false, false, false, false, false] rfl rfl (any_of HT_.out (by kernel_rfl)) (fun _ _ _ h => h) (Or.inl ⟨by rfl, ?_⟩) ?_ ?_
            rotate_left
            · intro w'
              go_simp
              with_reducible rfl
            rotate_left
            · simp only [Act.put, List.setIfInBounds_toArray, List.set_cons_zero, List.set_cons_succ, i64_w, i32_w]
              rfl
            refine pure_ (i := 10) (N := some 59) (v := ?_) (a' := ?_) #[true, true, true, true, true, true, true, true, true, true, true, false, false, false, false, false, false, false] rfl rfl (any_of HT_.out (by kernel_rfl)) (fun _ _ _ h => h) (Or.inl ⟨by rfl, ?_⟩) ?_ ?_
            rotate_left
            · intro w'
              go_simp
              with_reducible rfl
            rotate_left
            · simp only [Act.put, List.setIfInBounds_toArray, List.set_cons_zero, List.set_cons_succ, i64_w, i32_w]
              rfl
            refine pure_ (i := 11) (N := some 60) (v := ?_) (a' := ?_) #[true, true, true, true, true, true, true, true, true, true, true, true, false, false, false, false, false, false] rfl rfl (any_of HT_.out (by kernel_rfl)) (fun _ _ _ h => h) (Or.inl ⟨by rfl, ?_⟩) ?_ ?_
            rotate_left
            · intro w'
              go_simp
              with_reducible rfl
            rotate_left
            · simp only [Act.put, List.setIfInBounds_toArray, List.set_cons_zero, List.set_cons_succ, i64_w, i32_w]
              rfl
            refine pure_ (i := 12) (N := some 61) (v := ?_) (a' := ?_) #[true, true, true, true, true, true, true, true, true, true, true, true, true, false, false, false, false, false] rfl rfl (any_of HT_.out (by kernel_rfl)) (fun _ _ _ h => h) (Or.inl ⟨by rfl, ?_⟩) ?_ ?_
            rotate_left
            · intro w'
              go_simp
              with_reducible rfl
            rotate_left
            · simp only [Act.put, List.setIfInBounds_toArray, List.set_cons_zero, List.set_cons_succ, i64_w, i32_w]
              rfl
            refine pure_ (i := 13) (N := some 62) (v := ?_) (a' := ?_) #[true, true, true, true, true, true, true, true, true, true, true, true, true, true, false, false, false, false] rfl rfl (any_of HT_.out (by kernel_rfl)) (fun _ _ _ h => h) (Or.inl ⟨by rfl, ?_⟩) ?_ ?_
            rotate_left
            · intro w'
              go_simp
              with_reducible rfl
            rotate_left
            · simp only [Act.put, List.setIfInBounds_toArray, List.set_cons_zero, List.set_cons_succ, i64_w, i32_w]
              rfl
            refine last_ (i := 14) (N := none) #[true, true, true, true, true, true, true, true, true, true, true, true, true, true, true, false, false, false] rfl rfl (one_of HT_.out (by kernel_rfl)) (by decide) (fun K hK => ?_)
            refine skip_ (w1 := ?_) (by rfl) rfl ?_ ?_
            rotate_left
            · go_simp
              rfl
            refine hK.out _ _ ?_
            clear hK K
            have M3 := Aside0.mk (blk_far (p := ⟨cp, i.toNat * 2 + 1, none⟩) M2.out NE.out (.int .i64 j))
            have B3 := Aside0.mk (B2.out.setCell (p := ⟨cp, i.toNat * 2 + 1, none⟩) BG.out (.int .i64 j))
            have K3 := Aside0.mk (K2.out.trans (pos_Keep.set (pos_Keep.refl w2) HG.out.choose_spec (.inl rfl) (i.toNat * 2 + 1) (.int .i64 j)))
            clear M2 B2 K2 GI R2 fi ci
            generalize w2.setCell ⟨cp, i.toNat * 2 + 1, none⟩ (.int .i64 j) = w3 at *
            obtain ⟨si, gi, fi, ci⟩ := one_store (n := l.length) SI.out j NN.out.2.2.1 NN.out.2.2.2.1 i
            have SJ := Aside0.mk si
            have HG3 := Aside0.mk (Kd.R_typed SI.out cp (by simp [Value.ownBlock]))
            clear si gi
            refine pure_ (i := 15) (N := some 63) (v := ?_) (a' := ?_) #[true, true, true, true, true, true, true, true, true, true, true, true, true, true, true, true, false, false] rfl rfl (any_of HT_.out (by kernel_rfl)) (fun _ _ _ h => h) (Or.inl ⟨by rfl, ?_⟩) ?_ ?_
            rotate_left
            · intro w'
              go_simp
              with_reducible rfl
            rotate_left
            · simp only [Act.put, List.setIfInBounds_toArray, List.set_cons_zero, List.set_cons_succ, i64_w, i32_w]
              rfl
            refine pure_ (i := 16) (N := some 64) (v := ?_) (a' := ?_) #[true, true, true, true, true, true, true, true, true, true, true, true, true, true, true, true, true, false] rfl rfl (any_of HT_.out (by kernel_rfl)) (fun _ _ _ h => h) (Or.inl ⟨by rfl, ?_⟩) ?_ ?_
            rotate_left
            · intro w'
              go_simp
              with_reducible rfl
            rotate_left
            · simp only [Act.put, List.setIfInBounds_toArray, List.set_cons_zero, List.set_cons_succ, i64_w, i32_w]
              rfl
            refine last_ (i := 17) (N := none) #[true, true, true, true, true, true, true, true, true, true, true, true, true, true, true, true, true, true] rfl rfl (one_of HT_.out (by kernel_rfl)) (by decide) (fun K hK => ?_)
            refine skip_ (w1 := ?_) (by rfl) rfl ?_ ?_
            rotate_left
            · go_simp
              rfl
            refine hK.out _ _ ?_
            clear hK K
            refine done_ (done_of HT_.out (by kernel_rfl)) ?_
            have hj : oneAt (l.set i.toNat ⟨(oneAt l i).m, j⟩) j = oneAt l j := by unfold oneAt; simp only [List.getD_eq_getElem?_getD]; rw [List.getElem?_set_ne (by have := NN.out.2.2.2.2.1; omega)]
            have SJ2 := SJ.out
            rw [hj] at SJ2
            go_wp2
            go_ret
            refine ⟨by rw [E.out.1]; rfl, ?_, B3.out.setCell (p := ⟨cp, j.toNat * 2 + 1, none⟩) BG.out _, K3.out.trans (pos_Keep.set (pos_Keep.refl w3) HG3.out.choose_spec (.inl rfl) (j.toNat * 2 + 1) (.int .i64 i))⟩
            rw [E.out.2]
            exact ⟨⟨_, blk_far (p := ⟨cp, j.toNat * 2 + 1, none⟩) M3.out NE.out _, SJ2⟩, H3.out⟩

end Go.Proofs.Ytcoolajjjnkfpaa.PPd
