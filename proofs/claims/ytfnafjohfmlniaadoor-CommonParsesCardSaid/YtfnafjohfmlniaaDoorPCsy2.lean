-- Written for this claim by a program (printed texts under one roof).
import Derived.Test.YtfnafjohfmlniaaDoorPCsx0
import Derived.Test.YtfnafjohfmlniaaDoorPCsy0
import Derived.Test.YtfnafjohfmlniaaDoorPCsy1
-- Written for this claim by a program (the kit's print, with hand-made contracts for what it does not take).
namespace Go.Proofs.YtfnafjohfmlniaaDoor.PCs
open Go.RowKit Go.Proofs.YtfnafjohfmlniaaDoorW.PrintWords Go.Proofs.YtfnafjohfmlniaaDoorW.PrintLast Go.Proofs.YtfnafjohfmlniaaDoorW.PrintMore
attribute [local go_sem] max2_int min2_int max_two min_two max_three min_three max_four min_four   -- for this text's walks alone
set_option linter.unusedVariables false
set_option linter.unusedSimpArgs false

/-! ### common_line_split: function 18 -/
/-! ### All parts -/
def common_split.go (p : List S79) : Nat → Int → List Prt
  | 0, _ => []
  | f + 1, i =>
    if i < (p.length : Int) then
      (if (rd_T79 p i).f0 = 96 then
        (if common_fence.f p (i + common_row.f p i) (common_row.f p i) < 0 then common_plain.f p i (i + common_row.f p i) 0 ++ common_split.go p f (i + common_row.f p i)
         else common_code.f p (i + common_row.f p i) (common_fence.f p (i + common_row.f p i) (common_row.f p i)) ++ common_split.go p f (common_fence.f p (i + common_row.f p i) (common_row.f p i) + common_row.f p i))
       else if (rd_T79 p i).f0 = 42 ∨ (rd_T79 p i).f0 = 95 then (⟨⟨0, 0, 0, 0⟩, some (common_run.f p i (common_row.f p i)), common_row.f p i, false⟩ : Prt) :: common_split.go p f (i + common_row.f p i)
       else if (rd_T79 p i).f0 = 92 ∧ sg (common_at.f p (i + 1)) = true then common_plain.f p (i + 1) (i + 1 + 1) 0 ++ common_split.go p f (i + 1 + 1)
       else common_plain.f p i (i + 1) 0 ++ common_split.go p f (i + 1))
    else []
def common_split.f (p : List S79) : List Prt := common_split.go p (p.length + 1) 0
theorem common_fence.go_bound (p : List S79) (n : Int) : ∀ (f : Nat) (j : Int), 0 ≤ j → common_fence.go p n f j = -1 ∨ (j ≤ common_fence.go p n f j ∧ common_fence.go p n f j + n ≤ (p.length : Int) ∧ common_fence.go p n f j < (p.length : Int))
  | 0, _, _ => .inl rfl
  | f + 1, j, h0 => by
    rw [common_fence.go]
    by_cases c1 : j < (p.length : Int)
    · rw [if_pos c1]
      have hb := common_row.bound p j h0 c1
      by_cases c2 : (rd_T79 p j).f0 = 96
      · rw [if_pos c2]
        by_cases c3 : common_row.f p j = n
        · rw [if_pos c3]
          right
          omega
        · rw [if_neg c3]
          rcases common_fence.go_bound p n f (j + common_row.f p j) (by omega) with h | ⟨h1, h2, h3⟩
          · exact .inl h
          · right; omega
      · rw [if_neg c2]
        rcases common_fence.go_bound p n f (j + 1) (by omega) with h | ⟨h1, h2, h3⟩
        · exact .inl h
        · right; omega
    · rw [if_neg c1]
      exact .inl rfl
theorem common_fence.bound (p : List S79) (i n : Int) (h0 : 0 ≤ i) (h : ¬ common_fence.f p i n < 0) : i ≤ common_fence.f p i n ∧ common_fence.f p i n + n ≤ (p.length : Int) := by
  rcases common_fence.go_bound p n (p.length + 1) i h0 with h1 | ⟨h1, h2, _⟩
  · unfold common_fence.f at h; omega
  · exact ⟨h1, h2⟩
theorem common_plain.len (p : List S79) (i j m : Int) (h0 : 0 ≤ i) (hij : i ≤ j) (hj : j ≤ (p.length : Int)) : ((common_plain.f p i j m).length : Int) = j - i := by
  unfold common_plain.f
  rw [List.length_map, common_cut_length p i j hj]
  omega
theorem common_code.len (p : List S79) (i j : Int) (h0 : 0 ≤ i) (hij : i ≤ j) (hj : j ≤ (p.length : Int)) : ((common_code.f p i j).length : Int) ≤ j - i := by
  unfold common_code.f
  split
  · rename_i h
    unfold common_code.bare at h
    simp only [Bool.and_eq_true, decide_eq_true_eq] at h
    rw [common_plain.len p _ _ _ (by omega) (by omega) (by omega)]
    omega
  · rw [common_plain.len p _ _ _ h0 hij hj]
    omega
theorem common_sg_at (p : List S79) (i : Int) (h : sg (common_at.f p i) = true) : i < (p.length : Int) := by
  unfold common_at.f at h
  by_cases h1 : i < 0
  · omega
  rw [if_neg h1] at h
  by_cases h2 : (p.length : Int) ≤ i
  · rw [if_pos h2] at h
    cases h
  · omega
structure common_split.I (B b : Nat) (A : Option Addr) (c : Nat) (p : List S79) (w0 : World) (kq : Nat) (i : Int) (o : List Prt) (W : World) : Prop where
  line : common_L B b A c p o W
  below : Below B w0 W
  lo : 0 ≤ i
  hi : i ≤ (p.length : Int)
  fuel : p.length < i + kq
  len : (o.length : Int) ≤ i
  go : o ++ common_split.go p kq i = common_split.f p
def common_split.T14 : Bool × List (List Nat × List Nat) := (true, [([], []), ([], []), ([1], [1]), ([2], [2]), ([3], [3]), ([], []), ([], []), ([], []), ([5, 6, 7], [5, 6, 7]), ([], []), ([8, 9], [8, 9]), ([10], [10]), ([4, 11, 8], [4, 11]), ([0, 0, 1, 2, 3, 4, 5, 6, 7, 8, 9, 10, 11, 12], [0]), ([13, 0, 1, 2, 3, 4, 5, 6, 7, 8, 9, 10, 11, 12], [13]), ([14, 12, 12, 0, 1, 2, 3, 4, 5, 6, 7, 8, 9, 10, 11, 12], [12, 14])])
def common_split.B14 : List Nat := [0, 0, 2, 6, 14, 0, 0, 0, 224, 0, 992, 2016, 4094, 8191, 16383, 32767]
theorem common_split.tab14 : rtab .any (opsOf Tryd.f18 14) = common_split.T14 := by kernel_rfl
theorem common_split.bits14 : waitsOk common_split.T14.2 common_split.B14 = true := by kernel_rfl
set_option maxRecDepth 100000 in
set_option maxHeartbeats 16000000 in
theorem common_split.calls (B b : Nat) (A : Option Addr) (c : Nat) (p : List S79) (w0 w : World) (h : common_L B b A c p [] w) (hB : Below B w0 w) (hp : p.length ≤ 4000) (hc : ∀ x ∈ p, 0 ≤ x.f0 ∧ x.f0 ≤ 1114111) :
    Calls Tryd.prog 18 #[.pointer (some ⟨b, 0, none⟩)] w fun e w' => e = .returned (.tuple #[]) ∧ common_L B b A c p (common_split.f p) w' ∧ Below B w0 w' := by
  have hu54 := Tryd.underlying54
  have hu79 := Tryd.underlying79
  have hu57 := Tryd.underlying57
  have hu43 := Tryd.underlying43
  have I0 := Aside0.mk (show common_split.I B b A c p w0 (p.length + 1) 0 [] w from ⟨h, hB, by omega, by omega, by omega, by simp, rfl⟩)
  have HP := Aside0.mk hp
  have HC := Aside0.mk hc
  clear h hB hp hc
  go_enter Tryd.func18, Tryd.ntmps18
  go_wp2
  go_loopg [2] (p.length + 1) (fun kq v2 w' => ∃ (i : Int) (o : List Prt), v2 = .int .i64 i ∧ Aside0 (common_split.I B b A c p w0 kq i o w'))
  case atStart => exact ⟨0, [], rfl, I0⟩
  case round =>
    clear I0
    obtain ⟨i, o, rfl, HI⟩ := hrel
    cases gk with
    | zero => have := HI.out.fuel; have := HI.out.hi; omega
    | succ f =>
    have hgo := HI.out.go
    obtain ⟨Ao, co, h1, h2, h3, h4⟩ := HI.out.line.open
    have s0 : wr.cell? ⟨b, 0, none⟩ = some (.slice A p.length c) := (blk_cell h1 0).trans rfl
    have HR := Aside0.mk (Kd.R_reads' h2).2.2
    clear h1 h2 h3 h4
    by_cases c5 : i < (p.length : Int)
    · have c5b : decide (i < (p.length : Int)) = true := decide_eq_true c5
      rw [common_split.go, if_pos c5] at hgo
      have i0 : 0 ≤ i := HI.out.lo
      have i0t := eq_true i0
      have c5t := eq_true c5
      have RB := Aside0.mk (common_row.bound p i i0 c5)
      have HG0 := Aside0.mk hgo
      have C5 := Aside0.mk c5
      have LEN := Aside0.mk HI.out.len
      have FU := Aside0.mk HI.out.fuel
      have BEL := Aside0.mk HI.out.below
      have HOL : Aside0 (o.length ≤ 4000) := ⟨by have := HI.out.len; have := HI.out.hi; have := HP.out; omega⟩
      clear hgo HR c5
      go_wp2_with fail
      refine (common_row.calls B b A c p o i _ HI.out.line HP.out i0 C5.out).mono ?_
      rintro e w1 ⟨rfl, hb⟩
      have HL := Aside0.mk (HI.out.line.below hb)
      have HB := Aside0.mk (BEL.out.trans (hb.mono (by obtain ⟨_, h1, _⟩ := HI.out.line.ex; exact Nat.le_of_lt (Nat.lt_of_le_of_lt HI.out.line.base (blk_lt h1)))))
      clear hb HI s0
      obtain ⟨Ao, co, h1, h2, h3, h4⟩ := HL.out.open
      have s0 : w1.cell? ⟨b, 0, none⟩ = some (.slice A p.length c) := (blk_cell h1 0).trans rfl
      obtain ⟨ad, eA, x0, _⟩ := at_T79 (Kd.R_reads' h2).2.2 i i0 C5.out
      subst eA
      clear h1 h2 h3 h4
      by_cases k96 : (rd_T79 p i).f0 = 96
      · have hgo := HG0.out
        clear HG0
        rw [if_pos k96] at hgo
        rw [k96] at x0
        have FB := Aside0.mk (fun h => common_fence.bound p (i + common_row.f p i) (common_row.f p i) (by have := RB.out; omega) h)
        have HG := Aside0.mk hgo
        clear hgo k96
        generalize hn : common_row.f p i = n at *
        have hw : wrap64 (i + n) = i + n := by have := RB.out; have := HP.out; unfold wrap64; omega
        go_wp2_with fail
        refine (common_fence.calls B b _ c p o (i + n) n _ HL.out HP.out (by have := RB.out; omega) (by have := RB.out; omega)).mono ?_
        rintro e w2 ⟨rfl, hb⟩
        have HL2 := Aside0.mk (HL.out.below hb)
        have HB2 := Aside0.mk (HB.out.trans (hb.mono (by obtain ⟨_, h1, _⟩ := HL.out.ex; exact Nat.le_of_lt (Nat.lt_of_le_of_lt HL.out.base (blk_lt h1)))))
        clear hb HL HB s0 x0
        generalize common_fence.f p (i + n) n = en at *
        by_cases e0 : en < 0
        · have e0b : decide (en < 0) = true := decide_eq_true e0
          have hgo := HG.out
          clear HG
          rw [if_pos e0] at hgo
          have HG := Aside0.mk hgo
          clear hgo e0
          go_wp2_with fail
          refine (common_plain.calls B b _ c p o i (i + n) 0 w0 _ HL2.out HB2.out HP.out HC.out (by have := HOL.out; omega) i0 (by have := RB.out; omega) (by have := RB.out; omega)).mono ?_
          rintro e w3 ⟨rfl, g1, g2⟩
          have G1 := Aside0.mk g1
          have G2 := Aside0.mk g2
          clear g1 g2
          go_wp2
          go_roundg f
          case measure => omega
          case rel => exact ⟨i + n, _, by rw [hw], ⟨G1.out, G2.out, by have := RB.out; omega, by have := RB.out; omega, by have := RB.out; have := FU.out; omega, by have := LEN.out; have := RB.out; have := common_plain.len p i (i + n) 0 i0 (by omega) (by omega); rw [List.length_append]; omega, by rw [List.append_assoc]; exact HG.out⟩⟩
        · have e0b : decide (en < 0) = false := decide_eq_false e0
          have FB2 := Aside0.mk (FB.out (by omega))
          have hgo := HG.out
          clear HG
          rw [if_neg e0] at hgo
          have HG := Aside0.mk hgo
          have hw2 : wrap64 (en + n) = en + n := by have := FB2.out; have := RB.out; have := HP.out; unfold wrap64; omega
          have hw3 : wrap64 (en + n - i) = en + n - i := by have := FB2.out; have := RB.out; have := HP.out; unfold wrap64; omega
          have hw4 : wrap64 (i + (en + n - i)) = en + n := by have := FB2.out; have := RB.out; have := HP.out; unfold wrap64; omega
          clear hgo e0 FB
          go_wp2_with fail
          refine (common_code.calls B b _ c p o (i + n) en w0 _ HL2.out HB2.out HP.out HC.out (by have := HOL.out; omega) (by have := RB.out; omega) (by have := FB2.out; omega) (by have := FB2.out; have := RB.out; omega)).mono ?_
          rintro e w3 ⟨rfl, g1, g2⟩
          have G1 := Aside0.mk g1
          have G2 := Aside0.mk g2
          clear g1 g2
          go_wp2
          go_roundg f
          case measure => omega
          case rel => exact ⟨en + n, _, by rw [hw4], ⟨G1.out, G2.out, by have := RB.out; have := FB2.out; omega, by have := FB2.out; omega, by have := RB.out; have := FU.out; have := FB2.out; omega, by have := LEN.out; have := RB.out; have := FB2.out; have := common_code.len p (i + n) en (by omega) (by omega) (by omega); rw [List.length_append]; omega, by rw [List.append_assoc]; exact HG.out⟩⟩
      · have hgo := HG0.out
        clear HG0
        rw [if_neg k96] at hgo
        have k96b : ((rd_T79 p i).f0 == 96) = false := beq_eq_false_iff_ne.mpr k96
        by_cases kr : (rd_T79 p i).f0 = 42 ∨ (rd_T79 p i).f0 = 95
        · rw [if_pos kr] at hgo
          have HG := Aside0.mk hgo
          have RF := Aside0.mk (fun W (hW : common_L B b (some ad) c p o W) => common_run.calls B b (some ad) c p o i (common_row.f p i) W hW HP.out i0 C5.out (by have := RB.out; have := HP.out; omega) kr)
          clear hgo k96 k96b
          generalize common_run.f p i (common_row.f p i) = rn at *
          generalize hn : common_row.f p i = n at *
          have hw : wrap64 (i + n) = i + n := by have := RB.out; have := HP.out; unfold wrap64; omega
          obtain ⟨Ao, co, h1, h2, h3, h4⟩ := HL.out.open
          have s1 : w1.cell? ⟨b, 1, none⟩ = some (.slice Ao o.length co) := (blk_cell h1 1).trans rfl
          clear h1 h2 h3 h4
          rcases kr with k42 | k95
          · rw [k42] at x0
            clear k42
            go_wp2
            refine start_ (n := 16) (S := fun w' => w'.cell? ⟨b, 1, none⟩ = some (.slice Ao o.length co)) (ds := [12, 15]) #[Ff,Ff,Ff,Ff,Ff,Ff,Ff,Ff,Ff,Ff,Ff,Ff,Ff,Ff,Ff,Ff] (by kernel_rfl) rfl rfl s1 (fun hHeld => ?_)
            refine with_tabW common_split.tab14 common_split.bits14 (fun HT_ HW_ => ?_)
            have HL2 := Aside0.mk (HL.out.below (Below.drew (Below.refl _ w1)))
            have HB2 := Aside0.mk (show Below B w0 w1.drew from Below.drew HB.out)
            clear HL HB s0 s1 x0
            generalize w1.drew = w12 at *
            refine pure_ (i := 0) (N := some 58) (v := ?_) (a' := ?_) #[Tt,Ff,Ff,Ff,Ff,Ff,Ff,Ff,Ff,Ff,Ff,Ff,Ff,Ff,Ff,Ff] rfl rfl (any_of HT_.out (by kernel_rfl)) (fun _ _ _ h => h) (Or.inl ⟨by rfl, ?_⟩) ?_ ?_;rotate_left;(intro w';go_simp;with_reducible rfl);rotate_left;(simp only [Act.put, List.setIfInBounds_toArray, List.set_cons_zero, List.set_cons_succ, i64_w, i32_w];rfl)
            refine pure_ (i := 1) (N := some 59) (v := ?_) (a' := ?_) #[Tt,Tt,Ff,Ff,Ff,Ff,Ff,Ff,Ff,Ff,Ff,Ff,Ff,Ff,Ff,Ff] rfl rfl (any_of HT_.out (by kernel_rfl)) (fun _ _ _ h => h) (Or.inl ⟨by rfl, ?_⟩) ?_ ?_;rotate_left;(intro w';go_simp;with_reducible rfl);rotate_left;(simp only [Act.put, List.setIfInBounds_toArray, List.set_cons_zero, List.set_cons_succ, i64_w, i32_w];rfl)
            refine pure_ (i := 2) (N := some 60) (v := ?_) (a' := ?_) #[Tt,Tt,Tt,Ff,Ff,Ff,Ff,Ff,Ff,Ff,Ff,Ff,Ff,Ff,Ff,Ff] rfl rfl (any_of HT_.out (by kernel_rfl)) (fun _ _ _ h => h) (Or.inl ⟨by rfl, ?_⟩) ?_ ?_;rotate_left;(intro w';go_simp;with_reducible rfl);rotate_left;(simp only [Act.put, List.setIfInBounds_toArray, List.set_cons_zero, List.set_cons_succ, i64_w, i32_w];rfl)
            refine pure_ (i := 3) (N := some 61) (v := ?_) (a' := ?_) #[Tt,Tt,Tt,Tt,Ff,Ff,Ff,Ff,Ff,Ff,Ff,Ff,Ff,Ff,Ff,Ff] rfl rfl (any_of HT_.out (by kernel_rfl)) (fun _ _ _ h => h) (Or.inl ⟨by rfl, ?_⟩) ?_ ?_;rotate_left;(intro w';go_simp;with_reducible rfl);rotate_left;(simp only [Act.put, List.setIfInBounds_toArray, List.set_cons_zero, List.set_cons_succ, i64_w, i32_w];rfl)
            refine take_ (i := 4) (N := some 62) (v := ?_) (a' := ?_) #[Tt,Tt,Tt,Tt,Tt,Ff,Ff,Ff,Ff,Ff,Ff,Ff,Ff,Ff,Ff,Ff] rfl rfl (take_ofW HT_.out HW_.out (by kernel_rfl)) (fun _ _ _ h => h) (Or.inl ⟨by rfl, ?_⟩) hHeld ?_ ?_;rotate_left;(intro w' s0;go_simp;with_reducible rfl);rotate_left;(simp only [Act.put, List.setIfInBounds_toArray, List.set_cons_zero, List.set_cons_succ, i64_w, i32_w];rfl)
            refine pure_ (i := 5) (N := some 63) (v := ?_) (a' := ?_) #[Tt,Tt,Tt,Tt,Tt,Tt,Ff,Ff,Ff,Ff,Ff,Ff,Ff,Ff,Ff,Ff] rfl rfl (any_of HT_.out (by kernel_rfl)) (fun _ _ _ h => h) (Or.inl ⟨by rfl, ?_⟩) ?_ ?_;rotate_left;(intro w';go_simp;with_reducible rfl);rotate_left;(simp only [Act.put, List.setIfInBounds_toArray, List.set_cons_zero, List.set_cons_succ, i64_w, i32_w];rfl)
            refine pure_ (i := 6) (N := some 64) (v := ?_) (a' := ?_) #[Tt,Tt,Tt,Tt,Tt,Tt,Tt,Ff,Ff,Ff,Ff,Ff,Ff,Ff,Ff,Ff] rfl rfl (any_of HT_.out (by kernel_rfl)) (fun _ _ _ h => h) (Or.inl ⟨by rfl, ?_⟩) ?_ ?_;rotate_left;(intro w';go_simp;with_reducible rfl);rotate_left;(simp only [Act.put, List.setIfInBounds_toArray, List.set_cons_zero, List.set_cons_succ, i64_w, i32_w];rfl)
            refine pure_ (i := 7) (N := some 65) (v := ?_) (a' := ?_) #[Tt,Tt,Tt,Tt,Tt,Tt,Tt,Tt,Ff,Ff,Ff,Ff,Ff,Ff,Ff,Ff] rfl rfl (any_of HT_.out (by kernel_rfl)) (fun _ _ _ h => h) (Or.inl ⟨by rfl, ?_⟩) ?_ ?_;rotate_left;(intro w';go_simp;with_reducible rfl);rotate_left;(simp only [Act.put, List.setIfInBounds_toArray, List.set_cons_zero, List.set_cons_succ, i64_w, i32_w];rfl)
            refine pure_ (i := 9) (N := some 67) (v := ?_) (a' := ?_) #[Tt,Tt,Tt,Tt,Tt,Tt,Tt,Tt,Ff,Tt,Ff,Ff,Ff,Ff,Ff,Ff] rfl rfl (any_of HT_.out (by kernel_rfl)) (fun _ _ _ h => h) (Or.inl ⟨by rfl, ?_⟩) ?_ ?_;rotate_left;(intro w';go_simp;with_reducible rfl);rotate_left;(simp only [Act.put, List.setIfInBounds_toArray, List.set_cons_zero, List.set_cons_succ, i64_w, i32_w];rfl)
            refine one_ (i := 8) (N := some 66) #[Tt,Tt,Tt,Tt,Tt,Tt,Tt,Tt,Tt,Tt,Ff,Ff,Ff,Ff,Ff,Ff] rfl rfl (one_of HT_.out (by kernel_rfl)) (by decide) (fun K hK => ?_)
            refine goes_ Tryd.func31 (by kernel_rfl) rfl #[.pointer (some ⟨b, 0, none⟩), .int .i64 i, .int .i64 n] (by rfl) rfl rfl (by simp only [List.map_toArray, List.map_cons, List.map_nil]; rfl) ?_
            refine (RF.out _ HL2.out).mono ?_
            rintro e w13 ⟨g, rfl, hg, hge, hb⟩
            refine ⟨_, rfl, ?_⟩
            have hHeld2 : w13.cell? ⟨b, 1, none⟩ = some (.slice Ao o.length co) := cell_grown (grown_of_below hb none) hHeld (by simp)
            have HL3 := Aside0.mk (HL2.out.below hb)
            have BL := Aside0.mk (HB2.out.trans (hb.mono (by obtain ⟨_, h1, _⟩ := HL2.out.ex; exact Nat.le_of_lt (Nat.lt_of_le_of_lt HL2.out.base (blk_lt h1)))))
            have GG := Aside0.mk hg
            have GB : Aside0 (B ≤ g) := ⟨by obtain ⟨_, h1, _⟩ := HL2.out.ex; have := blk_lt h1; have := HL2.out.base; omega⟩
            clear hb hg hge HL2 HB2
            refine hK.out _ _ hHeld2 (fun hHeld => ?_)
            clear hK K hHeld2
            refine norm_ (a' := ?_) ?_ ?_
            rotate_left
            · show Act.put _ (some 66) _ = _
              simp only [Act.put, List.setIfInBounds_toArray, List.set_cons_zero, List.set_cons_succ, i64_w, i32_w]
              rfl
            obtain ⟨Ao2, co2, h1, h2, h3, h4⟩ := HL3.out.open
            have q1 : w13.cell? ⟨b, 1, none⟩ = some (.slice Ao2 o.length co2) := (blk_cell h1 1).trans rfl
            rw [hHeld] at q1
            cases q1
            have BO := Aside0.mk h1
            have RP := Aside0.mk h2
            have RO := Aside0.mk h3
            have HB4 := Aside0.mk h4
            have BS := Aside0.mk (Nat.le_of_lt (Nat.lt_of_le_of_lt h4 (blk_lt h1)))
            have HO := HOL
            clear h1 h2 h3 h4
            refine pure_ (i := 10) (N := some 68) (v := ?_) (a' := ?_) #[Tt,Tt,Tt,Tt,Tt,Tt,Tt,Tt,Tt,Tt,Tt,Ff,Ff,Ff,Ff,Ff] rfl rfl (any_of HT_.out (by kernel_rfl)) (fun _ _ _ h => h) (Or.inl ⟨by rfl, ?_⟩) ?_ ?_;rotate_left;(intro w';go_simp;with_reducible rfl);rotate_left;(simp only [Act.put, List.setIfInBounds_toArray, List.set_cons_zero, List.set_cons_succ, i64_w, i32_w];rfl)
            refine one_ (i := 11) (N := some 69) #[Tt,Tt,Tt,Tt,Tt,Tt,Tt,Tt,Tt,Tt,Tt,Tt,Ff,Ff,Ff,Ff] rfl rfl (one_of HT_.out (by kernel_rfl)) (by decide) (fun K hK => ?_)
            refine value_ (w1 := ?_) (v := ?_) (by rfl) rfl ?_ ?_
            rotate_left 2
            · go_simp
              constructor
              · rfl
              · rfl
            refine hK.out _ _ (cell_grown (World.grownBy_alloc w13 (.cells #[.int .i64 0, .int .i64 0, .int .i64 0, .int .i64 0, .pointer (some ⟨g, 0, none⟩), .int .i64 n, .bool false] 57 (0, 0)) none) hHeld (by simp)) (fun hHeld => ?_)
            clear hK K
            refine norm_ (a' := ?_) ?_ ?_
            rotate_left
            · show Act.put _ (some 69) _ = _
              simp only [Act.put, List.setIfInBounds_toArray, List.set_cons_zero, List.set_cons_succ, i64_w, i32_w]
              rfl
            refine last_ (i := 12) (N := some 70) #[Tt,Tt,Tt,Tt,Tt,Tt,Tt,Tt,Tt,Tt,Tt,Tt,Tt,Ff,Ff,Ff] rfl rfl (one_of HT_.out (by kernel_rfl)) (by decide) (fun K hK => ?_)
            refine Kd.R_append_step kPrt (w0 := w0) B (by rfl) (.tmp 62) (.tmp 69) 52 57 (.agg #[.int .i64 0, .int .i64 0, .int .i64 0, .int .i64 0, .pointer none, .int .i64 0, .bool false]) 56 rfl Tryd.underlying52 info57 rfl (by decide) (by omega) (.slice Ao o.length co) o (⟨⟨0, 0, 0, 0⟩, some rn, n, false⟩ : Prt) [.int .i64 0, .int .i64 0, .int .i64 0, .int .i64 0, .pointer (some ⟨g, 0, none⟩), .int .i64 n, .bool false] (fun _ => True) (fun k => k = g) rfl rfl (kPrt_mkM (⟨⟨0, 0, 0, 0⟩, some rn, n, false⟩ : Prt) ⟨g, rfl, ⟨rfl, GB.out⟩, GG.out⟩) (fun k hk => ⟨trivial, by subst hk; exact Kd.R_ne RO.out GG.out (by decide)⟩) (fun _ _ => trivial) RO.out BL.out BS.out (by have := HO.out; omega) ?_
            intro v1 w9 hR1 hb9 hg1 hat1
            obtain ⟨av_, cv_, hv1_⟩ := Kd.R_slice hR1
            obtain ⟨nv_, hnv_⟩ : ∃ nn_, nn_ = (o ++ [(⟨⟨0, 0, 0, 0⟩, some rn, n, false⟩ : Prt)]).length := ⟨_, rfl⟩
            rw [← hnv_] at hv1_
            subst hv1_
            have R9 := Aside0.mk hR1
            have B9 := Aside0.mk hb9
            have O9 := Aside0.mk (blk_grown BO.out hg1 (Kd.R_ne RO.out BO.out (by decide)))
            have P9 := Aside0.mk (Kd.R_mono (Kd.R_grown (Kd.R_bound RP.out) hg1 (fun k hk => by obtain ⟨_, _, _, q_, hq_, cs_, hc_⟩ := hk; exact Kd.R_ne RO.out hc_ (by rintro rfl; revert hq_; decide))) (fun _ hk => hk.1))
            clear hR1 hb9 hg1 hat1 hnv_
            have hco : w9.cell? ⟨b, 1, none⟩ = some (.slice Ao o.length co) := (blk_cell O9.out 1).trans rfl
            have hfo := blk_frozen O9.out 1
            refine hK.out _ _ ?_
            clear hK K
            refine norm_ (a' := ?_) ?_ ?_
            rotate_left
            · show Act.put _ (some 70) _ = _
              simp only [Act.put, List.setIfInBounds_toArray, List.set_cons_zero, List.set_cons_succ, i64_w, i32_w]
              rfl
            refine pure_ (i := 13) (N := some 71) (v := ?_) (a' := ?_) #[Tt,Tt,Tt,Tt,Tt,Tt,Tt,Tt,Tt,Tt,Tt,Tt,Tt,Tt,Ff,Ff] rfl rfl (any_of HT_.out (by kernel_rfl)) (fun _ _ _ h => h) (Or.inl ⟨by rfl, ?_⟩) ?_ ?_;rotate_left;(intro w';go_simp;with_reducible rfl);rotate_left;(simp only [Act.put, List.setIfInBounds_toArray, List.set_cons_zero, List.set_cons_succ, i64_w, i32_w];rfl)
            refine pure_ (i := 14) (N := some 72) (v := ?_) (a' := ?_) #[Tt,Tt,Tt,Tt,Tt,Tt,Tt,Tt,Tt,Tt,Tt,Tt,Tt,Tt,Tt,Ff] rfl rfl (any_of HT_.out (by kernel_rfl)) (fun _ _ _ h => h) (Or.inl ⟨by rfl, ?_⟩) ?_ ?_;rotate_left;(intro w';go_simp;with_reducible rfl);rotate_left;(simp only [Act.put, List.setIfInBounds_toArray, List.set_cons_zero, List.set_cons_succ, i64_w, i32_w];rfl)
            refine last_ (i := 15) (N := none) #[Tt,Tt,Tt,Tt,Tt,Tt,Tt,Tt,Tt,Tt,Tt,Tt,Tt,Tt,Tt,Tt] rfl rfl (one_of HT_.out (by kernel_rfl)) (by decide) (fun K hK => ?_)
            refine skip_ (w1 := ?_) (by rfl) rfl ?_ ?_
            rotate_left
            · go_simp
              rfl
            refine hK.out _ _ ?_
            clear hK K
            refine done_ (done_of HT_.out (by kernel_rfl)) ?_
            go_wp2
            go_roundg f
            case measure => omega
            case rel => exact ⟨i + n, _, by rw [hw], ⟨⟨⟨_, (blk_set O9.out 1 _).trans rfl, Kd.R_set P9.out O9.out (by decide) 1 _, Kd.R_set R9.out O9.out (by decide) 1 _⟩, HB4.out⟩, B9.out.setCell HB4.out _, by have := RB.out; omega, by have := RB.out; omega, by have := RB.out; have := FU.out; omega, by have := LEN.out; have := RB.out; rw [List.length_append]; simp only [List.length_cons, List.length_nil]; omega, by rw [List.append_assoc]; exact HG.out⟩⟩
          · rw [k95] at x0
            clear k95
            go_wp2
            refine start_ (n := 16) (S := fun w' => w'.cell? ⟨b, 1, none⟩ = some (.slice Ao o.length co)) (ds := [12, 15]) #[Ff,Ff,Ff,Ff,Ff,Ff,Ff,Ff,Ff,Ff,Ff,Ff,Ff,Ff,Ff,Ff] (by kernel_rfl) rfl rfl s1 (fun hHeld => ?_)
            refine with_tabW common_split.tab14 common_split.bits14 (fun HT_ HW_ => ?_)
            have HL2 := Aside0.mk (HL.out.below (Below.drew (Below.refl _ w1)))
            have HB2 := Aside0.mk (show Below B w0 w1.drew from Below.drew HB.out)
            clear HL HB s0 s1 x0
            generalize w1.drew = w12 at *
            refine pure_ (i := 0) (N := some 58) (v := ?_) (a' := ?_) #[Tt,Ff,Ff,Ff,Ff,Ff,Ff,Ff,Ff,Ff,Ff,Ff,Ff,Ff,Ff,Ff] rfl rfl (any_of HT_.out (by kernel_rfl)) (fun _ _ _ h => h) (Or.inl ⟨by rfl, ?_⟩) ?_ ?_;rotate_left;(intro w';go_simp;with_reducible rfl);rotate_left;(simp only [Act.put, List.setIfInBounds_toArray, List.set_cons_zero, List.set_cons_succ, i64_w, i32_w];rfl)
            refine pure_ (i := 1) (N := some 59) (v := ?_) (a' := ?_) #[Tt,Tt,Ff,Ff,Ff,Ff,Ff,Ff,Ff,Ff,Ff,Ff,Ff,Ff,Ff,Ff] rfl rfl (any_of HT_.out (by kernel_rfl)) (fun _ _ _ h => h) (Or.inl ⟨by rfl, ?_⟩) ?_ ?_;rotate_left;(intro w';go_simp;with_reducible rfl);rotate_left;(simp only [Act.put, List.setIfInBounds_toArray, List.set_cons_zero, List.set_cons_succ, i64_w, i32_w];rfl)
            refine pure_ (i := 2) (N := some 60) (v := ?_) (a' := ?_) #[Tt,Tt,Tt,Ff,Ff,Ff,Ff,Ff,Ff,Ff,Ff,Ff,Ff,Ff,Ff,Ff] rfl rfl (any_of HT_.out (by kernel_rfl)) (fun _ _ _ h => h) (Or.inl ⟨by rfl, ?_⟩) ?_ ?_;rotate_left;(intro w';go_simp;with_reducible rfl);rotate_left;(simp only [Act.put, List.setIfInBounds_toArray, List.set_cons_zero, List.set_cons_succ, i64_w, i32_w];rfl)
            refine pure_ (i := 3) (N := some 61) (v := ?_) (a' := ?_) #[Tt,Tt,Tt,Tt,Ff,Ff,Ff,Ff,Ff,Ff,Ff,Ff,Ff,Ff,Ff,Ff] rfl rfl (any_of HT_.out (by kernel_rfl)) (fun _ _ _ h => h) (Or.inl ⟨by rfl, ?_⟩) ?_ ?_;rotate_left;(intro w';go_simp;with_reducible rfl);rotate_left;(simp only [Act.put, List.setIfInBounds_toArray, List.set_cons_zero, List.set_cons_succ, i64_w, i32_w];rfl)
            refine take_ (i := 4) (N := some 62) (v := ?_) (a' := ?_) #[Tt,Tt,Tt,Tt,Tt,Ff,Ff,Ff,Ff,Ff,Ff,Ff,Ff,Ff,Ff,Ff] rfl rfl (take_ofW HT_.out HW_.out (by kernel_rfl)) (fun _ _ _ h => h) (Or.inl ⟨by rfl, ?_⟩) hHeld ?_ ?_;rotate_left;(intro w' s0;go_simp;with_reducible rfl);rotate_left;(simp only [Act.put, List.setIfInBounds_toArray, List.set_cons_zero, List.set_cons_succ, i64_w, i32_w];rfl)
            refine pure_ (i := 5) (N := some 63) (v := ?_) (a' := ?_) #[Tt,Tt,Tt,Tt,Tt,Tt,Ff,Ff,Ff,Ff,Ff,Ff,Ff,Ff,Ff,Ff] rfl rfl (any_of HT_.out (by kernel_rfl)) (fun _ _ _ h => h) (Or.inl ⟨by rfl, ?_⟩) ?_ ?_;rotate_left;(intro w';go_simp;with_reducible rfl);rotate_left;(simp only [Act.put, List.setIfInBounds_toArray, List.set_cons_zero, List.set_cons_succ, i64_w, i32_w];rfl)
            refine pure_ (i := 6) (N := some 64) (v := ?_) (a' := ?_) #[Tt,Tt,Tt,Tt,Tt,Tt,Tt,Ff,Ff,Ff,Ff,Ff,Ff,Ff,Ff,Ff] rfl rfl (any_of HT_.out (by kernel_rfl)) (fun _ _ _ h => h) (Or.inl ⟨by rfl, ?_⟩) ?_ ?_;rotate_left;(intro w';go_simp;with_reducible rfl);rotate_left;(simp only [Act.put, List.setIfInBounds_toArray, List.set_cons_zero, List.set_cons_succ, i64_w, i32_w];rfl)
            refine pure_ (i := 7) (N := some 65) (v := ?_) (a' := ?_) #[Tt,Tt,Tt,Tt,Tt,Tt,Tt,Tt,Ff,Ff,Ff,Ff,Ff,Ff,Ff,Ff] rfl rfl (any_of HT_.out (by kernel_rfl)) (fun _ _ _ h => h) (Or.inl ⟨by rfl, ?_⟩) ?_ ?_;rotate_left;(intro w';go_simp;with_reducible rfl);rotate_left;(simp only [Act.put, List.setIfInBounds_toArray, List.set_cons_zero, List.set_cons_succ, i64_w, i32_w];rfl)
            refine pure_ (i := 9) (N := some 67) (v := ?_) (a' := ?_) #[Tt,Tt,Tt,Tt,Tt,Tt,Tt,Tt,Ff,Tt,Ff,Ff,Ff,Ff,Ff,Ff] rfl rfl (any_of HT_.out (by kernel_rfl)) (fun _ _ _ h => h) (Or.inl ⟨by rfl, ?_⟩) ?_ ?_;rotate_left;(intro w';go_simp;with_reducible rfl);rotate_left;(simp only [Act.put, List.setIfInBounds_toArray, List.set_cons_zero, List.set_cons_succ, i64_w, i32_w];rfl)
            refine one_ (i := 8) (N := some 66) #[Tt,Tt,Tt,Tt,Tt,Tt,Tt,Tt,Tt,Tt,Ff,Ff,Ff,Ff,Ff,Ff] rfl rfl (one_of HT_.out (by kernel_rfl)) (by decide) (fun K hK => ?_)
            refine goes_ Tryd.func31 (by kernel_rfl) rfl #[.pointer (some ⟨b, 0, none⟩), .int .i64 i, .int .i64 n] (by rfl) rfl rfl (by simp only [List.map_toArray, List.map_cons, List.map_nil]; rfl) ?_
            refine (RF.out _ HL2.out).mono ?_
            rintro e w13 ⟨g, rfl, hg, hge, hb⟩
            refine ⟨_, rfl, ?_⟩
            have hHeld2 : w13.cell? ⟨b, 1, none⟩ = some (.slice Ao o.length co) := cell_grown (grown_of_below hb none) hHeld (by simp)
            have HL3 := Aside0.mk (HL2.out.below hb)
            have BL := Aside0.mk (HB2.out.trans (hb.mono (by obtain ⟨_, h1, _⟩ := HL2.out.ex; exact Nat.le_of_lt (Nat.lt_of_le_of_lt HL2.out.base (blk_lt h1)))))
            have GG := Aside0.mk hg
            have GB : Aside0 (B ≤ g) := ⟨by obtain ⟨_, h1, _⟩ := HL2.out.ex; have := blk_lt h1; have := HL2.out.base; omega⟩
            clear hb hg hge HL2 HB2
            refine hK.out _ _ hHeld2 (fun hHeld => ?_)
            clear hK K hHeld2
            refine norm_ (a' := ?_) ?_ ?_
            rotate_left
            · show Act.put _ (some 66) _ = _
              simp only [Act.put, List.setIfInBounds_toArray, List.set_cons_zero, List.set_cons_succ, i64_w, i32_w]
              rfl
            obtain ⟨Ao2, co2, h1, h2, h3, h4⟩ := HL3.out.open
            have q1 : w13.cell? ⟨b, 1, none⟩ = some (.slice Ao2 o.length co2) := (blk_cell h1 1).trans rfl
            rw [hHeld] at q1
            cases q1
            have BO := Aside0.mk h1
            have RP := Aside0.mk h2
            have RO := Aside0.mk h3
            have HB4 := Aside0.mk h4
            have BS := Aside0.mk (Nat.le_of_lt (Nat.lt_of_le_of_lt h4 (blk_lt h1)))
            have HO := HOL
            clear h1 h2 h3 h4
            refine pure_ (i := 10) (N := some 68) (v := ?_) (a' := ?_) #[Tt,Tt,Tt,Tt,Tt,Tt,Tt,Tt,Tt,Tt,Tt,Ff,Ff,Ff,Ff,Ff] rfl rfl (any_of HT_.out (by kernel_rfl)) (fun _ _ _ h => h) (Or.inl ⟨by rfl, ?_⟩) ?_ ?_;rotate_left;(intro w';go_simp;with_reducible rfl);rotate_left;(simp only [Act.put, List.setIfInBounds_toArray, List.set_cons_zero, List.set_cons_succ, i64_w, i32_w];rfl)
            refine one_ (i := 11) (N := some 69) #[Tt,Tt,Tt,Tt,Tt,Tt,Tt,Tt,Tt,Tt,Tt,Tt,Ff,Ff,Ff,Ff] rfl rfl (one_of HT_.out (by kernel_rfl)) (by decide) (fun K hK => ?_)
            refine value_ (w1 := ?_) (v := ?_) (by rfl) rfl ?_ ?_
            rotate_left 2
            · go_simp
              constructor
              · rfl
              · rfl
            refine hK.out _ _ (cell_grown (World.grownBy_alloc w13 (.cells #[.int .i64 0, .int .i64 0, .int .i64 0, .int .i64 0, .pointer (some ⟨g, 0, none⟩), .int .i64 n, .bool false] 57 (0, 0)) none) hHeld (by simp)) (fun hHeld => ?_)
            clear hK K
            refine norm_ (a' := ?_) ?_ ?_
            rotate_left
            · show Act.put _ (some 69) _ = _
              simp only [Act.put, List.setIfInBounds_toArray, List.set_cons_zero, List.set_cons_succ, i64_w, i32_w]
              rfl
            refine last_ (i := 12) (N := some 70) #[Tt,Tt,Tt,Tt,Tt,Tt,Tt,Tt,Tt,Tt,Tt,Tt,Tt,Ff,Ff,Ff] rfl rfl (one_of HT_.out (by kernel_rfl)) (by decide) (fun K hK => ?_)
            refine Kd.R_append_step kPrt (w0 := w0) B (by rfl) (.tmp 62) (.tmp 69) 52 57 (.agg #[.int .i64 0, .int .i64 0, .int .i64 0, .int .i64 0, .pointer none, .int .i64 0, .bool false]) 56 rfl Tryd.underlying52 info57 rfl (by decide) (by omega) (.slice Ao o.length co) o (⟨⟨0, 0, 0, 0⟩, some rn, n, false⟩ : Prt) [.int .i64 0, .int .i64 0, .int .i64 0, .int .i64 0, .pointer (some ⟨g, 0, none⟩), .int .i64 n, .bool false] (fun _ => True) (fun k => k = g) rfl rfl (kPrt_mkM (⟨⟨0, 0, 0, 0⟩, some rn, n, false⟩ : Prt) ⟨g, rfl, ⟨rfl, GB.out⟩, GG.out⟩) (fun k hk => ⟨trivial, by subst hk; exact Kd.R_ne RO.out GG.out (by decide)⟩) (fun _ _ => trivial) RO.out BL.out BS.out (by have := HO.out; omega) ?_
            intro v1 w9 hR1 hb9 hg1 hat1
            obtain ⟨av_, cv_, hv1_⟩ := Kd.R_slice hR1
            obtain ⟨nv_, hnv_⟩ : ∃ nn_, nn_ = (o ++ [(⟨⟨0, 0, 0, 0⟩, some rn, n, false⟩ : Prt)]).length := ⟨_, rfl⟩
            rw [← hnv_] at hv1_
            subst hv1_
            have R9 := Aside0.mk hR1
            have B9 := Aside0.mk hb9
            have O9 := Aside0.mk (blk_grown BO.out hg1 (Kd.R_ne RO.out BO.out (by decide)))
            have P9 := Aside0.mk (Kd.R_mono (Kd.R_grown (Kd.R_bound RP.out) hg1 (fun k hk => by obtain ⟨_, _, _, q_, hq_, cs_, hc_⟩ := hk; exact Kd.R_ne RO.out hc_ (by rintro rfl; revert hq_; decide))) (fun _ hk => hk.1))
            clear hR1 hb9 hg1 hat1 hnv_
            have hco : w9.cell? ⟨b, 1, none⟩ = some (.slice Ao o.length co) := (blk_cell O9.out 1).trans rfl
            have hfo := blk_frozen O9.out 1
            refine hK.out _ _ ?_
            clear hK K
            refine norm_ (a' := ?_) ?_ ?_
            rotate_left
            · show Act.put _ (some 70) _ = _
              simp only [Act.put, List.setIfInBounds_toArray, List.set_cons_zero, List.set_cons_succ, i64_w, i32_w]
              rfl
            refine pure_ (i := 13) (N := some 71) (v := ?_) (a' := ?_) #[Tt,Tt,Tt,Tt,Tt,Tt,Tt,Tt,Tt,Tt,Tt,Tt,Tt,Tt,Ff,Ff] rfl rfl (any_of HT_.out (by kernel_rfl)) (fun _ _ _ h => h) (Or.inl ⟨by rfl, ?_⟩) ?_ ?_;rotate_left;(intro w';go_simp;with_reducible rfl);rotate_left;(simp only [Act.put, List.setIfInBounds_toArray, List.set_cons_zero, List.set_cons_succ, i64_w, i32_w];rfl)
            refine pure_ (i := 14) (N := some 72) (v := ?_) (a' := ?_) #[Tt,Tt,Tt,Tt,Tt,Tt,Tt,Tt,Tt,Tt,Tt,Tt,Tt,Tt,Tt,Ff] rfl rfl (any_of HT_.out (by kernel_rfl)) (fun _ _ _ h => h) (Or.inl ⟨by rfl, ?_⟩) ?_ ?_;rotate_left;(intro w';go_simp;with_reducible rfl);rotate_left;(simp only [Act.put, List.setIfInBounds_toArray, List.set_cons_zero, List.set_cons_succ, i64_w, i32_w];rfl)
            refine last_ (i := 15) (N := none) #[Tt,Tt,Tt,Tt,Tt,Tt,Tt,Tt,Tt,Tt,Tt,Tt,Tt,Tt,Tt,Tt] rfl rfl (one_of HT_.out (by kernel_rfl)) (by decide) (fun K hK => ?_)
            refine skip_ (w1 := ?_) (by rfl) rfl ?_ ?_
            rotate_left
            · go_simp
              rfl
            refine hK.out _ _ ?_
            clear hK K
            refine done_ (done_of HT_.out (by kernel_rfl)) ?_
            go_wp2
            go_roundg f
            case measure => omega
            case rel => exact ⟨i + n, _, by rw [hw], ⟨⟨⟨_, (blk_set O9.out 1 _).trans rfl, Kd.R_set P9.out O9.out (by decide) 1 _, Kd.R_set R9.out O9.out (by decide) 1 _⟩, HB4.out⟩, B9.out.setCell HB4.out _, by have := RB.out; omega, by have := RB.out; omega, by have := RB.out; have := FU.out; omega, by have := LEN.out; have := RB.out; rw [List.length_append]; simp only [List.length_cons, List.length_nil]; omega, by rw [List.append_assoc]; exact HG.out⟩⟩
        · rw [if_neg kr] at hgo
          have k42b : ((rd_T79 p i).f0 == 42) = false := beq_eq_false_iff_ne.mpr (fun e => kr (.inl e))
          have k95b : ((rd_T79 p i).f0 == 95) = false := beq_eq_false_iff_ne.mpr (fun e => kr (.inr e))
          by_cases k92 : (rd_T79 p i).f0 = 92
          · have hw1 : wrap64 (i + 1) = i + 1 := by have := C5.out; have := HP.out; unfold wrap64; omega
            have hw2 : wrap64 (i + 1 + 1) = i + 1 + 1 := by have := C5.out; have := HP.out; unfold wrap64; omega
            have HG := Aside0.mk hgo
            have K92 := Aside0.mk k92
            rw [k92] at x0
            clear hgo k92 kr k96 k96b k42b k95b
            generalize hn : common_row.f p i = n at *
            go_wp2_with fail
            refine (common_at.calls B b _ c p o (i + 1) _ HL.out).mono ?_
            rintro e w2 ⟨rfl, hb⟩
            have HL2 := Aside0.mk (HL.out.below hb)
            have HB2 := Aside0.mk (HB.out.trans (hb.mono (by obtain ⟨_, h1, _⟩ := HL.out.ex; exact Nat.le_of_lt (Nat.lt_of_le_of_lt HL.out.base (blk_lt h1)))))
            clear hb HL HB s0 x0
            go_wp2_with fail
            refine (common_sign.calls 4 (common_at.f p (i + 1)) _ _ (sg_f _)).mono ?_
            rintro e w3 ⟨rfl, hd⟩
            have HL3 := Aside0.mk (HL2.out.below hd.below)
            have HB3 := Aside0.mk (HB2.out.trans (hd.below.mono (by obtain ⟨_, h1, _⟩ := HL2.out.ex; exact Nat.le_of_lt (Nat.lt_of_le_of_lt HL2.out.base (blk_lt h1)))))
            clear hd HL2 HB2
            have BND0 : Aside0 (sg (common_at.f p (i + 1)) = true → i + 1 < (p.length : Int)) := ⟨common_sg_at p (i + 1)⟩
            generalize sg (common_at.f p (i + 1)) = sv at *
            cases sv with
            | true =>
              have hgo := HG.out
              clear HG
              have hcond : (rd_T79 p i).f0 = 92 ∧ true = true := ⟨K92.out, rfl⟩
              rw [if_pos hcond] at hgo
              have HG := Aside0.mk hgo
              have BND := Aside0.mk (BND0.out (by trivial))
              clear hgo
              go_wp2_with fail
              refine (common_plain.calls B b _ c p o (i + 1) (i + 1 + 1) 0 w0 _ HL3.out HB3.out HP.out HC.out (by have := HOL.out; omega) (by omega) (by omega) (by have := BND.out; omega)).mono ?_
              rintro e w4 ⟨rfl, g1, g2⟩
              have G1 := Aside0.mk g1
              have G2 := Aside0.mk g2
              clear g1 g2
              go_wp2
              go_roundg f
              case measure => omega
              case rel => exact ⟨i + 1 + 1, _, by rw [hw2], ⟨G1.out, G2.out, by omega, by have := BND.out; omega, by have := FU.out; omega, by have := LEN.out; have := BND.out; have := common_plain.len p (i + 1) (i + 1 + 1) 0 (by omega) (by omega) (by omega); rw [List.length_append]; omega, by rw [List.append_assoc]; exact HG.out⟩⟩
            | false =>
              have hgo := HG.out
              clear HG
              have hcond : ¬ ((rd_T79 p i).f0 = 92 ∧ false = true) := fun h => by cases h.2
              rw [if_neg hcond] at hgo
              have HG := Aside0.mk hgo
              clear hgo
              go_wp2_with fail
              refine (common_plain.calls B b _ c p o i (i + 1) 0 w0 _ HL3.out HB3.out HP.out HC.out (by have := HOL.out; omega) i0 (by omega) (by have := C5.out; omega)).mono ?_
              rintro e w4 ⟨rfl, g1, g2⟩
              have G1 := Aside0.mk g1
              have G2 := Aside0.mk g2
              clear g1 g2
              go_wp2
              go_roundg f
              case measure => omega
              case rel => exact ⟨i + 1, _, by rw [hw1], ⟨G1.out, G2.out, by omega, by have := C5.out; omega, by have := FU.out; omega, by have := LEN.out; have := C5.out; have := common_plain.len p i (i + 1) 0 i0 (by omega) (by omega); rw [List.length_append]; omega, by rw [List.append_assoc]; exact HG.out⟩⟩
          · have hgo2 := hgo
            have hcond : ¬ ((rd_T79 p i).f0 = 92 ∧ sg (common_at.f p (i + 1)) = true) := fun h => k92 h.1
            rw [if_neg hcond] at hgo2
            have k92b : ((rd_T79 p i).f0 == 92) = false := beq_eq_false_iff_ne.mpr k92
            have hw1 : wrap64 (i + 1) = i + 1 := by have := C5.out; have := HP.out; unfold wrap64; omega
            have HG := Aside0.mk hgo2
            have HL3 := HL
            have HB3 := HB
            clear hgo hgo2 k92 kr k96 HL HB
            generalize hn : common_row.f p i = n at *
            go_wp2_with fail
            refine (common_plain.calls B b _ c p o i (i + 1) 0 w0 _ HL3.out HB3.out HP.out HC.out (by have := HOL.out; omega) i0 (by omega) (by have := C5.out; omega)).mono ?_
            rintro e w4 ⟨rfl, g1, g2⟩
            have G1 := Aside0.mk g1
            have G2 := Aside0.mk g2
            clear g1 g2
            go_wp2
            go_roundg f
            case measure => omega
            case rel => exact ⟨i + 1, _, by rw [hw1], ⟨G1.out, G2.out, by omega, by have := C5.out; omega, by have := FU.out; omega, by have := LEN.out; have := C5.out; have := common_plain.len p i (i + 1) 0 i0 (by omega) (by omega); rw [List.length_append]; omega, by rw [List.append_assoc]; exact HG.out⟩⟩
    · have c5b : decide (i < (p.length : Int)) = false := decide_eq_false c5
      rw [common_split.go, if_neg c5, List.append_nil] at hgo
      go_wp2
      go_end0
      exact ⟨rfl, by rw [← hgo]; exact HI.out.line, HI.out.below⟩

end Go.Proofs.YtfnafjohfmlniaaDoor.PCs
