-- Written for this claim by a program (the kit's print, with hand-made contracts for what it does not take).
import Derived.Test.YtfnafjohfmlniaaDoorPCbx0
import Derived.Test.YtfnafjohfmlniaaDoorPCbx12
import Derived.Test.YtfnafjohfmlniaaDoorPCbx13
import Derived.Test.YtfnafjohfmlniaaDoorPCbx14
namespace Go.Proofs.YtfnafjohfmlniaaDoor.PCb
open Go.RowKit Go.Proofs.YtfnafjohfmlniaaDoorW.PrintWords Go.Proofs.YtfnafjohfmlniaaDoorW.PrintLast Go.Proofs.YtfnafjohfmlniaaDoorW.PrintMore
attribute [local go_sem] max2_int min2_int max_two min_two max_three min_three max_four min_four   -- for this text's walks alone
set_option linter.unusedVariables false
set_option linter.unusedSimpArgs false

/-! ### emenderlaw28_CommonMarks: function 6 -/
mutual
def emenderlaw28_CommonMarks.j1 : Nat → Int → ByteArray → Option (Bool)
  | 0, _, _ => none
  | k + 1, x1, x5 => if x5.toList = ([] : List UInt8) then ((emenderlaw28_awake.f).bind fun t146 => (some t146)) else (if (Int.tmod x1 4) = 0 then (if 1 + x5.size ≤ 9223372036854775807 then (if ((⟨#[42]⟩ : ByteArray) ++ x5).size + 1 ≤ 9223372036854775807 then (emenderlaw28_CommonMarks.j2 k x5 (((⟨#[42]⟩ : ByteArray) ++ x5) ++ (⟨#[42]⟩ : ByteArray)) 2) else (none)) else (none)) else (if (Int.tmod x1 4) = 1 then (if 2 + x5.size ≤ 9223372036854775807 then (if ((⟨#[42, 42]⟩ : ByteArray) ++ x5).size + 2 ≤ 9223372036854775807 then (emenderlaw28_CommonMarks.j2 k x5 (((⟨#[42, 42]⟩ : ByteArray) ++ x5) ++ (⟨#[42, 42]⟩ : ByteArray)) 1) else (none)) else (none)) else (if (Int.tmod x1 4) = 2 then (if 3 + x5.size ≤ 9223372036854775807 then (if ((⟨#[42, 42, 42]⟩ : ByteArray) ++ x5).size + 3 ≤ 9223372036854775807 then (emenderlaw28_CommonMarks.j2 k x5 (((⟨#[42, 42, 42]⟩ : ByteArray) ++ x5) ++ (⟨#[42, 42, 42]⟩ : ByteArray)) 3) else (none)) else (none)) else (if 1 + x5.size ≤ 9223372036854775807 then (if ((⟨#[96]⟩ : ByteArray) ++ x5).size + 1 ≤ 9223372036854775807 then (emenderlaw28_CommonMarks.j2 k x5 (((⟨#[96]⟩ : ByteArray) ++ x5) ++ (⟨#[96]⟩ : ByteArray)) 4) else (none)) else (none)))))
def emenderlaw28_CommonMarks.j2 : Nat → ByteArray → ByteArray → Int → Option (Bool)
  | 0, _, _, _ => none
  | k + 1, x5, x7, x8 => (common_Parse.f x7).bind fun bt147 => (if bt147.2.2 = 0 then (if bt147.2.1 = (x7.size : Int) then (if (bt147.1.length : Int) = (x5.size : Int) then ((flat_Text.f bt147.1).bind fun t152 => (emenderlaw28_CommonMarks.j3 k x8 bt147.1 (t152.toList != x5.toList))) else (emenderlaw28_CommonMarks.j3 k x8 bt147.1 true)) else (emenderlaw28_CommonMarks.j3 k x8 bt147.1 true)) else (emenderlaw28_CommonMarks.j3 k x8 bt147.1 true))
def emenderlaw28_CommonMarks.j3 : Nat → Int → List (S43) → Bool → Option (Bool)
  | 0, _, _, _ => none
  | k + 1, x8, x9, x82 => if x82 = true then (none) else (emenderlaw28_CommonMarks.l1 k x8 x9 0)
def emenderlaw28_CommonMarks.l1 : Nat → Int → List (S43) → Int → Option (Bool)
  | 0, _, _, _ => none
  | k + 1, x8, x9, x12 => if x12 < (x9.length : Int) then (if 0 ≤ x12 then (if ((rd_T43 x9 x12).f3) = x8 then (emenderlaw28_CommonMarks.l1 k x8 x9 (wrap64 (x12 + 1))) else (none)) else (none)) else ((emenderlaw28_awake.f).bind fun t154 => (some t154))
def emenderlaw28_CommonMarks.l0 : Nat → List Int → Int → ByteArray → Int → Option (Bool)
  | 0, _, _, _, _ => none
  | k + 1, x0, x1, x5, x6 => if x6 < (x0.length : Int) then (if x6 < 100 then (if 0 ≤ x6 then ((some (([(97 + (Int.tmod (rd x0 x6) 26)) % 256] : List Int) : List Int)).bind fun y143 => (if x5.size + (strOfNums y143).size ≤ 9223372036854775807 then (emenderlaw28_CommonMarks.l0 k x0 x1 (x5 ++ (strOfNums y143)) (wrap64 (x6 + 1))) else (none))) else (none)) else (emenderlaw28_CommonMarks.j1 k x1 x5)) else (emenderlaw28_CommonMarks.j1 k x1 x5)
end
def emenderlaw28_CommonMarks.f (k : Nat) (l0 : List Int) (a1 : Int) : Option (Bool) := emenderlaw28_CommonMarks.l0 k l0 a1 (⟨#[]⟩ : ByteArray) 0
theorem emenderlaw28_CommonMarks.mono_l : ∀ k, (∀ y0 y1, LeO (emenderlaw28_CommonMarks.j1 k y0 y1) (emenderlaw28_CommonMarks.j1 (k + 1) y0 y1)) ∧ (∀ y0 y1 y2, LeO (emenderlaw28_CommonMarks.j2 k y0 y1 y2) (emenderlaw28_CommonMarks.j2 (k + 1) y0 y1 y2)) ∧ (∀ y0 y1 y2, LeO (emenderlaw28_CommonMarks.j3 k y0 y1 y2) (emenderlaw28_CommonMarks.j3 (k + 1) y0 y1 y2)) ∧ (∀ y0 y1 y2, LeO (emenderlaw28_CommonMarks.l1 k y0 y1 y2) (emenderlaw28_CommonMarks.l1 (k + 1) y0 y1 y2)) ∧ (∀ y0 y1 y2 y3, LeO (emenderlaw28_CommonMarks.l0 k y0 y1 y2 y3) (emenderlaw28_CommonMarks.l0 (k + 1) y0 y1 y2 y3))
  | 0 => ⟨fun _ _ r h => by simp [emenderlaw28_CommonMarks.j1] at h, fun _ _ _ r h => by simp [emenderlaw28_CommonMarks.j2] at h, fun _ _ _ r h => by simp [emenderlaw28_CommonMarks.j3] at h, fun _ _ _ r h => by simp [emenderlaw28_CommonMarks.l1] at h, fun _ _ _ _ r h => by simp [emenderlaw28_CommonMarks.l0] at h⟩
  | k + 1 => by
    obtain ⟨ih0, ih1, ih2, ih3, ih4⟩ := emenderlaw28_CommonMarks.mono_l k
    refine ⟨?_, ?_, ?_, ?_, ?_⟩
    · intro y0 y1
      unfold emenderlaw28_CommonMarks.j1
      repeat' first
      | (with_reducible exact ih0 _ _)
      | (with_reducible exact ih1 _ _ _)
      | (with_reducible exact ih2 _ _ _)
      | (with_reducible exact ih3 _ _ _)
      | (with_reducible exact ih4 _ _ _ _)
      | (with_reducible exact LeO.refl _)
      | (with_reducible exact LeO.none _)
      | (with_reducible refine LeO.ite ?_ ?_)
      | (with_reducible refine LeO.bind ?_ (fun _ => ?_))
      | exact ih0 _ _
      | exact ih1 _ _ _
      | exact ih2 _ _ _
      | exact ih3 _ _ _
      | exact ih4 _ _ _ _
      | exact LeO.none _
      | refine LeO.ite ?_ ?_
      | refine LeO.bind ?_ (fun _ => ?_)
    · intro y0 y1 y2
      unfold emenderlaw28_CommonMarks.j2
      repeat' first
      | (with_reducible exact ih0 _ _)
      | (with_reducible exact ih1 _ _ _)
      | (with_reducible exact ih2 _ _ _)
      | (with_reducible exact ih3 _ _ _)
      | (with_reducible exact ih4 _ _ _ _)
      | (with_reducible exact LeO.refl _)
      | (with_reducible exact LeO.none _)
      | (with_reducible refine LeO.ite ?_ ?_)
      | (with_reducible refine LeO.bind ?_ (fun _ => ?_))
      | exact ih0 _ _
      | exact ih1 _ _ _
      | exact ih2 _ _ _
      | exact ih3 _ _ _
      | exact ih4 _ _ _ _
      | exact LeO.none _
      | refine LeO.ite ?_ ?_
      | refine LeO.bind ?_ (fun _ => ?_)
    · intro y0 y1 y2
      unfold emenderlaw28_CommonMarks.j3
      repeat' first
      | (with_reducible exact ih0 _ _)
      | (with_reducible exact ih1 _ _ _)
      | (with_reducible exact ih2 _ _ _)
      | (with_reducible exact ih3 _ _ _)
      | (with_reducible exact ih4 _ _ _ _)
      | (with_reducible exact LeO.refl _)
      | (with_reducible exact LeO.none _)
      | (with_reducible refine LeO.ite ?_ ?_)
      | (with_reducible refine LeO.bind ?_ (fun _ => ?_))
      | exact ih0 _ _
      | exact ih1 _ _ _
      | exact ih2 _ _ _
      | exact ih3 _ _ _
      | exact ih4 _ _ _ _
      | exact LeO.none _
      | refine LeO.ite ?_ ?_
      | refine LeO.bind ?_ (fun _ => ?_)
    · intro y0 y1 y2
      unfold emenderlaw28_CommonMarks.l1
      repeat' first
      | (with_reducible exact ih0 _ _)
      | (with_reducible exact ih1 _ _ _)
      | (with_reducible exact ih2 _ _ _)
      | (with_reducible exact ih3 _ _ _)
      | (with_reducible exact ih4 _ _ _ _)
      | (with_reducible exact LeO.refl _)
      | (with_reducible exact LeO.none _)
      | (with_reducible refine LeO.ite ?_ ?_)
      | (with_reducible refine LeO.bind ?_ (fun _ => ?_))
      | exact ih0 _ _
      | exact ih1 _ _ _
      | exact ih2 _ _ _
      | exact ih3 _ _ _
      | exact ih4 _ _ _ _
      | exact LeO.none _
      | refine LeO.ite ?_ ?_
      | refine LeO.bind ?_ (fun _ => ?_)
    · intro y0 y1 y2 y3
      unfold emenderlaw28_CommonMarks.l0
      repeat' first
      | (with_reducible exact ih0 _ _)
      | (with_reducible exact ih1 _ _ _)
      | (with_reducible exact ih2 _ _ _)
      | (with_reducible exact ih3 _ _ _)
      | (with_reducible exact ih4 _ _ _ _)
      | (with_reducible exact LeO.refl _)
      | (with_reducible exact LeO.none _)
      | (with_reducible refine LeO.ite ?_ ?_)
      | (with_reducible refine LeO.bind ?_ (fun _ => ?_))
      | exact ih0 _ _
      | exact ih1 _ _ _
      | exact ih2 _ _ _
      | exact ih3 _ _ _
      | exact ih4 _ _ _ _
      | exact LeO.none _
      | refine LeO.ite ?_ ?_
      | refine LeO.bind ?_ (fun _ => ?_)
theorem emenderlaw28_CommonMarks.mono : ∀ a0 a1 k, LeO (emenderlaw28_CommonMarks.f k a0 a1) (emenderlaw28_CommonMarks.f (k + 1) a0 a1) := by
  intro a0 a1 k
  obtain ⟨ih0, ih1, ih2, ih3, ih4⟩ := emenderlaw28_CommonMarks.mono_l k
  unfold emenderlaw28_CommonMarks.f
  repeat' first
      | (with_reducible exact ih0 _ _)
      | (with_reducible exact ih1 _ _ _)
      | (with_reducible exact ih2 _ _ _)
      | (with_reducible exact ih3 _ _ _)
      | (with_reducible exact ih4 _ _ _ _)
      | (with_reducible exact LeO.refl _)
      | (with_reducible exact LeO.none _)
      | (with_reducible refine LeO.ite ?_ ?_)
      | (with_reducible refine LeO.bind ?_ (fun _ => ?_))
      | exact ih0 _ _
      | exact ih1 _ _ _
      | exact ih2 _ _ _
      | exact ih3 _ _ _
      | exact ih4 _ _ _ _
      | exact LeO.none _
      | refine LeO.ite ?_ ?_
      | refine LeO.bind ?_ (fun _ => ?_)
set_option maxHeartbeats 8000000 in
set_option maxRecDepth 100000 in
theorem emenderlaw28_CommonMarks.calls (k : Nat) (A0 : Option Addr) (c0 : Nat) (l0 : List Int) (a1 : Int) (r : Bool) (w : World) (HT_ : Aside0 (Lib.Utf8Tabs 0 1 w)) (hr0 : Kd.C (Kd.int .u8) w A0 l0.length l0) (hc0 : l0.length ≤ c0) (h : emenderlaw28_CommonMarks.f k l0 a1 = some r) :
    Calls Tryd.prog 6 #[.slice A0 l0.length c0, .int .u8 a1] w fun e w' => e = .returned (.bool r) ∧ Below w.heap.size w w' := by
  have HU8_ := HT_
  have HR0 := Aside0.mk hr0
  have HC0 := Aside0.mk hc0
  clear hr0 hc0
  have HB := Aside0.mk (Below.refl w.heap.size w)
  have H : (emenderlaw28_CommonMarks.l0 k l0 a1 (⟨#[]⟩ : ByteArray) 0) = some r := h
  clear h
  have HC3 := Aside0.mk H
  clear H
  go_enter Tryd.func6, Tryd.ntmps6
  go_upto_block 0 with (fail)
  go_cut [5] (fun v5 wc => ∃ (kq : Nat) (x5_2 : ByteArray), v5 = .string x5_2 ∧ Aside0 (emenderlaw28_CommonMarks.j1 kq a1 x5_2 = some r) ∧ Aside0 (kq ≤ k) ∧ Aside0 (Below w.heap.size w wc))
  case first =>
    have H := HC3.out
    clear HC3
    have H' := Aside0.mk H
    clear H
    go_wp2
    go_loopg [5, 6] k (fun kq v5 v6 w' => ∃ (x5_1 : ByteArray) (x6_1 : Int), v5 = .string x5_1 ∧ v6 = .int .i64 x6_1 ∧ Aside0 (emenderlaw28_CommonMarks.l0 kq l0 a1 x5_1 x6_1 = some r) ∧ Aside0 (kq ≤ k) ∧ Aside0 (Below w.heap.size w w'))
    case atStart => exact ⟨((⟨#[]⟩ : ByteArray)), (0), (by first | rfl | (simp; done) | (simp [*]; done)), (by first | rfl | (simp; done) | (simp [*]; done)), H', ⟨Nat.le_refl _⟩, ⟨by repeat (first | (with_reducible first | exact HB.out | apply below_alloc | apply pw_below_drewN | apply below_drew1) | exact HB.out)⟩⟩
    case round =>
      clear H'
      try clear p2
      obtain ⟨x5_1, x6_1, rfl, rfl, HA, HK1, HB⟩ := hrel
      cases gk with
      | zero => exact absurd HA.out (by simp [emenderlaw28_CommonMarks.l0])
      | succ k1 =>
        have H := HA.out
        clear HA
        simp only [emenderlaw28_CommonMarks.l0] at H
        by_cases c4 : x6_1 < (l0.length : Int)
        · rw [if_pos c4] at H
          have c4b0 : decide (x6_1 < (l0.length : Int)) = true := decide_eq_true c4
          clear c4
          (first | rw [c4b0] | (simp only [i64_w, i32_w]; rw [c4b0]) | skip)
          by_cases c5 : x6_1 < 100
          · rw [if_pos c5] at H
            have c5b0 : decide (x6_1 < 100) = true := decide_eq_true c5
            clear c5
            by_cases c6 : 0 ≤ x6_1
            · rw [if_pos c6] at H
              have c6b0 : decide (0 ≤ x6_1) = true := decide_eq_true c6
              clear c6
              obtain ⟨y143, hy143⟩ : ∃ y_ : List Int, y_ = (([(97 + (Int.tmod (rd l0 x6_1) 26)) % 256] : List Int)) := ⟨_, rfl⟩
              replace H : (if x5_1.size + (strOfNums y143).size ≤ 9223372036854775807 then (emenderlaw28_CommonMarks.l0 k1 l0 a1 (x5_1 ++ (strOfNums y143)) (wrap64 (x6_1 + 1))) else (none)) = some r := by first | (rw [hy143]; with_reducible exact H) | (have H2_ := (Option.bind_some _ _).symm.trans H; rw [hy143]; with_reducible exact H2_) | (have H2_ := (Option.bind_some _ _).symm.trans H; with_reducible exact H2_) | with_reducible exact H | (rw [hy143]; exact H) | exact H
              have Ny143 := Aside0.mk hy143
              clear hy143
              by_cases c7 : x5_1.size + (strOfNums y143).size ≤ 9223372036854775807
              · rw [if_pos c7] at H
                have c7b0 := eq_true c7
                have c7b1 : decide (x5_1.size + (strOfNums y143).size ≤ 9223372036854775807) = true := decide_eq_true c7
                try have c7b2 : (9223372036854775807 < x5_1.size + (strOfNums y143).size) = False := eq_false (Nat.not_lt.2 c7)
                have H' := Aside0.mk H
                clear H
                have p142 : 0 ≤ (x6_1 : Int) := of_decide_eq_true (by first | (with_reducible assumption) | assumption)
                have q142 : x6_1 < (l0.length : Int) := of_decide_eq_true (by first | (with_reducible assumption) | assumption)
                obtain ⟨ad142, e142, hx142_0⟩ := Kd.at_int HR0.out x6_1 p142 q142
                cases e142
                replace hx142_0 := (HB.out.cell (World.block_lt_of_cell? w _ hx142_0)).trans hx142_0
                replace p142 := eq_true p142
                replace q142 := eq_true q142
                go_wp2_with (first | ((with_reducible refine gate_dst (N := 30) rfl ?_); (try (refine gate_guard (by rfl) ?_; dsimp only)); refine Kd.R_lit (Kd.int .u8) _ 5 ?hg (N := 30) ?hd (xs := ([(97 + (Int.tmod (rd l0 x6_1) 26)) % 256] : List Int)) (inner := [.int .u8 ((97 + (Int.tmod (rd l0 x6_1) 26)) % 256)]) (ok := fun _ => True) (okp := fun _ => True) ?hr ?hp (fun _ hk => hk) trivial (Below.refl _ _) (Nat.le_refl _) (by simp) ?_; (case hd => rfl); (case hg => rfl); (case hr => first | (go_simp; done) | (go_simp; rfl)); (case hp => exact (Reps.one (show Kd.M (Kd.int .u8) _ _ _ ((97 + (Int.tmod (rd l0 x6_1) 26)) % 256) [.int .u8 ((97 + (Int.tmod (rd l0 x6_1) 26)) % 256)] from rfl) (Reps.none _ _))); intro v144 w8 ho9 hb hg_ hnew_; clear hg_ hnew_; (first | rw [← Ny143.out] at ho9 | (simp only [Int.reduceToNat] at ho9; rw [← Ny143.out] at ho9)); have n0_ := Aside0.mk (Kd.R_lower ho9 (below_size (by repeat (first | (with_reducible first | exact HB.out | apply below_alloc | apply pw_below_drewN | apply below_drew1) | exact HB.out)))); have n1_ := Aside0.mk (below_step (by repeat (first | (with_reducible first | exact HB.out | apply below_alloc | apply pw_below_drewN | apply below_drew1) | exact HB.out)) hb); clear HB; have HO145 := n0_; have HB := n1_; clear n0_ n1_; clear hb ho9; have hcv10 := own_string (P := Tryd.prog) Tryd.underlying40 Tryd.underlying5 Tryd.underlying9 (Kd.own_of_R HO145.out)))
                go_roundg k1
                case measure => have := HK1.out; omega
                case rel => exact ⟨(x5_1 ++ (strOfNums y143)), (wrap64 (x6_1 + 1)), (by first | rfl | (simp; done) | (simp [*]; done)), (by first | rfl | (simp; done) | (simp [*]; done)), H', ⟨by have := HK1.out; omega⟩, ⟨by repeat (first | (with_reducible first | exact HB.out | apply below_alloc | apply pw_below_drewN | apply below_drew1) | exact HB.out)⟩⟩
              · rw [if_neg c7] at H
                exact absurd H (by simp)
            · rw [if_neg c6] at H
              exact absurd H (by simp)
          · rw [if_neg c5] at H
            have c5b0 : decide (x6_1 < 100) = false := decide_eq_false c5
            clear c5
            have H' := Aside0.mk H
            clear H
            go_wp2
            go_meet
            case rel => exact ⟨_, (x5_1), (by first | rfl | (simp; done) | (simp [*]; done)), H', ⟨by have := HK1.out; first | omega | exact Nat.le_refl _⟩, ⟨by repeat (first | (with_reducible first | exact HB.out | apply below_alloc | apply pw_below_drewN | apply below_drew1) | exact HB.out)⟩⟩
        · rw [if_neg c4] at H
          have c4b0 : decide (x6_1 < (l0.length : Int)) = false := decide_eq_false c4
          clear c4
          (first | rw [c4b0] | (simp only [i64_w, i32_w]; rw [c4b0]) | skip)
          have H' := Aside0.mk H
          clear H
          go_wp2
          go_meet
          case rel => exact ⟨_, (x5_1), (by first | rfl | (simp; done) | (simp [*]; done)), H', ⟨by have := HK1.out; first | omega | exact Nat.le_refl _⟩, ⟨by repeat (first | (with_reducible first | exact HB.out | apply below_alloc | apply pw_below_drewN | apply below_drew1) | exact HB.out)⟩⟩
  case rest =>
    clear HC3
    try clear p1
    try clear q1
    try clear hx1
    try clear hcv1
    try clear p2
    try clear c4
    try clear c4b0
    try clear c5
    try clear c5b0
    try clear c6
    try clear c6b0
    try clear p6
    try clear c7
    try clear c7b0
    try clear c7b1
    try clear c7b2
    try clear hcv10
    try clear hx142_0
    try clear p142
    try clear p2
    try clear q142
    obtain ⟨kq, x5_2, rfl, HA, HJ2, HB⟩ := hcut
    cases kq with
    | zero => exact absurd HA.out (by simp [emenderlaw28_CommonMarks.j1])
    | succ kj2 =>
      have H := HA.out
      clear HA
      simp only [emenderlaw28_CommonMarks.j1] at H
      by_cases c11 : x5_2.toList = ([] : List UInt8)
      · rw [if_pos c11] at H
        have c11b0 : (x5_2.toList == ([] : List UInt8)) = true := beq_iff_eq.mpr c11
        have c11b1 : (x5_2.toList != ([] : List UInt8)) = false := bne_eq_false_iff_eq.mpr c11
        clear c11
        replace H := Option.bind_eq_some_iff.mp H
        obtain ⟨t146, A120, H⟩ := H
        replace H : (some t146) = some r := H
        have A12 := Aside0.mk A120
        clear A120
        obtain rfl := Option.some.inj H
        go_wp2_with (first | ((with_reducible refine gate_callee (f := 9) rfl ?_); refine goesL_ (some 35) rfl rfl Tryd.func9 (by kernel_rfl) rfl #[] rfl (by (try simp only [List.map_toArray, List.map_cons, List.map_nil]); first | done | rfl | (simp only [List.length_drop, List.length_take]; rfl)) ?_; (with_reducible refine (emenderlaw28_awake.calls  t146 _ A12.out).mono ?_); rintro e w13 ⟨rfl, hb⟩; refine ⟨_, rfl, ?_⟩; have n0_ := Aside0.mk (below_step (by repeat (first | (with_reducible first | exact HB.out | apply below_alloc | apply pw_below_drewN | apply below_drew1) | exact HB.out)) hb); clear HB; have HB := n0_; clear n0_; (try clear hb); (try clear hb2); (try clear hk); (try clear hi)))
        go_ret
        exact ⟨by first | rfl | (simp [errW_none, errW_some] <;> rfl) | (simp [*, errW_none, errW_some] <;> rfl), by repeat (first | (with_reducible first | exact HB.out | apply below_alloc | apply pw_below_drewN | apply below_drew1) | exact HB.out)⟩
      · rw [if_neg c11] at H
        have c11b0 : (x5_2.toList == ([] : List UInt8)) = false := beq_eq_false_iff_ne.mpr c11
        have c11b1 : (x5_2.toList != ([] : List UInt8)) = true := bne_iff_ne.mpr c11
        have HC14 := Aside0.mk H
        clear H
        go_upto_block 2 with (fail)
        go_cut [7, 8] (fun v7 v8 wc => ∃ (kq : Nat) (x7_13 : ByteArray) (x8_13 : Int), v7 = .string x7_13 ∧ v8 = .int .i64 x8_13 ∧ Aside0 (emenderlaw28_CommonMarks.j2 kq x5_2 x7_13 x8_13 = some r) ∧ Aside0 (kq ≤ kj2) ∧ Aside0 (Below w.heap.size w wc))
        case first =>
          have H := HC14.out
          clear HC14
          by_cases c15 : (Int.tmod a1 4) = 0
          · rw [if_pos c15] at H
            have c15b0 : ((Int.tmod a1 4) == 0) = true := beq_iff_eq.mpr c15
            have c15b1 : ((Int.tmod a1 4) != 0) = false := bne_eq_false_iff_eq.mpr c15
            clear c15
            (first | rw [c15b0] | (simp only [i64_w, i32_w]; rw [c15b0]) | skip)
            by_cases c16 : 1 + x5_2.size ≤ 9223372036854775807
            · rw [if_pos c16] at H
              have c16b0 := eq_true c16
              have c16b1 : decide (1 + x5_2.size ≤ 9223372036854775807) = true := decide_eq_true c16
              try have c16b2 : (9223372036854775807 < 1 + x5_2.size) = False := eq_false (Nat.not_lt.2 c16)
              by_cases c17 : ((⟨#[42]⟩ : ByteArray) ++ x5_2).size + 1 ≤ 9223372036854775807
              · rw [if_pos c17] at H
                have c17b0 := eq_true c17
                have c17b1 : decide (((⟨#[42]⟩ : ByteArray) ++ x5_2).size + 1 ≤ 9223372036854775807) = true := decide_eq_true c17
                try have c17b2 : (9223372036854775807 < ((⟨#[42]⟩ : ByteArray) ++ x5_2).size + 1) = False := eq_false (Nat.not_lt.2 c17)
                try have c17b3 : (9223372036854775807 < 1 + x5_2.size + 1) = False := by have h_ := c17; simp only [ByteArray.size_append] at h_; exact eq_false (Nat.not_lt.2 h_)
                have H' := Aside0.mk H
                clear H
                go_wp2
                go_meet
                case rel => exact ⟨_, (((⟨#[42]⟩ : ByteArray) ++ x5_2) ++ (⟨#[42]⟩ : ByteArray)), (2), (by first | rfl | (simp; done) | (simp [*]; done)), (by first | rfl | (simp; done) | (simp [*]; done)), H', ⟨by have := HJ2.out; first | omega | exact Nat.le_refl _⟩, ⟨by repeat (first | (with_reducible first | exact HB.out | apply below_alloc | apply pw_below_drewN | apply below_drew1) | exact HB.out)⟩⟩
              · rw [if_neg c17] at H
                exact absurd H (by simp)
            · rw [if_neg c16] at H
              exact absurd H (by simp)
          · rw [if_neg c15] at H
            have c15b0 : ((Int.tmod a1 4) == 0) = false := beq_eq_false_iff_ne.mpr c15
            have c15b1 : ((Int.tmod a1 4) != 0) = true := bne_iff_ne.mpr c15
            (first | rw [c15b0] | (simp only [i64_w, i32_w]; rw [c15b0]) | skip)
            by_cases c18 : (Int.tmod a1 4) = 1
            · rw [if_pos c18] at H
              have c18b0 : ((Int.tmod a1 4) == 1) = true := beq_iff_eq.mpr c18
              have c18b1 : ((Int.tmod a1 4) != 1) = false := bne_eq_false_iff_eq.mpr c18
              clear c18
              by_cases c19 : 2 + x5_2.size ≤ 9223372036854775807
              · rw [if_pos c19] at H
                have c19b0 := eq_true c19
                have c19b1 : decide (2 + x5_2.size ≤ 9223372036854775807) = true := decide_eq_true c19
                try have c19b2 : (9223372036854775807 < 2 + x5_2.size) = False := eq_false (Nat.not_lt.2 c19)
                by_cases c20 : ((⟨#[42, 42]⟩ : ByteArray) ++ x5_2).size + 2 ≤ 9223372036854775807
                · rw [if_pos c20] at H
                  have c20b0 := eq_true c20
                  have c20b1 : decide (((⟨#[42, 42]⟩ : ByteArray) ++ x5_2).size + 2 ≤ 9223372036854775807) = true := decide_eq_true c20
                  try have c20b2 : (9223372036854775807 < ((⟨#[42, 42]⟩ : ByteArray) ++ x5_2).size + 2) = False := eq_false (Nat.not_lt.2 c20)
                  try have c20b3 : (9223372036854775807 < 2 + x5_2.size + 2) = False := by have h_ := c20; simp only [ByteArray.size_append] at h_; exact eq_false (Nat.not_lt.2 h_)
                  have H' := Aside0.mk H
                  clear H
                  go_wp2
                  go_meet
                  case rel => exact ⟨_, (((⟨#[42, 42]⟩ : ByteArray) ++ x5_2) ++ (⟨#[42, 42]⟩ : ByteArray)), (1), (by first | rfl | (simp; done) | (simp [*]; done)), (by first | rfl | (simp; done) | (simp [*]; done)), H', ⟨by have := HJ2.out; first | omega | exact Nat.le_refl _⟩, ⟨by repeat (first | (with_reducible first | exact HB.out | apply below_alloc | apply pw_below_drewN | apply below_drew1) | exact HB.out)⟩⟩
                · rw [if_neg c20] at H
                  exact absurd H (by simp)
              · rw [if_neg c19] at H
                exact absurd H (by simp)
            · rw [if_neg c18] at H
              have c18b0 : ((Int.tmod a1 4) == 1) = false := beq_eq_false_iff_ne.mpr c18
              have c18b1 : ((Int.tmod a1 4) != 1) = true := bne_iff_ne.mpr c18
              by_cases c21 : (Int.tmod a1 4) = 2
              · rw [if_pos c21] at H
                have c21b0 : ((Int.tmod a1 4) == 2) = true := beq_iff_eq.mpr c21
                have c21b1 : ((Int.tmod a1 4) != 2) = false := bne_eq_false_iff_eq.mpr c21
                clear c21
                by_cases c22 : 3 + x5_2.size ≤ 9223372036854775807
                · rw [if_pos c22] at H
                  have c22b0 := eq_true c22
                  have c22b1 : decide (3 + x5_2.size ≤ 9223372036854775807) = true := decide_eq_true c22
                  try have c22b2 : (9223372036854775807 < 3 + x5_2.size) = False := eq_false (Nat.not_lt.2 c22)
                  by_cases c23 : ((⟨#[42, 42, 42]⟩ : ByteArray) ++ x5_2).size + 3 ≤ 9223372036854775807
                  · rw [if_pos c23] at H
                    have c23b0 := eq_true c23
                    have c23b1 : decide (((⟨#[42, 42, 42]⟩ : ByteArray) ++ x5_2).size + 3 ≤ 9223372036854775807) = true := decide_eq_true c23
                    try have c23b2 : (9223372036854775807 < ((⟨#[42, 42, 42]⟩ : ByteArray) ++ x5_2).size + 3) = False := eq_false (Nat.not_lt.2 c23)
                    try have c23b3 : (9223372036854775807 < 3 + x5_2.size + 3) = False := by have h_ := c23; simp only [ByteArray.size_append] at h_; exact eq_false (Nat.not_lt.2 h_)
                    have H' := Aside0.mk H
                    clear H
                    go_wp2
                    go_meet
                    case rel => exact ⟨_, (((⟨#[42, 42, 42]⟩ : ByteArray) ++ x5_2) ++ (⟨#[42, 42, 42]⟩ : ByteArray)), (3), (by first | rfl | (simp; done) | (simp [*]; done)), (by first | rfl | (simp; done) | (simp [*]; done)), H', ⟨by have := HJ2.out; first | omega | exact Nat.le_refl _⟩, ⟨by repeat (first | (with_reducible first | exact HB.out | apply below_alloc | apply pw_below_drewN | apply below_drew1) | exact HB.out)⟩⟩
                  · rw [if_neg c23] at H
                    exact absurd H (by simp)
                · rw [if_neg c22] at H
                  exact absurd H (by simp)
              · rw [if_neg c21] at H
                have c21b0 : ((Int.tmod a1 4) == 2) = false := beq_eq_false_iff_ne.mpr c21
                have c21b1 : ((Int.tmod a1 4) != 2) = true := bne_iff_ne.mpr c21
                by_cases c24 : 1 + x5_2.size ≤ 9223372036854775807
                · rw [if_pos c24] at H
                  have c24b0 := eq_true c24
                  have c24b1 : decide (1 + x5_2.size ≤ 9223372036854775807) = true := decide_eq_true c24
                  try have c24b2 : (9223372036854775807 < 1 + x5_2.size) = False := eq_false (Nat.not_lt.2 c24)
                  by_cases c25 : ((⟨#[96]⟩ : ByteArray) ++ x5_2).size + 1 ≤ 9223372036854775807
                  · rw [if_pos c25] at H
                    have c25b0 := eq_true c25
                    have c25b1 : decide (((⟨#[96]⟩ : ByteArray) ++ x5_2).size + 1 ≤ 9223372036854775807) = true := decide_eq_true c25
                    try have c25b2 : (9223372036854775807 < ((⟨#[96]⟩ : ByteArray) ++ x5_2).size + 1) = False := eq_false (Nat.not_lt.2 c25)
                    try have c25b3 : (9223372036854775807 < 1 + x5_2.size + 1) = False := by have h_ := c25; simp only [ByteArray.size_append] at h_; exact eq_false (Nat.not_lt.2 h_)
                    have H' := Aside0.mk H
                    clear H
                    go_wp2
                    go_meet
                    case rel => exact ⟨_, (((⟨#[96]⟩ : ByteArray) ++ x5_2) ++ (⟨#[96]⟩ : ByteArray)), (4), (by first | rfl | (simp; done) | (simp [*]; done)), (by first | rfl | (simp; done) | (simp [*]; done)), H', ⟨by have := HJ2.out; first | omega | exact Nat.le_refl _⟩, ⟨by repeat (first | (with_reducible first | exact HB.out | apply below_alloc | apply pw_below_drewN | apply below_drew1) | exact HB.out)⟩⟩
                  · rw [if_neg c25] at H
                    exact absurd H (by simp)
                · rw [if_neg c24] at H
                  exact absurd H (by simp)
        case rest =>
          clear HC14
          try clear c1
          try clear p1
          try clear q1
          try clear hx1
          try clear hcv1
          try clear c2
          try clear p2
          try clear c4
          try clear c4b0
          try clear c5
          try clear c5b0
          try clear c6
          try clear c6b0
          try clear p6
          try clear c7
          try clear c7b0
          try clear c7b1
          try clear c7b2
          try clear c9
          try clear hcv10
          try clear c11
          try clear c11b0
          try clear c11b1
          try clear p14
          try clear q14
          try clear hx14
          try clear c15
          try clear c15b0
          try clear c15b1
          try clear c16
          try clear c16b0
          try clear c16b1
          try clear c16b2
          try clear c17
          try clear c17b0
          try clear c17b1
          try clear c17b2
          try clear c18
          try clear c18b0
          try clear c18b1
          try clear c19
          try clear c19b0
          try clear c19b1
          try clear c19b2
          try clear c20
          try clear c20b0
          try clear c20b1
          try clear c20b2
          try clear c21
          try clear c21b0
          try clear c21b1
          try clear c22
          try clear c22b0
          try clear c22b1
          try clear c22b2
          try clear c23
          try clear c23b0
          try clear c23b1
          try clear c23b2
          try clear c24
          try clear c24b0
          try clear c24b1
          try clear c24b2
          try clear c25
          try clear c25b0
          try clear c25b1
          try clear c25b2
          try clear hx142_0
          try clear p1
          try clear p142
          try clear p2
          try clear p6
          try clear q1
          try clear q142
          obtain ⟨kq, x7_13, x8_13, rfl, rfl, HA, HJ13, HB⟩ := hcut
          cases kq with
          | zero => exact absurd HA.out (by simp [emenderlaw28_CommonMarks.j2])
          | succ kj13 =>
            have H := HA.out
            clear HA
            simp only [emenderlaw28_CommonMarks.j2] at H
            replace H := Option.bind_eq_some_iff.mp H
            obtain ⟨⟨t147, t148, t149⟩, A260, H⟩ := H
            replace H : (if t149 = 0 then (if t148 = (x7_13.size : Int) then (if (t147.length : Int) = (x5_2.size : Int) then ((flat_Text.f t147).bind fun t152 => (emenderlaw28_CommonMarks.j3 kj13 x8_13 t147 (t152.toList != x5_2.toList))) else (emenderlaw28_CommonMarks.j3 kj13 x8_13 t147 true)) else (emenderlaw28_CommonMarks.j3 kj13 x8_13 t147 true)) else (emenderlaw28_CommonMarks.j3 kj13 x8_13 t147 true)) = some r := H
            have A26 := Aside0.mk A260
            clear A260
            have HC27 := Aside0.mk H
            clear H
            go_upto_region 23 with (first | ((with_reducible refine gate_callee (f := 10) rfl ?_); refine goesL_ (some 58) rfl rfl Tryd.func10 (by kernel_rfl) rfl #[.string x7_13] rfl (by (try simp only [List.map_toArray, List.map_cons, List.map_nil]); first | done | rfl | (simp only [List.length_drop, List.length_take]; rfl)) ?_; (with_reducible refine (common_Parse.calls x7_13 t147 t148 t149 _ A26.out).mono ?_); rintro e w28 ⟨v150, rfl, ho0, hb⟩; refine ⟨_, rfl, ?_⟩; have n0_ := Aside0.mk (Kd.R_lower ho0 (below_size (by repeat (first | (with_reducible first | exact HB.out | apply below_alloc | apply pw_below_drewN | apply below_drew1) | exact HB.out)))); have n1_ := Aside0.mk (below_step (by repeat (first | (with_reducible first | exact HB.out | apply below_alloc | apply pw_below_drewN | apply below_drew1) | exact HB.out)) hb); clear HB; have HO151 := n0_; have HB := n1_; clear n0_ n1_; (try clear hb); (try clear hb2); (try clear hk); (try clear hi); (try clear ho0)))
            (try simp only [Act.put, List.setIfInBounds_toArray, List.set_cons_zero, List.set_cons_succ])
            go_cut [82] (fun v82 wc => ∃ (kq : Nat) (x82_26 : Bool), v82 = .bool x82_26 ∧ Aside0 (emenderlaw28_CommonMarks.j3 kq x8_13 t147 x82_26 = some r) ∧ Aside0 (kq ≤ kj13) ∧ Aside0 (Kd.R k43 43 wc w.heap.size (fun _ => True) v150 t147) ∧ Aside0 (Below w.heap.size w wc))
            case first =>
              have H := HC27.out
              clear HC27
              by_cases c29 : t149 = 0
              · rw [if_pos c29] at H
                have c29b0 : (t149 == 0) = true := beq_iff_eq.mpr c29
                have c29b1 : (t149 != 0) = false := bne_eq_false_iff_eq.mpr c29
                clear c29
                (first | rw [c29b0] | (simp only [i64_w, i32_w]; rw [c29b0]) | skip)
                by_cases c30 : t148 = (x7_13.size : Int)
                · rw [if_pos c30] at H
                  have c30b0 : (t148 == (x7_13.size : Int)) = true := beq_iff_eq.mpr c30
                  have c30b1 : (t148 != (x7_13.size : Int)) = false := bne_eq_false_iff_eq.mpr c30
                  clear c30
                  by_cases c31 : (t147.length : Int) = (x5_2.size : Int)
                  · rw [if_pos c31] at H
                    have c31b0 : ((t147.length : Int) == (x5_2.size : Int)) = true := beq_iff_eq.mpr c31
                    have c31b1 : ((t147.length : Int) != (x5_2.size : Int)) = false := bne_eq_false_iff_eq.mpr c31
                    have c31b2 : (t147.length == x5_2.size) = true := by first | simpa using c31 | (simp at c31 ⊢; omega)
                    clear c31
                    replace H := Option.bind_eq_some_iff.mp H
                    obtain ⟨t152, A320, H⟩ := H
                    replace H : (emenderlaw28_CommonMarks.j3 kj13 x8_13 t147 (t152.toList != x5_2.toList)) = some r := H
                    have A32 := Aside0.mk A320
                    clear A320
                    have H' := Aside0.mk H
                    clear H
                    obtain ⟨Ao33, co33, eo33⟩ := Kd.R_slice HO151.out
                    subst eo33
                    go_wp2_with (first | (go_at_call 15; (with_reducible refine (flat_Text.calls _ _ t147 t152 _ ?side1 ?side2 A32.out).mono ?_); (case side1 => repeat (first | exact (Kd.R_reads' HO151.out).2.2 | (with_reducible refine Kd.C_alloc ?_ _) | (with_reducible refine Kd.C_drewN ?_ _) | (with_reducible refine Kd.C_drew ?_))); (case side2 => exact (Kd.R_reads' HO151.out).2.1); rintro e w34 ⟨rfl, hb⟩; have n0_ := Aside0.mk (Kd.R_below (by (with_reducible repeat (first | apply Kd.R_alloc | apply Kd.R_drewN | apply Kd.R_drew)); exact HO151.out) hb); have n1_ := Aside0.mk (below_step (by repeat (first | (with_reducible first | exact HB.out | apply below_alloc | apply pw_below_drewN | apply below_drew1) | exact HB.out)) hb); clear HO151; clear HB; have HO151 := n0_; have HB := n1_; clear n0_ n1_; (try clear hb); (try clear hb2); (try clear hk); (try clear hi)))
                    go_meet
                    case rel => exact ⟨_, ((t152.toList != x5_2.toList)), (by first | rfl | (simp; done) | (simp [*]; done)), H', ⟨by have := HJ2.out; have := HJ13.out; first | omega | exact Nat.le_refl _⟩, ⟨by (with_reducible repeat (first | apply Kd.R_alloc | apply Kd.R_drewN | apply Kd.R_drew)); exact HO151.out⟩, ⟨by repeat (first | (with_reducible first | exact HB.out | apply below_alloc | apply pw_below_drewN | apply below_drew1) | exact HB.out)⟩⟩
                  · rw [if_neg c31] at H
                    have c31b0 : ((t147.length : Int) == (x5_2.size : Int)) = false := beq_eq_false_iff_ne.mpr c31
                    have c31b1 : ((t147.length : Int) != (x5_2.size : Int)) = true := bne_iff_ne.mpr c31
                    have c31b2 : (t147.length == x5_2.size) = false := by first | simpa using c31 | (simp at c31 ⊢; omega)
                    have H' := Aside0.mk H
                    clear H
                    obtain ⟨Ao35, co35, eo35⟩ := Kd.R_slice HO151.out
                    subst eo35
                    go_wp2
                    go_meet
                    case rel => exact ⟨_, (true), (by first | rfl | (simp; done) | (simp [*]; done)), H', ⟨by have := HJ2.out; have := HJ13.out; first | omega | exact Nat.le_refl _⟩, ⟨by (with_reducible repeat (first | apply Kd.R_alloc | apply Kd.R_drewN | apply Kd.R_drew)); exact HO151.out⟩, ⟨by repeat (first | (with_reducible first | exact HB.out | apply below_alloc | apply pw_below_drewN | apply below_drew1) | exact HB.out)⟩⟩
                · rw [if_neg c30] at H
                  have c30b0 : (t148 == (x7_13.size : Int)) = false := beq_eq_false_iff_ne.mpr c30
                  have c30b1 : (t148 != (x7_13.size : Int)) = true := bne_iff_ne.mpr c30
                  have H' := Aside0.mk H
                  clear H
                  go_wp2
                  go_meet
                  case rel => exact ⟨_, (true), (by first | rfl | (simp; done) | (simp [*]; done)), H', ⟨by have := HJ2.out; have := HJ13.out; first | omega | exact Nat.le_refl _⟩, ⟨by (with_reducible repeat (first | apply Kd.R_alloc | apply Kd.R_drewN | apply Kd.R_drew)); exact HO151.out⟩, ⟨by repeat (first | (with_reducible first | exact HB.out | apply below_alloc | apply pw_below_drewN | apply below_drew1) | exact HB.out)⟩⟩
              · rw [if_neg c29] at H
                have c29b0 : (t149 == 0) = false := beq_eq_false_iff_ne.mpr c29
                have c29b1 : (t149 != 0) = true := bne_iff_ne.mpr c29
                (first | rw [c29b0] | (simp only [i64_w, i32_w]; rw [c29b0]) | skip)
                have H' := Aside0.mk H
                clear H
                go_wp2
                go_meet
                case rel => exact ⟨_, (true), (by first | rfl | (simp; done) | (simp [*]; done)), H', ⟨by have := HJ2.out; have := HJ13.out; first | omega | exact Nat.le_refl _⟩, ⟨by (with_reducible repeat (first | apply Kd.R_alloc | apply Kd.R_drewN | apply Kd.R_drew)); exact HO151.out⟩, ⟨by repeat (first | (with_reducible first | exact HB.out | apply below_alloc | apply pw_below_drewN | apply below_drew1) | exact HB.out)⟩⟩
            case rest =>
              clear HC27
              try clear c1
              try clear p1
              try clear q1
              try clear hx1
              try clear hcv1
              try clear c2
              try clear p2
              try clear c3
              try clear c4
              try clear c4b0
              try clear c5
              try clear c5b0
              try clear c6
              try clear c6b0
              try clear p6
              try clear c7
              try clear c7b0
              try clear c7b1
              try clear c7b2
              try clear c9
              try clear c10
              try clear hcv10
              try clear c11
              try clear c11b0
              try clear c11b1
              try clear p14
              try clear q14
              try clear hx14
              try clear c15
              try clear c15b0
              try clear c15b1
              try clear c16
              try clear c16b0
              try clear c16b1
              try clear c16b2
              try clear c17
              try clear c17b0
              try clear c17b1
              try clear c17b2
              try clear c18
              try clear c18b0
              try clear c18b1
              try clear c19
              try clear c19b0
              try clear c19b1
              try clear c19b2
              try clear c20
              try clear c20b0
              try clear c20b1
              try clear c20b2
              try clear c21
              try clear c21b0
              try clear c21b1
              try clear c22
              try clear c22b0
              try clear c22b1
              try clear c22b2
              try clear c23
              try clear c23b0
              try clear c23b1
              try clear c23b2
              try clear c24
              try clear c24b0
              try clear c24b1
              try clear c24b2
              try clear c25
              try clear c25b0
              try clear c25b1
              try clear c25b2
              try clear c29
              try clear c29b0
              try clear c29b1
              try clear c30
              try clear c30b0
              try clear c30b1
              try clear c31
              try clear c31b0
              try clear c31b1
              try clear c31b2
              try clear hx142_0
              try clear p1
              try clear p14
              try clear p142
              try clear p2
              try clear p6
              try clear q1
              try clear q14
              try clear q142
              obtain ⟨kq, x82_26, rfl, HA, HJ26, HO_9, HB⟩ := hcut
              cases kq with
              | zero => exact absurd HA.out (by simp [emenderlaw28_CommonMarks.j3])
              | succ kj26 =>
                have H := HA.out
                clear HA
                simp only [emenderlaw28_CommonMarks.j3] at H
                by_cases c36 : x82_26 = true
                · subst c36
                  have H1 : (none) = some r := by rw [if_pos rfl] at H; exact H
                  clear H
                  have H := H1
                  clear H1
                  exact absurd H (by simp)
                · replace c36 := Bool.eq_false_iff.mpr c36
                  subst c36
                  have H1 : (emenderlaw28_CommonMarks.l1 kj26 x8_13 t147 0) = some r := by rw [if_neg (show ¬ (false = true) by decide)] at H; exact H
                  clear H
                  have H := H1
                  clear H1
                  have H' := Aside0.mk H
                  clear H
                  go_wp2
                  go_loopg [12] kj26 (fun kq v12 w' => ∃ (x12_4 : Int), v12 = .int .i64 x12_4 ∧ Aside0 (emenderlaw28_CommonMarks.l1 kq x8_13 t147 x12_4 = some r) ∧ Aside0 (kq ≤ kj26) ∧ Aside0 (Kd.R k43 43 w' w.heap.size (fun _ => True) v150 t147) ∧ Aside0 (Below w.heap.size w w'))
                  case atStart => exact ⟨(0), (by first | rfl | (simp; done) | (simp [*]; done)), H', ⟨Nat.le_refl _⟩, ⟨by (with_reducible repeat (first | apply Kd.R_alloc | apply Kd.R_drewN | apply Kd.R_drew)); exact HO_9.out⟩, ⟨by repeat (first | (with_reducible first | exact HB.out | apply below_alloc | apply pw_below_drewN | apply below_drew1) | exact HB.out)⟩⟩
                  case round =>
                    clear H'
                    try clear c1
                    try clear p1
                    try clear q1
                    try clear hx1
                    try clear hcv1
                    try clear c2
                    try clear p2
                    try clear c3
                    try clear c4
                    try clear c4b0
                    try clear c5
                    try clear c5b0
                    try clear c6
                    try clear c6b0
                    try clear p6
                    try clear c7
                    try clear c7b0
                    try clear c7b1
                    try clear c7b2
                    try clear c9
                    try clear c10
                    try clear hcv10
                    try clear c11
                    try clear c11b0
                    try clear c11b1
                    try clear p14
                    try clear q14
                    try clear hx14
                    try clear c15
                    try clear c15b0
                    try clear c15b1
                    try clear c16
                    try clear c16b0
                    try clear c16b1
                    try clear c16b2
                    try clear c17
                    try clear c17b0
                    try clear c17b1
                    try clear c17b2
                    try clear c18
                    try clear c18b0
                    try clear c18b1
                    try clear c19
                    try clear c19b0
                    try clear c19b1
                    try clear c19b2
                    try clear c20
                    try clear c20b0
                    try clear c20b1
                    try clear c20b2
                    try clear c21
                    try clear c21b0
                    try clear c21b1
                    try clear c22
                    try clear c22b0
                    try clear c22b1
                    try clear c22b2
                    try clear c23
                    try clear c23b0
                    try clear c23b1
                    try clear c23b2
                    try clear c24
                    try clear c24b0
                    try clear c24b1
                    try clear c24b2
                    try clear c25
                    try clear c25b0
                    try clear c25b1
                    try clear c25b2
                    try clear c29
                    try clear c29b0
                    try clear c29b1
                    try clear c30
                    try clear c30b0
                    try clear c30b1
                    try clear c31
                    try clear c31b0
                    try clear c31b1
                    try clear c31b2
                    try clear c36
                    try clear hx142_0
                    try clear p1
                    try clear p14
                    try clear p142
                    try clear p2
                    try clear p6
                    try clear q1
                    try clear q14
                    try clear q142
                    obtain ⟨x12_4, rfl, HA, HK4, HO_9, HB⟩ := hrel
                    cases gk with
                    | zero => exact absurd HA.out (by simp [emenderlaw28_CommonMarks.l1])
                    | succ k4 =>
                      have H := HA.out
                      clear HA
                      simp only [emenderlaw28_CommonMarks.l1] at H
                      by_cases c37 : x12_4 < (t147.length : Int)
                      · rw [if_pos c37] at H
                        have c37b0 : decide (x12_4 < (t147.length : Int)) = true := decide_eq_true c37
                        clear c37
                        by_cases c38 : 0 ≤ x12_4
                        · rw [if_pos c38] at H
                          have c38b0 : decide (0 ≤ x12_4) = true := decide_eq_true c38
                          clear c38
                          by_cases c39 : ((rd_T43 t147 x12_4).f3) = x8_13
                          · rw [if_pos c39] at H
                            have c39b0 : (((rd_T43 t147 x12_4).f3) == x8_13) = true := beq_iff_eq.mpr c39
                            have c39b1 : (((rd_T43 t147 x12_4).f3) != x8_13) = false := bne_eq_false_iff_eq.mpr c39
                            clear c39
                            have H' := Aside0.mk H
                            clear H
                            obtain ⟨Ao40, co40, eo40⟩ := Kd.R_slice HO_9.out
                            subst eo40
                            have p153 : 0 ≤ (x12_4 : Int) := of_decide_eq_true (by first | (with_reducible assumption) | assumption)
                            have q153 : x12_4 < (t147.length : Int) := of_decide_eq_true (by first | (with_reducible assumption) | assumption)
                            obtain ⟨ad153, e153, hx153_0, hx153_1, hx153_2, hx153_3⟩ := at_T43 (Kd.R_reads' HO_9.out).2.2 x12_4 p153 q153
                            cases e153
                            replace p153 := eq_true p153
                            replace q153 := eq_true q153
                            go_wp2
                            go_roundg k4
                            case measure => have := HJ2.out; have := HJ13.out; have := HJ26.out; have := HK4.out; omega
                            case rel => exact ⟨(wrap64 (x12_4 + 1)), (by first | rfl | (simp; done) | (simp [*]; done)), H', ⟨by have := HJ2.out; have := HJ13.out; have := HJ26.out; have := HK4.out; omega⟩, ⟨by (with_reducible repeat (first | apply Kd.R_alloc | apply Kd.R_drewN | apply Kd.R_drew)); exact HO_9.out⟩, ⟨by repeat (first | (with_reducible first | exact HB.out | apply below_alloc | apply pw_below_drewN | apply below_drew1) | exact HB.out)⟩⟩
                          · rw [if_neg c39] at H
                            exact absurd H (by simp)
                        · rw [if_neg c38] at H
                          exact absurd H (by simp)
                      · rw [if_neg c37] at H
                        have c37b0 : decide (x12_4 < (t147.length : Int)) = false := decide_eq_false c37
                        clear c37
                        replace H := Option.bind_eq_some_iff.mp H
                        obtain ⟨t154, A410, H⟩ := H
                        replace H : (some t154) = some r := H
                        have A41 := Aside0.mk A410
                        clear A410
                        obtain rfl := Option.some.inj H
                        obtain ⟨Ao42, co42, eo42⟩ := Kd.R_slice HO_9.out
                        subst eo42
                        go_wp2_with (first | ((with_reducible refine gate_callee (f := 9) rfl ?_); refine goesL_ (some 96) rfl rfl Tryd.func9 (by kernel_rfl) rfl #[] rfl (by (try simp only [List.map_toArray, List.map_cons, List.map_nil]); first | done | rfl | (simp only [List.length_drop, List.length_take]; rfl)) ?_; (with_reducible refine (emenderlaw28_awake.calls  t154 _ A41.out).mono ?_); rintro e w43 ⟨rfl, hb⟩; refine ⟨_, rfl, ?_⟩; have n0_ := Aside0.mk (Kd.R_below (by (with_reducible repeat (first | apply Kd.R_alloc | apply Kd.R_drewN | apply Kd.R_drew)); exact HO_9.out) hb); have n1_ := Aside0.mk (below_step (by repeat (first | (with_reducible first | exact HB.out | apply below_alloc | apply pw_below_drewN | apply below_drew1) | exact HB.out)) hb); clear HO_9; clear HB; have HO_9 := n0_; have HB := n1_; clear n0_ n1_; (try clear hb); (try clear hb2); (try clear hk); (try clear hi)))
                        go_ret
                        exact ⟨by first | rfl | (simp [errW_none, errW_some] <;> rfl) | (simp [*, errW_none, errW_some] <;> rfl), by repeat (first | (with_reducible first | exact HB.out | apply below_alloc | apply pw_below_drewN | apply below_drew1) | exact HB.out)⟩

/-- THE ONE PURE STATEMENT of emenderlaw28_CommonMarks: yours. -/
def emenderlaw28_CommonMarks.Pure : Prop := ∀ (l0 : List Int) (a1 : Int), l0.length ≤ maxLen → l0.length * 1 ≤ 140737488351232 → (∀ x ∈ l0, (Lit.int .u8 x).wf = true) → (Lit.int .u8 a1).wf = true → ∃ k, emenderlaw28_CommonMarks.f k l0 a1 = some true
theorem emenderlaw28_CommonMarks.walk (P : emenderlaw28_CommonMarks.Pure) (a0 : Option Addr) (len0 cap0 : Nat) (z0 : List Int) (a1 : Int) (w : World) (HT_ : Aside0 (Lib.Utf8Tabs 0 1 w)) (w0 : (a0 = none ∧ len0 = 0 ∧ cap0 = 0 ∧ z0 = []) ∨ ∃ x, a0 = some x ∧ len0 ≤ cap0 ∧ cap0 ≤ maxLen ∧ z0.length = cap0 ∧ (∀ i, i < z0.length → w.cell? (x.add i) = some (.int .u8 (z0.getD i 0))) ∧ ∀ n ∈ z0, (Lit.int .u8 n).wf = true) (y0 : len0 * 1 ≤ 140737488351232) (w1 : (Lit.int .u8 a1).wf = true) :
    Calls Tryd.prog 6 #[.slice a0 len0 cap0, .int .u8 a1] w fun e w' => e = .returned (.bool true) ∧ Below w.heap.size w w' := by
  obtain ⟨l0, rfl, hr0, hm0, hw0, hc0⟩ := ReadsInt.ofRowC w0
  obtain ⟨k, h⟩ := P l0 a1 hm0 y0 hw0 w1
  refine (emenderlaw28_CommonMarks.calls k _ _ l0 a1 true w HT_ (Kd.C_of_reads (d := (0 : Int)) (h1 := fun _ => rfl) hr0) hc0 h).mono ?_
  rintro e w' ⟨rfl, hd⟩
  exact ⟨rfl, hd⟩

end Go.Proofs.YtfnafjohfmlniaaDoor.PCb
