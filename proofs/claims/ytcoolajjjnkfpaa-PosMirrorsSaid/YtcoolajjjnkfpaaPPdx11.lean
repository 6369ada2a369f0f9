-- Written for this claim by a program (the kit's print, with hand-made contracts for what it does not take).
import Derived.Test.YtcoolajjjnkfpaaPPdx0
import Derived.Test.YtcoolajjjnkfpaaPPdx1
import Derived.Test.YtcoolajjjnkfpaaPPdx5
import Derived.Test.YtcoolajjjnkfpaaPPdx7
import Derived.Test.YtcoolajjjnkfpaaPPdx9
import Derived.Test.YtcoolajjjnkfpaaPPdx10
namespace Go.Proofs.Ytcoolajjjnkfpaa.PPd
open Go.RowKit Go.Proofs.YtcoolajjjnkfpaaW.PrintWords Go.Proofs.YtcoolajjjnkfpaaW.PrintLast Go.Proofs.YtcoolajjjnkfpaaW.PrintMore
attribute [local go_sem] max2_int min2_int max_two min_two max_three min_three max_four min_four   -- for this text's walks alone
set_option linter.unusedVariables false
set_option linter.unusedSimpArgs false

/-! ### emenderlaw08_PosMirrors: function 11 -/
/-! ### A map and, as its mirror, the map turned round -/
def emenderlaw08_PosMirrors.bad (e a b c p : Int) : Bool := (e != 0) || (decide (10000 < a) || (decide (10000 < b) || (decide (10000 < c) || (decide (p < 0) || decide (30000 < p)))))
def emenderlaw08_PosMirrors.f (k : Nat) (a0_0 a0_1 a0_2 a1 a2 : Int) : Option Bool :=
  (emenderlaw08_awake.f k).bind fun aw => (pos_Invert.f k [(⟨a0_0, a0_1, a0_2⟩ : S37)]).bind fun x =>
    if emenderlaw08_PosMirrors.bad x.2 a0_0 a0_1 a0_2 a1 = true then some aw
    else if pos_Right.f k [(⟨a0_0, a0_1, a0_2⟩ : S37)] = some true ∧ pos_Right.f k x.1 = some true ∧ x.1.length ≤ 4 ∧ pos_MMap.f k [⟨[(⟨a0_0, a0_1, a0_2⟩ : S37)], 1⟩, ⟨x.1, 0⟩] 0 a1 a2 = some (a1, false, -1, 0, 0) then some aw
    else none
set_option maxRecDepth 100000 in
set_option maxHeartbeats 8000000 in
theorem emenderlaw08_PosMirrors.calls (k : Nat) (a0_0 a0_1 a0_2 a1 a2 : Int) (r : Bool) (w : World) (h : emenderlaw08_PosMirrors.f k a0_0 a0_1 a0_2 a1 a2 = some r) :
    Calls Try.prog 11 #[.agg #[.int .i64 a0_0, .int .i64 a0_1, .int .i64 a0_2], .int .i64 a1, .int .i64 a2] w fun e w' => e = .returned (.bool r) ∧ Below w.heap.size w w' := by
  have hu24 := Try.underlying24
  have hu37 := Try.underlying37
  unfold emenderlaw08_PosMirrors.f at h
  obtain ⟨aw, haw, h⟩ := Option.bind_eq_some_iff.1 h
  obtain ⟨⟨back, ee⟩, hinv, h⟩ := Option.bind_eq_some_iff.1 h
  dsimp only at h
  have HAW := Aside0.mk haw
  have HINV := Aside0.mk hinv
  have HF := Aside0.mk h
  clear haw hinv h
  have z37 : (w.alloc (.cells #[.int .i64 a0_0, .int .i64 a0_1, .int .i64 a0_2] 37)).heap[w.heap.size]? = some (.cells #[.int .i64 a0_0, .int .i64 a0_1, .int .i64 a0_2] 37 (0, 0)) := blk_new _ _
  have hx0 : (w.alloc (.cells #[.int .i64 a0_0, .int .i64 a0_1, .int .i64 a0_2] 37)).cell? ⟨w.heap.size, 0, none⟩ = some (.int .i64 a0_0) := (blk_cell z37 0).trans rfl
  have hx1 : (w.alloc (.cells #[.int .i64 a0_0, .int .i64 a0_1, .int .i64 a0_2] 37)).cell? ⟨w.heap.size, 1, none⟩ = some (.int .i64 a0_1) := (blk_cell z37 1).trans rfl
  have hx2 : (w.alloc (.cells #[.int .i64 a0_0, .int .i64 a0_1, .int .i64 a0_2] 37)).cell? ⟨w.heap.size, 2, none⟩ = some (.int .i64 a0_2) := (blk_cell z37 2).trans rfl
  have Z := Aside0.mk z37
  have HB := Aside0.mk (below_alloc (Below.refl w.heap.size w) (.cells #[.int .i64 a0_0, .int .i64 a0_1, .int .i64 a0_2] 37))
  clear z37
  go_enter Try.func11, Try.ntmps11
  go_wp2_with (first | ((with_reducible refine gate_dst (N := 17) rfl ?_); refine Kd.R_lit k37 _ 37 ?hg (N := 17) ?hd (xs := [(⟨a0_0, a0_1, a0_2⟩ : S37)]) (inner := [.int .i64 a0_0, .int .i64 a0_1, .int .i64 a0_2]) (ok := fun _ => True) (okp := fun _ => True) ?hr ?hp (fun _ hk => hk) trivial (Below.refl _ _) (Nat.le_refl _) (by simp) ?_; (case hd => rfl); (case hg => rfl); (case hr => first | (go_simp; done) | (go_simp; rfl)); (case hp => exact (Reps.c3 (show Kd.M k37 _ _ _ (⟨a0_0, a0_1, a0_2⟩ : S37) [.int .i64 a0_0, .int .i64 a0_1, .int .i64 a0_2] from (k37_mkM _ _ _ (⟨a0_0, a0_1, a0_2⟩ : S37))) (Reps.none _ _))); intro v17 w3 ho hb hg_ hnew_; clear hg_ hnew_; have Z3 := Aside0.mk (blk_below Z.out hb); have HB3 := Aside0.mk (below_step HB.out hb); obtain ⟨Am, cm, hv17, hlm, hCm⟩ := Kd.R_reads ho; subst hv17; have CM := Aside0.mk hCm; have LM := Aside0.mk hlm; clear ho hb hlm hCm hx0 hx1 hx2 Z HB))
  refine (pos_Invert.calls k Am cm [(⟨a0_0, a0_1, a0_2⟩ : S37)] back ee _ CM.out LM.out HINV.out).mono ?_
  rintro e w4 ⟨v8, rfl, ho, hb⟩
  have Z4 := Aside0.mk (blk_below Z3.out hb)
  have HB4 := Aside0.mk (below_step HB3.out hb)
  have CM4 := Aside0.mk (Kd.C_below CM.out hb)
  obtain ⟨Ab, cb, hv8, hlb, hCb⟩ := Kd.R_reads ho
  subst hv8
  have CB4 := Aside0.mk hCb
  have LB := Aside0.mk hlb
  clear ho hb hlb hCb Z3 HB3 CM
  go_wp2_with fail
  refine (pos_New.calls _).mono ?_
  rintro e w5 ⟨b, rfl, hm, hb⟩
  have z37 := blk_below Z4.out hb
  have hx0 : w5.cell? ⟨w.heap.size, 0, none⟩ = some (.int .i64 a0_0) := (blk_cell z37 0).trans rfl
  have hx1 : w5.cell? ⟨w.heap.size, 1, none⟩ = some (.int .i64 a0_1) := (blk_cell z37 1).trans rfl
  have hx2 : w5.cell? ⟨w.heap.size, 2, none⟩ = some (.int .i64 a0_2) := (blk_cell z37 2).trans rfl
  have HB5 := Aside0.mk hb
  have HM5 := Aside0.mk hm
  clear z37 Z4 hm hb
  by_cases m0 : ee = 0
  · have m0b : (ee != 0) = false := bne_eq_false_iff_eq.mpr m0
    by_cases m1 : 10000 < a0_0
    · have m1b : decide (10000 < a0_0) = true := decide_eq_true m1
      have hf := HF.out
      rw [if_pos (show emenderlaw08_PosMirrors.bad ee a0_0 a0_1 a0_2 a1 = true by unfold emenderlaw08_PosMirrors.bad; rw [m0b, m1b]; rfl)] at hf
      obtain rfl := Option.some.inj hf
      clear hf HF m0 m1
      go_wp2_with fail
      refine (emenderlaw08_awake.calls k aw _ HAW.out).mono ?_
      rintro e w6 ⟨rfl, hb⟩
      have HB6 := Aside0.mk (below_step (below_step HB4.out HB5.out) hb)
      clear hb
      go_wp2
      go_ret
      exact ⟨rfl, HB6.out⟩
    · have m1b : decide (10000 < a0_0) = false := decide_eq_false m1
      by_cases m2 : 10000 < a0_1
      · have m2b : decide (10000 < a0_1) = true := decide_eq_true m2
        have hf := HF.out
        rw [if_pos (show emenderlaw08_PosMirrors.bad ee a0_0 a0_1 a0_2 a1 = true by unfold emenderlaw08_PosMirrors.bad; rw [m0b, m1b, m2b]; rfl)] at hf
        obtain rfl := Option.some.inj hf
        clear hf HF m0 m1 m2
        go_wp2_with fail
        refine (emenderlaw08_awake.calls k aw _ HAW.out).mono ?_
        rintro e w6 ⟨rfl, hb⟩
        have HB6 := Aside0.mk (below_step (below_step HB4.out HB5.out) hb)
        clear hb
        go_wp2
        go_ret
        exact ⟨rfl, HB6.out⟩
      · have m2b : decide (10000 < a0_1) = false := decide_eq_false m2
        by_cases m3 : 10000 < a0_2
        · have m3b : decide (10000 < a0_2) = true := decide_eq_true m3
          have hf := HF.out
          rw [if_pos (show emenderlaw08_PosMirrors.bad ee a0_0 a0_1 a0_2 a1 = true by unfold emenderlaw08_PosMirrors.bad; rw [m0b, m1b, m2b, m3b]; rfl)] at hf
          obtain rfl := Option.some.inj hf
          clear hf HF m0 m1 m2 m3
          go_wp2_with fail
          refine (emenderlaw08_awake.calls k aw _ HAW.out).mono ?_
          rintro e w6 ⟨rfl, hb⟩
          have HB6 := Aside0.mk (below_step (below_step HB4.out HB5.out) hb)
          clear hb
          go_wp2
          go_ret
          exact ⟨rfl, HB6.out⟩
        · have m3b : decide (10000 < a0_2) = false := decide_eq_false m3
          by_cases m4 : a1 < 0
          · have m4b : decide (a1 < 0) = true := decide_eq_true m4
            have hf := HF.out
            rw [if_pos (show emenderlaw08_PosMirrors.bad ee a0_0 a0_1 a0_2 a1 = true by unfold emenderlaw08_PosMirrors.bad; rw [m0b, m1b, m2b, m3b, m4b]; rfl)] at hf
            obtain rfl := Option.some.inj hf
            clear hf HF m0 m1 m2 m3 m4
            go_wp2_with fail
            refine (emenderlaw08_awake.calls k aw _ HAW.out).mono ?_
            rintro e w6 ⟨rfl, hb⟩
            have HB6 := Aside0.mk (below_step (below_step HB4.out HB5.out) hb)
            clear hb
            go_wp2
            go_ret
            exact ⟨rfl, HB6.out⟩
          · have m4b : decide (a1 < 0) = false := decide_eq_false m4
            by_cases m5 : 30000 < a1
            · have m5b : decide (30000 < a1) = true := decide_eq_true m5
              have hf := HF.out
              rw [if_pos (show emenderlaw08_PosMirrors.bad ee a0_0 a0_1 a0_2 a1 = true by unfold emenderlaw08_PosMirrors.bad; rw [m0b, m1b, m2b, m3b, m4b, m5b]; rfl)] at hf
              obtain rfl := Option.some.inj hf
              clear hf HF m0 m1 m2 m3 m4 m5
              go_wp2_with fail
              refine (emenderlaw08_awake.calls k aw _ HAW.out).mono ?_
              rintro e w6 ⟨rfl, hb⟩
              have HB6 := Aside0.mk (below_step (below_step HB4.out HB5.out) hb)
              clear hb
              go_wp2
              go_ret
              exact ⟨rfl, HB6.out⟩
            · have m5b : decide (30000 < a1) = false := decide_eq_false m5
              have hf := HF.out
              rw [if_neg (show ¬ emenderlaw08_PosMirrors.bad ee a0_0 a0_1 a0_2 a1 = true by unfold emenderlaw08_PosMirrors.bad; rw [m0b, m1b, m2b, m3b, m4b, m5b]; decide)] at hf
              by_cases hg : pos_Right.f k [(⟨a0_0, a0_1, a0_2⟩ : S37)] = some true ∧ pos_Right.f k back = some true ∧ back.length ≤ 4 ∧ pos_MMap.f k [⟨[(⟨a0_0, a0_1, a0_2⟩ : S37)], 1⟩, ⟨back, 0⟩] 0 a1 a2 = some (a1, false, -1, 0, 0)
              · rw [if_pos hg] at hf
                obtain rfl := Option.some.inj hf
                have G := Aside0.mk hg
                clear hf HF hg m0 m1 m2 m3 m4 m5
                skip
                go_wp2_with fail
                refine (pos_Add.calls k w4.heap.size b [] Am cm [(⟨a0_0, a0_1, a0_2⟩ : S37)] true w4 _ HM5.out HB5.out HB5.out.size (Kd.C_below CM4.out HB5.out) LM.out (fun _ => by simp) G.out.1).mono ?_
                rintro e w6 ⟨rfl, ⟨hm, hb⟩, hk⟩
                have HM6 := Aside0.mk (show pos_M w4.heap.size b [⟨[(⟨a0_0, a0_1, a0_2⟩ : S37)], -1⟩] w6 from hm)
                have HB6 := Aside0.mk hb
                rw [show pos_Add.e true [] = 0 from rfl]
                clear hm hb hk HM5 HB5 hx0 hx1 hx2
                go_wp2_with fail
                refine (pos_Add.calls k w4.heap.size b [⟨[(⟨a0_0, a0_1, a0_2⟩ : S37)], -1⟩] Ab cb back true w4 _ HM6.out HB6.out HB6.out.size (Kd.C_below CB4.out HB6.out) LB.out (fun _ => by have := G.out.2.2.1; omega) G.out.2.1).mono ?_
                rintro e w7 ⟨rfl, ⟨hm, hb⟩, hk⟩
                have HM7 := Aside0.mk (show pos_M w4.heap.size b [⟨[(⟨a0_0, a0_1, a0_2⟩ : S37)], -1⟩, ⟨back, -1⟩] w7 from hm)
                have HB7 := Aside0.mk hb
                rw [show pos_Add.e true [(⟨[(⟨a0_0, a0_1, a0_2⟩ : S37)], -1⟩ : MapOne)] = 0 from rfl]
                clear hm hb hk HM6 HB6
                go_wp2_with fail
                refine (pos_Mirror.calls w4.heap.size b [⟨[(⟨a0_0, a0_1, a0_2⟩ : S37)], -1⟩, ⟨back, -1⟩] 0 1 w4 _ HM7.out HB7.out).mono ?_
                rintro e w8 ⟨rfl, hm, hb, hk⟩
                have HM8 := Aside0.mk (show pos_M w4.heap.size b [⟨[(⟨a0_0, a0_1, a0_2⟩ : S37)], 1⟩, ⟨back, 0⟩] w8 from hm)
                have HB8 := Aside0.mk hb
                rw [show pos_Mirror.e [⟨[(⟨a0_0, a0_1, a0_2⟩ : S37)], -1⟩, ⟨back, -1⟩] 0 1 = 0 from rfl]
                clear hm hb hk HM7 HB7
                go_wp2_with fail
                refine (pos_MMap.calls k w4.heap.size b [⟨[(⟨a0_0, a0_1, a0_2⟩ : S37)], 1⟩, ⟨back, 0⟩] 0 a1 a2 a1 false (-1) 0 0 _ HM8.out (by simp) (by simp) G.out.2.2.2).mono ?_
                rintro e w9 ⟨rfl, hb9⟩
                have zb := blk_new w9 (.cells #[.int .i64 a1, .bool false, .int .i64 (-1), .int .i64 0] 24)
                have z0 : (w9.alloc (.cells #[.int .i64 a1, .bool false, .int .i64 (-1), .int .i64 0] 24)).cell? ⟨w9.heap.size, 0, none⟩ = some (.int .i64 a1) := (blk_cell zb 0).trans rfl
                have z1 : (w9.alloc (.cells #[.int .i64 a1, .bool false, .int .i64 (-1), .int .i64 0] 24)).cell? ⟨w9.heap.size, 1, none⟩ = some (.bool false) := (blk_cell zb 1).trans rfl
                have z2 : (w9.alloc (.cells #[.int .i64 a1, .bool false, .int .i64 (-1), .int .i64 0] 24)).cell? ⟨w9.heap.size, 2, none⟩ = some (.int .i64 (-1)) := (blk_cell zb 2).trans rfl
                have HB9 := Aside0.mk (below_alloc (below_step (below_step HB4.out HB8.out) hb9) (.cells #[.int .i64 a1, .bool false, .int .i64 (-1), .int .i64 0] 24))
                clear hb9 zb HB8 HM8
                go_wp2_with fail
                refine (emenderlaw08_awake.calls k aw _ HAW.out).mono ?_
                rintro e w10 ⟨rfl, hb⟩
                have HB10 := Aside0.mk (below_step HB9.out hb)
                clear hb HB9
                go_wp2
                go_ret
                exact ⟨rfl, HB10.out⟩
              · rw [if_neg hg] at hf
                cases hf
  · have m0b : (ee != 0) = true := bne_iff_ne.mpr m0
    have hf := HF.out
    rw [if_pos (show emenderlaw08_PosMirrors.bad ee a0_0 a0_1 a0_2 a1 = true by unfold emenderlaw08_PosMirrors.bad; rw [m0b]; rfl)] at hf
    obtain rfl := Option.some.inj hf
    clear hf HF m0
    go_wp2_with fail
    refine (emenderlaw08_awake.calls k aw _ HAW.out).mono ?_
    rintro e w6 ⟨rfl, hb⟩
    have HB6 := Aside0.mk (below_step (below_step HB4.out HB5.out) hb)
    clear hb
    go_wp2
    go_ret
    exact ⟨rfl, HB6.out⟩

-- NOT PRINTED: function 26 (pos_Mapping_Len)

end Go.Proofs.Ytcoolajjjnkfpaa.PPd
