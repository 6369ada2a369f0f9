-- Written for this claim by a program (the kit's print, with hand-made contracts for what it does not take).
import Derived.Test.YtcoolajjjnkfpaaPPdx0
import Derived.Test.YtcoolajjjnkfpaaPPdx1
import Derived.Test.YtcoolajjjnkfpaaPPdx4
import Derived.Test.YtcoolajjjnkfpaaPPdx5
import Derived.Test.YtcoolajjjnkfpaaPPdx7
namespace Go.Proofs.Ytcoolajjjnkfpaa.PPd
open Go.RowKit Go.Proofs.YtcoolajjjnkfpaaW.PrintWords Go.Proofs.YtcoolajjjnkfpaaW.PrintLast Go.Proofs.YtcoolajjjnkfpaaW.PrintMore
attribute [local go_sem] max2_int min2_int max_two min_two max_three min_three max_four min_four   -- for this text's walks alone
set_option linter.unusedVariables false
set_option linter.unusedSimpArgs false

/-! ### emenderlaw08_PosAdds: function 8 -/
/-! ### Maps, one behind the other, one by one -/
def emenderlaw08_PosAdds.one (r : List S37) : MapOne := ⟨r, -1⟩
/-- What is kept: each map alone; none: the law ends. -/
def emenderlaw08_PosAdds.go (k : Nat) (l : List (List S37)) (side : Int) : Nat → Int → Int → Bool → Option (Option (Int × Bool × Int))
  | 0, _, _, _ => none
  | f + 1, i, x, gone =>
    if i < (l.length : Int) ∧ i < 40 then
      (if (rd_L2 l i).length ≤ 9223372036854775807 then (pos_Right.f k (rd_L2 l i)).bind fun q =>
        if q = true then
          (if (rd_L2 l i).length ≤ 4 then (pos_Map.f k (rd_L2 l i) x side).bind fun s => if s.2.2.2.2 = 0 then emenderlaw08_PosAdds.go k l side f (i + 1) s.1 (gone || s.2.1) else some none
           else none)
        else some none
       else some none)
    else some (some (x, gone, i))
def emenderlaw08_PosAdds.maps (l : List (List S37)) (n : Int) : List MapOne := (l.take n.toNat).map emenderlaw08_PosAdds.one
def emenderlaw08_PosAdds.fin (k : Nat) (l : List (List S37)) (p side : Int) (aw : Bool) : Option (Int × Bool × Int) → Option Bool
  | none => some aw
  | some (x, gone, n) => (pos_MMap.f k (emenderlaw08_PosAdds.maps l n) 0 p side).bind fun s =>
      if s.2.2.2.2 = 0 then (if s.1 = x ∧ s.2.1 = gone ∧ s.2.2.1 = -1 then some aw else none)
      else (if p < 0 ∨ 65536 < p ∨ 65536 < x then some aw else none)
def emenderlaw08_PosAdds.f (k : Nat) (l : List (List S37)) (p side : Int) : Option Bool :=
  (emenderlaw08_awake.f k).bind fun aw => (emenderlaw08_PosAdds.go k l side 41 0 p false).bind fun z => emenderlaw08_PosAdds.fin k l p side aw z
theorem emenderlaw08_PosAdds.maps_succ (l : List (List S37)) (i : Int) (h0 : 0 ≤ i) (h1 : i < (l.length : Int)) : emenderlaw08_PosAdds.maps l (i + 1) = emenderlaw08_PosAdds.maps l i ++ [⟨rd_L2 l i, -1⟩] := by
  unfold emenderlaw08_PosAdds.maps rd_L2
  rw [show (i + 1).toNat = i.toNat + 1 from by omega, List.take_add_one, List.map_append, List.getD_eq_getElem?_getD, List.getElem?_eq_getElem (by omega)]
  rfl
theorem emenderlaw08_PosAdds.maps_len (l : List (List S37)) (i : Int) (h0 : 0 ≤ i) (h1 : i ≤ (l.length : Int)) : ((emenderlaw08_PosAdds.maps l i).length : Int) = i := by
  unfold emenderlaw08_PosAdds.maps
  rw [List.length_map, List.length_take]
  omega
structure emenderlaw08_PosAdds.I (k b : Nat) (l : List (List S37)) (side : Int) (z : Option (Int × Bool × Int)) (w : World) (kq : Nat) (i x : Int) (gone : Bool) (W : World) : Prop where
  map : pos_M w.heap.size b (emenderlaw08_PosAdds.maps l i) W
  below : Below w.heap.size w W
  go : emenderlaw08_PosAdds.go k l side kq i x gone = some z
  lo : 0 ≤ i
  hi : i ≤ (l.length : Int)
  ho : i ≤ 40
set_option maxRecDepth 100000 in
set_option maxHeartbeats 8000000 in
theorem emenderlaw08_PosAdds.calls (k : Nat) (A0 : Option Addr) (c0 : Nat) (l0 : List (List S37)) (a1 a2 : Int) (r : Bool) (w : World) (hr0 : Kd.C (Kd.slice 37 k37) w A0 l0.length l0) (hc0 : l0.length ≤ c0) (h : emenderlaw08_PosAdds.f k l0 a1 a2 = some r) :
    Calls Try.prog 8 #[.slice A0 l0.length c0, .int .i64 a1, .int .i64 a2] w fun e w' => e = .returned (.bool r) ∧ Below w.heap.size w w' := by
  have hu24 := Try.underlying24
  unfold emenderlaw08_PosAdds.f at h
  obtain ⟨aw, haw, h⟩ := Option.bind_eq_some_iff.1 h
  obtain ⟨z, hz, hfin⟩ := Option.bind_eq_some_iff.1 h
  have HR := Aside0.mk hr0
  have HAW := Aside0.mk haw
  have HZ := Aside0.mk hz
  have HF := Aside0.mk hfin
  clear hr0 haw hz hfin h
  go_enter Try.func8, Try.ntmps8
  go_wp2_with fail
  refine (pos_New.calls _).mono ?_
  rintro e w1 ⟨b, rfl, hm, hb⟩
  have I0 := Aside0.mk (show emenderlaw08_PosAdds.I k b l0 a2 z w 41 0 a1 false w1 from ⟨hm, hb, HZ.out, by omega, by omega, by omega⟩)
  clear hm hb HZ
  go_wp2
  go_loopg [8, 9, 10] 41 (fun kq v8 v9 v10 w' => ∃ (i x : Int) (gone : Bool), v8 = .int .i64 x ∧ v9 = .bool gone ∧ v10 = .int .i64 i ∧ Aside0 (emenderlaw08_PosAdds.I k b l0 a2 z w kq i x gone w'))
  case atStart => exact ⟨_, _, _, rfl, rfl, rfl, I0⟩
  case round =>
    clear I0
    obtain ⟨i, x, gone, rfl, rfl, rfl, HI⟩ := hrel
    have hgo := HI.out.go
    cases gk with
    | zero => simp [emenderlaw08_PosAdds.go] at hgo
    | succ f =>
    simp only [emenderlaw08_PosAdds.go] at hgo
    by_cases c5 : i < (l0.length : Int)
    · have c5b : decide (i < (l0.length : Int)) = true := decide_eq_true c5
      by_cases c6 : i < 40
      · have c6b : decide (i < 40) = true := decide_eq_true c6
        rw [if_pos ⟨c5, c6⟩] at hgo
        have i0 : 0 ≤ i := HI.out.lo
        obtain ⟨ad, A1, c1, eA, el0, lc1, kc1⟩ := at_L2 (Kd.C_below HR.out HI.out.below) i i0 c5
        rw [if_pos (Kd.C_max kc1)] at hgo
        obtain ⟨q, hq, hgo⟩ := Option.bind_eq_some_iff.1 hgo
        subst eA
        have i0t := eq_true i0
        have c5t := eq_true c5
        have LC := Aside0.mk lc1
        have KC := Aside0.mk kc1
        have HQ := Aside0.mk hq
        have C5 := Aside0.mk (And.intro c5 c6)
        have ML := Aside0.mk (emenderlaw08_PosAdds.maps_len l0 i i0 HI.out.hi)
        clear lc1 kc1 hq i0 c5 c6
        cases q with
        | false =>
          rw [if_neg (by decide)] at hgo
          obtain rfl := Option.some.inj hgo
          have hr : aw = r := Option.some.inj HF.out
          clear hgo
          go_wp2_with fail
          refine (pos_Add.calls k w.heap.size b (emenderlaw08_PosAdds.maps l0 i) A1 c1 (rd_L2 l0 i) false w _ HI.out.map HI.out.below HI.out.below.size KC.out LC.out (fun h => by cases h) HQ.out).mono ?_
          rintro e w2 ⟨rfl, ⟨_, hb2⟩, hk2⟩
          have e4 : pos_Add.e false (emenderlaw08_PosAdds.maps l0 i) = 4 := rfl
          rw [e4]
          obtain ⟨ad_, A2, c2, eA2, el2, lc2, kc2⟩ := at_L2 (Kd.C_below HR.out hb2) i (of_eq_true i0t) C5.out.1
          cases eA2
          have LC2 := Aside0.mk lc2
          have KC2 := Aside0.mk kc2
          have HB2 := Aside0.mk hb2
          clear HI hb2 hk2 e4 lc2 kc2 el0
          go_wp2_with fail
          refine (pos_Right.calls k A2 c2 (rd_L2 l0 i) false _ KC2.out LC2.out HQ.out).mono ?_
          rintro e w3 ⟨rfl, hb3⟩
          have HB3 := Aside0.mk (below_step HB2.out hb3)
          clear HB2 hb3 el2
          go_wp2_with fail
          refine (emenderlaw08_awake.calls k aw _ HAW.out).mono ?_
          rintro e w4 ⟨rfl, hb4⟩
          have HB4 := Aside0.mk (below_step HB3.out hb4)
          clear HB3 hb4
          go_wp2
          go_ret
          exact ⟨by rw [← hr]; rfl, HB4.out⟩
        | true =>
          rw [if_pos rfl] at hgo
          by_cases c7 : (rd_L2 l0 i).length ≤ 4
          · rw [if_pos c7] at hgo
            obtain ⟨⟨q1, q2, q3, q4, q5⟩, hs, hgo⟩ := Option.bind_eq_some_iff.1 hgo
            dsimp only at hgo
            have HS := Aside0.mk hs
            have HG := Aside0.mk hgo
            clear hs hgo
            go_wp2_with fail
            refine (pos_Add.calls k w.heap.size b (emenderlaw08_PosAdds.maps l0 i) A1 c1 (rd_L2 l0 i) true w _ HI.out.map HI.out.below HI.out.below.size KC.out LC.out (fun _ => by omega) HQ.out).mono ?_
            rintro e w2 ⟨rfl, ⟨hm2, hb2⟩, hk2⟩
            have hlt : (emenderlaw08_PosAdds.maps l0 i).length < 4096 := by have := ML.out; have := C5.out.2; omega
            have e4 : pos_Add.e true (emenderlaw08_PosAdds.maps l0 i) = 0 := by unfold pos_Add.e pos_Add.ok; rw [if_pos (by simpa using hlt)]
            have e5 : pos_Add.l true (emenderlaw08_PosAdds.maps l0 i) (rd_L2 l0 i) = emenderlaw08_PosAdds.maps l0 (i + 1) := by unfold pos_Add.l pos_Add.ok; rw [if_pos (by simpa using hlt)]; exact (emenderlaw08_PosAdds.maps_succ l0 i (of_eq_true i0t) C5.out.1).symm
            rw [e4]
            rw [e5] at hm2
            obtain ⟨ad_, A2, c2, eA2, el2, lc2, kc2⟩ := at_L2 (Kd.C_below HR.out hb2) i (of_eq_true i0t) C5.out.1
            cases eA2
            have LC2 := Aside0.mk lc2
            have KC2 := Aside0.mk kc2
            have HB2 := Aside0.mk hb2
            have HM2 := Aside0.mk hm2
            have BND := Aside0.mk (And.intro HI.out.lo (And.intro HI.out.hi HI.out.ho))
            clear HI hb2 hk2 e4 e5 lc2 kc2 el0 hlt hm2 c7
            go_wp2_with fail
            refine (pos_Map.calls k A2 c2 (rd_L2 l0 i) x a2 q1 q2 q3 q4 q5 _ KC2.out LC2.out HS.out).mono ?_
            rintro e w3 ⟨rfl, hb3⟩
            have zb := blk_new w3 (.cells #[.int .i64 q1, .bool q2, .int .i64 q3, .int .i64 q4] 24)
            have z0 : (w3.alloc (.cells #[.int .i64 q1, .bool q2, .int .i64 q3, .int .i64 q4] 24)).cell? ⟨w3.heap.size, 0, none⟩ = some (.int .i64 q1) := (blk_cell zb 0).trans rfl
            have z1 : (w3.alloc (.cells #[.int .i64 q1, .bool q2, .int .i64 q3, .int .i64 q4] 24)).cell? ⟨w3.heap.size, 1, none⟩ = some (.bool q2) := (blk_cell zb 1).trans rfl
            have HB3 := Aside0.mk (below_alloc (below_step HB2.out hb3) (.cells #[.int .i64 q1, .bool q2, .int .i64 q3, .int .i64 q4] 24))
            have HM3 := Aside0.mk ((HM2.out.below hb3).below (below_alloc (Below.refl _ _) (.cells #[.int .i64 q1, .bool q2, .int .i64 q3, .int .i64 q4] 24)))
            clear HB2 HM2 hb3 el2 zb
            have WI := Aside0.mk (show wrap64 (i + 1) = i + 1 from by have := C5.out.2; have := BND.out.1; unfold wrap64; omega)
            by_cases c8 : q5 = 0
            · have c8b : (q5 != 0) = false := bne_eq_false_iff_eq.mpr c8
              have hgo := HG.out
              rw [if_pos c8] at hgo
              have HG2 := Aside0.mk hgo
              clear hgo HG c8
              cases gone with
              | true =>
                go_wp2
                go_roundg f
                case measure => omega
                case rel => exact ⟨i + 1, _, _, rfl, rfl, by rw [WI.out], ⟨HM3.out, HB3.out, by simpa using HG2.out, by have := BND.out; omega, by have := C5.out; omega, by have := C5.out; omega⟩⟩
              | false =>
                go_wp2
                go_roundg f
                case measure => omega
                case rel => exact ⟨i + 1, _, _, rfl, rfl, by rw [WI.out], ⟨HM3.out, HB3.out, by simpa using HG2.out, by have := BND.out; omega, by have := C5.out; omega, by have := C5.out; omega⟩⟩
            · have c8b : (q5 != 0) = true := bne_iff_ne.mpr c8
              have hgo := HG.out
              rw [if_neg c8] at hgo
              obtain rfl := Option.some.inj hgo
              have hr : aw = r := Option.some.inj HF.out
              clear hgo c8 HG
              go_wp2_with fail
              refine (emenderlaw08_awake.calls k aw _ HAW.out).mono ?_
              rintro e w4 ⟨rfl, hb4⟩
              have HB4 := Aside0.mk (below_step HB3.out hb4)
              clear HB3 hb4
              go_wp2
              go_ret
              exact ⟨by rw [← hr]; rfl, HB4.out⟩
          · rw [if_neg c7] at hgo
            cases hgo
      · have c6b : decide (i < 40) = false := decide_eq_false c6
        rw [if_neg (fun h => c6 h.2)] at hgo
        obtain rfl := Option.some.inj hgo
        have hf := HF.out
        simp only [emenderlaw08_PosAdds.fin] at hf
        obtain ⟨⟨q1, q2, q3, q4, q5⟩, hs, hf⟩ := Option.bind_eq_some_iff.1 hf
        dsimp only at hf
        have HS := Aside0.mk hs
        have HG := Aside0.mk hf
        have ML := Aside0.mk (emenderlaw08_PosAdds.maps_len l0 i HI.out.lo HI.out.hi)
        clear hs hf hgo c5 c6
        go_wp2_with fail
        refine (pos_MMap.calls k w.heap.size b (emenderlaw08_PosAdds.maps l0 i) 0 a1 a2 q1 q2 q3 q4 q5 _ HI.out.map (by have := ML.out; have := HI.out.ho; omega) (fun y hy => by obtain ⟨y2, _, rfl⟩ := List.mem_map.1 hy; have := ML.out; have := HI.out.lo; show (-1 : Int) < _; omega) HS.out).mono ?_
        rintro e w3 ⟨rfl, hb3⟩
        have zb := blk_new w3 (.cells #[.int .i64 q1, .bool q2, .int .i64 q3, .int .i64 q4] 24)
        have z0 : (w3.alloc (.cells #[.int .i64 q1, .bool q2, .int .i64 q3, .int .i64 q4] 24)).cell? ⟨w3.heap.size, 0, none⟩ = some (.int .i64 q1) := (blk_cell zb 0).trans rfl
        have z1 : (w3.alloc (.cells #[.int .i64 q1, .bool q2, .int .i64 q3, .int .i64 q4] 24)).cell? ⟨w3.heap.size, 1, none⟩ = some (.bool q2) := (blk_cell zb 1).trans rfl
        have z2 : (w3.alloc (.cells #[.int .i64 q1, .bool q2, .int .i64 q3, .int .i64 q4] 24)).cell? ⟨w3.heap.size, 2, none⟩ = some (.int .i64 q3) := (blk_cell zb 2).trans rfl
        have HB3 := Aside0.mk (below_alloc (below_step HI.out.below hb3) (.cells #[.int .i64 q1, .bool q2, .int .i64 q3, .int .i64 q4] 24))
        clear HI hb3 zb
        by_cases c8 : q5 = 0
        · have c8b : (q5 != 0) = false := bne_eq_false_iff_eq.mpr c8
          have hf := HG.out
          rw [if_pos c8] at hf
          by_cases c9 : q1 = x ∧ q2 = gone ∧ q3 = -1
          · rw [if_pos c9] at hf
            obtain rfl := Option.some.inj hf
            obtain ⟨rfl, rfl, rfl⟩ := c9
            clear hf c8 HG
            go_wp2_with fail
            refine (emenderlaw08_awake.calls k aw _ HAW.out).mono ?_
            rintro e w4 ⟨rfl, hb4⟩
            have HB4 := Aside0.mk (below_step HB3.out hb4)
            clear HB3 hb4
            go_wp2
            go_ret
            exact ⟨rfl, HB4.out⟩
          · rw [if_neg c9] at hf
            cases hf
        · have c8b : (q5 != 0) = true := bne_iff_ne.mpr c8
          have hf := HG.out
          rw [if_neg c8] at hf
          by_cases c9 : a1 < 0 ∨ 65536 < a1 ∨ 65536 < x
          · rw [if_pos c9] at hf
            obtain rfl := Option.some.inj hf
            clear hf c8 HG
            by_cases d1 : a1 < 0
            · have d1b : decide (a1 < 0) = true := decide_eq_true d1
              clear c9 d1
              go_wp2_with fail
              refine (emenderlaw08_awake.calls k aw _ HAW.out).mono ?_
              rintro e w4 ⟨rfl, hb4⟩
              have HB4 := Aside0.mk (below_step HB3.out hb4)
              clear HB3 hb4
              go_wp2
              go_ret
              exact ⟨rfl, HB4.out⟩
            · have d1b : decide (a1 < 0) = false := decide_eq_false d1
              by_cases d2 : 65536 < a1
              · have d2b : decide (65536 < a1) = true := decide_eq_true d2
                clear c9 d1 d2
                go_wp2_with fail
                refine (emenderlaw08_awake.calls k aw _ HAW.out).mono ?_
                rintro e w4 ⟨rfl, hb4⟩
                have HB4 := Aside0.mk (below_step HB3.out hb4)
                clear HB3 hb4
                go_wp2
                go_ret
                exact ⟨rfl, HB4.out⟩
              · have d2b : decide (65536 < a1) = false := decide_eq_false d2
                have d3b : decide (65536 < x) = true := decide_eq_true (by omega)
                clear c9 d1 d2
                go_wp2_with fail
                refine (emenderlaw08_awake.calls k aw _ HAW.out).mono ?_
                rintro e w4 ⟨rfl, hb4⟩
                have HB4 := Aside0.mk (below_step HB3.out hb4)
                clear HB3 hb4
                go_wp2
                go_ret
                exact ⟨rfl, HB4.out⟩
          · rw [if_neg c9] at hf
            cases hf
    · have c5b : decide (i < (l0.length : Int)) = false := decide_eq_false c5
      rw [if_neg (fun h => c5 h.1)] at hgo
      obtain rfl := Option.some.inj hgo
      have hf := HF.out
      simp only [emenderlaw08_PosAdds.fin] at hf
      obtain ⟨⟨q1, q2, q3, q4, q5⟩, hs, hf⟩ := Option.bind_eq_some_iff.1 hf
      dsimp only at hf
      have HS := Aside0.mk hs
      have HG := Aside0.mk hf
      have ML := Aside0.mk (emenderlaw08_PosAdds.maps_len l0 i HI.out.lo HI.out.hi)
      clear hs hf hgo c5
      go_wp2_with fail
      refine (pos_MMap.calls k w.heap.size b (emenderlaw08_PosAdds.maps l0 i) 0 a1 a2 q1 q2 q3 q4 q5 _ HI.out.map (by have := ML.out; have := HI.out.ho; omega) (fun y hy => by obtain ⟨y2, _, rfl⟩ := List.mem_map.1 hy; have := ML.out; have := HI.out.lo; show (-1 : Int) < _; omega) HS.out).mono ?_
      rintro e w3 ⟨rfl, hb3⟩
      have zb := blk_new w3 (.cells #[.int .i64 q1, .bool q2, .int .i64 q3, .int .i64 q4] 24)
      have z0 : (w3.alloc (.cells #[.int .i64 q1, .bool q2, .int .i64 q3, .int .i64 q4] 24)).cell? ⟨w3.heap.size, 0, none⟩ = some (.int .i64 q1) := (blk_cell zb 0).trans rfl
      have z1 : (w3.alloc (.cells #[.int .i64 q1, .bool q2, .int .i64 q3, .int .i64 q4] 24)).cell? ⟨w3.heap.size, 1, none⟩ = some (.bool q2) := (blk_cell zb 1).trans rfl
      have z2 : (w3.alloc (.cells #[.int .i64 q1, .bool q2, .int .i64 q3, .int .i64 q4] 24)).cell? ⟨w3.heap.size, 2, none⟩ = some (.int .i64 q3) := (blk_cell zb 2).trans rfl
      have HB3 := Aside0.mk (below_alloc (below_step HI.out.below hb3) (.cells #[.int .i64 q1, .bool q2, .int .i64 q3, .int .i64 q4] 24))
      clear HI hb3 zb
      by_cases c8 : q5 = 0
      · have c8b : (q5 != 0) = false := bne_eq_false_iff_eq.mpr c8
        have hf := HG.out
        rw [if_pos c8] at hf
        by_cases c9 : q1 = x ∧ q2 = gone ∧ q3 = -1
        · rw [if_pos c9] at hf
          obtain rfl := Option.some.inj hf
          obtain ⟨rfl, rfl, rfl⟩ := c9
          clear hf c8 HG
          go_wp2_with fail
          refine (emenderlaw08_awake.calls k aw _ HAW.out).mono ?_
          rintro e w4 ⟨rfl, hb4⟩
          have HB4 := Aside0.mk (below_step HB3.out hb4)
          clear HB3 hb4
          go_wp2
          go_ret
          exact ⟨rfl, HB4.out⟩
        · rw [if_neg c9] at hf
          cases hf
      · have c8b : (q5 != 0) = true := bne_iff_ne.mpr c8
        have hf := HG.out
        rw [if_neg c8] at hf
        by_cases c9 : a1 < 0 ∨ 65536 < a1 ∨ 65536 < x
        · rw [if_pos c9] at hf
          obtain rfl := Option.some.inj hf
          clear hf c8 HG
          by_cases d1 : a1 < 0
          · have d1b : decide (a1 < 0) = true := decide_eq_true d1
            clear c9 d1
            go_wp2_with fail
            refine (emenderlaw08_awake.calls k aw _ HAW.out).mono ?_
            rintro e w4 ⟨rfl, hb4⟩
            have HB4 := Aside0.mk (below_step HB3.out hb4)
            clear HB3 hb4
            go_wp2
            go_ret
            exact ⟨rfl, HB4.out⟩
          · have d1b : decide (a1 < 0) = false := decide_eq_false d1
            by_cases d2 : 65536 < a1
            · have d2b : decide (65536 < a1) = true := decide_eq_true d2
              clear c9 d1 d2
              go_wp2_with fail
              refine (emenderlaw08_awake.calls k aw _ HAW.out).mono ?_
              rintro e w4 ⟨rfl, hb4⟩
              have HB4 := Aside0.mk (below_step HB3.out hb4)
              clear HB3 hb4
              go_wp2
              go_ret
              exact ⟨rfl, HB4.out⟩
            · have d2b : decide (65536 < a1) = false := decide_eq_false d2
              have d3b : decide (65536 < x) = true := decide_eq_true (by omega)
              clear c9 d1 d2
              go_wp2_with fail
              refine (emenderlaw08_awake.calls k aw _ HAW.out).mono ?_
              rintro e w4 ⟨rfl, hb4⟩
              have HB4 := Aside0.mk (below_step HB3.out hb4)
              clear HB3 hb4
              go_wp2
              go_ret
              exact ⟨rfl, HB4.out⟩
        · rw [if_neg c9] at hf
          cases hf

end Go.Proofs.Ytcoolajjjnkfpaa.PPd
