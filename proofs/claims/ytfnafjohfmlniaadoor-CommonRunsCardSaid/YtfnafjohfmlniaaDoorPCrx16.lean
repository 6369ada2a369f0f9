-- Written for this claim by a program (the kit's print, with hand-made contracts for what it does not take).
import Derived.Test.YtfnafjohfmlniaaDoorPCrx0
import Derived.Test.YtfnafjohfmlniaaDoorPCrx14
namespace Go.Proofs.YtfnafjohfmlniaaDoor.PCr
open Go.RowKit Go.Proofs.YtfnafjohfmlniaaDoorW.PrintWords Go.Proofs.YtfnafjohfmlniaaDoorW.PrintLast Go.Proofs.YtfnafjohfmlniaaDoorW.PrintMore
attribute [local go_sem] max2_int min2_int max_two min_two max_three min_three max_four min_four   -- for this text's walks alone
set_option linter.unusedVariables false
set_option linter.unusedSimpArgs false

/-! ### emenderref28_fence: function 42 -/
def emenderref28_fence.l0 : Nat → List Int → Int → Int → Option (Int)
  | 0, _, _, _ => none
  | k + 1, x0, x1, x2 => if x1 < (x0.length : Int) then (if 0 ≤ x1 then (if (rd x0 x1) = 96 then ((emenderref28_row.f k x0 x1).bind fun t128 => (if t128 = x2 then (some x1) else (emenderref28_fence.l0 k x0 (wrap64 (x1 + t128)) x2))) else (emenderref28_fence.l0 k x0 (wrap64 (x1 + 1)) x2)) else (none)) else (some (-1))
def emenderref28_fence.f (k : Nat) (l0 : List Int) (a1 : Int) (a2 : Int) : Option (Int) := emenderref28_fence.l0 k l0 a1 a2
theorem emenderref28_fence.mono_l : ∀ k, (∀ y0 y1 y2, LeO (emenderref28_fence.l0 k y0 y1 y2) (emenderref28_fence.l0 (k + 1) y0 y1 y2))
  | 0 => fun _ _ _ r h => by simp [emenderref28_fence.l0] at h
  | k + 1 => by
    have ih0 := emenderref28_fence.mono_l k
    · intro y0 y1 y2
      unfold emenderref28_fence.l0
      repeat' first
      | (with_reducible exact ih0 _ _ _)
      | (with_reducible exact emenderref28_row.mono _ _ _)
      | (with_reducible exact LeO.refl _)
      | (with_reducible exact LeO.none _)
      | (with_reducible refine LeO.ite ?_ ?_)
      | (with_reducible refine LeO.bind ?_ (fun _ => ?_))
      | exact ih0 _ _ _
      | exact emenderref28_row.mono _ _ _
      | exact LeO.none _
      | refine LeO.ite ?_ ?_
      | refine LeO.bind ?_ (fun _ => ?_)
theorem emenderref28_fence.mono : ∀ a0 a1 a2 k, LeO (emenderref28_fence.f k a0 a1 a2) (emenderref28_fence.f (k + 1) a0 a1 a2) := by
  intro a0 a1 a2 k
  have ih0 := emenderref28_fence.mono_l k
  unfold emenderref28_fence.f
  repeat' first
      | (with_reducible exact ih0 _ _ _)
      | (with_reducible exact emenderref28_row.mono _ _ _)
      | (with_reducible exact LeO.refl _)
      | (with_reducible exact LeO.none _)
      | (with_reducible refine LeO.ite ?_ ?_)
      | (with_reducible refine LeO.bind ?_ (fun _ => ?_))
      | exact ih0 _ _ _
      | exact emenderref28_row.mono _ _ _
      | exact LeO.none _
      | refine LeO.ite ?_ ?_
      | refine LeO.bind ?_ (fun _ => ?_)
set_option maxHeartbeats 8000000 in
set_option maxRecDepth 100000 in
theorem emenderref28_fence.calls (k : Nat) (A0 : Option Addr) (c0 : Nat) (l0 : List Int) (a1 : Int) (a2 : Int) (r : Int) (w : World) (hr0 : Kd.C (Kd.int .i64) w A0 l0.length l0) (hc0 : l0.length ≤ c0) (h : emenderref28_fence.f k l0 a1 a2 = some r) :
    Calls Tryd.prog 42 #[.slice A0 l0.length c0, .int .i64 a1, .int .i64 a2] w fun e w' => e = .returned (.int .i64 r) ∧ Drawn0 w w' := by
  have HR0 := Aside0.mk hr0
  have HC0 := Aside0.mk hc0
  clear hr0 hc0
  have H : (emenderref28_fence.l0 k l0 a1 a2) = some r := h
  clear h
  have H' := Aside0.mk H
  clear H
  go_enter Tryd.func42, Tryd.ntmps42
  go_wp2
  go_loopg [1] k (fun kq v1 w' => ∃ (x1_1 : Int), v1 = .int .i64 x1_1 ∧ Aside0 (emenderref28_fence.l0 kq l0 x1_1 a2 = some r) ∧ Aside0 (kq ≤ k) ∧ Drawn0 w w')
  case atStart => exact ⟨(a1), (by first | rfl | (simp; done) | (simp [*]; done)), H', ⟨Nat.le_refl _⟩, by repeat (first | exact Drawn0.refl _ | apply Drawn0.step)⟩
  case round =>
    clear H'
    try clear p2
    obtain ⟨x1_1, rfl, HA, HK1, ⟨m1, rfl⟩⟩ := hrel
    cases gk with
    | zero => exact absurd HA.out (by simp [emenderref28_fence.l0])
    | succ k1 =>
      have H := HA.out
      clear HA
      simp only [emenderref28_fence.l0] at H
      by_cases c4 : x1_1 < (l0.length : Int)
      · rw [if_pos c4] at H
        have c4b0 : decide (x1_1 < (l0.length : Int)) = true := decide_eq_true c4
        clear c4
        by_cases c5 : 0 ≤ x1_1
        · rw [if_pos c5] at H
          have c5b0 : decide (0 ≤ x1_1) = true := decide_eq_true c5
          clear c5
          by_cases c6 : (rd l0 x1_1) = 96
          · rw [if_pos c6] at H
            have c6b0 : ((rd l0 x1_1) == 96) = true := beq_iff_eq.mpr c6
            have c6b1 : ((rd l0 x1_1) != 96) = false := bne_eq_false_iff_eq.mpr c6
            clear c6
            replace H := Option.bind_eq_some_iff.mp H
            obtain ⟨t128, A70, H⟩ := H
            replace H : (if t128 = a2 then (some x1_1) else (emenderref28_fence.l0 k1 l0 (wrap64 (x1_1 + t128)) a2)) = some r := H
            have A7 := Aside0.mk A70
            clear A70
            by_cases c8 : t128 = a2
            · rw [if_pos c8] at H
              have c8b0 : (t128 == a2) = true := beq_iff_eq.mpr c8
              have c8b1 : (t128 != a2) = false := bne_eq_false_iff_eq.mpr c8
              clear c8
              obtain rfl := Option.some.inj H
              have p127 : 0 ≤ (x1_1 : Int) := of_decide_eq_true (by first | (with_reducible assumption) | assumption)
              have q127 : x1_1 < (l0.length : Int) := of_decide_eq_true (by first | (with_reducible assumption) | assumption)
              obtain ⟨ad127, e127, hx127_0⟩ := Kd.at_int HR0.out x1_1 p127 q127
              cases e127
              replace p127 := eq_true p127
              replace q127 := eq_true q127
              go_wp2_with (first | ((with_reducible refine gate_callee (f := 39) rfl ?_); refine goesL_ (some 21) rfl rfl Tryd.func39 (by kernel_rfl) rfl #[.slice (some ad127) l0.length c0, .int .i64 x1_1] rfl (by (try simp only [List.map_toArray, List.map_cons, List.map_nil]); first | done | rfl | (simp only [List.length_drop, List.length_take]; rfl)) ?_; (with_reducible refine (emenderref28_row.calls k1 _ _ l0 x1_1 t128 _ ?side1 ?side2 A7.out).mono ?_); (case side1 => repeat (first | exact HR0.out | (with_reducible refine Kd.C_alloc ?_ _) | (with_reducible refine Kd.C_drewN ?_ _) | (with_reducible refine Kd.C_drew ?_))); (case side2 => exact HC0.out); rintro e w' ⟨rfl, ⟨nd, rfl⟩⟩; refine ⟨_, rfl, ?_⟩))
              go_ret
              exact ⟨by first | rfl | (simp; done) | (simp [*]; done), by repeat (first | exact Drawn0.refl _ | apply Drawn0.step)⟩
            · rw [if_neg c8] at H
              have c8b0 : (t128 == a2) = false := beq_eq_false_iff_ne.mpr c8
              have c8b1 : (t128 != a2) = true := bne_iff_ne.mpr c8
              have H' := Aside0.mk H
              clear H
              have p127 : 0 ≤ (x1_1 : Int) := of_decide_eq_true (by first | (with_reducible assumption) | assumption)
              have q127 : x1_1 < (l0.length : Int) := of_decide_eq_true (by first | (with_reducible assumption) | assumption)
              obtain ⟨ad127, e127, hx127_0⟩ := Kd.at_int HR0.out x1_1 p127 q127
              cases e127
              replace p127 := eq_true p127
              replace q127 := eq_true q127
              go_wp2_with (first | ((with_reducible refine gate_callee (f := 39) rfl ?_); refine goesL_ (some 21) rfl rfl Tryd.func39 (by kernel_rfl) rfl #[.slice (some ad127) l0.length c0, .int .i64 x1_1] rfl (by (try simp only [List.map_toArray, List.map_cons, List.map_nil]); first | done | rfl | (simp only [List.length_drop, List.length_take]; rfl)) ?_; (with_reducible refine (emenderref28_row.calls k1 _ _ l0 x1_1 t128 _ ?side1 ?side2 A7.out).mono ?_); (case side1 => repeat (first | exact HR0.out | (with_reducible refine Kd.C_alloc ?_ _) | (with_reducible refine Kd.C_drewN ?_ _) | (with_reducible refine Kd.C_drew ?_))); (case side2 => exact HC0.out); rintro e w' ⟨rfl, ⟨nd, rfl⟩⟩; refine ⟨_, rfl, ?_⟩))
              go_roundg k1
              case measure => have := HK1.out; omega
              case rel => exact ⟨(wrap64 (x1_1 + t128)), (by first | rfl | (simp; done) | (simp [*]; done)), H', ⟨by have := HK1.out; omega⟩, by repeat (first | exact Drawn0.refl _ | apply Drawn0.step)⟩
          · rw [if_neg c6] at H
            have c6b0 : ((rd l0 x1_1) == 96) = false := beq_eq_false_iff_ne.mpr c6
            have c6b1 : ((rd l0 x1_1) != 96) = true := bne_iff_ne.mpr c6
            have H' := Aside0.mk H
            clear H
            have p127 : 0 ≤ (x1_1 : Int) := of_decide_eq_true (by first | (with_reducible assumption) | assumption)
            have q127 : x1_1 < (l0.length : Int) := of_decide_eq_true (by first | (with_reducible assumption) | assumption)
            obtain ⟨ad127, e127, hx127_0⟩ := Kd.at_int HR0.out x1_1 p127 q127
            cases e127
            replace p127 := eq_true p127
            replace q127 := eq_true q127
            go_wp2
            go_roundg k1
            case measure => have := HK1.out; omega
            case rel => exact ⟨(wrap64 (x1_1 + 1)), (by first | rfl | (simp; done) | (simp [*]; done)), H', ⟨by have := HK1.out; omega⟩, by repeat (first | exact Drawn0.refl _ | apply Drawn0.step)⟩
        · rw [if_neg c5] at H
          exact absurd H (by simp)
      · rw [if_neg c4] at H
        have c4b0 : decide (x1_1 < (l0.length : Int)) = false := decide_eq_false c4
        clear c4
        obtain rfl := Option.some.inj H
        go_wp2
        go_ret
        exact ⟨by first | rfl | (simp; done) | (simp [*]; done), by repeat (first | exact Drawn0.refl _ | apply Drawn0.step)⟩

/-! ### emenderref28_code: function 43 -/
/-! ### The document's code between its fences -/
def icut (p : List Int) (i j : Int) : List Int := (p.take j.toNat).drop i.toNat
theorem icut_length (p : List Int) (i j : Int) (hj : j ≤ (p.length : Int)) : (icut p i j).length = j.toNat - i.toNat := by
  unfold icut
  rw [List.length_drop, List.length_take]
  omega
theorem icut_go (A : Option Addr) (c : Nat) (p : List Int) (i j : Int) (h0 : 0 ≤ i) (h1 : i ≤ j) (h2 : j ≤ (p.length : Int)) (hc : p.length ≤ c) :
    ∃ A1 c1, (∀ W : World, (Instr.slice 58 (.slice A p.length c) (some (.int .i64 i)) (some (.int .i64 j)) none).run Tryd.prog W = .ok (.slice A1 (icut p i j).length c1) W) ∧ (∀ W : World, Kd.C (Kd.int .i64) W A p.length p → Kd.C (Kd.int .i64) W A1 (icut p i j).length (icut p i j)) ∧ (icut p i j).length ≤ c1 := by
  obtain ⟨i0_, hi0_, _, hsz_, _⟩ := info_parts info3
  have hcut := cut_mid (P := Tryd.prog) 58 3 .i64 .i64 Tryd.underlying58 hi0_ 1 hsz_ A p.length c i j h0 h1 h2 hc
  have hl := icut_length p i j h2
  rw [← hl] at hcut
  exact ⟨_, _, hcut, fun W hW => Kd.C_mid (lo := i.toNat) (hi := j.toNat) hW (by omega) (by omega) hc, by omega⟩
def emenderref28_code.all (q : List Int) : Bool := q.all (fun x => x == 32)
def emenderref28_code.bare (p : List Int) : Bool := decide (1 < (p.length : Int)) && (!(emenderref28_code.all p) && ((rd p 0 == 32) && (rd p ((p.length : Int) - 1) == 32)))
def emenderref28_code.f (p : List Int) : List Int := if emenderref28_code.bare p = true then icut p 1 ((p.length : Int) - 1) else p
def emenderref28_code.Post (A0 : Option Addr) (l0 : List Int) (w : World) (e : Ending) (w' : World) : Prop := ∃ (A' : Option Addr) (c' : Nat), e = .returned (.slice A' (emenderref28_code.f l0).length c') ∧ (∀ W : World, Kd.C (Kd.int .i64) W A0 l0.length l0 → Kd.C (Kd.int .i64) W A' (emenderref28_code.f l0).length (emenderref28_code.f l0)) ∧ (emenderref28_code.f l0).length ≤ c' ∧ Below w.heap.size w w'
set_option maxRecDepth 100000 in
set_option maxHeartbeats 8000000 in
theorem emenderref28_code.calls (A0 : Option Addr) (c0 : Nat) (l0 : List Int) (w : World) (hr0 : Kd.C (Kd.int .i64) w A0 l0.length l0) (hc0 : l0.length ≤ c0) (hl : l0.length ≤ 4000) :
    Calls Tryd.prog 43 #[.slice A0 l0.length c0] w (emenderref28_code.Post A0 l0 w) := by
  have HR := Aside0.mk hr0
  have HC := Aside0.mk hc0
  have HN := Aside0.mk hl
  clear hr0 hc0 hl
  go_enter Tryd.func43, Tryd.ntmps43
  go_wp2
  go_loopg [3, 4] l0.length (fun kq v3 v4 w' => ∃ k : Nat, v4 = .int .i64 (k : Int) ∧ v3 = .bool (emenderref28_code.all (l0.take k)) ∧ Aside0 (k + kq = l0.length ∧ Below w.heap.size w w'))
  case atStart => exact ⟨0, rfl, by rw [List.take_zero]; rfl, ⟨by omega, Below.refl _ _⟩⟩
  case round =>
    obtain ⟨k, rfl, rfl, HI⟩ := hrel
    by_cases c5 : (k : Int) < (l0.length : Int)
    · have c5b : decide ((k : Int) < (l0.length : Int)) = true := decide_eq_true c5
      have c5t := eq_true c5
      have k0t := eq_true (show (0 : Int) ≤ (k : Int) by omega)
      obtain ⟨ad, eA, x0⟩ := Kd.at_int (Kd.C_below HR.out HI.out.2) (k : Int) (by omega) c5
      subst eA
      rw [Int.toNat_natCast] at x0
      have hw3 : wrap64 ((k : Int) + 1) = ((k + 1 : Nat) : Int) := by have := HN.out; unfold wrap64; omega
      have NX := Aside0.mk (show emenderref28_code.all (l0.take (k + 1)) = (emenderref28_code.all (l0.take k) && (rd l0 (k : Int) == 32)) from by
        unfold emenderref28_code.all
        rw [List.take_add_one, List.all_append]
        simp [rd, List.getD_eq_getElem?_getD, List.getElem?_eq_getElem (show k < l0.length by omega)])
      have NK := Aside0.mk (And.intro HI.out.1 c5)
      have HB2 := Aside0.mk HI.out.2
      clear HI c5
      generalize emenderref28_code.all (l0.take k) = ot at *
      cases ot with
      | true =>
        go_wp2
        go_roundg (gk - 1)
        case measure => have := NK.out; omega
        case rel => exact ⟨k + 1, by rw [hw3], by rw [NX.out, Bool.true_and], ⟨by have := NK.out; omega, HB2.out⟩⟩
      | false =>
        go_wp2
        go_roundg (gk - 1)
        case measure => have := NK.out; omega
        case rel => exact ⟨k + 1, by rw [hw3], by rw [NX.out, Bool.false_and], ⟨by have := NK.out; omega, HB2.out⟩⟩
    · have c5b : decide ((k : Int) < (l0.length : Int)) = false := decide_eq_false c5
      have e : (l0.take k) = l0 := List.take_of_length_le (by omega)
      rw [e]
      have HB2 := Aside0.mk HI.out.2
      clear HI e
      obtain ⟨jm, hjm⟩ : ∃ x, x = (l0.length : Int) - 1 := ⟨_, rfl⟩
      have hwc : wrap64 ((l0.length : Int) - 1) = jm := by have := HN.out; unfold wrap64; omega
      have JM := Aside0.mk hjm
      have CF : Aside0 (emenderref28_code.f l0 = if (decide (1 < (l0.length : Int)) && (!(emenderref28_code.all l0) && ((rd l0 0 == 32) && (rd l0 jm == 32)))) = true then icut l0 1 jm else l0) := ⟨by rw [hjm]; rfl⟩
      have KEEP : Aside0 (emenderref28_code.f l0 = l0 → emenderref28_code.Post A0 l0 w (.returned (.slice A0 l0.length c0)) wr) := ⟨fun e => by
        unfold emenderref28_code.Post
        rw [e]
        exact ⟨A0, c0, rfl, fun W hW => hW, HC.out, HB2.out⟩⟩
      clear hjm
      generalize emenderref28_code.all l0 = ot at *
      by_cases d1 : 1 < (l0.length : Int)
      · have d1b : decide (1 < (l0.length : Int)) = true := decide_eq_true d1
        have i1 : (0 : Int) < (l0.length : Int) := by omega
        have j0 : 0 ≤ jm := by have := JM.out; omega
        have j1 : jm < (l0.length : Int) := by have := JM.out; omega
        obtain ⟨ad, eA, x0⟩ := Kd.at_int (Kd.C_below HR.out HB2.out) 0 (Int.le_refl 0) i1
        subst eA
        rw [show ad.add (0 : Int).toNat = ad from by simp [Addr.add]] at x0
        obtain ⟨ad_, eA, y0⟩ := Kd.at_int (Kd.C_below HR.out HB2.out) jm j0 j1
        cases eA
        obtain ⟨A1, c1, hcut, SEE, HC1⟩ := icut_go (some ad) c0 l0 1 jm (by decide) (by have := JM.out; omega) (by have := JM.out; omega) HC.out
        have i1n : 0 < l0.length := by omega
        have i1t := eq_true i1n
        have i1u := eq_true i1
        have j0t := eq_true j0
        have j1t := eq_true j1
        have S1 := Aside0.mk SEE
        have S2 := Aside0.mk HC1
        clear i1 i1n j0 j1 d1 SEE HC1
        cases ot with
        | true =>
          have E := Aside0.mk (KEEP.out (CF.out.trans (if_neg (by simp))))
          go_wp2
          go_ret
          exact E.out
        | false =>
          by_cases e1 : rd l0 0 = 32
          · have e1b : (rd l0 0 == 32) = true := beq_iff_eq.mpr e1
            by_cases e2 : rd l0 jm = 32
            · have e2b : (rd l0 jm == 32) = true := beq_iff_eq.mpr e2
              have E := Aside0.mk (show emenderref28_code.f l0 = icut l0 1 jm from CF.out.trans (if_pos (by rw [d1b, e1b, e2b]; rfl)))
              clear e1 e2 KEEP CF
              go_wp2
              go_ret
              unfold emenderref28_code.Post
              rw [E.out]
              exact ⟨A1, c1, rfl, S1.out, S2.out, HB2.out⟩
            · have e2b : (rd l0 jm == 32) = false := beq_eq_false_iff_ne.mpr e2
              have E := Aside0.mk (KEEP.out (CF.out.trans (if_neg (by rw [e2b]; simp))))
              clear e1 e2 KEEP CF
              go_wp2
              go_ret
              exact E.out
          · have e1b : (rd l0 0 == 32) = false := beq_eq_false_iff_ne.mpr e1
            have E := Aside0.mk (KEEP.out (CF.out.trans (if_neg (by rw [e1b]; simp))))
            clear e1 KEEP CF
            go_wp2
            go_ret
            exact E.out
      · have d1b : decide (1 < (l0.length : Int)) = false := decide_eq_false d1
        have E := Aside0.mk (KEEP.out (CF.out.trans (if_neg (by rw [d1b]; simp))))
        clear KEEP CF d1
        go_wp2
        go_ret
        exact E.out

/-! ### emenderref28_around: function 53 -/
def emenderref28_around.f (l0 : List Int) (a1 : Int) : Option (Int) := if a1 < 0 then (some 32) else (if a1 ≥ (l0.length : Int) then (some 32) else (if 0 ≤ a1 then (if a1 < (l0.length : Int) then (some (rd l0 a1)) else (none)) else (none)))
set_option maxHeartbeats 8000000 in
set_option maxRecDepth 100000 in
theorem emenderref28_around.calls (A0 : Option Addr) (c0 : Nat) (l0 : List Int) (a1 : Int) (r : Int) (w : World) (hr0 : Kd.C (Kd.int .i64) w A0 l0.length l0) (hc0 : l0.length ≤ c0) (h : emenderref28_around.f l0 a1 = some r) :
    Calls Tryd.prog 53 #[.slice A0 l0.length c0, .int .i64 a1] w fun e w' => e = .returned (.int .i64 r) ∧ Drawn0 w w' := by
  have HR0 := Aside0.mk hr0
  have HC0 := Aside0.mk hc0
  clear hr0 hc0
  have H : (if a1 < 0 then (some 32) else (if a1 ≥ (l0.length : Int) then (some 32) else (if 0 ≤ a1 then (if a1 < (l0.length : Int) then (some (rd l0 a1)) else (none)) else (none)))) = some r := h
  clear h
  by_cases c3 : a1 < 0
  · rw [if_pos c3] at H
    have c3b0 : decide (a1 < 0) = true := decide_eq_true c3
    clear c3
    obtain rfl := Option.some.inj H
    go_enter Tryd.func53, Tryd.ntmps53
    go_wp2
    go_ret
    exact ⟨by first | rfl | (simp; done) | (simp [*]; done), by repeat (first | exact Drawn0.refl _ | apply Drawn0.step)⟩
  · rw [if_neg c3] at H
    have c3b0 : decide (a1 < 0) = false := decide_eq_false c3
    clear c3
    by_cases c4 : a1 ≥ (l0.length : Int)
    · rw [if_pos c4] at H
      have c4b0 : decide ((l0.length : Int) ≤ a1) = true := decide_eq_true c4
      clear c4
      obtain rfl := Option.some.inj H
      go_enter Tryd.func53, Tryd.ntmps53
      go_wp2
      go_ret
      exact ⟨by first | rfl | (simp; done) | (simp [*]; done), by repeat (first | exact Drawn0.refl _ | apply Drawn0.step)⟩
    · rw [if_neg c4] at H
      have c4b0 : decide ((l0.length : Int) ≤ a1) = false := decide_eq_false c4
      clear c4
      by_cases c5 : 0 ≤ a1
      · rw [if_pos c5] at H
        have c5b0 : decide (0 ≤ a1) = true := decide_eq_true c5
        clear c5
        by_cases c6 : a1 < (l0.length : Int)
        · rw [if_pos c6] at H
          have c6b0 : decide (a1 < (l0.length : Int)) = true := decide_eq_true c6
          clear c6
          obtain rfl := Option.some.inj H
          have p129 : 0 ≤ (a1 : Int) := of_decide_eq_true (by first | (with_reducible assumption) | assumption)
          have q129 : a1 < (l0.length : Int) := of_decide_eq_true (by first | (with_reducible assumption) | assumption)
          obtain ⟨ad129, e129, hx129_0⟩ := Kd.at_int HR0.out a1 p129 q129
          cases e129
          replace p129 := eq_true p129
          replace q129 := eq_true q129
          go_enter Tryd.func53, Tryd.ntmps53
          go_wp2
          go_ret
          exact ⟨by first | rfl | (simp; done) | (simp [*]; done), by repeat (first | exact Drawn0.refl _ | apply Drawn0.step)⟩
        · rw [if_neg c6] at H
          exact absurd H (by simp)
      · rw [if_neg c5] at H
        exact absurd H (by simp)

/-! ### emenderref28_blank: function 54 -/
def emenderref28_blank.f (a0 : Int) : Option (Bool) := if a0 = 32 then (some true) else (some (a0 == 9))
set_option maxHeartbeats 8000000 in
set_option maxRecDepth 100000 in
theorem emenderref28_blank.calls (a0 : Int) (r : Bool) (w : World) (h : emenderref28_blank.f a0 = some r) :
    Calls Tryd.prog 54 #[.int .i64 a0] w fun e w' => e = .returned (.bool r) ∧ Drawn0 w w' := by
  have H : (if a0 = 32 then (some true) else (some (a0 == 9))) = some r := h
  clear h
  by_cases c2 : a0 = 32
  · rw [if_pos c2] at H
    have c2b0 : (a0 == 32) = true := beq_iff_eq.mpr c2
    have c2b1 : (a0 != 32) = false := bne_eq_false_iff_eq.mpr c2
    clear c2
    obtain rfl := Option.some.inj H
    go_enter Tryd.func54, Tryd.ntmps54
    go_wp2
    go_ret
    exact ⟨by first | rfl | (simp; done) | (simp [*]; done), by repeat (first | exact Drawn0.refl _ | apply Drawn0.step)⟩
  · rw [if_neg c2] at H
    have c2b0 : (a0 == 32) = false := beq_eq_false_iff_ne.mpr c2
    have c2b1 : (a0 != 32) = true := bne_iff_ne.mpr c2
    obtain rfl := Option.some.inj H
    go_enter Tryd.func54, Tryd.ntmps54
    go_wp2
    go_ret
    exact ⟨by first | rfl | (simp; done) | (simp [*]; done), by repeat (first | exact Drawn0.refl _ | apply Drawn0.step)⟩

end Go.Proofs.YtfnafjohfmlniaaDoor.PCr
