-- Written for this claim by a program (the kit's print, with hand-made contracts for what it does not take).
import Derived.Test.YtebbngeamnpgjaaDoorPIax0
import Derived.Test.YtebbngeamnpgjaaDoorPIax9
namespace Go.Proofs.YtebbngeamnpgjaaDoor.PIa
open Go.RowKit Go.Proofs.YtebbngeamnpgjaaDoorW.PrintWords Go.Proofs.YtebbngeamnpgjaaDoorW.PrintLast Go.Proofs.YtebbngeamnpgjaaDoorW.PrintMore
attribute [local go_sem] max2_int min2_int max_two min_two max_three min_three max_four min_four   -- for this text's walks alone
set_option linter.unusedVariables false
set_option linter.unusedSimpArgs false

/-! ### inline_Line: function 18 -/

def inline_Line.esc (c : Int) : List UInt8 := if c = 92 ∨ c = 96 ∨ c = 42 ∨ c = 95 then [92] else []
def inline_Line.go : List S36 → Int → Int → List UInt8
  | [], set, old => inline_turn.out set old 0
  | t :: ts, set, old => inline_turn.out set old t.f3 ++ (inline_Line.esc t.f2 ++ (Lib.encodeRune t.f2 ++ inline_Line.go ts t.f3 (inline_turn.old set old t.f3)))
def inline_Line.ok (l0 : List S36) : Bool := l0.all fun t => decide (0 ≤ t.f2) && decide (t.f2 ≤ 1114111)
def inline_Line.f (l0 : List S36) : Option ByteArray := if l0.length < 8796093022208 then (if inline_Line.ok l0 = true then some ⟨(inline_Line.go l0 0 0).toArray⟩ else none) else none
theorem inline_Line.step (l0 : List S36) (i : Int) (hi : i.toNat < l0.length) (set old : Int) : inline_Line.go (l0.drop i.toNat) set old = inline_turn.out set old (rd_T36 l0 i).f3 ++ (inline_Line.esc (rd_T36 l0 i).f2 ++ (Lib.encodeRune (rd_T36 l0 i).f2 ++ inline_Line.go (l0.drop (i.toNat + 1)) (rd_T36 l0 i).f3 (inline_turn.old set old (rd_T36 l0 i).f3))) := by
  have e : rd_T36 l0 i = l0[i.toNat] := by simp [rd_T36, List.getD_eq_getElem?_getD, List.getElem?_eq_getElem hi]
  rw [List.drop_eq_getElem_cons hi, e]
  rfl
theorem inline_Line.bounds {l0 : List S36} (h : inline_Line.ok l0 = true) (i : Int) (hi : i.toNat < l0.length) : 0 ≤ (rd_T36 l0 i).f2 ∧ (rd_T36 l0 i).f2 ≤ 1114111 := by
  have e : rd_T36 l0 i = l0[i.toNat] := by simp [rd_T36, List.getD_eq_getElem?_getD, List.getElem?_eq_getElem hi]
  have := List.all_eq_true.1 h _ (List.getElem_mem hi)
  rw [e]
  simpa using this
theorem inline_Line.encode_le (n : Int) : (Lib.encodeRune n).length ≤ 4 := by
  unfold Lib.encodeRune Lib.encodeRuneZ
  rw [List.length_map]
  split
  · simp
  · split
    · simp
    · split
      · simp
      · split <;> simp
theorem inline_Line.below {B b : Nat} {x y : Value} {bs : List Value} {W W1 : World} (h : inline_W B b x y bs W) (hb : Below W.heap.size W W1) : inline_W B b x y bs W1 := by
  have one : ∀ p, BuilderE.At 67 5 B b p x y bs W → BuilderE.At 67 5 B b p x y bs W1 := by
    rintro p ⟨hB, v, h1, h2, h3⟩
    exact ⟨hB, v, blk_below h1 hb, h2.kept (grown_of_below hb none) (by cases v.ownBlock <;> simp), h3⟩
  exact h.elim (fun x => .inl (one _ x)) (fun x => .inr (one _ x))
theorem inline_Line.set {t : TypeId} {B b g : Nat} {x y : Value} {bs : List Value} {W : World} {cs : Array Value} {fr : Nat × Nat} (h : inline_W B b x y bs W) (hg : W.heap[g]? = some (.cells cs t fr)) (h1 : t ≠ 67) (h2 : t ≠ 5) (j : Nat) (u : Value) : inline_W B b x y bs (W.setCell ⟨g, j, none⟩ u) := by
  have one : ∀ p, BuilderE.At 67 5 B b p x y bs W → BuilderE.At 67 5 B b p x y bs (W.setCell ⟨g, j, none⟩ u) := by
    rintro p ⟨hB, v, k1, k2, k3⟩
    have hne : b ≠ g := by
      rintro rfl
      rw [hg] at k1
      injection k1 with k1
      injection k1 with _ k1
      exact h1 k1
    refine ⟨hB, v, blk_far k1 hne u, k2.kept (row := some g) ?_ ?_, k3⟩
    · exact ⟨rfl, rfl, rfl, by simp [World.setCell], fun i hi hne => by
        simp only [World.setCell]
        rw [Array.getElem?_modify, if_neg (by rintro rfl; exact hne rfl)]⟩
    · right
      intro e2
      rcases k2.2 with ⟨rfl, _⟩ | ⟨g', cap, cur, fz, rfl, _, hg', _⟩
      · simp [Value.ownBlock] at e2
      · have : g' = g := by simpa [Value.ownBlock] using e2
        subst this
        rw [hg] at hg'
        injection hg' with hg'
        injection hg' with _ hg'
        exact h2 hg'
  exact h.elim (fun x => .inl (one _ x)) (fun x => .inr (one _ x))
theorem inline_Line.set4 {t : TypeId} {B b g : Nat} {x y : Value} {bs : List Value} {W : World} {a0 a1 a2 a3 : Value} (h : inline_W B b x y bs W) (hg : W.heap[g]? = some (.cells #[a0, a1, a2, a3] t (0, 0))) (h1 : t ≠ 67) (h2 : t ≠ 5) (x0 x1 x2 x3 : Value) :
    inline_W B b x y bs ((((W.setCell ⟨g, 0, none⟩ x0).setCell ⟨g, 1, none⟩ x1).setCell ⟨g, 2, none⟩ x2).setCell ⟨g, 3, none⟩ x3) ∧ ((((W.setCell ⟨g, 0, none⟩ x0).setCell ⟨g, 1, none⟩ x1).setCell ⟨g, 2, none⟩ x2).setCell ⟨g, 3, none⟩ x3).heap[g]? = some (.cells #[x0, x1, x2, x3] t (0, 0)) := by
  have b1 : (W.setCell ⟨g, 0, none⟩ x0).heap[g]? = some (.cells #[x0, a1, a2, a3] t (0, 0)) := by simpa using blk_set hg 0 x0
  have b2 : ((W.setCell ⟨g, 0, none⟩ x0).setCell ⟨g, 1, none⟩ x1).heap[g]? = some (.cells #[x0, x1, a2, a3] t (0, 0)) := by simpa using blk_set b1 1 x1
  have b3 : (((W.setCell ⟨g, 0, none⟩ x0).setCell ⟨g, 1, none⟩ x1).setCell ⟨g, 2, none⟩ x2).heap[g]? = some (.cells #[x0, x1, x2, a3] t (0, 0)) := by simpa using blk_set b2 2 x2
  exact ⟨inline_Line.set (inline_Line.set (inline_Line.set (inline_Line.set h hg h1 h2 0 x0) b1 h1 h2 1 x1) b2 h1 h2 2 x2) b3 h1 h2 3 x3, by simpa using blk_set b3 3 x3⟩
/-- What a round knows: so much is written. -/
def inline_Line.St (B b : Nat) (l0 : List S36) (i : Int) (W : World) : Prop := ∃ (acc : List UInt8) (set old : Int), acc ++ inline_Line.go (l0.drop i.toNat) set old = inline_Line.go l0 0 0 ∧ (acc.length : Int) ≤ 10 * i ∧ inline_W B b (.int .i64 set) (.int .i64 old) (Lib.byteCells acc) W
set_option maxHeartbeats 8000000 in
set_option maxRecDepth 100000 in
theorem inline_Line.calls (A0 : Option Addr) (c0 : Nat) (l0 : List S36) (r : ByteArray) (w : World) (hr0 : Kd.C k36 w A0 l0.length l0) (hc0 : l0.length ≤ c0) (h : inline_Line.f l0 = some r) :
    Calls Tryd.prog 18 #[.slice A0 l0.length c0] w fun e w' => e = .returned (.string r) ∧ Below w.heap.size w w' := by
  have hu_ := Tryd.underlying36
  have HR0 := Aside0.mk hr0
  have HC0 := Aside0.mk hc0
  clear hr0 hc0
  have HB := Aside0.mk (Below.refl w.heap.size w)
  unfold inline_Line.f at h
  by_cases hl : l0.length < 8796093022208
  · rw [if_pos hl] at h
    by_cases hk : inline_Line.ok l0 = true
    · rw [if_pos hk] at h
      obtain rfl := Option.some.inj h
      have HL := Aside0.mk hl
      have HK := Aside0.mk hk
      clear hl h hk
      go_enter Tryd.func18, Tryd.ntmps18
      go_wp2_with (first | ((with_reducible refine gate_dst (N := 8) rfl ?_); refine box_event ?hg (N := 8) ?hd (cs := #[.pointer none, .slice none 0 0, .int .i64 0, .int .i64 0]) (t := 67) ?hr ?_; (case hd => rfl); (case hg => rfl); (case hr => first | (go_simp; done) | (go_simp; rfl)); intro gA hg w3 hbox hb; have n0_ := Aside0.mk (below_step HB.out hb); have GA := Aside0.mk ((by rw [hg]; exact (below_size HB.out)) : w.heap.size ≤ gA); have HI := Aside0.mk (show inline_Line.St w.heap.size gA l0 0 w3 from ⟨[], 0, 0, rfl, by simp, .inl ⟨GA.out, .slice none 0 0, hbox, World.ownsRowF_nil _ _ _ _, by simp [Value.ownBlock]⟩⟩); clear HB; have HB := n0_; clear n0_ hb hbox hg))
      go_loopg [11] l0.length (fun kq v11 w' => ∃ (i : Int), v11 = .int .i64 i ∧ Aside0 (0 ≤ i ∧ i + kq = l0.length) ∧ Aside0 (inline_Line.St w.heap.size gA l0 i w') ∧ Aside0 (Below w.heap.size w w'))
      case atStart => exact ⟨0, rfl, ⟨by omega⟩, HI, HB⟩
      case round =>
        clear HI HB
        obtain ⟨i, rfl, HII, HA, HB⟩ := hrel
        obtain ⟨acc, set, old, hacc, hal, hI⟩ := HA.out
        have HI := Aside0.mk hI
        have HACC := Aside0.mk hacc
        have HAL := Aside0.mk hal
        have hI := HII.out
        have hL := HL.out
        clear HA hacc hal
        have WI := Aside0.mk (show wrap64 (i + 1) = i + 1 from by unfold wrap64; omega)
        by_cases c3 : i < (l0.length : Int)
        · have c3b : decide (i < (l0.length : Int)) = true := decide_eq_true c3
          have HST := Aside0.mk (inline_Line.step l0 i (by omega) set old)
          have HN := Aside0.mk (inline_Line.bounds HK.out i (by omega))
          obtain ⟨ad, e_, hx0, hx1, hx2, hx3⟩ := at_T36 HR0.out i hI.1 c3
          cases e_
          replace hx0 := (HB.out.cell (World.block_lt_of_cell? w _ hx0)).trans hx0
          replace hx1 := (HB.out.cell (World.block_lt_of_cell? w _ hx1)).trans hx1
          replace hx2 := (HB.out.cell (World.block_lt_of_cell? w _ hx2)).trans hx2
          replace hx3 := (HB.out.cell (World.block_lt_of_cell? w _ hx3)).trans hx3
          have C3 := Aside0.mk c3
          have p1 := eq_true hI.1
          have q1 := eq_true c3
          have T1 := Aside0.mk (show (i + 1).toNat = i.toNat + 1 from by omega)
          clear hI c3 hL
          go_wp2_with (first | ((with_reducible refine gate_dst (N := 5) rfl ?_); refine box_event ?hg (N := 5) ?hd (cs := #[.int .i64 0, .int .i64 0, .int .i64 0, .int .i64 0]) (t := 36) ?hr ?_; (case hd => rfl); (case hg => rfl); (case hr => first | (go_simp; done) | (go_simp; rfl)); intro gb hg w8 hbox hb; have n0_ := Aside0.mk (below_step (by repeat (first | (with_reducible first | exact HB.out | apply below_alloc | apply pw_below_drewN | apply below_drew1) | exact HB.out)) hb); have n2_ := Aside0.mk ((by rw [hg]; exact (below_size (by repeat (first | (with_reducible first | exact HB.out | apply below_alloc | apply pw_below_drewN | apply below_drew1) | exact HB.out)))) : w.heap.size ≤ gb); have n3_ := Aside0.mk (inline_Line.below HI.out hb); have n4_ := Aside0.mk (show gA < gb from by rw [hg]; exact (HI.out.cells).2.2.2.2.2); clear HB HI; have HB := n0_; have BK := Aside0.mk hbox; have GE := n2_; have HI := n3_; have GT := n4_; clear n0_ n2_ n3_ n4_; clear hb hbox hg; have hcz_0 : w8.cell? ⟨gb, 0, none⟩ = some (.int .i64 0) := (blk_cell BK.out 0).trans rfl; have hcz_1 : w8.cell? ⟨gb, 1, none⟩ = some (.int .i64 0) := (blk_cell BK.out 1).trans rfl; have hcz_2 : w8.cell? ⟨gb, 2, none⟩ = some (.int .i64 0) := (blk_cell BK.out 2).trans rfl; have hcz_3 : w8.cell? ⟨gb, 3, none⟩ = some (.int .i64 0) := (blk_cell BK.out 3).trans rfl; have hfz_0 := blk_frozen BK.out 0; have hfz_1 := blk_frozen BK.out 1; have hfz_2 := blk_frozen BK.out 2; have hfz_3 := blk_frozen BK.out 3))
          obtain ⟨hI4, hB4⟩ := inline_Line.set4 HI.out BK.out (by decide) (by decide) (.int .i64 (rd_T36 l0 i).f0) (.int .i64 (rd_T36 l0 i).f1) (.int .i64 (rd_T36 l0 i).f2) (.int .i64 (rd_T36 l0 i).f3)
          have HI4 := Aside0.mk hI4
          have HB4 := Aside0.mk hB4
          have HB5 := Aside0.mk (show Below w.heap.size w ((((w8.setCell ⟨gb, 0, none⟩ (.int .i64 (rd_T36 l0 i).f0)).setCell ⟨gb, 1, none⟩ (.int .i64 (rd_T36 l0 i).f1)).setCell ⟨gb, 2, none⟩ (.int .i64 (rd_T36 l0 i).f2)).setCell ⟨gb, 3, none⟩ (.int .i64 (rd_T36 l0 i).f3)) from below_set (below_set (below_set (below_set HB.out GE.out) GE.out) GE.out) GE.out)
          clear hI4 hB4
          refine (inline_turn.calls w.heap.size gA set old (rd_T36 l0 i).f3 acc _ HI4.out (by have := HAL.out; have := HII.out; have := C3.out; have := HL.out; omega) HB5.out.size).mono ?_
          rintro e w10 ⟨rfl, hT, hb, ho⟩
          have n1_ := Aside0.mk (HB5.out.trans hb)
          have n2_ := Aside0.mk (ho _ _ HB4.out (fun e => by have := GT.out; injection e with e; omega) (fun c fz e => by injection e with _ e; cases e))
          have n3_ := Aside0.mk hT
          clear HI HB BK HI4 HB4 HB5 hb hT ho hcz_0 hcz_1 hcz_2 hcz_3 hfz_0 hfz_1 hfz_2 hfz_3
          have HB := n1_
          have HI := n3_
          clear n1_ n3_
          have hcy_0 : w10.cell? ⟨gb, 0, none⟩ = some (.int .i64 (rd_T36 l0 i).f0) := (blk_cell n2_.out 0).trans rfl
          have hcy_2 : w10.cell? ⟨gb, 2, none⟩ = some (.int .i64 (rd_T36 l0 i).f2) := (blk_cell n2_.out 2).trans rfl
          have hN0 : 0 ≤ (rd_T36 l0 i).f2 := HN.out.1
          have hN1 : (rd_T36 l0 i).f2 ≤ 1114111 := HN.out.2
          by_cases k92 : (rd_T36 l0 i).f2 = 92
          · have k92b : ((rd_T36 l0 i).f2 == 92) = true := beq_iff_eq.mpr k92
            have HE := Aside0.mk (show inline_Line.esc (rd_T36 l0 i).f2 = [92] from by unfold inline_Line.esc; rw [if_pos (by omega)])
            clear k92
            go_wp2_with fail
            refine (inline_ws w.heap.size gA _ _ _ [92] _ HI.out (by rw [List.length_append]; have := inline_turn.out_len set old (rd_T36 l0 i).f3; have := HAL.out; have := HII.out; have := C3.out; have := HL.out; simp; omega) HB.out.size).mono ?_
            rintro e w11 ⟨rfl, hT, hb, ho⟩
            have n1_ := Aside0.mk (HB.out.trans hb)
            have n3_ := Aside0.mk hT
            clear HI HB hb hT ho
            have HB := n1_
            have HI := n3_
            clear n1_ n3_
            go_wp2_with fail
            refine (inline_wr w.heap.size gA _ _ _ (rd_T36 l0 i).f2 hN0 hN1 _ HI.out (by simp only [List.length_append, List.length_cons, List.length_nil]; have := inline_turn.out_len set old (rd_T36 l0 i).f3; have := HAL.out; have := HII.out; have := C3.out; have := HL.out; omega) HB.out.size).mono ?_
            rintro e w12 ⟨rfl, hT, hb, _⟩
            have n1_ := Aside0.mk (HB.out.trans hb)
            have n3_ := Aside0.mk hT
            clear HI HB hb hT
            have HB := n1_
            have HI := n3_
            clear n1_ n3_
            go_wp2
            go_roundg (gk - 1)
            case measure => have := HII.out; have := C3.out; omega
            case rel => exact ⟨i + 1, by first | rfl | (rw [WI.out]; done) | go_num, ⟨by have := HII.out; have := C3.out; omega⟩, ⟨_, _, _, by rw [T1.out, ← HACC.out, HST.out, HE.out]; simp only [List.append_assoc, List.nil_append]; done, by simp only [List.length_append, List.length_cons, List.length_nil]; have := inline_turn.out_len set old (rd_T36 l0 i).f3; have := inline_Line.encode_le (rd_T36 l0 i).f2; have := HAL.out; omega, HI.out⟩, HB⟩
          · have k92b : ((rd_T36 l0 i).f2 == 92) = false := beq_eq_false_iff_ne.mpr k92
            by_cases k96 : (rd_T36 l0 i).f2 = 96
            · have k96b : ((rd_T36 l0 i).f2 == 96) = true := beq_iff_eq.mpr k96
              have HE := Aside0.mk (show inline_Line.esc (rd_T36 l0 i).f2 = [92] from by unfold inline_Line.esc; rw [if_pos (by omega)])
              clear k92 k96
              go_wp2_with fail
              refine (inline_ws w.heap.size gA _ _ _ [92] _ HI.out (by rw [List.length_append]; have := inline_turn.out_len set old (rd_T36 l0 i).f3; have := HAL.out; have := HII.out; have := C3.out; have := HL.out; simp; omega) HB.out.size).mono ?_
              rintro e w11 ⟨rfl, hT, hb, ho⟩
              have n1_ := Aside0.mk (HB.out.trans hb)
              have n3_ := Aside0.mk hT
              clear HI HB hb hT ho
              have HB := n1_
              have HI := n3_
              clear n1_ n3_
              go_wp2_with fail
              refine (inline_wr w.heap.size gA _ _ _ (rd_T36 l0 i).f2 hN0 hN1 _ HI.out (by simp only [List.length_append, List.length_cons, List.length_nil]; have := inline_turn.out_len set old (rd_T36 l0 i).f3; have := HAL.out; have := HII.out; have := C3.out; have := HL.out; omega) HB.out.size).mono ?_
              rintro e w12 ⟨rfl, hT, hb, _⟩
              have n1_ := Aside0.mk (HB.out.trans hb)
              have n3_ := Aside0.mk hT
              clear HI HB hb hT
              have HB := n1_
              have HI := n3_
              clear n1_ n3_
              go_wp2
              go_roundg (gk - 1)
              case measure => have := HII.out; have := C3.out; omega
              case rel => exact ⟨i + 1, by first | rfl | (rw [WI.out]; done) | go_num, ⟨by have := HII.out; have := C3.out; omega⟩, ⟨_, _, _, by rw [T1.out, ← HACC.out, HST.out, HE.out]; simp only [List.append_assoc, List.nil_append]; done, by simp only [List.length_append, List.length_cons, List.length_nil]; have := inline_turn.out_len set old (rd_T36 l0 i).f3; have := inline_Line.encode_le (rd_T36 l0 i).f2; have := HAL.out; omega, HI.out⟩, HB⟩
            · have k96b : ((rd_T36 l0 i).f2 == 96) = false := beq_eq_false_iff_ne.mpr k96
              by_cases k42 : (rd_T36 l0 i).f2 = 42
              · have k42b : ((rd_T36 l0 i).f2 == 42) = true := beq_iff_eq.mpr k42
                have HE := Aside0.mk (show inline_Line.esc (rd_T36 l0 i).f2 = [92] from by unfold inline_Line.esc; rw [if_pos (by omega)])
                clear k92 k96 k42
                go_wp2_with fail
                refine (inline_ws w.heap.size gA _ _ _ [92] _ HI.out (by rw [List.length_append]; have := inline_turn.out_len set old (rd_T36 l0 i).f3; have := HAL.out; have := HII.out; have := C3.out; have := HL.out; simp; omega) HB.out.size).mono ?_
                rintro e w11 ⟨rfl, hT, hb, ho⟩
                have n1_ := Aside0.mk (HB.out.trans hb)
                have n3_ := Aside0.mk hT
                clear HI HB hb hT ho
                have HB := n1_
                have HI := n3_
                clear n1_ n3_
                go_wp2_with fail
                refine (inline_wr w.heap.size gA _ _ _ (rd_T36 l0 i).f2 hN0 hN1 _ HI.out (by simp only [List.length_append, List.length_cons, List.length_nil]; have := inline_turn.out_len set old (rd_T36 l0 i).f3; have := HAL.out; have := HII.out; have := C3.out; have := HL.out; omega) HB.out.size).mono ?_
                rintro e w12 ⟨rfl, hT, hb, _⟩
                have n1_ := Aside0.mk (HB.out.trans hb)
                have n3_ := Aside0.mk hT
                clear HI HB hb hT
                have HB := n1_
                have HI := n3_
                clear n1_ n3_
                go_wp2
                go_roundg (gk - 1)
                case measure => have := HII.out; have := C3.out; omega
                case rel => exact ⟨i + 1, by first | rfl | (rw [WI.out]; done) | go_num, ⟨by have := HII.out; have := C3.out; omega⟩, ⟨_, _, _, by rw [T1.out, ← HACC.out, HST.out, HE.out]; simp only [List.append_assoc, List.nil_append]; done, by simp only [List.length_append, List.length_cons, List.length_nil]; have := inline_turn.out_len set old (rd_T36 l0 i).f3; have := inline_Line.encode_le (rd_T36 l0 i).f2; have := HAL.out; omega, HI.out⟩, HB⟩
              · have k42b : ((rd_T36 l0 i).f2 == 42) = false := beq_eq_false_iff_ne.mpr k42
                by_cases k95 : (rd_T36 l0 i).f2 = 95
                · have k95b : ((rd_T36 l0 i).f2 == 95) = true := beq_iff_eq.mpr k95
                  have HE := Aside0.mk (show inline_Line.esc (rd_T36 l0 i).f2 = [92] from by unfold inline_Line.esc; rw [if_pos (by omega)])
                  clear k92 k96 k42 k95
                  go_wp2_with fail
                  refine (inline_ws w.heap.size gA _ _ _ [92] _ HI.out (by rw [List.length_append]; have := inline_turn.out_len set old (rd_T36 l0 i).f3; have := HAL.out; have := HII.out; have := C3.out; have := HL.out; simp; omega) HB.out.size).mono ?_
                  rintro e w11 ⟨rfl, hT, hb, ho⟩
                  have n1_ := Aside0.mk (HB.out.trans hb)
                  have n3_ := Aside0.mk hT
                  clear HI HB hb hT ho
                  have HB := n1_
                  have HI := n3_
                  clear n1_ n3_
                  go_wp2_with fail
                  refine (inline_wr w.heap.size gA _ _ _ (rd_T36 l0 i).f2 hN0 hN1 _ HI.out (by simp only [List.length_append, List.length_cons, List.length_nil]; have := inline_turn.out_len set old (rd_T36 l0 i).f3; have := HAL.out; have := HII.out; have := C3.out; have := HL.out; omega) HB.out.size).mono ?_
                  rintro e w12 ⟨rfl, hT, hb, _⟩
                  have n1_ := Aside0.mk (HB.out.trans hb)
                  have n3_ := Aside0.mk hT
                  clear HI HB hb hT
                  have HB := n1_
                  have HI := n3_
                  clear n1_ n3_
                  go_wp2
                  go_roundg (gk - 1)
                  case measure => have := HII.out; have := C3.out; omega
                  case rel => exact ⟨i + 1, by first | rfl | (rw [WI.out]; done) | go_num, ⟨by have := HII.out; have := C3.out; omega⟩, ⟨_, _, _, by rw [T1.out, ← HACC.out, HST.out, HE.out]; simp only [List.append_assoc, List.nil_append]; done, by simp only [List.length_append, List.length_cons, List.length_nil]; have := inline_turn.out_len set old (rd_T36 l0 i).f3; have := inline_Line.encode_le (rd_T36 l0 i).f2; have := HAL.out; omega, HI.out⟩, HB⟩
                · have k95b : ((rd_T36 l0 i).f2 == 95) = false := beq_eq_false_iff_ne.mpr k95
                  have HE := Aside0.mk (show inline_Line.esc (rd_T36 l0 i).f2 = [] from by unfold inline_Line.esc; rw [if_neg (by omega)])
                  clear k92 k96 k42 k95
                  go_wp2_with fail
                  refine (inline_wr w.heap.size gA _ _ _ (rd_T36 l0 i).f2 hN0 hN1 _ HI.out (by simp only [List.length_append, List.length_cons, List.length_nil]; have := inline_turn.out_len set old (rd_T36 l0 i).f3; have := HAL.out; have := HII.out; have := C3.out; have := HL.out; omega) HB.out.size).mono ?_
                  rintro e w12 ⟨rfl, hT, hb, _⟩
                  have n1_ := Aside0.mk (HB.out.trans hb)
                  have n3_ := Aside0.mk hT
                  clear HI HB hb hT
                  have HB := n1_
                  have HI := n3_
                  clear n1_ n3_
                  go_wp2
                  go_roundg (gk - 1)
                  case measure => have := HII.out; have := C3.out; omega
                  case rel => exact ⟨i + 1, by first | rfl | (rw [WI.out]; done) | go_num, ⟨by have := HII.out; have := C3.out; omega⟩, ⟨_, _, _, by rw [T1.out, ← HACC.out, HST.out, HE.out]; simp only [List.append_assoc, List.nil_append]; done, by simp only [List.length_append, List.length_cons, List.length_nil]; have := inline_turn.out_len set old (rd_T36 l0 i).f3; have := inline_Line.encode_le (rd_T36 l0 i).f2; have := HAL.out; omega, HI.out⟩, HB⟩
        · have c3b : decide (i < (l0.length : Int)) = false := decide_eq_false c3
          have hacc := HACC.out
          rw [List.drop_eq_nil_of_le (by omega)] at hacc
          have HACC2 := Aside0.mk (show acc ++ inline_turn.out set old 0 = inline_Line.go l0 0 0 from hacc)
          have HBW := Aside0.mk HB.out.size
          have HLN := Aside0.mk (show acc.length + 8 ≤ 140737488355328 from by have := HAL.out; omega)
          clear HACC hacc hI hL c3
          go_wp2_with fail
          refine (inline_turn.calls w.heap.size gA set old 0 acc _ HI.out HLN.out HBW.out).mono ?_
          rintro e w10 ⟨rfl, hT, hb, _⟩
          have n1_ := Aside0.mk (HB.out.trans hb)
          have n3_ := Aside0.mk hT
          clear HI HB hb hT
          have HB := n1_
          have HI := n3_
          clear n1_ n3_
          go_wp2_with fail
          refine (BuilderE.string (T := 67) Tryd.lays169 Tryd.Builder_Extra_169 w.heap.size gA _ _ _ _ HI.out HB.out.size).mono ?_
          rintro e W1 ⟨rfl, b1⟩
          have n1_ := Aside0.mk (HB.out.trans b1)
          clear HB b1
          go_wp2
          go_ret
          exact ⟨by first | (rw [HACC2.out]; done) | (rw [HACC2.out]; rfl) | (simp only [HACC2.out]; done), n1_.out⟩
    · rw [if_neg hk] at h
      cases h
  · rw [if_neg hl] at h
    cases h

end Go.Proofs.YtebbngeamnpgjaaDoor.PIa
