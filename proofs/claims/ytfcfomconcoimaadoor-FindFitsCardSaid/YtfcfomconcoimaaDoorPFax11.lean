-- Written for this claim by a program (the kit's print, with hand-made contracts for what it does not take).
import Derived.Test.YtfcfomconcoimaaDoorPFax0
import Derived.Test.YtfcfomconcoimaaDoorPFax2
namespace Go.Proofs.YtfcfomconcoimaaDoor.PFa
open Go.RowKit Go.Proofs.YtfcfomconcoimaaDoorW.PrintWords Go.Proofs.YtfcfomconcoimaaDoorW.PrintLast Go.Proofs.YtfcfomconcoimaaDoorW.PrintMore
attribute [local go_sem] max2_int min2_int max_two min_two max_three min_three max_four min_four   -- for this text's walks alone
set_option linter.unusedVariables false
set_option linter.unusedSimpArgs false

/-! ### flat_Text: function 9 -/

def flat_Text.one (t : S48) : List UInt8 := if t.f0 = 0 then (if flat_Right.f t.f0 t.f1 t.f2 t.f3 = some true then Lib.encodeRune t.f2 else []) else []
def flat_Text.txt (l : List S48) : List UInt8 := l.flatMap flat_Text.one
def flat_Text.f (l0 : List S48) : Option ByteArray := if l0.length < 17592186044416 then some ⟨(flat_Text.txt l0).toArray⟩ else none
theorem flat_Text.step (l0 : List S48) (i : Int) (hi : i.toNat < l0.length) : flat_Text.txt (l0.drop i.toNat) = flat_Text.one (rd_T48 l0 i) ++ flat_Text.txt (l0.drop (i.toNat + 1)) := by
  have e : rd_T48 l0 i = l0[i.toNat] := by simp [rd_T48, List.getD_eq_getElem?_getD, List.getElem?_eq_getElem hi]
  rw [List.drop_eq_getElem_cons hi, e]
  rfl
theorem flat_Text.right_bounds (a b c d : Int) (h : flat_Right.f a b c d = some true) (ha : a = 0) : 0 ≤ c ∧ c ≤ 1114111 := by
  subst ha
  unfold flat_Right.f at h
  simp only [if_true] at h
  by_cases h1 : b = 0
  · rw [if_pos h1] at h
    by_cases h2 : c ≥ 0
    · rw [if_pos h2] at h
      by_cases h3 : c ≤ 1114111
      · exact ⟨h2, h3⟩
      · rw [if_neg h3] at h
        cases h
    · rw [if_neg h2] at h
      cases h
  · rw [if_neg h1] at h
    cases h
theorem flat_Text.encode_le (n : Int) : (Lib.encodeRune n).length ≤ 4 := by
  unfold Lib.encodeRune Lib.encodeRuneZ
  rw [List.length_map]
  split
  · simp
  · split
    · simp
    · split
      · simp
      · split <;> simp
theorem flat_Text.below {T e : TypeId} {B b : Nat} {bs : List Value} {W W1 : World} (h : Lib.IsBuilderF T e B b bs W) (hb : Below W.heap.size W W1) : Lib.IsBuilderF T e B b bs W1 := by
  have one : ∀ p, Lib.BuilderAtF T e B b p bs W → Lib.BuilderAtF T e B b p bs W1 := by
    rintro p ⟨hB, v, h1, h2, h3⟩
    exact ⟨hB, v, blk_below h1 hb, h2.kept (grown_of_below hb none) (by cases v.ownBlock <;> simp), h3⟩
  exact h.elim (fun x => .inl (one _ x)) (fun x => .inr (one _ x))
theorem flat_Text.set {T e t : TypeId} {B b g : Nat} {bs : List Value} {W : World} {cs : Array Value} {fr : Nat × Nat} (h : Lib.IsBuilderF T e B b bs W) (hg : W.heap[g]? = some (.cells cs t fr)) (h1 : t ≠ T) (h2 : t ≠ e) (j : Nat) (u : Value) : Lib.IsBuilderF T e B b bs (W.setCell ⟨g, j, none⟩ u) := by
  have one : ∀ p, Lib.BuilderAtF T e B b p bs W → Lib.BuilderAtF T e B b p bs (W.setCell ⟨g, j, none⟩ u) := by
    rintro p ⟨hB, v, k1, k2, k3⟩
    have hne : b ≠ g := by
      rintro rfl
      rw [hg] at k1
      injection k1 with k1
      injection k1 with _ k1
      exact h1 k1
    refine ⟨hB, v, blk_far k1 hne u, k2.kept (row := some g) ?_ ?_, k3⟩
    · exact ⟨rfl, rfl, rfl, by simp [World.setCell], fun i hi hne => by
        simp only [World.setCell]
        rw [Array.getElem?_modify, if_neg (by rintro rfl; exact hne rfl)]⟩
    · right
      intro e2
      rcases k2.2 with ⟨rfl, _⟩ | ⟨g', cap, cur, fz, rfl, _, hg', _⟩
      · simp [Value.ownBlock] at e2
      · have : g' = g := by simpa [Value.ownBlock] using e2
        subst this
        rw [hg] at hg'
        injection hg' with hg'
        injection hg' with _ hg'
        exact h2 hg'
  exact h.elim (fun x => .inl (one _ x)) (fun x => .inr (one _ x))
theorem flat_Text.set4 {T e t : TypeId} {B b g : Nat} {bs : List Value} {W : World} {a0 a1 a2 a3 : Value} (h : Lib.IsBuilderF T e B b bs W) (hg : W.heap[g]? = some (.cells #[a0, a1, a2, a3] t (0, 0))) (h1 : t ≠ T) (h2 : t ≠ e) (x0 x1 x2 x3 : Value) :
    Lib.IsBuilderF T e B b bs ((((W.setCell ⟨g, 0, none⟩ x0).setCell ⟨g, 1, none⟩ x1).setCell ⟨g, 2, none⟩ x2).setCell ⟨g, 3, none⟩ x3) ∧ ((((W.setCell ⟨g, 0, none⟩ x0).setCell ⟨g, 1, none⟩ x1).setCell ⟨g, 2, none⟩ x2).setCell ⟨g, 3, none⟩ x3).heap[g]? = some (.cells #[x0, x1, x2, x3] t (0, 0)) := by
  have b1 : (W.setCell ⟨g, 0, none⟩ x0).heap[g]? = some (.cells #[x0, a1, a2, a3] t (0, 0)) := by simpa using blk_set hg 0 x0
  have b2 : ((W.setCell ⟨g, 0, none⟩ x0).setCell ⟨g, 1, none⟩ x1).heap[g]? = some (.cells #[x0, x1, a2, a3] t (0, 0)) := by simpa using blk_set b1 1 x1
  have b3 : (((W.setCell ⟨g, 0, none⟩ x0).setCell ⟨g, 1, none⟩ x1).setCell ⟨g, 2, none⟩ x2).heap[g]? = some (.cells #[x0, x1, x2, a3] t (0, 0)) := by simpa using blk_set b2 2 x2
  exact ⟨flat_Text.set (flat_Text.set (flat_Text.set (flat_Text.set h hg h1 h2 0 x0) b1 h1 h2 1 x1) b2 h1 h2 2 x2) b3 h1 h2 3 x3, by simpa using blk_set b3 3 x3⟩
set_option maxHeartbeats 4000000 in
set_option maxRecDepth 100000 in
theorem flat_Text.calls (A0 : Option Addr) (c0 : Nat) (l0 : List S48) (r : ByteArray) (w : World) (hr0 : Kd.C k48 w A0 l0.length l0) (hc0 : l0.length ≤ c0) (h : flat_Text.f l0 = some r) :
    Calls Tryd.prog 9 #[.slice A0 l0.length c0] w fun e w' => e = .returned (.string r) ∧ Below w.heap.size w w' := by
  have hu_ := Tryd.underlying48
  have HR0 := Aside0.mk hr0
  have HC0 := Aside0.mk hc0
  clear hr0 hc0
  have HB := Aside0.mk (Below.refl w.heap.size w)
  unfold flat_Text.f at h
  by_cases hl : l0.length < 17592186044416
  · rw [if_pos hl] at h
    obtain rfl := Option.some.inj h
    have HL := Aside0.mk hl
    clear hl h
    go_enter Tryd.func9, Tryd.ntmps9
    go_wp2_with (first | ((with_reducible refine gate_dst (N := 3) rfl ?_); refine box_event ?hg (N := 3) ?hd (cs := #[.pointer none, .slice none 0 0]) (t := 65) ?hr ?_; (case hd => rfl); (case hg => rfl); (case hr => first | (go_simp; done) | (go_simp; rfl)); intro gA hg w3 hbox hb; have n0_ := Aside0.mk (below_step HB.out hb); have GA := Aside0.mk ((by rw [hg]; exact (below_size HB.out)) : w.heap.size ≤ gA); have HI := Aside0.mk (show Lib.IsBuilderF 65 5 w.heap.size gA (Lib.byteCells []) w3 from .inl ⟨GA.out, .slice none 0 0, hbox, World.ownsRowF_nil _ _ _ _, by simp [Value.ownBlock]⟩); clear HB; have HB := n0_; clear n0_ hb hbox hg))
    go_loopg [8] l0.length (fun kq v8 w' => ∃ (i : Int), v8 = .int .i64 i ∧ Aside0 (0 ≤ i ∧ i + kq = l0.length) ∧ Aside0 (∃ acc : List UInt8, acc ++ flat_Text.txt (l0.drop i.toNat) = flat_Text.txt l0 ∧ (acc.length : Int) ≤ 4 * i ∧ Lib.IsBuilderF 65 5 w.heap.size gA (Lib.byteCells acc) w') ∧ Aside0 (Below w.heap.size w w'))
    case atStart => exact ⟨0, rfl, ⟨by omega⟩, ⟨[], rfl, by simp, HI.out⟩, HB⟩
    case round =>
      clear HI HB
      obtain ⟨i, rfl, HII, HA, HB⟩ := hrel
      obtain ⟨acc, hacc, hal, hI⟩ := HA.out
      have HI := Aside0.mk hI
      have HACC := Aside0.mk hacc
      have HAL := Aside0.mk hal
      have hI := HII.out
      have hL := HL.out
      clear HII HA hacc hal
      by_cases c3 : i < (l0.length : Int)
      · have c3b : decide (i < (l0.length : Int)) = true := decide_eq_true c3
        have hst := flat_Text.step l0 i (by omega)
        have HACC2 := Aside0.mk (show acc ++ (flat_Text.one (rd_T48 l0 i) ++ flat_Text.txt (l0.drop (i.toNat + 1))) = flat_Text.txt l0 from by rw [← hst]; exact HACC.out)
        clear hst HACC
        obtain ⟨ad, e_, hx0, hx1, hx2, hx3⟩ := at_T48 HR0.out i hI.1 c3
        cases e_
        replace hx0 := (HB.out.cell (World.block_lt_of_cell? w _ hx0)).trans hx0
        replace hx1 := (HB.out.cell (World.block_lt_of_cell? w _ hx1)).trans hx1
        replace hx2 := (HB.out.cell (World.block_lt_of_cell? w _ hx2)).trans hx2
        replace hx3 := (HB.out.cell (World.block_lt_of_cell? w _ hx3)).trans hx3
        have HII := Aside0.mk hI
        have C3 := Aside0.mk c3
        have p1 := eq_true hI.1
        have q1 := eq_true c3
        have WI := Aside0.mk (show wrap64 (i + 1) = i + 1 from by unfold wrap64; omega)
        have T1 := Aside0.mk (show (i + 1).toNat = i.toNat + 1 from by omega)
        have hRS : ∃ b, flat_Right.f (rd_T48 l0 i).f0 (rd_T48 l0 i).f1 (rd_T48 l0 i).f2 (rd_T48 l0 i).f3 = some b := by
          unfold flat_Right.f mark_Right.f
          repeat' split
          all_goals first | exact ⟨_, rfl⟩ | (simp only [Option.bind_some]; exact ⟨_, rfl⟩)
        obtain ⟨tb, hRS⟩ := hRS
        have A6 := Aside0.mk hRS
        clear hI c3 hL hRS
        by_cases c4 : (rd_T48 l0 i).f0 = 0
        · have c4b0 : ((rd_T48 l0 i).f0 == 0) = true := beq_iff_eq.mpr c4
          have C4 := Aside0.mk c4
          clear c4
          go_wp2_with (first | ((with_reducible refine gate_dst (N := 5) rfl ?_); refine box_event ?hg (N := 5) ?hd (cs := #[.int .i64 0, .int .i64 0, .int .i64 0, .int .i64 0]) (t := 48) ?hr ?_; (case hd => rfl); (case hg => rfl); (case hr => first | (go_simp; done) | (go_simp; rfl)); intro gb hg w8 hbox hb; have n0_ := Aside0.mk (below_step (by repeat (first | (with_reducible first | exact HB.out | apply below_alloc | apply pw_below_drewN | apply below_drew1) | exact HB.out)) hb); have n2_ := Aside0.mk ((by rw [hg]; exact (below_size (by repeat (first | (with_reducible first | exact HB.out | apply below_alloc | apply pw_below_drewN | apply below_drew1) | exact HB.out)))) : w.heap.size ≤ gb); have n3_ := Aside0.mk (flat_Text.below HI.out hb); clear HB HI hI; have HB := n0_; have BK := Aside0.mk hbox; have GE := n2_; have HI := n3_; clear n0_ n2_ n3_; clear hb hbox hg; have hcz_0 : w8.cell? ⟨gb, 0, none⟩ = some (.int .i64 0) := (blk_cell BK.out 0).trans rfl; have hcz_1 : w8.cell? ⟨gb, 1, none⟩ = some (.int .i64 0) := (blk_cell BK.out 1).trans rfl; have hcz_2 : w8.cell? ⟨gb, 2, none⟩ = some (.int .i64 0) := (blk_cell BK.out 2).trans rfl; have hcz_3 : w8.cell? ⟨gb, 3, none⟩ = some (.int .i64 0) := (blk_cell BK.out 3).trans rfl; have hfz_0 := blk_frozen BK.out 0; have hfz_1 := blk_frozen BK.out 1; have hfz_2 := blk_frozen BK.out 2; have hfz_3 := blk_frozen BK.out 3))
          refine (flat_Right.calls (rd_T48 l0 i).f0 (rd_T48 l0 i).f1 (rd_T48 l0 i).f2 (rd_T48 l0 i).f3 tb _ A6.out).mono ?_
          rintro e w10 ⟨rfl, hb⟩
          obtain ⟨hI4, hB4⟩ := flat_Text.set4 HI.out BK.out (by decide) (by decide) (.int .i64 (rd_T48 l0 i).f0) (.int .i64 (rd_T48 l0 i).f1) (.int .i64 (rd_T48 l0 i).f2) (.int .i64 (rd_T48 l0 i).f3)
          have n0_ := Aside0.mk (flat_Text.below hI4 hb)
          have n1_ := Aside0.mk (below_step (by repeat (first | (with_reducible first | exact HB.out | apply below_alloc | apply pw_below_drewN | apply below_drew1 | refine below_set ?_ GE.out) | exact HB.out)) hb)
          have n2_ := Aside0.mk (blk_below hB4 hb)
          clear HI HB BK hI4 hB4
          have HI := n0_
          have HB := n1_
          have BK := n2_
          clear n0_ n1_ n2_ hb hcz_0 hcz_1 hcz_2 hcz_3 hfz_0 hfz_1 hfz_2 hfz_3
          have hcy_0 : w10.cell? ⟨gb, 0, none⟩ = some (.int .i64 (rd_T48 l0 i).f0) := (blk_cell BK.out 0).trans rfl
          have hcy_2 : w10.cell? ⟨gb, 2, none⟩ = some (.int .i64 (rd_T48 l0 i).f2) := (blk_cell BK.out 2).trans rfl
          cases tb with
          | false =>
            go_wp2
            go_roundg (gk - 1)
            case measure => have := HII.out; have := C3.out; omega
            case rel => exact ⟨i + 1, by first | rfl | (rw [WI.out]; done) | go_num, ⟨by have := HII.out; have := C3.out; omega⟩, ⟨acc, by rw [T1.out]; have := HACC2.out; unfold flat_Text.one at this; rw [if_pos C4.out, if_neg (by rw [A6.out]; decide)] at this; exact this, by have := HAL.out; omega, HI.out⟩, HB⟩
          | true =>
            have hN := flat_Text.right_bounds _ _ _ _ A6.out C4.out
            have hN0 := hN.1
            have hN1 := hN.2
            have HBW := Aside0.mk HB.out.size
            clear hN
            go_wp2_with fail
            refine (Tryd.Builder_WriteRune_k w.heap.size gA _ (rd_T48 l0 i).f2 (by omega) (by omega) _ HI.out (by rw [Lib.byteCells_length]; have := HAL.out; have := HII.out; have := C3.out; have := HL.out; omega) HBW.out).mono ?_
            rintro e W1 ⟨rfl, h1, b1, k1⟩
            have n0_ := Aside0.mk ((Or.inr h1 : Lib.IsBuilderF 65 5 w.heap.size gA _ W1))
            have n1_ := Aside0.mk (HB.out.trans b1)
            clear HI HB h1 b1 k1
            have HI := n0_
            have HB := n1_
            clear n0_ n1_
            go_wp2
            go_roundg (gk - 1)
            case measure => have := HII.out; have := C3.out; omega
            case rel => exact ⟨i + 1, by first | rfl | (rw [WI.out]; done) | go_num, ⟨by have := HII.out; have := C3.out; omega⟩, ⟨acc ++ Lib.encodeRune (rd_T48 l0 i).f2, by rw [T1.out]; have := HACC2.out; unfold flat_Text.one at this; rw [if_pos C4.out, if_pos A6.out] at this; rw [List.append_assoc]; exact this, by have := HAL.out; have := flat_Text.encode_le (rd_T48 l0 i).f2; rw [List.length_append]; omega, by rw [Lib.byteCells_append, Lib.byteCells_encodeRune]; exact HI.out⟩, HB⟩
        · have c4b0 : ((rd_T48 l0 i).f0 == 0) = false := beq_eq_false_iff_ne.mpr c4
          have C4 := Aside0.mk c4
          clear c4
          go_wp2_with (first | ((with_reducible refine gate_dst (N := 5) rfl ?_); refine box_event ?hg (N := 5) ?hd (cs := #[.int .i64 0, .int .i64 0, .int .i64 0, .int .i64 0]) (t := 48) ?hr ?_; (case hd => rfl); (case hg => rfl); (case hr => first | (go_simp; done) | (go_simp; rfl)); intro gb hg w8 hbox hb; have n0_ := Aside0.mk (below_step (by repeat (first | (with_reducible first | exact HB.out | apply below_alloc | apply pw_below_drewN | apply below_drew1) | exact HB.out)) hb); have n2_ := Aside0.mk ((by rw [hg]; exact (below_size (by repeat (first | (with_reducible first | exact HB.out | apply below_alloc | apply pw_below_drewN | apply below_drew1) | exact HB.out)))) : w.heap.size ≤ gb); have n3_ := Aside0.mk (flat_Text.below HI.out hb); clear HB HI hI; have HB := n0_; have BK := Aside0.mk hbox; have GE := n2_; have HI := n3_; clear n0_ n2_ n3_; clear hb hbox hg; have hcz_0 : w8.cell? ⟨gb, 0, none⟩ = some (.int .i64 0) := (blk_cell BK.out 0).trans rfl; have hcz_1 : w8.cell? ⟨gb, 1, none⟩ = some (.int .i64 0) := (blk_cell BK.out 1).trans rfl; have hcz_2 : w8.cell? ⟨gb, 2, none⟩ = some (.int .i64 0) := (blk_cell BK.out 2).trans rfl; have hcz_3 : w8.cell? ⟨gb, 3, none⟩ = some (.int .i64 0) := (blk_cell BK.out 3).trans rfl; have hfz_0 := blk_frozen BK.out 0; have hfz_1 := blk_frozen BK.out 1; have hfz_2 := blk_frozen BK.out 2; have hfz_3 := blk_frozen BK.out 3))
          obtain ⟨hI4, _⟩ := flat_Text.set4 HI.out BK.out (by decide) (by decide) (.int .i64 (rd_T48 l0 i).f0) (.int .i64 (rd_T48 l0 i).f1) (.int .i64 (rd_T48 l0 i).f2) (.int .i64 (rd_T48 l0 i).f3)
          have HI4 := Aside0.mk hI4
          clear hI4
          go_wp2
          go_roundg (gk - 1)
          case measure => have := HII.out; have := C3.out; omega
          case rel => exact ⟨i + 1, by first | rfl | (rw [WI.out]; done) | go_num, ⟨by have := HII.out; have := C3.out; omega⟩, ⟨acc, by rw [T1.out]; have := HACC2.out; unfold flat_Text.one at this; rw [if_neg C4.out] at this; exact this, by have := HAL.out; omega, HI4.out⟩, ⟨(by repeat (first | (with_reducible first | exact HB.out | apply below_alloc | apply pw_below_drewN | apply below_drew1 | refine below_set ?_ GE.out) | exact HB.out))⟩⟩
      · have c3b : decide (i < (l0.length : Int)) = false := decide_eq_false c3
        have HBW := Aside0.mk HB.out.size
        have hacc := HACC.out
        rw [List.drop_eq_nil_of_le (by omega)] at hacc
        have HACC2 := Aside0.mk (show acc = flat_Text.txt l0 from by rw [← hacc]; simp [flat_Text.txt])
        clear HACC hacc hI hL c3
        go_wp2_with fail
        refine (Tryd.Builder_String_any_k w.heap.size gA acc _ HI.out HBW.out).mono ?_
        rintro e W1 ⟨rfl, h1, b1, k1⟩
        have n1_ := Aside0.mk (HB.out.trans b1)
        clear HB h1 b1 k1
        go_wp2
        go_ret
        exact ⟨by first | (rw [HACC2.out]; done) | (rw [HACC2.out]; rfl) | (simp only [HACC2.out]; done), n1_.out⟩
  · rw [if_neg hl] at h
    cases h

end Go.Proofs.YtfcfomconcoimaaDoor.PFa
