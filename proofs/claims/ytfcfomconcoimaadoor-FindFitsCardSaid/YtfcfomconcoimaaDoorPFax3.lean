-- Written for this claim by a program (the kit's print, with hand-made contracts for what it does not take).
import Derived.Test.YtfcfomconcoimaaDoorPFax0
import Derived.Test.YtfcfomconcoimaaDoorPFax2
namespace Go.Proofs.YtfcfomconcoimaaDoor.PFa
open Go.RowKit Go.Proofs.YtfcfomconcoimaaDoorW.PrintWords Go.Proofs.YtfcfomconcoimaaDoorW.PrintLast Go.Proofs.YtfcfomconcoimaaDoorW.PrintMore
attribute [local go_sem] max2_int min2_int max_two min_two max_three min_three max_four min_four   -- for this text's walks alone
set_option linter.unusedVariables false
set_option linter.unusedSimpArgs false

/-! ### flat_Check: function 10 -/

def flat_Check.l0 : List S48 → Int → Int → Option (Int × Int)
  | [], n, i => if n > 0 then some (i, 3) else some (i, 0)
  | t :: ts, n, i => (flat_Right.f t.f0 t.f1 t.f2 t.f3).bind fun b => if b = true then (if t.f0 = 2 then (if n = 0 then some (i, 4) else flat_Check.l0 ts (n - 1) (i + 1)) else if t.f0 = 1 then (if n = 32 then some (i, 8) else flat_Check.l0 ts (n + 1) (i + 1)) else flat_Check.l0 ts n (i + 1)) else some (i, 4)
def flat_Check.f (l0 : List S48) : Option (Int × Int) := if (l0.length : Int) > 2048 then some (0, 2) else flat_Check.l0 l0 0 0
/-- The array of what is open: it is written, never read. -/
def flat_Check.Arr (W : World) (g : Nat) : Prop := ∃ cs : Array Value, cs.size = 32 ∧ (∀ v ∈ cs, v.oneCell' = true) ∧ W.heap[g]? = some (.cells cs 72 (0, 0))
theorem flat_Check.arr_below {W W1 : World} {g : Nat} (h : flat_Check.Arr W g) (hb : Below W.heap.size W W1) : flat_Check.Arr W1 g := by
  obtain ⟨cs, h1, h2, h3⟩ := h
  exact ⟨cs, h1, h2, blk_below h3 hb⟩
theorem flat_Check.arr_far {W : World} {g b j : Nat} (h : flat_Check.Arr W g) (hne : g ≠ b) (u : Value) : flat_Check.Arr (W.setCell ⟨b, j, none⟩ u) g := by
  obtain ⟨cs, h1, h2, h3⟩ := h
  exact ⟨cs, h1, h2, blk_far h3 hne u⟩
theorem flat_Check.arr_drewN {W : World} {g : Nat} (h : flat_Check.Arr W g) (m : Nat) : flat_Check.Arr (W.drewN m) g := h
theorem flat_Check.arr_drew {W : World} {g : Nat} (h : flat_Check.Arr W g) : flat_Check.Arr W.drew g := h
theorem flat_Check.arr_set {W : World} {g : Nat} (h : flat_Check.Arr W g) (j : Nat) (x : Int) : flat_Check.Arr (W.setCell ⟨g, j, none⟩ (.int .i64 x)) g := by
  obtain ⟨cs, h1, h2, h3⟩ := h
  refine ⟨cs.setIfInBounds j (.int .i64 x), by simpa using h1, ?_, by simpa using blk_set h3 j (.int .i64 x)⟩
  intro v hv
  rcases Array.mem_or_eq_of_mem_setIfInBounds hv with hv | hv
  · exact h2 v hv
  · subst hv
    rfl
theorem flat_Check.arr_cell {W : World} {g : Nat} (h : flat_Check.Arr W g) (j : Nat) (hj : j < 32) : (∃ v, W.cell? ⟨g, j, none⟩ = some v ∧ v.oneCell' = true) ∧ W.frozen? ⟨g, j, none⟩ = false := by
  obtain ⟨cs, h1, h2, h3⟩ := h
  refine ⟨⟨cs[j]'(by omega), ?_, h2 _ (Array.getElem_mem _)⟩, blk_frozen h3 j⟩
  rw [blk_cell h3 j]
  exact Array.getElem?_eq_getElem _
theorem flat_Check.step (l0 : List S48) (n i : Int) (hi : i.toNat < l0.length) : flat_Check.l0 (l0.drop i.toNat) n i = (flat_Right.f (rd_T48 l0 i).f0 (rd_T48 l0 i).f1 (rd_T48 l0 i).f2 (rd_T48 l0 i).f3).bind fun b => if b = true then (if (rd_T48 l0 i).f0 = 2 then (if n = 0 then some (i, 4) else flat_Check.l0 (l0.drop (i.toNat + 1)) (n - 1) (i + 1)) else if (rd_T48 l0 i).f0 = 1 then (if n = 32 then some (i, 8) else flat_Check.l0 (l0.drop (i.toNat + 1)) (n + 1) (i + 1)) else flat_Check.l0 (l0.drop (i.toNat + 1)) n (i + 1)) else some (i, 4) := by
  have e : rd_T48 l0 i = l0[i.toNat] := by simp [rd_T48, List.getD_eq_getElem?_getD, List.getElem?_eq_getElem hi]
  rw [List.drop_eq_getElem_cons hi, e]
  rfl

set_option maxHeartbeats 8000000 in
set_option maxRecDepth 100000 in
theorem flat_Check.calls (A0 : Option Addr) (c0 : Nat) (l0 : List S48) (r1 : Int) (r2 : Int) (w : World) (hr0 : Kd.C k48 w A0 l0.length l0) (hc0 : l0.length ≤ c0) (h : flat_Check.f l0 = some (r1, r2)) :
    Calls Tryd.prog 10 #[.slice A0 l0.length c0] w fun e w' => e = .returned (.tuple #[.int .i64 r1, .int .i64 r2]) ∧ Below w.heap.size w w' := by
  have hu_ := Tryd.underlying48
  have hu2_ := Tryd.underlying72
  have HR0 := Aside0.mk hr0
  have HC0 := Aside0.mk hc0
  clear hr0 hc0
  have HB := Aside0.mk (Below.refl w.heap.size w)
  unfold flat_Check.f at h
  by_cases c2 : (l0.length : Int) > 2048
  · rw [if_pos c2] at h
    have c2b0 : decide (2048 < (l0.length : Int)) = true := decide_eq_true c2
    have c2b1 : decide (2048 < l0.length) = true := decide_eq_true (by omega)
    clear c2
    simp only [Option.some.injEq, Prod.mk.injEq] at h
    obtain ⟨rfl, rfl⟩ := h
    go_enter Tryd.func10, Tryd.ntmps10
    go_wp2
    go_ret2
    exact ⟨rfl, HB.out⟩
  · rw [if_neg c2] at h
    have c2b0 : decide (2048 < (l0.length : Int)) = false := decide_eq_false c2
    have c2b1 : decide (2048 < l0.length) = false := decide_eq_false (by omega)
    have HL := Aside0.mk (show l0.length ≤ 2048 from by omega)
    clear c2
    have H' := Aside0.mk h
    clear h
    go_enter Tryd.func10, Tryd.ntmps10
    go_wp2_with (first | ((with_reducible refine gate_dst (N := 4) rfl ?_); refine box_event ?hg (N := 4) ?hd (cs := Array.replicate 32 (.int .i64 0)) (t := 72) ?hr ?_; (case hd => rfl); (case hg => rfl); (case hr => first | (go_simp; done) | (go_simp; rfl)); intro gA hg w3 hbox hb; have n0_ := Aside0.mk (below_step (by repeat (first | (with_reducible first | exact HB.out | apply below_alloc | apply pw_below_drewN | apply below_drew1) | exact HB.out)) hb); have GA := Aside0.mk ((by rw [hg]; exact (below_size (by repeat (first | (with_reducible first | exact HB.out | apply below_alloc | apply pw_below_drewN | apply below_drew1) | exact HB.out)))) : w.heap.size ≤ gA); have HAR := Aside0.mk (show flat_Check.Arr w3 gA from ⟨_, by simp, by simp [Value.oneCell'], hbox⟩); clear HB; have HB := n0_; clear n0_ hb hbox hg))
    go_loopg [5, 13] l0.length (fun kq v5 v13 w' => ∃ (n i : Int), v5 = .int .i64 n ∧ v13 = .int .i64 i ∧ Aside0 (0 ≤ i ∧ i + kq = l0.length) ∧ Aside0 (0 ≤ n ∧ n ≤ 32) ∧ Aside0 (flat_Check.l0 (l0.drop i.toNat) n i = some (r1, r2)) ∧ Aside0 (flat_Check.Arr w' gA) ∧ Aside0 (Below w.heap.size w w'))
    case atStart => exact ⟨0, 0, rfl, rfl, ⟨by omega⟩, ⟨by omega⟩, H', HAR, HB⟩
    case round =>
      clear H' HAR HB c2b0 c2b1
      obtain ⟨n, i, rfl, rfl, HI, HN, HA, HAR, HB⟩ := hrel
      have hI := HI.out
      have hN := HN.out
      have h := HA.out
      have hL := HL.out
      clear HI HN HA HL
      by_cases c3 : i < (l0.length : Int)
      · have c3b : decide (i < (l0.length : Int)) = true := decide_eq_true c3
        have c3c : decide (0 ≤ i) = true := decide_eq_true hI.1
        rw [flat_Check.step l0 n i (by omega)] at h
        obtain ⟨tb, A60, h⟩ := Option.bind_eq_some_iff.mp h
        have A6 := Aside0.mk A60
        clear A60
        obtain ⟨ad, e_, hx0, hx1, hx2, hx3⟩ := at_T48 HR0.out i hI.1 c3
        cases e_
        replace hx0 := (HB.out.cell (World.block_lt_of_cell? w _ hx0)).trans hx0
        replace hx1 := (HB.out.cell (World.block_lt_of_cell? w _ hx1)).trans hx1
        replace hx2 := (HB.out.cell (World.block_lt_of_cell? w _ hx2)).trans hx2
        replace hx3 := (HB.out.cell (World.block_lt_of_cell? w _ hx3)).trans hx3
        have HI := Aside0.mk hI
        have HN := Aside0.mk hN
        have C3 := Aside0.mk c3
        have p1 := eq_true hI.1
        have q1 := eq_true c3
        have wi : wrap64 (i + 1) = i + 1 := by unfold wrap64; omega
        have wn : wrap64 (n + 1) = n + 1 := by unfold wrap64; omega
        have wm : 0 < n → wrap64 (n - 1) = n - 1 := by intro _; unfold wrap64; omega
        have WI := Aside0.mk wi
        have WN := Aside0.mk wn
        have WM := Aside0.mk wm
        clear wi wn wm
        have T1 := Aside0.mk (show (i + 1).toNat = i.toNat + 1 from by omega)
        clear hI hN c3 hL
        cases tb with
        | false =>
          rw [if_neg (by decide)] at h
          simp only [Option.some.injEq, Prod.mk.injEq] at h
          obtain ⟨rfl, rfl⟩ := h
          go_wp2_with (first | ((with_reducible refine gate_dst (N := 7) rfl ?_); refine box_event ?hg (N := 7) ?hd (cs := #[.int .i64 0, .int .i64 0, .int .i64 0, .int .i64 0]) (t := 48) ?hr ?_; (case hd => rfl); (case hg => rfl); (case hr => first | (go_simp; done) | (go_simp; rfl)); intro gb hg w8 hbox hb; have n0_ := Aside0.mk (below_step (by repeat (first | (with_reducible first | exact HB.out | apply below_alloc | apply pw_below_drewN | apply below_drew1) | exact HB.out)) hb); have n2_ := Aside0.mk ((by rw [hg]; exact (below_size (by repeat (first | (with_reducible first | exact HB.out | apply below_alloc | apply pw_below_drewN | apply below_drew1) | exact HB.out)))) : w.heap.size ≤ gb); have n3_ := Aside0.mk (flat_Check.arr_below HAR.out hb); clear HB HAR; have HB := n0_; have BK := Aside0.mk hbox; have GE := n2_; have HAR := n3_; have HNE := Aside0.mk (show gA ≠ gb from by obtain ⟨_, _, _, ha_⟩ := HAR.out; exact blk_ne ha_ BK.out (by decide)); clear n0_ n2_ n3_; clear hb hbox hg; have hcz_0 : w8.cell? ⟨gb, 0, none⟩ = some (.int .i64 0) := (blk_cell BK.out 0).trans rfl; have hcz_1 : w8.cell? ⟨gb, 1, none⟩ = some (.int .i64 0) := (blk_cell BK.out 1).trans rfl; have hcz_2 : w8.cell? ⟨gb, 2, none⟩ = some (.int .i64 0) := (blk_cell BK.out 2).trans rfl; have hcz_3 : w8.cell? ⟨gb, 3, none⟩ = some (.int .i64 0) := (blk_cell BK.out 3).trans rfl; have hfz_0 := blk_frozen BK.out 0; have hfz_1 := blk_frozen BK.out 1; have hfz_2 := blk_frozen BK.out 2; have hfz_3 := blk_frozen BK.out 3))
          refine (flat_Right.calls (rd_T48 l0 i).f0 (rd_T48 l0 i).f1 (rd_T48 l0 i).f2 (rd_T48 l0 i).f3 _ _ A6.out).mono ?_
          rintro e w10 ⟨rfl, hb⟩
          have n0_ := Aside0.mk (blk_below (g := gb) (o := .cells #[.int .i64 (rd_T48 l0 i).f0, .int .i64 (rd_T48 l0 i).f1, .int .i64 (rd_T48 l0 i).f2, .int .i64 (rd_T48 l0 i).f3] 48 (0, 0)) (by (with_reducible repeat (first | refine blk_drewN ?_ _ | refine blk_drew ?_ | refine blk_alloc ?_ _)); refine blk_put (cs := #[.int .i64 (rd_T48 l0 i).f0, .int .i64 (rd_T48 l0 i).f1, .int .i64 (rd_T48 l0 i).f2, .int .i64 0]) ?_ 3 _ rfl; (with_reducible repeat (first | refine blk_drewN ?_ _ | refine blk_drew ?_ | refine blk_alloc ?_ _)); refine blk_put (cs := #[.int .i64 (rd_T48 l0 i).f0, .int .i64 (rd_T48 l0 i).f1, .int .i64 0, .int .i64 0]) ?_ 2 _ rfl; (with_reducible repeat (first | refine blk_drewN ?_ _ | refine blk_drew ?_ | refine blk_alloc ?_ _)); refine blk_put (cs := #[.int .i64 (rd_T48 l0 i).f0, .int .i64 0, .int .i64 0, .int .i64 0]) ?_ 1 _ rfl; (with_reducible repeat (first | refine blk_drewN ?_ _ | refine blk_drew ?_ | refine blk_alloc ?_ _)); refine blk_put (cs := #[.int .i64 0, .int .i64 0, .int .i64 0, .int .i64 0]) ?_ 0 _ rfl; (with_reducible repeat (first | refine blk_drewN ?_ _ | refine blk_drew ?_ | refine blk_alloc ?_ _)); exact BK.out) hb)
          have n1_ := Aside0.mk (below_step (by repeat (first | (with_reducible first | exact HB.out | apply below_alloc | apply pw_below_drewN | apply below_drew1 | refine below_set ?_ GE.out) | exact HB.out)) hb)
          have n2_ := Aside0.mk (flat_Check.arr_below (by repeat (with_reducible first | exact HAR.out | refine flat_Check.arr_drewN ?_ _ | refine flat_Check.arr_drew ?_ | refine flat_Check.arr_far ?_ HNE.out _)) hb)
          clear BK HB HAR
          have BK := n0_
          have HB := n1_
          have HAR := n2_
          clear n0_ n1_ n2_ hb
          clear hcz_0 hcz_1 hcz_2 hcz_3 hfz_0 hfz_1 hfz_2 hfz_3
          have hcy_0 : w10.cell? ⟨gb, 0, none⟩ = some (.int .i64 (rd_T48 l0 i).f0) := (blk_cell BK.out 0).trans rfl
          have hcy_1 : w10.cell? ⟨gb, 1, none⟩ = some (.int .i64 (rd_T48 l0 i).f1) := (blk_cell BK.out 1).trans rfl
          have hcy_2 : w10.cell? ⟨gb, 2, none⟩ = some (.int .i64 (rd_T48 l0 i).f2) := (blk_cell BK.out 2).trans rfl
          have hcy_3 : w10.cell? ⟨gb, 3, none⟩ = some (.int .i64 (rd_T48 l0 i).f3) := (blk_cell BK.out 3).trans rfl
          go_wp2
          go_ret2
          exact ⟨rfl, (by repeat (first | (with_reducible first | exact HB.out | apply below_alloc | apply pw_below_drewN | apply below_drew1 | refine below_set ?_ GE.out) | exact HB.out))⟩
        | true =>
          rw [if_pos rfl] at h
          by_cases c4 : (rd_T48 l0 i).f0 = 2
          · rw [if_pos c4] at h
            have c4b0 : ((rd_T48 l0 i).f0 == 2) = true := beq_iff_eq.mpr c4
            have c4b1 : ((rd_T48 l0 i).f0 == 1) = false := beq_eq_false_iff_ne.mpr (by omega)
            clear c4
            by_cases c5 : n = 0
            · rw [if_pos c5] at h
              have c5b0 : (n == 0) = true := beq_iff_eq.mpr c5
              clear c5
              simp only [Option.some.injEq, Prod.mk.injEq] at h
              obtain ⟨rfl, rfl⟩ := h
              go_wp2_with (first | ((with_reducible refine gate_dst (N := 7) rfl ?_); refine box_event ?hg (N := 7) ?hd (cs := #[.int .i64 0, .int .i64 0, .int .i64 0, .int .i64 0]) (t := 48) ?hr ?_; (case hd => rfl); (case hg => rfl); (case hr => first | (go_simp; done) | (go_simp; rfl)); intro gb hg w8 hbox hb; have n0_ := Aside0.mk (below_step (by repeat (first | (with_reducible first | exact HB.out | apply below_alloc | apply pw_below_drewN | apply below_drew1) | exact HB.out)) hb); have n2_ := Aside0.mk ((by rw [hg]; exact (below_size (by repeat (first | (with_reducible first | exact HB.out | apply below_alloc | apply pw_below_drewN | apply below_drew1) | exact HB.out)))) : w.heap.size ≤ gb); have n3_ := Aside0.mk (flat_Check.arr_below HAR.out hb); clear HB HAR; have HB := n0_; have BK := Aside0.mk hbox; have GE := n2_; have HAR := n3_; have HNE := Aside0.mk (show gA ≠ gb from by obtain ⟨_, _, _, ha_⟩ := HAR.out; exact blk_ne ha_ BK.out (by decide)); clear n0_ n2_ n3_; clear hb hbox hg; have hcz_0 : w8.cell? ⟨gb, 0, none⟩ = some (.int .i64 0) := (blk_cell BK.out 0).trans rfl; have hcz_1 : w8.cell? ⟨gb, 1, none⟩ = some (.int .i64 0) := (blk_cell BK.out 1).trans rfl; have hcz_2 : w8.cell? ⟨gb, 2, none⟩ = some (.int .i64 0) := (blk_cell BK.out 2).trans rfl; have hcz_3 : w8.cell? ⟨gb, 3, none⟩ = some (.int .i64 0) := (blk_cell BK.out 3).trans rfl; have hfz_0 := blk_frozen BK.out 0; have hfz_1 := blk_frozen BK.out 1; have hfz_2 := blk_frozen BK.out 2; have hfz_3 := blk_frozen BK.out 3))
              refine (flat_Right.calls (rd_T48 l0 i).f0 (rd_T48 l0 i).f1 (rd_T48 l0 i).f2 (rd_T48 l0 i).f3 _ _ A6.out).mono ?_
              rintro e w10 ⟨rfl, hb⟩
              have n0_ := Aside0.mk (blk_below (g := gb) (o := .cells #[.int .i64 (rd_T48 l0 i).f0, .int .i64 (rd_T48 l0 i).f1, .int .i64 (rd_T48 l0 i).f2, .int .i64 (rd_T48 l0 i).f3] 48 (0, 0)) (by (with_reducible repeat (first | refine blk_drewN ?_ _ | refine blk_drew ?_ | refine blk_alloc ?_ _)); refine blk_put (cs := #[.int .i64 (rd_T48 l0 i).f0, .int .i64 (rd_T48 l0 i).f1, .int .i64 (rd_T48 l0 i).f2, .int .i64 0]) ?_ 3 _ rfl; (with_reducible repeat (first | refine blk_drewN ?_ _ | refine blk_drew ?_ | refine blk_alloc ?_ _)); refine blk_put (cs := #[.int .i64 (rd_T48 l0 i).f0, .int .i64 (rd_T48 l0 i).f1, .int .i64 0, .int .i64 0]) ?_ 2 _ rfl; (with_reducible repeat (first | refine blk_drewN ?_ _ | refine blk_drew ?_ | refine blk_alloc ?_ _)); refine blk_put (cs := #[.int .i64 (rd_T48 l0 i).f0, .int .i64 0, .int .i64 0, .int .i64 0]) ?_ 1 _ rfl; (with_reducible repeat (first | refine blk_drewN ?_ _ | refine blk_drew ?_ | refine blk_alloc ?_ _)); refine blk_put (cs := #[.int .i64 0, .int .i64 0, .int .i64 0, .int .i64 0]) ?_ 0 _ rfl; (with_reducible repeat (first | refine blk_drewN ?_ _ | refine blk_drew ?_ | refine blk_alloc ?_ _)); exact BK.out) hb)
              have n1_ := Aside0.mk (below_step (by repeat (first | (with_reducible first | exact HB.out | apply below_alloc | apply pw_below_drewN | apply below_drew1 | refine below_set ?_ GE.out) | exact HB.out)) hb)
              have n2_ := Aside0.mk (flat_Check.arr_below (by repeat (with_reducible first | exact HAR.out | refine flat_Check.arr_drewN ?_ _ | refine flat_Check.arr_drew ?_ | refine flat_Check.arr_far ?_ HNE.out _)) hb)
              clear BK HB HAR
              have BK := n0_
              have HB := n1_
              have HAR := n2_
              clear n0_ n1_ n2_ hb
              clear hcz_0 hcz_1 hcz_2 hcz_3 hfz_0 hfz_1 hfz_2 hfz_3
              have hcy_0 : w10.cell? ⟨gb, 0, none⟩ = some (.int .i64 (rd_T48 l0 i).f0) := (blk_cell BK.out 0).trans rfl
              have hcy_1 : w10.cell? ⟨gb, 1, none⟩ = some (.int .i64 (rd_T48 l0 i).f1) := (blk_cell BK.out 1).trans rfl
              have hcy_2 : w10.cell? ⟨gb, 2, none⟩ = some (.int .i64 (rd_T48 l0 i).f2) := (blk_cell BK.out 2).trans rfl
              have hcy_3 : w10.cell? ⟨gb, 3, none⟩ = some (.int .i64 (rd_T48 l0 i).f3) := (blk_cell BK.out 3).trans rfl
              go_wp2
              go_ret2
              exact ⟨rfl, (by repeat (first | (with_reducible first | exact HB.out | apply below_alloc | apply pw_below_drewN | apply below_drew1 | refine below_set ?_ GE.out) | exact HB.out))⟩
            · rw [if_neg c5] at h
              have c5b0 : (n == 0) = false := beq_eq_false_iff_ne.mpr c5
              have C5 := Aside0.mk c5
              have wm := WM.out (by have := HN.out; omega)
              clear c5
              have H' := Aside0.mk h
              clear h
              go_wp2_with (first | ((with_reducible refine gate_dst (N := 7) rfl ?_); refine box_event ?hg (N := 7) ?hd (cs := #[.int .i64 0, .int .i64 0, .int .i64 0, .int .i64 0]) (t := 48) ?hr ?_; (case hd => rfl); (case hg => rfl); (case hr => first | (go_simp; done) | (go_simp; rfl)); intro gb hg w8 hbox hb; have n0_ := Aside0.mk (below_step (by repeat (first | (with_reducible first | exact HB.out | apply below_alloc | apply pw_below_drewN | apply below_drew1) | exact HB.out)) hb); have n2_ := Aside0.mk ((by rw [hg]; exact (below_size (by repeat (first | (with_reducible first | exact HB.out | apply below_alloc | apply pw_below_drewN | apply below_drew1) | exact HB.out)))) : w.heap.size ≤ gb); have n3_ := Aside0.mk (flat_Check.arr_below HAR.out hb); clear HB HAR; have HB := n0_; have BK := Aside0.mk hbox; have GE := n2_; have HAR := n3_; have HNE := Aside0.mk (show gA ≠ gb from by obtain ⟨_, _, _, ha_⟩ := HAR.out; exact blk_ne ha_ BK.out (by decide)); clear n0_ n2_ n3_; clear hb hbox hg; have hcz_0 : w8.cell? ⟨gb, 0, none⟩ = some (.int .i64 0) := (blk_cell BK.out 0).trans rfl; have hcz_1 : w8.cell? ⟨gb, 1, none⟩ = some (.int .i64 0) := (blk_cell BK.out 1).trans rfl; have hcz_2 : w8.cell? ⟨gb, 2, none⟩ = some (.int .i64 0) := (blk_cell BK.out 2).trans rfl; have hcz_3 : w8.cell? ⟨gb, 3, none⟩ = some (.int .i64 0) := (blk_cell BK.out 3).trans rfl; have hfz_0 := blk_frozen BK.out 0; have hfz_1 := blk_frozen BK.out 1; have hfz_2 := blk_frozen BK.out 2; have hfz_3 := blk_frozen BK.out 3))
              refine (flat_Right.calls (rd_T48 l0 i).f0 (rd_T48 l0 i).f1 (rd_T48 l0 i).f2 (rd_T48 l0 i).f3 _ _ A6.out).mono ?_
              rintro e w10 ⟨rfl, hb⟩
              have n0_ := Aside0.mk (blk_below (g := gb) (o := .cells #[.int .i64 (rd_T48 l0 i).f0, .int .i64 (rd_T48 l0 i).f1, .int .i64 (rd_T48 l0 i).f2, .int .i64 (rd_T48 l0 i).f3] 48 (0, 0)) (by (with_reducible repeat (first | refine blk_drewN ?_ _ | refine blk_drew ?_ | refine blk_alloc ?_ _)); refine blk_put (cs := #[.int .i64 (rd_T48 l0 i).f0, .int .i64 (rd_T48 l0 i).f1, .int .i64 (rd_T48 l0 i).f2, .int .i64 0]) ?_ 3 _ rfl; (with_reducible repeat (first | refine blk_drewN ?_ _ | refine blk_drew ?_ | refine blk_alloc ?_ _)); refine blk_put (cs := #[.int .i64 (rd_T48 l0 i).f0, .int .i64 (rd_T48 l0 i).f1, .int .i64 0, .int .i64 0]) ?_ 2 _ rfl; (with_reducible repeat (first | refine blk_drewN ?_ _ | refine blk_drew ?_ | refine blk_alloc ?_ _)); refine blk_put (cs := #[.int .i64 (rd_T48 l0 i).f0, .int .i64 0, .int .i64 0, .int .i64 0]) ?_ 1 _ rfl; (with_reducible repeat (first | refine blk_drewN ?_ _ | refine blk_drew ?_ | refine blk_alloc ?_ _)); refine blk_put (cs := #[.int .i64 0, .int .i64 0, .int .i64 0, .int .i64 0]) ?_ 0 _ rfl; (with_reducible repeat (first | refine blk_drewN ?_ _ | refine blk_drew ?_ | refine blk_alloc ?_ _)); exact BK.out) hb)
              have n1_ := Aside0.mk (below_step (by repeat (first | (with_reducible first | exact HB.out | apply below_alloc | apply pw_below_drewN | apply below_drew1 | refine below_set ?_ GE.out) | exact HB.out)) hb)
              have n2_ := Aside0.mk (flat_Check.arr_below (by repeat (with_reducible first | exact HAR.out | refine flat_Check.arr_drewN ?_ _ | refine flat_Check.arr_drew ?_ | refine flat_Check.arr_far ?_ HNE.out _)) hb)
              clear BK HB HAR
              have BK := n0_
              have HB := n1_
              have HAR := n2_
              clear n0_ n1_ n2_ hb
              clear hcz_0 hcz_1 hcz_2 hcz_3 hfz_0 hfz_1 hfz_2 hfz_3
              have hcy_0 : w10.cell? ⟨gb, 0, none⟩ = some (.int .i64 (rd_T48 l0 i).f0) := (blk_cell BK.out 0).trans rfl
              have hcy_1 : w10.cell? ⟨gb, 1, none⟩ = some (.int .i64 (rd_T48 l0 i).f1) := (blk_cell BK.out 1).trans rfl
              have hcy_2 : w10.cell? ⟨gb, 2, none⟩ = some (.int .i64 (rd_T48 l0 i).f2) := (blk_cell BK.out 2).trans rfl
              have hcy_3 : w10.cell? ⟨gb, 3, none⟩ = some (.int .i64 (rd_T48 l0 i).f3) := (blk_cell BK.out 3).trans rfl
              go_wp2
              go_roundg (gk - 1)
              case measure => have := HI.out; have := C3.out; omega
              case rel => exact ⟨n - 1, i + 1, by first | rfl | (rw [WN.out]; done) | go_num, by first | rfl | (rw [WI.out]; done) | go_num, ⟨by have := HI.out; have := C3.out; omega⟩, ⟨by have := HN.out; have := C5.out; omega⟩, ⟨by rw [T1.out]; exact H'.out⟩, ⟨(by repeat (with_reducible first | exact HAR.out | refine flat_Check.arr_drewN ?_ _ | refine flat_Check.arr_drew ?_ | refine flat_Check.arr_far ?_ HNE.out _ | refine flat_Check.arr_set ?_ _ _))⟩, ⟨(by repeat (first | (with_reducible first | exact HB.out | apply below_alloc | apply pw_below_drewN | apply below_drew1 | refine below_set ?_ GE.out | refine below_set ?_ GA.out) | exact HB.out))⟩⟩
          · rw [if_neg c4] at h
            have c4b0 : ((rd_T48 l0 i).f0 == 2) = false := beq_eq_false_iff_ne.mpr c4
            clear c4
            by_cases c6 : (rd_T48 l0 i).f0 = 1
            · rw [if_pos c6] at h
              have c6b0 : ((rd_T48 l0 i).f0 == 1) = true := beq_iff_eq.mpr c6
              clear c6
              by_cases c7 : n = 32
              · rw [if_pos c7] at h
                have c7b0 : (n == 32) = true := beq_iff_eq.mpr c7
                clear c7
                simp only [Option.some.injEq, Prod.mk.injEq] at h
                obtain ⟨rfl, rfl⟩ := h
                go_wp2_with (first | ((with_reducible refine gate_dst (N := 7) rfl ?_); refine box_event ?hg (N := 7) ?hd (cs := #[.int .i64 0, .int .i64 0, .int .i64 0, .int .i64 0]) (t := 48) ?hr ?_; (case hd => rfl); (case hg => rfl); (case hr => first | (go_simp; done) | (go_simp; rfl)); intro gb hg w8 hbox hb; have n0_ := Aside0.mk (below_step (by repeat (first | (with_reducible first | exact HB.out | apply below_alloc | apply pw_below_drewN | apply below_drew1) | exact HB.out)) hb); have n2_ := Aside0.mk ((by rw [hg]; exact (below_size (by repeat (first | (with_reducible first | exact HB.out | apply below_alloc | apply pw_below_drewN | apply below_drew1) | exact HB.out)))) : w.heap.size ≤ gb); have n3_ := Aside0.mk (flat_Check.arr_below HAR.out hb); clear HB HAR; have HB := n0_; have BK := Aside0.mk hbox; have GE := n2_; have HAR := n3_; have HNE := Aside0.mk (show gA ≠ gb from by obtain ⟨_, _, _, ha_⟩ := HAR.out; exact blk_ne ha_ BK.out (by decide)); clear n0_ n2_ n3_; clear hb hbox hg; have hcz_0 : w8.cell? ⟨gb, 0, none⟩ = some (.int .i64 0) := (blk_cell BK.out 0).trans rfl; have hcz_1 : w8.cell? ⟨gb, 1, none⟩ = some (.int .i64 0) := (blk_cell BK.out 1).trans rfl; have hcz_2 : w8.cell? ⟨gb, 2, none⟩ = some (.int .i64 0) := (blk_cell BK.out 2).trans rfl; have hcz_3 : w8.cell? ⟨gb, 3, none⟩ = some (.int .i64 0) := (blk_cell BK.out 3).trans rfl; have hfz_0 := blk_frozen BK.out 0; have hfz_1 := blk_frozen BK.out 1; have hfz_2 := blk_frozen BK.out 2; have hfz_3 := blk_frozen BK.out 3))
                refine (flat_Right.calls (rd_T48 l0 i).f0 (rd_T48 l0 i).f1 (rd_T48 l0 i).f2 (rd_T48 l0 i).f3 _ _ A6.out).mono ?_
                rintro e w10 ⟨rfl, hb⟩
                have n0_ := Aside0.mk (blk_below (g := gb) (o := .cells #[.int .i64 (rd_T48 l0 i).f0, .int .i64 (rd_T48 l0 i).f1, .int .i64 (rd_T48 l0 i).f2, .int .i64 (rd_T48 l0 i).f3] 48 (0, 0)) (by (with_reducible repeat (first | refine blk_drewN ?_ _ | refine blk_drew ?_ | refine blk_alloc ?_ _)); refine blk_put (cs := #[.int .i64 (rd_T48 l0 i).f0, .int .i64 (rd_T48 l0 i).f1, .int .i64 (rd_T48 l0 i).f2, .int .i64 0]) ?_ 3 _ rfl; (with_reducible repeat (first | refine blk_drewN ?_ _ | refine blk_drew ?_ | refine blk_alloc ?_ _)); refine blk_put (cs := #[.int .i64 (rd_T48 l0 i).f0, .int .i64 (rd_T48 l0 i).f1, .int .i64 0, .int .i64 0]) ?_ 2 _ rfl; (with_reducible repeat (first | refine blk_drewN ?_ _ | refine blk_drew ?_ | refine blk_alloc ?_ _)); refine blk_put (cs := #[.int .i64 (rd_T48 l0 i).f0, .int .i64 0, .int .i64 0, .int .i64 0]) ?_ 1 _ rfl; (with_reducible repeat (first | refine blk_drewN ?_ _ | refine blk_drew ?_ | refine blk_alloc ?_ _)); refine blk_put (cs := #[.int .i64 0, .int .i64 0, .int .i64 0, .int .i64 0]) ?_ 0 _ rfl; (with_reducible repeat (first | refine blk_drewN ?_ _ | refine blk_drew ?_ | refine blk_alloc ?_ _)); exact BK.out) hb)
                have n1_ := Aside0.mk (below_step (by repeat (first | (with_reducible first | exact HB.out | apply below_alloc | apply pw_below_drewN | apply below_drew1 | refine below_set ?_ GE.out) | exact HB.out)) hb)
                have n2_ := Aside0.mk (flat_Check.arr_below (by repeat (with_reducible first | exact HAR.out | refine flat_Check.arr_drewN ?_ _ | refine flat_Check.arr_drew ?_ | refine flat_Check.arr_far ?_ HNE.out _)) hb)
                clear BK HB HAR
                have BK := n0_
                have HB := n1_
                have HAR := n2_
                clear n0_ n1_ n2_ hb
                clear hcz_0 hcz_1 hcz_2 hcz_3 hfz_0 hfz_1 hfz_2 hfz_3
                have hcy_0 : w10.cell? ⟨gb, 0, none⟩ = some (.int .i64 (rd_T48 l0 i).f0) := (blk_cell BK.out 0).trans rfl
                have hcy_1 : w10.cell? ⟨gb, 1, none⟩ = some (.int .i64 (rd_T48 l0 i).f1) := (blk_cell BK.out 1).trans rfl
                have hcy_2 : w10.cell? ⟨gb, 2, none⟩ = some (.int .i64 (rd_T48 l0 i).f2) := (blk_cell BK.out 2).trans rfl
                have hcy_3 : w10.cell? ⟨gb, 3, none⟩ = some (.int .i64 (rd_T48 l0 i).f3) := (blk_cell BK.out 3).trans rfl
                go_wp2
                go_ret2
                exact ⟨rfl, (by repeat (first | (with_reducible first | exact HB.out | apply below_alloc | apply pw_below_drewN | apply below_drew1 | refine below_set ?_ GE.out) | exact HB.out))⟩
              · rw [if_neg c7] at h
                have c7b0 : (n == 32) = false := beq_eq_false_iff_ne.mpr c7
                have C7 := Aside0.mk c7
                have q7 : n < 32 := by have := HN.out; omega
                have q8 : 0 ≤ n := HN.out.1
                have wn := WN.out
                clear c7
                have H' := Aside0.mk h
                clear h
                go_wp2_with (first | ((with_reducible refine gate_dst (N := 7) rfl ?_); refine box_event ?hg (N := 7) ?hd (cs := #[.int .i64 0, .int .i64 0, .int .i64 0, .int .i64 0]) (t := 48) ?hr ?_; (case hd => rfl); (case hg => rfl); (case hr => first | (go_simp; done) | (go_simp; rfl)); intro gb hg w8 hbox hb; have n0_ := Aside0.mk (below_step (by repeat (first | (with_reducible first | exact HB.out | apply below_alloc | apply pw_below_drewN | apply below_drew1) | exact HB.out)) hb); have n2_ := Aside0.mk ((by rw [hg]; exact (below_size (by repeat (first | (with_reducible first | exact HB.out | apply below_alloc | apply pw_below_drewN | apply below_drew1) | exact HB.out)))) : w.heap.size ≤ gb); have n3_ := Aside0.mk (flat_Check.arr_below HAR.out hb); clear HB HAR; have HB := n0_; have BK := Aside0.mk hbox; have GE := n2_; have HAR := n3_; have HNE := Aside0.mk (show gA ≠ gb from by obtain ⟨_, _, _, ha_⟩ := HAR.out; exact blk_ne ha_ BK.out (by decide)); clear n0_ n2_ n3_; clear hb hbox hg; have hcz_0 : w8.cell? ⟨gb, 0, none⟩ = some (.int .i64 0) := (blk_cell BK.out 0).trans rfl; have hcz_1 : w8.cell? ⟨gb, 1, none⟩ = some (.int .i64 0) := (blk_cell BK.out 1).trans rfl; have hcz_2 : w8.cell? ⟨gb, 2, none⟩ = some (.int .i64 0) := (blk_cell BK.out 2).trans rfl; have hcz_3 : w8.cell? ⟨gb, 3, none⟩ = some (.int .i64 0) := (blk_cell BK.out 3).trans rfl; have hfz_0 := blk_frozen BK.out 0; have hfz_1 := blk_frozen BK.out 1; have hfz_2 := blk_frozen BK.out 2; have hfz_3 := blk_frozen BK.out 3))
                refine (flat_Right.calls (rd_T48 l0 i).f0 (rd_T48 l0 i).f1 (rd_T48 l0 i).f2 (rd_T48 l0 i).f3 _ _ A6.out).mono ?_
                rintro e w10 ⟨rfl, hb⟩
                have n0_ := Aside0.mk (blk_below (g := gb) (o := .cells #[.int .i64 (rd_T48 l0 i).f0, .int .i64 (rd_T48 l0 i).f1, .int .i64 (rd_T48 l0 i).f2, .int .i64 (rd_T48 l0 i).f3] 48 (0, 0)) (by (with_reducible repeat (first | refine blk_drewN ?_ _ | refine blk_drew ?_ | refine blk_alloc ?_ _)); refine blk_put (cs := #[.int .i64 (rd_T48 l0 i).f0, .int .i64 (rd_T48 l0 i).f1, .int .i64 (rd_T48 l0 i).f2, .int .i64 0]) ?_ 3 _ rfl; (with_reducible repeat (first | refine blk_drewN ?_ _ | refine blk_drew ?_ | refine blk_alloc ?_ _)); refine blk_put (cs := #[.int .i64 (rd_T48 l0 i).f0, .int .i64 (rd_T48 l0 i).f1, .int .i64 0, .int .i64 0]) ?_ 2 _ rfl; (with_reducible repeat (first | refine blk_drewN ?_ _ | refine blk_drew ?_ | refine blk_alloc ?_ _)); refine blk_put (cs := #[.int .i64 (rd_T48 l0 i).f0, .int .i64 0, .int .i64 0, .int .i64 0]) ?_ 1 _ rfl; (with_reducible repeat (first | refine blk_drewN ?_ _ | refine blk_drew ?_ | refine blk_alloc ?_ _)); refine blk_put (cs := #[.int .i64 0, .int .i64 0, .int .i64 0, .int .i64 0]) ?_ 0 _ rfl; (with_reducible repeat (first | refine blk_drewN ?_ _ | refine blk_drew ?_ | refine blk_alloc ?_ _)); exact BK.out) hb)
                have n1_ := Aside0.mk (below_step (by repeat (first | (with_reducible first | exact HB.out | apply below_alloc | apply pw_below_drewN | apply below_drew1 | refine below_set ?_ GE.out) | exact HB.out)) hb)
                have n2_ := Aside0.mk (flat_Check.arr_below (by repeat (with_reducible first | exact HAR.out | refine flat_Check.arr_drewN ?_ _ | refine flat_Check.arr_drew ?_ | refine flat_Check.arr_far ?_ HNE.out _)) hb)
                clear BK HB HAR
                have BK := n0_
                have HB := n1_
                have HAR := n2_
                clear n0_ n1_ n2_ hb
                clear hcz_0 hcz_1 hcz_2 hcz_3 hfz_0 hfz_1 hfz_2 hfz_3
                have hcy_0 : w10.cell? ⟨gb, 0, none⟩ = some (.int .i64 (rd_T48 l0 i).f0) := (blk_cell BK.out 0).trans rfl
                have hcy_1 : w10.cell? ⟨gb, 1, none⟩ = some (.int .i64 (rd_T48 l0 i).f1) := (blk_cell BK.out 1).trans rfl
                have hcy_2 : w10.cell? ⟨gb, 2, none⟩ = some (.int .i64 (rd_T48 l0 i).f2) := (blk_cell BK.out 2).trans rfl
                have hcy_3 : w10.cell? ⟨gb, 3, none⟩ = some (.int .i64 (rd_T48 l0 i).f3) := (blk_cell BK.out 3).trans rfl
                obtain ⟨⟨va, hva, ho1⟩, hvf⟩ := flat_Check.arr_cell HAR.out n.toNat (by omega)
                go_wp2
                go_roundg (gk - 1)
                case measure => have := HI.out; have := C3.out; omega
                case rel => exact ⟨n + 1, i + 1, by first | rfl | (rw [WN.out]; done) | go_num, by first | rfl | (rw [WI.out]; done) | go_num, ⟨by have := HI.out; have := C3.out; omega⟩, ⟨by have := HN.out; have := C7.out; omega⟩, ⟨by rw [T1.out]; exact H'.out⟩, ⟨(by repeat (with_reducible first | exact HAR.out | refine flat_Check.arr_drewN ?_ _ | refine flat_Check.arr_drew ?_ | refine flat_Check.arr_far ?_ HNE.out _ | refine flat_Check.arr_set ?_ _ _))⟩, ⟨(by repeat (first | (with_reducible first | exact HB.out | apply below_alloc | apply pw_below_drewN | apply below_drew1 | refine below_set ?_ GE.out | refine below_set ?_ GA.out) | exact HB.out))⟩⟩
            · rw [if_neg c6] at h
              have c6b0 : ((rd_T48 l0 i).f0 == 1) = false := beq_eq_false_iff_ne.mpr c6
              clear c6
              have H' := Aside0.mk h
              clear h
              go_wp2_with (first | ((with_reducible refine gate_dst (N := 7) rfl ?_); refine box_event ?hg (N := 7) ?hd (cs := #[.int .i64 0, .int .i64 0, .int .i64 0, .int .i64 0]) (t := 48) ?hr ?_; (case hd => rfl); (case hg => rfl); (case hr => first | (go_simp; done) | (go_simp; rfl)); intro gb hg w8 hbox hb; have n0_ := Aside0.mk (below_step (by repeat (first | (with_reducible first | exact HB.out | apply below_alloc | apply pw_below_drewN | apply below_drew1) | exact HB.out)) hb); have n2_ := Aside0.mk ((by rw [hg]; exact (below_size (by repeat (first | (with_reducible first | exact HB.out | apply below_alloc | apply pw_below_drewN | apply below_drew1) | exact HB.out)))) : w.heap.size ≤ gb); have n3_ := Aside0.mk (flat_Check.arr_below HAR.out hb); clear HB HAR; have HB := n0_; have BK := Aside0.mk hbox; have GE := n2_; have HAR := n3_; have HNE := Aside0.mk (show gA ≠ gb from by obtain ⟨_, _, _, ha_⟩ := HAR.out; exact blk_ne ha_ BK.out (by decide)); clear n0_ n2_ n3_; clear hb hbox hg; have hcz_0 : w8.cell? ⟨gb, 0, none⟩ = some (.int .i64 0) := (blk_cell BK.out 0).trans rfl; have hcz_1 : w8.cell? ⟨gb, 1, none⟩ = some (.int .i64 0) := (blk_cell BK.out 1).trans rfl; have hcz_2 : w8.cell? ⟨gb, 2, none⟩ = some (.int .i64 0) := (blk_cell BK.out 2).trans rfl; have hcz_3 : w8.cell? ⟨gb, 3, none⟩ = some (.int .i64 0) := (blk_cell BK.out 3).trans rfl; have hfz_0 := blk_frozen BK.out 0; have hfz_1 := blk_frozen BK.out 1; have hfz_2 := blk_frozen BK.out 2; have hfz_3 := blk_frozen BK.out 3))
              refine (flat_Right.calls (rd_T48 l0 i).f0 (rd_T48 l0 i).f1 (rd_T48 l0 i).f2 (rd_T48 l0 i).f3 _ _ A6.out).mono ?_
              rintro e w10 ⟨rfl, hb⟩
              have n0_ := Aside0.mk (blk_below (g := gb) (o := .cells #[.int .i64 (rd_T48 l0 i).f0, .int .i64 (rd_T48 l0 i).f1, .int .i64 (rd_T48 l0 i).f2, .int .i64 (rd_T48 l0 i).f3] 48 (0, 0)) (by (with_reducible repeat (first | refine blk_drewN ?_ _ | refine blk_drew ?_ | refine blk_alloc ?_ _)); refine blk_put (cs := #[.int .i64 (rd_T48 l0 i).f0, .int .i64 (rd_T48 l0 i).f1, .int .i64 (rd_T48 l0 i).f2, .int .i64 0]) ?_ 3 _ rfl; (with_reducible repeat (first | refine blk_drewN ?_ _ | refine blk_drew ?_ | refine blk_alloc ?_ _)); refine blk_put (cs := #[.int .i64 (rd_T48 l0 i).f0, .int .i64 (rd_T48 l0 i).f1, .int .i64 0, .int .i64 0]) ?_ 2 _ rfl; (with_reducible repeat (first | refine blk_drewN ?_ _ | refine blk_drew ?_ | refine blk_alloc ?_ _)); refine blk_put (cs := #[.int .i64 (rd_T48 l0 i).f0, .int .i64 0, .int .i64 0, .int .i64 0]) ?_ 1 _ rfl; (with_reducible repeat (first | refine blk_drewN ?_ _ | refine blk_drew ?_ | refine blk_alloc ?_ _)); refine blk_put (cs := #[.int .i64 0, .int .i64 0, .int .i64 0, .int .i64 0]) ?_ 0 _ rfl; (with_reducible repeat (first | refine blk_drewN ?_ _ | refine blk_drew ?_ | refine blk_alloc ?_ _)); exact BK.out) hb)
              have n1_ := Aside0.mk (below_step (by repeat (first | (with_reducible first | exact HB.out | apply below_alloc | apply pw_below_drewN | apply below_drew1 | refine below_set ?_ GE.out) | exact HB.out)) hb)
              have n2_ := Aside0.mk (flat_Check.arr_below (by repeat (with_reducible first | exact HAR.out | refine flat_Check.arr_drewN ?_ _ | refine flat_Check.arr_drew ?_ | refine flat_Check.arr_far ?_ HNE.out _)) hb)
              clear BK HB HAR
              have BK := n0_
              have HB := n1_
              have HAR := n2_
              clear n0_ n1_ n2_ hb
              clear hcz_0 hcz_1 hcz_2 hcz_3 hfz_0 hfz_1 hfz_2 hfz_3
              have hcy_0 : w10.cell? ⟨gb, 0, none⟩ = some (.int .i64 (rd_T48 l0 i).f0) := (blk_cell BK.out 0).trans rfl
              have hcy_1 : w10.cell? ⟨gb, 1, none⟩ = some (.int .i64 (rd_T48 l0 i).f1) := (blk_cell BK.out 1).trans rfl
              have hcy_2 : w10.cell? ⟨gb, 2, none⟩ = some (.int .i64 (rd_T48 l0 i).f2) := (blk_cell BK.out 2).trans rfl
              have hcy_3 : w10.cell? ⟨gb, 3, none⟩ = some (.int .i64 (rd_T48 l0 i).f3) := (blk_cell BK.out 3).trans rfl
              go_wp2
              go_roundg (gk - 1)
              case measure => have := HI.out; have := C3.out; omega
              case rel => exact ⟨n, i + 1, by first | rfl | (rw [WN.out]; done) | go_num, by first | rfl | (rw [WI.out]; done) | go_num, ⟨by have := HI.out; have := C3.out; omega⟩, ⟨by have := HN.out; omega⟩, ⟨by rw [T1.out]; exact H'.out⟩, ⟨(by repeat (with_reducible first | exact HAR.out | refine flat_Check.arr_drewN ?_ _ | refine flat_Check.arr_drew ?_ | refine flat_Check.arr_far ?_ HNE.out _ | refine flat_Check.arr_set ?_ _ _))⟩, ⟨(by repeat (first | (with_reducible first | exact HB.out | apply below_alloc | apply pw_below_drewN | apply below_drew1 | refine below_set ?_ GE.out | refine below_set ?_ GA.out) | exact HB.out))⟩⟩
      · have c3b : decide (i < (l0.length : Int)) = false := decide_eq_false c3
        rw [List.drop_eq_nil_of_le (by omega)] at h
        obtain rfl : i = (l0.length : Int) := by omega
        unfold flat_Check.l0 at h
        by_cases c9 : n > 0
        · rw [if_pos c9] at h
          have c9b : decide (0 < n) = true := decide_eq_true c9
          simp only [Option.some.injEq, Prod.mk.injEq] at h
          obtain ⟨rfl, rfl⟩ := h
          clear hI hN hL c3 c9
          go_wp2
          go_ret2
          exact ⟨rfl, HB.out⟩
        · rw [if_neg c9] at h
          have c9b : decide (0 < n) = false := decide_eq_false c9
          simp only [Option.some.injEq, Prod.mk.injEq] at h
          obtain ⟨rfl, rfl⟩ := h
          clear hI hN hL c3 c9
          go_wp2
          go_ret2
          exact ⟨rfl, HB.out⟩

end Go.Proofs.YtfcfomconcoimaaDoor.PFa
