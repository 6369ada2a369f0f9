-- Written for this claim by a program (the kit's print, with hand-made contracts for what it does not take).
import Derived.Test.YtgafgkojbbndmaaPAsx0
import Derived.Test.YtgafgkojbbndmaaPAsx1
import Derived.Test.YtgafgkojbbndmaaPAsx2
namespace Go.Proofs.Ytgafgkojbbndmaa.PAs
open Go.RowKit Go.Proofs.YtgafgkojbbndmaaW.PrintWords Go.Proofs.YtgafgkojbbndmaaW.PrintLast Go.Proofs.YtgafgkojbbndmaaW.PrintMore
attribute [local go_sem] max2_int min2_int max_two min_two max_three min_three max_four min_four   -- for this text's walks alone
set_option linter.unusedVariables false
set_option linter.unusedSimpArgs false

/-! ### anchor_Set_At: function 14 -/
/-! ### The ids at a place -/
def anc_on (p : Int) (n : S35) : Bool := decide (n.f1 ≤ p) && decide (p < n.f2)
def anc_ids (L : List S35) (p : Int) : List Int := (L.filter (anc_on p)).map fun n => n.f0
def anc_At.f (l : List S35) (p : Int) : List Int := (anc_ids (anc_sort l) p).mergeSort fun x y => decide (x ≤ y)
theorem anc_info3 : (Try.prog.info? 3).map (fun i => (i.zero, i.size, i.bytes)) = some (some (.int .i64 0), 1, 8) := by kernel_rfl
theorem anc_inner1 {w : World} {B : Nat} {ok : Nat → Prop} : ∀ {l : List Int} {inner : List Value}, Reps ((Kd.int .i64).M w B ok) 1 l inner → inner = l.map (Value.int .i64)
  | [], inner, h => by
    have := h.1
    simp at this
    rw [this]
    rfl
  | x :: r, inner, h => by
    have h0 := h.2 0 x rfl
    rw [Nat.zero_mul, List.drop_zero] at h0
    have h1 := Kd.reps_drop (m := 1) h
    rw [List.drop_one, List.tail_cons, Nat.one_mul] at h1
    have h2 := anc_inner1 h1
    rw [List.map_cons, ← h2]
    have h3 : inner.take 1 = [.int .i64 x] := h0
    rw [show (Value.int .i64 x :: inner.drop 1) = [Value.int .i64 x] ++ inner.drop 1 from rfl, ← h3, List.take_append_drop]
theorem anc_reps1 (w : World) (B : Nat) (ok : Nat → Prop) : ∀ l : List Int, Reps ((Kd.int .i64).M w B ok) 1 l (l.map (Value.int .i64))
  | [] => Reps.none _ _
  | x :: r => by
    have h1 : Reps ((Kd.int .i64).M w B ok) 1 [x] [.int .i64 x] := Reps.snoc (Reps.none _ _) rfl rfl
    exact Kd.reps_append h1 (anc_reps1 w B ok r)
theorem anc_sorted_ints {W : World} {B g cap n : Nat} {os : Array Obj} {cur : Array Value} {l : List Int} (hbase : B ≤ g) (hb : W.heap[g]? = some (.cells cur 3 (0, 0))) (m : Nat) (hm : m = l.length) (h1 : l.length ≤ cap) (h2 : cap ≤ maxLen) (h3 : cur.size = cap * 1) :
    Kd.R (Kd.int .i64) 3 (Go.Sort.grow (Go.Sort.putRow (Value.int .i64) (Go.Sort.ahead W n) g 0 l.toArray) os) B (fun _ => True) (.slice (some ⟨g, 0, none⟩) m cap) l := by
  subst hm
  exact ⟨fun _ _ => trivial, l.map (Value.int .i64), Go.ownsRow_sortedI rfl hbase hb h1 h2 h3, anc_reps1 _ _ _ l⟩
theorem anc_ids_snoc (L : List S35) (p i : Int) (h0 : 0 ≤ i) (h1 : i < (L.length : Int)) : anc_ids (L.take (i + 1).toNat) p = anc_ids (L.take i.toNat) p ++ (if anc_on p (rd_T35 L i) = true then [(rd_T35 L i).f0] else []) := by
  have e : rd_T35 L i = L[i.toNat]'(by omega) := by simp [rd_T35, List.getD_eq_getElem?_getD, List.getElem?_eq_getElem (show i.toNat < L.length by omega)]
  unfold anc_ids
  rw [show (i + 1).toNat = i.toNat + 1 by omega, List.take_add_one, List.getElem?_eq_getElem (by omega), List.filter_append, List.map_append, ← e]
  congr 1
  by_cases h : anc_on p (rd_T35 L i) = true
  · simp [h]
  · simp [h]
structure anc_At.I (L : List S35) (p : Int) (w1 wr : World) (i : Int) (v : Value) : Prop where
  lo : 0 ≤ i
  hi : i ≤ (L.length : Int)
  row : Kd.R (Kd.int .i64) 3 wr w1.heap.size (fun _ => True) v (anc_ids (L.take i.toNat) p)
  below : Below w1.heap.size w1 wr
theorem anc_At.I.step {L : List S35} {p : Int} {w1 wr w2 : World} {i : Int} {v v2 : Value} (h : anc_At.I L p w1 wr i v) (hi : i < (L.length : Int)) (hr : Kd.R (Kd.int .i64) 3 w2 w1.heap.size (fun _ => True) v2 (anc_ids (L.take i.toNat) p ++ (if anc_on p (rd_T35 L i) = true then [(rd_T35 L i).f0] else []))) (hb : Below w1.heap.size w1 w2) (hl : (L.length : Int) ≤ 1000) : anc_At.I L p w1 w2 (wrap64 (i + 1)) v2 := by
  have := h.lo
  rw [show wrap64 (i + 1) = i + 1 by unfold wrap64; omega]
  exact ⟨by omega, by omega, by rw [anc_ids_snoc L p i h.lo hi]; exact hr, hb⟩
set_option maxHeartbeats 8000000 in
set_option maxRecDepth 100000 in
theorem anc_At.calls (B b : Nat) (l : List S35) (p : Int) (w : World) (h : anc_M B b l w) :
    Calls Try.prog 14 #[.pointer (some ⟨b, 0, none⟩), .int .i64 p] w fun e w' => ∃ v, e = .returned v ∧ Kd.R (Kd.int .i64) 3 w' w.heap.size (fun _ => True) v (anc_At.f l p) ∧ Below w.heap.size w w' := by
  have HM := Aside0.mk h
  have HL := Aside0.mk (show ((anc_sort l).length : Int) ≤ 200 by have := h.le; unfold anc_sort; rw [List.length_mergeSort]; omega)
  clear h
  unfold anc_At.f
  obtain ⟨L, hL⟩ : ∃ L, L = anc_sort l := ⟨_, rfl⟩
  rw [← hL] at HL ⊢
  have HLQ := Aside0.mk hL
  clear hL
  go_enter Try.func14, Try.ntmps14
  go_wp2_with fail
  refine (anc_List.calls B b l w HM.out).mono ?_
  rintro e w1 ⟨v, rfl, hrow, hb⟩
  rw [← HLQ.out] at hrow
  obtain ⟨A, c, rfl, hc, KC0⟩ := Kd.R_reads hrow
  have KC := Aside0.mk KC0
  have HB1 := Aside0.mk hb
  have I0 := Aside0.mk (show anc_At.I L p w1 w1 0 (.slice none 0 0) from ⟨Int.le_refl 0, by omega, Kd.R_nil _ _ _ _ _, Below.refl _ _⟩)
  clear hrow hb hc KC0 HM
  clear HLQ
  go_wp2
  go_loopw [5, 7, 11] (fun v5 v7 v11 wr => ∃ i : Int, v11 = .int .i64 i ∧ Aside0 (anc_At.I L p w1 wr i v5)) (fun _ _ v11 _ => L.length - (intOf v11).toNat)
  case atStart => exact ⟨0, rfl, I0⟩
  case round =>
    clear I0
    obtain ⟨i, rfl, HI⟩ := hrel
    by_cases c5 : i < (L.length : Int)
    · have c5b : decide (i < (L.length : Int)) = true := decide_eq_true c5
      have i0 : 0 ≤ i := HI.out.lo
      obtain ⟨ad, eA, e0, e1, e2⟩ := at_T35 (Kd.C_below KC.out HI.out.below) i i0 c5
      subst eA
      have i0t := eq_true i0
      have c5t := eq_true c5
      have STEP := Aside0.mk (fun w2 v2 hr hb => HI.out.step (w2 := w2) (v2 := v2) c5 hr hb (by have := HL.out; omega))
      have MS := Aside0.mk (show L.length - (wrap64 (i + 1)).toNat < L.length - i.toNat by have := HL.out; rw [show wrap64 (i + 1) = i + 1 by unfold wrap64; omega]; omega)
      have LEN := Aside0.mk (show ((anc_ids (L.take i.toNat) p).length + 1) * 8 ≤ 140737488355328 by
        have h1 : (anc_ids (L.take i.toNat) p).length ≤ (L.take i.toNat).length := by unfold anc_ids; rw [List.length_map]; exact List.length_filter_le _ _
        rw [List.length_take] at h1
        have := HL.out
        omega)
      obtain ⟨t, ht⟩ : ∃ t, t = rd_T35 L i := ⟨_, rfl⟩
      rw [← ht] at e0 e1 e2 STEP
      clear ht i0 c5
      have BW := Aside0.mk HI.out.below
      by_cases d1 : t.f1 ≤ p
      · have d1b : decide (t.f1 ≤ p) = true := decide_eq_true d1
        by_cases d2 : p < t.f2
        · have d2b : decide (p < t.f2) = true := decide_eq_true d2
          have hon : anc_on p t = true := by unfold anc_on; rw [d1b, d2b]; rfl
          rw [hon, if_pos rfl] at STEP
          clear hon d1 d2
          go_wp2_with (first | ((with_reducible refine gate_dst (N := 7) rfl ?_); refine box_event ?hg (N := 7) ?hd (cs := #[.int .i64 0, .int .i64 0, .int .i64 0]) (t := 35) ?hr ?_; (case hd => rfl); (case hg => rfl); (case hr => first | (go_simp; done) | (go_simp; rfl)); intro g5 hg5 w3 hbox hb3; have HB3 := Aside0.mk hb3; have GE := Aside0.mk (show wr.heap.size ≤ g5 by omega); have HB4 := Aside0.mk (below_set (v := .int .i64 t.f2) (j := 2) (below_set (v := .int .i64 t.f1) (j := 1) (below_set (v := .int .i64 t.f0) (j := 0) HB3.out GE.out) GE.out) GE.out); have hz0 : w3.cell? ⟨g5, 0, none⟩ = some (.int .i64 0) := (blk_cell hbox 0).trans rfl; have hz1 : w3.cell? ⟨g5, 1, none⟩ = some (.int .i64 0) := (blk_cell hbox 1).trans rfl; have hz2 : w3.cell? ⟨g5, 2, none⟩ = some (.int .i64 0) := (blk_cell hbox 2).trans rfl; have hf0 : w3.frozen? ⟨g5, 0, none⟩ = false := blk_frozen hbox 0; have hf1 : w3.frozen? ⟨g5, 1, none⟩ = false := blk_frozen hbox 1; have hf2 : w3.frozen? ⟨g5, 2, none⟩ = false := blk_frozen hbox 2; clear hbox hb3 hg5) | ((with_reducible refine gate_builtin (b := .append) (xs := #[.tmp 25, .tmp 28]) rfl ?_); at_builtin; refine Kd.R_append (Kd.int .i64) (w0 := w1) w1.heap.size rfl (.tmp 25) (.tmp 28) 41 3 (.int .i64 0) 8 rfl Try.underlying41 anc_info3 rfl (by decide) (by omega) u5 (anc_ids (L.take i.toNat) p) t.f0 [.int .i64 t.f0] (fun _ => True) (fun _ => False) rfl (by first | (go_simp; done) | (go_simp; rfl)) ?aP (fun _ hk => hk.elim) ?aF ?aO ?aB ?aS ?aL ?_; (case aP => exact rfl); (case aF => exact (fun _ _ => trivial)); (case aO => exact Kd.R_below HI.out.row HB4.out); (case aB => exact below_then BW.out (below_size BW.out) HB4.out); (case aS => exact Nat.le_trans (below_size BW.out) (below_size HB4.out)); (case aL => exact LEN.out); intro v1 w7 ho hb hg hat))
          go_roundw
          case measure => exact MS.out
          case rel => exact ⟨_, rfl, ⟨STEP.out _ _ ho hb⟩⟩
        · have d2b : decide (p < t.f2) = false := decide_eq_false d2
          have hon : anc_on p t = false := by unfold anc_on; rw [d1b, d2b]; rfl
          rw [hon, if_neg (by decide), List.append_nil] at STEP
          clear hon d1 d2
          go_wp2_with (first | ((with_reducible refine gate_dst (N := 7) rfl ?_); refine box_event ?hg (N := 7) ?hd (cs := #[.int .i64 0, .int .i64 0, .int .i64 0]) (t := 35) ?hr ?_; (case hd => rfl); (case hg => rfl); (case hr => first | (go_simp; done) | (go_simp; rfl)); intro g5 hg5 w3 hbox hb3; have HB3 := Aside0.mk hb3; have GE := Aside0.mk (show wr.heap.size ≤ g5 by omega); have HB4 := Aside0.mk (below_set (v := .int .i64 t.f2) (j := 2) (below_set (v := .int .i64 t.f1) (j := 1) (below_set (v := .int .i64 t.f0) (j := 0) HB3.out GE.out) GE.out) GE.out); have hz0 : w3.cell? ⟨g5, 0, none⟩ = some (.int .i64 0) := (blk_cell hbox 0).trans rfl; have hz1 : w3.cell? ⟨g5, 1, none⟩ = some (.int .i64 0) := (blk_cell hbox 1).trans rfl; have hz2 : w3.cell? ⟨g5, 2, none⟩ = some (.int .i64 0) := (blk_cell hbox 2).trans rfl; have hf0 : w3.frozen? ⟨g5, 0, none⟩ = false := blk_frozen hbox 0; have hf1 : w3.frozen? ⟨g5, 1, none⟩ = false := blk_frozen hbox 1; have hf2 : w3.frozen? ⟨g5, 2, none⟩ = false := blk_frozen hbox 2; clear hbox hb3 hg5))
          go_roundw
          case measure => exact MS.out
          case rel => exact ⟨_, rfl, ⟨STEP.out _ _ (Kd.R_below HI.out.row HB4.out) (below_then BW.out (below_size BW.out) HB4.out)⟩⟩
      · have d1b : decide (t.f1 ≤ p) = false := decide_eq_false d1
        have hon : anc_on p t = false := by unfold anc_on; rw [d1b]; rfl
        rw [hon, if_neg (by decide), List.append_nil] at STEP
        clear hon d1
        go_wp2_with (first | ((with_reducible refine gate_dst (N := 7) rfl ?_); refine box_event ?hg (N := 7) ?hd (cs := #[.int .i64 0, .int .i64 0, .int .i64 0]) (t := 35) ?hr ?_; (case hd => rfl); (case hg => rfl); (case hr => first | (go_simp; done) | (go_simp; rfl)); intro g5 hg5 w3 hbox hb3; have HB3 := Aside0.mk hb3; have GE := Aside0.mk (show wr.heap.size ≤ g5 by omega); have HB4 := Aside0.mk (below_set (v := .int .i64 t.f2) (j := 2) (below_set (v := .int .i64 t.f1) (j := 1) (below_set (v := .int .i64 t.f0) (j := 0) HB3.out GE.out) GE.out) GE.out); have hz0 : w3.cell? ⟨g5, 0, none⟩ = some (.int .i64 0) := (blk_cell hbox 0).trans rfl; have hz1 : w3.cell? ⟨g5, 1, none⟩ = some (.int .i64 0) := (blk_cell hbox 1).trans rfl; have hz2 : w3.cell? ⟨g5, 2, none⟩ = some (.int .i64 0) := (blk_cell hbox 2).trans rfl; have hf0 : w3.frozen? ⟨g5, 0, none⟩ = false := blk_frozen hbox 0; have hf1 : w3.frozen? ⟨g5, 1, none⟩ = false := blk_frozen hbox 1; have hf2 : w3.frozen? ⟨g5, 2, none⟩ = false := blk_frozen hbox 2; clear hbox hb3 hg5))
        go_roundw
        case measure => exact MS.out
        case rel => exact ⟨_, rfl, ⟨STEP.out _ _ (Kd.R_below HI.out.row HB4.out) (below_then BW.out (below_size BW.out) HB4.out)⟩⟩
    · have c5b : decide (i < (L.length : Int)) = false := decide_eq_false c5
      have ei : (L.take i.toNat) = L := List.take_of_length_le (by have := HI.out.hi; omega)
      obtain ⟨hok, inner, hown, hrep⟩ := HI.out.row
      rw [ei] at hown hrep
      obtain ⟨ol, hol⟩ : ∃ ol, ol = anc_ids L p := ⟨_, rfl⟩
      have hll : ol.length ≤ L.length := by rw [hol]; unfold anc_ids; rw [List.length_map]; exact List.length_filter_le _ _
      rw [← hol] at hown hrep
      have HOL := Aside0.mk hol
      clear c5 ei hok hol
      rcases hown.2 with ⟨ev, e0⟩ | ⟨gb, cap, cur, ev, hgb, hcur, hlc, hcm, hcs, htk⟩
      · have eol : ol = [] := List.eq_nil_of_length_eq_zero e0
        subst eol
        clear hown hrep hll
        subst ev
        go_wp2_with fail
        refine (AnyM.slices_Sort_int_none Try.sortInts none 0 _).mono ?_
        rintro e w9 ⟨rfl, hw9⟩
        obtain rfl := hw9.symm
        go_wp2
        go_ret
        exact ⟨_, rfl, by rw [← HOL.out, List.mergeSort_nil]; exact Kd.R_nil _ _ _ _ _, below_step HB1.out HI.out.below⟩
      · have hin := anc_inner1 hrep
        have hH : Go.Sort.Holds (Value.int .i64) wr gb 0 ol.toArray := Go.holds_of_blockI hcur (by have h2 : cur.toList.take (ol.length * 1) = inner := htk; rw [Nat.mul_one] at h2; rw [h2, hin])
        have hlt : ol.length < 4611686018427387904 := by have := HL.out; omega
        have hcon := AnyM.slices_Sort_int Try.sortInts gb 0 cap ol wr hH (Array.getElem?_eq_some_iff.1 hcur).1 hlt
        change Calls Try.prog 27 #[.slice (some ⟨gb, 0, none⟩) ol.length cap] wr _ at hcon
        have HCON := Aside0.mk hcon
        have HCUR := Aside0.mk hcur
        have HNUM := Aside0.mk (And.intro hlc (And.intro hcm hcs))
        have HGB := Aside0.mk hgb
        clear hcon hown hrep hcur hlc hcm hcs hgb htk hin hH hlt hll
        subst ev
        go_wp2_with fail
        refine HCON.out.mono ?_
        rintro e w9 ⟨rfl, m, os, hw9⟩
        have HW9 := Aside0.mk hw9
        clear hw9
        go_wp2
        go_ret
        have el : (ol.mergeSort fun x y => decide (x ≤ y)).length = ol.length := List.length_mergeSort _
        refine ⟨_, rfl, ?_, ?_⟩
        · rw [HW9.out, ← HOL.out]
          exact Kd.R_lower (anc_sorted_ints HGB.out HCUR.out ol.length el.symm (by rw [el]; exact HNUM.out.1) HNUM.out.2.1 HNUM.out.2.2) (below_size HB1.out)
        · rw [HW9.out]
          exact (below_step HB1.out HI.out.below).grown (Go.grownBy_sortedI _) (Nat.le_trans (below_size HB1.out) (below_size HI.out.below)) (fun j hj => by cases hj; exact Nat.le_trans (below_size HB1.out) HGB.out)

end Go.Proofs.Ytgafgkojbbndmaa.PAs
