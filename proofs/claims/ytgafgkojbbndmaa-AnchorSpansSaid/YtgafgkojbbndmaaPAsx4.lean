-- Written for this claim by a program (the kit's print, with hand-made contracts for what it does not take).
import Derived.Test.YtgafgkojbbndmaaPAsx0
import Derived.Test.YtgafgkojbbndmaaPAsx1
import Derived.Test.YtgafgkojbbndmaaPAsx2
namespace Go.Proofs.Ytgafgkojbbndmaa.PAs
open Go.RowKit Go.Proofs.YtgafgkojbbndmaaW.PrintWords Go.Proofs.YtgafgkojbbndmaaW.PrintLast Go.Proofs.YtgafgkojbbndmaaW.PrintMore
attribute [local go_sem] max2_int min2_int max_two min_two max_three min_three max_four min_four   -- for this text's walks alone
set_option linter.unusedVariables false
set_option linter.unusedSimpArgs false

/-! ### anchor_Set_Spans: function 13 -/
/-! ### What all cover -/
def anc_Spans.T6 : Bool × List (List Nat × List Nat) := (true, [([], []), ([0], [0]), ([1], [1]), ([2], [2]), ([3, 2], [2, 3]), ([2], [2]), ([2], [2]), ([5, 6, 2], [2, 5, 6]), ([7, 2], [2, 7]), ([8, 2], [2, 8]), ([4, 9, 2], [2, 4, 9]), ([2, 10], [2, 10])])
def anc_Spans.B6 : List Nat := [0, 1, 3, 7, 15, 7, 7, 103, 231, 487, 1023, 2047]
theorem anc_Spans.tab6 : rtab .any (opsOf Try.f13 6) = anc_Spans.T6 := by kernel_rfl
theorem anc_Spans.bits6 : waitsOk anc_Spans.T6.2 anc_Spans.B6 = true := by kernel_rfl
def anc_Spans.T7 : Bool × List (List Nat × List Nat) := (true, [([], []), ([], []), ([], []), ([], []), ([2, 3], [2, 3]), ([4], [4]), ([5], [5]), ([], []), ([7], [7]), ([6, 8], [6, 8]), ([0, 1], [0, 1]), ([10, 0, 1, 2, 3, 4, 5, 6, 7, 8, 9], [10]), ([11, 9, 0, 1, 2, 3, 4, 5, 6, 7, 8, 9], [9, 11])])
def anc_Spans.B7 : List Nat := [0, 0, 0, 0, 12, 28, 60, 0, 128, 508, 3, 2047, 4095]
theorem anc_Spans.tab7 : rtab .any (opsOf Try.f13 7) = anc_Spans.T7 := by kernel_rfl
theorem anc_Spans.bits7 : waitsOk anc_Spans.T7.2 anc_Spans.B7 = true := by kernel_rfl
theorem anc_put3 {w : World} {g : Nat} {t : TypeId} {v0 v1 v2 x0 x1 x2 : Value} (h : w.heap[g]? = some (.cells #[v0, v1, v2] t (0, 0))) : (((w.setCell ⟨g, 0, none⟩ x0).setCell ⟨g, 1, none⟩ x1).setCell ⟨g, 2, none⟩ x2).heap[g]? = some (.cells #[x0, x1, x2] t (0, 0)) :=
  blk_put (blk_put (blk_put (cs' := #[x0, v1, v2]) h 0 x0 rfl) (cs' := #[x0, x1, v2]) 1 x1 rfl) 2 x2 rfl
def anc_span (out : List S37) (n : S35) : List S37 :=
  if 0 < out.length ∧ n.f1 ≤ (rd_T37 out ((out.length : Int) - 1)).f1 then out.set (out.length - 1) ⟨(rd_T37 out ((out.length : Int) - 1)).f0, if (rd_T37 out ((out.length : Int) - 1)).f1 < n.f2 then n.f2 else (rd_T37 out ((out.length : Int) - 1)).f1⟩ else out ++ [⟨n.f1, n.f2⟩]
def anc_spans (L : List S35) : List S37 := L.foldl anc_span []
def anc_Spans.f (l : List S35) : List S37 := anc_spans (anc_sort l)
theorem anc_spans_snoc (L : List S35) (i : Int) (h0 : 0 ≤ i) (h1 : i < (L.length : Int)) : anc_spans (L.take (i + 1).toNat) = anc_span (anc_spans (L.take i.toNat)) (rd_T35 L i) := by
  have e : rd_T35 L i = L[i.toNat]'(by omega) := by simp [rd_T35, List.getD_eq_getElem?_getD, List.getElem?_eq_getElem (show i.toNat < L.length by omega)]
  unfold anc_spans
  rw [show (i + 1).toNat = i.toNat + 1 by omega, List.take_add_one, List.getElem?_eq_getElem (by omega), List.foldl_append, ← e]
  rfl
theorem anc_span_len (out : List S37) (n : S35) : (anc_span out n).length ≤ out.length + 1 := by
  unfold anc_span
  split
  · rw [List.length_set]; omega
  · rw [List.length_append]; exact Nat.le_refl _
theorem anc_fold_len : ∀ (L : List S35) (out : List S37), (L.foldl anc_span out).length ≤ out.length + L.length
  | [], out => Nat.le_refl _
  | n :: L, out => by
    rw [List.foldl_cons, List.length_cons]
    have h1 := anc_fold_len L (anc_span out n)
    have h2 := anc_span_len out n
    omega
theorem anc_span_put {W : World} {B gb n cap : Nat} {out : List S37} (h : Kd.R k37 37 W B (fun _ => True) (.slice (some ⟨gb, 0, none⟩) n cap) out) (k : Int) (h0 : 0 ≤ k) (h1 : k < (n : Int)) (x : S37)
    (c0 : W.cell? ⟨gb, k.toNat * 2, none⟩ = some (.int .i64 x.f0)) (c1 : W.cell? ⟨gb, k.toNat * 2 + 1, none⟩ = some (.int .i64 x.f1)) (u : Int) :
    Kd.R k37 37 (W.setCell ⟨gb, k.toNat * 2 + 1, none⟩ (.int .i64 u)) B (fun _ => True) (.slice (some ⟨gb, 0, none⟩) n cap) (out.set k.toNat ⟨x.f0, u⟩) ∧ W.grownBy (W.setCell ⟨gb, k.toNat * 2 + 1, none⟩ (.int .i64 u)) (some gb) := by
  have := Kd.R_seg h k (j := 1) (seg := [.int .i64 u]) (c := [.int .i64 x.f0, .int .i64 x.f1]) (x' := ⟨x.f0, u⟩) (okp := fun _ => False) h0 h1 rfl (fun j v hj => by
    match j, hj with
    | 0, hj => cases hj; exact c0
    | 1, hj => cases hj; exact c1) (Nat.le_refl 2) (k37_mkM W B _ (⟨x.f0, u⟩ : S37)) (fun _ hk => hk.elim)
  exact this
structure anc_Spans.I (L : List S35) (w1 wr : World) (i : Int) (v : Value) : Prop where
  lo : 0 ≤ i
  hi : i ≤ (L.length : Int)
  row : Kd.R k37 37 wr w1.heap.size (fun _ => True) v (anc_spans (L.take i.toNat))
  below : Below w1.heap.size w1 wr
theorem anc_Spans.I.step {L : List S35} {w1 wr w2 : World} {i : Int} {v v2 : Value} (h : anc_Spans.I L w1 wr i v) (hi : i < (L.length : Int)) (hr : Kd.R k37 37 w2 w1.heap.size (fun _ => True) v2 (anc_span (anc_spans (L.take i.toNat)) (rd_T35 L i))) (hb : Below w1.heap.size w1 w2) (hl : (L.length : Int) ≤ 1000) : anc_Spans.I L w1 w2 (wrap64 (i + 1)) v2 := by
  have := h.lo
  rw [show wrap64 (i + 1) = i + 1 by unfold wrap64; omega]
  exact ⟨by omega, by omega, by rw [anc_spans_snoc L i h.lo hi]; exact hr, hb⟩
set_option maxHeartbeats 8000000 in
set_option maxRecDepth 100000 in
theorem anc_Spans.calls (B b : Nat) (l : List S35) (w : World) (h : anc_M B b l w) :
    Calls Try.prog 13 #[.pointer (some ⟨b, 0, none⟩)] w fun e w' => ∃ v, e = .returned v ∧ Kd.R k37 37 w' w.heap.size (fun _ => True) v (anc_Spans.f l) ∧ Below w.heap.size w w' := by
  have HM := Aside0.mk h
  have HL := Aside0.mk (show ((anc_sort l).length : Int) ≤ 200 by have := h.le; unfold anc_sort; rw [List.length_mergeSort]; omega)
  clear h
  unfold anc_Spans.f
  obtain ⟨L, hL⟩ : ∃ L, L = anc_sort l := ⟨_, rfl⟩
  rw [← hL] at HL ⊢
  have HLQ := Aside0.mk hL
  clear hL
  go_enter Try.func13, Try.ntmps13
  go_wp2_with fail
  refine (anc_List.calls B b l w HM.out).mono ?_
  rintro e w1 ⟨v, rfl, hrow, hb⟩
  rw [← HLQ.out] at hrow
  obtain ⟨A, c, rfl, hc, KC0⟩ := Kd.R_reads hrow
  have KC := Aside0.mk KC0
  have HB1 := Aside0.mk hb
  have I0 := Aside0.mk (show anc_Spans.I L w1 w1 0 (.slice none 0 0) from ⟨Int.le_refl 0, by omega, Kd.R_nil _ _ _ _ _, Below.refl _ _⟩)
  clear hrow hb hc KC0 HM HLQ
  go_wp2
  go_loopw [3, 5, 6, 10] (fun v3 v5 v6 v10 wr => ∃ i : Int, v10 = .int .i64 i ∧ Aside0 (anc_Spans.I L w1 wr i v3)) (fun _ _ _ v10 _ => L.length - (intOf v10).toNat)
  case atStart => exact ⟨0, rfl, I0⟩
  case round =>
    clear I0
    obtain ⟨i, rfl, HI⟩ := hrel
    by_cases c5 : i < (L.length : Int)
    · have c5b : decide (i < (L.length : Int)) = true := decide_eq_true c5
      have i0 : 0 ≤ i := HI.out.lo
      obtain ⟨ad, eA, e0, e1, e2⟩ := at_T35 (Kd.C_below KC.out HI.out.below) i i0 c5
      subst eA
      have i0t := eq_true i0
      have c5t := eq_true c5
      have STEP := Aside0.mk (fun w2 v2 hr hb => HI.out.step (w2 := w2) (v2 := v2) c5 hr hb (by have := HL.out; omega))
      have MS := Aside0.mk (show L.length - (wrap64 (i + 1)).toNat < L.length - i.toNat by have := HL.out; rw [show wrap64 (i + 1) = i + 1 by unfold wrap64; omega]; omega)
      have hol : (anc_spans (L.take i.toNat)).length ≤ 200 := by
        have h1 := anc_fold_len (L.take i.toNat) []
        rw [List.length_take] at h1
        have := HL.out
        unfold anc_spans
        simp only [List.length_nil] at h1
        omega
      have hrow := HI.out.row
      obtain ⟨out, ho⟩ : ∃ out, out = anc_spans (L.take i.toNat) := ⟨_, rfl⟩
      obtain ⟨t, ht⟩ : ∃ t, t = rd_T35 L i := ⟨_, rfl⟩
      rw [← ho] at hol hrow STEP
      rw [← ht] at e0 e1 e2 STEP
      have LEN := Aside0.mk (show (out.length + 1) * 16 ≤ 140737488355328 by omega)
      have HRW := Aside0.mk hrow
      have BWR := Aside0.mk HI.out.below
      have HOL := Aside0.mk hol
      have KE := Aside0.mk (show wrap64 ((out.length : Int) - 1) = (out.length : Int) - 1 by unfold wrap64; omega)
      clear ht ho i0 c5 hol
      by_cases hk0 : out.length = 0
      · obtain ⟨A3, c3, e3, hc3, KR3⟩ := Kd.R_reads hrow
        have hspan : anc_span out t = out ++ [⟨t.f1, t.f2⟩] := by unfold anc_span; rw [if_neg (by omega)]
        rw [hspan] at STEP
        have HK0 := Aside0.mk hk0
        clear hrow hc3 KR3 hspan hk0
        subst e3
        go_upto_region 6 with (first | ((with_reducible refine gate_dst (N := 5) rfl ?_); refine box_event ?hg (N := 5) ?hd (cs := #[.int .i64 0, .int .i64 0, .int .i64 0]) (t := 35) ?hr ?_; (case hd => rfl); (case hg => rfl); (case hr => first | (go_simp; done) | (go_simp; rfl)); intro g5 hg5 w3 hbox hb3; have HB3 := Aside0.mk hb3; have GE := Aside0.mk (show wr.heap.size ≤ g5 by omega); have HB4 := Aside0.mk (below_set (v := .int .i64 t.f2) (j := 2) (below_set (v := .int .i64 t.f1) (j := 1) (below_set (v := .int .i64 t.f0) (j := 0) HB3.out GE.out) GE.out) GE.out); have BK := Aside0.mk (anc_put3 (x0 := .int .i64 t.f0) (x1 := .int .i64 t.f1) (x2 := .int .i64 t.f2) hbox); have hz0 : w3.cell? ⟨g5, 0, none⟩ = some (.int .i64 0) := (blk_cell hbox 0).trans rfl; have hz1 : w3.cell? ⟨g5, 1, none⟩ = some (.int .i64 0) := (blk_cell hbox 1).trans rfl; have hz2 : w3.cell? ⟨g5, 2, none⟩ = some (.int .i64 0) := (blk_cell hbox 2).trans rfl; have hf0 : w3.frozen? ⟨g5, 0, none⟩ = false := blk_frozen hbox 0; have hf1 : w3.frozen? ⟨g5, 1, none⟩ = false := blk_frozen hbox 1; have hf2 : w3.frozen? ⟨g5, 2, none⟩ = false := blk_frozen hbox 2; clear hbox hb3 hg5))
        rw [KE.out]
        have h51 := (blk_cell BK.out 1).trans (show _ = some (Value.int .i64 t.f1) from rfl)
        have h52 := (blk_cell BK.out 2).trans (show _ = some (Value.int .i64 t.f2) from rfl)
        generalize (((w3.setCell ⟨g5, 0, none⟩ (.int .i64 t.f0)).setCell ⟨g5, 1, none⟩ (.int .i64 t.f1)).setCell ⟨g5, 2, none⟩ (.int .i64 t.f2)) = W6 at *
        obtain ⟨k, hk⟩ : ∃ k, k = (out.length : Int) - 1 := ⟨_, rfl⟩
        rw [← hk]
        have dk : decide (0 ≤ k) = false := decide_eq_false (by have := HK0.out; omega)
        have ROW := Aside0.mk (Kd.R_drew (Kd.R_below HRW.out HB4.out))
        have BW := Aside0.mk (below_drew (below_then BWR.out (below_size BWR.out) HB4.out))
        have BK2 := Aside0.mk (show W6.drew.heap[g5]? = _ from BK.out)
        clear hk HK0 hz0 hz1 hz2 hf0 hf1 hf2 HB3 HB4 KE
        refine start_ (n := 12) (S := fun w' => w'.cell? ⟨g5, 1, none⟩ = some (.int .i64 t.f1)) (ds := []) #[false, false, false, false, false, false, false, false, false, false, false, false] (by kernel_rfl) rfl rfl h51 (fun hHeld => ?_)
        refine with_tabW anc_Spans.tab6 anc_Spans.bits6 (fun HT_ HW_ => ?_)
        refine pure_ (i := 0) (N := some 17) (v := ?_) (a' := ?_) #[true, false, false, false, false, false, false, false, false, false, false, false] rfl rfl (any_of HT_.out (by kernel_rfl)) (fun _ _ _ h => h) (Or.inl ⟨by rfl, ?_⟩) ?_ ?_
        rotate_left
        · intro w'
          go_simp
          with_reducible rfl
        rotate_left
        · simp only [Act.put, List.setIfInBounds_toArray, List.set_cons_zero, List.set_cons_succ, i64_w, i32_w]
          rfl
        refine pure_ (i := 1) (N := some 18) (v := ?_) (a' := ?_) #[true, true, false, false, false, false, false, false, false, false, false, false] rfl rfl (any_of HT_.out (by kernel_rfl)) (fun _ _ _ h => h) (Or.inl ⟨by rfl, ?_⟩) ?_ ?_
        rotate_left
        · intro w'
          go_simp
          with_reducible rfl
        rotate_left
        · simp only [Act.put, List.setIfInBounds_toArray, List.set_cons_zero, List.set_cons_succ, i64_w, i32_w]
          rfl
        refine pure_ (i := 2) (N := some 19) (v := ?_) (a' := ?_) #[true, true, true, false, false, false, false, false, false, false, false, false] rfl rfl (any_of HT_.out (by kernel_rfl)) (fun _ _ _ h => h) (Or.inl ⟨by rfl, ?_⟩) ?_ ?_
        rotate_left
        · intro w'
          go_simp
          with_reducible rfl
        rotate_left
        · simp only [Act.put, List.setIfInBounds_toArray, List.set_cons_zero, List.set_cons_succ, i64_w, i32_w]
          rfl
        refine pure_ (i := 3) (N := some 20) (v := undef) (a' := ?_) #[true, true, true, true, false, false, false, false, false, false, false, false] rfl rfl (any_of HT_.out (by kernel_rfl)) (fun _ _ _ h => h) (Or.inr ⟨by rfl, rfl⟩) ?_ ?_
        rotate_left
        · simp only [Act.put, List.setIfInBounds_toArray, List.set_cons_zero, List.set_cons_succ, i64_w, i32_w]
          rfl
        refine pure_ (i := 4) (N := some 21) (v := undef) (a' := ?_) #[true, true, true, true, true, false, false, false, false, false, false, false] rfl rfl (any_of HT_.out (by kernel_rfl)) (fun _ _ _ h => h) (Or.inr ⟨by rfl, rfl⟩) ?_ ?_
        rotate_left
        · simp only [Act.put, List.setIfInBounds_toArray, List.set_cons_zero, List.set_cons_succ, i64_w, i32_w]
          rfl
        refine pure_ (i := 5) (N := some 22) (v := undef) (a' := ?_) #[true, true, true, true, true, true, false, false, false, false, false, false] rfl rfl (any_of HT_.out (by kernel_rfl)) (fun _ _ _ h => h) (Or.inr ⟨by rfl, rfl⟩) ?_ ?_
        rotate_left
        · simp only [Act.put, List.setIfInBounds_toArray, List.set_cons_zero, List.set_cons_succ, i64_w, i32_w]
          rfl
        refine pure_ (i := 6) (N := some 23) (v := undef) (a' := ?_) #[true, true, true, true, true, true, true, false, false, false, false, false] rfl rfl (any_of HT_.out (by kernel_rfl)) (fun _ _ _ h => h) (Or.inr ⟨by rfl, rfl⟩) ?_ ?_
        rotate_left
        · simp only [Act.put, List.setIfInBounds_toArray, List.set_cons_zero, List.set_cons_succ, i64_w, i32_w]
          rfl
        refine pure_ (i := 7) (N := some 24) (v := undef) (a' := ?_) #[true, true, true, true, true, true, true, true, false, false, false, false] rfl rfl (any_of HT_.out (by kernel_rfl)) (fun _ _ _ h => h) (Or.inr ⟨by rfl, rfl⟩) ?_ ?_
        rotate_left
        · simp only [Act.put, List.setIfInBounds_toArray, List.set_cons_zero, List.set_cons_succ, i64_w, i32_w]
          rfl
        refine pure_ (i := 8) (N := some 25) (v := undef) (a' := ?_) #[true, true, true, true, true, true, true, true, true, false, false, false] rfl rfl (any_of HT_.out (by kernel_rfl)) (fun _ _ _ h => h) (Or.inr ⟨by rfl, rfl⟩) ?_ ?_
        rotate_left
        · simp only [Act.put, List.setIfInBounds_toArray, List.set_cons_zero, List.set_cons_succ, i64_w, i32_w]
          rfl
        refine pure_ (i := 9) (N := some 26) (v := undef) (a' := ?_) #[true, true, true, true, true, true, true, true, true, true, false, false] rfl rfl (any_of HT_.out (by kernel_rfl)) (fun _ _ _ h => h) (Or.inr ⟨by rfl, rfl⟩) ?_ ?_
        rotate_left
        · simp only [Act.put, List.setIfInBounds_toArray, List.set_cons_zero, List.set_cons_succ, i64_w, i32_w]
          rfl
        refine pure_ (i := 10) (N := some 27) (v := undef) (a' := ?_) #[true, true, true, true, true, true, true, true, true, true, true, false] rfl rfl (any_of HT_.out (by kernel_rfl)) (fun _ _ _ h => h) (Or.inr ⟨by rfl, rfl⟩) ?_ ?_
        rotate_left
        · simp only [Act.put, List.setIfInBounds_toArray, List.set_cons_zero, List.set_cons_succ, i64_w, i32_w]
          rfl
        refine pure_ (i := 11) (N := some 28) (v := ?_) (a' := ?_) #[true, true, true, true, true, true, true, true, true, true, true, true] rfl rfl (any_of HT_.out (by kernel_rfl)) (fun _ _ _ h => h) (Or.inl ⟨by rfl, ?_⟩) ?_ ?_
        rotate_left
        · intro w'
          go_simp
          with_reducible rfl
        rotate_left
        · simp only [Act.put, List.setIfInBounds_toArray, List.set_cons_zero, List.set_cons_succ, i64_w, i32_w]
          rfl
        refine done_ (done_of HT_.out (by kernel_rfl)) ?_
        clear h51 h52
        have h51 := (blk_cell BK2.out 1).trans (show _ = some (Value.int .i64 t.f1) from rfl)
        have h52 := (blk_cell BK2.out 2).trans (show _ = some (Value.int .i64 t.f2) from rfl)
        generalize W6.drew = W7 at *
        go_wp2_with (first | ((with_reducible refine gate_builtin (b := .append) (xs := #[.tmp 41, .tmp 47]) rfl ?_); at_builtin; refine Kd.R_append k37 (w0 := w1) w1.heap.size rfl (.tmp 41) (.tmp 47) 39 37 (.agg #[.int .i64 0, .int .i64 0]) 16 rfl Try.underlying39 info37 rfl (by decide) (by omega) (.slice A3 out.length c3) out (⟨t.f1, t.f2⟩ : S37) [.int .i64 t.f1, .int .i64 t.f2] (fun _ => True) (fun _ => False) rfl (by first | (go_simp; done) | (go_simp; rfl)) ?aP (fun _ hk => hk.elim) ?aF ?aO ?aB ?aS ?aL ?_; (case aP => exact k37_mkM _ _ _ (⟨t.f1, t.f2⟩ : S37)); (case aF => exact (fun _ _ => trivial)); (case aO => exact ROW.out); (case aB => exact BW.out); (case aS => exact below_size BW.out); (case aL => exact LEN.out); intro v1 w7 ho hb hg hat))
        go_roundw
        case measure => exact MS.out
        case rel => exact ⟨_, rfl, ⟨STEP.out _ _ ho hb⟩⟩
      · obtain ⟨hok, inner, hown, hrep⟩ := hrow
        rcases hown.2 with ⟨ev, e0⟩ | ⟨gb, cap, cur, ev, hgb, hcur, hlc, hcm, hcs, htk⟩
        · exact absurd e0 hk0
        obtain ⟨k, hk⟩ : ∃ k, k = (out.length : Int) - 1 := ⟨_, rfl⟩
        have k0 : 0 ≤ k := by omega
        have k1 : k < (out.length : Int) := by omega
        have kn : k.toNat = out.length - 1 := by omega
        subst ev
        obtain ⟨ad3, eA3, x0, x1⟩ := at_T37 (Kd.R_reads' HRW.out).2.2 k k0 k1
        cases eA3
        obtain ⟨x, hx⟩ : ∃ x, x = rd_T37 out k := ⟨_, rfl⟩
        rw [← hx] at x0 x1
        have ha : (Addr.add ⟨gb, 0, none⟩ (k.toNat * 2)) = ⟨gb, k.toNat * 2, none⟩ := by
          unfold Addr.add
          by_cases hz : k.toNat * 2 = 0
          · rw [if_pos hz, hz]
          · rw [if_neg hz]
            simp
        rw [ha] at x0 x1
        have hx0 : wr.cell? ⟨gb, k.toNat * 2, none⟩ = some (.int .i64 x.f0) := x0
        have hx1 : wr.cell? ⟨gb, k.toNat * 2 + 1, none⟩ = some (.int .i64 x.f1) := x1
        clear ha
        have hxf : wr.frozen? ⟨gb, k.toNat * 2 + 1, none⟩ = false := blk_frozen hcur _
        have HX0 := Aside0.mk hx0
        have HX1 := Aside0.mk hx1
        have HXF := Aside0.mk (show ∀ W : World, Below wr.heap.size wr W → W.frozen? ⟨gb, k.toNat * 2 + 1, none⟩ = false from fun W hb => blk_frozen (blk_below hcur hb) _)
        have hspan : anc_span out t = if t.f1 ≤ x.f1 then out.set k.toNat ⟨x.f0, if x.f1 < t.f2 then t.f2 else x.f1⟩ else out ++ [⟨t.f1, t.f2⟩] := by
          unfold anc_span
          rw [← hk, ← hx, kn]
          by_cases h : t.f1 ≤ x.f1
          · rw [if_pos ⟨by omega, h⟩, if_pos h]
          · rw [if_neg (fun h2 => h h2.2), if_neg h]
        rw [hspan] at STEP
        have HGB := Aside0.mk hgb
        have KK := Aside0.mk (And.intro k0 k1)
        have dk : decide (0 ≤ k) = true := decide_eq_true k0
        have k0t := eq_true k0
        have k1t := eq_true k1
        have HK := Aside0.mk hk
        clear hok inner hown hrep hgb hcur hlc hcm hcs htk hk0 x0 x1 hx0 hx1 hxf hx hspan kn k0 k1 hk
        go_upto_region 6 with (first | ((with_reducible refine gate_dst (N := 5) rfl ?_); refine box_event ?hg (N := 5) ?hd (cs := #[.int .i64 0, .int .i64 0, .int .i64 0]) (t := 35) ?hr ?_; (case hd => rfl); (case hg => rfl); (case hr => first | (go_simp; done) | (go_simp; rfl)); intro g5 hg5 w3 hbox hb3; have HB3 := Aside0.mk hb3; have GE := Aside0.mk (show wr.heap.size ≤ g5 by omega); have HB4 := Aside0.mk (below_set (v := .int .i64 t.f2) (j := 2) (below_set (v := .int .i64 t.f1) (j := 1) (below_set (v := .int .i64 t.f0) (j := 0) HB3.out GE.out) GE.out) GE.out); have BK := Aside0.mk (anc_put3 (x0 := .int .i64 t.f0) (x1 := .int .i64 t.f1) (x2 := .int .i64 t.f2) hbox); have hz0 : w3.cell? ⟨g5, 0, none⟩ = some (.int .i64 0) := (blk_cell hbox 0).trans rfl; have hz1 : w3.cell? ⟨g5, 1, none⟩ = some (.int .i64 0) := (blk_cell hbox 1).trans rfl; have hz2 : w3.cell? ⟨g5, 2, none⟩ = some (.int .i64 0) := (blk_cell hbox 2).trans rfl; have hf0 : w3.frozen? ⟨g5, 0, none⟩ = false := blk_frozen hbox 0; have hf1 : w3.frozen? ⟨g5, 1, none⟩ = false := blk_frozen hbox 1; have hf2 : w3.frozen? ⟨g5, 2, none⟩ = false := blk_frozen hbox 2; clear hbox hb3 hg5))
        rw [KE.out, ← HK.out]
        have h51 := (blk_cell BK.out 1).trans (show _ = some (Value.int .i64 t.f1) from rfl)
        generalize (((w3.setCell ⟨g5, 0, none⟩ (.int .i64 t.f0)).setCell ⟨g5, 1, none⟩ (.int .i64 t.f1)).setCell ⟨g5, 2, none⟩ (.int .i64 t.f2)) = W6 at *
        have hx1 := pw_cell_below HB4.out HX1.out
        have ROW := Aside0.mk (Kd.R_drew (Kd.R_below HRW.out HB4.out))
        have BW := Aside0.mk (below_drew (below_then BWR.out (below_size BWR.out) HB4.out))
        have BK2 := Aside0.mk (show W6.drew.heap[g5]? = _ from BK.out)
        have X0 := Aside0.mk (show W6.drew.cell? ⟨gb, k.toNat * 2, none⟩ = _ from pw_cell_below HB4.out HX0.out)
        have X1 := Aside0.mk (show W6.drew.cell? ⟨gb, k.toNat * 2 + 1, none⟩ = _ from pw_cell_below HB4.out HX1.out)
        have XF := Aside0.mk (show W6.drew.frozen? ⟨gb, k.toNat * 2 + 1, none⟩ = false from HXF.out W6 HB4.out)
        clear hz0 hz1 hz2 hf0 hf1 hf2 HB3 HB4 KE HX0 HX1 HXF
        refine start_ (n := 12) (S := fun w' => w'.cell? ⟨g5, 1, none⟩ = some (.int .i64 t.f1) ∧ w'.cell? ⟨gb, k.toNat * 2 + 1, none⟩ = some (.int .i64 x.f1)) (ds := []) #[false, false, false, false, false, false, false, false, false, false, false, false] (by kernel_rfl) rfl rfl ⟨h51, hx1⟩ (fun hHeld => ?_)
        refine with_tabW anc_Spans.tab6 anc_Spans.bits6 (fun HT_ HW_ => ?_)
        refine pure_ (i := 0) (N := some 17) (v := ?_) (a' := ?_) #[true, false, false, false, false, false, false, false, false, false, false, false] rfl rfl (any_of HT_.out (by kernel_rfl)) (fun _ _ _ h => h) (Or.inl ⟨by rfl, ?_⟩) ?_ ?_
        rotate_left
        · intro w'
          go_simp
          with_reducible rfl
        rotate_left
        · simp only [Act.put, List.setIfInBounds_toArray, List.set_cons_zero, List.set_cons_succ, i64_w, i32_w]
          rfl
        refine pure_ (i := 1) (N := some 18) (v := ?_) (a' := ?_) #[true, true, false, false, false, false, false, false, false, false, false, false] rfl rfl (any_of HT_.out (by kernel_rfl)) (fun _ _ _ h => h) (Or.inl ⟨by rfl, ?_⟩) ?_ ?_
        rotate_left
        · intro w'
          go_simp
          with_reducible rfl
        rotate_left
        · simp only [Act.put, List.setIfInBounds_toArray, List.set_cons_zero, List.set_cons_succ, i64_w, i32_w]
          rfl
        refine pure_ (i := 2) (N := some 19) (v := ?_) (a' := ?_) #[true, true, true, false, false, false, false, false, false, false, false, false] rfl rfl (any_of HT_.out (by kernel_rfl)) (fun _ _ _ h => h) (Or.inl ⟨by rfl, ?_⟩) ?_ ?_
        rotate_left
        · intro w'
          go_simp
          with_reducible rfl
        rotate_left
        · simp only [Act.put, List.setIfInBounds_toArray, List.set_cons_zero, List.set_cons_succ, i64_w, i32_w]
          rfl
        refine pure_ (i := 3) (N := some 20) (v := ?_) (a' := ?_) #[true, true, true, true, false, false, false, false, false, false, false, false] rfl rfl (any_of HT_.out (by kernel_rfl)) (fun _ _ _ h => h) (Or.inl ⟨by rfl, ?_⟩) ?_ ?_
        rotate_left
        · intro w'
          go_simp
          with_reducible rfl
        rotate_left
        · simp only [Act.put, List.setIfInBounds_toArray, List.set_cons_zero, List.set_cons_succ, i64_w, i32_w]
          rfl
        refine take_ (i := 4) (N := some 21) (v := ?_) (a' := ?_) #[true, true, true, true, true, false, false, false, false, false, false, false] rfl rfl (take_ofW HT_.out HW_.out (by kernel_rfl)) (fun _ _ _ h => h) (Or.inl ⟨by rfl, ?_⟩) hHeld ?_ ?_
        rotate_left
        · rintro w' ⟨s0, s1⟩
          go_simp
          with_reducible rfl
        rotate_left
        · simp only [Act.put, List.setIfInBounds_toArray, List.set_cons_zero, List.set_cons_succ, i64_w, i32_w]
          rfl
        refine pure_ (i := 5) (N := some 22) (v := ?_) (a' := ?_) #[true, true, true, true, true, true, false, false, false, false, false, false] rfl rfl (any_of HT_.out (by kernel_rfl)) (fun _ _ _ h => h) (Or.inl ⟨by rfl, ?_⟩) ?_ ?_
        rotate_left
        · intro w'
          go_simp
          with_reducible rfl
        rotate_left
        · simp only [Act.put, List.setIfInBounds_toArray, List.set_cons_zero, List.set_cons_succ, i64_w, i32_w]
          rfl
        refine pure_ (i := 6) (N := some 23) (v := ?_) (a' := ?_) #[true, true, true, true, true, true, true, false, false, false, false, false] rfl rfl (any_of HT_.out (by kernel_rfl)) (fun _ _ _ h => h) (Or.inl ⟨by rfl, ?_⟩) ?_ ?_
        rotate_left
        · intro w'
          go_simp
          with_reducible rfl
        rotate_left
        · simp only [Act.put, List.setIfInBounds_toArray, List.set_cons_zero, List.set_cons_succ, i64_w, i32_w]
          rfl
        refine pure_ (i := 7) (N := some 24) (v := ?_) (a' := ?_) #[true, true, true, true, true, true, true, true, false, false, false, false] rfl rfl (any_of HT_.out (by kernel_rfl)) (fun _ _ _ h => h) (Or.inl ⟨by rfl, ?_⟩) ?_ ?_
        rotate_left
        · intro w'
          go_simp
          with_reducible rfl
        rotate_left
        · simp only [Act.put, List.setIfInBounds_toArray, List.set_cons_zero, List.set_cons_succ, i64_w, i32_w]
          rfl
        refine pure_ (i := 8) (N := some 25) (v := ?_) (a' := ?_) #[true, true, true, true, true, true, true, true, true, false, false, false] rfl rfl (any_of HT_.out (by kernel_rfl)) (fun _ _ _ h => h) (Or.inl ⟨by rfl, ?_⟩) ?_ ?_
        rotate_left
        · intro w'
          go_simp
          with_reducible rfl
        rotate_left
        · simp only [Act.put, List.setIfInBounds_toArray, List.set_cons_zero, List.set_cons_succ, i64_w, i32_w]
          rfl
        refine take_ (i := 9) (N := some 26) (v := ?_) (a' := ?_) #[true, true, true, true, true, true, true, true, true, true, false, false] rfl rfl (take_ofW HT_.out HW_.out (by kernel_rfl)) (fun _ _ _ h => h) (Or.inl ⟨by rfl, ?_⟩) hHeld ?_ ?_
        rotate_left
        · rintro w' ⟨s0, s1⟩
          go_simp
          with_reducible rfl
        rotate_left
        · simp only [Act.put, List.setIfInBounds_toArray, List.set_cons_zero, List.set_cons_succ, i64_w, i32_w]
          rfl
        refine pure_ (i := 10) (N := some 27) (v := ?_) (a' := ?_) #[true, true, true, true, true, true, true, true, true, true, true, false] rfl rfl (any_of HT_.out (by kernel_rfl)) (fun _ _ _ h => h) (Or.inl ⟨by rfl, ?_⟩) ?_ ?_
        rotate_left
        · intro w'
          go_simp
          with_reducible rfl
        rotate_left
        · simp only [Act.put, List.setIfInBounds_toArray, List.set_cons_zero, List.set_cons_succ, i64_w, i32_w]
          rfl
        refine pure_ (i := 11) (N := some 28) (v := ?_) (a' := ?_) #[true, true, true, true, true, true, true, true, true, true, true, true] rfl rfl (any_of HT_.out (by kernel_rfl)) (fun _ _ _ h => h) (Or.inl ⟨by rfl, ?_⟩) ?_ ?_
        rotate_left
        · intro w'
          go_simp
          with_reducible rfl
        rotate_left
        · simp only [Act.put, List.setIfInBounds_toArray, List.set_cons_zero, List.set_cons_succ, i64_w, i32_w]
          rfl
        refine done_ (done_of HT_.out (by kernel_rfl)) ?_
        clear h51 hx1
        by_cases d : t.f1 ≤ x.f1
        · have db : decide (t.f1 ≤ x.f1) = true := decide_eq_true d
          rw [if_pos d] at STEP
          rw [db]
          clear d
          generalize W6.drew = W7 at *
          go_upto_region 7 with (fail)
          have hx1 := X1.out
          have h52 := (blk_cell BK2.out 2).trans (show _ = some (Value.int .i64 t.f2) from rfl)
          have hxf := XF.out
          have PUT := Aside0.mk (anc_span_put (Kd.R_drew ROW.out) k KK.out.1 KK.out.2 x (show W7.drew.cell? _ = _ from X0.out) (show W7.drew.cell? _ = _ from X1.out) (if x.f1 < t.f2 then t.f2 else x.f1))
          have BW2 := Aside0.mk (below_drew BW.out)
          refine start_ (n := 13) (S := fun w' => w'.cell? ⟨gb, k.toNat * 2 + 1, none⟩ = some (.int .i64 x.f1) ∧ w'.cell? ⟨g5, 2, none⟩ = some (.int .i64 t.f2) ∧ w'.frozen? ⟨gb, k.toNat * 2 + 1, none⟩ = false) (ds := [12]) #[false, false, false, false, false, false, false, false, false, false, false, false, false] (by kernel_rfl) rfl rfl ⟨hx1, h52, hxf⟩ (fun hHeld => ?_)
          refine with_tabW anc_Spans.tab7 anc_Spans.bits7 (fun HT_ HW_ => ?_)
          refine pure_ (i := 0) (N := some 29) (v := ?_) (a' := ?_) #[true, false, false, false, false, false, false, false, false, false, false, false, false] rfl rfl (any_of HT_.out (by kernel_rfl)) (fun _ _ _ h => h) (Or.inl ⟨by rfl, ?_⟩) ?_ ?_
          rotate_left
          · intro w'
            go_simp
            with_reducible rfl
          rotate_left
          · simp only [Act.put, List.setIfInBounds_toArray, List.set_cons_zero, List.set_cons_succ, i64_w, i32_w]
            rfl
          refine pure_ (i := 1) (N := some 30) (v := ?_) (a' := ?_) #[true, true, false, false, false, false, false, false, false, false, false, false, false] rfl rfl (any_of HT_.out (by kernel_rfl)) (fun _ _ _ h => h) (Or.inl ⟨by rfl, ?_⟩) ?_ ?_
          rotate_left
          · intro w'
            go_simp
            with_reducible rfl
          rotate_left
          · simp only [Act.put, List.setIfInBounds_toArray, List.set_cons_zero, List.set_cons_succ, i64_w, i32_w]
            rfl
          refine pure_ (i := 2) (N := some 31) (v := ?_) (a' := ?_) #[true, true, true, false, false, false, false, false, false, false, false, false, false] rfl rfl (any_of HT_.out (by kernel_rfl)) (fun _ _ _ h => h) (Or.inl ⟨by rfl, ?_⟩) ?_ ?_
          rotate_left
          · intro w'
            go_simp
            with_reducible rfl
          rotate_left
          · simp only [Act.put, List.setIfInBounds_toArray, List.set_cons_zero, List.set_cons_succ, i64_w, i32_w]
            rfl
          refine pure_ (i := 3) (N := some 32) (v := ?_) (a' := ?_) #[true, true, true, true, false, false, false, false, false, false, false, false, false] rfl rfl (any_of HT_.out (by kernel_rfl)) (fun _ _ _ h => h) (Or.inl ⟨by rfl, ?_⟩) ?_ ?_
          rotate_left
          · intro w'
            go_simp
            with_reducible rfl
          rotate_left
          · simp only [Act.put, List.setIfInBounds_toArray, List.set_cons_zero, List.set_cons_succ, i64_w, i32_w]
            rfl
          refine pure_ (i := 4) (N := some 33) (v := ?_) (a' := ?_) #[true, true, true, true, true, false, false, false, false, false, false, false, false] rfl rfl (any_of HT_.out (by kernel_rfl)) (fun _ _ _ h => h) (Or.inl ⟨by rfl, ?_⟩) ?_ ?_
          rotate_left
          · intro w'
            go_simp
            with_reducible rfl
          rotate_left
          · simp only [Act.put, List.setIfInBounds_toArray, List.set_cons_zero, List.set_cons_succ, i64_w, i32_w]
            rfl
          refine pure_ (i := 5) (N := some 34) (v := ?_) (a' := ?_) #[true, true, true, true, true, true, false, false, false, false, false, false, false] rfl rfl (any_of HT_.out (by kernel_rfl)) (fun _ _ _ h => h) (Or.inl ⟨by rfl, ?_⟩) ?_ ?_
          rotate_left
          · intro w'
            go_simp
            with_reducible rfl
          rotate_left
          · simp only [Act.put, List.setIfInBounds_toArray, List.set_cons_zero, List.set_cons_succ, i64_w, i32_w]
            rfl
          refine take_ (i := 6) (N := some 35) (v := ?_) (a' := ?_) #[true, true, true, true, true, true, true, false, false, false, false, false, false] rfl rfl (take_ofW HT_.out HW_.out (by kernel_rfl)) (fun _ _ _ h => h) (Or.inl ⟨by rfl, ?_⟩) hHeld ?_ ?_
          rotate_left
          · rintro w' ⟨s0, s1, s2⟩
            go_simp
            with_reducible rfl
          rotate_left
          · simp only [Act.put, List.setIfInBounds_toArray, List.set_cons_zero, List.set_cons_succ, i64_w, i32_w]
            rfl
          refine pure_ (i := 7) (N := some 36) (v := ?_) (a' := ?_) #[true, true, true, true, true, true, true, true, false, false, false, false, false] rfl rfl (any_of HT_.out (by kernel_rfl)) (fun _ _ _ h => h) (Or.inl ⟨by rfl, ?_⟩) ?_ ?_
          rotate_left
          · intro w'
            go_simp
            with_reducible rfl
          rotate_left
          · simp only [Act.put, List.setIfInBounds_toArray, List.set_cons_zero, List.set_cons_succ, i64_w, i32_w]
            rfl
          refine take_ (i := 8) (N := some 37) (v := ?_) (a' := ?_) #[true, true, true, true, true, true, true, true, true, false, false, false, false] rfl rfl (take_ofW HT_.out HW_.out (by kernel_rfl)) (fun _ _ _ h => h) (Or.inl ⟨by rfl, ?_⟩) hHeld ?_ ?_
          rotate_left
          · rintro w' ⟨s0, s1, s2⟩
            go_simp
            with_reducible rfl
          rotate_left
          · simp only [Act.put, List.setIfInBounds_toArray, List.set_cons_zero, List.set_cons_succ, i64_w, i32_w]
            rfl
          refine pure_ (i := 9) (N := some 38) (v := ?_) (a' := ?_) #[true, true, true, true, true, true, true, true, true, true, false, false, false] rfl rfl (any_of HT_.out (by kernel_rfl)) (fun _ _ _ h => h) (Or.inl ⟨by rfl, ?_⟩) ?_ ?_
          rotate_left
          · intro w'
            go_simp
            with_reducible rfl
          rotate_left
          · simp only [Act.put, List.setIfInBounds_toArray, List.set_cons_zero, List.set_cons_succ, i64_w, i32_w]
            rfl
          refine pure_ (i := 10) (N := some 39) (v := ?_) (a' := ?_) #[true, true, true, true, true, true, true, true, true, true, true, false, false] rfl rfl (any_of HT_.out (by kernel_rfl)) (fun _ _ _ h => h) (Or.inl ⟨by rfl, ?_⟩) ?_ ?_
          rotate_left
          · intro w'
            go_simp
            with_reducible rfl
          rotate_left
          · simp only [Act.put, List.setIfInBounds_toArray, List.set_cons_zero, List.set_cons_succ, i64_w, i32_w]
            rfl
          refine pure_ (i := 11) (N := some 40) (v := ?_) (a' := ?_) #[true, true, true, true, true, true, true, true, true, true, true, true, false] rfl rfl (any_of HT_.out (by kernel_rfl)) (fun _ _ _ h => h) (Or.inl ⟨by rfl, ?_⟩) ?_ ?_
          rotate_left
          · intro w'
            go_simp
            with_reducible rfl
          rotate_left
          · simp only [Act.put, List.setIfInBounds_toArray, List.set_cons_zero, List.set_cons_succ, i64_w, i32_w]
            rfl
          refine last_ (i := 12) (N := none) #[true, true, true, true, true, true, true, true, true, true, true, true, true] rfl rfl (one_of HT_.out (by kernel_rfl)) (by decide) (fun K hK => ?_)
          refine skip_ (w1 := ?_) (by rfl) rfl ?_ ?_
          rotate_left
          · go_simp
            rfl
          refine hK.out _ _ ?_
          clear hK K
          refine done_ (done_of HT_.out (by kernel_rfl)) ?_
          clear hx1 h52 hxf
          generalize (if x.f1 < t.f2 then t.f2 else x.f1) = mx at *
          go_wp2
          go_roundw
          case measure => exact MS.out
          case rel => exact ⟨_, rfl, ⟨STEP.out _ _ PUT.out.1 (below_set BW2.out HGB.out)⟩⟩
        · have db : decide (t.f1 ≤ x.f1) = false := decide_eq_false d
          rw [if_neg d] at STEP
          rw [db]
          clear d
          have h51 := (blk_cell BK2.out 1).trans (show _ = some (Value.int .i64 t.f1) from rfl)
          have h52 := (blk_cell BK2.out 2).trans (show _ = some (Value.int .i64 t.f2) from rfl)
          generalize W6.drew = W7 at *
          go_wp2_with (first | ((with_reducible refine gate_builtin (b := .append) (xs := #[.tmp 41, .tmp 47]) rfl ?_); at_builtin; refine Kd.R_append k37 (w0 := w1) w1.heap.size rfl (.tmp 41) (.tmp 47) 39 37 (.agg #[.int .i64 0, .int .i64 0]) 16 rfl Try.underlying39 info37 rfl (by decide) (by omega) (.slice (some ⟨gb, 0, none⟩) out.length cap) out (⟨t.f1, t.f2⟩ : S37) [.int .i64 t.f1, .int .i64 t.f2] (fun _ => True) (fun _ => False) rfl (by first | (go_simp; done) | (go_simp; rfl)) ?aP (fun _ hk => hk.elim) ?aF ?aO ?aB ?aS ?aL ?_; (case aP => exact k37_mkM _ _ _ (⟨t.f1, t.f2⟩ : S37)); (case aF => exact (fun _ _ => trivial)); (case aO => exact ROW.out); (case aB => exact BW.out); (case aS => exact below_size BW.out); (case aL => exact LEN.out); intro v1 w7 ho hb hg hat))
          go_roundw
          case measure => exact MS.out
          case rel => exact ⟨_, rfl, ⟨STEP.out _ _ ho hb⟩⟩
    · have c5b : decide (i < (L.length : Int)) = false := decide_eq_false c5
      have ei : (L.take i.toNat) = L := List.take_of_length_le (by have := HI.out.hi; omega)
      have ROW := Aside0.mk HI.out.row
      have BW := Aside0.mk HI.out.below
      rw [ei] at ROW
      clear c5 ei HI
      go_wp2
      go_ret
      exact ⟨_, rfl, Kd.R_lower ROW.out (below_size HB1.out), below_step HB1.out BW.out⟩

end Go.Proofs.Ytgafgkojbbndmaa.PAs
