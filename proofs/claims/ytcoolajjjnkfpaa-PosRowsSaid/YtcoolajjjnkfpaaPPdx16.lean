-- Written for this claim by a program (the kit's print, with hand-made contracts for what it does not take).
import Derived.Test.YtcoolajjjnkfpaaPPdx0
import Derived.Test.YtcoolajjjnkfpaaPPdx1
import Derived.Test.YtcoolajjjnkfpaaPPdx2
import Derived.Test.YtcoolajjjnkfpaaPPdx5
import Derived.Test.YtcoolajjjnkfpaaPPdx7
import Derived.Test.YtcoolajjjnkfpaaPPdx10
import Derived.Test.YtcoolajjjnkfpaaPPdx12
import Derived.Test.YtcoolajjjnkfpaaPPdx15
namespace Go.Proofs.Ytcoolajjjnkfpaa.PPd
open Go.RowKit Go.Proofs.YtcoolajjjnkfpaaW.PrintWords Go.Proofs.YtcoolajjjnkfpaaW.PrintLast Go.Proofs.YtcoolajjjnkfpaaW.PrintMore
attribute [local go_sem] max2_int min2_int max_two min_two max_three min_three max_four min_four   -- for this text's walks alone
set_option linter.unusedVariables false
set_option linter.unusedSimpArgs false

/-! ### emenderlaw08_PosRows: function 10 -/
/-! ### Any maps, with any mirrors: the law -/
theorem pos_M.keep {B b : Nat} {l : List MapOne} {W W1 : World} (h : pos_M B b l W) (hk : ref_Keep W W1) : pos_M B b l W1 := by
  obtain ⟨⟨v, h1, h2⟩, h3⟩ := h
  refine ⟨⟨v, hk _ _ _ (by decide) (by decide) h1, Kd.R_mono (Kd.R_move (Kd.R_bound h2) (fun j hj => ?_)) (fun _ h => h.1)⟩, h3⟩
  obtain ⟨_, _, _, q, hq, cs, hc⟩ := hj
  rw [hc]
  exact hk _ _ _ (by rintro rfl; revert hq; decide) (by rintro rfl; revert hq; decide) hc
theorem ref_M.keep {w0 : World} {B b : Nat} {l : List MapOne} {W W1 : World} (h : ref_M w0 B b l W) (hk : pos_Keep W W1) : ref_M w0 B b l W1 := by
  obtain ⟨⟨v, h1, h2⟩, h3⟩ := h
  refine ⟨⟨v, hk _ _ _ (by decide) (by decide) h1, Kd.R_mono (Kd.R_move (Kd.R_bound h2) (fun j hj => ?_)) (fun _ h => h.1)⟩, h3⟩
  obtain ⟨_, _, _, q, hq, cs, hc⟩ := hj
  have hq : q ∈ ([78] : List Nat) := hq
  rw [hc]
  exact hk _ _ _ (by rintro rfl; revert hq; decide) (by rintro rfl; revert hq; decide) hc
def emenderlaw08_PosRows.rows (l : List (List S37)) (n : Nat) : List MapOne := (l.take n).foldl (fun m r => pos_Add.l (pos_Right.okB r) m r) []
theorem emenderlaw08_PosRows.rows_succ (l : List (List S37)) (n : Nat) (h : n < l.length) : emenderlaw08_PosRows.rows l (n + 1) = pos_Add.l (pos_Right.okB (rd_L2 l (n : Int))) (emenderlaw08_PosRows.rows l n) (rd_L2 l (n : Int)) := by
  unfold emenderlaw08_PosRows.rows rd_L2
  rw [List.take_add_one, List.getElem?_eq_getElem h, List.foldl_append, Int.toNat_natCast, List.getD_eq_getElem?_getD, List.getElem?_eq_getElem h]
  rfl
def emenderlaw08_PosRows.mirr (mi : List S66) (m : List MapOne) (n : Nat) : List MapOne := (mi.take n).foldl (fun m x => pos_Mirror.l m x.f0 x.f1) m
theorem emenderlaw08_PosRows.mirr_succ (mi : List S66) (m : List MapOne) (n : Nat) (h : n < mi.length) : emenderlaw08_PosRows.mirr mi m (n + 1) = pos_Mirror.l (emenderlaw08_PosRows.mirr mi m n) (rd_T66 mi (n : Int)).f0 (rd_T66 mi (n : Int)).f1 := by
  unfold emenderlaw08_PosRows.mirr rd_T66
  rw [List.take_add_one, List.getElem?_eq_getElem h, List.foldl_append, Int.toNat_natCast, List.getD_eq_getElem?_getD, List.getElem?_eq_getElem h]
  rfl
/-- All maps, all mirrors. -/
def emenderlaw08_PosRows.all (l : List (List S37)) (mi : List S66) : List MapOne := emenderlaw08_PosRows.mirr mi (emenderlaw08_PosRows.rows l (min l.length 50)) (min mi.length 50)
abbrev emenderlaw08_PosRows.ok (k : Nat) (l : List (List S37)) (mi : List S66) (fr p side : Int) : Prop :=
  emenderlaw08_awake.f k = some true ∧ (∀ y ∈ l, y.length ≤ 9223372036854775807 → pos_Right.f k y = some (pos_Right.okB y) ∧ emenderref08_Right.f k y = some (pos_Right.okB y) ∧ (pos_Right.okB y = true → y.length ≤ 4)) ∧
    (emenderlaw08_PosRows.all l mi).length ≤ 4096 ∧ (∀ x ∈ emenderlaw08_PosRows.all l mi, x.mirror < ((emenderlaw08_PosRows.all l mi).length : Int)) ∧ (pos_MMap.f k (emenderlaw08_PosRows.all l mi) fr p side).isSome = true ∧ ref_MMap.f k (emenderlaw08_PosRows.all l mi) fr p side = pos_MMap.f k (emenderlaw08_PosRows.all l mi) fr p side
def emenderlaw08_PosRows.f (k : Nat) (l : List (List S37)) (mi : List S66) (fr p side : Int) : Option Bool := if emenderlaw08_PosRows.ok k l mi fr p side then some true else none
theorem emenderlaw08_PosRows.rd_mem {l : List (List S37)} {i : Int} (h0 : 0 ≤ i) (h1 : i < (l.length : Int)) : rd_L2 l i ∈ l := by
  unfold rd_L2
  rw [List.getD_eq_getElem?_getD, List.getElem?_eq_getElem (show i.toNat < l.length by omega)]
  exact List.getElem_mem _
structure emenderlaw08_PosRows.I (w : World) (b c : Nat) (m : List MapOne) (W : World) : Prop where
  map : pos_M w.heap.size b m W
  ref : ref_M w w.heap.size c m W
  below : Below w.heap.size w W
theorem emenderlaw08_PosRows.I.weak {w : World} {b c : Nat} {m : List MapOne} {W W1 : World} (h : emenderlaw08_PosRows.I w b c m W) (hb : Below W.heap.size W W1) : emenderlaw08_PosRows.I w b c m W1 := ⟨h.map.below hb, h.ref.below hb, below_step h.below hb⟩
def emenderlaw08_PosRows.T8 : Bool × List (List Nat × List Nat) := (true, [([], []), ([], []), ([], []), ([1, 2], [1, 2]), ([3], [3]), ([0, 4], [0, 4]), ([], []), ([], []), ([], []), ([7, 8], [7, 8]), ([9], [9]), ([6, 10, 5], [6, 10]), ([5, 11], [5, 11])])
def emenderlaw08_PosRows.B8 : List Nat := [0, 0, 0, 6, 14, 31, 0, 0, 0, 384, 896, 2047, 4095]
theorem emenderlaw08_PosRows.tab8 : rtab .any (opsOf Try.f10 8) = emenderlaw08_PosRows.T8 := by kernel_rfl
theorem emenderlaw08_PosRows.bits8 : waitsOk emenderlaw08_PosRows.T8.2 emenderlaw08_PosRows.B8 = true := by kernel_rfl
def emenderlaw08_PosRows.T13 : Bool × List (List Nat × List Nat) := (true, [([], []), ([], []), ([], []), ([1, 2], [1, 2]), ([3], [3]), ([4], [4]), ([], []), ([], []), ([6, 7], [6, 7]), ([8], [8]), ([9], [9]), ([0, 5, 10], [0, 5, 10]), ([], []), ([], []), ([], []), ([13, 14], [13, 14]), ([15], [15]), ([16], [16]), ([], []), ([], []), ([18, 19], [18, 19]), ([20], [20]), ([21], [21]), ([12, 17, 22, 11], [12, 17, 22]), ([11, 23], [11, 23])])
def emenderlaw08_PosRows.B13 : List Nat := [0, 0, 0, 6, 14, 30, 0, 0, 192, 448, 960, 2047, 0, 0, 0, 24576, 57344, 122880, 0, 0, 786432, 1835008, 3932160, 8388607, 16777215]
theorem emenderlaw08_PosRows.tab13 : rtab .any (opsOf Try.f10 13) = emenderlaw08_PosRows.T13 := by kernel_rfl
theorem emenderlaw08_PosRows.bits13 : waitsOk emenderlaw08_PosRows.T13.2 emenderlaw08_PosRows.B13 = true := by kernel_rfl
def emenderlaw08_PosRows.T17 : Bool × List (List Nat × List Nat) := (true, [([], []), ([], []), ([0, 1], [0, 1]), ([2], [2]), ([3], [3]), ([3], [3]), ([4, 5, 3], [3, 4, 5]), ([3, 6], [3, 6]), ([7, 3], [7]), ([8], [8]), ([9, 8, 8], [8, 9]), ([8], [8]), ([11, 8], [8, 11]), ([12, 8], [8, 12]), ([13, 8], [8, 13]), ([14, 8], [8, 14]), ([10, 15, 8], [8, 10, 15]), ([8, 16], [8, 16]), ([17, 10], [17]), ([18, 18], [18]), ([18, 19], [18, 19]), ([20, 19, 0, 1, 2, 3, 4, 5, 6, 7, 8, 9, 10, 11, 12, 13, 14, 15, 16, 17, 18, 19, 20], [20])])
def emenderlaw08_PosRows.B17 : List Nat := [0, 0, 3, 7, 15, 15, 63, 127, 255, 511, 1023, 511, 2559, 6655, 14847, 31231, 65535, 131071, 262143, 524287, 1048575, 2097151]
theorem emenderlaw08_PosRows.tab17 : rtab .any (opsOf Try.f10 17) = emenderlaw08_PosRows.T17 := by kernel_rfl
theorem emenderlaw08_PosRows.bits17 : waitsOk emenderlaw08_PosRows.T17.2 emenderlaw08_PosRows.B17 = true := by kernel_rfl
set_option maxRecDepth 100000 in
set_option maxHeartbeats 16000000 in
theorem emenderlaw08_PosRows.calls (k : Nat) (A0 : Option Addr) (c0 : Nat) (l0 : List (List S37)) (A1 : Option Addr) (c1 : Nat) (l1 : List S66) (a2 a3 a4 : Int) (r : Bool) (w : World) (hr0 : Kd.C (Kd.slice 37 k37) w A0 l0.length l0) (hc0 : l0.length ≤ c0) (hr1 : Kd.C k66 w A1 l1.length l1) (hc1 : l1.length ≤ c1) (h : emenderlaw08_PosRows.f k l0 l1 a2 a3 a4 = some r) :
    Calls Try.prog 10 #[.slice A0 l0.length c0, .slice A1 l1.length c1, .int .i64 a2, .int .i64 a3, .int .i64 a4] w fun e w' => e = .returned (.bool r) ∧ Below w.heap.size w w' := by
  have hu24 := Try.underlying24
  have hu64 := Try.underlying64
  have hu66 := Try.underlying66
  have hok : emenderlaw08_PosRows.ok k l0 l1 a2 a3 a4 ∧ true = r := by
    unfold emenderlaw08_PosRows.f at h
    split at h
    next hc => exact ⟨hc, Option.some.inj h⟩
    next => cases h
  obtain ⟨⟨haw, hrow, hlen, hmir, hsome, heq⟩, rfl⟩ := hok
  obtain ⟨⟨s1, s2, s3, s4, s5⟩, hs⟩ := Option.isSome_iff_exists.1 hsome
  rw [hs] at heq
  have HR := Aside0.mk hr0
  have HR1 := Aside0.mk hr1
  have HAW := Aside0.mk haw
  have HROW := Aside0.mk hrow
  have HLEN := Aside0.mk (And.intro hlen hmir)
  have HMAP := Aside0.mk (And.intro hs heq)
  clear hr0 hr1 haw hrow hlen hmir hs heq hsome h
  go_enter Try.func10, Try.ntmps10
  go_wp2_with fail
  refine (pos_New.calls _).mono ?_
  rintro e w1 ⟨b, rfl, hm, hb⟩
  have HM := Aside0.mk hm
  have HB := Aside0.mk hb
  clear hm hb
  go_wp2_with (first | ((with_reducible refine gate_dst (N := 21) rfl ?_); refine box_event ?hg (N := 21) ?hd (cs := #[.slice none 0 0]) (t := 64) ?hr ?_; (case hd => rfl); (case hg => rfl); (case hr => first | (go_simp; done) | (go_simp; rfl)); intro c hg w3 hbox hb; have I0 := Aside0.mk (show emenderlaw08_PosRows.I w b c (emenderlaw08_PosRows.rows l0 0) w3 from ⟨HM.out.below hb, ⟨⟨_, hbox, Kd.R_nil _ _ _ _ _⟩, by rw [hg]; exact below_size HB.out⟩, below_step HB.out hb⟩); clear hb hbox hg HM HB))
  go_loopg [13] 51 (fun kq v13 w' => ∃ (i : Int), v13 = .int .i64 i ∧ Aside0 (emenderlaw08_PosRows.I w b c (emenderlaw08_PosRows.rows l0 i.toNat) w') ∧ Aside0 (0 ≤ i ∧ i ≤ (l0.length : Int) ∧ i ≤ 50 ∧ 51 ≤ i + kq))
  case atStart => exact ⟨_, rfl, I0, ⟨by omega⟩⟩
  case round =>
    clear I0
    obtain ⟨i, rfl, HI, HN⟩ := hrel
    have hn := HN.out
    obtain ⟨f, rfl⟩ : ∃ f, gk = f + 1 := ⟨gk - 1, by omega⟩
    by_cases c5 : i < (l0.length : Int)
    · have c5b : decide (i < (l0.length : Int)) = true := decide_eq_true c5
      by_cases c6 : i < 50
      · have c6b : decide (i < 50) = true := decide_eq_true c6
        obtain ⟨ad, A2, c2, eA, el, lc, kc⟩ := at_L2 HR.out i hn.1 c5
        subst eA
        have hro := HROW.out (rd_L2 l0 i) (emenderlaw08_PosRows.rd_mem hn.1 c5) (Kd.C_max kc)
        have el0 : wr.cell? (ad.add i.toNat) = some (.slice A2 (rd_L2 l0 i).length c2) := (HI.out.below.cell (World.block_lt_of_cell? w _ el)).trans el
        have E1 : Aside0 (emenderlaw08_PosRows.rows l0 (i + 1).toNat = pos_Add.l (pos_Right.okB (rd_L2 l0 i)) (emenderlaw08_PosRows.rows l0 i.toNat) (rd_L2 l0 i)) := ⟨by
          rw [show (i + 1).toNat = i.toNat + 1 by omega, emenderlaw08_PosRows.rows_succ l0 i.toNat (by omega), show ((i.toNat : Nat) : Int) = i by omega]⟩
        have LC := Aside0.mk lc
        have KC := Aside0.mk kc
        have HRO := Aside0.mk hro
        have EL := Aside0.mk el
        have C5 := Aside0.mk (And.intro c5 c6)
        have i0t := eq_true hn.1
        have c5t := eq_true c5
        have WI := Aside0.mk (show wrap64 (i + 1) = i + 1 from by unfold wrap64; omega)
        generalize pos_Right.okB (rd_L2 l0 i) = q at *
        generalize emenderlaw08_PosRows.rows l0 i.toNat = m at *
        clear lc kc hro c5 c6 hn el
        go_wp2
        refine start_ (n := 13) (S := fun w' => w'.cell? (ad.add i.toNat) = some (.slice A2 (rd_L2 l0 i).length c2)) (ds := []) #[false, false, false, false, false, false, false, false, false, false, false, false, false] (by kernel_rfl) rfl rfl el0 (fun hHeld => ?_)
        refine with_tabW emenderlaw08_PosRows.tab8 emenderlaw08_PosRows.bits8 (fun HT_ HW_ => ?_)
        have I5 := Aside0.mk (HI.out.weak (Below.drew (Below.refl _ wr)))
        clear HI el0
        generalize wr.drew = w5 at *
        refine pure_ (i := 0) (N := some 34) (v := ?_) (a' := ?_) #[true, false, false, false, false, false, false, false, false, false, false, false, false] rfl rfl (any_of HT_.out (by kernel_rfl)) (fun _ _ _ h => h) (Or.inl ⟨by rfl, ?_⟩) ?_ ?_
        rotate_left
        · intro w'
          go_simp
          with_reducible rfl
        rotate_left
        · simp only [Act.put, List.setIfInBounds_toArray, List.set_cons_zero, List.set_cons_succ, i64_w, i32_w]
          rfl
        refine pure_ (i := 1) (N := some 35) (v := ?_) (a' := ?_) #[true, true, false, false, false, false, false, false, false, false, false, false, false] rfl rfl (any_of HT_.out (by kernel_rfl)) (fun _ _ _ h => h) (Or.inl ⟨by rfl, ?_⟩) ?_ ?_
        rotate_left
        · intro w'
          go_simp
          with_reducible rfl
        rotate_left
        · simp only [Act.put, List.setIfInBounds_toArray, List.set_cons_zero, List.set_cons_succ, i64_w, i32_w]
          rfl
        refine pure_ (i := 2) (N := some 36) (v := ?_) (a' := ?_) #[true, true, true, false, false, false, false, false, false, false, false, false, false] rfl rfl (any_of HT_.out (by kernel_rfl)) (fun _ _ _ h => h) (Or.inl ⟨by rfl, ?_⟩) ?_ ?_
        rotate_left
        · intro w'
          go_simp
          with_reducible rfl
        rotate_left
        · simp only [Act.put, List.setIfInBounds_toArray, List.set_cons_zero, List.set_cons_succ, i64_w, i32_w]
          rfl
        refine pure_ (i := 3) (N := some 37) (v := ?_) (a' := ?_) #[true, true, true, true, false, false, false, false, false, false, false, false, false] rfl rfl (any_of HT_.out (by kernel_rfl)) (fun _ _ _ h => h) (Or.inl ⟨by rfl, ?_⟩) ?_ ?_
        rotate_left
        · intro w'
          go_simp
          with_reducible rfl
        rotate_left
        · simp only [Act.put, List.setIfInBounds_toArray, List.set_cons_zero, List.set_cons_succ, i64_w, i32_w]
          rfl
        refine take_ (i := 4) (N := some 38) (v := ?_) (a' := ?_) #[true, true, true, true, true, false, false, false, false, false, false, false, false] rfl rfl (take_ofW HT_.out HW_.out (by kernel_rfl)) (fun _ _ _ h => h) (Or.inl ⟨by rfl, ?_⟩) hHeld ?_ ?_
        rotate_left
        · intro w' s0
          go_simp
          with_reducible rfl
        rotate_left
        · simp only [Act.put, List.setIfInBounds_toArray, List.set_cons_zero, List.set_cons_succ, i64_w, i32_w]
          rfl
        refine pure_ (i := 6) (N := some 40) (v := ?_) (a' := ?_) #[true, true, true, true, true, false, true, false, false, false, false, false, false] rfl rfl (any_of HT_.out (by kernel_rfl)) (fun _ _ _ h => h) (Or.inl ⟨by rfl, ?_⟩) ?_ ?_
        rotate_left
        · intro w'
          go_simp
          with_reducible rfl
        rotate_left
        · simp only [Act.put, List.setIfInBounds_toArray, List.set_cons_zero, List.set_cons_succ, i64_w, i32_w]
          rfl
        refine pure_ (i := 7) (N := some 41) (v := ?_) (a' := ?_) #[true, true, true, true, true, false, true, true, false, false, false, false, false] rfl rfl (any_of HT_.out (by kernel_rfl)) (fun _ _ _ h => h) (Or.inl ⟨by rfl, ?_⟩) ?_ ?_
        rotate_left
        · intro w'
          go_simp
          with_reducible rfl
        rotate_left
        · simp only [Act.put, List.setIfInBounds_toArray, List.set_cons_zero, List.set_cons_succ, i64_w, i32_w]
          rfl
        refine pure_ (i := 8) (N := some 42) (v := ?_) (a' := ?_) #[true, true, true, true, true, false, true, true, true, false, false, false, false] rfl rfl (any_of HT_.out (by kernel_rfl)) (fun _ _ _ h => h) (Or.inl ⟨by rfl, ?_⟩) ?_ ?_
        rotate_left
        · intro w'
          go_simp
          with_reducible rfl
        rotate_left
        · simp only [Act.put, List.setIfInBounds_toArray, List.set_cons_zero, List.set_cons_succ, i64_w, i32_w]
          rfl
        refine pure_ (i := 9) (N := some 43) (v := ?_) (a' := ?_) #[true, true, true, true, true, false, true, true, true, true, false, false, false] rfl rfl (any_of HT_.out (by kernel_rfl)) (fun _ _ _ h => h) (Or.inl ⟨by rfl, ?_⟩) ?_ ?_
        rotate_left
        · intro w'
          go_simp
          with_reducible rfl
        rotate_left
        · simp only [Act.put, List.setIfInBounds_toArray, List.set_cons_zero, List.set_cons_succ, i64_w, i32_w]
          rfl
        refine take_ (i := 10) (N := some 44) (v := ?_) (a' := ?_) #[true, true, true, true, true, false, true, true, true, true, true, false, false] rfl rfl (take_ofW HT_.out HW_.out (by kernel_rfl)) (fun _ _ _ h => h) (Or.inl ⟨by rfl, ?_⟩) hHeld ?_ ?_
        rotate_left
        · intro w' s0
          go_simp
          with_reducible rfl
        rotate_left
        · simp only [Act.put, List.setIfInBounds_toArray, List.set_cons_zero, List.set_cons_succ, i64_w, i32_w]
          rfl
        refine one_ (i := 5) (N := some 39) #[true, true, true, true, true, true, true, true, true, true, true, false, false] rfl rfl (one_of HT_.out (by kernel_rfl)) (by decide) (fun K hK => ?_)
        refine goes_ Try.func23 (by kernel_rfl) rfl #[.pointer (some ⟨b, 0, none⟩), .slice A2 (rd_L2 l0 i).length c2] (by rfl) rfl rfl (by simp only [List.map_toArray, List.map_cons, List.map_nil]; rfl) ?_
        refine (pos_Add.calls k w.heap.size b m A2 c2 (rd_L2 l0 i) q w _ I5.out.map I5.out.below I5.out.below.size (Kd.C_below KC.out I5.out.below) LC.out (fun h => by have := HRO.out.2.2 h; omega) HRO.out.1).mono ?_
        rintro e w6 ⟨rfl, ⟨hm, hb⟩, hk⟩
        refine ⟨_, rfl, ?_⟩
        have M6 := Aside0.mk hm
        have B6 := Aside0.mk hb
        have F6 := Aside0.mk (I5.out.ref.keep hk)
        have el6 : w6.cell? (ad.add i.toNat) = some (.slice A2 (rd_L2 l0 i).length c2) := (hb.cell (World.block_lt_of_cell? w _ EL.out)).trans EL.out
        refine hK.out _ _ el6 (fun hHeld => ?_)
        clear hK K hm hb hk el6 I5
        refine norm_ (a' := ?_) ?_ ?_
        rotate_left
        · show Act.put _ (some 39) _ = _
          simp only [Act.put, List.setIfInBounds_toArray, List.set_cons_zero, List.set_cons_succ, i64_w, i32_w]
          rfl
        refine one_ (i := 11) (N := some 45) #[true, true, true, true, true, true, true, true, true, true, true, true, false] rfl rfl (one_of HT_.out (by kernel_rfl)) (by decide) (fun K hK => ?_)
        refine goes_ Try.func27 (by kernel_rfl) rfl #[.pointer (some ⟨c, 0, none⟩), .slice A2 (rd_L2 l0 i).length c2] (by rfl) rfl rfl (by simp only [List.map_toArray, List.map_cons, List.map_nil]; rfl) ?_
        refine (ref_Add.calls k w w.heap.size c m A2 c2 (rd_L2 l0 i) q w _ F6.out B6.out B6.out B6.out.size KC.out LC.out HRO.out.2.1).mono ?_
        rintro e w7 ⟨rfl, hf, hb, hk⟩
        refine ⟨_, rfl, ?_⟩
        have I8 := Aside0.mk (show emenderlaw08_PosRows.I w b c (pos_Add.l q m (rd_L2 l0 i)) w7 from ⟨M6.out.keep hk, hf, hb⟩)
        have el7 : w7.cell? (ad.add i.toNat) = some (.slice A2 (rd_L2 l0 i).length c2) := (hb.cell (World.block_lt_of_cell? w _ EL.out)).trans EL.out
        refine hK.out _ _ el7 (fun hHeld => ?_)
        clear hK K hf hb hk el7 M6 B6 F6
        refine norm_ (a' := ?_) ?_ ?_
        rotate_left
        · show Act.put _ (some 45) _ = _
          simp only [Act.put, List.setIfInBounds_toArray, List.set_cons_zero, List.set_cons_succ, i64_w, i32_w]
          rfl
        refine pure_ (i := 12) (N := some 46) (v := ?_) (a' := ?_) #[true, true, true, true, true, true, true, true, true, true, true, true, true] rfl rfl (any_of HT_.out (by kernel_rfl)) (fun _ _ _ h => h) (Or.inl ⟨by rfl, ?_⟩) ?_ ?_
        rotate_left
        · intro w'
          go_simp
          with_reducible rfl
        rotate_left
        · simp only [Act.put, List.setIfInBounds_toArray, List.set_cons_zero, List.set_cons_succ, i64_w, i32_w]
          rfl
        refine done_ (done_of HT_.out (by kernel_rfl)) ?_
        go_wp2
        go_roundg f
        case measure => omega
        case rel => exact ⟨i + 1, by rw [WI.out], ⟨by rw [E1.out]; exact I8.out⟩, ⟨by have := HN.out; have := C5.out; omega⟩⟩
      · have c6b : decide (i < 50) = false := decide_eq_false c6
        have e1 : i.toNat = min l0.length 50 := by omega
        rw [e1] at HI
        clear c5 c6 hn e1 HN
        go_wp2
        have I2 := Aside0.mk (show emenderlaw08_PosRows.I w b c (emenderlaw08_PosRows.mirr l1 (emenderlaw08_PosRows.rows l0 (min l0.length 50)) (0 : Int).toNat) wr from HI.out)
        clear HI
        go_loopg [14] 51 (fun kq v14 w' => ∃ (i : Int), v14 = .int .i64 i ∧ Aside0 (emenderlaw08_PosRows.I w b c (emenderlaw08_PosRows.mirr l1 (emenderlaw08_PosRows.rows l0 (min l0.length 50)) i.toNat) w') ∧ Aside0 (0 ≤ i ∧ i ≤ (l1.length : Int) ∧ i ≤ 50 ∧ 51 ≤ i + kq))
        case atStart => exact ⟨_, rfl, I2, ⟨by omega⟩⟩
        case round =>
          clear I2
          obtain ⟨i, rfl, HI, HN⟩ := hrel
          have hn := HN.out
          obtain ⟨f, rfl⟩ : ∃ f, gk = f + 1 := ⟨gk - 1, by omega⟩
          by_cases c5 : i < (l1.length : Int)
          · have c5b : decide (i < (l1.length : Int)) = true := decide_eq_true c5
            by_cases c6 : i < 50
            · have c6b : decide (i < 50) = true := decide_eq_true c6
              obtain ⟨ad, eA, el, em⟩ := at_T66 HR1.out i hn.1 c5
              subst eA
              have EL := Aside0.mk (And.intro el em)
              have el0 := (HI.out.below.cell (World.block_lt_of_cell? w _ el)).trans el
              have el1 := (HI.out.below.cell (World.block_lt_of_cell? w _ em)).trans em
              have E1 : Aside0 (emenderlaw08_PosRows.mirr l1 (emenderlaw08_PosRows.rows l0 (min l0.length 50)) (i + 1).toNat = pos_Mirror.l (emenderlaw08_PosRows.mirr l1 (emenderlaw08_PosRows.rows l0 (min l0.length 50)) i.toNat) (rd_T66 l1 i).f0 (rd_T66 l1 i).f1) := ⟨by
                rw [show (i + 1).toNat = i.toNat + 1 by omega, emenderlaw08_PosRows.mirr_succ l1 _ i.toNat (by omega), show ((i.toNat : Nat) : Int) = i by omega]⟩
              have C5 := Aside0.mk (And.intro c5 c6)
              have i0t := eq_true hn.1
              have c5t := eq_true c5
              have WI := Aside0.mk (show wrap64 (i + 1) = i + 1 from by unfold wrap64; omega)
              generalize (rd_T66 l1 i).f0 = x0 at *
              generalize (rd_T66 l1 i).f1 = x1 at *
              generalize emenderlaw08_PosRows.mirr l1 (emenderlaw08_PosRows.rows l0 (min l0.length 50)) i.toNat = m at *
              clear c5 c6 hn el em
              go_wp2
              refine start_ (n := 25) (S := fun w' => w'.cell? (ad.add (i.toNat * 2)) = some (.int .i64 x0) ∧ w'.cell? ⟨(ad.add (i.toNat * 2)).block, (ad.add (i.toNat * 2)).off + 1, none⟩ = some (.int .i64 x1)) (ds := []) #[false, false, false, false, false, false, false, false, false, false, false, false, false, false, false, false, false, false, false, false, false, false, false, false, false] (by kernel_rfl) rfl rfl ⟨el0, el1⟩ (fun hHeld => ?_)
              refine with_tabW emenderlaw08_PosRows.tab13 emenderlaw08_PosRows.bits13 (fun HT_ HW_ => ?_)
              have I5 := Aside0.mk (HI.out.weak (Below.drew (Below.refl _ wr)))
              clear HI el0 el1
              generalize wr.drew = w5 at *
              refine pure_ (i := 0) (N := some 57) (v := ?_) (a' := ?_) #[true, false, false, false, false, false, false, false, false, false, false, false, false, false, false, false, false, false, false, false, false, false, false, false, false] rfl rfl (any_of HT_.out (by kernel_rfl)) (fun _ _ _ h => h) (Or.inl ⟨by rfl, ?_⟩) ?_ ?_
              rotate_left
              · intro w'
                go_simp
                with_reducible rfl
              rotate_left
              · simp only [Act.put, List.setIfInBounds_toArray, List.set_cons_zero, List.set_cons_succ, i64_w, i32_w]
                rfl
              refine pure_ (i := 1) (N := some 58) (v := ?_) (a' := ?_) #[true, true, false, false, false, false, false, false, false, false, false, false, false, false, false, false, false, false, false, false, false, false, false, false, false] rfl rfl (any_of HT_.out (by kernel_rfl)) (fun _ _ _ h => h) (Or.inl ⟨by rfl, ?_⟩) ?_ ?_
              rotate_left
              · intro w'
                go_simp
                with_reducible rfl
              rotate_left
              · simp only [Act.put, List.setIfInBounds_toArray, List.set_cons_zero, List.set_cons_succ, i64_w, i32_w]
                rfl
              refine pure_ (i := 2) (N := some 59) (v := ?_) (a' := ?_) #[true, true, true, false, false, false, false, false, false, false, false, false, false, false, false, false, false, false, false, false, false, false, false, false, false] rfl rfl (any_of HT_.out (by kernel_rfl)) (fun _ _ _ h => h) (Or.inl ⟨by rfl, ?_⟩) ?_ ?_
              rotate_left
              · intro w'
                go_simp
                with_reducible rfl
              rotate_left
              · simp only [Act.put, List.setIfInBounds_toArray, List.set_cons_zero, List.set_cons_succ, i64_w, i32_w]
                rfl
              refine pure_ (i := 3) (N := some 60) (v := ?_) (a' := ?_) #[true, true, true, true, false, false, false, false, false, false, false, false, false, false, false, false, false, false, false, false, false, false, false, false, false] rfl rfl (any_of HT_.out (by kernel_rfl)) (fun _ _ _ h => h) (Or.inl ⟨by rfl, ?_⟩) ?_ ?_
              rotate_left
              · intro w'
                go_simp
                with_reducible rfl
              rotate_left
              · simp only [Act.put, List.setIfInBounds_toArray, List.set_cons_zero, List.set_cons_succ, i64_w, i32_w]
                rfl
              refine pure_ (i := 4) (N := some 61) (v := ?_) (a' := ?_) #[true, true, true, true, true, false, false, false, false, false, false, false, false, false, false, false, false, false, false, false, false, false, false, false, false] rfl rfl (any_of HT_.out (by kernel_rfl)) (fun _ _ _ h => h) (Or.inl ⟨by rfl, ?_⟩) ?_ ?_
              rotate_left
              · intro w'
                go_simp
                with_reducible rfl
              rotate_left
              · simp only [Act.put, List.setIfInBounds_toArray, List.set_cons_zero, List.set_cons_succ, i64_w, i32_w]
                rfl
              refine take_ (i := 5) (N := some 62) (v := ?_) (a' := ?_) #[true, true, true, true, true, true, false, false, false, false, false, false, false, false, false, false, false, false, false, false, false, false, false, false, false] rfl rfl (take_ofW HT_.out HW_.out (by kernel_rfl)) (fun _ _ _ h => h) (Or.inl ⟨by rfl, ?_⟩) hHeld ?_ ?_
              rotate_left
              · rintro w' ⟨s0, s1⟩
                go_simp
                with_reducible rfl
              rotate_left
              · simp only [Act.put, List.setIfInBounds_toArray, List.set_cons_zero, List.set_cons_succ, i64_w, i32_w]
                rfl
              refine pure_ (i := 6) (N := some 63) (v := ?_) (a' := ?_) #[true, true, true, true, true, true, true, false, false, false, false, false, false, false, false, false, false, false, false, false, false, false, false, false, false] rfl rfl (any_of HT_.out (by kernel_rfl)) (fun _ _ _ h => h) (Or.inl ⟨by rfl, ?_⟩) ?_ ?_
              rotate_left
              · intro w'
                go_simp
                with_reducible rfl
              rotate_left
              · simp only [Act.put, List.setIfInBounds_toArray, List.set_cons_zero, List.set_cons_succ, i64_w, i32_w]
                rfl
              refine pure_ (i := 7) (N := some 64) (v := ?_) (a' := ?_) #[true, true, true, true, true, true, true, true, false, false, false, false, false, false, false, false, false, false, false, false, false, false, false, false, false] rfl rfl (any_of HT_.out (by kernel_rfl)) (fun _ _ _ h => h) (Or.inl ⟨by rfl, ?_⟩) ?_ ?_
              rotate_left
              · intro w'
                go_simp
                with_reducible rfl
              rotate_left
              · simp only [Act.put, List.setIfInBounds_toArray, List.set_cons_zero, List.set_cons_succ, i64_w, i32_w]
                rfl
              refine pure_ (i := 8) (N := some 65) (v := ?_) (a' := ?_) #[true, true, true, true, true, true, true, true, true, false, false, false, false, false, false, false, false, false, false, false, false, false, false, false, false] rfl rfl (any_of HT_.out (by kernel_rfl)) (fun _ _ _ h => h) (Or.inl ⟨by rfl, ?_⟩) ?_ ?_
              rotate_left
              · intro w'
                go_simp
                with_reducible rfl
              rotate_left
              · simp only [Act.put, List.setIfInBounds_toArray, List.set_cons_zero, List.set_cons_succ, i64_w, i32_w]
                rfl
              refine pure_ (i := 9) (N := some 66) (v := ?_) (a' := ?_) #[true, true, true, true, true, true, true, true, true, true, false, false, false, false, false, false, false, false, false, false, false, false, false, false, false] rfl rfl (any_of HT_.out (by kernel_rfl)) (fun _ _ _ h => h) (Or.inl ⟨by rfl, ?_⟩) ?_ ?_
              rotate_left
              · intro w'
                go_simp
                with_reducible rfl
              rotate_left
              · simp only [Act.put, List.setIfInBounds_toArray, List.set_cons_zero, List.set_cons_succ, i64_w, i32_w]
                rfl
              refine take_ (i := 10) (N := some 67) (v := ?_) (a' := ?_) #[true, true, true, true, true, true, true, true, true, true, true, false, false, false, false, false, false, false, false, false, false, false, false, false, false] rfl rfl (take_ofW HT_.out HW_.out (by kernel_rfl)) (fun _ _ _ h => h) (Or.inl ⟨by rfl, ?_⟩) hHeld ?_ ?_
              rotate_left
              · rintro w' ⟨s0, s1⟩
                go_simp
                with_reducible rfl
              rotate_left
              · simp only [Act.put, List.setIfInBounds_toArray, List.set_cons_zero, List.set_cons_succ, i64_w, i32_w]
                rfl
              refine pure_ (i := 12) (N := some 69) (v := ?_) (a' := ?_) #[true, true, true, true, true, true, true, true, true, true, true, false, true, false, false, false, false, false, false, false, false, false, false, false, false] rfl rfl (any_of HT_.out (by kernel_rfl)) (fun _ _ _ h => h) (Or.inl ⟨by rfl, ?_⟩) ?_ ?_
              rotate_left
              · intro w'
                go_simp
                with_reducible rfl
              rotate_left
              · simp only [Act.put, List.setIfInBounds_toArray, List.set_cons_zero, List.set_cons_succ, i64_w, i32_w]
                rfl
              refine pure_ (i := 13) (N := some 70) (v := ?_) (a' := ?_) #[true, true, true, true, true, true, true, true, true, true, true, false, true, true, false, false, false, false, false, false, false, false, false, false, false] rfl rfl (any_of HT_.out (by kernel_rfl)) (fun _ _ _ h => h) (Or.inl ⟨by rfl, ?_⟩) ?_ ?_
              rotate_left
              · intro w'
                go_simp
                with_reducible rfl
              rotate_left
              · simp only [Act.put, List.setIfInBounds_toArray, List.set_cons_zero, List.set_cons_succ, i64_w, i32_w]
                rfl
              refine pure_ (i := 14) (N := some 71) (v := ?_) (a' := ?_) #[true, true, true, true, true, true, true, true, true, true, true, false, true, true, true, false, false, false, false, false, false, false, false, false, false] rfl rfl (any_of HT_.out (by kernel_rfl)) (fun _ _ _ h => h) (Or.inl ⟨by rfl, ?_⟩) ?_ ?_
              rotate_left
              · intro w'
                go_simp
                with_reducible rfl
              rotate_left
              · simp only [Act.put, List.setIfInBounds_toArray, List.set_cons_zero, List.set_cons_succ, i64_w, i32_w]
                rfl
              refine pure_ (i := 15) (N := some 72) (v := ?_) (a' := ?_) #[true, true, true, true, true, true, true, true, true, true, true, false, true, true, true, true, false, false, false, false, false, false, false, false, false] rfl rfl (any_of HT_.out (by kernel_rfl)) (fun _ _ _ h => h) (Or.inl ⟨by rfl, ?_⟩) ?_ ?_
              rotate_left
              · intro w'
                go_simp
                with_reducible rfl
              rotate_left
              · simp only [Act.put, List.setIfInBounds_toArray, List.set_cons_zero, List.set_cons_succ, i64_w, i32_w]
                rfl
              refine pure_ (i := 16) (N := some 73) (v := ?_) (a' := ?_) #[true, true, true, true, true, true, true, true, true, true, true, false, true, true, true, true, true, false, false, false, false, false, false, false, false] rfl rfl (any_of HT_.out (by kernel_rfl)) (fun _ _ _ h => h) (Or.inl ⟨by rfl, ?_⟩) ?_ ?_
              rotate_left
              · intro w'
                go_simp
                with_reducible rfl
              rotate_left
              · simp only [Act.put, List.setIfInBounds_toArray, List.set_cons_zero, List.set_cons_succ, i64_w, i32_w]
                rfl
              refine take_ (i := 17) (N := some 74) (v := ?_) (a' := ?_) #[true, true, true, true, true, true, true, true, true, true, true, false, true, true, true, true, true, true, false, false, false, false, false, false, false] rfl rfl (take_ofW HT_.out HW_.out (by kernel_rfl)) (fun _ _ _ h => h) (Or.inl ⟨by rfl, ?_⟩) hHeld ?_ ?_
              rotate_left
              · rintro w' ⟨s0, s1⟩
                go_simp
                with_reducible rfl
              rotate_left
              · simp only [Act.put, List.setIfInBounds_toArray, List.set_cons_zero, List.set_cons_succ, i64_w, i32_w]
                rfl
              refine pure_ (i := 18) (N := some 75) (v := ?_) (a' := ?_) #[true, true, true, true, true, true, true, true, true, true, true, false, true, true, true, true, true, true, true, false, false, false, false, false, false] rfl rfl (any_of HT_.out (by kernel_rfl)) (fun _ _ _ h => h) (Or.inl ⟨by rfl, ?_⟩) ?_ ?_
              rotate_left
              · intro w'
                go_simp
                with_reducible rfl
              rotate_left
              · simp only [Act.put, List.setIfInBounds_toArray, List.set_cons_zero, List.set_cons_succ, i64_w, i32_w]
                rfl
              refine pure_ (i := 19) (N := some 76) (v := ?_) (a' := ?_) #[true, true, true, true, true, true, true, true, true, true, true, false, true, true, true, true, true, true, true, true, false, false, false, false, false] rfl rfl (any_of HT_.out (by kernel_rfl)) (fun _ _ _ h => h) (Or.inl ⟨by rfl, ?_⟩) ?_ ?_
              rotate_left
              · intro w'
                go_simp
                with_reducible rfl
              rotate_left
              · simp only [Act.put, List.setIfInBounds_toArray, List.set_cons_zero, List.set_cons_succ, i64_w, i32_w]
                rfl
              refine pure_ (i := 20) (N := some 77) (v := ?_) (a' := ?_) #[true, true, true, true, true, true, true, true, true, true, true, false, true, true, true, true, true, true, true, true, true, false, false, false, false] rfl rfl (any_of HT_.out (by kernel_rfl)) (fun _ _ _ h => h) (Or.inl ⟨by rfl, ?_⟩) ?_ ?_
              rotate_left
              · intro w'
                go_simp
                with_reducible rfl
              rotate_left
              · simp only [Act.put, List.setIfInBounds_toArray, List.set_cons_zero, List.set_cons_succ, i64_w, i32_w]
                rfl
              refine pure_ (i := 21) (N := some 78) (v := ?_) (a' := ?_) #[true, true, true, true, true, true, true, true, true, true, true, false, true, true, true, true, true, true, true, true, true, true, false, false, false] rfl rfl (any_of HT_.out (by kernel_rfl)) (fun _ _ _ h => h) (Or.inl ⟨by rfl, ?_⟩) ?_ ?_
              rotate_left
              · intro w'
                go_simp
                with_reducible rfl
              rotate_left
              · simp only [Act.put, List.setIfInBounds_toArray, List.set_cons_zero, List.set_cons_succ, i64_w, i32_w]
                rfl
              refine take_ (i := 22) (N := some 79) (v := ?_) (a' := ?_) #[true, true, true, true, true, true, true, true, true, true, true, false, true, true, true, true, true, true, true, true, true, true, true, false, false] rfl rfl (take_ofW HT_.out HW_.out (by kernel_rfl)) (fun _ _ _ h => h) (Or.inl ⟨by rfl, ?_⟩) hHeld ?_ ?_
              rotate_left
              · rintro w' ⟨s0, s1⟩
                go_simp
                with_reducible rfl
              rotate_left
              · simp only [Act.put, List.setIfInBounds_toArray, List.set_cons_zero, List.set_cons_succ, i64_w, i32_w]
                rfl
              refine one_ (i := 11) (N := some 68) #[true, true, true, true, true, true, true, true, true, true, true, true, true, true, true, true, true, true, true, true, true, true, true, false, false] rfl rfl (one_of HT_.out (by kernel_rfl)) (by decide) (fun K hK => ?_)
              refine goes_ Try.func25 (by kernel_rfl) rfl #[.pointer (some ⟨b, 0, none⟩), .int .i64 x0, .int .i64 x1] (by rfl) rfl rfl (by simp only [List.map_toArray, List.map_cons, List.map_nil]; rfl) ?_
              refine (pos_Mirror.calls w.heap.size b m x0 x1 w _ I5.out.map I5.out.below).mono ?_
              rintro e w6 ⟨rfl, hm, hb, hk⟩
              refine ⟨_, rfl, ?_⟩
              have M6 := Aside0.mk hm
              have B6 := Aside0.mk hb
              have F6 := Aside0.mk (I5.out.ref.keep hk)
              have el6 : w6.cell? (ad.add (i.toNat * 2)) = some (.int .i64 x0) := (hb.cell (World.block_lt_of_cell? w _ EL.out.1)).trans EL.out.1
              have em6 : w6.cell? ⟨(ad.add (i.toNat * 2)).block, (ad.add (i.toNat * 2)).off + 1, none⟩ = some (.int .i64 x1) := (hb.cell (World.block_lt_of_cell? w _ EL.out.2)).trans EL.out.2
              refine hK.out _ _ ⟨el6, em6⟩ (fun hHeld => ?_)
              clear hK K hm hb hk el6 em6 I5
              refine norm_ (a' := ?_) ?_ ?_
              rotate_left
              · show Act.put _ (some 68) _ = _
                simp only [Act.put, List.setIfInBounds_toArray, List.set_cons_zero, List.set_cons_succ, i64_w, i32_w]
                rfl
              refine one_ (i := 23) (N := some 80) #[true, true, true, true, true, true, true, true, true, true, true, true, true, true, true, true, true, true, true, true, true, true, true, true, false] rfl rfl (one_of HT_.out (by kernel_rfl)) (by decide) (fun K hK => ?_)
              refine goes_ Try.func28 (by kernel_rfl) rfl #[.pointer (some ⟨c, 0, none⟩), .int .i64 x0, .int .i64 x1] (by rfl) rfl rfl (by simp only [List.map_toArray, List.map_cons, List.map_nil]; rfl) ?_
              refine (ref_Set.calls w w.heap.size c m x0 x1 w _ F6.out B6.out).mono ?_
              rintro e w7 ⟨rfl, hf, hb, hk⟩
              refine ⟨_, rfl, ?_⟩
              have I8 := Aside0.mk (show emenderlaw08_PosRows.I w b c (pos_Mirror.l m x0 x1) w7 from ⟨M6.out.keep hk, hf, hb⟩)
              have el6 : w7.cell? (ad.add (i.toNat * 2)) = some (.int .i64 x0) := (hb.cell (World.block_lt_of_cell? w _ EL.out.1)).trans EL.out.1
              have em6 : w7.cell? ⟨(ad.add (i.toNat * 2)).block, (ad.add (i.toNat * 2)).off + 1, none⟩ = some (.int .i64 x1) := (hb.cell (World.block_lt_of_cell? w _ EL.out.2)).trans EL.out.2
              refine hK.out _ _ ⟨el6, em6⟩ (fun hHeld => ?_)
              clear hK K hf hb hk el6 em6 M6 B6 F6
              refine norm_ (a' := ?_) ?_ ?_
              rotate_left
              · show Act.put _ (some 80) _ = _
                simp only [Act.put, List.setIfInBounds_toArray, List.set_cons_zero, List.set_cons_succ, i64_w, i32_w]
                rfl
              refine pure_ (i := 24) (N := some 81) (v := ?_) (a' := ?_) #[true, true, true, true, true, true, true, true, true, true, true, true, true, true, true, true, true, true, true, true, true, true, true, true, true] rfl rfl (any_of HT_.out (by kernel_rfl)) (fun _ _ _ h => h) (Or.inl ⟨by rfl, ?_⟩) ?_ ?_
              rotate_left
              · intro w'
                go_simp
                with_reducible rfl
              rotate_left
              · simp only [Act.put, List.setIfInBounds_toArray, List.set_cons_zero, List.set_cons_succ, i64_w, i32_w]
                rfl
              refine done_ (done_of HT_.out (by kernel_rfl)) ?_
              go_wp2
              go_roundg f
              case measure => omega
              case rel => exact ⟨i + 1, by rw [WI.out], ⟨by rw [E1.out]; exact I8.out⟩, ⟨by have := HN.out; have := C5.out; omega⟩⟩
            · have c6b : decide (i < 50) = false := decide_eq_false c6
              have e1 : i.toNat = min l1.length 50 := by omega
              rw [e1] at HI
              clear c5 c6 hn e1 HN
              have HJ := Aside0.mk (show emenderlaw08_PosRows.I w b c (emenderlaw08_PosRows.all l0 l1) wr from HI.out)
              clear HI
              generalize emenderlaw08_PosRows.all l0 l1 = m at *
              go_wp2_with fail
              refine (pos_MMap.calls k w.heap.size b m a2 a3 a4 s1 s2 s3 s4 s5 _ HJ.out.map HLEN.out.1 HLEN.out.2 HMAP.out.1).mono ?_
              rintro e w3 ⟨rfl, hb3⟩
              have zb := blk_new w3 (.cells #[.int .i64 s1, .bool s2, .int .i64 s3, .int .i64 s4] 24)
              have J3 := Aside0.mk ((HJ.out.weak hb3).weak (below_alloc (Below.refl _ _) (.cells #[.int .i64 s1, .bool s2, .int .i64 s3, .int .i64 s4] 24)))
              clear hb3 HJ
              have Z3 := Aside0.mk zb
              clear zb
              go_upto_region 16 with (fail)
              generalize w3.alloc (.cells #[.int .i64 s1, .bool s2, .int .i64 s3, .int .i64 s4] 24) = w4 at *
              generalize w3.heap.size = g3 at *
              go_wp2_with fail
              refine (ref_MMap.calls k w w.heap.size c m a2 a3 a4 s1 s2 s3 s4 s5 _ J3.out.ref J3.out.below HLEN.out.1 HLEN.out.2 HMAP.out.2).mono ?_
              rintro e w5 ⟨rfl, hb5⟩
              have zb := blk_new w5 (.cells #[.int .i64 s1, .bool s2, .int .i64 s3, .int .i64 s4] 24)
              have J5 := Aside0.mk ((J3.out.weak hb5).weak (below_alloc (Below.refl _ _) (.cells #[.int .i64 s1, .bool s2, .int .i64 s3, .int .i64 s4] 24)))
              have Z5 := Aside0.mk zb
              have Y5 := Aside0.mk (blk_below (blk_below Z3.out hb5) (below_alloc (Below.refl _ _) (.cells #[.int .i64 s1, .bool s2, .int .i64 s3, .int .i64 s4] 24)))
              clear hb5 zb J3 Z3
              go_upto_region 17 with (fail)
              generalize w5.alloc (.cells #[.int .i64 s1, .bool s2, .int .i64 s3, .int .i64 s4] 24) = w6 at *
              generalize w5.heap.size = g5 at *
              have y0 : w6.cell? ⟨g3, 0, none⟩ = some (.int .i64 s1) := (blk_cell Y5.out 0).trans rfl
              have y1 : w6.cell? ⟨g3, 1, none⟩ = some (.bool s2) := (blk_cell Y5.out 1).trans rfl
              have y2 : w6.cell? ⟨g3, 2, none⟩ = some (.int .i64 s3) := (blk_cell Y5.out 2).trans rfl
              have y3 : w6.cell? ⟨g3, 3, none⟩ = some (.int .i64 s4) := (blk_cell Y5.out 3).trans rfl
              have z0 : w6.cell? ⟨g5, 0, none⟩ = some (.int .i64 s1) := (blk_cell Z5.out 0).trans rfl
              have z1 : w6.cell? ⟨g5, 1, none⟩ = some (.bool s2) := (blk_cell Z5.out 1).trans rfl
              have z2 : w6.cell? ⟨g5, 2, none⟩ = some (.int .i64 s3) := (blk_cell Z5.out 2).trans rfl
              have z3 : w6.cell? ⟨g5, 3, none⟩ = some (.int .i64 s4) := (blk_cell Z5.out 3).trans rfl
              have jj := J5.out.ref
              obtain ⟨⟨v, h1, h2⟩, h3⟩ := jj
              obtain ⟨AL, cL, rfl⟩ := Kd.R_slice h2
              have l0_ : w6.cell? ⟨c, 0, none⟩ = some (.slice AL m.length cL) := (blk_cell h1 0).trans rfl
              clear h1 h2 h3
              refine start_ (n := 22) (S := fun w' => w'.cell? ⟨g3, 0, none⟩ = some (.int .i64 s1) ∧ w'.cell? ⟨g3, 1, none⟩ = some (.bool s2) ∧ w'.cell? ⟨g3, 2, none⟩ = some (.int .i64 s3) ∧ w'.cell? ⟨g3, 3, none⟩ = some (.int .i64 s4) ∧ w'.cell? ⟨g5, 0, none⟩ = some (.int .i64 s1) ∧ w'.cell? ⟨g5, 1, none⟩ = some (.bool s2) ∧ w'.cell? ⟨g5, 2, none⟩ = some (.int .i64 s3) ∧ w'.cell? ⟨g5, 3, none⟩ = some (.int .i64 s4) ∧ w'.cell? ⟨c, 0, none⟩ = some (.slice AL m.length cL)) (ds := []) #[false, false, false, false, false, false, false, false, false, false, false, false, false, false, false, false, false, false, false, false, false, false] (by kernel_rfl) rfl rfl ⟨y0, y1, y2, y3, z0, z1, z2, z3, l0_⟩ (fun hHeld => ?_)
              refine with_tabW emenderlaw08_PosRows.tab17 emenderlaw08_PosRows.bits17 (fun HT_ HW_ => ?_)
              have J6 := Aside0.mk (J5.out.weak (Below.drew (Below.refl _ w6)))
              clear J5 Y5 Z5 y0 y1 y2 y3 z0 z1 z2 z3 l0_
              generalize w6.drew = w7 at *
              refine take_ (i := 0) (N := some 98) (v := ?_) (a' := ?_) #[true, false, false, false, false, false, false, false, false, false, false, false, false, false, false, false, false, false, false, false, false, false] rfl rfl (take_ofW HT_.out HW_.out (by kernel_rfl)) (fun _ _ _ h => h) (Or.inl ⟨by rfl, ?_⟩) hHeld ?_ ?_
              rotate_left
              · rintro w' ⟨s0, s1, s2, s3, s4, s5, s6, s7, s8⟩
                go_simp
                with_reducible rfl
              rotate_left
              · simp only [Act.put, List.setIfInBounds_toArray, List.set_cons_zero, List.set_cons_succ, i64_w, i32_w]
                rfl
              refine take_ (i := 1) (N := some 99) (v := ?_) (a' := ?_) #[true, true, false, false, false, false, false, false, false, false, false, false, false, false, false, false, false, false, false, false, false, false] rfl rfl (take_ofW HT_.out HW_.out (by kernel_rfl)) (fun _ _ _ h => h) (Or.inl ⟨by rfl, ?_⟩) hHeld ?_ ?_
              rotate_left
              · rintro w' ⟨s0, s1, s2, s3, s4, s5, s6, s7, s8⟩
                go_simp
                with_reducible rfl
              rotate_left
              · simp only [Act.put, List.setIfInBounds_toArray, List.set_cons_zero, List.set_cons_succ, i64_w, i32_w]
                rfl
              refine pure_ (i := 2) (N := some 100) (v := ?_) (a' := ?_) #[true, true, true, false, false, false, false, false, false, false, false, false, false, false, false, false, false, false, false, false, false, false] rfl rfl (any_of HT_.out (by kernel_rfl)) (fun _ _ _ h => h) (Or.inl ⟨by rfl, ?_⟩) ?_ ?_
              rotate_left
              · intro w'
                go_simp
                with_reducible rfl
              rotate_left
              · simp only [Act.put, List.setIfInBounds_toArray, List.set_cons_zero, List.set_cons_succ, i64_w, i32_w]
                rfl
              refine pure_ (i := 3) (N := some 101) (v := ?_) (a' := ?_) #[true, true, true, true, false, false, false, false, false, false, false, false, false, false, false, false, false, false, false, false, false, false] rfl rfl (any_of HT_.out (by kernel_rfl)) (fun _ _ _ h => h) (Or.inl ⟨by rfl, ?_⟩) ?_ ?_
              rotate_left
              · intro w'
                go_simp
                with_reducible rfl
              rotate_left
              · simp only [Act.put, List.setIfInBounds_toArray, List.set_cons_zero, List.set_cons_succ, i64_w, i32_w]
                rfl
              refine pure_ (i := 4) (N := some 102) (v := ?_) (a' := ?_) #[true, true, true, true, true, false, false, false, false, false, false, false, false, false, false, false, false, false, false, false, false, false] rfl rfl (any_of HT_.out (by kernel_rfl)) (fun _ _ _ h => h) (Or.inl ⟨by rfl, ?_⟩) ?_ ?_
              rotate_left
              · intro w'
                go_simp
                with_reducible rfl
              rotate_left
              · simp only [Act.put, List.setIfInBounds_toArray, List.set_cons_zero, List.set_cons_succ, i64_w, i32_w]
                rfl
              refine pure_ (i := 5) (N := some 103) (v := ?_) (a' := ?_) #[true, true, true, true, true, true, false, false, false, false, false, false, false, false, false, false, false, false, false, false, false, false] rfl rfl (any_of HT_.out (by kernel_rfl)) (fun _ _ _ h => h) (Or.inl ⟨by rfl, ?_⟩) ?_ ?_
              rotate_left
              · intro w'
                go_simp
                with_reducible rfl
              rotate_left
              · simp only [Act.put, List.setIfInBounds_toArray, List.set_cons_zero, List.set_cons_succ, i64_w, i32_w]
                rfl
              refine pure_ (i := 6) (N := some 104) (v := ?_) (a' := ?_) #[true, true, true, true, true, true, true, false, false, false, false, false, false, false, false, false, false, false, false, false, false, false] rfl rfl (any_of HT_.out (by kernel_rfl)) (fun _ _ _ h => h) (Or.inl ⟨by rfl, ?_⟩) ?_ ?_
              rotate_left
              · intro w'
                go_simp
                with_reducible rfl
              rotate_left
              · simp only [Act.put, List.setIfInBounds_toArray, List.set_cons_zero, List.set_cons_succ, i64_w, i32_w]
                rfl
              refine pure_ (i := 7) (N := some 105) (v := ?_) (a' := ?_) #[true, true, true, true, true, true, true, true, false, false, false, false, false, false, false, false, false, false, false, false, false, false] rfl rfl (any_of HT_.out (by kernel_rfl)) (fun _ _ _ h => h) (Or.inl ⟨by rfl, ?_⟩) ?_ ?_
              rotate_left
              · intro w'
                go_simp
                with_reducible rfl
              rotate_left
              · simp only [Act.put, List.setIfInBounds_toArray, List.set_cons_zero, List.set_cons_succ, i64_w, i32_w]
                rfl
              refine pure_ (i := 8) (N := some 106) (v := ?_) (a' := ?_) #[true, true, true, true, true, true, true, true, true, false, false, false, false, false, false, false, false, false, false, false, false, false] rfl rfl (any_of HT_.out (by kernel_rfl)) (fun _ _ _ h => h) (Or.inl ⟨by rfl, ?_⟩) ?_ ?_
              rotate_left
              · intro w'
                go_simp
                with_reducible rfl
              rotate_left
              · simp only [Act.put, List.setIfInBounds_toArray, List.set_cons_zero, List.set_cons_succ, i64_w, i32_w]
                rfl
              refine pure_ (i := 9) (N := some 107) (v := ?_) (a' := ?_) #[true, true, true, true, true, true, true, true, true, true, false, false, false, false, false, false, false, false, false, false, false, false] rfl rfl (any_of HT_.out (by kernel_rfl)) (fun _ _ _ h => h) (Or.inl ⟨by rfl, ?_⟩) ?_ ?_
              rotate_left
              · intro w'
                go_simp
                with_reducible rfl
              rotate_left
              · simp only [Act.put, List.setIfInBounds_toArray, List.set_cons_zero, List.set_cons_succ, i64_w, i32_w]
                rfl
              refine pure_ (i := 11) (N := some 109) (v := ?_) (a' := ?_) #[true, true, true, true, true, true, true, true, true, true, false, true, false, false, false, false, false, false, false, false, false, false] rfl rfl (any_of HT_.out (by kernel_rfl)) (fun _ _ _ h => h) (Or.inl ⟨by rfl, ?_⟩) ?_ ?_
              rotate_left
              · intro w'
                go_simp
                with_reducible rfl
              rotate_left
              · simp only [Act.put, List.setIfInBounds_toArray, List.set_cons_zero, List.set_cons_succ, i64_w, i32_w]
                rfl
              refine pure_ (i := 12) (N := some 110) (v := ?_) (a' := ?_) #[true, true, true, true, true, true, true, true, true, true, false, true, true, false, false, false, false, false, false, false, false, false] rfl rfl (any_of HT_.out (by kernel_rfl)) (fun _ _ _ h => h) (Or.inl ⟨by rfl, ?_⟩) ?_ ?_
              rotate_left
              · intro w'
                go_simp
                with_reducible rfl
              rotate_left
              · simp only [Act.put, List.setIfInBounds_toArray, List.set_cons_zero, List.set_cons_succ, i64_w, i32_w]
                rfl
              refine pure_ (i := 13) (N := some 111) (v := ?_) (a' := ?_) #[true, true, true, true, true, true, true, true, true, true, false, true, true, true, false, false, false, false, false, false, false, false] rfl rfl (any_of HT_.out (by kernel_rfl)) (fun _ _ _ h => h) (Or.inl ⟨by rfl, ?_⟩) ?_ ?_
              rotate_left
              · intro w'
                go_simp
                with_reducible rfl
              rotate_left
              · simp only [Act.put, List.setIfInBounds_toArray, List.set_cons_zero, List.set_cons_succ, i64_w, i32_w]
                rfl
              refine take_ (i := 14) (N := some 112) (v := ?_) (a' := ?_) #[true, true, true, true, true, true, true, true, true, true, false, true, true, true, true, false, false, false, false, false, false, false] rfl rfl (take_ofW HT_.out HW_.out (by kernel_rfl)) (fun _ _ _ h => h) (Or.inl ⟨by rfl, ?_⟩) hHeld ?_ ?_
              rotate_left
              · rintro w' ⟨s0, s1, s2, s3, s4, s5, s6, s7, s8⟩
                go_simp
                with_reducible rfl
              rotate_left
              · simp only [Act.put, List.setIfInBounds_toArray, List.set_cons_zero, List.set_cons_succ, i64_w, i32_w]
                rfl
              refine pure_ (i := 15) (N := some 113) (v := ?_) (a' := ?_) #[true, true, true, true, true, true, true, true, true, true, false, true, true, true, true, true, false, false, false, false, false, false] rfl rfl (any_of HT_.out (by kernel_rfl)) (fun _ _ _ h => h) (Or.inl ⟨by rfl, ?_⟩) ?_ ?_
              rotate_left
              · intro w'
                go_simp
                with_reducible rfl
              rotate_left
              · simp only [Act.put, List.setIfInBounds_toArray, List.set_cons_zero, List.set_cons_succ, i64_w, i32_w]
                rfl
              refine one_ (i := 10) (N := some 108) #[true, true, true, true, true, true, true, true, true, true, true, true, true, true, true, true, false, false, false, false, false, false] rfl rfl (one_of HT_.out (by kernel_rfl)) (by decide) (fun K hK => ?_)
              refine goes_ Try.func26 (by kernel_rfl) rfl #[.pointer (some ⟨b, 0, none⟩)] (by rfl) rfl rfl (by simp only [List.map_toArray, List.map_cons, List.map_nil]; rfl) ?_
              refine (pos_Len.calls w.heap.size b m _ J6.out.map).mono ?_
              rintro e w8 ⟨rfl, hw8⟩
              subst w8
              refine ⟨_, rfl, ?_⟩
              refine hK.out _ _ hHeld (fun hHeld => ?_)
              clear hK K
              refine norm_ (a' := ?_) ?_ ?_
              rotate_left
              · show Act.put _ (some 108) _ = _
                simp only [Act.put, List.setIfInBounds_toArray, List.set_cons_zero, List.set_cons_succ, i64_w, i32_w]
                rfl
              refine pure_ (i := 16) (N := some 114) (v := ?_) (a' := ?_) #[true, true, true, true, true, true, true, true, true, true, true, true, true, true, true, true, true, false, false, false, false, false] rfl rfl (any_of HT_.out (by kernel_rfl)) (fun _ _ _ h => h) (Or.inl ⟨by rfl, ?_⟩) ?_ ?_
              rotate_left
              · intro w'
                go_simp
                with_reducible rfl
              rotate_left
              · simp only [Act.put, List.setIfInBounds_toArray, List.set_cons_zero, List.set_cons_succ, i64_w, i32_w]
                rfl
              refine pure_ (i := 17) (N := some 115) (v := ?_) (a' := ?_) #[true, true, true, true, true, true, true, true, true, true, true, true, true, true, true, true, true, true, false, false, false, false] rfl rfl (any_of HT_.out (by kernel_rfl)) (fun _ _ _ h => h) (Or.inl ⟨by rfl, ?_⟩) ?_ ?_
              rotate_left
              · intro w'
                go_simp
                with_reducible rfl
              rotate_left
              · simp only [Act.put, List.setIfInBounds_toArray, List.set_cons_zero, List.set_cons_succ, i64_w, i32_w]
                rfl
              refine pure_ (i := 18) (N := some 116) (v := ?_) (a' := ?_) #[true, true, true, true, true, true, true, true, true, true, true, true, true, true, true, true, true, true, true, false, false, false] rfl rfl (any_of HT_.out (by kernel_rfl)) (fun _ _ _ h => h) (Or.inl ⟨by rfl, ?_⟩) ?_ ?_
              rotate_left
              · intro w'
                go_simp
                with_reducible rfl
              rotate_left
              · simp only [Act.put, List.setIfInBounds_toArray, List.set_cons_zero, List.set_cons_succ, i64_w, i32_w]
                rfl
              refine one_ (i := 19) (N := some 117) #[true, true, true, true, true, true, true, true, true, true, true, true, true, true, true, true, true, true, true, true, false, false] rfl rfl (one_of HT_.out (by kernel_rfl)) (by decide) (fun K hK => ?_)
              refine goes_ Try.func16 (by kernel_rfl) rfl #[] (by rfl) rfl rfl (by simp only [List.map_toArray, List.map_nil]) ?_
              refine (emenderlaw08_awake.calls k true _ HAW.out).mono ?_
              rintro e w9 ⟨rfl, hb⟩
              refine ⟨_, rfl, ?_⟩
              have HB9 := Aside0.mk (below_step J6.out.below hb)
              have keep : ∀ (ad : Addr) (u : Value), w7.cell? ad = some u → w9.cell? ad = some u := fun ad u s => (hb.cell (World.block_lt_of_cell? w7 _ s)).trans s
              refine hK.out _ _ ⟨keep _ _ hHeld.1, keep _ _ hHeld.2.1, keep _ _ hHeld.2.2.1, keep _ _ hHeld.2.2.2.1, keep _ _ hHeld.2.2.2.2.1, keep _ _ hHeld.2.2.2.2.2.1, keep _ _ hHeld.2.2.2.2.2.2.1, keep _ _ hHeld.2.2.2.2.2.2.2.1, keep _ _ hHeld.2.2.2.2.2.2.2.2⟩ (fun hHeld => ?_)
              clear hK K keep hb J6
              refine norm_ (a' := ?_) ?_ ?_
              rotate_left
              · show Act.put _ (some 117) _ = _
                simp only [Act.put, List.setIfInBounds_toArray, List.set_cons_zero, List.set_cons_succ, i64_w, i32_w]
                rfl
              refine pure_ (i := 20) (N := some 118) (v := ?_) (a' := ?_) #[true, true, true, true, true, true, true, true, true, true, true, true, true, true, true, true, true, true, true, true, true, false] rfl rfl (any_of HT_.out (by kernel_rfl)) (fun _ _ _ h => h) (Or.inl ⟨by rfl, ?_⟩) ?_ ?_
              rotate_left
              · intro w'
                go_simp
                with_reducible rfl
              rotate_left
              · simp only [Act.put, List.setIfInBounds_toArray, List.set_cons_zero, List.set_cons_succ, i64_w, i32_w]
                rfl
              refine pure_ (i := 21) (N := some 10) (v := ?_) (a' := ?_) #[true, true, true, true, true, true, true, true, true, true, true, true, true, true, true, true, true, true, true, true, true, true] rfl rfl (any_of HT_.out (by kernel_rfl)) (fun _ _ _ h => h) (Or.inl ⟨by rfl, ?_⟩) ?_ ?_
              rotate_left
              · intro w'
                go_simp
                with_reducible rfl
              rotate_left
              · simp only [Act.put, List.setIfInBounds_toArray, List.set_cons_zero, List.set_cons_succ, i64_w, i32_w]
                rfl
              refine done_ (done_of HT_.out (by kernel_rfl)) ?_
              go_wp2
              go_ret
              exact ⟨rfl, HB9.out⟩
          · have c5b : decide (i < (l1.length : Int)) = false := decide_eq_false c5
            have e1 : i.toNat = min l1.length 50 := by omega
            rw [e1] at HI
            clear c5 hn e1 HN
            have HJ := Aside0.mk (show emenderlaw08_PosRows.I w b c (emenderlaw08_PosRows.all l0 l1) wr from HI.out)
            clear HI
            generalize emenderlaw08_PosRows.all l0 l1 = m at *
            go_wp2_with fail
            refine (pos_MMap.calls k w.heap.size b m a2 a3 a4 s1 s2 s3 s4 s5 _ HJ.out.map HLEN.out.1 HLEN.out.2 HMAP.out.1).mono ?_
            rintro e w3 ⟨rfl, hb3⟩
            have zb := blk_new w3 (.cells #[.int .i64 s1, .bool s2, .int .i64 s3, .int .i64 s4] 24)
            have J3 := Aside0.mk ((HJ.out.weak hb3).weak (below_alloc (Below.refl _ _) (.cells #[.int .i64 s1, .bool s2, .int .i64 s3, .int .i64 s4] 24)))
            clear hb3 HJ
            have Z3 := Aside0.mk zb
            clear zb
            go_upto_region 16 with (fail)
            generalize w3.alloc (.cells #[.int .i64 s1, .bool s2, .int .i64 s3, .int .i64 s4] 24) = w4 at *
            generalize w3.heap.size = g3 at *
            go_wp2_with fail
            refine (ref_MMap.calls k w w.heap.size c m a2 a3 a4 s1 s2 s3 s4 s5 _ J3.out.ref J3.out.below HLEN.out.1 HLEN.out.2 HMAP.out.2).mono ?_
            rintro e w5 ⟨rfl, hb5⟩
            have zb := blk_new w5 (.cells #[.int .i64 s1, .bool s2, .int .i64 s3, .int .i64 s4] 24)
            have J5 := Aside0.mk ((J3.out.weak hb5).weak (below_alloc (Below.refl _ _) (.cells #[.int .i64 s1, .bool s2, .int .i64 s3, .int .i64 s4] 24)))
            have Z5 := Aside0.mk zb
            have Y5 := Aside0.mk (blk_below (blk_below Z3.out hb5) (below_alloc (Below.refl _ _) (.cells #[.int .i64 s1, .bool s2, .int .i64 s3, .int .i64 s4] 24)))
            clear hb5 zb J3 Z3
            go_upto_region 17 with (fail)
            generalize w5.alloc (.cells #[.int .i64 s1, .bool s2, .int .i64 s3, .int .i64 s4] 24) = w6 at *
            generalize w5.heap.size = g5 at *
            have y0 : w6.cell? ⟨g3, 0, none⟩ = some (.int .i64 s1) := (blk_cell Y5.out 0).trans rfl
            have y1 : w6.cell? ⟨g3, 1, none⟩ = some (.bool s2) := (blk_cell Y5.out 1).trans rfl
            have y2 : w6.cell? ⟨g3, 2, none⟩ = some (.int .i64 s3) := (blk_cell Y5.out 2).trans rfl
            have y3 : w6.cell? ⟨g3, 3, none⟩ = some (.int .i64 s4) := (blk_cell Y5.out 3).trans rfl
            have z0 : w6.cell? ⟨g5, 0, none⟩ = some (.int .i64 s1) := (blk_cell Z5.out 0).trans rfl
            have z1 : w6.cell? ⟨g5, 1, none⟩ = some (.bool s2) := (blk_cell Z5.out 1).trans rfl
            have z2 : w6.cell? ⟨g5, 2, none⟩ = some (.int .i64 s3) := (blk_cell Z5.out 2).trans rfl
            have z3 : w6.cell? ⟨g5, 3, none⟩ = some (.int .i64 s4) := (blk_cell Z5.out 3).trans rfl
            have jj := J5.out.ref
            obtain ⟨⟨v, h1, h2⟩, h3⟩ := jj
            obtain ⟨AL, cL, rfl⟩ := Kd.R_slice h2
            have l0_ : w6.cell? ⟨c, 0, none⟩ = some (.slice AL m.length cL) := (blk_cell h1 0).trans rfl
            clear h1 h2 h3
            refine start_ (n := 22) (S := fun w' => w'.cell? ⟨g3, 0, none⟩ = some (.int .i64 s1) ∧ w'.cell? ⟨g3, 1, none⟩ = some (.bool s2) ∧ w'.cell? ⟨g3, 2, none⟩ = some (.int .i64 s3) ∧ w'.cell? ⟨g3, 3, none⟩ = some (.int .i64 s4) ∧ w'.cell? ⟨g5, 0, none⟩ = some (.int .i64 s1) ∧ w'.cell? ⟨g5, 1, none⟩ = some (.bool s2) ∧ w'.cell? ⟨g5, 2, none⟩ = some (.int .i64 s3) ∧ w'.cell? ⟨g5, 3, none⟩ = some (.int .i64 s4) ∧ w'.cell? ⟨c, 0, none⟩ = some (.slice AL m.length cL)) (ds := []) #[false, false, false, false, false, false, false, false, false, false, false, false, false, false, false, false, false, false, false, false, false, false] (by kernel_rfl) rfl rfl ⟨y0, y1, y2, y3, z0, z1, z2, z3, l0_⟩ (fun hHeld => ?_)
            refine with_tabW emenderlaw08_PosRows.tab17 emenderlaw08_PosRows.bits17 (fun HT_ HW_ => ?_)
            have J6 := Aside0.mk (J5.out.weak (Below.drew (Below.refl _ w6)))
            clear J5 Y5 Z5 y0 y1 y2 y3 z0 z1 z2 z3 l0_
            generalize w6.drew = w7 at *
            refine take_ (i := 0) (N := some 98) (v := ?_) (a' := ?_) #[true, false, false, false, false, false, false, false, false, false, false, false, false, false, false, false, false, false, false, false, false, false] rfl rfl (take_ofW HT_.out HW_.out (by kernel_rfl)) (fun _ _ _ h => h) (Or.inl ⟨by rfl, ?_⟩) hHeld ?_ ?_
            rotate_left
            · rintro w' ⟨s0, s1, s2, s3, s4, s5, s6, s7, s8⟩
              go_simp
              with_reducible rfl
            rotate_left
            · simp only [Act.put, List.setIfInBounds_toArray, List.set_cons_zero, List.set_cons_succ, i64_w, i32_w]
              rfl
            refine take_ (i := 1) (N := some 99) (v := ?_) (a' := ?_) #[true, true, false, false, false, false, false, false, false, false, false, false, false, false, false, false, false, false, false, false, false, false] rfl rfl (take_ofW HT_.out HW_.out (by kernel_rfl)) (fun _ _ _ h => h) (Or.inl ⟨by rfl, ?_⟩) hHeld ?_ ?_
            rotate_left
            · rintro w' ⟨s0, s1, s2, s3, s4, s5, s6, s7, s8⟩
              go_simp
              with_reducible rfl
            rotate_left
            · simp only [Act.put, List.setIfInBounds_toArray, List.set_cons_zero, List.set_cons_succ, i64_w, i32_w]
              rfl
            refine pure_ (i := 2) (N := some 100) (v := ?_) (a' := ?_) #[true, true, true, false, false, false, false, false, false, false, false, false, false, false, false, false, false, false, false, false, false, false] rfl rfl (any_of HT_.out (by kernel_rfl)) (fun _ _ _ h => h) (Or.inl ⟨by rfl, ?_⟩) ?_ ?_
            rotate_left
            · intro w'
              go_simp
              with_reducible rfl
            rotate_left
            · simp only [Act.put, List.setIfInBounds_toArray, List.set_cons_zero, List.set_cons_succ, i64_w, i32_w]
              rfl
            refine pure_ (i := 3) (N := some 101) (v := ?_) (a' := ?_) #[true, true, true, true, false, false, false, false, false, false, false, false, false, false, false, false, false, false, false, false, false, false] rfl rfl (any_of HT_.out (by kernel_rfl)) (fun _ _ _ h => h) (Or.inl ⟨by rfl, ?_⟩) ?_ ?_
            rotate_left
            · intro w'
              go_simp
              with_reducible rfl
            rotate_left
            · simp only [Act.put, List.setIfInBounds_toArray, List.set_cons_zero, List.set_cons_succ, i64_w, i32_w]
              rfl
            refine pure_ (i := 4) (N := some 102) (v := ?_) (a' := ?_) #[true, true, true, true, true, false, false, false, false, false, false, false, false, false, false, false, false, false, false, false, false, false] rfl rfl (any_of HT_.out (by kernel_rfl)) (fun _ _ _ h => h) (Or.inl ⟨by rfl, ?_⟩) ?_ ?_
            rotate_left
            · intro w'
              go_simp
              with_reducible rfl
            rotate_left
            · simp only [Act.put, List.setIfInBounds_toArray, List.set_cons_zero, List.set_cons_succ, i64_w, i32_w]
              rfl
            refine pure_ (i := 5) (N := some 103) (v := ?_) (a' := ?_) #[true, true, true, true, true, true, false, false, false, false, false, false, false, false, false, false, false, false, false, false, false, false] rfl rfl (any_of HT_.out (by kernel_rfl)) (fun _ _ _ h => h) (Or.inl ⟨by rfl, ?_⟩) ?_ ?_
            rotate_left
            · intro w'
              go_simp
              with_reducible rfl
            rotate_left
            · simp only [Act.put, List.setIfInBounds_toArray, List.set_cons_zero, List.set_cons_succ, i64_w, i32_w]
              rfl
            refine pure_ (i := 6) (N := some 104) (v := ?_) (a' := ?_) #[true, true, true, true, true, true, true, false, false, false, false, false, false, false, false, false, false, false, false, false, false, false] rfl rfl (any_of HT_.out (by kernel_rfl)) (fun _ _ _ h => h) (Or.inl ⟨by rfl, ?_⟩) ?_ ?_
            rotate_left
            · intro w'
              go_simp
              with_reducible rfl
            rotate_left
            · simp only [Act.put, List.setIfInBounds_toArray, List.set_cons_zero, List.set_cons_succ, i64_w, i32_w]
              rfl
            refine pure_ (i := 7) (N := some 105) (v := ?_) (a' := ?_) #[true, true, true, true, true, true, true, true, false, false, false, false, false, false, false, false, false, false, false, false, false, false] rfl rfl (any_of HT_.out (by kernel_rfl)) (fun _ _ _ h => h) (Or.inl ⟨by rfl, ?_⟩) ?_ ?_
            rotate_left
            · intro w'
              go_simp
              with_reducible rfl
            rotate_left
            · simp only [Act.put, List.setIfInBounds_toArray, List.set_cons_zero, List.set_cons_succ, i64_w, i32_w]
              rfl
            refine pure_ (i := 8) (N := some 106) (v := ?_) (a' := ?_) #[true, true, true, true, true, true, true, true, true, false, false, false, false, false, false, false, false, false, false, false, false, false] rfl rfl (any_of HT_.out (by kernel_rfl)) (fun _ _ _ h => h) (Or.inl ⟨by rfl, ?_⟩) ?_ ?_
            rotate_left
            · intro w'
              go_simp
              with_reducible rfl
            rotate_left
            · simp only [Act.put, List.setIfInBounds_toArray, List.set_cons_zero, List.set_cons_succ, i64_w, i32_w]
              rfl
            refine pure_ (i := 9) (N := some 107) (v := ?_) (a' := ?_) #[true, true, true, true, true, true, true, true, true, true, false, false, false, false, false, false, false, false, false, false, false, false] rfl rfl (any_of HT_.out (by kernel_rfl)) (fun _ _ _ h => h) (Or.inl ⟨by rfl, ?_⟩) ?_ ?_
            rotate_left
            · intro w'
              go_simp
              with_reducible rfl
            rotate_left
            · simp only [Act.put, List.setIfInBounds_toArray, List.set_cons_zero, List.set_cons_succ, i64_w, i32_w]
              rfl
            refine pure_ (i := 11) (N := some 109) (v := ?_) (a' := ?_) #[true, true, true, true, true, true, true, true, true, true, false, true, false, false, false, false, false, false, false, false, false, false] rfl rfl (any_of HT_.out (by kernel_rfl)) (fun _ _ _ h => h) (Or.inl ⟨by rfl, ?_⟩) ?_ ?_
            rotate_left
            · intro w'
              go_simp
              with_reducible rfl
            rotate_left
            · simp only [Act.put, List.setIfInBounds_toArray, List.set_cons_zero, List.set_cons_succ, i64_w, i32_w]
              rfl
            refine pure_ (i := 12) (N := some 110) (v := ?_) (a' := ?_) #[true, true, true, true, true, true, true, true, true, true, false, true, true, false, false, false, false, false, false, false, false, false] rfl rfl (any_of HT_.out (by kernel_rfl)) (fun _ _ _ h => h) (Or.inl ⟨by rfl, ?_⟩) ?_ ?_
            rotate_left
            · intro w'
              go_simp
              with_reducible rfl
            rotate_left
            · simp only [Act.put, List.setIfInBounds_toArray, List.set_cons_zero, List.set_cons_succ, i64_w, i32_w]
              rfl
            refine pure_ (i := 13) (N := some 111) (v := ?_) (a' := ?_) #[true, true, true, true, true, true, true, true, true, true, false, true, true, true, false, false, false, false, false, false, false, false] rfl rfl (any_of HT_.out (by kernel_rfl)) (fun _ _ _ h => h) (Or.inl ⟨by rfl, ?_⟩) ?_ ?_
            rotate_left
            · intro w'
              go_simp
              with_reducible rfl
            rotate_left
            · simp only [Act.put, List.setIfInBounds_toArray, List.set_cons_zero, List.set_cons_succ, i64_w, i32_w]
              rfl
            refine take_ (i := 14) (N := some 112) (v := ?_) (a' := ?_) #[true, true, true, true, true, true, true, true, true, true, false, true, true, true, true, false, false, false, false, false, false, false] rfl rfl (take_ofW HT_.out HW_.out (by kernel_rfl)) (fun _ _ _ h => h) (Or.inl ⟨by rfl, ?_⟩) hHeld ?_ ?_
            rotate_left
            · rintro w' ⟨s0, s1, s2, s3, s4, s5, s6, s7, s8⟩
              go_simp
              with_reducible rfl
            rotate_left
            · simp only [Act.put, List.setIfInBounds_toArray, List.set_cons_zero, List.set_cons_succ, i64_w, i32_w]
              rfl
            refine pure_ (i := 15) (N := some 113) (v := ?_) (a' := ?_) #[true, true, true, true, true, true, true, true, true, true, false, true, true, true, true, true, false, false, false, false, false, false] rfl rfl (any_of HT_.out (by kernel_rfl)) (fun _ _ _ h => h) (Or.inl ⟨by rfl, ?_⟩) ?_ ?_
            rotate_left
            · intro w'
              go_simp
              with_reducible rfl
            rotate_left
            · simp only [Act.put, List.setIfInBounds_toArray, List.set_cons_zero, List.set_cons_succ, i64_w, i32_w]
              rfl
            refine one_ (i := 10) (N := some 108) #[true, true, true, true, true, true, true, true, true, true, true, true, true, true, true, true, false, false, false, false, false, false] rfl rfl (one_of HT_.out (by kernel_rfl)) (by decide) (fun K hK => ?_)
            refine goes_ Try.func26 (by kernel_rfl) rfl #[.pointer (some ⟨b, 0, none⟩)] (by rfl) rfl rfl (by simp only [List.map_toArray, List.map_cons, List.map_nil]; rfl) ?_
            refine (pos_Len.calls w.heap.size b m _ J6.out.map).mono ?_
            rintro e w8 ⟨rfl, hw8⟩
            subst w8
            refine ⟨_, rfl, ?_⟩
            refine hK.out _ _ hHeld (fun hHeld => ?_)
            clear hK K
            refine norm_ (a' := ?_) ?_ ?_
            rotate_left
            · show Act.put _ (some 108) _ = _
              simp only [Act.put, List.setIfInBounds_toArray, List.set_cons_zero, List.set_cons_succ, i64_w, i32_w]
              rfl
            refine pure_ (i := 16) (N := some 114) (v := ?_) (a' := ?_) #[true, true, true, true, true, true, true, true, true, true, true, true, true, true, true, true, true, false, false, false, false, false] rfl rfl (any_of HT_.out (by kernel_rfl)) (fun _ _ _ h => h) (Or.inl ⟨by rfl, ?_⟩) ?_ ?_
            rotate_left
            · intro w'
              go_simp
              with_reducible rfl
            rotate_left
            · simp only [Act.put, List.setIfInBounds_toArray, List.set_cons_zero, List.set_cons_succ, i64_w, i32_w]
              rfl
            refine pure_ (i := 17) (N := some 115) (v := ?_) (a' := ?_) #[true, true, true, true, true, true, true, true, true, true, true, true, true, true, true, true, true, true, false, false, false, false] rfl rfl (any_of HT_.out (by kernel_rfl)) (fun _ _ _ h => h) (Or.inl ⟨by rfl, ?_⟩) ?_ ?_
            rotate_left
            · intro w'
              go_simp
              with_reducible rfl
            rotate_left
            · simp only [Act.put, List.setIfInBounds_toArray, List.set_cons_zero, List.set_cons_succ, i64_w, i32_w]
              rfl
            refine pure_ (i := 18) (N := some 116) (v := ?_) (a' := ?_) #[true, true, true, true, true, true, true, true, true, true, true, true, true, true, true, true, true, true, true, false, false, false] rfl rfl (any_of HT_.out (by kernel_rfl)) (fun _ _ _ h => h) (Or.inl ⟨by rfl, ?_⟩) ?_ ?_
            rotate_left
            · intro w'
              go_simp
              with_reducible rfl
            rotate_left
            · simp only [Act.put, List.setIfInBounds_toArray, List.set_cons_zero, List.set_cons_succ, i64_w, i32_w]
              rfl
            refine one_ (i := 19) (N := some 117) #[true, true, true, true, true, true, true, true, true, true, true, true, true, true, true, true, true, true, true, true, false, false] rfl rfl (one_of HT_.out (by kernel_rfl)) (by decide) (fun K hK => ?_)
            refine goes_ Try.func16 (by kernel_rfl) rfl #[] (by rfl) rfl rfl (by simp only [List.map_toArray, List.map_nil]) ?_
            refine (emenderlaw08_awake.calls k true _ HAW.out).mono ?_
            rintro e w9 ⟨rfl, hb⟩
            refine ⟨_, rfl, ?_⟩
            have HB9 := Aside0.mk (below_step J6.out.below hb)
            have keep : ∀ (ad : Addr) (u : Value), w7.cell? ad = some u → w9.cell? ad = some u := fun ad u s => (hb.cell (World.block_lt_of_cell? w7 _ s)).trans s
            refine hK.out _ _ ⟨keep _ _ hHeld.1, keep _ _ hHeld.2.1, keep _ _ hHeld.2.2.1, keep _ _ hHeld.2.2.2.1, keep _ _ hHeld.2.2.2.2.1, keep _ _ hHeld.2.2.2.2.2.1, keep _ _ hHeld.2.2.2.2.2.2.1, keep _ _ hHeld.2.2.2.2.2.2.2.1, keep _ _ hHeld.2.2.2.2.2.2.2.2⟩ (fun hHeld => ?_)
            clear hK K keep hb J6
            refine norm_ (a' := ?_) ?_ ?_
            rotate_left
            · show Act.put _ (some 117) _ = _
              simp only [Act.put, List.setIfInBounds_toArray, List.set_cons_zero, List.set_cons_succ, i64_w, i32_w]
              rfl
            refine pure_ (i := 20) (N := some 118) (v := ?_) (a' := ?_) #[true, true, true, true, true, true, true, true, true, true, true, true, true, true, true, true, true, true, true, true, true, false] rfl rfl (any_of HT_.out (by kernel_rfl)) (fun _ _ _ h => h) (Or.inl ⟨by rfl, ?_⟩) ?_ ?_
            rotate_left
            · intro w'
              go_simp
              with_reducible rfl
            rotate_left
            · simp only [Act.put, List.setIfInBounds_toArray, List.set_cons_zero, List.set_cons_succ, i64_w, i32_w]
              rfl
            refine pure_ (i := 21) (N := some 10) (v := ?_) (a' := ?_) #[true, true, true, true, true, true, true, true, true, true, true, true, true, true, true, true, true, true, true, true, true, true] rfl rfl (any_of HT_.out (by kernel_rfl)) (fun _ _ _ h => h) (Or.inl ⟨by rfl, ?_⟩) ?_ ?_
            rotate_left
            · intro w'
              go_simp
              with_reducible rfl
            rotate_left
            · simp only [Act.put, List.setIfInBounds_toArray, List.set_cons_zero, List.set_cons_succ, i64_w, i32_w]
              rfl
            refine done_ (done_of HT_.out (by kernel_rfl)) ?_
            go_wp2
            go_ret
            exact ⟨rfl, HB9.out⟩
    · have c5b : decide (i < (l0.length : Int)) = false := decide_eq_false c5
      have e1 : i.toNat = min l0.length 50 := by omega
      rw [e1] at HI
      clear c5 hn e1 HN
      go_wp2
      have I2 := Aside0.mk (show emenderlaw08_PosRows.I w b c (emenderlaw08_PosRows.mirr l1 (emenderlaw08_PosRows.rows l0 (min l0.length 50)) (0 : Int).toNat) wr from HI.out)
      clear HI
      go_loopg [14] 51 (fun kq v14 w' => ∃ (i : Int), v14 = .int .i64 i ∧ Aside0 (emenderlaw08_PosRows.I w b c (emenderlaw08_PosRows.mirr l1 (emenderlaw08_PosRows.rows l0 (min l0.length 50)) i.toNat) w') ∧ Aside0 (0 ≤ i ∧ i ≤ (l1.length : Int) ∧ i ≤ 50 ∧ 51 ≤ i + kq))
      case atStart => exact ⟨_, rfl, I2, ⟨by omega⟩⟩
      case round =>
        clear I2
        obtain ⟨i, rfl, HI, HN⟩ := hrel
        have hn := HN.out
        obtain ⟨f, rfl⟩ : ∃ f, gk = f + 1 := ⟨gk - 1, by omega⟩
        by_cases c5 : i < (l1.length : Int)
        · have c5b : decide (i < (l1.length : Int)) = true := decide_eq_true c5
          by_cases c6 : i < 50
          · have c6b : decide (i < 50) = true := decide_eq_true c6
            obtain ⟨ad, eA, el, em⟩ := at_T66 HR1.out i hn.1 c5
            subst eA
            have EL := Aside0.mk (And.intro el em)
            have el0 := (HI.out.below.cell (World.block_lt_of_cell? w _ el)).trans el
            have el1 := (HI.out.below.cell (World.block_lt_of_cell? w _ em)).trans em
            have E1 : Aside0 (emenderlaw08_PosRows.mirr l1 (emenderlaw08_PosRows.rows l0 (min l0.length 50)) (i + 1).toNat = pos_Mirror.l (emenderlaw08_PosRows.mirr l1 (emenderlaw08_PosRows.rows l0 (min l0.length 50)) i.toNat) (rd_T66 l1 i).f0 (rd_T66 l1 i).f1) := ⟨by
              rw [show (i + 1).toNat = i.toNat + 1 by omega, emenderlaw08_PosRows.mirr_succ l1 _ i.toNat (by omega), show ((i.toNat : Nat) : Int) = i by omega]⟩
            have C5 := Aside0.mk (And.intro c5 c6)
            have i0t := eq_true hn.1
            have c5t := eq_true c5
            have WI := Aside0.mk (show wrap64 (i + 1) = i + 1 from by unfold wrap64; omega)
            generalize (rd_T66 l1 i).f0 = x0 at *
            generalize (rd_T66 l1 i).f1 = x1 at *
            generalize emenderlaw08_PosRows.mirr l1 (emenderlaw08_PosRows.rows l0 (min l0.length 50)) i.toNat = m at *
            clear c5 c6 hn el em
            go_wp2
            refine start_ (n := 25) (S := fun w' => w'.cell? (ad.add (i.toNat * 2)) = some (.int .i64 x0) ∧ w'.cell? ⟨(ad.add (i.toNat * 2)).block, (ad.add (i.toNat * 2)).off + 1, none⟩ = some (.int .i64 x1)) (ds := []) #[false, false, false, false, false, false, false, false, false, false, false, false, false, false, false, false, false, false, false, false, false, false, false, false, false] (by kernel_rfl) rfl rfl ⟨el0, el1⟩ (fun hHeld => ?_)
            refine with_tabW emenderlaw08_PosRows.tab13 emenderlaw08_PosRows.bits13 (fun HT_ HW_ => ?_)
            have I5 := Aside0.mk (HI.out.weak (Below.drew (Below.refl _ wr)))
            clear HI el0 el1
            generalize wr.drew = w5 at *
            refine pure_ (i := 0) (N := some 57) (v := ?_) (a' := ?_) #[true, false, false, false, false, false, false, false, false, false, false, false, false, false, false, false, false, false, false, false, false, false, false, false, false] rfl rfl (any_of HT_.out (by kernel_rfl)) (fun _ _ _ h => h) (Or.inl ⟨by rfl, ?_⟩) ?_ ?_
            rotate_left
            · intro w'
              go_simp
              with_reducible rfl
            rotate_left
            · simp only [Act.put, List.setIfInBounds_toArray, List.set_cons_zero, List.set_cons_succ, i64_w, i32_w]
              rfl
            refine pure_ (i := 1) (N := some 58) (v := ?_) (a' := ?_) #[true, true, false, false, false, false, false, false, false, false, false, false, false, false, false, false, false, false, false, false, false, false, false, false, false] rfl rfl (any_of HT_.out (by kernel_rfl)) (fun _ _ _ h => h) (Or.inl ⟨by rfl, ?_⟩) ?_ ?_
            rotate_left
            · intro w'
              go_simp
              with_reducible rfl
            rotate_left
            · simp only [Act.put, List.setIfInBounds_toArray, List.set_cons_zero, List.set_cons_succ, i64_w, i32_w]
              rfl
            refine pure_ (i := 2) (N := some 59) (v := ?_) (a' := ?_) #[true, true, true, false, false, false, false, false, false, false, false, false, false, false, false, false, false, false, false, false, false, false, false, false, false] rfl rfl (any_of HT_.out (by kernel_rfl)) (fun _ _ _ h => h) (Or.inl ⟨by rfl, ?_⟩) ?_ ?_
            rotate_left
            · intro w'
              go_simp
              with_reducible rfl
            rotate_left
            · simp only [Act.put, List.setIfInBounds_toArray, List.set_cons_zero, List.set_cons_succ, i64_w, i32_w]
              rfl
            refine pure_ (i := 3) (N := some 60) (v := ?_) (a' := ?_) #[true, true, true, true, false, false, false, false, false, false, false, false, false, false, false, false, false, false, false, false, false, false, false, false, false] rfl rfl (any_of HT_.out (by kernel_rfl)) (fun _ _ _ h => h) (Or.inl ⟨by rfl, ?_⟩) ?_ ?_
            rotate_left
            · intro w'
              go_simp
              with_reducible rfl
            rotate_left
            · simp only [Act.put, List.setIfInBounds_toArray, List.set_cons_zero, List.set_cons_succ, i64_w, i32_w]
              rfl
            refine pure_ (i := 4) (N := some 61) (v := ?_) (a' := ?_) #[true, true, true, true, true, false, false, false, false, false, false, false, false, false, false, false, false, false, false, false, false, false, false, false, false] rfl rfl (any_of HT_.out (by kernel_rfl)) (fun _ _ _ h => h) (Or.inl ⟨by rfl, ?_⟩) ?_ ?_
            rotate_left
            · intro w'
              go_simp
              with_reducible rfl
            rotate_left
            · simp only [Act.put, List.setIfInBounds_toArray, List.set_cons_zero, List.set_cons_succ, i64_w, i32_w]
              rfl
            refine take_ (i := 5) (N := some 62) (v := ?_) (a' := ?_) #[true, true, true, true, true, true, false, false, false, false, false, false, false, false, false, false, false, false, false, false, false, false, false, false, false] rfl rfl (take_ofW HT_.out HW_.out (by kernel_rfl)) (fun _ _ _ h => h) (Or.inl ⟨by rfl, ?_⟩) hHeld ?_ ?_
            rotate_left
            · rintro w' ⟨s0, s1⟩
              go_simp
              with_reducible rfl
            rotate_left
            · simp only [Act.put, List.setIfInBounds_toArray, List.set_cons_zero, List.set_cons_succ, i64_w, i32_w]
              rfl
            refine pure_ (i := 6) (N := some 63) (v := ?_) (a' := ?_) #[true, true, true, true, true, true, true, false, false, false, false, false, false, false, false, false, false, false, false, false, false, false, false, false, false] rfl rfl (any_of HT_.out (by kernel_rfl)) (fun _ _ _ h => h) (Or.inl ⟨by rfl, ?_⟩) ?_ ?_
            rotate_left
            · intro w'
              go_simp
              with_reducible rfl
            rotate_left
            · simp only [Act.put, List.setIfInBounds_toArray, List.set_cons_zero, List.set_cons_succ, i64_w, i32_w]
              rfl
            refine pure_ (i := 7) (N := some 64) (v := ?_) (a' := ?_) #[true, true, true, true, true, true, true, true, false, false, false, false, false, false, false, false, false, false, false, false, false, false, false, false, false] rfl rfl (any_of HT_.out (by kernel_rfl)) (fun _ _ _ h => h) (Or.inl ⟨by rfl, ?_⟩) ?_ ?_
            rotate_left
            · intro w'
              go_simp
              with_reducible rfl
            rotate_left
            · simp only [Act.put, List.setIfInBounds_toArray, List.set_cons_zero, List.set_cons_succ, i64_w, i32_w]
              rfl
            refine pure_ (i := 8) (N := some 65) (v := ?_) (a' := ?_) #[true, true, true, true, true, true, true, true, true, false, false, false, false, false, false, false, false, false, false, false, false, false, false, false, false] rfl rfl (any_of HT_.out (by kernel_rfl)) (fun _ _ _ h => h) (Or.inl ⟨by rfl, ?_⟩) ?_ ?_
            rotate_left
            · intro w'
              go_simp
              with_reducible rfl
            rotate_left
            · simp only [Act.put, List.setIfInBounds_toArray, List.set_cons_zero, List.set_cons_succ, i64_w, i32_w]
              rfl
            refine pure_ (i := 9) (N := some 66) (v := ?_) (a' := ?_) #[true, true, true, true, true, true, true, true, true, true, false, false, false, false, false, false, false, false, false, false, false, false, false, false, false] rfl rfl (any_of HT_.out (by kernel_rfl)) (fun _ _ _ h => h) (Or.inl ⟨by rfl, ?_⟩) ?_ ?_
            rotate_left
            · intro w'
              go_simp
              with_reducible rfl
            rotate_left
            · simp only [Act.put, List.setIfInBounds_toArray, List.set_cons_zero, List.set_cons_succ, i64_w, i32_w]
              rfl
            refine take_ (i := 10) (N := some 67) (v := ?_) (a' := ?_) #[true, true, true, true, true, true, true, true, true, true, true, false, false, false, false, false, false, false, false, false, false, false, false, false, false] rfl rfl (take_ofW HT_.out HW_.out (by kernel_rfl)) (fun _ _ _ h => h) (Or.inl ⟨by rfl, ?_⟩) hHeld ?_ ?_
            rotate_left
            · rintro w' ⟨s0, s1⟩
              go_simp
              with_reducible rfl
            rotate_left
            · simp only [Act.put, List.setIfInBounds_toArray, List.set_cons_zero, List.set_cons_succ, i64_w, i32_w]
              rfl
            refine pure_ (i := 12) (N := some 69) (v := ?_) (a' := ?_) #[true, true, true, true, true, true, true, true, true, true, true, false, true, false, false, false, false, false, false, false, false, false, false, false, false] rfl rfl (any_of HT_.out (by kernel_rfl)) (fun _ _ _ h => h) (Or.inl ⟨by rfl, ?_⟩) ?_ ?_
            rotate_left
            · intro w'
              go_simp
              with_reducible rfl
            rotate_left
            · simp only [Act.put, List.setIfInBounds_toArray, List.set_cons_zero, List.set_cons_succ, i64_w, i32_w]
              rfl
            refine pure_ (i := 13) (N := some 70) (v := ?_) (a' := ?_) #[true, true, true, true, true, true, true, true, true, true, true, false, true, true, false, false, false, false, false, false, false, false, false, false, false] rfl rfl (any_of HT_.out (by kernel_rfl)) (fun _ _ _ h => h) (Or.inl ⟨by rfl, ?_⟩) ?_ ?_
            rotate_left
            · intro w'
              go_simp
              with_reducible rfl
            rotate_left
            · simp only [Act.put, List.setIfInBounds_toArray, List.set_cons_zero, List.set_cons_succ, i64_w, i32_w]
              rfl
            refine pure_ (i := 14) (N := some 71) (v := ?_) (a' := ?_) #[true, true, true, true, true, true, true, true, true, true, true, false, true, true, true, false, false, false, false, false, false, false, false, false, false] rfl rfl (any_of HT_.out (by kernel_rfl)) (fun _ _ _ h => h) (Or.inl ⟨by rfl, ?_⟩) ?_ ?_
            rotate_left
            · intro w'
              go_simp
              with_reducible rfl
            rotate_left
            · simp only [Act.put, List.setIfInBounds_toArray, List.set_cons_zero, List.set_cons_succ, i64_w, i32_w]
              rfl
            refine pure_ (i := 15) (N := some 72) (v := ?_) (a' := ?_) #[true, true, true, true, true, true, true, true, true, true, true, false, true, true, true, true, false, false, false, false, false, false, false, false, false] rfl rfl (any_of HT_.out (by kernel_rfl)) (fun _ _ _ h => h) (Or.inl ⟨by rfl, ?_⟩) ?_ ?_
            rotate_left
            · intro w'
              go_simp
              with_reducible rfl
            rotate_left
            · simp only [Act.put, List.setIfInBounds_toArray, List.set_cons_zero, List.set_cons_succ, i64_w, i32_w]
              rfl
            refine pure_ (i := 16) (N := some 73) (v := ?_) (a' := ?_) #[true, true, true, true, true, true, true, true, true, true, true, false, true, true, true, true, true, false, false, false, false, false, false, false, false] rfl rfl (any_of HT_.out (by kernel_rfl)) (fun _ _ _ h => h) (Or.inl ⟨by rfl, ?_⟩) ?_ ?_
            rotate_left
            · intro w'
              go_simp
              with_reducible rfl
            rotate_left
            · simp only [Act.put, List.setIfInBounds_toArray, List.set_cons_zero, List.set_cons_succ, i64_w, i32_w]
              rfl
            refine take_ (i := 17) (N := some 74) (v := ?_) (a' := ?_) #[true, true, true, true, true, true, true, true, true, true, true, false, true, true, true, true, true, true, false, false, false, false, false, false, false] rfl rfl (take_ofW HT_.out HW_.out (by kernel_rfl)) (fun _ _ _ h => h) (Or.inl ⟨by rfl, ?_⟩) hHeld ?_ ?_
            rotate_left
            · rintro w' ⟨s0, s1⟩
              go_simp
              with_reducible rfl
            rotate_left
            · simp only [Act.put, List.setIfInBounds_toArray, List.set_cons_zero, List.set_cons_succ, i64_w, i32_w]
              rfl
            refine pure_ (i := 18) (N := some 75) (v := ?_) (a' := ?_) #[true, true, true, true, true, true, true, true, true, true, true, false, true, true, true, true, true, true, true, false, false, false, false, false, false] rfl rfl (any_of HT_.out (by kernel_rfl)) (fun _ _ _ h => h) (Or.inl ⟨by rfl, ?_⟩) ?_ ?_
            rotate_left
            · intro w'
              go_simp
              with_reducible rfl
            rotate_left
            · simp only [Act.put, List.setIfInBounds_toArray, List.set_cons_zero, List.set_cons_succ, i64_w, i32_w]
              rfl
            refine pure_ (i := 19) (N := some 76) (v := ?_) (a' := ?_) #[true, true, true, true, true, true, true, true, true, true, true, false, true, true, true, true, true, true, true, true, false, false, false, false, false] rfl rfl (any_of HT_.out (by kernel_rfl)) (fun _ _ _ h => h) (Or.inl ⟨by rfl, ?_⟩) ?_ ?_
            rotate_left
            · intro w'
              go_simp
              with_reducible rfl
            rotate_left
            · simp only [Act.put, List.setIfInBounds_toArray, List.set_cons_zero, List.set_cons_succ, i64_w, i32_w]
              rfl
            refine pure_ (i := 20) (N := some 77) (v := ?_) (a' := ?_) #[true, true, true, true, true, true, true, true, true, true, true, false, true, true, true, true, true, true, true, true, true, false, false, false, false] rfl rfl (any_of HT_.out (by kernel_rfl)) (fun _ _ _ h => h) (Or.inl ⟨by rfl, ?_⟩) ?_ ?_
            rotate_left
            · intro w'
              go_simp
              with_reducible rfl
            rotate_left
            · simp only [Act.put, List.setIfInBounds_toArray, List.set_cons_zero, List.set_cons_succ, i64_w, i32_w]
              rfl
            refine pure_ (i := 21) (N := some 78) (v := ?_) (a' := ?_) #[true, true, true, true, true, true, true, true, true, true, true, false, true, true, true, true, true, true, true, true, true, true, false, false, false] rfl rfl (any_of HT_.out (by kernel_rfl)) (fun _ _ _ h => h) (Or.inl ⟨by rfl, ?_⟩) ?_ ?_
            rotate_left
            · intro w'
              go_simp
              with_reducible rfl
            rotate_left
            · simp only [Act.put, List.setIfInBounds_toArray, List.set_cons_zero, List.set_cons_succ, i64_w, i32_w]
              rfl
            refine take_ (i := 22) (N := some 79) (v := ?_) (a' := ?_) #[true, true, true, true, true, true, true, true, true, true, true, false, true, true, true, true, true, true, true, true, true, true, true, false, false] rfl rfl (take_ofW HT_.out HW_.out (by kernel_rfl)) (fun _ _ _ h => h) (Or.inl ⟨by rfl, ?_⟩) hHeld ?_ ?_
            rotate_left
            · rintro w' ⟨s0, s1⟩
              go_simp
              with_reducible rfl
            rotate_left
            · simp only [Act.put, List.setIfInBounds_toArray, List.set_cons_zero, List.set_cons_succ, i64_w, i32_w]
              rfl
            refine one_ (i := 11) (N := some 68) #[true, true, true, true, true, true, true, true, true, true, true, true, true, true, true, true, true, true, true, true, true, true, true, false, false] rfl rfl (one_of HT_.out (by kernel_rfl)) (by decide) (fun K hK => ?_)
            refine goes_ Try.func25 (by kernel_rfl) rfl #[.pointer (some ⟨b, 0, none⟩), .int .i64 x0, .int .i64 x1] (by rfl) rfl rfl (by simp only [List.map_toArray, List.map_cons, List.map_nil]; rfl) ?_
            refine (pos_Mirror.calls w.heap.size b m x0 x1 w _ I5.out.map I5.out.below).mono ?_
            rintro e w6 ⟨rfl, hm, hb, hk⟩
            refine ⟨_, rfl, ?_⟩
            have M6 := Aside0.mk hm
            have B6 := Aside0.mk hb
            have F6 := Aside0.mk (I5.out.ref.keep hk)
            have el6 : w6.cell? (ad.add (i.toNat * 2)) = some (.int .i64 x0) := (hb.cell (World.block_lt_of_cell? w _ EL.out.1)).trans EL.out.1
            have em6 : w6.cell? ⟨(ad.add (i.toNat * 2)).block, (ad.add (i.toNat * 2)).off + 1, none⟩ = some (.int .i64 x1) := (hb.cell (World.block_lt_of_cell? w _ EL.out.2)).trans EL.out.2
            refine hK.out _ _ ⟨el6, em6⟩ (fun hHeld => ?_)
            clear hK K hm hb hk el6 em6 I5
            refine norm_ (a' := ?_) ?_ ?_
            rotate_left
            · show Act.put _ (some 68) _ = _
              simp only [Act.put, List.setIfInBounds_toArray, List.set_cons_zero, List.set_cons_succ, i64_w, i32_w]
              rfl
            refine one_ (i := 23) (N := some 80) #[true, true, true, true, true, true, true, true, true, true, true, true, true, true, true, true, true, true, true, true, true, true, true, true, false] rfl rfl (one_of HT_.out (by kernel_rfl)) (by decide) (fun K hK => ?_)
            refine goes_ Try.func28 (by kernel_rfl) rfl #[.pointer (some ⟨c, 0, none⟩), .int .i64 x0, .int .i64 x1] (by rfl) rfl rfl (by simp only [List.map_toArray, List.map_cons, List.map_nil]; rfl) ?_
            refine (ref_Set.calls w w.heap.size c m x0 x1 w _ F6.out B6.out).mono ?_
            rintro e w7 ⟨rfl, hf, hb, hk⟩
            refine ⟨_, rfl, ?_⟩
            have I8 := Aside0.mk (show emenderlaw08_PosRows.I w b c (pos_Mirror.l m x0 x1) w7 from ⟨M6.out.keep hk, hf, hb⟩)
            have el6 : w7.cell? (ad.add (i.toNat * 2)) = some (.int .i64 x0) := (hb.cell (World.block_lt_of_cell? w _ EL.out.1)).trans EL.out.1
            have em6 : w7.cell? ⟨(ad.add (i.toNat * 2)).block, (ad.add (i.toNat * 2)).off + 1, none⟩ = some (.int .i64 x1) := (hb.cell (World.block_lt_of_cell? w _ EL.out.2)).trans EL.out.2
            refine hK.out _ _ ⟨el6, em6⟩ (fun hHeld => ?_)
            clear hK K hf hb hk el6 em6 M6 B6 F6
            refine norm_ (a' := ?_) ?_ ?_
            rotate_left
            · show Act.put _ (some 80) _ = _
              simp only [Act.put, List.setIfInBounds_toArray, List.set_cons_zero, List.set_cons_succ, i64_w, i32_w]
              rfl
            refine pure_ (i := 24) (N := some 81) (v := ?_) (a' := ?_) #[true, true, true, true, true, true, true, true, true, true, true, true, true, true, true, true, true, true, true, true, true, true, true, true, true] rfl rfl (any_of HT_.out (by kernel_rfl)) (fun _ _ _ h => h) (Or.inl ⟨by rfl, ?_⟩) ?_ ?_
            rotate_left
            · intro w'
              go_simp
              with_reducible rfl
            rotate_left
            · simp only [Act.put, List.setIfInBounds_toArray, List.set_cons_zero, List.set_cons_succ, i64_w, i32_w]
              rfl
            refine done_ (done_of HT_.out (by kernel_rfl)) ?_
            go_wp2
            go_roundg f
            case measure => omega
            case rel => exact ⟨i + 1, by rw [WI.out], ⟨by rw [E1.out]; exact I8.out⟩, ⟨by have := HN.out; have := C5.out; omega⟩⟩
          · have c6b : decide (i < 50) = false := decide_eq_false c6
            have e1 : i.toNat = min l1.length 50 := by omega
            rw [e1] at HI
            clear c5 c6 hn e1 HN
            have HJ := Aside0.mk (show emenderlaw08_PosRows.I w b c (emenderlaw08_PosRows.all l0 l1) wr from HI.out)
            clear HI
            generalize emenderlaw08_PosRows.all l0 l1 = m at *
            go_wp2_with fail
            refine (pos_MMap.calls k w.heap.size b m a2 a3 a4 s1 s2 s3 s4 s5 _ HJ.out.map HLEN.out.1 HLEN.out.2 HMAP.out.1).mono ?_
            rintro e w3 ⟨rfl, hb3⟩
            have zb := blk_new w3 (.cells #[.int .i64 s1, .bool s2, .int .i64 s3, .int .i64 s4] 24)
            have J3 := Aside0.mk ((HJ.out.weak hb3).weak (below_alloc (Below.refl _ _) (.cells #[.int .i64 s1, .bool s2, .int .i64 s3, .int .i64 s4] 24)))
            clear hb3 HJ
            have Z3 := Aside0.mk zb
            clear zb
            go_upto_region 16 with (fail)
            generalize w3.alloc (.cells #[.int .i64 s1, .bool s2, .int .i64 s3, .int .i64 s4] 24) = w4 at *
            generalize w3.heap.size = g3 at *
            go_wp2_with fail
            refine (ref_MMap.calls k w w.heap.size c m a2 a3 a4 s1 s2 s3 s4 s5 _ J3.out.ref J3.out.below HLEN.out.1 HLEN.out.2 HMAP.out.2).mono ?_
            rintro e w5 ⟨rfl, hb5⟩
            have zb := blk_new w5 (.cells #[.int .i64 s1, .bool s2, .int .i64 s3, .int .i64 s4] 24)
            have J5 := Aside0.mk ((J3.out.weak hb5).weak (below_alloc (Below.refl _ _) (.cells #[.int .i64 s1, .bool s2, .int .i64 s3, .int .i64 s4] 24)))
            have Z5 := Aside0.mk zb
            have Y5 := Aside0.mk (blk_below (blk_below Z3.out hb5) (below_alloc (Below.refl _ _) (.cells #[.int .i64 s1, .bool s2, .int .i64 s3, .int .i64 s4] 24)))
            clear hb5 zb J3 Z3
            go_upto_region 17 with (fail)
            generalize w5.alloc (.cells #[.int .i64 s1, .bool s2, .int .i64 s3, .int .i64 s4] 24) = w6 at *
            generalize w5.heap.size = g5 at *
            have y0 : w6.cell? ⟨g3, 0, none⟩ = some (.int .i64 s1) := (blk_cell Y5.out 0).trans rfl
            have y1 : w6.cell? ⟨g3, 1, none⟩ = some (.bool s2) := (blk_cell Y5.out 1).trans rfl
            have y2 : w6.cell? ⟨g3, 2, none⟩ = some (.int .i64 s3) := (blk_cell Y5.out 2).trans rfl
            have y3 : w6.cell? ⟨g3, 3, none⟩ = some (.int .i64 s4) := (blk_cell Y5.out 3).trans rfl
            have z0 : w6.cell? ⟨g5, 0, none⟩ = some (.int .i64 s1) := (blk_cell Z5.out 0).trans rfl
            have z1 : w6.cell? ⟨g5, 1, none⟩ = some (.bool s2) := (blk_cell Z5.out 1).trans rfl
            have z2 : w6.cell? ⟨g5, 2, none⟩ = some (.int .i64 s3) := (blk_cell Z5.out 2).trans rfl
            have z3 : w6.cell? ⟨g5, 3, none⟩ = some (.int .i64 s4) := (blk_cell Z5.out 3).trans rfl
            have jj := J5.out.ref
            obtain ⟨⟨v, h1, h2⟩, h3⟩ := jj
            obtain ⟨AL, cL, rfl⟩ := Kd.R_slice h2
            have l0_ : w6.cell? ⟨c, 0, none⟩ = some (.slice AL m.length cL) := (blk_cell h1 0).trans rfl
            clear h1 h2 h3
            refine start_ (n := 22) (S := fun w' => w'.cell? ⟨g3, 0, none⟩ = some (.int .i64 s1) ∧ w'.cell? ⟨g3, 1, none⟩ = some (.bool s2) ∧ w'.cell? ⟨g3, 2, none⟩ = some (.int .i64 s3) ∧ w'.cell? ⟨g3, 3, none⟩ = some (.int .i64 s4) ∧ w'.cell? ⟨g5, 0, none⟩ = some (.int .i64 s1) ∧ w'.cell? ⟨g5, 1, none⟩ = some (.bool s2) ∧ w'.cell? ⟨g5, 2, none⟩ = some (.int .i64 s3) ∧ w'.cell? ⟨g5, 3, none⟩ = some (.int .i64 s4) ∧ w'.cell? ⟨c, 0, none⟩ = some (.slice AL m.length cL)) (ds := []) #[false, false, false, false, false, false, false, false, false, false, false, false, false, false, false, false, false, false, false, false, false, false] (by kernel_rfl) rfl rfl ⟨y0, y1, y2, y3, z0, z1, z2, z3, l0_⟩ (fun hHeld => ?_)
            refine with_tabW emenderlaw08_PosRows.tab17 emenderlaw08_PosRows.bits17 (fun HT_ HW_ => ?_)
            have J6 := Aside0.mk (J5.out.weak (Below.drew (Below.refl _ w6)))
            clear J5 Y5 Z5 y0 y1 y2 y3 z0 z1 z2 z3 l0_
            generalize w6.drew = w7 at *
            refine take_ (i := 0) (N := some 98) (v := ?_) (a' := ?_) #[true, false, false, false, false, false, false, false, false, false, false, false, false, false, false, false, false, false, false, false, false, false] rfl rfl (take_ofW HT_.out HW_.out (by kernel_rfl)) (fun _ _ _ h => h) (Or.inl ⟨by rfl, ?_⟩) hHeld ?_ ?_
            rotate_left
            · rintro w' ⟨s0, s1, s2, s3, s4, s5, s6, s7, s8⟩
              go_simp
              with_reducible rfl
            rotate_left
            · simp only [Act.put, List.setIfInBounds_toArray, List.set_cons_zero, List.set_cons_succ, i64_w, i32_w]
              rfl
            refine take_ (i := 1) (N := some 99) (v := ?_) (a' := ?_) #[true, true, false, false, false, false, false, false, false, false, false, false, false, false, false, false, false, false, false, false, false, false] rfl rfl (take_ofW HT_.out HW_.out (by kernel_rfl)) (fun _ _ _ h => h) (Or.inl ⟨by rfl, ?_⟩) hHeld ?_ ?_
            rotate_left
            · rintro w' ⟨s0, s1, s2, s3, s4, s5, s6, s7, s8⟩
              go_simp
              with_reducible rfl
            rotate_left
            · simp only [Act.put, List.setIfInBounds_toArray, List.set_cons_zero, List.set_cons_succ, i64_w, i32_w]
              rfl
            refine pure_ (i := 2) (N := some 100) (v := ?_) (a' := ?_) #[true, true, true, false, false, false, false, false, false, false, false, false, false, false, false, false, false, false, false, false, false, false] rfl rfl (any_of HT_.out (by kernel_rfl)) (fun _ _ _ h => h) (Or.inl ⟨by rfl, ?_⟩) ?_ ?_
            rotate_left
            · intro w'
              go_simp
              with_reducible rfl
            rotate_left
            · simp only [Act.put, List.setIfInBounds_toArray, List.set_cons_zero, List.set_cons_succ, i64_w, i32_w]
              rfl
            refine pure_ (i := 3) (N := some 101) (v := ?_) (a' := ?_) #[true, true, true, true, false, false, false, false, false, false, false, false, false, false, false, false, false, false, false, false, false, false] rfl rfl (any_of HT_.out (by kernel_rfl)) (fun _ _ _ h => h) (Or.inl ⟨by rfl, ?_⟩) ?_ ?_
            rotate_left
            · intro w'
              go_simp
              with_reducible rfl
            rotate_left
            · simp only [Act.put, List.setIfInBounds_toArray, List.set_cons_zero, List.set_cons_succ, i64_w, i32_w]
              rfl
            refine pure_ (i := 4) (N := some 102) (v := ?_) (a' := ?_) #[true, true, true, true, true, false, false, false, false, false, false, false, false, false, false, false, false, false, false, false, false, false] rfl rfl (any_of HT_.out (by kernel_rfl)) (fun _ _ _ h => h) (Or.inl ⟨by rfl, ?_⟩) ?_ ?_
            rotate_left
            · intro w'
              go_simp
              with_reducible rfl
            rotate_left
            · simp only [Act.put, List.setIfInBounds_toArray, List.set_cons_zero, List.set_cons_succ, i64_w, i32_w]
              rfl
            refine pure_ (i := 5) (N := some 103) (v := ?_) (a' := ?_) #[true, true, true, true, true, true, false, false, false, false, false, false, false, false, false, false, false, false, false, false, false, false] rfl rfl (any_of HT_.out (by kernel_rfl)) (fun _ _ _ h => h) (Or.inl ⟨by rfl, ?_⟩) ?_ ?_
            rotate_left
            · intro w'
              go_simp
              with_reducible rfl
            rotate_left
            · simp only [Act.put, List.setIfInBounds_toArray, List.set_cons_zero, List.set_cons_succ, i64_w, i32_w]
              rfl
            refine pure_ (i := 6) (N := some 104) (v := ?_) (a' := ?_) #[true, true, true, true, true, true, true, false, false, false, false, false, false, false, false, false, false, false, false, false, false, false] rfl rfl (any_of HT_.out (by kernel_rfl)) (fun _ _ _ h => h) (Or.inl ⟨by rfl, ?_⟩) ?_ ?_
            rotate_left
            · intro w'
              go_simp
              with_reducible rfl
            rotate_left
            · simp only [Act.put, List.setIfInBounds_toArray, List.set_cons_zero, List.set_cons_succ, i64_w, i32_w]
              rfl
            refine pure_ (i := 7) (N := some 105) (v := ?_) (a' := ?_) #[true, true, true, true, true, true, true, true, false, false, false, false, false, false, false, false, false, false, false, false, false, false] rfl rfl (any_of HT_.out (by kernel_rfl)) (fun _ _ _ h => h) (Or.inl ⟨by rfl, ?_⟩) ?_ ?_
            rotate_left
            · intro w'
              go_simp
              with_reducible rfl
            rotate_left
            · simp only [Act.put, List.setIfInBounds_toArray, List.set_cons_zero, List.set_cons_succ, i64_w, i32_w]
              rfl
            refine pure_ (i := 8) (N := some 106) (v := ?_) (a' := ?_) #[true, true, true, true, true, true, true, true, true, false, false, false, false, false, false, false, false, false, false, false, false, false] rfl rfl (any_of HT_.out (by kernel_rfl)) (fun _ _ _ h => h) (Or.inl ⟨by rfl, ?_⟩) ?_ ?_
            rotate_left
            · intro w'
              go_simp
              with_reducible rfl
            rotate_left
            · simp only [Act.put, List.setIfInBounds_toArray, List.set_cons_zero, List.set_cons_succ, i64_w, i32_w]
              rfl
            refine pure_ (i := 9) (N := some 107) (v := ?_) (a' := ?_) #[true, true, true, true, true, true, true, true, true, true, false, false, false, false, false, false, false, false, false, false, false, false] rfl rfl (any_of HT_.out (by kernel_rfl)) (fun _ _ _ h => h) (Or.inl ⟨by rfl, ?_⟩) ?_ ?_
            rotate_left
            · intro w'
              go_simp
              with_reducible rfl
            rotate_left
            · simp only [Act.put, List.setIfInBounds_toArray, List.set_cons_zero, List.set_cons_succ, i64_w, i32_w]
              rfl
            refine pure_ (i := 11) (N := some 109) (v := ?_) (a' := ?_) #[true, true, true, true, true, true, true, true, true, true, false, true, false, false, false, false, false, false, false, false, false, false] rfl rfl (any_of HT_.out (by kernel_rfl)) (fun _ _ _ h => h) (Or.inl ⟨by rfl, ?_⟩) ?_ ?_
            rotate_left
            · intro w'
              go_simp
              with_reducible rfl
            rotate_left
            · simp only [Act.put, List.setIfInBounds_toArray, List.set_cons_zero, List.set_cons_succ, i64_w, i32_w]
              rfl
            refine pure_ (i := 12) (N := some 110) (v := ?_) (a' := ?_) #[true, true, true, true, true, true, true, true, true, true, false, true, true, false, false, false, false, false, false, false, false, false] rfl rfl (any_of HT_.out (by kernel_rfl)) (fun _ _ _ h => h) (Or.inl ⟨by rfl, ?_⟩) ?_ ?_
            rotate_left
            · intro w'
              go_simp
              with_reducible rfl
            rotate_left
            · simp only [Act.put, List.setIfInBounds_toArray, List.set_cons_zero, List.set_cons_succ, i64_w, i32_w]
              rfl
            refine pure_ (i := 13) (N := some 111) (v := ?_) (a' := ?_) #[true, true, true, true, true, true, true, true, true, true, false, true, true, true, false, false, false, false, false, false, false, false] rfl rfl (any_of HT_.out (by kernel_rfl)) (fun _ _ _ h => h) (Or.inl ⟨by rfl, ?_⟩) ?_ ?_
            rotate_left
            · intro w'
              go_simp
              with_reducible rfl
            rotate_left
            · simp only [Act.put, List.setIfInBounds_toArray, List.set_cons_zero, List.set_cons_succ, i64_w, i32_w]
              rfl
            refine take_ (i := 14) (N := some 112) (v := ?_) (a' := ?_) #[true, true, true, true, true, true, true, true, true, true, false, true, true, true, true, false, false, false, false, false, false, false] rfl rfl (take_ofW HT_.out HW_.out (by kernel_rfl)) (fun _ _ _ h => h) (Or.inl ⟨by rfl, ?_⟩) hHeld ?_ ?_
            rotate_left
            · rintro w' ⟨s0, s1, s2, s3, s4, s5, s6, s7, s8⟩
              go_simp
              with_reducible rfl
            rotate_left
            · simp only [Act.put, List.setIfInBounds_toArray, List.set_cons_zero, List.set_cons_succ, i64_w, i32_w]
              rfl
            refine pure_ (i := 15) (N := some 113) (v := ?_) (a' := ?_) #[true, true, true, true, true, true, true, true, true, true, false, true, true, true, true, true, false, false, false, false, false, false] rfl rfl (any_of HT_.out (by kernel_rfl)) (fun _ _ _ h => h) (Or.inl ⟨by rfl, ?_⟩) ?_ ?_
            rotate_left
            · intro w'
              go_simp
              with_reducible rfl
            rotate_left
            · simp only [Act.put, List.setIfInBounds_toArray, List.set_cons_zero, List.set_cons_succ, i64_w, i32_w]
              rfl
            refine one_ (i := 10) (N := some 108) #[true, true, true, true, true, true, true, true, true, true, true, true, true, true, true, true, false, false, false, false, false, false] rfl rfl (one_of HT_.out (by kernel_rfl)) (by decide) (fun K hK => ?_)
            refine goes_ Try.func26 (by kernel_rfl) rfl #[.pointer (some ⟨b, 0, none⟩)] (by rfl) rfl rfl (by simp only [List.map_toArray, List.map_cons, List.map_nil]; rfl) ?_
            refine (pos_Len.calls w.heap.size b m _ J6.out.map).mono ?_
            rintro e w8 ⟨rfl, hw8⟩
            subst w8
            refine ⟨_, rfl, ?_⟩
            refine hK.out _ _ hHeld (fun hHeld => ?_)
            clear hK K
            refine norm_ (a' := ?_) ?_ ?_
            rotate_left
            · show Act.put _ (some 108) _ = _
              simp only [Act.put, List.setIfInBounds_toArray, List.set_cons_zero, List.set_cons_succ, i64_w, i32_w]
              rfl
            refine pure_ (i := 16) (N := some 114) (v := ?_) (a' := ?_) #[true, true, true, true, true, true, true, true, true, true, true, true, true, true, true, true, true, false, false, false, false, false] rfl rfl (any_of HT_.out (by kernel_rfl)) (fun _ _ _ h => h) (Or.inl ⟨by rfl, ?_⟩) ?_ ?_
            rotate_left
            · intro w'
              go_simp
              with_reducible rfl
            rotate_left
            · simp only [Act.put, List.setIfInBounds_toArray, List.set_cons_zero, List.set_cons_succ, i64_w, i32_w]
              rfl
            refine pure_ (i := 17) (N := some 115) (v := ?_) (a' := ?_) #[true, true, true, true, true, true, true, true, true, true, true, true, true, true, true, true, true, true, false, false, false, false] rfl rfl (any_of HT_.out (by kernel_rfl)) (fun _ _ _ h => h) (Or.inl ⟨by rfl, ?_⟩) ?_ ?_
            rotate_left
            · intro w'
              go_simp
              with_reducible rfl
            rotate_left
            · simp only [Act.put, List.setIfInBounds_toArray, List.set_cons_zero, List.set_cons_succ, i64_w, i32_w]
              rfl
            refine pure_ (i := 18) (N := some 116) (v := ?_) (a' := ?_) #[true, true, true, true, true, true, true, true, true, true, true, true, true, true, true, true, true, true, true, false, false, false] rfl rfl (any_of HT_.out (by kernel_rfl)) (fun _ _ _ h => h) (Or.inl ⟨by rfl, ?_⟩) ?_ ?_
            rotate_left
            · intro w'
              go_simp
              with_reducible rfl
            rotate_left
            · simp only [Act.put, List.setIfInBounds_toArray, List.set_cons_zero, List.set_cons_succ, i64_w, i32_w]
              rfl
            refine one_ (i := 19) (N := some 117) #[true, true, true, true, true, true, true, true, true, true, true, true, true, true, true, true, true, true, true, true, false, false] rfl rfl (one_of HT_.out (by kernel_rfl)) (by decide) (fun K hK => ?_)
            refine goes_ Try.func16 (by kernel_rfl) rfl #[] (by rfl) rfl rfl (by simp only [List.map_toArray, List.map_nil]) ?_
            refine (emenderlaw08_awake.calls k true _ HAW.out).mono ?_
            rintro e w9 ⟨rfl, hb⟩
            refine ⟨_, rfl, ?_⟩
            have HB9 := Aside0.mk (below_step J6.out.below hb)
            have keep : ∀ (ad : Addr) (u : Value), w7.cell? ad = some u → w9.cell? ad = some u := fun ad u s => (hb.cell (World.block_lt_of_cell? w7 _ s)).trans s
            refine hK.out _ _ ⟨keep _ _ hHeld.1, keep _ _ hHeld.2.1, keep _ _ hHeld.2.2.1, keep _ _ hHeld.2.2.2.1, keep _ _ hHeld.2.2.2.2.1, keep _ _ hHeld.2.2.2.2.2.1, keep _ _ hHeld.2.2.2.2.2.2.1, keep _ _ hHeld.2.2.2.2.2.2.2.1, keep _ _ hHeld.2.2.2.2.2.2.2.2⟩ (fun hHeld => ?_)
            clear hK K keep hb J6
            refine norm_ (a' := ?_) ?_ ?_
            rotate_left
            · show Act.put _ (some 117) _ = _
              simp only [Act.put, List.setIfInBounds_toArray, List.set_cons_zero, List.set_cons_succ, i64_w, i32_w]
              rfl
            refine pure_ (i := 20) (N := some 118) (v := ?_) (a' := ?_) #[true, true, true, true, true, true, true, true, true, true, true, true, true, true, true, true, true, true, true, true, true, false] rfl rfl (any_of HT_.out (by kernel_rfl)) (fun _ _ _ h => h) (Or.inl ⟨by rfl, ?_⟩) ?_ ?_
            rotate_left
            · intro w'
              go_simp
              with_reducible rfl
            rotate_left
            · simp only [Act.put, List.setIfInBounds_toArray, List.set_cons_zero, List.set_cons_succ, i64_w, i32_w]
              rfl
            refine pure_ (i := 21) (N := some 10) (v := ?_) (a' := ?_) #[true, true, true, true, true, true, true, true, true, true, true, true, true, true, true, true, true, true, true, true, true, true] rfl rfl (any_of HT_.out (by kernel_rfl)) (fun _ _ _ h => h) (Or.inl ⟨by rfl, ?_⟩) ?_ ?_
            rotate_left
            · intro w'
              go_simp
              with_reducible rfl
            rotate_left
            · simp only [Act.put, List.setIfInBounds_toArray, List.set_cons_zero, List.set_cons_succ, i64_w, i32_w]
              rfl
            refine done_ (done_of HT_.out (by kernel_rfl)) ?_
            go_wp2
            go_ret
            exact ⟨rfl, HB9.out⟩
        · have c5b : decide (i < (l1.length : Int)) = false := decide_eq_false c5
          have e1 : i.toNat = min l1.length 50 := by omega
          rw [e1] at HI
          clear c5 hn e1 HN
          have HJ := Aside0.mk (show emenderlaw08_PosRows.I w b c (emenderlaw08_PosRows.all l0 l1) wr from HI.out)
          clear HI
          generalize emenderlaw08_PosRows.all l0 l1 = m at *
          go_wp2_with fail
          refine (pos_MMap.calls k w.heap.size b m a2 a3 a4 s1 s2 s3 s4 s5 _ HJ.out.map HLEN.out.1 HLEN.out.2 HMAP.out.1).mono ?_
          rintro e w3 ⟨rfl, hb3⟩
          have zb := blk_new w3 (.cells #[.int .i64 s1, .bool s2, .int .i64 s3, .int .i64 s4] 24)
          have J3 := Aside0.mk ((HJ.out.weak hb3).weak (below_alloc (Below.refl _ _) (.cells #[.int .i64 s1, .bool s2, .int .i64 s3, .int .i64 s4] 24)))
          clear hb3 HJ
          have Z3 := Aside0.mk zb
          clear zb
          go_upto_region 16 with (fail)
          generalize w3.alloc (.cells #[.int .i64 s1, .bool s2, .int .i64 s3, .int .i64 s4] 24) = w4 at *
          generalize w3.heap.size = g3 at *
          go_wp2_with fail
          refine (ref_MMap.calls k w w.heap.size c m a2 a3 a4 s1 s2 s3 s4 s5 _ J3.out.ref J3.out.below HLEN.out.1 HLEN.out.2 HMAP.out.2).mono ?_
          rintro e w5 ⟨rfl, hb5⟩
          have zb := blk_new w5 (.cells #[.int .i64 s1, .bool s2, .int .i64 s3, .int .i64 s4] 24)
          have J5 := Aside0.mk ((J3.out.weak hb5).weak (below_alloc (Below.refl _ _) (.cells #[.int .i64 s1, .bool s2, .int .i64 s3, .int .i64 s4] 24)))
          have Z5 := Aside0.mk zb
          have Y5 := Aside0.mk (blk_below (blk_below Z3.out hb5) (below_alloc (Below.refl _ _) (.cells #[.int .i64 s1, .bool s2, .int .i64 s3, .int .i64 s4] 24)))
          clear hb5 zb J3 Z3
          go_upto_region 17 with (fail)
          generalize w5.alloc (.cells #[.int .i64 s1, .bool s2, .int .i64 s3, .int .i64 s4] 24) = w6 at *
          generalize w5.heap.size = g5 at *
          have y0 : w6.cell? ⟨g3, 0, none⟩ = some (.int .i64 s1) := (blk_cell Y5.out 0).trans rfl
          have y1 : w6.cell? ⟨g3, 1, none⟩ = some (.bool s2) := (blk_cell Y5.out 1).trans rfl
          have y2 : w6.cell? ⟨g3, 2, none⟩ = some (.int .i64 s3) := (blk_cell Y5.out 2).trans rfl
          have y3 : w6.cell? ⟨g3, 3, none⟩ = some (.int .i64 s4) := (blk_cell Y5.out 3).trans rfl
          have z0 : w6.cell? ⟨g5, 0, none⟩ = some (.int .i64 s1) := (blk_cell Z5.out 0).trans rfl
          have z1 : w6.cell? ⟨g5, 1, none⟩ = some (.bool s2) := (blk_cell Z5.out 1).trans rfl
          have z2 : w6.cell? ⟨g5, 2, none⟩ = some (.int .i64 s3) := (blk_cell Z5.out 2).trans rfl
          have z3 : w6.cell? ⟨g5, 3, none⟩ = some (.int .i64 s4) := (blk_cell Z5.out 3).trans rfl
          have jj := J5.out.ref
          obtain ⟨⟨v, h1, h2⟩, h3⟩ := jj
          obtain ⟨AL, cL, rfl⟩ := Kd.R_slice h2
          have l0_ : w6.cell? ⟨c, 0, none⟩ = some (.slice AL m.length cL) := (blk_cell h1 0).trans rfl
          clear h1 h2 h3
          refine start_ (n := 22) (S := fun w' => w'.cell? ⟨g3, 0, none⟩ = some (.int .i64 s1) ∧ w'.cell? ⟨g3, 1, none⟩ = some (.bool s2) ∧ w'.cell? ⟨g3, 2, none⟩ = some (.int .i64 s3) ∧ w'.cell? ⟨g3, 3, none⟩ = some (.int .i64 s4) ∧ w'.cell? ⟨g5, 0, none⟩ = some (.int .i64 s1) ∧ w'.cell? ⟨g5, 1, none⟩ = some (.bool s2) ∧ w'.cell? ⟨g5, 2, none⟩ = some (.int .i64 s3) ∧ w'.cell? ⟨g5, 3, none⟩ = some (.int .i64 s4) ∧ w'.cell? ⟨c, 0, none⟩ = some (.slice AL m.length cL)) (ds := []) #[false, false, false, false, false, false, false, false, false, false, false, false, false, false, false, false, false, false, false, false, false, false] (by kernel_rfl) rfl rfl ⟨y0, y1, y2, y3, z0, z1, z2, z3, l0_⟩ (fun hHeld => ?_)
          refine with_tabW emenderlaw08_PosRows.tab17 emenderlaw08_PosRows.bits17 (fun HT_ HW_ => ?_)
          have J6 := Aside0.mk (J5.out.weak (Below.drew (Below.refl _ w6)))
          clear J5 Y5 Z5 y0 y1 y2 y3 z0 z1 z2 z3 l0_
          generalize w6.drew = w7 at *
          refine take_ (i := 0) (N := some 98) (v := ?_) (a' := ?_) #[true, false, false, false, false, false, false, false, false, false, false, false, false, false, false, false, false, false, false, false, false, false] rfl rfl (take_ofW HT_.out HW_.out (by kernel_rfl)) (fun _ _ _ h => h) (Or.inl ⟨by rfl, ?_⟩) hHeld ?_ ?_
          rotate_left
          · rintro w' ⟨s0, s1, s2, s3, s4, s5, s6, s7, s8⟩
            go_simp
            with_reducible rfl
          rotate_left
          · simp only [Act.put, List.setIfInBounds_toArray, List.set_cons_zero, List.set_cons_succ, i64_w, i32_w]
            rfl
          refine take_ (i := 1) (N := some 99) (v := ?_) (a' := ?_) #[true, true, false, false, false, false, false, false, false, false, false, false, false, false, false, false, false, false, false, false, false, false] rfl rfl (take_ofW HT_.out HW_.out (by kernel_rfl)) (fun _ _ _ h => h) (Or.inl ⟨by rfl, ?_⟩) hHeld ?_ ?_
          rotate_left
          · rintro w' ⟨s0, s1, s2, s3, s4, s5, s6, s7, s8⟩
            go_simp
            with_reducible rfl
          rotate_left
          · simp only [Act.put, List.setIfInBounds_toArray, List.set_cons_zero, List.set_cons_succ, i64_w, i32_w]
            rfl
          refine pure_ (i := 2) (N := some 100) (v := ?_) (a' := ?_) #[true, true, true, false, false, false, false, false, false, false, false, false, false, false, false, false, false, false, false, false, false, false] rfl rfl (any_of HT_.out (by kernel_rfl)) (fun _ _ _ h => h) (Or.inl ⟨by rfl, ?_⟩) ?_ ?_
          rotate_left
          · intro w'
            go_simp
            with_reducible rfl
          rotate_left
          · simp only [Act.put, List.setIfInBounds_toArray, List.set_cons_zero, List.set_cons_succ, i64_w, i32_w]
            rfl
          refine pure_ (i := 3) (N := some 101) (v := ?_) (a' := ?_) #[true, true, true, true, false, false, false, false, false, false, false, false, false, false, false, false, false, false, false, false, false, false] rfl rfl (any_of HT_.out (by kernel_rfl)) (fun _ _ _ h => h) (Or.inl ⟨by rfl, ?_⟩) ?_ ?_
          rotate_left
          · intro w'
            go_simp
            with_reducible rfl
          rotate_left
          · simp only [Act.put, List.setIfInBounds_toArray, List.set_cons_zero, List.set_cons_succ, i64_w, i32_w]
            rfl
          refine pure_ (i := 4) (N := some 102) (v := ?_) (a' := ?_) #[true, true, true, true, true, false, false, false, false, false, false, false, false, false, false, false, false, false, false, false, false, false] rfl rfl (any_of HT_.out (by kernel_rfl)) (fun _ _ _ h => h) (Or.inl ⟨by rfl, ?_⟩) ?_ ?_
          rotate_left
          · intro w'
            go_simp
            with_reducible rfl
          rotate_left
          · simp only [Act.put, List.setIfInBounds_toArray, List.set_cons_zero, List.set_cons_succ, i64_w, i32_w]
            rfl
          refine pure_ (i := 5) (N := some 103) (v := ?_) (a' := ?_) #[true, true, true, true, true, true, false, false, false, false, false, false, false, false, false, false, false, false, false, false, false, false] rfl rfl (any_of HT_.out (by kernel_rfl)) (fun _ _ _ h => h) (Or.inl ⟨by rfl, ?_⟩) ?_ ?_
          rotate_left
          · intro w'
            go_simp
            with_reducible rfl
          rotate_left
          · simp only [Act.put, List.setIfInBounds_toArray, List.set_cons_zero, List.set_cons_succ, i64_w, i32_w]
            rfl
          refine pure_ (i := 6) (N := some 104) (v := ?_) (a' := ?_) #[true, true, true, true, true, true, true, false, false, false, false, false, false, false, false, false, false, false, false, false, false, false] rfl rfl (any_of HT_.out (by kernel_rfl)) (fun _ _ _ h => h) (Or.inl ⟨by rfl, ?_⟩) ?_ ?_
          rotate_left
          · intro w'
            go_simp
            with_reducible rfl
          rotate_left
          · simp only [Act.put, List.setIfInBounds_toArray, List.set_cons_zero, List.set_cons_succ, i64_w, i32_w]
            rfl
          refine pure_ (i := 7) (N := some 105) (v := ?_) (a' := ?_) #[true, true, true, true, true, true, true, true, false, false, false, false, false, false, false, false, false, false, false, false, false, false] rfl rfl (any_of HT_.out (by kernel_rfl)) (fun _ _ _ h => h) (Or.inl ⟨by rfl, ?_⟩) ?_ ?_
          rotate_left
          · intro w'
            go_simp
            with_reducible rfl
          rotate_left
          · simp only [Act.put, List.setIfInBounds_toArray, List.set_cons_zero, List.set_cons_succ, i64_w, i32_w]
            rfl
          refine pure_ (i := 8) (N := some 106) (v := ?_) (a' := ?_) #[true, true, true, true, true, true, true, true, true, false, false, false, false, false, false, false, false, false, false, false, false, false] rfl rfl (any_of HT_.out (by kernel_rfl)) (fun _ _ _ h => h) (Or.inl ⟨by rfl, ?_⟩) ?_ ?_
          rotate_left
          · intro w'
            go_simp
            with_reducible rfl
          rotate_left
          · simp only [Act.put, List.setIfInBounds_toArray, List.set_cons_zero, List.set_cons_succ, i64_w, i32_w]
            rfl
          refine pure_ (i := 9) (N := some 107) (v := ?_) (a' := ?_) #[true, true, true, true, true, true, true, true, true, true, false, false, false, false, false, false, false, false, false, false, false, false] rfl rfl (any_of HT_.out (by kernel_rfl)) (fun _ _ _ h => h) (Or.inl ⟨by rfl, ?_⟩) ?_ ?_
          rotate_left
          · intro w'
            go_simp
            with_reducible rfl
          rotate_left
          · simp only [Act.put, List.setIfInBounds_toArray, List.set_cons_zero, List.set_cons_succ, i64_w, i32_w]
            rfl
          refine pure_ (i := 11) (N := some 109) (v := ?_) (a' := ?_) #[true, true, true, true, true, true, true, true, true, true, false, true, false, false, false, false, false, false, false, false, false, false] rfl rfl (any_of HT_.out (by kernel_rfl)) (fun _ _ _ h => h) (Or.inl ⟨by rfl, ?_⟩) ?_ ?_
          rotate_left
          · intro w'
            go_simp
            with_reducible rfl
          rotate_left
          · simp only [Act.put, List.setIfInBounds_toArray, List.set_cons_zero, List.set_cons_succ, i64_w, i32_w]
            rfl
          refine pure_ (i := 12) (N := some 110) (v := ?_) (a' := ?_) #[true, true, true, true, true, true, true, true, true, true, false, true, true, false, false, false, false, false, false, false, false, false] rfl rfl (any_of HT_.out (by kernel_rfl)) (fun _ _ _ h => h) (Or.inl ⟨by rfl, ?_⟩) ?_ ?_
          rotate_left
          · intro w'
            go_simp
            with_reducible rfl
          rotate_left
          · simp only [Act.put, List.setIfInBounds_toArray, List.set_cons_zero, List.set_cons_succ, i64_w, i32_w]
            rfl
          refine pure_ (i := 13) (N := some 111) (v := ?_) (a' := ?_) #[true, true, true, true, true, true, true, true, true, true, false, true, true, true, false, false, false, false, false, false, false, false] rfl rfl (any_of HT_.out (by kernel_rfl)) (fun _ _ _ h => h) (Or.inl ⟨by rfl, ?_⟩) ?_ ?_
          rotate_left
          · intro w'
            go_simp
            with_reducible rfl
          rotate_left
          · simp only [Act.put, List.setIfInBounds_toArray, List.set_cons_zero, List.set_cons_succ, i64_w, i32_w]
            rfl
          refine take_ (i := 14) (N := some 112) (v := ?_) (a' := ?_) #[true, true, true, true, true, true, true, true, true, true, false, true, true, true, true, false, false, false, false, false, false, false] rfl rfl (take_ofW HT_.out HW_.out (by kernel_rfl)) (fun _ _ _ h => h) (Or.inl ⟨by rfl, ?_⟩) hHeld ?_ ?_
          rotate_left
          · rintro w' ⟨s0, s1, s2, s3, s4, s5, s6, s7, s8⟩
            go_simp
            with_reducible rfl
          rotate_left
          · simp only [Act.put, List.setIfInBounds_toArray, List.set_cons_zero, List.set_cons_succ, i64_w, i32_w]
            rfl
          refine pure_ (i := 15) (N := some 113) (v := ?_) (a' := ?_) #[true, true, true, true, true, true, true, true, true, true, false, true, true, true, true, true, false, false, false, false, false, false] rfl rfl (any_of HT_.out (by kernel_rfl)) (fun _ _ _ h => h) (Or.inl ⟨by rfl, ?_⟩) ?_ ?_
          rotate_left
          · intro w'
            go_simp
            with_reducible rfl
          rotate_left
          · simp only [Act.put, List.setIfInBounds_toArray, List.set_cons_zero, List.set_cons_succ, i64_w, i32_w]
            rfl
          refine one_ (i := 10) (N := some 108) #[true, true, true, true, true, true, true, true, true, true, true, true, true, true, true, true, false, false, false, false, false, false] rfl rfl (one_of HT_.out (by kernel_rfl)) (by decide) (fun K hK => ?_)
          refine goes_ Try.func26 (by kernel_rfl) rfl #[.pointer (some ⟨b, 0, none⟩)] (by rfl) rfl rfl (by simp only [List.map_toArray, List.map_cons, List.map_nil]; rfl) ?_
          refine (pos_Len.calls w.heap.size b m _ J6.out.map).mono ?_
          rintro e w8 ⟨rfl, hw8⟩
          subst w8
          refine ⟨_, rfl, ?_⟩
          refine hK.out _ _ hHeld (fun hHeld => ?_)
          clear hK K
          refine norm_ (a' := ?_) ?_ ?_
          rotate_left
          · show Act.put _ (some 108) _ = _
            simp only [Act.put, List.setIfInBounds_toArray, List.set_cons_zero, List.set_cons_succ, i64_w, i32_w]
            rfl
          refine pure_ (i := 16) (N := some 114) (v := ?_) (a' := ?_) #[true, true, true, true, true, true, true, true, true, true, true, true, true, true, true, true, true, false, false, false, false, false] rfl rfl (any_of HT_.out (by kernel_rfl)) (fun _ _ _ h => h) (Or.inl ⟨by rfl, ?_⟩) ?_ ?_
          rotate_left
          · intro w'
            go_simp
            with_reducible rfl
          rotate_left
          · simp only [Act.put, List.setIfInBounds_toArray, List.set_cons_zero, List.set_cons_succ, i64_w, i32_w]
            rfl
          refine pure_ (i := 17) (N := some 115) (v := ?_) (a' := ?_) #[true, true, true, true, true, true, true, true, true, true, true, true, true, true, true, true, true, true, false, false, false, false] rfl rfl (any_of HT_.out (by kernel_rfl)) (fun _ _ _ h => h) (Or.inl ⟨by rfl, ?_⟩) ?_ ?_
          rotate_left
          · intro w'
            go_simp
            with_reducible rfl
          rotate_left
          · simp only [Act.put, List.setIfInBounds_toArray, List.set_cons_zero, List.set_cons_succ, i64_w, i32_w]
            rfl
          refine pure_ (i := 18) (N := some 116) (v := ?_) (a' := ?_) #[true, true, true, true, true, true, true, true, true, true, true, true, true, true, true, true, true, true, true, false, false, false] rfl rfl (any_of HT_.out (by kernel_rfl)) (fun _ _ _ h => h) (Or.inl ⟨by rfl, ?_⟩) ?_ ?_
          rotate_left
          · intro w'
            go_simp
            with_reducible rfl
          rotate_left
          · simp only [Act.put, List.setIfInBounds_toArray, List.set_cons_zero, List.set_cons_succ, i64_w, i32_w]
            rfl
          refine one_ (i := 19) (N := some 117) #[true, true, true, true, true, true, true, true, true, true, true, true, true, true, true, true, true, true, true, true, false, false] rfl rfl (one_of HT_.out (by kernel_rfl)) (by decide) (fun K hK => ?_)
          refine goes_ Try.func16 (by kernel_rfl) rfl #[] (by rfl) rfl rfl (by simp only [List.map_toArray, List.map_nil]) ?_
          refine (emenderlaw08_awake.calls k true _ HAW.out).mono ?_
          rintro e w9 ⟨rfl, hb⟩
          refine ⟨_, rfl, ?_⟩
          have HB9 := Aside0.mk (below_step J6.out.below hb)
          have keep : ∀ (ad : Addr) (u : Value), w7.cell? ad = some u → w9.cell? ad = some u := fun ad u s => (hb.cell (World.block_lt_of_cell? w7 _ s)).trans s
          refine hK.out _ _ ⟨keep _ _ hHeld.1, keep _ _ hHeld.2.1, keep _ _ hHeld.2.2.1, keep _ _ hHeld.2.2.2.1, keep _ _ hHeld.2.2.2.2.1, keep _ _ hHeld.2.2.2.2.2.1, keep _ _ hHeld.2.2.2.2.2.2.1, keep _ _ hHeld.2.2.2.2.2.2.2.1, keep _ _ hHeld.2.2.2.2.2.2.2.2⟩ (fun hHeld => ?_)
          clear hK K keep hb J6
          refine norm_ (a' := ?_) ?_ ?_
          rotate_left
          · show Act.put _ (some 117) _ = _
            simp only [Act.put, List.setIfInBounds_toArray, List.set_cons_zero, List.set_cons_succ, i64_w, i32_w]
            rfl
          refine pure_ (i := 20) (N := some 118) (v := ?_) (a' := ?_) #[true, true, true, true, true, true, true, true, true, true, true, true, true, true, true, true, true, true, true, true, true, false] rfl rfl (any_of HT_.out (by kernel_rfl)) (fun _ _ _ h => h) (Or.inl ⟨by rfl, ?_⟩) ?_ ?_
          rotate_left
          · intro w'
            go_simp
            with_reducible rfl
          rotate_left
          · simp only [Act.put, List.setIfInBounds_toArray, List.set_cons_zero, List.set_cons_succ, i64_w, i32_w]
            rfl
          refine pure_ (i := 21) (N := some 10) (v := ?_) (a' := ?_) #[true, true, true, true, true, true, true, true, true, true, true, true, true, true, true, true, true, true, true, true, true, true] rfl rfl (any_of HT_.out (by kernel_rfl)) (fun _ _ _ h => h) (Or.inl ⟨by rfl, ?_⟩) ?_ ?_
          rotate_left
          · intro w'
            go_simp
            with_reducible rfl
          rotate_left
          · simp only [Act.put, List.setIfInBounds_toArray, List.set_cons_zero, List.set_cons_succ, i64_w, i32_w]
            rfl
          refine done_ (done_of HT_.out (by kernel_rfl)) ?_
          go_wp2
          go_ret
          exact ⟨rfl, HB9.out⟩

end Go.Proofs.Ytcoolajjjnkfpaa.PPd
