-- Written for this claim by a program (the kit's print, with hand-made contracts for what it does not take).
import Derived.Test.YtfnafjohfmlniaaDoorPCrx0
import Derived.Test.YtfnafjohfmlniaaDoorPCrx1
namespace Go.Proofs.YtfnafjohfmlniaaDoor.PCr
open Go.RowKit Go.Proofs.YtfnafjohfmlniaaDoorW.PrintWords Go.Proofs.YtfnafjohfmlniaaDoorW.PrintLast Go.Proofs.YtfnafjohfmlniaaDoorW.PrintMore
attribute [local go_sem] max2_int min2_int max_two min_two max_three min_three max_four min_four   -- for this text's walks alone
set_option linter.unusedVariables false
set_option linter.unusedSimpArgs false

/-! ### common_line_plain: function 29 -/
/-! ### Code points are put with a mark -/
def common_cut (p : List S79) (i j : Int) : List S79 := (p.take j.toNat).drop i.toNat
def common_plain.one (m : Int) (x : S79) : Prt := ⟨⟨0, 0, x.f0, m⟩, none, 0, false⟩
def common_plain.f (p : List S79) (i j m : Int) : List Prt := (common_cut p i j).map (common_plain.one m)
theorem common_cut_length (p : List S79) (i j : Int) (hj : j ≤ (p.length : Int)) : (common_cut p i j).length = j.toNat - i.toNat := by
  unfold common_cut
  rw [List.length_drop, List.length_take]
  omega
theorem common_cut_mem {p : List S79} {i j : Int} {x : S79} (h : x ∈ common_cut p i j) : x ∈ p := List.mem_of_mem_take (List.mem_of_mem_drop h)
theorem common_take_succ {α β : Type} (f : α → β) (l : List α) (z : α) (k : Nat) (h : k < l.length) : (l.take (k + 1)).map f = (l.take k).map f ++ [f (l.getD k z)] := by
  rw [List.take_add_one, List.map_append, List.getD_eq_getElem?_getD, List.getElem?_eq_getElem h]
  rfl
theorem common_getD_mem {α : Type} (l : List α) (z : α) (k : Nat) (h : k < l.length) : l.getD k z ∈ l := by
  rw [List.getD_eq_getElem?_getD, List.getElem?_eq_getElem h]
  exact List.getElem_mem _
def common_plain.T3 : Bool × List (List Nat × List Nat) := (true, [([], []), ([], []), ([1], [1]), ([2], [2]), ([3], [3]), ([], []), ([5], [5]), ([6], [6]), ([], []), ([7, 8], [7, 8]), ([9], [9]), ([10], [10]), ([4, 11], [4, 11]), ([0, 0, 1, 2, 3, 4, 5, 6, 7, 8, 9, 10, 11, 12], [0]), ([13, 0, 1, 2, 3, 4, 5, 6, 7, 8, 9, 10, 11, 12], [13]), ([14, 12, 12, 0, 1, 2, 3, 4, 5, 6, 7, 8, 9, 10, 11, 12], [12, 14])])
def common_plain.B3 : List Nat := [0, 0, 2, 6, 14, 0, 32, 96, 0, 480, 992, 2016, 4094, 8191, 16383, 32767]
theorem common_plain.tab3 : rtab .any (opsOf Tryd.f29 3) = common_plain.T3 := by kernel_rfl
theorem common_plain.bits3 : waitsOk common_plain.T3.2 common_plain.B3 = true := by kernel_rfl
set_option maxRecDepth 100000 in
set_option maxHeartbeats 8000000 in
theorem common_plain.calls (B b : Nat) (A : Option Addr) (c : Nat) (p : List S79) (out : List Prt) (i j m : Int) (w0 w : World) (h : common_L B b A c p out w) (hB : Below B w0 w) (hp : p.length ≤ 4000) (hc : ∀ x ∈ p, 0 ≤ x.f0 ∧ x.f0 ≤ 1114111) (ho : out.length ≤ 4000000) (h0 : 0 ≤ i) (hij : i ≤ j) (hj : j ≤ (p.length : Int)) :
    Calls Tryd.prog 29 #[.pointer (some ⟨b, 0, none⟩), .int .i64 i, .int .i64 j, .int .i64 m] w fun e w' => e = .returned (.tuple #[]) ∧ common_L B b A c p (out ++ common_plain.f p i j m) w' ∧ Below B w0 w' := by
  have hu54 := Tryd.underlying54
  have hu79 := Tryd.underlying79
  have hu57 := Tryd.underlying57
  have hu43 := Tryd.underlying43
  have HL := Aside0.mk h
  have HB := Aside0.mk hB
  have HN := Aside0.mk (And.intro hp (And.intro h0 (And.intro hij (And.intro hj ho))))
  have HC := Aside0.mk hc
  obtain ⟨Ao, co, h1, h2, h3, h4⟩ := h.open
  have s0 : w.cell? ⟨b, 0, none⟩ = some (.slice A p.length c) := (blk_cell h1 0).trans rfl
  have hcap := (Kd.R_reads' h2).2.1
  obtain ⟨i0_, hi0_, _, hsz_, _⟩ := info_parts info79
  have hcut := cut_mid (P := Tryd.prog) 48 79 .i64 .i64 Tryd.underlying48 hi0_ 2 hsz_ A p.length c i j h0 hij hj hcap
  obtain ⟨A1, hA1⟩ : ∃ A1, A1 = (if c = i.toNat then A else A.map (·.add (i.toNat * 2))) := ⟨_, rfl⟩
  obtain ⟨c1, hc1⟩ : ∃ c1, c1 = c - i.toNat := ⟨_, rfl⟩
  have hy := common_cut_length p i j hj
  rw [← hA1, ← hc1, ← hy] at hcut
  have SEE : Aside0 (∀ W : World, Kd.C k79 W A p.length p → Kd.C k79 W A1 (common_cut p i j).length (common_cut p i j)) := ⟨fun W hW => by
    rw [hA1]
    exact Kd.C_mid (lo := i.toNat) (hi := j.toNat) hW (by omega) (by omega) hcap⟩
  have PF := Aside0.mk (show common_plain.f p i j m = (common_cut p i j).map (common_plain.one m) from rfl)
  have YM := Aside0.mk (fun x hx => hc x (common_cut_mem (i := i) (j := j) hx))
  have YL := Aside0.mk (show (common_cut p i j).length ≤ 4000 from by omega)
  rw [PF.out]
  clear h hB hp h0 hij hj h1 h2 h3 h4 ho hc hi0_ hsz_ hA1 hc1 hy PF
  generalize common_cut p i j = ys at *
  go_enter Tryd.func29, Tryd.ntmps29
  go_wp2
  go_loopg [18] ys.length (fun kq v18 w' => ∃ k : Nat, v18 = .int .i64 (k : Int) ∧ Aside0 (k + kq = ys.length ∧ common_L B b A c p (out ++ (ys.take k).map (common_plain.one m)) w' ∧ Below B w0 w'))
  case atStart => exact ⟨0, rfl, ⟨by omega, by rw [List.take_zero, List.map_nil, List.append_nil]; exact HL.out, HB.out⟩⟩
  case round =>
    clear HL HB s0 hcap
    obtain ⟨k, rfl, HI⟩ := hrel
    by_cases c5 : (k : Int) < (ys.length : Int)
    · have c5b : decide ((k : Int) < (ys.length : Int)) = true := decide_eq_true c5
      have c5t := eq_true c5
      have k0t := eq_true (show (0 : Int) ≤ (k : Int) by omega)
      obtain ⟨Ao, co, h1, h2, h3, h4⟩ := HI.out.2.1.open
      obtain ⟨ad, eA, x0, x1⟩ := at_T79 (SEE.out _ (Kd.R_reads' h2).2.2) (k : Int) (by omega) c5
      subst eA
      rw [Int.toNat_natCast] at x0 x1
      have hmem := YM.out _ (common_getD_mem ys ⟨0, 0⟩ k (by omega))
      have EX : Aside0 (rd_T79 ys (k : Int) = ys.getD k ⟨0, 0⟩) := ⟨rfl⟩
      obtain ⟨q, hq⟩ : ∃ q, q = rd_T79 ys (k : Int) := ⟨_, rfl⟩
      rw [← hq] at x0 x1
      have EQ := Aside0.mk (hq.trans EX.out)
      rw [← EQ.out] at hmem
      have hw1 : wrap64 q.f0 = q.f0 := by unfold wrap64; omega
      have hw2 : IntKind.i64.wrap q.f0 = q.f0 := (i64_w _).trans hw1
      have hw3 : wrap64 ((k : Int) + 1) = ((k + 1 : Nat) : Int) := by have := YL.out; unfold wrap64; omega
      clear hq EX hmem
      have H1 := Aside0.mk (blk_alloc h1 (.cells #[.int .i32 q.f0, .int .i64 q.f1] 79))
      have H2 := Aside0.mk (Kd.R_alloc h2 (.cells #[.int .i32 q.f0, .int .i64 q.f1] 79))
      have H3 := Aside0.mk (Kd.R_alloc h3 (.cells #[.int .i32 q.f0, .int .i64 q.f1] 79))
      have HB := Aside0.mk (HI.out.2.2.alloc (Nat.le_of_lt (Nat.lt_of_le_of_lt h4 (blk_lt h1))) (.cells #[.int .i32 q.f0, .int .i64 q.f1] 79))
      have z0 : (wr.alloc (.cells #[.int .i32 q.f0, .int .i64 q.f1] 79)).cell? ⟨wr.heap.size, 0, none⟩ = some (.int .i32 q.f0) := (blk_cell (blk_new wr (.cells #[.int .i32 q.f0, .int .i64 q.f1] 79)) 0).trans rfl
      have s1 : (wr.alloc (.cells #[.int .i32 q.f0, .int .i64 q.f1] 79)).cell? ⟨b, 1, none⟩ = some (.slice Ao (out ++ (ys.take k).map (common_plain.one m)).length co) := (blk_cell H1.out 1).trans rfl
      have HB4 := Aside0.mk h4
      have HO : Aside0 ((out ++ (ys.take k).map (common_plain.one m)).length ≤ 4100000) := ⟨by have := HN.out; have := YL.out; rw [List.length_append, List.length_map, List.length_take]; omega⟩
      have NX := Aside0.mk (show out ++ (ys.take k).map (common_plain.one m) ++ [common_plain.one m q] = out ++ (ys.take (k + 1)).map (common_plain.one m) from by rw [common_take_succ _ ys ⟨0, 0⟩ k (by omega), ← EQ.out, List.append_assoc])
      have NK := Aside0.mk (And.intro HI.out.1 c5)
      clear h1 h2 h3 h4 HI c5 EQ
      generalize out ++ (ys.take k).map (common_plain.one m) = o1 at *
      obtain ⟨no, hno⟩ : ∃ n, n = o1.length := ⟨_, rfl⟩
      rw [← hno] at s1 H1 H3
      clear hno
      go_wp2
      refine start_ (n := 16) (S := fun w' => w'.cell? ⟨b, 1, none⟩ = some (.slice Ao no co) ∧ w'.cell? ⟨wr.heap.size, 0, none⟩ = some (.int .i32 q.f0)) (ds := [12, 15]) #[Ff,Ff,Ff,Ff,Ff,Ff,Ff,Ff,Ff,Ff,Ff,Ff,Ff,Ff,Ff,Ff] (by kernel_rfl) rfl rfl ⟨s1, z0⟩ (fun hHeld => ?_)
      refine with_tabW common_plain.tab3 common_plain.bits3 (fun HT_ HW_ => ?_)
      have BO := Aside0.mk (blk_drew H1.out)
      have RP := Aside0.mk (Kd.R_drew H2.out)
      have RO := Aside0.mk (Kd.R_drew H3.out)
      have BL := Aside0.mk (show Below B w0 (wr.alloc (.cells #[.int .i32 q.f0, .int .i64 q.f1] 79)).drew from Below.drew HB.out)
      have BS := Aside0.mk (Nat.le_of_lt (Nat.lt_of_le_of_lt HB4.out (blk_lt BO.out)))
      clear H1 H2 H3 HB s1 z0
      generalize (wr.alloc (.cells #[.int .i32 q.f0, .int .i64 q.f1] 79)).drew = w13 at *
      refine pure_ (i := 0) (N := some 22) (v := ?_) (a' := ?_) #[Tt,Ff,Ff,Ff,Ff,Ff,Ff,Ff,Ff,Ff,Ff,Ff,Ff,Ff,Ff,Ff] rfl rfl (any_of HT_.out (by kernel_rfl)) (fun _ _ _ h => h) (Or.inl ⟨by rfl, ?_⟩) ?_ ?_;rotate_left;(intro w';go_simp;with_reducible rfl);rotate_left;(simp only [Act.put, List.setIfInBounds_toArray, List.set_cons_zero, List.set_cons_succ, i64_w, i32_w];rfl)
      refine pure_ (i := 1) (N := some 23) (v := ?_) (a' := ?_) #[Tt,Tt,Ff,Ff,Ff,Ff,Ff,Ff,Ff,Ff,Ff,Ff,Ff,Ff,Ff,Ff] rfl rfl (any_of HT_.out (by kernel_rfl)) (fun _ _ _ h => h) (Or.inl ⟨by rfl, ?_⟩) ?_ ?_;rotate_left;(intro w';go_simp;with_reducible rfl);rotate_left;(simp only [Act.put, List.setIfInBounds_toArray, List.set_cons_zero, List.set_cons_succ, i64_w, i32_w];rfl)
      refine pure_ (i := 2) (N := some 24) (v := ?_) (a' := ?_) #[Tt,Tt,Tt,Ff,Ff,Ff,Ff,Ff,Ff,Ff,Ff,Ff,Ff,Ff,Ff,Ff] rfl rfl (any_of HT_.out (by kernel_rfl)) (fun _ _ _ h => h) (Or.inl ⟨by rfl, ?_⟩) ?_ ?_;rotate_left;(intro w';go_simp;with_reducible rfl);rotate_left;(simp only [Act.put, List.setIfInBounds_toArray, List.set_cons_zero, List.set_cons_succ, i64_w, i32_w];rfl)
      refine pure_ (i := 3) (N := some 25) (v := ?_) (a' := ?_) #[Tt,Tt,Tt,Tt,Ff,Ff,Ff,Ff,Ff,Ff,Ff,Ff,Ff,Ff,Ff,Ff] rfl rfl (any_of HT_.out (by kernel_rfl)) (fun _ _ _ h => h) (Or.inl ⟨by rfl, ?_⟩) ?_ ?_;rotate_left;(intro w';go_simp;with_reducible rfl);rotate_left;(simp only [Act.put, List.setIfInBounds_toArray, List.set_cons_zero, List.set_cons_succ, i64_w, i32_w];rfl)
      refine take_ (i := 4) (N := some 26) (v := ?_) (a' := ?_) #[Tt,Tt,Tt,Tt,Tt,Ff,Ff,Ff,Ff,Ff,Ff,Ff,Ff,Ff,Ff,Ff] rfl rfl (take_ofW HT_.out HW_.out (by kernel_rfl)) (fun _ _ _ h => h) (Or.inl ⟨by rfl, ?_⟩) hHeld ?_ ?_;rotate_left;(rintro w' ⟨s0, s1⟩;go_simp;with_reducible rfl);rotate_left;(simp only [Act.put, List.setIfInBounds_toArray, List.set_cons_zero, List.set_cons_succ, i64_w, i32_w];rfl)
      refine pure_ (i := 5) (N := some 27) (v := ?_) (a' := ?_) #[Tt,Tt,Tt,Tt,Tt,Tt,Ff,Ff,Ff,Ff,Ff,Ff,Ff,Ff,Ff,Ff] rfl rfl (any_of HT_.out (by kernel_rfl)) (fun _ _ _ h => h) (Or.inl ⟨by rfl, ?_⟩) ?_ ?_;rotate_left;(intro w';go_simp;with_reducible rfl);rotate_left;(simp only [Act.put, List.setIfInBounds_toArray, List.set_cons_zero, List.set_cons_succ, i64_w, i32_w];rfl)
      refine take_ (i := 6) (N := some 28) (v := ?_) (a' := ?_) #[Tt,Tt,Tt,Tt,Tt,Tt,Tt,Ff,Ff,Ff,Ff,Ff,Ff,Ff,Ff,Ff] rfl rfl (take_ofW HT_.out HW_.out (by kernel_rfl)) (fun _ _ _ h => h) (Or.inl ⟨by rfl, ?_⟩) hHeld ?_ ?_;rotate_left;(rintro w' ⟨s0, s1⟩;go_simp;with_reducible rfl);rotate_left;(simp only [Act.put, List.setIfInBounds_toArray, List.set_cons_zero, List.set_cons_succ, i64_w, i32_w];rfl)
      refine pure_ (i := 7) (N := some 29) (v := ?_) (a' := ?_) #[Tt,Tt,Tt,Tt,Tt,Tt,Tt,Tt,Ff,Ff,Ff,Ff,Ff,Ff,Ff,Ff] rfl rfl (any_of HT_.out (by kernel_rfl)) (fun _ _ _ h => h) (Or.inl ⟨by rfl, ?_⟩) ?_ ?_;rotate_left;(intro w';go_simp;with_reducible rfl);rotate_left;(simp only [Act.put, List.setIfInBounds_toArray, List.set_cons_zero, List.set_cons_succ, i64_w, i32_w];rfl)
      refine pure_ (i := 8) (N := some 30) (v := ?_) (a' := ?_) #[Tt,Tt,Tt,Tt,Tt,Tt,Tt,Tt,Tt,Ff,Ff,Ff,Ff,Ff,Ff,Ff] rfl rfl (any_of HT_.out (by kernel_rfl)) (fun _ _ _ h => h) (Or.inl ⟨by rfl, ?_⟩) ?_ ?_;rotate_left;(intro w';go_simp;with_reducible rfl);rotate_left;(simp only [Act.put, List.setIfInBounds_toArray, List.set_cons_zero, List.set_cons_succ, i64_w, i32_w];rfl)
      refine pure_ (i := 9) (N := some 31) (v := ?_) (a' := ?_) #[Tt,Tt,Tt,Tt,Tt,Tt,Tt,Tt,Tt,Tt,Ff,Ff,Ff,Ff,Ff,Ff] rfl rfl (any_of HT_.out (by kernel_rfl)) (fun _ _ _ h => h) (Or.inl ⟨by rfl, ?_⟩) ?_ ?_;rotate_left;(intro w';go_simp;with_reducible rfl);rotate_left;(simp only [Act.put, List.setIfInBounds_toArray, List.set_cons_zero, List.set_cons_succ, i64_w, i32_w];rfl)
      refine pure_ (i := 10) (N := some 32) (v := ?_) (a' := ?_) #[Tt,Tt,Tt,Tt,Tt,Tt,Tt,Tt,Tt,Tt,Tt,Ff,Ff,Ff,Ff,Ff] rfl rfl (any_of HT_.out (by kernel_rfl)) (fun _ _ _ h => h) (Or.inl ⟨by rfl, ?_⟩) ?_ ?_;rotate_left;(intro w';go_simp;with_reducible rfl);rotate_left;(simp only [Act.put, List.setIfInBounds_toArray, List.set_cons_zero, List.set_cons_succ, i64_w, i32_w];rfl)
      refine one_ (i := 11) (N := some 33) #[Tt,Tt,Tt,Tt,Tt,Tt,Tt,Tt,Tt,Tt,Tt,Tt,Ff,Ff,Ff,Ff] rfl rfl (one_of HT_.out (by kernel_rfl)) (by decide) (fun K hK => ?_)
      refine value_ (w1 := ?_) (v := ?_) (by rfl) rfl ?_ ?_
      rotate_left 2
      · go_simp
        constructor
        · rfl
        · rfl
      refine hK.out _ _ ⟨cell_grown (World.grownBy_alloc w13 (.cells #[.int .i64 0, .int .i64 0, .int .i64 q.f0, .int .i64 m, .pointer none, .int .i64 0, .bool false] 57 (0, 0)) none) hHeld.1 (by simp), cell_grown (World.grownBy_alloc w13 (.cells #[.int .i64 0, .int .i64 0, .int .i64 q.f0, .int .i64 m, .pointer none, .int .i64 0, .bool false] 57 (0, 0)) none) hHeld.2 (by simp)⟩ (fun hHeld => ?_)
      clear hK K
      refine norm_ (a' := ?_) ?_ ?_
      rotate_left
      · show Act.put _ (some 33) _ = _
        simp only [Act.put, List.setIfInBounds_toArray, List.set_cons_zero, List.set_cons_succ, i64_w, i32_w]
        rfl
      refine last_ (i := 12) (N := some 34) #[Tt,Tt,Tt,Tt,Tt,Tt,Tt,Tt,Tt,Tt,Tt,Tt,Tt,Ff,Ff,Ff] rfl rfl (one_of HT_.out (by kernel_rfl)) (by decide) (fun K hK => ?_)
      refine Kd.R_append_step kPrt (w0 := w0) B (by rfl) (.tmp 26) (.tmp 33) 52 57 (.agg #[.int .i64 0, .int .i64 0, .int .i64 0, .int .i64 0, .pointer none, .int .i64 0, .bool false]) 56 rfl Tryd.underlying52 info57 rfl (by decide) (by omega) (.slice Ao no co) o1 (common_plain.one m q) [.int .i64 0, .int .i64 0, .int .i64 q.f0, .int .i64 m, .pointer none, .int .i64 0, .bool false] (fun _ => True) (fun _ => False) rfl rfl (kPrt_mkM (common_plain.one m q) rfl) (fun _ hk => hk.elim) (fun _ _ => trivial) RO.out BL.out BS.out (by have := HO.out; omega) ?_
      intro v1 w9 hR1 hb9 hg1 hat1
      obtain ⟨av_, cv_, hv1_⟩ := Kd.R_slice hR1
      obtain ⟨nv_, hnv_⟩ : ∃ nn_, nn_ = (o1 ++ [(common_plain.one m q)]).length := ⟨_, rfl⟩
      rw [← hnv_] at hv1_
      subst hv1_
      have R9 := Aside0.mk hR1
      have B9 := Aside0.mk hb9
      have O9 := Aside0.mk (blk_grown BO.out hg1 (Kd.R_ne RO.out BO.out (by decide)))
      have P9 := Aside0.mk (Kd.R_mono (Kd.R_grown (Kd.R_bound RP.out) hg1 (fun k hk => by obtain ⟨_, _, _, q_, hq_, cs_, hc_⟩ := hk; exact Kd.R_ne RO.out hc_ (by rintro rfl; revert hq_; decide))) (fun _ hk => hk.1))
      clear hR1 hb9 hg1 hat1 hnv_
      have hco : w9.cell? ⟨b, 1, none⟩ = some (.slice Ao no co) := (blk_cell O9.out 1).trans rfl
      have hfo := blk_frozen O9.out 1
      refine hK.out _ _ ?_
      clear hK K
      refine norm_ (a' := ?_) ?_ ?_
      rotate_left
      · show Act.put _ (some 34) _ = _
        simp only [Act.put, List.setIfInBounds_toArray, List.set_cons_zero, List.set_cons_succ, i64_w, i32_w]
        rfl
      refine pure_ (i := 13) (N := some 35) (v := ?_) (a' := ?_) #[Tt,Tt,Tt,Tt,Tt,Tt,Tt,Tt,Tt,Tt,Tt,Tt,Tt,Tt,Ff,Ff] rfl rfl (any_of HT_.out (by kernel_rfl)) (fun _ _ _ h => h) (Or.inl ⟨by rfl, ?_⟩) ?_ ?_;rotate_left;(intro w';go_simp;with_reducible rfl);rotate_left;(simp only [Act.put, List.setIfInBounds_toArray, List.set_cons_zero, List.set_cons_succ, i64_w, i32_w];rfl)
      refine pure_ (i := 14) (N := some 36) (v := ?_) (a' := ?_) #[Tt,Tt,Tt,Tt,Tt,Tt,Tt,Tt,Tt,Tt,Tt,Tt,Tt,Tt,Tt,Ff] rfl rfl (any_of HT_.out (by kernel_rfl)) (fun _ _ _ h => h) (Or.inl ⟨by rfl, ?_⟩) ?_ ?_;rotate_left;(intro w';go_simp;with_reducible rfl);rotate_left;(simp only [Act.put, List.setIfInBounds_toArray, List.set_cons_zero, List.set_cons_succ, i64_w, i32_w];rfl)
      refine last_ (i := 15) (N := none) #[Tt,Tt,Tt,Tt,Tt,Tt,Tt,Tt,Tt,Tt,Tt,Tt,Tt,Tt,Tt,Tt] rfl rfl (one_of HT_.out (by kernel_rfl)) (by decide) (fun K hK => ?_)
      refine skip_ (w1 := ?_) (by rfl) rfl ?_ ?_
      rotate_left
      · go_simp
        rfl
      refine hK.out _ _ ?_
      clear hK K
      refine done_ (done_of HT_.out (by kernel_rfl)) ?_
      go_wp2
      go_roundg (gk - 1)
      case measure => have := NK.out; omega
      case rel => exact ⟨k + 1, by rw [hw3], ⟨by have := NK.out; omega, by rw [← NX.out]; exact ⟨⟨_, (blk_set O9.out 1 _).trans rfl, Kd.R_set P9.out O9.out (by decide) 1 _, Kd.R_set R9.out O9.out (by decide) 1 _⟩, HB4.out⟩, B9.out.setCell HB4.out _⟩⟩
    · have c5b : decide ((k : Int) < (ys.length : Int)) = false := decide_eq_false c5
      go_wp2
      go_end0
      have e : (ys.take k) = ys := List.take_of_length_le (by omega)
      have hI := HI.out.2
      rw [e] at hI
      exact ⟨rfl, hI⟩

/-! ### common_line_code: function 30 -/
/-! ### Code between its fences -/
def common_code.other (ys : List S79) : Bool := ys.any (fun x => x.f0 != 32)
def common_code.bare (p : List S79) (i j : Int) : Bool := decide (1 < j - i) && (common_code.other (common_cut p i j) && (((rd_T79 p i).f0 == 32) && ((rd_T79 p (j - 1)).f0 == 32)))
def common_code.f (p : List S79) (i j : Int) : List Prt := if common_code.bare p i j = true then common_plain.f p (i + 1) (j - 1) 4 else common_plain.f p i j 4
set_option maxRecDepth 100000 in
set_option maxHeartbeats 8000000 in
theorem common_code.calls (B b : Nat) (A : Option Addr) (c : Nat) (p : List S79) (out : List Prt) (i j : Int) (w0 w : World) (h : common_L B b A c p out w) (hB : Below B w0 w) (hp : p.length ≤ 4000) (hc : ∀ x ∈ p, 0 ≤ x.f0 ∧ x.f0 ≤ 1114111) (ho : out.length ≤ 4000000) (h0 : 0 ≤ i) (hij : i ≤ j) (hj : j ≤ (p.length : Int)) :
    Calls Tryd.prog 30 #[.pointer (some ⟨b, 0, none⟩), .int .i64 i, .int .i64 j] w fun e w' => e = .returned (.tuple #[]) ∧ common_L B b A c p (out ++ common_code.f p i j) w' ∧ Below B w0 w' := by
  have hu54 := Tryd.underlying54
  have hu79 := Tryd.underlying79
  have HL := Aside0.mk h
  have HB := Aside0.mk hB
  have HN := Aside0.mk (And.intro hp (And.intro h0 (And.intro hij (And.intro hj ho))))
  have HC := Aside0.mk hc
  obtain ⟨Ao, co, h1, h2, h3, h4⟩ := h.open
  have s0 : w.cell? ⟨b, 0, none⟩ = some (.slice A p.length c) := (blk_cell h1 0).trans rfl
  have hcap := (Kd.R_reads' h2).2.1
  obtain ⟨i0_, hi0_, _, hsz_, _⟩ := info_parts info79
  have hcut := cut_mid (P := Tryd.prog) 48 79 .i64 .i64 Tryd.underlying48 hi0_ 2 hsz_ A p.length c i j h0 hij hj hcap
  obtain ⟨A1, hA1⟩ : ∃ A1, A1 = (if c = i.toNat then A else A.map (·.add (i.toNat * 2))) := ⟨_, rfl⟩
  obtain ⟨c1, hc1⟩ : ∃ c1, c1 = c - i.toNat := ⟨_, rfl⟩
  have hy := common_cut_length p i j hj
  rw [← hA1, ← hc1, ← hy] at hcut
  have SEE : Aside0 (∀ W : World, Kd.C k79 W A p.length p → Kd.C k79 W A1 (common_cut p i j).length (common_cut p i j)) := ⟨fun W hW => by
    rw [hA1]
    exact Kd.C_mid (lo := i.toNat) (hi := j.toNat) hW (by omega) (by omega) hcap⟩
  have PF := Aside0.mk (show common_code.bare p i j = (decide (1 < j - i) && (common_code.other (common_cut p i j) && (((rd_T79 p i).f0 == 32) && ((rd_T79 p (j - 1)).f0 == 32)))) from rfl)
  have YL := Aside0.mk (show (common_cut p i j).length ≤ 4000 from by omega)
  clear h hB hp h0 hij hj h1 h2 h3 h4 ho hc hi0_ hsz_ hA1 hc1 hy
  generalize common_cut p i j = ys at *
  go_enter Tryd.func30, Tryd.ntmps30
  go_wp2
  go_loopg [6, 17] ys.length (fun kq v6 v17 w' => ∃ k : Nat, v17 = .int .i64 (k : Int) ∧ v6 = .bool (common_code.other (ys.take k)) ∧ Aside0 (k + kq = ys.length ∧ Below w.heap.size w w'))
  case atStart => exact ⟨0, rfl, by rw [List.take_zero]; rfl, ⟨by omega, Below.refl _ _⟩⟩
  case round =>
    obtain ⟨k, rfl, rfl, HI⟩ := hrel
    by_cases c5 : (k : Int) < (ys.length : Int)
    · have c5b : decide ((k : Int) < (ys.length : Int)) = true := decide_eq_true c5
      have c5t := eq_true c5
      have k0t := eq_true (show (0 : Int) ≤ (k : Int) by omega)
      obtain ⟨Ao, co, h1, h2, h3, h4⟩ := (HL.out.below HI.out.2).open
      obtain ⟨ad, eA, x0, x1⟩ := at_T79 (SEE.out _ (Kd.R_reads' h2).2.2) (k : Int) (by omega) c5
      subst eA
      rw [Int.toNat_natCast] at x0 x1
      have EX : Aside0 (rd_T79 ys (k : Int) = ys.getD k ⟨0, 0⟩) := ⟨rfl⟩
      obtain ⟨q, hq⟩ : ∃ q, q = rd_T79 ys (k : Int) := ⟨_, rfl⟩
      rw [← hq] at x0 x1
      have EQ := Aside0.mk (hq.trans EX.out)
      have hw3 : wrap64 ((k : Int) + 1) = ((k + 1 : Nat) : Int) := by have := YL.out; unfold wrap64; omega
      have z0 : (wr.alloc (.cells #[.int .i32 q.f0, .int .i64 q.f1] 79)).cell? ⟨wr.heap.size, 0, none⟩ = some (.int .i32 q.f0) := (blk_cell (blk_new wr (.cells #[.int .i32 q.f0, .int .i64 q.f1] 79)) 0).trans rfl
      have NX := Aside0.mk (show common_code.other (ys.take (k + 1)) = (common_code.other (ys.take k) || (q.f0 != 32)) from by
        unfold common_code.other
        rw [List.take_add_one, List.any_append, EQ.out, List.getD_eq_getElem?_getD, List.getElem?_eq_getElem (show k < ys.length by omega)]
        simp)
      have HB2 := Aside0.mk (below_alloc HI.out.2 (.cells #[.int .i32 q.f0, .int .i64 q.f1] 79))
      have NK := Aside0.mk (And.intro HI.out.1 c5)
      clear h1 h2 h3 h4 hq EX EQ HI c5 s0
      generalize common_code.other (ys.take k) = ot at *
      cases ot with
      | true =>
        go_wp2
        go_roundg (gk - 1)
        case measure => have := NK.out; omega
        case rel => exact ⟨k + 1, by rw [hw3], by rw [NX.out, Bool.true_or], ⟨by have := NK.out; omega, HB2.out⟩⟩
      | false =>
        go_wp2
        go_roundg (gk - 1)
        case measure => have := NK.out; omega
        case rel => exact ⟨k + 1, by rw [hw3], by rw [NX.out, Bool.false_or], ⟨by have := NK.out; omega, HB2.out⟩⟩
    · have c5b : decide ((k : Int) < (ys.length : Int)) = false := decide_eq_false c5
      have e : (ys.take k) = ys := List.take_of_length_le (by omega)
      rw [e]
      have HL2 := Aside0.mk (HL.out.below HI.out.2)
      have HB2 := Aside0.mk (show Below B w0 wr from HB.out.trans (HI.out.2.mono (by have := HL.out.base; obtain ⟨_, h1, _⟩ := HL.out.ex; exact Nat.le_of_lt (Nat.lt_of_le_of_lt this (blk_lt h1)))))
      clear HL HB HI e s0
      have hwa : wrap64 (j - i) = j - i := by have := HN.out; unfold wrap64; omega
      have hwb : wrap64 (i + 1) = i + 1 := by have := HN.out; unfold wrap64; omega
      obtain ⟨jm, hjm⟩ : ∃ x, x = j - 1 := ⟨_, rfl⟩
      have hwc : wrap64 (j - 1) = jm := by have := HN.out; unfold wrap64; omega
      have JM := Aside0.mk hjm
      have PF2 := Aside0.mk PF.out
      rw [← hjm] at PF2
      have CF : Aside0 (common_code.f p i j = if common_code.bare p i j = true then common_plain.f p (i + 1) jm 4 else common_plain.f p i j 4) := ⟨by rw [JM.out]; rfl⟩
      clear hjm PF
      have LEN := Aside0.mk (show ys.length ≤ 4000 from YL.out)
      generalize common_code.other ys = ot at *
      by_cases d1 : 1 < j - i
      · have d1b : decide (1 < j - i) = true := decide_eq_true d1
        have i0 : 0 ≤ i := HN.out.2.1
        have i1 : i < (p.length : Int) := by have := HN.out; omega
        have j0 : 0 ≤ jm := by have := JM.out; omega
        have j1 : jm < (p.length : Int) := by have := HN.out; have := JM.out; omega
        obtain ⟨Ao, co, h1, h2, h3, h4⟩ := HL2.out.open
        have s0 : wr.cell? ⟨b, 0, none⟩ = some (.slice A p.length c) := (blk_cell h1 0).trans rfl
        obtain ⟨ad, eA, x0, _⟩ := at_T79 (Kd.R_reads' h2).2.2 i i0 i1
        subst eA
        obtain ⟨ad_, eA, y0, _⟩ := at_T79 (Kd.R_reads' h2).2.2 jm j0 j1
        cases eA
        have i0t := eq_true i0
        have i1t := eq_true i1
        have j0t := eq_true j0
        have j1t := eq_true j1
        have D1 := Aside0.mk d1
        clear h1 h2 h3 h4 i0 i1 j0 j1 d1
        cases ot with
        | false =>
          have E := Aside0.mk (show common_code.f p i j = common_plain.f p i j 4 from CF.out.trans (if_neg (by rw [PF2.out]; simp)))
          go_wp2_with fail
          refine (common_plain.calls B b _ c p out i j 4 w0 _ HL2.out HB2.out HN.out.1 HC.out HN.out.2.2.2.2 HN.out.2.1 HN.out.2.2.1 HN.out.2.2.2.1).mono ?_
          rintro e w2 ⟨rfl, g1, g2⟩
          have G := Aside0.mk (And.intro g1 g2)
          clear g1 g2
          go_wp2
          go_end0
          exact ⟨rfl, by rw [E.out]; exact G.out⟩
        | true =>
          by_cases e1 : (rd_T79 p i).f0 = 32
          · have e1b : ((rd_T79 p i).f0 == 32) = true := beq_iff_eq.mpr e1
            by_cases e2 : (rd_T79 p jm).f0 = 32
            · have e2b : ((rd_T79 p jm).f0 == 32) = true := beq_iff_eq.mpr e2
              have E := Aside0.mk (show common_code.f p i j = common_plain.f p (i + 1) jm 4 from CF.out.trans (if_pos (by rw [PF2.out, d1b, e1b, e2b]; rfl)))
              clear e1 e2
              go_wp2_with fail
              refine (common_plain.calls B b _ c p out (i + 1) jm 4 w0 _ HL2.out HB2.out HN.out.1 HC.out HN.out.2.2.2.2 (by have := HN.out; omega) (by have := D1.out; have := JM.out; omega) (by have := HN.out; have := JM.out; omega)).mono ?_
              rintro e w2 ⟨rfl, g1, g2⟩
              have G := Aside0.mk (And.intro g1 g2)
              clear g1 g2
              go_wp2
              go_end0
              exact ⟨rfl, by rw [E.out]; exact G.out⟩
            · have e2b : ((rd_T79 p jm).f0 == 32) = false := beq_eq_false_iff_ne.mpr e2
              have E := Aside0.mk (show common_code.f p i j = common_plain.f p i j 4 from CF.out.trans (if_neg (by rw [PF2.out, e2b]; simp)))
              go_wp2_with fail
              refine (common_plain.calls B b _ c p out i j 4 w0 _ HL2.out HB2.out HN.out.1 HC.out HN.out.2.2.2.2 HN.out.2.1 HN.out.2.2.1 HN.out.2.2.2.1).mono ?_
              rintro e w2 ⟨rfl, g1, g2⟩
              have G := Aside0.mk (And.intro g1 g2)
              clear g1 g2
              go_wp2
              go_end0
              exact ⟨rfl, by rw [E.out]; exact G.out⟩
          · have e1b : ((rd_T79 p i).f0 == 32) = false := beq_eq_false_iff_ne.mpr e1
            have E := Aside0.mk (show common_code.f p i j = common_plain.f p i j 4 from CF.out.trans (if_neg (by rw [PF2.out, e1b]; simp)))
            go_wp2_with fail
            refine (common_plain.calls B b _ c p out i j 4 w0 _ HL2.out HB2.out HN.out.1 HC.out HN.out.2.2.2.2 HN.out.2.1 HN.out.2.2.1 HN.out.2.2.2.1).mono ?_
            rintro e w2 ⟨rfl, g1, g2⟩
            have G := Aside0.mk (And.intro g1 g2)
            clear g1 g2
            go_wp2
            go_end0
            exact ⟨rfl, by rw [E.out]; exact G.out⟩
      · have d1b : decide (1 < j - i) = false := decide_eq_false d1
        have E := Aside0.mk (show common_code.f p i j = common_plain.f p i j 4 from CF.out.trans (if_neg (by rw [PF2.out, d1b]; simp)))
        go_wp2_with fail
        refine (common_plain.calls B b _ c p out i j 4 w0 _ HL2.out HB2.out HN.out.1 HC.out HN.out.2.2.2.2 HN.out.2.1 HN.out.2.2.1 HN.out.2.2.2.1).mono ?_
        rintro e w2 ⟨rfl, g1, g2⟩
        have G := Aside0.mk (And.intro g1 g2)
        clear g1 g2
        go_wp2
        go_end0
        exact ⟨rfl, by rw [E.out]; exact G.out⟩

end Go.Proofs.YtfnafjohfmlniaaDoor.PCr
