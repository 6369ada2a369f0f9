-- Written for this claim by a program (the kit's print, with hand-made contracts for what it does not take).
import Derived.Test.YtfnafjohfmlniaaDoorPCrx0
import Derived.Test.YtfnafjohfmlniaaDoorPCrx1
import Derived.Test.YtfnafjohfmlniaaDoorPCrx7
import Derived.Test.YtfnafjohfmlniaaDoorPCrx8
namespace Go.Proofs.YtfnafjohfmlniaaDoor.PCr
open Go.RowKit Go.Proofs.YtfnafjohfmlniaaDoorW.PrintWords Go.Proofs.YtfnafjohfmlniaaDoorW.PrintLast Go.Proofs.YtfnafjohfmlniaaDoorW.PrintMore
attribute [local go_sem] max2_int min2_int max_two min_two max_three min_three max_four min_four   -- for this text's walks alone
set_option linter.unusedVariables false
set_option linter.unusedSimpArgs false

/-! ### common_line_pair: function 35 -/
/-! ### A pair of runs -/
def addM (x m : Int) : Int := if 0 ≤ x ∧ x ≤ 4 then (if x = 4 then 4 else Go.bits .or .i64 x m) else 0
theorem place_f (m : Int) (hm : m = 1 ∨ m = 2) : ∃ t, mark_place.f 6 m = some t ∧ t ≠ 3 := by
  unfold mark_place.f
  rcases hm with rfl | rfl
  · rw [mark_place.l0, if_pos (by decide), if_pos (by decide), if_pos (by rfl)]
    exact ⟨_, rfl, by decide⟩
  · rw [mark_place.l0, if_pos (by decide), if_pos (by decide), if_neg (by decide), show wrap64 (0 + 1) = 1 from by (unfold wrap64; omega), mark_place.l0, if_pos (by decide), if_pos (by decide), if_pos (by rfl)]
    exact ⟨_, rfl, by decide⟩
theorem addM_f (x m : Int) (hm : m = 1 ∨ m = 2) : ∃ e, mark_Add.f 6 x m = some (addM x m, e) := by
  obtain ⟨t, ht, h3⟩ := place_f m hm
  have m4 : m ≠ 4 := by rcases hm with rfl | rfl <;> decide
  unfold mark_Add.f mark_may.f mark_Right.f
  rw [ht, Option.bind_some, if_neg h3]
  by_cases h0 : 0 ≤ x
  · rw [if_pos (show x ≥ 0 from h0), Option.bind_some]
    by_cases h4 : x ≤ 4
    · have hA : addM x m = if x = 4 then 4 else Go.bits .or .i64 x m := if_pos ⟨h0, h4⟩
      rw [if_pos (by simpa using h4), Option.bind_some, if_pos rfl, hA]
      by_cases e : x = 4
      · rw [if_pos e, if_pos e]; exact ⟨_, rfl⟩
      · rw [if_neg e, if_neg e, if_neg m4]; exact ⟨_, rfl⟩
    · have hA : addM x m = 0 := if_neg (fun h => h4 h.2)
      rw [if_neg (by simpa using h4), Option.bind_some, if_neg (by decide), hA]; exact ⟨_, rfl⟩
  · have hA : addM x m = 0 := if_neg (fun h => h0 h.1)
    rw [if_neg (show ¬ x ≥ 0 from h0), Option.bind_some, if_neg (by decide), Option.bind_some, if_neg (by decide), hA]; exact ⟨_, rfl⟩
def prtMark (m : Int) (x : Prt) : Prt := ⟨⟨x.tok.f0, x.tok.f1, x.tok.f2, addM x.tok.f3 m⟩, x.run, x.left, true⟩
def prtLeft (n : Int) (x : Prt) : Prt := ⟨x.tok, x.run, x.left - n, x.passed⟩
/-- The mark on all from a place on (so many). -/
def common_pair.marks (m : Int) (out : List Prt) (i : Int) : Nat → List Prt
  | 0 => out
  | k + 1 => common_pair.marks m (out.set i.toNat (prtMark m (prtAt out i))) (i + 1) k
def common_pair.two (out : List Prt) (i j : Int) : Bool := decide (1 < (prtAt out i).left) && decide (1 < (prtAt out j).left)
def common_pair.take (n : Int) (out : List Prt) (i : Int) : List Prt := out.set i.toNat (prtLeft n (prtAt out i))
def common_pair.f (out : List Prt) (i j : Int) : List Prt :=
  if common_pair.two out i j = true then common_pair.take 2 (common_pair.take 2 (common_pair.marks 1 out (i + 1) (j - i - 1).toNat) i) j
  else common_pair.take 1 (common_pair.take 1 (common_pair.marks 2 out (i + 1) (j - i - 1).toNat) i) j
theorem common_pair.marks_len (m : Int) : ∀ (k : Nat) (out : List Prt) (i : Int), (common_pair.marks m out i k).length = out.length
  | 0, _, _ => rfl
  | k + 1, out, i => by rw [common_pair.marks, common_pair.marks_len m k, List.length_set]
theorem common_pair.len (out : List Prt) (i j : Int) : (common_pair.f out i j).length = out.length := by
  unfold common_pair.f common_pair.take
  split <;> simp only [List.length_set, common_pair.marks_len]
def common_pair.T1 : Bool × List (List Nat × List Nat) := (true, [([], []), ([0], [0]), ([1], [1]), ([2], [2]), ([], []), ([3, 4], [3, 4]), ([5], [5]), ([6], [6]), ([], []), ([8], [8]), ([9], [9]), ([10], [10]), ([], []), ([11, 12], [11, 12]), ([13], [13]), ([14], [14]), ([7, 15], [7, 15]), ([16], [16])])
def common_pair.B1 : List Nat := [0, 1, 3, 7, 0, 31, 63, 127, 0, 256, 768, 1792, 0, 7936, 16128, 32512, 65535, 131071]
theorem common_pair.tab1 : rtab .any (opsOf Tryd.f35 1) = common_pair.T1 := by kernel_rfl
theorem common_pair.bits1 : waitsOk common_pair.T1.2 common_pair.B1 = true := by kernel_rfl
def common_pair.T6 : Bool × List (List Nat × List Nat) := (true, [([], []), ([0], [0]), ([1], [1]), ([2], [2]), ([], []), ([], []), ([5], [5]), ([6], [6]), ([7], [7]), ([], []), ([8, 9], [8, 9]), ([10], [10]), ([11], [11]), ([12], [12]), ([], []), ([13, 14], [13, 14]), ([15], [15]), ([16], [16]), ([16], [16]), ([3, 4, 0, 1, 2, 3, 4, 5, 6, 7, 8, 9, 10, 11, 12, 13, 14, 15, 16, 17], [3, 4]), ([19, 0, 1, 2, 3, 4, 5, 6, 7, 8, 9, 10, 11, 12, 13, 14, 15, 16, 17], [19]), ([20, 0, 1, 2, 3, 4, 5, 6, 7, 8, 9, 10, 11, 12, 13, 14, 15, 16, 17], [20]), ([21, 17, 15, 0, 1, 2, 3, 4, 5, 6, 7, 8, 9, 10, 11, 12, 13, 14, 15, 16, 17], [17, 21])])
def common_pair.B6 : List Nat := [0, 1, 3, 7, 0, 0, 32, 96, 224, 0, 992, 2016, 4064, 8160, 0, 32736, 65504, 131040, 131040, 262143, 786431, 1835007, 3932159]
theorem common_pair.tab6 : rtab .any (opsOf Tryd.f35 6) = common_pair.T6 := by kernel_rfl
theorem common_pair.bits6 : waitsOk common_pair.T6.2 common_pair.B6 = true := by kernel_rfl
/-- What is kept of the line while its parts are written. -/
structure common_pair.K (B b cp : Nat) (A : Option Addr) (c n co : Nat) (p : List S79) (w0 wI : World) (o : List Prt) (W : World) : Prop where
  map : W.heap[b]? = some (.cells #[.slice A p.length c, .slice (some ⟨cp, 0, none⟩) n co] 54 (0, 0))
  pts : Kd.R k79 79 W B (fun _ => True) (.slice A p.length c) p
  row : Kd.R kPrt 57 W B (fun _ => True) (.slice (some ⟨cp, 0, none⟩) n co) o
  base : B ≤ b
  below : Below B w0 W
  runs : ∀ (g : Nat) (cs : Array Value), wI.heap[g]? = some (.cells cs 38 (0, 0)) → W.heap[g]? = some (.cells cs 38 (0, 0))
theorem common_pair.K.line {B b cp : Nat} {A : Option Addr} {c n co : Nat} {p : List S79} {w0 wI : World} {o : List Prt} {W : World} (h : common_pair.K B b cp A c n co p w0 wI o W) : common_L B b A c p o W :=
  ⟨⟨_, h.map, h.pts, h.row⟩, h.base⟩
theorem common_pair.K.weak {B b cp : Nat} {A : Option Addr} {c n co : Nat} {p : List S79} {w0 wI : World} {o : List Prt} {W W1 : World} (h : common_pair.K B b cp A c n co p w0 wI o W) (hb : Below W.heap.size W W1) : common_pair.K B b cp A c n co p w0 wI o W1 :=
  ⟨blk_below h.map hb, Kd.R_below h.pts hb, Kd.R_below h.row hb, h.base, h.below.trans (hb.mono (Nat.le_of_lt (Nat.lt_of_le_of_lt h.base (blk_lt h.map)))), fun g cs hg => blk_below (h.runs g cs hg) hb⟩
theorem common_pair.K.put {B b cp : Nat} {A : Option Addr} {c n co : Nat} {p : List S79} {w0 wI : World} {o : List Prt} {W : World} (h : common_pair.K B b cp A c n co p w0 wI o W) (i : Int) (h0 : 0 ≤ i) (h1 : i < n) (j : Nat) (hj : j < 7) (u : Value) (hu : u.oneCell' = true) (x' : Prt) (hx : ∀ v, (prtCells (prtAt o i) v).set j u = prtCells x' v) (hr : x'.run = (prtAt o i).run) :
    common_pair.K B b cp A c n co p w0 wI (o.set i.toNat x') (W.setCell ⟨cp, i.toNat * 7 + j, none⟩ u) ∧ W.frozen? ⟨cp, i.toNat * 7 + j, none⟩ = false := by
  obtain ⟨p1, p2, p3⟩ := prt_put h.row i h0 h1 j hj u hu x' hx hr
  have hcp : b ≠ cp := fun e => by subst e; exact Kd.R_ne h.row h.map (by decide) rfl
  obtain ⟨cs, hcs⟩ := Kd.R_typed h.row cp (by simp [Value.ownBlock])
  exact ⟨⟨blk_far (p := ⟨cp, i.toNat * 7 + j, none⟩) h.map hcp u, Kd.R_set h.pts hcs (by decide) _ u, p1, h.base, h.below.setCell (p := ⟨cp, i.toNat * 7 + j, none⟩) (Kd.R_base h.row cp (by simp [Value.ownBlock])) u, fun g cs' hg => blk_far (p := ⟨cp, i.toNat * 7 + j, none⟩) (h.runs g cs' hg) (fun e => blk_ne hcs (h.runs g cs' hg) (by decide) e.symm) u⟩, p3⟩
theorem common_pair.K.len {B b cp : Nat} {A : Option Addr} {c n co : Nat} {p : List S79} {w0 wI : World} {o : List Prt} {W : World} (h : common_pair.K B b cp A c n co p w0 wI o W) : n = o.length := (Kd.R_reads' h.row).1
theorem prtAt_set_self {o : List Prt} {i : Int} (h0 : 0 ≤ i) (h1 : i < (o.length : Int)) (x : Prt) : prtAt (o.set i.toNat x) i = x := by
  unfold prtAt
  rw [List.getD_eq_getElem?_getD, List.getElem?_set_self (by omega)]
  rfl
theorem prtAt_set_ne {o : List Prt} {i j : Int} (h0 : 0 ≤ i) (h1 : 0 ≤ j) (h : i ≠ j) (x : Prt) : prtAt (o.set i.toNat x) j = prtAt o j := by
  unfold prtAt
  simp only [List.getD_eq_getElem?_getD]
  rw [List.getElem?_set_ne (by omega)]
set_option maxRecDepth 100000 in
set_option maxHeartbeats 16000000 in
theorem common_pair.calls (B b : Nat) (A : Option Addr) (c : Nat) (p : List S79) (out : List Prt) (i j : Int) (w0 w : World) (h : common_L B b A c p out w) (hB : Below B w0 w) (h0 : 0 ≤ i) (hij : i < j) (hj : j < (out.length : Int)) (hl : out.length ≤ 4000) (hL : ∀ x ∈ out, -1000000 ≤ x.left ∧ x.left ≤ 1000000) :
    Calls Tryd.prog 35 #[.pointer (some ⟨b, 0, none⟩), .int .i64 i, .int .i64 j] w fun e w' => e = .returned (.tuple #[]) ∧ common_L B b A c p (common_pair.f out i j) w' ∧ Below B w0 w' ∧ ∀ (g : Nat) (cs : Array Value), w.heap[g]? = some (.cells cs 38 (0, 0)) → w'.heap[g]? = some (.cells cs 38 (0, 0)) := by
  have hu54 := Tryd.underlying54
  have hu57 := Tryd.underlying57
  have hu43 := Tryd.underlying43
  obtain ⟨Ao, co, h1, h2, h3, h4⟩ := h.open
  obtain ⟨cp, rfl⟩ := prt_row h3 (by omega)
  have K0 := Aside0.mk (show common_pair.K B b cp A c out.length co p w0 w out w from ⟨h1, h2, h3, h4, hB, fun _ _ h => h⟩)
  have NN := Aside0.mk (And.intro h0 (And.intro hij (And.intro hj hl)))
  have LI := Aside0.mk (hL _ (prtAt_mem h0 (by omega)))
  have LJ := Aside0.mk (hL _ (prtAt_mem (show 0 ≤ j by omega) hj))
  have i0t := eq_true h0
  have i1t := eq_true (show i < (out.length : Int) by omega)
  have j0t := eq_true (show 0 ≤ j by omega)
  have j1t := eq_true hj
  obtain ⟨_, _, _, _, _, _, _, ai, _⟩ := prt_at h3 i h0 (by omega)
  obtain ⟨_, _, _, _, _, _, _, aj, _⟩ := prt_at h3 j (by omega) hj
  have s1 : w.cell? ⟨b, 1, none⟩ = some (.slice (some ⟨cp, 0, none⟩) out.length co) := (blk_cell h1 1).trans rfl
  have HW1 := Aside0.mk (show wrap64 (i + 1) = i + 1 from by unfold wrap64; omega)
  clear h hB h1 h2 h3 h4 h0 hij hj hl hL
  go_enter Tryd.func35, Tryd.ntmps35
  go_wp2
  refine start_ (n := 18) (S := fun w' => w'.cell? ⟨b, 1, none⟩ = some (.slice (some ⟨cp, 0, none⟩) out.length co) ∧ w'.cell? ⟨cp, i.toNat * 7 + 5, none⟩ = some (.int .i64 (prtAt out i).left) ∧ w'.cell? ⟨cp, j.toNat * 7 + 5, none⟩ = some (.int .i64 (prtAt out j).left)) (ds := []) #[Ff,Ff,Ff,Ff,Ff,Ff,Ff,Ff,Ff,Ff,Ff,Ff,Ff,Ff,Ff,Ff,Ff,Ff] (by kernel_rfl) rfl rfl ⟨s1, ai, aj⟩ (fun hHeld => ?_)
  refine with_tabW common_pair.tab1 common_pair.bits1 (fun HT_ HW_ => ?_)
  have K1 := Aside0.mk (K0.out.weak (Below.drew (Below.refl _ w)))
  clear K0 s1 ai aj
  generalize w.drew = w1 at *
  refine pure_ (i := 0) (N := some 9) (v := ?_) (a' := ?_) #[Tt,Ff,Ff,Ff,Ff,Ff,Ff,Ff,Ff,Ff,Ff,Ff,Ff,Ff,Ff,Ff,Ff,Ff] rfl rfl (any_of HT_.out (by kernel_rfl)) (fun _ _ _ h => h) (Or.inl ⟨by rfl, ?_⟩) ?_ ?_;rotate_left;(intro w';go_simp;with_reducible rfl);rotate_left;(simp only [Act.put, List.setIfInBounds_toArray, List.set_cons_zero, List.set_cons_succ, i64_w, i32_w];rfl)
  refine pure_ (i := 1) (N := some 10) (v := ?_) (a' := ?_) #[Tt,Tt,Ff,Ff,Ff,Ff,Ff,Ff,Ff,Ff,Ff,Ff,Ff,Ff,Ff,Ff,Ff,Ff] rfl rfl (any_of HT_.out (by kernel_rfl)) (fun _ _ _ h => h) (Or.inl ⟨by rfl, ?_⟩) ?_ ?_;rotate_left;(intro w';go_simp;with_reducible rfl);rotate_left;(simp only [Act.put, List.setIfInBounds_toArray, List.set_cons_zero, List.set_cons_succ, i64_w, i32_w];rfl)
  refine pure_ (i := 2) (N := some 11) (v := ?_) (a' := ?_) #[Tt,Tt,Tt,Ff,Ff,Ff,Ff,Ff,Ff,Ff,Ff,Ff,Ff,Ff,Ff,Ff,Ff,Ff] rfl rfl (any_of HT_.out (by kernel_rfl)) (fun _ _ _ h => h) (Or.inl ⟨by rfl, ?_⟩) ?_ ?_;rotate_left;(intro w';go_simp;with_reducible rfl);rotate_left;(simp only [Act.put, List.setIfInBounds_toArray, List.set_cons_zero, List.set_cons_succ, i64_w, i32_w];rfl)
  refine take_ (i := 3) (N := some 12) (v := ?_) (a' := ?_) #[Tt,Tt,Tt,Tt,Ff,Ff,Ff,Ff,Ff,Ff,Ff,Ff,Ff,Ff,Ff,Ff,Ff,Ff] rfl rfl (take_ofW HT_.out HW_.out (by kernel_rfl)) (fun _ _ _ h => h) (Or.inl ⟨by rfl, ?_⟩) hHeld ?_ ?_;rotate_left;(rintro w' ⟨s0, s1, s2⟩;go_simp;with_reducible rfl);rotate_left;(simp only [Act.put, List.setIfInBounds_toArray, List.set_cons_zero, List.set_cons_succ, i64_w, i32_w];rfl)
  refine pure_ (i := 4) (N := some 13) (v := ?_) (a' := ?_) #[Tt,Tt,Tt,Tt,Tt,Ff,Ff,Ff,Ff,Ff,Ff,Ff,Ff,Ff,Ff,Ff,Ff,Ff] rfl rfl (any_of HT_.out (by kernel_rfl)) (fun _ _ _ h => h) (Or.inl ⟨by rfl, ?_⟩) ?_ ?_;rotate_left;(intro w';go_simp;with_reducible rfl);rotate_left;(simp only [Act.put, List.setIfInBounds_toArray, List.set_cons_zero, List.set_cons_succ, i64_w, i32_w];rfl)
  refine pure_ (i := 5) (N := some 14) (v := ?_) (a' := ?_) #[Tt,Tt,Tt,Tt,Tt,Tt,Ff,Ff,Ff,Ff,Ff,Ff,Ff,Ff,Ff,Ff,Ff,Ff] rfl rfl (any_of HT_.out (by kernel_rfl)) (fun _ _ _ h => h) (Or.inl ⟨by rfl, ?_⟩) ?_ ?_;rotate_left;(intro w';go_simp;with_reducible rfl);rotate_left;(simp only [Act.put, List.setIfInBounds_toArray, List.set_cons_zero, List.set_cons_succ, i64_w, i32_w];rfl)
  refine pure_ (i := 6) (N := some 15) (v := ?_) (a' := ?_) #[Tt,Tt,Tt,Tt,Tt,Tt,Tt,Ff,Ff,Ff,Ff,Ff,Ff,Ff,Ff,Ff,Ff,Ff] rfl rfl (any_of HT_.out (by kernel_rfl)) (fun _ _ _ h => h) (Or.inl ⟨by rfl, ?_⟩) ?_ ?_;rotate_left;(intro w';go_simp;with_reducible rfl);rotate_left;(simp only [Act.put, List.setIfInBounds_toArray, List.set_cons_zero, List.set_cons_succ, i64_w, i32_w];rfl)
  refine take_ (i := 7) (N := some 16) (v := ?_) (a' := ?_) #[Tt,Tt,Tt,Tt,Tt,Tt,Tt,Tt,Ff,Ff,Ff,Ff,Ff,Ff,Ff,Ff,Ff,Ff] rfl rfl (take_ofW HT_.out HW_.out (by kernel_rfl)) (fun _ _ _ h => h) (Or.inl ⟨by rfl, ?_⟩) hHeld ?_ ?_;rotate_left;(rintro w' ⟨s0, s1, s2⟩;go_simp;with_reducible rfl);rotate_left;(simp only [Act.put, List.setIfInBounds_toArray, List.set_cons_zero, List.set_cons_succ, i64_w, i32_w];rfl)
  refine pure_ (i := 8) (N := some 17) (v := ?_) (a' := ?_) #[Tt,Tt,Tt,Tt,Tt,Tt,Tt,Tt,Tt,Ff,Ff,Ff,Ff,Ff,Ff,Ff,Ff,Ff] rfl rfl (any_of HT_.out (by kernel_rfl)) (fun _ _ _ h => h) (Or.inl ⟨by rfl, ?_⟩) ?_ ?_;rotate_left;(intro w';go_simp;with_reducible rfl);rotate_left;(simp only [Act.put, List.setIfInBounds_toArray, List.set_cons_zero, List.set_cons_succ, i64_w, i32_w];rfl)
  refine pure_ (i := 9) (N := some 18) (v := ?_) (a' := ?_) #[Tt,Tt,Tt,Tt,Tt,Tt,Tt,Tt,Tt,Tt,Ff,Ff,Ff,Ff,Ff,Ff,Ff,Ff] rfl rfl (any_of HT_.out (by kernel_rfl)) (fun _ _ _ h => h) (Or.inl ⟨by rfl, ?_⟩) ?_ ?_;rotate_left;(intro w';go_simp;with_reducible rfl);rotate_left;(simp only [Act.put, List.setIfInBounds_toArray, List.set_cons_zero, List.set_cons_succ, i64_w, i32_w];rfl)
  refine pure_ (i := 10) (N := some 19) (v := ?_) (a' := ?_) #[Tt,Tt,Tt,Tt,Tt,Tt,Tt,Tt,Tt,Tt,Tt,Ff,Ff,Ff,Ff,Ff,Ff,Ff] rfl rfl (any_of HT_.out (by kernel_rfl)) (fun _ _ _ h => h) (Or.inl ⟨by rfl, ?_⟩) ?_ ?_;rotate_left;(intro w';go_simp;with_reducible rfl);rotate_left;(simp only [Act.put, List.setIfInBounds_toArray, List.set_cons_zero, List.set_cons_succ, i64_w, i32_w];rfl)
  refine take_ (i := 11) (N := some 20) (v := ?_) (a' := ?_) #[Tt,Tt,Tt,Tt,Tt,Tt,Tt,Tt,Tt,Tt,Tt,Tt,Ff,Ff,Ff,Ff,Ff,Ff] rfl rfl (take_ofW HT_.out HW_.out (by kernel_rfl)) (fun _ _ _ h => h) (Or.inl ⟨by rfl, ?_⟩) hHeld ?_ ?_;rotate_left;(rintro w' ⟨s0, s1, s2⟩;go_simp;with_reducible rfl);rotate_left;(simp only [Act.put, List.setIfInBounds_toArray, List.set_cons_zero, List.set_cons_succ, i64_w, i32_w];rfl)
  refine pure_ (i := 12) (N := some 21) (v := ?_) (a' := ?_) #[Tt,Tt,Tt,Tt,Tt,Tt,Tt,Tt,Tt,Tt,Tt,Tt,Tt,Ff,Ff,Ff,Ff,Ff] rfl rfl (any_of HT_.out (by kernel_rfl)) (fun _ _ _ h => h) (Or.inl ⟨by rfl, ?_⟩) ?_ ?_;rotate_left;(intro w';go_simp;with_reducible rfl);rotate_left;(simp only [Act.put, List.setIfInBounds_toArray, List.set_cons_zero, List.set_cons_succ, i64_w, i32_w];rfl)
  refine pure_ (i := 13) (N := some 22) (v := ?_) (a' := ?_) #[Tt,Tt,Tt,Tt,Tt,Tt,Tt,Tt,Tt,Tt,Tt,Tt,Tt,Tt,Ff,Ff,Ff,Ff] rfl rfl (any_of HT_.out (by kernel_rfl)) (fun _ _ _ h => h) (Or.inl ⟨by rfl, ?_⟩) ?_ ?_;rotate_left;(intro w';go_simp;with_reducible rfl);rotate_left;(simp only [Act.put, List.setIfInBounds_toArray, List.set_cons_zero, List.set_cons_succ, i64_w, i32_w];rfl)
  refine pure_ (i := 14) (N := some 23) (v := ?_) (a' := ?_) #[Tt,Tt,Tt,Tt,Tt,Tt,Tt,Tt,Tt,Tt,Tt,Tt,Tt,Tt,Tt,Ff,Ff,Ff] rfl rfl (any_of HT_.out (by kernel_rfl)) (fun _ _ _ h => h) (Or.inl ⟨by rfl, ?_⟩) ?_ ?_;rotate_left;(intro w';go_simp;with_reducible rfl);rotate_left;(simp only [Act.put, List.setIfInBounds_toArray, List.set_cons_zero, List.set_cons_succ, i64_w, i32_w];rfl)
  refine take_ (i := 15) (N := some 24) (v := ?_) (a' := ?_) #[Tt,Tt,Tt,Tt,Tt,Tt,Tt,Tt,Tt,Tt,Tt,Tt,Tt,Tt,Tt,Tt,Ff,Ff] rfl rfl (take_ofW HT_.out HW_.out (by kernel_rfl)) (fun _ _ _ h => h) (Or.inl ⟨by rfl, ?_⟩) hHeld ?_ ?_;rotate_left;(rintro w' ⟨s0, s1, s2⟩;go_simp;with_reducible rfl);rotate_left;(simp only [Act.put, List.setIfInBounds_toArray, List.set_cons_zero, List.set_cons_succ, i64_w, i32_w];rfl)
  refine pure_ (i := 16) (N := some 25) (v := ?_) (a' := ?_) #[Tt,Tt,Tt,Tt,Tt,Tt,Tt,Tt,Tt,Tt,Tt,Tt,Tt,Tt,Tt,Tt,Tt,Ff] rfl rfl (any_of HT_.out (by kernel_rfl)) (fun _ _ _ h => h) (Or.inl ⟨by rfl, ?_⟩) ?_ ?_;rotate_left;(intro w';go_simp;with_reducible rfl);rotate_left;(simp only [Act.put, List.setIfInBounds_toArray, List.set_cons_zero, List.set_cons_succ, i64_w, i32_w];rfl)
  refine pure_ (i := 17) (N := some 26) (v := ?_) (a' := ?_) #[Tt,Tt,Tt,Tt,Tt,Tt,Tt,Tt,Tt,Tt,Tt,Tt,Tt,Tt,Tt,Tt,Tt,Tt] rfl rfl (any_of HT_.out (by kernel_rfl)) (fun _ _ _ h => h) (Or.inl ⟨by rfl, ?_⟩) ?_ ?_;rotate_left;(intro w';go_simp;with_reducible rfl);rotate_left;(simp only [Act.put, List.setIfInBounds_toArray, List.set_cons_zero, List.set_cons_succ, i64_w, i32_w];rfl)
  refine done_ (done_of HT_.out (by kernel_rfl)) ?_
  obtain ⟨mn, hmn⟩ : ∃ z, z = (if (prtAt out j).left < (prtAt out i).left then (prtAt out j).left else (prtAt out i).left) := ⟨_, rfl⟩
  rw [← hmn]
  by_cases c2 : common_pair.two out i j = true
  · have mb : decide (1 < mn) = true := decide_eq_true (by
      unfold common_pair.two at c2
      simp only [Bool.and_eq_true, decide_eq_true_eq] at c2
      rw [hmn]
      split <;> omega)
    have mt : (1 < mn) = True := eq_true (of_decide_eq_true mb)
    have E := Aside0.mk (show common_pair.f out i j = common_pair.take 2 (common_pair.take 2 (common_pair.marks 1 out (i + 1) (j - i - 1).toNat) i) j from if_pos c2)
    clear c2 hmn
    rw [mb]
    go_wp2
    go_loopg [8] (j - i - 1).toNat (fun kq v8 w' => ∃ (q : Int) (o : List Prt), v8 = .int .i64 q ∧ Aside0 (i < q ∧ q ≤ j ∧ (kq : Int) = j - q ∧ common_pair.K B b cp A c out.length co p w0 w o w' ∧ common_pair.marks 1 o q kq = common_pair.marks 1 out (i + 1) (j - i - 1).toNat ∧ prtAt o i = prtAt out i ∧ prtAt o j = prtAt out j))
    case atStart => exact ⟨i + 1, out, by rw [HW1.out], ⟨by omega, by have := NN.out; omega, by have := NN.out; omega, K1.out, rfl, rfl, rfl⟩⟩
    case round =>
      clear K1 mb mt
      obtain ⟨q, o, rfl, HI⟩ := hrel
      cases gk with
      | zero =>
        have e : q = j := by have := HI.out.2.2.1; omega
        subst e
        have c5b : decide (q < q) = false := decide_eq_false (by omega)
        have MK := Aside0.mk (show o = common_pair.marks 1 out (i + 1) (q - i - 1).toNat from HI.out.2.2.2.2.1)
        have KK := Aside0.mk HI.out.2.2.2.1
        have hn : o.length = out.length := (HI.out.2.2.2.1.len).symm
        have PI := Aside0.mk HI.out.2.2.2.2.2.1
        have PJ := Aside0.mk HI.out.2.2.2.2.2.2
        have IQ := Aside0.mk HI.out.1
        have s1 : wr.cell? ⟨b, 1, none⟩ = some (.slice (some ⟨cp, 0, none⟩) out.length co) := (blk_cell KK.out.map 1).trans rfl
        obtain ⟨_, _, _, _, _, _, _, ai, _⟩ := prt_at KK.out.row i NN.out.1 (by have := NN.out; omega)
        obtain ⟨k1, f1⟩ := KK.out.put i NN.out.1 (by have := NN.out; omega) 5 (by decide) (.int .i64 ((prtAt o i).left - 2)) rfl (prtLeft 2 (prtAt o i)) (fun _ => rfl) rfl
        have hwi : wrap64 ((prtAt o i).left - 2) = (prtAt o i).left - 2 := by rw [PI.out]; have := LI.out; unfold wrap64; omega
        have s1b : (wr.setCell ⟨cp, i.toNat * 7 + 5, none⟩ (.int .i64 ((prtAt o i).left - 2))).cell? ⟨b, 1, none⟩ = some (.slice (some ⟨cp, 0, none⟩) out.length co) := (blk_cell k1.map 1).trans rfl
        obtain ⟨_, _, _, _, _, _, _, aj, _⟩ := prt_at k1.row q (by have := NN.out; omega) (by have := NN.out; omega)
        obtain ⟨k2, f2⟩ := k1.put q (by have := NN.out; omega) (by have := NN.out; omega) 5 (by decide) (.int .i64 ((prtAt (o.set i.toNat (prtLeft 2 (prtAt o i))) q).left - 2)) rfl (prtLeft 2 (prtAt (o.set i.toNat (prtLeft 2 (prtAt o i))) q)) (fun _ => rfl) rfl
        have hpj : prtAt (o.set i.toNat (prtLeft 2 (prtAt o i))) q = prtAt out q := (prtAt_set_ne NN.out.1 (by have := NN.out; omega) (by have := IQ.out; omega) _).trans PJ.out
        have hwj : wrap64 ((prtAt (o.set i.toNat (prtLeft 2 (prtAt o i))) q).left - 2) = (prtAt (o.set i.toNat (prtLeft 2 (prtAt o i))) q).left - 2 := by rw [hpj]; have := LJ.out; unfold wrap64; omega
        have K2 := Aside0.mk k2
        have FIN := Aside0.mk (show common_pair.f out i q = (o.set i.toNat (prtLeft 2 (prtAt o i))).set q.toNat (prtLeft 2 (prtAt (o.set i.toNat (prtLeft 2 (prtAt o i))) q)) from by rw [E.out, ← MK.out]; rfl)
        clear k1 k2 hpj HI KK hn
        go_wp2
        go_end0
        exact ⟨rfl, by rw [FIN.out]; exact K2.out.line, K2.out.below, K2.out.runs⟩
      | succ f =>
        have qj : q < j := by have := HI.out.2.2.1; omega
        have c5b : decide (q < j) = true := decide_eq_true qj
        have q0 : 0 ≤ q := by have := NN.out; have := HI.out.1; omega
        have q1 : q < (out.length : Int) := by have := NN.out; omega
        have q0t := eq_true q0
        have q1t := eq_true q1
        have HQ := Aside0.mk (And.intro q0 (And.intro q1 (And.intro qj HI.out.1)))
        have KK := Aside0.mk HI.out.2.2.2.1
        have hn : o.length = out.length := (HI.out.2.2.2.1.len).symm
        have s1 : wr.cell? ⟨b, 1, none⟩ = some (.slice (some ⟨cp, 0, none⟩) out.length co) := (blk_cell KK.out.map 1).trans rfl
        obtain ⟨_, _, _, _, _, a3, _, _, _⟩ := prt_at KK.out.row q q0 q1
        have HM := Aside0.mk HI.out.2.2.2.2.1
        have HP := Aside0.mk HI.out.2.2.2.2.2
        have HF := Aside0.mk HI.out.2.2.1
        have hwq : wrap64 (q + 1) = q + 1 := by have := NN.out; unfold wrap64; omega
        clear HI q0 q1 qj
        go_wp2
        refine start_ (n := 23) (S := fun w' => w'.cell? ⟨b, 1, none⟩ = some (.slice (some ⟨cp, 0, none⟩) out.length co) ∧ w'.cell? ⟨cp, q.toNat * 7 + 3, none⟩ = some (.int .i64 (prtAt o q).tok.f3)) (ds := [22]) #[Ff,Ff,Ff,Ff,Ff,Ff,Ff,Ff,Ff,Ff,Ff,Ff,Ff,Ff,Ff,Ff,Ff,Ff,Ff,Ff,Ff,Ff,Ff] (by kernel_rfl) rfl rfl ⟨s1, a3⟩ (fun hHeld => ?_)
        refine with_tabW common_pair.tab6 common_pair.bits6 (fun HT_ HW_ => ?_)
        have K2 := Aside0.mk (KK.out.weak (Below.drew (Below.refl _ wr)))
        clear KK s1 a3
        generalize wr.drew = w2 at *
        refine pure_ (i := 0) (N := some 35) (v := ?_) (a' := ?_) #[Tt,Ff,Ff,Ff,Ff,Ff,Ff,Ff,Ff,Ff,Ff,Ff,Ff,Ff,Ff,Ff,Ff,Ff,Ff,Ff,Ff,Ff,Ff] rfl rfl (any_of HT_.out (by kernel_rfl)) (fun _ _ _ h => h) (Or.inl ⟨by rfl, ?_⟩) ?_ ?_;rotate_left;(intro w';go_simp;with_reducible rfl);rotate_left;(simp only [Act.put, List.setIfInBounds_toArray, List.set_cons_zero, List.set_cons_succ, i64_w, i32_w];rfl)
        refine pure_ (i := 1) (N := some 36) (v := ?_) (a' := ?_) #[Tt,Tt,Ff,Ff,Ff,Ff,Ff,Ff,Ff,Ff,Ff,Ff,Ff,Ff,Ff,Ff,Ff,Ff,Ff,Ff,Ff,Ff,Ff] rfl rfl (any_of HT_.out (by kernel_rfl)) (fun _ _ _ h => h) (Or.inl ⟨by rfl, ?_⟩) ?_ ?_;rotate_left;(intro w';go_simp;with_reducible rfl);rotate_left;(simp only [Act.put, List.setIfInBounds_toArray, List.set_cons_zero, List.set_cons_succ, i64_w, i32_w];rfl)
        refine pure_ (i := 2) (N := some 37) (v := ?_) (a' := ?_) #[Tt,Tt,Tt,Ff,Ff,Ff,Ff,Ff,Ff,Ff,Ff,Ff,Ff,Ff,Ff,Ff,Ff,Ff,Ff,Ff,Ff,Ff,Ff] rfl rfl (any_of HT_.out (by kernel_rfl)) (fun _ _ _ h => h) (Or.inl ⟨by rfl, ?_⟩) ?_ ?_;rotate_left;(intro w';go_simp;with_reducible rfl);rotate_left;(simp only [Act.put, List.setIfInBounds_toArray, List.set_cons_zero, List.set_cons_succ, i64_w, i32_w];rfl)
        refine take_ (i := 3) (N := some 38) (v := ?_) (a' := ?_) #[Tt,Tt,Tt,Tt,Ff,Ff,Ff,Ff,Ff,Ff,Ff,Ff,Ff,Ff,Ff,Ff,Ff,Ff,Ff,Ff,Ff,Ff,Ff] rfl rfl (take_ofW HT_.out HW_.out (by kernel_rfl)) (fun _ _ _ h => h) (Or.inl ⟨by rfl, ?_⟩) hHeld ?_ ?_;rotate_left;(rintro w' ⟨s0, s1⟩;go_simp;with_reducible rfl);rotate_left;(simp only [Act.put, List.setIfInBounds_toArray, List.set_cons_zero, List.set_cons_succ, i64_w, i32_w];rfl)
        refine pure_ (i := 4) (N := some 39) (v := ?_) (a' := ?_) #[Tt,Tt,Tt,Tt,Tt,Ff,Ff,Ff,Ff,Ff,Ff,Ff,Ff,Ff,Ff,Ff,Ff,Ff,Ff,Ff,Ff,Ff,Ff] rfl rfl (any_of HT_.out (by kernel_rfl)) (fun _ _ _ h => h) (Or.inl ⟨by rfl, ?_⟩) ?_ ?_;rotate_left;(intro w';go_simp;with_reducible rfl);rotate_left;(simp only [Act.put, List.setIfInBounds_toArray, List.set_cons_zero, List.set_cons_succ, i64_w, i32_w];rfl)
        refine pure_ (i := 5) (N := some 40) (v := ?_) (a' := ?_) #[Tt,Tt,Tt,Tt,Tt,Tt,Ff,Ff,Ff,Ff,Ff,Ff,Ff,Ff,Ff,Ff,Ff,Ff,Ff,Ff,Ff,Ff,Ff] rfl rfl (any_of HT_.out (by kernel_rfl)) (fun _ _ _ h => h) (Or.inl ⟨by rfl, ?_⟩) ?_ ?_;rotate_left;(intro w';go_simp;with_reducible rfl);rotate_left;(simp only [Act.put, List.setIfInBounds_toArray, List.set_cons_zero, List.set_cons_succ, i64_w, i32_w];rfl)
        refine pure_ (i := 6) (N := some 41) (v := ?_) (a' := ?_) #[Tt,Tt,Tt,Tt,Tt,Tt,Tt,Ff,Ff,Ff,Ff,Ff,Ff,Ff,Ff,Ff,Ff,Ff,Ff,Ff,Ff,Ff,Ff] rfl rfl (any_of HT_.out (by kernel_rfl)) (fun _ _ _ h => h) (Or.inl ⟨by rfl, ?_⟩) ?_ ?_;rotate_left;(intro w';go_simp;with_reducible rfl);rotate_left;(simp only [Act.put, List.setIfInBounds_toArray, List.set_cons_zero, List.set_cons_succ, i64_w, i32_w];rfl)
        refine pure_ (i := 7) (N := some 42) (v := ?_) (a' := ?_) #[Tt,Tt,Tt,Tt,Tt,Tt,Tt,Tt,Ff,Ff,Ff,Ff,Ff,Ff,Ff,Ff,Ff,Ff,Ff,Ff,Ff,Ff,Ff] rfl rfl (any_of HT_.out (by kernel_rfl)) (fun _ _ _ h => h) (Or.inl ⟨by rfl, ?_⟩) ?_ ?_;rotate_left;(intro w';go_simp;with_reducible rfl);rotate_left;(simp only [Act.put, List.setIfInBounds_toArray, List.set_cons_zero, List.set_cons_succ, i64_w, i32_w];rfl)
        refine take_ (i := 8) (N := some 43) (v := ?_) (a' := ?_) #[Tt,Tt,Tt,Tt,Tt,Tt,Tt,Tt,Tt,Ff,Ff,Ff,Ff,Ff,Ff,Ff,Ff,Ff,Ff,Ff,Ff,Ff,Ff] rfl rfl (take_ofW HT_.out HW_.out (by kernel_rfl)) (fun _ _ _ h => h) (Or.inl ⟨by rfl, ?_⟩) hHeld ?_ ?_;rotate_left;(rintro w' ⟨s0, s1⟩;go_simp;with_reducible rfl);rotate_left;(simp only [Act.put, List.setIfInBounds_toArray, List.set_cons_zero, List.set_cons_succ, i64_w, i32_w];rfl)
        refine pure_ (i := 9) (N := some 44) (v := ?_) (a' := ?_) #[Tt,Tt,Tt,Tt,Tt,Tt,Tt,Tt,Tt,Tt,Ff,Ff,Ff,Ff,Ff,Ff,Ff,Ff,Ff,Ff,Ff,Ff,Ff] rfl rfl (any_of HT_.out (by kernel_rfl)) (fun _ _ _ h => h) (Or.inl ⟨by rfl, ?_⟩) ?_ ?_;rotate_left;(intro w';go_simp;with_reducible rfl);rotate_left;(simp only [Act.put, List.setIfInBounds_toArray, List.set_cons_zero, List.set_cons_succ, i64_w, i32_w];rfl)
        refine pure_ (i := 10) (N := some 45) (v := ?_) (a' := ?_) #[Tt,Tt,Tt,Tt,Tt,Tt,Tt,Tt,Tt,Tt,Tt,Ff,Ff,Ff,Ff,Ff,Ff,Ff,Ff,Ff,Ff,Ff,Ff] rfl rfl (any_of HT_.out (by kernel_rfl)) (fun _ _ _ h => h) (Or.inl ⟨by rfl, ?_⟩) ?_ ?_;rotate_left;(intro w';go_simp;with_reducible rfl);rotate_left;(simp only [Act.put, List.setIfInBounds_toArray, List.set_cons_zero, List.set_cons_succ, i64_w, i32_w];rfl)
        refine pure_ (i := 11) (N := some 46) (v := ?_) (a' := ?_) #[Tt,Tt,Tt,Tt,Tt,Tt,Tt,Tt,Tt,Tt,Tt,Tt,Ff,Ff,Ff,Ff,Ff,Ff,Ff,Ff,Ff,Ff,Ff] rfl rfl (any_of HT_.out (by kernel_rfl)) (fun _ _ _ h => h) (Or.inl ⟨by rfl, ?_⟩) ?_ ?_;rotate_left;(intro w';go_simp;with_reducible rfl);rotate_left;(simp only [Act.put, List.setIfInBounds_toArray, List.set_cons_zero, List.set_cons_succ, i64_w, i32_w];rfl)
        refine pure_ (i := 12) (N := some 47) (v := ?_) (a' := ?_) #[Tt,Tt,Tt,Tt,Tt,Tt,Tt,Tt,Tt,Tt,Tt,Tt,Tt,Ff,Ff,Ff,Ff,Ff,Ff,Ff,Ff,Ff,Ff] rfl rfl (any_of HT_.out (by kernel_rfl)) (fun _ _ _ h => h) (Or.inl ⟨by rfl, ?_⟩) ?_ ?_;rotate_left;(intro w';go_simp;with_reducible rfl);rotate_left;(simp only [Act.put, List.setIfInBounds_toArray, List.set_cons_zero, List.set_cons_succ, i64_w, i32_w];rfl)
        refine take_ (i := 13) (N := some 48) (v := ?_) (a' := ?_) #[Tt,Tt,Tt,Tt,Tt,Tt,Tt,Tt,Tt,Tt,Tt,Tt,Tt,Tt,Ff,Ff,Ff,Ff,Ff,Ff,Ff,Ff,Ff] rfl rfl (take_ofW HT_.out HW_.out (by kernel_rfl)) (fun _ _ _ h => h) (Or.inl ⟨by rfl, ?_⟩) hHeld ?_ ?_;rotate_left;(rintro w' ⟨s0, s1⟩;go_simp;with_reducible rfl);rotate_left;(simp only [Act.put, List.setIfInBounds_toArray, List.set_cons_zero, List.set_cons_succ, i64_w, i32_w];rfl)
        refine pure_ (i := 14) (N := some 49) (v := ?_) (a' := ?_) #[Tt,Tt,Tt,Tt,Tt,Tt,Tt,Tt,Tt,Tt,Tt,Tt,Tt,Tt,Tt,Ff,Ff,Ff,Ff,Ff,Ff,Ff,Ff] rfl rfl (any_of HT_.out (by kernel_rfl)) (fun _ _ _ h => h) (Or.inl ⟨by rfl, ?_⟩) ?_ ?_;rotate_left;(intro w';go_simp;with_reducible rfl);rotate_left;(simp only [Act.put, List.setIfInBounds_toArray, List.set_cons_zero, List.set_cons_succ, i64_w, i32_w];rfl)
        obtain ⟨er, her⟩ := addM_f (prtAt o q).tok.f3 1 (by decide)
        refine one_ (i := 15) (N := some 50) #[Tt,Tt,Tt,Tt,Tt,Tt,Tt,Tt,Tt,Tt,Tt,Tt,Tt,Tt,Tt,Tt,Ff,Ff,Ff,Ff,Ff,Ff,Ff] rfl rfl (one_of HT_.out (by kernel_rfl)) (by decide) (fun K hK => ?_)
        refine goes_ Tryd.func50 (by kernel_rfl) rfl #[.int .i64 (prtAt o q).tok.f3, .int .i64 1] (by rfl) rfl rfl (by simp only [List.map_toArray, List.map_cons, List.map_nil]; rfl) ?_
        refine (mark_Add.calls 6 _ _ _ _ _ her).mono ?_
        rintro e w3 ⟨rfl, hd⟩
        refine ⟨_, rfl, ?_⟩
        have K3 := Aside0.mk (K2.out.weak hd.below)
        clear K2 hd her
        obtain ⟨k4, f3⟩ := K3.out.put q HQ.out.1 HQ.out.2.1 3 (by decide) (.int .i64 (addM (prtAt o q).tok.f3 1)) rfl ⟨⟨(prtAt o q).tok.f0, (prtAt o q).tok.f1, (prtAt o q).tok.f2, addM (prtAt o q).tok.f3 1⟩, (prtAt o q).run, (prtAt o q).left, (prtAt o q).passed⟩ (fun _ => rfl) rfl
        have K4 := Aside0.mk k4
        obtain ⟨_, _, _, _, _, a3, _, _, _⟩ := prt_at K3.out.row q HQ.out.1 HQ.out.2.1
        clear k4
        have s1 : w3.cell? ⟨b, 1, none⟩ = some (.slice (some ⟨cp, 0, none⟩) out.length co) := (blk_cell K3.out.map 1).trans rfl
        refine hK.out _ _ ⟨s1, a3⟩ (fun hHeld => ?_)
        clear hK K s1
        refine norm_ (a' := ?_) ?_ ?_
        rotate_left
        · show Act.put _ (some 50) _ = _
          simp only [Act.put, List.setIfInBounds_toArray, List.set_cons_zero, List.set_cons_succ, i64_w, i32_w]
          rfl
        refine pure_ (i := 16) (N := some 34) (v := ?_) (a' := ?_) #[Tt,Tt,Tt,Tt,Tt,Tt,Tt,Tt,Tt,Tt,Tt,Tt,Tt,Tt,Tt,Tt,Tt,Ff,Ff,Ff,Ff,Ff,Ff] rfl rfl (any_of HT_.out (by kernel_rfl)) (fun _ _ _ h => h) (Or.inl ⟨by rfl, ?_⟩) ?_ ?_;rotate_left;(intro w';go_simp;with_reducible rfl);rotate_left;(simp only [Act.put, List.setIfInBounds_toArray, List.set_cons_zero, List.set_cons_succ, i64_w, i32_w];rfl)
        refine pure_ (i := 17) (N := some 51) (v := ?_) (a' := ?_) #[Tt,Tt,Tt,Tt,Tt,Tt,Tt,Tt,Tt,Tt,Tt,Tt,Tt,Tt,Tt,Tt,Tt,Tt,Ff,Ff,Ff,Ff,Ff] rfl rfl (any_of HT_.out (by kernel_rfl)) (fun _ _ _ h => h) (Or.inl ⟨by rfl, ?_⟩) ?_ ?_;rotate_left;(intro w';go_simp;with_reducible rfl);rotate_left;(simp only [Act.put, List.setIfInBounds_toArray, List.set_cons_zero, List.set_cons_succ, i64_w, i32_w];rfl)
        refine pure_ (i := 18) (N := some 52) (v := ?_) (a' := ?_) #[Tt,Tt,Tt,Tt,Tt,Tt,Tt,Tt,Tt,Tt,Tt,Tt,Tt,Tt,Tt,Tt,Tt,Tt,Tt,Ff,Ff,Ff,Ff] rfl rfl (any_of HT_.out (by kernel_rfl)) (fun _ _ _ h => h) (Or.inl ⟨by rfl, ?_⟩) ?_ ?_;rotate_left;(intro w';go_simp;with_reducible rfl);rotate_left;(simp only [Act.put, List.setIfInBounds_toArray, List.set_cons_zero, List.set_cons_succ, i64_w, i32_w];rfl)
        refine pure_ (i := 19) (N := some 53) (v := ?_) (a' := ?_) #[Tt,Tt,Tt,Tt,Tt,Tt,Tt,Tt,Tt,Tt,Tt,Tt,Tt,Tt,Tt,Tt,Tt,Tt,Tt,Tt,Ff,Ff,Ff] rfl rfl (any_of HT_.out (by kernel_rfl)) (fun _ _ _ h => h) (Or.inl ⟨by rfl, ?_⟩) ?_ ?_;rotate_left;(intro w';go_simp;with_reducible rfl);rotate_left;(simp only [Act.put, List.setIfInBounds_toArray, List.set_cons_zero, List.set_cons_succ, i64_w, i32_w];rfl)
        refine pure_ (i := 20) (N := some 54) (v := ?_) (a' := ?_) #[Tt,Tt,Tt,Tt,Tt,Tt,Tt,Tt,Tt,Tt,Tt,Tt,Tt,Tt,Tt,Tt,Tt,Tt,Tt,Tt,Tt,Ff,Ff] rfl rfl (any_of HT_.out (by kernel_rfl)) (fun _ _ _ h => h) (Or.inl ⟨by rfl, ?_⟩) ?_ ?_;rotate_left;(intro w';go_simp;with_reducible rfl);rotate_left;(simp only [Act.put, List.setIfInBounds_toArray, List.set_cons_zero, List.set_cons_succ, i64_w, i32_w];rfl)
        refine pure_ (i := 21) (N := some 55) (v := ?_) (a' := ?_) #[Tt,Tt,Tt,Tt,Tt,Tt,Tt,Tt,Tt,Tt,Tt,Tt,Tt,Tt,Tt,Tt,Tt,Tt,Tt,Tt,Tt,Tt,Ff] rfl rfl (any_of HT_.out (by kernel_rfl)) (fun _ _ _ h => h) (Or.inl ⟨by rfl, ?_⟩) ?_ ?_;rotate_left;(intro w';go_simp;with_reducible rfl);rotate_left;(simp only [Act.put, List.setIfInBounds_toArray, List.set_cons_zero, List.set_cons_succ, i64_w, i32_w];rfl)
        refine last_ (i := 22) (N := none) #[Tt,Tt,Tt,Tt,Tt,Tt,Tt,Tt,Tt,Tt,Tt,Tt,Tt,Tt,Tt,Tt,Tt,Tt,Tt,Tt,Tt,Tt,Tt] rfl rfl (one_of HT_.out (by kernel_rfl)) (by decide) (fun K hK => ?_)
        refine skip_ (w1 := ?_) (by rfl) rfl ?_ ?_
        rotate_left
        · go_simp
          rfl
        refine hK.out _ _ ?_
        clear hK K
        refine done_ (done_of HT_.out (by kernel_rfl)) ?_
        clear f3 a3 K3
        generalize w3.setCell ⟨cp, q.toNat * 7 + 3, none⟩ (.int .i64 (addM (prtAt o q).tok.f3 1)) = w4 at *
        have s1 : w4.cell? ⟨b, 1, none⟩ = some (.slice (some ⟨cp, 0, none⟩) out.length co) := (blk_cell K4.out.map 1).trans rfl
        obtain ⟨k5, f6⟩ := K4.out.put q HQ.out.1 HQ.out.2.1 6 (by decide) (.bool true) rfl (prtMark 1 (prtAt o q)) (fun _ => by rw [prtAt_set_self HQ.out.1 (by have := HQ.out.2.1; omega)]; rfl) (by rw [prtAt_set_self HQ.out.1 (by have := HQ.out.2.1; omega)]; rfl)
        rw [List.set_set] at k5
        obtain ⟨_, _, _, _, _, _, _, _, a6⟩ := prt_at K4.out.row q HQ.out.1 HQ.out.2.1
        have K5 := Aside0.mk k5
        clear k5 K4 hn
        go_wp2
        go_roundg f
        case measure => omega
        case rel => exact ⟨q + 1, _, by rw [hwq], ⟨by have := HQ.out; omega, by have := HQ.out; omega, by have := HF.out; omega, K5.out, HM.out, (prtAt_set_ne HQ.out.1 NN.out.1 (by have := HQ.out; omega) _).trans HP.out.1, (prtAt_set_ne HQ.out.1 (by have := NN.out; omega) (by have := HQ.out; omega) _).trans HP.out.2⟩⟩
  · have mb : decide (1 < mn) = false := decide_eq_false (by
      unfold common_pair.two at c2
      simp only [Bool.and_eq_true, decide_eq_true_eq] at c2
      rw [hmn]
      split <;> omega)
    have mt : (1 < mn) = False := eq_false (of_decide_eq_false mb)
    have E := Aside0.mk (show common_pair.f out i j = common_pair.take 1 (common_pair.take 1 (common_pair.marks 2 out (i + 1) (j - i - 1).toNat) i) j from if_neg c2)
    clear c2 hmn
    rw [mb]
    go_wp2
    go_loopg [8] (j - i - 1).toNat (fun kq v8 w' => ∃ (q : Int) (o : List Prt), v8 = .int .i64 q ∧ Aside0 (i < q ∧ q ≤ j ∧ (kq : Int) = j - q ∧ common_pair.K B b cp A c out.length co p w0 w o w' ∧ common_pair.marks 2 o q kq = common_pair.marks 2 out (i + 1) (j - i - 1).toNat ∧ prtAt o i = prtAt out i ∧ prtAt o j = prtAt out j))
    case atStart => exact ⟨i + 1, out, by rw [HW1.out], ⟨by omega, by have := NN.out; omega, by have := NN.out; omega, K1.out, rfl, rfl, rfl⟩⟩
    case round =>
      clear K1 mb mt
      obtain ⟨q, o, rfl, HI⟩ := hrel
      cases gk with
      | zero =>
        have e : q = j := by have := HI.out.2.2.1; omega
        subst e
        have c5b : decide (q < q) = false := decide_eq_false (by omega)
        have MK := Aside0.mk (show o = common_pair.marks 2 out (i + 1) (q - i - 1).toNat from HI.out.2.2.2.2.1)
        have KK := Aside0.mk HI.out.2.2.2.1
        have hn : o.length = out.length := (HI.out.2.2.2.1.len).symm
        have PI := Aside0.mk HI.out.2.2.2.2.2.1
        have PJ := Aside0.mk HI.out.2.2.2.2.2.2
        have IQ := Aside0.mk HI.out.1
        have s1 : wr.cell? ⟨b, 1, none⟩ = some (.slice (some ⟨cp, 0, none⟩) out.length co) := (blk_cell KK.out.map 1).trans rfl
        obtain ⟨_, _, _, _, _, _, _, ai, _⟩ := prt_at KK.out.row i NN.out.1 (by have := NN.out; omega)
        obtain ⟨k1, f1⟩ := KK.out.put i NN.out.1 (by have := NN.out; omega) 5 (by decide) (.int .i64 ((prtAt o i).left - 1)) rfl (prtLeft 1 (prtAt o i)) (fun _ => rfl) rfl
        have hwi : wrap64 ((prtAt o i).left - 1) = (prtAt o i).left - 1 := by rw [PI.out]; have := LI.out; unfold wrap64; omega
        have s1b : (wr.setCell ⟨cp, i.toNat * 7 + 5, none⟩ (.int .i64 ((prtAt o i).left - 1))).cell? ⟨b, 1, none⟩ = some (.slice (some ⟨cp, 0, none⟩) out.length co) := (blk_cell k1.map 1).trans rfl
        obtain ⟨_, _, _, _, _, _, _, aj, _⟩ := prt_at k1.row q (by have := NN.out; omega) (by have := NN.out; omega)
        obtain ⟨k2, f2⟩ := k1.put q (by have := NN.out; omega) (by have := NN.out; omega) 5 (by decide) (.int .i64 ((prtAt (o.set i.toNat (prtLeft 1 (prtAt o i))) q).left - 1)) rfl (prtLeft 1 (prtAt (o.set i.toNat (prtLeft 1 (prtAt o i))) q)) (fun _ => rfl) rfl
        have hpj : prtAt (o.set i.toNat (prtLeft 1 (prtAt o i))) q = prtAt out q := (prtAt_set_ne NN.out.1 (by have := NN.out; omega) (by have := IQ.out; omega) _).trans PJ.out
        have hwj : wrap64 ((prtAt (o.set i.toNat (prtLeft 1 (prtAt o i))) q).left - 1) = (prtAt (o.set i.toNat (prtLeft 1 (prtAt o i))) q).left - 1 := by rw [hpj]; have := LJ.out; unfold wrap64; omega
        have K2 := Aside0.mk k2
        have FIN := Aside0.mk (show common_pair.f out i q = (o.set i.toNat (prtLeft 1 (prtAt o i))).set q.toNat (prtLeft 1 (prtAt (o.set i.toNat (prtLeft 1 (prtAt o i))) q)) from by rw [E.out, ← MK.out]; rfl)
        clear k1 k2 hpj HI KK hn
        go_wp2
        go_end0
        exact ⟨rfl, by rw [FIN.out]; exact K2.out.line, K2.out.below, K2.out.runs⟩
      | succ f =>
        have qj : q < j := by have := HI.out.2.2.1; omega
        have c5b : decide (q < j) = true := decide_eq_true qj
        have q0 : 0 ≤ q := by have := NN.out; have := HI.out.1; omega
        have q1 : q < (out.length : Int) := by have := NN.out; omega
        have q0t := eq_true q0
        have q1t := eq_true q1
        have HQ := Aside0.mk (And.intro q0 (And.intro q1 (And.intro qj HI.out.1)))
        have KK := Aside0.mk HI.out.2.2.2.1
        have hn : o.length = out.length := (HI.out.2.2.2.1.len).symm
        have s1 : wr.cell? ⟨b, 1, none⟩ = some (.slice (some ⟨cp, 0, none⟩) out.length co) := (blk_cell KK.out.map 1).trans rfl
        obtain ⟨_, _, _, _, _, a3, _, _, _⟩ := prt_at KK.out.row q q0 q1
        have HM := Aside0.mk HI.out.2.2.2.2.1
        have HP := Aside0.mk HI.out.2.2.2.2.2
        have HF := Aside0.mk HI.out.2.2.1
        have hwq : wrap64 (q + 1) = q + 1 := by have := NN.out; unfold wrap64; omega
        clear HI q0 q1 qj
        go_wp2
        refine start_ (n := 23) (S := fun w' => w'.cell? ⟨b, 1, none⟩ = some (.slice (some ⟨cp, 0, none⟩) out.length co) ∧ w'.cell? ⟨cp, q.toNat * 7 + 3, none⟩ = some (.int .i64 (prtAt o q).tok.f3)) (ds := [22]) #[Ff,Ff,Ff,Ff,Ff,Ff,Ff,Ff,Ff,Ff,Ff,Ff,Ff,Ff,Ff,Ff,Ff,Ff,Ff,Ff,Ff,Ff,Ff] (by kernel_rfl) rfl rfl ⟨s1, a3⟩ (fun hHeld => ?_)
        refine with_tabW common_pair.tab6 common_pair.bits6 (fun HT_ HW_ => ?_)
        have K2 := Aside0.mk (KK.out.weak (Below.drew (Below.refl _ wr)))
        clear KK s1 a3
        generalize wr.drew = w2 at *
        refine pure_ (i := 0) (N := some 35) (v := ?_) (a' := ?_) #[Tt,Ff,Ff,Ff,Ff,Ff,Ff,Ff,Ff,Ff,Ff,Ff,Ff,Ff,Ff,Ff,Ff,Ff,Ff,Ff,Ff,Ff,Ff] rfl rfl (any_of HT_.out (by kernel_rfl)) (fun _ _ _ h => h) (Or.inl ⟨by rfl, ?_⟩) ?_ ?_;rotate_left;(intro w';go_simp;with_reducible rfl);rotate_left;(simp only [Act.put, List.setIfInBounds_toArray, List.set_cons_zero, List.set_cons_succ, i64_w, i32_w];rfl)
        refine pure_ (i := 1) (N := some 36) (v := ?_) (a' := ?_) #[Tt,Tt,Ff,Ff,Ff,Ff,Ff,Ff,Ff,Ff,Ff,Ff,Ff,Ff,Ff,Ff,Ff,Ff,Ff,Ff,Ff,Ff,Ff] rfl rfl (any_of HT_.out (by kernel_rfl)) (fun _ _ _ h => h) (Or.inl ⟨by rfl, ?_⟩) ?_ ?_;rotate_left;(intro w';go_simp;with_reducible rfl);rotate_left;(simp only [Act.put, List.setIfInBounds_toArray, List.set_cons_zero, List.set_cons_succ, i64_w, i32_w];rfl)
        refine pure_ (i := 2) (N := some 37) (v := ?_) (a' := ?_) #[Tt,Tt,Tt,Ff,Ff,Ff,Ff,Ff,Ff,Ff,Ff,Ff,Ff,Ff,Ff,Ff,Ff,Ff,Ff,Ff,Ff,Ff,Ff] rfl rfl (any_of HT_.out (by kernel_rfl)) (fun _ _ _ h => h) (Or.inl ⟨by rfl, ?_⟩) ?_ ?_;rotate_left;(intro w';go_simp;with_reducible rfl);rotate_left;(simp only [Act.put, List.setIfInBounds_toArray, List.set_cons_zero, List.set_cons_succ, i64_w, i32_w];rfl)
        refine take_ (i := 3) (N := some 38) (v := ?_) (a' := ?_) #[Tt,Tt,Tt,Tt,Ff,Ff,Ff,Ff,Ff,Ff,Ff,Ff,Ff,Ff,Ff,Ff,Ff,Ff,Ff,Ff,Ff,Ff,Ff] rfl rfl (take_ofW HT_.out HW_.out (by kernel_rfl)) (fun _ _ _ h => h) (Or.inl ⟨by rfl, ?_⟩) hHeld ?_ ?_;rotate_left;(rintro w' ⟨s0, s1⟩;go_simp;with_reducible rfl);rotate_left;(simp only [Act.put, List.setIfInBounds_toArray, List.set_cons_zero, List.set_cons_succ, i64_w, i32_w];rfl)
        refine pure_ (i := 4) (N := some 39) (v := ?_) (a' := ?_) #[Tt,Tt,Tt,Tt,Tt,Ff,Ff,Ff,Ff,Ff,Ff,Ff,Ff,Ff,Ff,Ff,Ff,Ff,Ff,Ff,Ff,Ff,Ff] rfl rfl (any_of HT_.out (by kernel_rfl)) (fun _ _ _ h => h) (Or.inl ⟨by rfl, ?_⟩) ?_ ?_;rotate_left;(intro w';go_simp;with_reducible rfl);rotate_left;(simp only [Act.put, List.setIfInBounds_toArray, List.set_cons_zero, List.set_cons_succ, i64_w, i32_w];rfl)
        refine pure_ (i := 5) (N := some 40) (v := ?_) (a' := ?_) #[Tt,Tt,Tt,Tt,Tt,Tt,Ff,Ff,Ff,Ff,Ff,Ff,Ff,Ff,Ff,Ff,Ff,Ff,Ff,Ff,Ff,Ff,Ff] rfl rfl (any_of HT_.out (by kernel_rfl)) (fun _ _ _ h => h) (Or.inl ⟨by rfl, ?_⟩) ?_ ?_;rotate_left;(intro w';go_simp;with_reducible rfl);rotate_left;(simp only [Act.put, List.setIfInBounds_toArray, List.set_cons_zero, List.set_cons_succ, i64_w, i32_w];rfl)
        refine pure_ (i := 6) (N := some 41) (v := ?_) (a' := ?_) #[Tt,Tt,Tt,Tt,Tt,Tt,Tt,Ff,Ff,Ff,Ff,Ff,Ff,Ff,Ff,Ff,Ff,Ff,Ff,Ff,Ff,Ff,Ff] rfl rfl (any_of HT_.out (by kernel_rfl)) (fun _ _ _ h => h) (Or.inl ⟨by rfl, ?_⟩) ?_ ?_;rotate_left;(intro w';go_simp;with_reducible rfl);rotate_left;(simp only [Act.put, List.setIfInBounds_toArray, List.set_cons_zero, List.set_cons_succ, i64_w, i32_w];rfl)
        refine pure_ (i := 7) (N := some 42) (v := ?_) (a' := ?_) #[Tt,Tt,Tt,Tt,Tt,Tt,Tt,Tt,Ff,Ff,Ff,Ff,Ff,Ff,Ff,Ff,Ff,Ff,Ff,Ff,Ff,Ff,Ff] rfl rfl (any_of HT_.out (by kernel_rfl)) (fun _ _ _ h => h) (Or.inl ⟨by rfl, ?_⟩) ?_ ?_;rotate_left;(intro w';go_simp;with_reducible rfl);rotate_left;(simp only [Act.put, List.setIfInBounds_toArray, List.set_cons_zero, List.set_cons_succ, i64_w, i32_w];rfl)
        refine take_ (i := 8) (N := some 43) (v := ?_) (a' := ?_) #[Tt,Tt,Tt,Tt,Tt,Tt,Tt,Tt,Tt,Ff,Ff,Ff,Ff,Ff,Ff,Ff,Ff,Ff,Ff,Ff,Ff,Ff,Ff] rfl rfl (take_ofW HT_.out HW_.out (by kernel_rfl)) (fun _ _ _ h => h) (Or.inl ⟨by rfl, ?_⟩) hHeld ?_ ?_;rotate_left;(rintro w' ⟨s0, s1⟩;go_simp;with_reducible rfl);rotate_left;(simp only [Act.put, List.setIfInBounds_toArray, List.set_cons_zero, List.set_cons_succ, i64_w, i32_w];rfl)
        refine pure_ (i := 9) (N := some 44) (v := ?_) (a' := ?_) #[Tt,Tt,Tt,Tt,Tt,Tt,Tt,Tt,Tt,Tt,Ff,Ff,Ff,Ff,Ff,Ff,Ff,Ff,Ff,Ff,Ff,Ff,Ff] rfl rfl (any_of HT_.out (by kernel_rfl)) (fun _ _ _ h => h) (Or.inl ⟨by rfl, ?_⟩) ?_ ?_;rotate_left;(intro w';go_simp;with_reducible rfl);rotate_left;(simp only [Act.put, List.setIfInBounds_toArray, List.set_cons_zero, List.set_cons_succ, i64_w, i32_w];rfl)
        refine pure_ (i := 10) (N := some 45) (v := ?_) (a' := ?_) #[Tt,Tt,Tt,Tt,Tt,Tt,Tt,Tt,Tt,Tt,Tt,Ff,Ff,Ff,Ff,Ff,Ff,Ff,Ff,Ff,Ff,Ff,Ff] rfl rfl (any_of HT_.out (by kernel_rfl)) (fun _ _ _ h => h) (Or.inl ⟨by rfl, ?_⟩) ?_ ?_;rotate_left;(intro w';go_simp;with_reducible rfl);rotate_left;(simp only [Act.put, List.setIfInBounds_toArray, List.set_cons_zero, List.set_cons_succ, i64_w, i32_w];rfl)
        refine pure_ (i := 11) (N := some 46) (v := ?_) (a' := ?_) #[Tt,Tt,Tt,Tt,Tt,Tt,Tt,Tt,Tt,Tt,Tt,Tt,Ff,Ff,Ff,Ff,Ff,Ff,Ff,Ff,Ff,Ff,Ff] rfl rfl (any_of HT_.out (by kernel_rfl)) (fun _ _ _ h => h) (Or.inl ⟨by rfl, ?_⟩) ?_ ?_;rotate_left;(intro w';go_simp;with_reducible rfl);rotate_left;(simp only [Act.put, List.setIfInBounds_toArray, List.set_cons_zero, List.set_cons_succ, i64_w, i32_w];rfl)
        refine pure_ (i := 12) (N := some 47) (v := ?_) (a' := ?_) #[Tt,Tt,Tt,Tt,Tt,Tt,Tt,Tt,Tt,Tt,Tt,Tt,Tt,Ff,Ff,Ff,Ff,Ff,Ff,Ff,Ff,Ff,Ff] rfl rfl (any_of HT_.out (by kernel_rfl)) (fun _ _ _ h => h) (Or.inl ⟨by rfl, ?_⟩) ?_ ?_;rotate_left;(intro w';go_simp;with_reducible rfl);rotate_left;(simp only [Act.put, List.setIfInBounds_toArray, List.set_cons_zero, List.set_cons_succ, i64_w, i32_w];rfl)
        refine take_ (i := 13) (N := some 48) (v := ?_) (a' := ?_) #[Tt,Tt,Tt,Tt,Tt,Tt,Tt,Tt,Tt,Tt,Tt,Tt,Tt,Tt,Ff,Ff,Ff,Ff,Ff,Ff,Ff,Ff,Ff] rfl rfl (take_ofW HT_.out HW_.out (by kernel_rfl)) (fun _ _ _ h => h) (Or.inl ⟨by rfl, ?_⟩) hHeld ?_ ?_;rotate_left;(rintro w' ⟨s0, s1⟩;go_simp;with_reducible rfl);rotate_left;(simp only [Act.put, List.setIfInBounds_toArray, List.set_cons_zero, List.set_cons_succ, i64_w, i32_w];rfl)
        refine pure_ (i := 14) (N := some 49) (v := ?_) (a' := ?_) #[Tt,Tt,Tt,Tt,Tt,Tt,Tt,Tt,Tt,Tt,Tt,Tt,Tt,Tt,Tt,Ff,Ff,Ff,Ff,Ff,Ff,Ff,Ff] rfl rfl (any_of HT_.out (by kernel_rfl)) (fun _ _ _ h => h) (Or.inl ⟨by rfl, ?_⟩) ?_ ?_;rotate_left;(intro w';go_simp;with_reducible rfl);rotate_left;(simp only [Act.put, List.setIfInBounds_toArray, List.set_cons_zero, List.set_cons_succ, i64_w, i32_w];rfl)
        obtain ⟨er, her⟩ := addM_f (prtAt o q).tok.f3 2 (by decide)
        refine one_ (i := 15) (N := some 50) #[Tt,Tt,Tt,Tt,Tt,Tt,Tt,Tt,Tt,Tt,Tt,Tt,Tt,Tt,Tt,Tt,Ff,Ff,Ff,Ff,Ff,Ff,Ff] rfl rfl (one_of HT_.out (by kernel_rfl)) (by decide) (fun K hK => ?_)
        refine goes_ Tryd.func50 (by kernel_rfl) rfl #[.int .i64 (prtAt o q).tok.f3, .int .i64 2] (by rfl) rfl rfl (by simp only [List.map_toArray, List.map_cons, List.map_nil]; rfl) ?_
        refine (mark_Add.calls 6 _ _ _ _ _ her).mono ?_
        rintro e w3 ⟨rfl, hd⟩
        refine ⟨_, rfl, ?_⟩
        have K3 := Aside0.mk (K2.out.weak hd.below)
        clear K2 hd her
        obtain ⟨k4, f3⟩ := K3.out.put q HQ.out.1 HQ.out.2.1 3 (by decide) (.int .i64 (addM (prtAt o q).tok.f3 2)) rfl ⟨⟨(prtAt o q).tok.f0, (prtAt o q).tok.f1, (prtAt o q).tok.f2, addM (prtAt o q).tok.f3 2⟩, (prtAt o q).run, (prtAt o q).left, (prtAt o q).passed⟩ (fun _ => rfl) rfl
        have K4 := Aside0.mk k4
        obtain ⟨_, _, _, _, _, a3, _, _, _⟩ := prt_at K3.out.row q HQ.out.1 HQ.out.2.1
        clear k4
        have s1 : w3.cell? ⟨b, 1, none⟩ = some (.slice (some ⟨cp, 0, none⟩) out.length co) := (blk_cell K3.out.map 1).trans rfl
        refine hK.out _ _ ⟨s1, a3⟩ (fun hHeld => ?_)
        clear hK K s1
        refine norm_ (a' := ?_) ?_ ?_
        rotate_left
        · show Act.put _ (some 50) _ = _
          simp only [Act.put, List.setIfInBounds_toArray, List.set_cons_zero, List.set_cons_succ, i64_w, i32_w]
          rfl
        refine pure_ (i := 16) (N := some 34) (v := ?_) (a' := ?_) #[Tt,Tt,Tt,Tt,Tt,Tt,Tt,Tt,Tt,Tt,Tt,Tt,Tt,Tt,Tt,Tt,Tt,Ff,Ff,Ff,Ff,Ff,Ff] rfl rfl (any_of HT_.out (by kernel_rfl)) (fun _ _ _ h => h) (Or.inl ⟨by rfl, ?_⟩) ?_ ?_;rotate_left;(intro w';go_simp;with_reducible rfl);rotate_left;(simp only [Act.put, List.setIfInBounds_toArray, List.set_cons_zero, List.set_cons_succ, i64_w, i32_w];rfl)
        refine pure_ (i := 17) (N := some 51) (v := ?_) (a' := ?_) #[Tt,Tt,Tt,Tt,Tt,Tt,Tt,Tt,Tt,Tt,Tt,Tt,Tt,Tt,Tt,Tt,Tt,Tt,Ff,Ff,Ff,Ff,Ff] rfl rfl (any_of HT_.out (by kernel_rfl)) (fun _ _ _ h => h) (Or.inl ⟨by rfl, ?_⟩) ?_ ?_;rotate_left;(intro w';go_simp;with_reducible rfl);rotate_left;(simp only [Act.put, List.setIfInBounds_toArray, List.set_cons_zero, List.set_cons_succ, i64_w, i32_w];rfl)
        refine pure_ (i := 18) (N := some 52) (v := ?_) (a' := ?_) #[Tt,Tt,Tt,Tt,Tt,Tt,Tt,Tt,Tt,Tt,Tt,Tt,Tt,Tt,Tt,Tt,Tt,Tt,Tt,Ff,Ff,Ff,Ff] rfl rfl (any_of HT_.out (by kernel_rfl)) (fun _ _ _ h => h) (Or.inl ⟨by rfl, ?_⟩) ?_ ?_;rotate_left;(intro w';go_simp;with_reducible rfl);rotate_left;(simp only [Act.put, List.setIfInBounds_toArray, List.set_cons_zero, List.set_cons_succ, i64_w, i32_w];rfl)
        refine pure_ (i := 19) (N := some 53) (v := ?_) (a' := ?_) #[Tt,Tt,Tt,Tt,Tt,Tt,Tt,Tt,Tt,Tt,Tt,Tt,Tt,Tt,Tt,Tt,Tt,Tt,Tt,Tt,Ff,Ff,Ff] rfl rfl (any_of HT_.out (by kernel_rfl)) (fun _ _ _ h => h) (Or.inl ⟨by rfl, ?_⟩) ?_ ?_;rotate_left;(intro w';go_simp;with_reducible rfl);rotate_left;(simp only [Act.put, List.setIfInBounds_toArray, List.set_cons_zero, List.set_cons_succ, i64_w, i32_w];rfl)
        refine pure_ (i := 20) (N := some 54) (v := ?_) (a' := ?_) #[Tt,Tt,Tt,Tt,Tt,Tt,Tt,Tt,Tt,Tt,Tt,Tt,Tt,Tt,Tt,Tt,Tt,Tt,Tt,Tt,Tt,Ff,Ff] rfl rfl (any_of HT_.out (by kernel_rfl)) (fun _ _ _ h => h) (Or.inl ⟨by rfl, ?_⟩) ?_ ?_;rotate_left;(intro w';go_simp;with_reducible rfl);rotate_left;(simp only [Act.put, List.setIfInBounds_toArray, List.set_cons_zero, List.set_cons_succ, i64_w, i32_w];rfl)
        refine pure_ (i := 21) (N := some 55) (v := ?_) (a' := ?_) #[Tt,Tt,Tt,Tt,Tt,Tt,Tt,Tt,Tt,Tt,Tt,Tt,Tt,Tt,Tt,Tt,Tt,Tt,Tt,Tt,Tt,Tt,Ff] rfl rfl (any_of HT_.out (by kernel_rfl)) (fun _ _ _ h => h) (Or.inl ⟨by rfl, ?_⟩) ?_ ?_;rotate_left;(intro w';go_simp;with_reducible rfl);rotate_left;(simp only [Act.put, List.setIfInBounds_toArray, List.set_cons_zero, List.set_cons_succ, i64_w, i32_w];rfl)
        refine last_ (i := 22) (N := none) #[Tt,Tt,Tt,Tt,Tt,Tt,Tt,Tt,Tt,Tt,Tt,Tt,Tt,Tt,Tt,Tt,Tt,Tt,Tt,Tt,Tt,Tt,Tt] rfl rfl (one_of HT_.out (by kernel_rfl)) (by decide) (fun K hK => ?_)
        refine skip_ (w1 := ?_) (by rfl) rfl ?_ ?_
        rotate_left
        · go_simp
          rfl
        refine hK.out _ _ ?_
        clear hK K
        refine done_ (done_of HT_.out (by kernel_rfl)) ?_
        clear f3 a3 K3
        generalize w3.setCell ⟨cp, q.toNat * 7 + 3, none⟩ (.int .i64 (addM (prtAt o q).tok.f3 2)) = w4 at *
        have s1 : w4.cell? ⟨b, 1, none⟩ = some (.slice (some ⟨cp, 0, none⟩) out.length co) := (blk_cell K4.out.map 1).trans rfl
        obtain ⟨k5, f6⟩ := K4.out.put q HQ.out.1 HQ.out.2.1 6 (by decide) (.bool true) rfl (prtMark 2 (prtAt o q)) (fun _ => by rw [prtAt_set_self HQ.out.1 (by have := HQ.out.2.1; omega)]; rfl) (by rw [prtAt_set_self HQ.out.1 (by have := HQ.out.2.1; omega)]; rfl)
        rw [List.set_set] at k5
        obtain ⟨_, _, _, _, _, _, _, _, a6⟩ := prt_at K4.out.row q HQ.out.1 HQ.out.2.1
        have K5 := Aside0.mk k5
        clear k5 K4 hn
        go_wp2
        go_roundg f
        case measure => omega
        case rel => exact ⟨q + 1, _, by rw [hwq], ⟨by have := HQ.out; omega, by have := HQ.out; omega, by have := HF.out; omega, K5.out, HM.out, (prtAt_set_ne HQ.out.1 NN.out.1 (by have := HQ.out; omega) _).trans HP.out.1, (prtAt_set_ne HQ.out.1 (by have := NN.out; omega) (by have := HQ.out; omega) _).trans HP.out.2⟩⟩

end Go.Proofs.YtfnafjohfmlniaaDoor.PCr
