-- Written for this claim by a program (printed texts under one roof).
import Derived.Test.YtfnafjohfmlniaaDoorPCsx0
import Derived.Test.YtfnafjohfmlniaaDoorPCsy0
import Derived.Test.YtfnafjohfmlniaaDoorPCsy3
import Derived.Test.YtfnafjohfmlniaaDoorPCsy4
import Derived.Test.YtfnafjohfmlniaaDoorPCsy5
import Derived.Test.YtfnafjohfmlniaaDoorPCsy6
import Derived.Test.YtfnafjohfmlniaaDoorPCsy2
-- Written for this claim by a program (the kit's print, with hand-made contracts for what it does not take).
namespace Go.Proofs.YtfnafjohfmlniaaDoor.PCs
open Go.RowKit Go.Proofs.YtfnafjohfmlniaaDoorW.PrintWords Go.Proofs.YtfnafjohfmlniaaDoorW.PrintLast Go.Proofs.YtfnafjohfmlniaaDoorW.PrintMore
attribute [local go_sem] max2_int min2_int max_two min_two max_three min_three max_four min_four   -- for this text's walks alone
set_option linter.unusedVariables false
set_option linter.unusedSimpArgs false

/-! ### emenderref28_paired: function 21 -/
/-! ### The document finds all pairs -/
theorem pair_passed (o : List Prt) (a j k : Int) (h0 : 0 ≤ a) (ha : a < j) (hj : j < (o.length : Int)) (hk : j ≤ k) : (prtAt (common_pair.f o a j) k).passed = (prtAt o k).passed := by
 have main : ∀ (m n : Int), (prtAt (common_pair.take n (common_pair.take n (common_pair.marks m o (a + 1) (j - a - 1).toNat) a) j) k).passed = (prtAt o k).passed := fun m n => by
  unfold common_pair.take
  have e : prtAt ((common_pair.marks m o (a + 1) (j - a - 1).toNat).set a.toNat (prtLeft n (prtAt (common_pair.marks m o (a + 1) (j - a - 1).toNat) a))) k = prtAt o k := by
   rw [prtAt_set_ne h0 (by omega) (by omega), marks_at m _ o (a + 1) k (by omega) (by omega) (by omega)]
  by_cases c : j = k
  ·subst c
   rw [prtAt_set_self (by omega) (by rw [List.length_set, common_pair.marks_len]; exact hj), e]
   rfl
  ·rw [prtAt_set_ne (by omega) (by omega) c, e]
 unfold common_pair.f
 split <;> exact main _ _
theorem refMatch (x y : Prt) (q r : S38) (hx : x.run = some q) (hy : y.run = some r) (h1 : 0 ≤ q.f1 ∧ q.f1 ≤ 4000) (h2 : 0 ≤ r.f1 ∧ r.f1 ≤ 4000) (hr : r.f4 = true) :
  emenderref28_match.f x.tok.f0 x.tok.f1 x.tok.f2 x.tok.f3 true q.f0 q.f1 q.f2 q.f3 q.f4 x.left x.passed y.tok.f0 y.tok.f1 y.tok.f2 y.tok.f3 true r.f0 r.f1 r.f2 r.f3 r.f4 y.left y.passed = some (common_opener.ok x r) := by
 unfold emenderref28_match.f common_opener.ok common_opener.three
 rw [hx]
 dsimp only
 have w1 : wrap64 (q.f1 + r.f1) = q.f1 + r.f1 := by unfold wrap64; omega
 rw [w1, Int.tmod_eq_emod_of_nonneg (show 0 ≤ q.f1 + r.f1 by omega), Int.tmod_eq_emod_of_nonneg h1.1, Int.tmod_eq_emod_of_nonneg h2.1, hr]
 have three : (if (q.f1 + r.f1) % 3 = 0 then (if q.f1 % 3 = 0 then some (r.f1 % 3 == 0) else some false) else some true) = some (!(decide ((q.f1 + r.f1) % 3 = 0) && (decide (q.f1 % 3 ≠ 0) || decide (r.f1 % 3 ≠ 0)))) := by
  by_cases c1 : (q.f1 + r.f1) % 3 = 0
  ·rw [if_pos c1]
   by_cases c2 : q.f1 % 3 = 0
   ·rw [if_pos c2]
    by_cases c3 : r.f1 % 3 = 0
    ·simp [c1, c2, c3]
    ·simp [c1, c2, c3]
   ·rw [if_neg c2]
    simp [c1, c2]
  ·rw [if_neg c1]
   simp [c1]
 rw [three]
 by_cases s1 : q.f2 = r.f2
 ·rw [if_pos s1, decide_eq_true s1]
  cases q.f3 with
  | false => rw [if_neg (by decide)]; simp
  | true =>
   rw [if_pos rfl]
   cases x.passed with
   | true => rw [if_pos rfl]; rfl
   | false =>
    rw [if_neg (by decide)]
    by_cases l0 : x.left = 0
    ·rw [if_pos l0]; simp [l0]
    ·rw [if_neg l0, decide_eq_true l0]
     cases q.f4 with
     | true => rw [if_pos rfl]; simp
     | false =>
      rw [if_neg (by decide)]
      cases r.f3 with
      | true => rw [if_pos rfl, if_pos rfl]; simp
      | false => rw [if_neg (by decide)]; rfl
 ·rw [if_neg s1, decide_eq_false s1]
  simp
/-- What is kept of the row while its parts are paired. -/
structure emenderref28_paired.I (w0 : World) (n g cap : Nat) (j : Int) (o : List Prt) (W : World) : Prop where
 row : refR W w0.heap.size g n cap o
 below : Below w0.heap.size w0 W
 good : prtsGood o
 len : o.length = n
 np : ∀ k, j ≤ k → k < (n : Int) → (prtAt o k).passed = false
theorem emenderref28_paired.I.weak {w0 : World} {n g cap : Nat} {j : Int} {o : List Prt} {W W1 : World} (h : emenderref28_paired.I w0 n g cap j o W) (hb : Below W.heap.size W W1) : emenderref28_paired.I w0 n g cap j o W1 :=
 ⟨h.row.below hb, h.below.trans (hb.mono h.below.size), h.good, h.len, h.np⟩
theorem emenderref28_paired.base {w0 W : World} {n g cap : Nat} {o : List Prt} (h : refR W w0.heap.size g n cap o) : w0.heap.size ≤ g := Kd.R_base h g (by simp [Value.ownBlock])
def emenderref28_paired.T6 : Bool × List (List Nat × List Nat) := (true, [([], []), ([0], [0]), ([1], [1]), ([2], [2]), ([2], [2]), ([3, 4, 2], [2, 3, 4]), ([5, 2], [2, 5]), ([6, 2], [2, 6]), ([7, 2, 2], [2, 7]), ([8], [8]), ([8], [8]), ([9, 10, 8], [8, 9, 10]), ([11, 8], [8, 11]), ([8], [8]), ([8], [8]), ([13, 14, 8], [8, 13, 14]), ([15, 8], [8, 15]), ([12, 16, 8, 8], [8, 12, 16]), ([8, 17, 2], [2, 8, 17]), ([18, 2], [2, 18]), ([2, 19], [2, 19])])
def emenderref28_paired.B6 : List Nat := [0, 1, 3, 7, 7, 31, 63, 127, 255, 511, 511, 2047, 4095, 511, 511, 25087, 57855, 131071, 262143, 524287, 1048575]
theorem emenderref28_paired.tab6 : rtab .any (opsOf Tryd.f21 6) = emenderref28_paired.T6 := by kernel_rfl
theorem emenderref28_paired.bits6 : waitsOk emenderref28_paired.T6.2 emenderref28_paired.B6 = true := by kernel_rfl
def emenderref28_paired.Post (o : List Prt) (w0 : World) (e : Ending) (w' : World) : Prop := ∃ v' : Value, e = .returned v' ∧ Kd.R k65 65 w' w0.heap.size (fun _ => True) v' ((common_match.f o).map refPart) ∧ Below w0.heap.size w0 w' ∧ prtsGood (common_match.f o) ∧ (common_match.f o).length = o.length
set_option maxRecDepth 100000 in
set_option maxHeartbeats 16000000 in
theorem emenderref28_paired.calls (v : Value) (out : List Prt) (w0 w : World) (h : Kd.R k65 65 w w0.heap.size (fun _ => True) v (out.map refPart)) (hB : Below w0.heap.size w0 w) (hl : out.length ≤ 4000) (hg : prtsGood out) (hp : ∀ x ∈ out, x.passed = false) :
  Calls Tryd.prog 21 #[v] w (emenderref28_paired.Post out w0) := by
 have hu39 := Tryd.underlying39
 have hu65 := Tryd.underlying65
 have HL := Aside0.mk hl
 obtain ⟨A, c, hv⟩ := Kd.R_slice h
 subst hv
 rw [List.length_map] at h ⊢
 by_cases cn : out.length = 0
 ·have hn : out = [] := List.length_eq_zero_iff.1 cn
  subst hn
  have H := Aside0.mk (And.intro h hB)
  clear h hB hl hg hp cn
  go_enter Tryd.func21, Tryd.ntmps21
  go_wp2
  go_loopg [0, 3, 4, 5, 6] 0 (fun kq v0 v3 v4 v5 v6 w' => v0 = .slice A 0 c ∧ v3 = .int .i64 0 ∧ Aside0 (w' = w))
  case atStart => exact ⟨rfl, rfl, ⟨rfl⟩⟩
  case round =>
   obtain ⟨rfl, rfl, HI⟩ := hrel
   obtain ⟨rfl⟩ := HI
   go_wp2
   go_ret
   exact ⟨_, rfl, H.out.1, H.out.2, fun x hx => (by cases hx), rfl⟩
 obtain ⟨g0, rfl⟩ := ref_row h (by rw [List.length_map]; omega)
 have I0 := Aside0.mk (show emenderref28_paired.I w0 out.length g0 c 0 out w from ⟨h, hB, hg, rfl, fun k k0 k1 => hp _ (prtAt_mem k0 k1)⟩)
 clear h hB hl hg hp cn
 go_enter Tryd.func21, Tryd.ntmps21
 go_wp2
 go_loopg [0, 3, 4, 5, 6] out.length (fun kq v0 v3 v4 v5 v6 w' => ∃ (j : Int) (o : List Prt) (g cap : Nat), v0 = .slice (some ⟨g, 0, none⟩) out.length cap ∧ v3 = .int .i64 j ∧ Aside0 (0 ≤ j ∧ (kq : Int) = (out.length : Int) - j ∧ common_match.out kq j o = common_match.f out ∧ emenderref28_paired.I w0 out.length g cap j o w'))
 case atStart => exact ⟨0, out, g0, c, rfl, rfl, ⟨by omega, by omega, rfl, I0.out⟩⟩
 case round =>
  clear I0
  obtain ⟨j, o, g, cap, rfl, rfl, HI⟩ := hrel
  cases gk with
  | zero =>
   have e : j = (out.length : Int) := by have := HI.out.2.1; omega
   subst e
   have c5b : decide ((out.length : Int) < (out.length : Int)) = false := decide_eq_false (by omega)
   have HG := Aside0.mk (show o = common_match.f out from HI.out.2.2.1)
   go_wp2
   go_ret
   exact ⟨_, rfl, by rw [← HG.out]; exact HI.out.2.2.2.row, HI.out.2.2.2.below, by rw [← HG.out]; exact HI.out.2.2.2.good, by rw [← HG.out]; exact HI.out.2.2.2.len⟩
  | succ f =>
  have jn : j < (out.length : Int) := by have := HI.out.2.1; omega
  have c5b : decide (j < (out.length : Int)) = true := decide_eq_true jn
  have j0 : 0 ≤ j := HI.out.1
  have j0t := eq_true j0
  have j1t := eq_true jn
  have hgo := HI.out.2.2.1
  rw [common_match.out] at hgo
  have hwj : wrap64 (j + 1) = j + 1 := by have := HL.out; unfold wrap64; omega
  have HWJ1 := Aside0.mk (show wrap64 (j - 1) = j - 1 from by have := HL.out; unfold wrap64; omega)
  have JJ := Aside0.mk (And.intro j0 (And.intro jn HI.out.2.1))
  have II := Aside0.mk HI.out.2.2.2
  have PJ := Aside0.mk (II.out.np j (Int.le_refl _) jn)
  clear HI j0 jn
  obtain ⟨run, hrun⟩ : ∃ run, (prtAt o j).run = run := ⟨_, rfl⟩
  obtain ⟨x, hx⟩ : ∃ x, prtAt o j = x := ⟨_, rfl⟩
  have FLAT : Aside0 (∀ o' : List Prt, ¬ (∃ r, (prtAt o' j).run = some r ∧ r.f4 = true) → common_match.one o' j = o') := ⟨fun o' hno => by
   unfold common_match.one
   split
   ·rfl
   ·rename_i r hr
    by_cases h4 : r.f4 = true
    ·exact absurd ⟨r, hr, h4⟩ hno
    ·rw [if_neg h4]⟩
  by_cases cl : ∃ r, (prtAt o j).run = some r ∧ r.f4 = true
  case neg =>
   have HG := Aside0.mk (show common_match.out f (j + 1) o = common_match.f out from by rw [FLAT.out o cl] at hgo; exact hgo)
   have NP2 : Aside0 (emenderref28_paired.I w0 out.length g cap (j + 1) o wr) := ⟨⟨II.out.row, II.out.below, II.out.good, II.out.len, fun k h1 h2 => II.out.np k (by omega) h2⟩⟩
   clear II hgo FLAT
   go_wp2
   go_loopg [0, 4, 5, 6] 0 (fun kq2 v0 v4 v5 v6 w' => v0 = .slice (some ⟨g, 0, none⟩) out.length cap ∧ Aside0 (emenderref28_paired.I w0 out.length g cap (j + 1) o w'))
   case atStart => exact ⟨rfl, NP2⟩
   case round =>
    clear NP2
    obtain ⟨rfl, HI⟩ := hrel
    cases run with
    | none =>
     have x4 := HI.out.row.at j JJ.out.1 JJ.out.2.1 4 (.bool false) (by unfold refPart; rw [hrun]; rfl)
     clear cl hx hrun
     go_wp2
     go_roundg f
     case measure => omega
     case rel => exact ⟨j + 1, o, g, cap, rfl, by rw [hwj], ⟨by have := JJ.out; omega, by have := JJ.out; omega, HG.out, HI.out⟩⟩
    | some r =>
     have h4 : r.f4 = false := Bool.eq_false_iff.mpr (fun e => cl ⟨r, hrun, e⟩)
     have x4 := HI.out.row.at j JJ.out.1 JJ.out.2.1 4 (.bool true) (by unfold refPart; rw [hrun]; rfl)
     have x9 := HI.out.row.at j JJ.out.1 JJ.out.2.1 9 (.bool false) (by unfold refPart; rw [hrun, ← h4]; rfl)
     clear cl hx hrun h4
     go_wp2
     go_roundg f
     case measure => omega
     case rel => exact ⟨j + 1, o, g, cap, rfl, by rw [hwj], ⟨by have := JJ.out; omega, by have := JJ.out; omega, HG.out, HI.out⟩⟩
  obtain ⟨r, hr, h4⟩ := cl
  have HG := Aside0.mk (show common_match.out f (j + 1) (common_match.inn j r 4001 o) = common_match.f out from by rw [common_match.one, hr] at hgo; simpa [h4] using hgo)
  have RUN0 := Aside0.mk (show (prtAt o j).run = some r ∧ (prtAt o j).left ≤ 4000 from ⟨hr, (II.out.good.at JJ.out.1 (by have := II.out.len; have := JJ.out; omega)).1.2⟩)
  have R4 := Aside0.mk h4
  clear hgo hr h4 hx hrun FLAT x run
  go_wp2
  go_loopg [0, 4, 5, 6] 4001 (fun kq2 v0 v4 v5 v6 w' => ∃ (o' : List Prt) (g cap : Nat), v0 = .slice (some ⟨g, 0, none⟩) out.length cap ∧ Aside0 (common_match.inn j r kq2 o' = common_match.inn j r 4001 o ∧ emenderref28_paired.I w0 out.length g cap j o' w' ∧ (prtAt o' j).run = some r ∧ (prtAt o' j).left < (kq2 : Int)))
  case atStart => exact ⟨o, g, cap, rfl, ⟨rfl, II.out, RUN0.out.1, by have := RUN0.out.2; omega⟩⟩
  case round =>
   clear II RUN0 PJ
   obtain ⟨o', g, cap, rfl, HI⟩ := hrel
   cases gk with
   | zero => have := HI.out.2.2.2; have := (HI.out.2.1.good.at JJ.out.1 (by have := HI.out.2.1.len; have := JJ.out; omega)).1; omega
   | succ f2 =>
   have hgo := HI.out.1
   rw [common_match.inn] at hgo
   have II := Aside0.mk HI.out.2.1
   have RR := Aside0.mk HI.out.2.2
   have GJ := Aside0.mk (II.out.good.at JJ.out.1 (by have := II.out.len; have := JJ.out; omega))
   have PJ := Aside0.mk (II.out.np j (Int.le_refl _) JJ.out.2.1)
   have x4 := II.out.row.at j JJ.out.1 JJ.out.2.1 4 (.bool true) (by unfold refPart; rw [RR.out.1]; rfl)
   have x9 := II.out.row.at j JJ.out.1 JJ.out.2.1 9 (.bool true) (by unfold refPart; rw [RR.out.1, ← R4.out]; rfl)
   have x10 := II.out.row.at j JJ.out.1 JJ.out.2.1 10 (.int .i64 (prtAt o' j).left) (by unfold refPart; rw [RR.out.1]; rfl)
   have x11 := II.out.row.at j JJ.out.1 JJ.out.2.1 11 (.bool false) (by unfold refPart; rw [RR.out.1, ← PJ.out]; rfl)
   clear HI
   by_cases c6 : 0 < (prtAt o' j).left
   case neg =>
    have c6b : decide (0 < (prtAt o' j).left) = false := decide_eq_false c6
    rw [if_neg c6] at hgo
    have HG3 := Aside0.mk hgo
    clear c6 hgo
    go_wp2
    go_roundg f
    case measure => omega
    case rel => exact ⟨j + 1, o', g, cap, rfl, by rw [hwj], ⟨by have := JJ.out; omega, by have := JJ.out; omega, by rw [HG3.out]; exact HG.out, ⟨II.out.row, II.out.below, II.out.good, II.out.len, fun k h1 h2 => II.out.np k (by omega) h2⟩⟩⟩
   have c6b : decide (0 < (prtAt o' j).left) = true := decide_eq_true c6
   rw [if_pos c6] at hgo
   have HG2 := Aside0.mk hgo
   have C6 := Aside0.mk c6
   clear hgo c6
   go_wp2
   clear x4 x9 x10 x11
   go_loopg [4] j.toNat (fun kq3 v4 w' => ∃ (a : Int), v4 = .int .i64 a ∧ Aside0 (-1 ≤ a ∧ (kq3 : Int) = a + 1 ∧ a < j ∧ common_opener.go o' r (a + 1).toNat = common_opener.go o' r j.toNat ∧ emenderref28_paired.I w0 out.length g cap j o' w'))
   case atStart => exact ⟨j - 1, by rw [HWJ1.out], ⟨by have := JJ.out; omega, by have := JJ.out; omega, by omega, by rw [show j - 1 + 1 = j by omega], II.out⟩⟩
   case round =>
    clear II
    obtain ⟨a, rfl, HI⟩ := hrel
    have hwa : wrap64 (a - 1) = a - 1 := by have := HI.out; have := JJ.out; have := HL.out; unfold wrap64; omega
    have II := Aside0.mk HI.out.2.2.2.2
    have AA := Aside0.mk (And.intro HI.out.1 (And.intro HI.out.2.1 HI.out.2.2.1))
    have GO := Aside0.mk HI.out.2.2.2.1
    clear HI
    by_cases c7 : a < 0
    case pos =>
     have e : a = -1 := by have := AA.out.1; omega
     subst e
     have NO : Aside0 (common_opener.go o' r j.toNat < 0) := ⟨by rw [← GO.out]; show (-1 : Int) < 0; decide⟩
     have hgo := HG2.out
     rw [if_pos NO.out] at hgo
     have HG3 := Aside0.mk hgo
     clear hgo HG2 GO NO c7 hwa
     have x4 := II.out.row.at j JJ.out.1 JJ.out.2.1 4 (.bool true) (by unfold refPart; rw [RR.out.1]; rfl)
     go_wp2
     refine start_ (n := 21) (S := fun w' => w'.cell? ⟨g, j.toNat * 12 + 4, none⟩ = some (.bool true)) (ds := []) #[Ff,Ff,Ff,Ff,Ff,Ff,Ff,Ff,Ff,Ff,Ff,Ff,Ff,Ff,Ff,Ff,Ff,Ff,Ff,Ff,Ff] (by kernel_rfl) rfl rfl x4 (fun hHeld => ?_)
     refine with_tabW emenderref28_paired.tab6 emenderref28_paired.bits6 (fun HT_ HW_ => ?_)
     have II2 := Aside0.mk (II.out.weak (Below.drew (Below.refl _ wr)))
     clear II x4
     generalize wr.drew = w3 at *
     refine pure_ (i := 0) (N := some 44) (v := ?_) (a' := ?_) #[Tt,Ff,Ff,Ff,Ff,Ff,Ff,Ff,Ff,Ff,Ff,Ff,Ff,Ff,Ff,Ff,Ff,Ff,Ff,Ff,Ff] rfl rfl (any_of HT_.out (by kernel_rfl)) (fun _ _ _ h => h) (Or.inl ⟨by rfl, ?_⟩) ?_ ?_;rotate_left;(intro w';go_simp;with_reducible rfl);rotate_left;(simp only [Act.put, List.setIfInBounds_toArray, List.set_cons_zero, List.set_cons_succ, i64_w, i32_w];rfl)
     refine pure_ (i := 1) (N := some 45) (v := ?_) (a' := ?_) #[Tt,Tt,Ff,Ff,Ff,Ff,Ff,Ff,Ff,Ff,Ff,Ff,Ff,Ff,Ff,Ff,Ff,Ff,Ff,Ff,Ff] rfl rfl (any_of HT_.out (by kernel_rfl)) (fun _ _ _ h => h) (Or.inl ⟨by rfl, ?_⟩) ?_ ?_;rotate_left;(intro w';go_simp;with_reducible rfl);rotate_left;(simp only [Act.put, List.setIfInBounds_toArray, List.set_cons_zero, List.set_cons_succ, i64_w, i32_w];rfl)
     refine pure_ (i := 2) (N := some 46) (v := ?_) (a' := ?_) #[Tt,Tt,Tt,Ff,Ff,Ff,Ff,Ff,Ff,Ff,Ff,Ff,Ff,Ff,Ff,Ff,Ff,Ff,Ff,Ff,Ff] rfl rfl (any_of HT_.out (by kernel_rfl)) (fun _ _ _ h => h) (Or.inl ⟨by rfl, ?_⟩) ?_ ?_;rotate_left;(intro w';go_simp;with_reducible rfl);rotate_left;(simp only [Act.put, List.setIfInBounds_toArray, List.set_cons_zero, List.set_cons_succ, i64_w, i32_w];rfl)
     refine pure_ (i := 3) (N := some 47) (v := undef) (a' := ?_) #[Tt,Tt,Tt,Tt,Ff,Ff,Ff,Ff,Ff,Ff,Ff,Ff,Ff,Ff,Ff,Ff,Ff,Ff,Ff,Ff,Ff] rfl rfl (any_of HT_.out (by kernel_rfl)) (fun _ _ _ h => h) (Or.inr ⟨by rfl, rfl⟩) ?_ ?_;rotate_left;(simp only [Act.put, List.setIfInBounds_toArray, List.set_cons_zero, List.set_cons_succ, i64_w, i32_w];rfl)
     refine pure_ (i := 4) (N := some 48) (v := undef) (a' := ?_) #[Tt,Tt,Tt,Tt,Tt,Ff,Ff,Ff,Ff,Ff,Ff,Ff,Ff,Ff,Ff,Ff,Ff,Ff,Ff,Ff,Ff] rfl rfl (any_of HT_.out (by kernel_rfl)) (fun _ _ _ h => h) (Or.inr ⟨by rfl, rfl⟩) ?_ ?_;rotate_left;(simp only [Act.put, List.setIfInBounds_toArray, List.set_cons_zero, List.set_cons_succ, i64_w, i32_w];rfl)
     refine pure_ (i := 5) (N := some 49) (v := undef) (a' := ?_) #[Tt,Tt,Tt,Tt,Tt,Tt,Ff,Ff,Ff,Ff,Ff,Ff,Ff,Ff,Ff,Ff,Ff,Ff,Ff,Ff,Ff] rfl rfl (any_of HT_.out (by kernel_rfl)) (fun _ _ _ h => h) (Or.inr ⟨by rfl, rfl⟩) ?_ ?_;rotate_left;(simp only [Act.put, List.setIfInBounds_toArray, List.set_cons_zero, List.set_cons_succ, i64_w, i32_w];rfl)
     refine pure_ (i := 6) (N := some 50) (v := undef) (a' := ?_) #[Tt,Tt,Tt,Tt,Tt,Tt,Tt,Ff,Ff,Ff,Ff,Ff,Ff,Ff,Ff,Ff,Ff,Ff,Ff,Ff,Ff] rfl rfl (any_of HT_.out (by kernel_rfl)) (fun _ _ _ h => h) (Or.inr ⟨by rfl, rfl⟩) ?_ ?_;rotate_left;(simp only [Act.put, List.setIfInBounds_toArray, List.set_cons_zero, List.set_cons_succ, i64_w, i32_w];rfl)
     refine pure_ (i := 7) (N := some 51) (v := undef) (a' := ?_) #[Tt,Tt,Tt,Tt,Tt,Tt,Tt,Tt,Ff,Ff,Ff,Ff,Ff,Ff,Ff,Ff,Ff,Ff,Ff,Ff,Ff] rfl rfl (any_of HT_.out (by kernel_rfl)) (fun _ _ _ h => h) (Or.inr ⟨by rfl, rfl⟩) ?_ ?_;rotate_left;(simp only [Act.put, List.setIfInBounds_toArray, List.set_cons_zero, List.set_cons_succ, i64_w, i32_w];rfl)
     refine pure_ (i := 8) (N := some 52) (v := undef) (a' := ?_) #[Tt,Tt,Tt,Tt,Tt,Tt,Tt,Tt,Tt,Ff,Ff,Ff,Ff,Ff,Ff,Ff,Ff,Ff,Ff,Ff,Ff] rfl rfl (any_of HT_.out (by kernel_rfl)) (fun _ _ _ h => h) (Or.inr ⟨by rfl, rfl⟩) ?_ ?_;rotate_left;(simp only [Act.put, List.setIfInBounds_toArray, List.set_cons_zero, List.set_cons_succ, i64_w, i32_w];rfl)
     refine pure_ (i := 9) (N := some 53) (v := undef) (a' := ?_) #[Tt,Tt,Tt,Tt,Tt,Tt,Tt,Tt,Tt,Tt,Ff,Ff,Ff,Ff,Ff,Ff,Ff,Ff,Ff,Ff,Ff] rfl rfl (any_of HT_.out (by kernel_rfl)) (fun _ _ _ h => h) (Or.inr ⟨by rfl, rfl⟩) ?_ ?_;rotate_left;(simp only [Act.put, List.setIfInBounds_toArray, List.set_cons_zero, List.set_cons_succ, i64_w, i32_w];rfl)
     refine pure_ (i := 10) (N := some 54) (v := undef) (a' := ?_) #[Tt,Tt,Tt,Tt,Tt,Tt,Tt,Tt,Tt,Tt,Tt,Ff,Ff,Ff,Ff,Ff,Ff,Ff,Ff,Ff,Ff] rfl rfl (any_of HT_.out (by kernel_rfl)) (fun _ _ _ h => h) (Or.inr ⟨by rfl, rfl⟩) ?_ ?_;rotate_left;(simp only [Act.put, List.setIfInBounds_toArray, List.set_cons_zero, List.set_cons_succ, i64_w, i32_w];rfl)
     refine pure_ (i := 11) (N := some 55) (v := undef) (a' := ?_) #[Tt,Tt,Tt,Tt,Tt,Tt,Tt,Tt,Tt,Tt,Tt,Tt,Ff,Ff,Ff,Ff,Ff,Ff,Ff,Ff,Ff] rfl rfl (any_of HT_.out (by kernel_rfl)) (fun _ _ _ h => h) (Or.inr ⟨by rfl, rfl⟩) ?_ ?_;rotate_left;(simp only [Act.put, List.setIfInBounds_toArray, List.set_cons_zero, List.set_cons_succ, i64_w, i32_w];rfl)
     refine pure_ (i := 12) (N := some 56) (v := undef) (a' := ?_) #[Tt,Tt,Tt,Tt,Tt,Tt,Tt,Tt,Tt,Tt,Tt,Tt,Tt,Ff,Ff,Ff,Ff,Ff,Ff,Ff,Ff] rfl rfl (any_of HT_.out (by kernel_rfl)) (fun _ _ _ h => h) (Or.inr ⟨by rfl, rfl⟩) ?_ ?_;rotate_left;(simp only [Act.put, List.setIfInBounds_toArray, List.set_cons_zero, List.set_cons_succ, i64_w, i32_w];rfl)
     refine pure_ (i := 13) (N := some 57) (v := undef) (a' := ?_) #[Tt,Tt,Tt,Tt,Tt,Tt,Tt,Tt,Tt,Tt,Tt,Tt,Tt,Tt,Ff,Ff,Ff,Ff,Ff,Ff,Ff] rfl rfl (any_of HT_.out (by kernel_rfl)) (fun _ _ _ h => h) (Or.inr ⟨by rfl, rfl⟩) ?_ ?_;rotate_left;(simp only [Act.put, List.setIfInBounds_toArray, List.set_cons_zero, List.set_cons_succ, i64_w, i32_w];rfl)
     refine pure_ (i := 14) (N := some 58) (v := undef) (a' := ?_) #[Tt,Tt,Tt,Tt,Tt,Tt,Tt,Tt,Tt,Tt,Tt,Tt,Tt,Tt,Tt,Ff,Ff,Ff,Ff,Ff,Ff] rfl rfl (any_of HT_.out (by kernel_rfl)) (fun _ _ _ h => h) (Or.inr ⟨by rfl, rfl⟩) ?_ ?_;rotate_left;(simp only [Act.put, List.setIfInBounds_toArray, List.set_cons_zero, List.set_cons_succ, i64_w, i32_w];rfl)
     refine pure_ (i := 15) (N := some 59) (v := undef) (a' := ?_) #[Tt,Tt,Tt,Tt,Tt,Tt,Tt,Tt,Tt,Tt,Tt,Tt,Tt,Tt,Tt,Tt,Ff,Ff,Ff,Ff,Ff] rfl rfl (any_of HT_.out (by kernel_rfl)) (fun _ _ _ h => h) (Or.inr ⟨by rfl, rfl⟩) ?_ ?_;rotate_left;(simp only [Act.put, List.setIfInBounds_toArray, List.set_cons_zero, List.set_cons_succ, i64_w, i32_w];rfl)
     refine pure_ (i := 16) (N := some 60) (v := undef) (a' := ?_) #[Tt,Tt,Tt,Tt,Tt,Tt,Tt,Tt,Tt,Tt,Tt,Tt,Tt,Tt,Tt,Tt,Tt,Ff,Ff,Ff,Ff] rfl rfl (any_of HT_.out (by kernel_rfl)) (fun _ _ _ h => h) (Or.inr ⟨by rfl, rfl⟩) ?_ ?_;rotate_left;(simp only [Act.put, List.setIfInBounds_toArray, List.set_cons_zero, List.set_cons_succ, i64_w, i32_w];rfl)
     refine pure_ (i := 17) (N := some 61) (v := undef) (a' := ?_) #[Tt,Tt,Tt,Tt,Tt,Tt,Tt,Tt,Tt,Tt,Tt,Tt,Tt,Tt,Tt,Tt,Tt,Tt,Ff,Ff,Ff] rfl rfl (any_of HT_.out (by kernel_rfl)) (fun _ _ _ h => h) (Or.inr ⟨by rfl, rfl⟩) ?_ ?_;rotate_left;(simp only [Act.put, List.setIfInBounds_toArray, List.set_cons_zero, List.set_cons_succ, i64_w, i32_w];rfl)
     refine pure_ (i := 18) (N := some 62) (v := undef) (a' := ?_) #[Tt,Tt,Tt,Tt,Tt,Tt,Tt,Tt,Tt,Tt,Tt,Tt,Tt,Tt,Tt,Tt,Tt,Tt,Tt,Ff,Ff] rfl rfl (any_of HT_.out (by kernel_rfl)) (fun _ _ _ h => h) (Or.inr ⟨by rfl, rfl⟩) ?_ ?_;rotate_left;(simp only [Act.put, List.setIfInBounds_toArray, List.set_cons_zero, List.set_cons_succ, i64_w, i32_w];rfl)
     refine pure_ (i := 19) (N := some 63) (v := undef) (a' := ?_) #[Tt,Tt,Tt,Tt,Tt,Tt,Tt,Tt,Tt,Tt,Tt,Tt,Tt,Tt,Tt,Tt,Tt,Tt,Tt,Tt,Ff] rfl rfl (any_of HT_.out (by kernel_rfl)) (fun _ _ _ h => h) (Or.inr ⟨by rfl, rfl⟩) ?_ ?_;rotate_left;(simp only [Act.put, List.setIfInBounds_toArray, List.set_cons_zero, List.set_cons_succ, i64_w, i32_w];rfl)
     refine pure_ (i := 20) (N := some 64) (v := ?_) (a' := ?_) #[Tt,Tt,Tt,Tt,Tt,Tt,Tt,Tt,Tt,Tt,Tt,Tt,Tt,Tt,Tt,Tt,Tt,Tt,Tt,Tt,Tt] rfl rfl (any_of HT_.out (by kernel_rfl)) (fun _ _ _ h => h) (Or.inl ⟨by rfl, ?_⟩) ?_ ?_;rotate_left;(intro w';go_simp;with_reducible rfl);rotate_left;(simp only [Act.put, List.setIfInBounds_toArray, List.set_cons_zero, List.set_cons_succ, i64_w, i32_w];rfl)
     refine done_ (done_of HT_.out (by kernel_rfl)) ?_
     have x8 := II2.out.row.at j JJ.out.1 JJ.out.2.1 8 (.bool r.f3) (by unfold refPart; rw [RR.out.1]; rfl)
     have x11 := II2.out.row.at j JJ.out.1 JJ.out.2.1 11 (.bool (prtAt o' j).passed) (by unfold refPart; rw [RR.out.1]; rfl)
     obtain ⟨p1, p2, f11⟩ := II2.out.row.put j JJ.out.1 JJ.out.2.1 11 (by decide) (.bool (!r.f3)) rfl (prtPass (!r.f3) (prtAt o' j)) (by unfold refPart prtPass; rw [RR.out.1]; rfl)
     have R3 := Aside0.mk p1
     have B3 := Aside0.mk (II2.out.below.setCell (p := ⟨g, j.toNat * 12 + 11, none⟩) (emenderref28_paired.base II2.out.row) (.bool (!r.f3)))
     clear p1 p2
     go_wp2
     go_roundg f
     case measure => omega
     case rel => exact ⟨j + 1, _, g, cap, rfl, by rw [hwj], ⟨by have := JJ.out; omega, by have := JJ.out; omega, by rw [HG3.out]; exact HG.out, ⟨R3.out, B3.out, II2.out.good.set _ GJ.out, by rw [List.length_set]; exact II2.out.len, fun k h1 h2 => by rw [prtAt_set_ne JJ.out.1 (by have := JJ.out; omega) (by omega)]; exact II2.out.np k (by omega) h2⟩⟩⟩
    have a0 : 0 ≤ a := by omega
    have a1 : a < (out.length : Int) := by have := AA.out; have := JJ.out; omega
    have a0t := eq_true a0
    have a1t := eq_true a1
    have OA := Aside0.mk (And.intro a0 a1)
    have NXT : Aside0 (common_opener.go o' r (a + 1).toNat = if common_opener.ok (prtAt o' a) r = true then a else common_opener.go o' r a.toNat) := ⟨by rw [show (a + 1).toNat = a.toNat + 1 by omega, common_opener.go, show ((a.toNat : Nat) : Int) = a by omega]⟩
    have a0b : decide (a ≥ 0) = true := decide_eq_true a0
    clear c7 a0 a1
    obtain ⟨x, hx⟩ : ∃ x, prtAt o' a = x := ⟨_, rfl⟩
    have HX := Aside0.mk hx
    rw [hx] at NXT
    clear hx
    obtain ⟨⟨t0, t1, t2, t3⟩, run, left, passed⟩ := x
    cases run with
    | none =>
     have GO2 := Aside0.mk (show common_opener.go o' r a.toNat = common_opener.go o' r j.toNat from by rw [← GO.out, NXT.out]; rfl)
     have z4 := II.out.row.at a OA.out.1 OA.out.2 4 (.bool false) (by rw [HX.out]; rfl)
     clear GO NXT
     go_wp2
     refine start_ (n := 21) (S := fun w' => w'.cell? ⟨g, a.toNat * 12 + 4, none⟩ = some (.bool false)) (ds := []) #[Ff,Ff,Ff,Ff,Ff,Ff,Ff,Ff,Ff,Ff,Ff,Ff,Ff,Ff,Ff,Ff,Ff,Ff,Ff,Ff,Ff] (by kernel_rfl) rfl rfl z4 (fun hHeld => ?_)
     refine with_tabW emenderref28_paired.tab6 emenderref28_paired.bits6 (fun HT_ HW_ => ?_)
     have II2 := Aside0.mk (II.out.weak (Below.drew (Below.refl _ wr)))
     clear II z4
     generalize wr.drew = w3 at *
     refine pure_ (i := 0) (N := some 44) (v := ?_) (a' := ?_) #[Tt,Ff,Ff,Ff,Ff,Ff,Ff,Ff,Ff,Ff,Ff,Ff,Ff,Ff,Ff,Ff,Ff,Ff,Ff,Ff,Ff] rfl rfl (any_of HT_.out (by kernel_rfl)) (fun _ _ _ h => h) (Or.inl ⟨by rfl, ?_⟩) ?_ ?_;rotate_left;(intro w';go_simp;with_reducible rfl);rotate_left;(simp only [Act.put, List.setIfInBounds_toArray, List.set_cons_zero, List.set_cons_succ, i64_w, i32_w];rfl)
     refine pure_ (i := 1) (N := some 45) (v := ?_) (a' := ?_) #[Tt,Tt,Ff,Ff,Ff,Ff,Ff,Ff,Ff,Ff,Ff,Ff,Ff,Ff,Ff,Ff,Ff,Ff,Ff,Ff,Ff] rfl rfl (any_of HT_.out (by kernel_rfl)) (fun _ _ _ h => h) (Or.inl ⟨by rfl, ?_⟩) ?_ ?_;rotate_left;(intro w';go_simp;with_reducible rfl);rotate_left;(simp only [Act.put, List.setIfInBounds_toArray, List.set_cons_zero, List.set_cons_succ, i64_w, i32_w];rfl)
     refine pure_ (i := 2) (N := some 46) (v := ?_) (a' := ?_) #[Tt,Tt,Tt,Ff,Ff,Ff,Ff,Ff,Ff,Ff,Ff,Ff,Ff,Ff,Ff,Ff,Ff,Ff,Ff,Ff,Ff] rfl rfl (any_of HT_.out (by kernel_rfl)) (fun _ _ _ h => h) (Or.inl ⟨by rfl, ?_⟩) ?_ ?_;rotate_left;(intro w';go_simp;with_reducible rfl);rotate_left;(simp only [Act.put, List.setIfInBounds_toArray, List.set_cons_zero, List.set_cons_succ, i64_w, i32_w];rfl)
     refine pure_ (i := 3) (N := some 47) (v := ?_) (a' := ?_) #[Tt,Tt,Tt,Tt,Ff,Ff,Ff,Ff,Ff,Ff,Ff,Ff,Ff,Ff,Ff,Ff,Ff,Ff,Ff,Ff,Ff] rfl rfl (any_of HT_.out (by kernel_rfl)) (fun _ _ _ h => h) (Or.inl ⟨by rfl, ?_⟩) ?_ ?_;rotate_left;(intro w';go_simp;with_reducible rfl);rotate_left;(simp only [Act.put, List.setIfInBounds_toArray, List.set_cons_zero, List.set_cons_succ, i64_w, i32_w];rfl)
     refine pure_ (i := 4) (N := some 48) (v := ?_) (a' := ?_) #[Tt,Tt,Tt,Tt,Tt,Ff,Ff,Ff,Ff,Ff,Ff,Ff,Ff,Ff,Ff,Ff,Ff,Ff,Ff,Ff,Ff] rfl rfl (any_of HT_.out (by kernel_rfl)) (fun _ _ _ h => h) (Or.inl ⟨by rfl, ?_⟩) ?_ ?_;rotate_left;(intro w';go_simp;with_reducible rfl);rotate_left;(simp only [Act.put, List.setIfInBounds_toArray, List.set_cons_zero, List.set_cons_succ, i64_w, i32_w];rfl)
     refine pure_ (i := 5) (N := some 49) (v := ?_) (a' := ?_) #[Tt,Tt,Tt,Tt,Tt,Tt,Ff,Ff,Ff,Ff,Ff,Ff,Ff,Ff,Ff,Ff,Ff,Ff,Ff,Ff,Ff] rfl rfl (any_of HT_.out (by kernel_rfl)) (fun _ _ _ h => h) (Or.inl ⟨by rfl, ?_⟩) ?_ ?_;rotate_left;(intro w';go_simp;with_reducible rfl);rotate_left;(simp only [Act.put, List.setIfInBounds_toArray, List.set_cons_zero, List.set_cons_succ, i64_w, i32_w];rfl)
     refine pure_ (i := 6) (N := some 50) (v := ?_) (a' := ?_) #[Tt,Tt,Tt,Tt,Tt,Tt,Tt,Ff,Ff,Ff,Ff,Ff,Ff,Ff,Ff,Ff,Ff,Ff,Ff,Ff,Ff] rfl rfl (any_of HT_.out (by kernel_rfl)) (fun _ _ _ h => h) (Or.inl ⟨by rfl, ?_⟩) ?_ ?_;rotate_left;(intro w';go_simp;with_reducible rfl);rotate_left;(simp only [Act.put, List.setIfInBounds_toArray, List.set_cons_zero, List.set_cons_succ, i64_w, i32_w];rfl)
     refine take_ (i := 7) (N := some 51) (v := ?_) (a' := ?_) #[Tt,Tt,Tt,Tt,Tt,Tt,Tt,Tt,Ff,Ff,Ff,Ff,Ff,Ff,Ff,Ff,Ff,Ff,Ff,Ff,Ff] rfl rfl (take_ofW HT_.out HW_.out (by kernel_rfl)) (fun _ _ _ h => h) (Or.inl ⟨by rfl, ?_⟩) hHeld ?_ ?_;rotate_left;(intro w' s0;go_simp;with_reducible rfl);rotate_left;(simp only [Act.put, List.setIfInBounds_toArray, List.set_cons_zero, List.set_cons_succ, i64_w, i32_w];rfl)
     refine pure_ (i := 8) (N := some 52) (v := ?_) (a' := ?_) #[Tt,Tt,Tt,Tt,Tt,Tt,Tt,Tt,Tt,Ff,Ff,Ff,Ff,Ff,Ff,Ff,Ff,Ff,Ff,Ff,Ff] rfl rfl (any_of HT_.out (by kernel_rfl)) (fun _ _ _ h => h) (Or.inl ⟨by rfl, ?_⟩) ?_ ?_;rotate_left;(intro w';go_simp;with_reducible rfl);rotate_left;(simp only [Act.put, List.setIfInBounds_toArray, List.set_cons_zero, List.set_cons_succ, i64_w, i32_w];rfl)
     refine pure_ (i := 9) (N := some 53) (v := undef) (a' := ?_) #[Tt,Tt,Tt,Tt,Tt,Tt,Tt,Tt,Tt,Tt,Ff,Ff,Ff,Ff,Ff,Ff,Ff,Ff,Ff,Ff,Ff] rfl rfl (any_of HT_.out (by kernel_rfl)) (fun _ _ _ h => h) (Or.inr ⟨by rfl, rfl⟩) ?_ ?_;rotate_left;(simp only [Act.put, List.setIfInBounds_toArray, List.set_cons_zero, List.set_cons_succ, i64_w, i32_w];rfl)
     refine pure_ (i := 10) (N := some 54) (v := undef) (a' := ?_) #[Tt,Tt,Tt,Tt,Tt,Tt,Tt,Tt,Tt,Tt,Tt,Ff,Ff,Ff,Ff,Ff,Ff,Ff,Ff,Ff,Ff] rfl rfl (any_of HT_.out (by kernel_rfl)) (fun _ _ _ h => h) (Or.inr ⟨by rfl, rfl⟩) ?_ ?_;rotate_left;(simp only [Act.put, List.setIfInBounds_toArray, List.set_cons_zero, List.set_cons_succ, i64_w, i32_w];rfl)
     refine pure_ (i := 11) (N := some 55) (v := undef) (a' := ?_) #[Tt,Tt,Tt,Tt,Tt,Tt,Tt,Tt,Tt,Tt,Tt,Tt,Ff,Ff,Ff,Ff,Ff,Ff,Ff,Ff,Ff] rfl rfl (any_of HT_.out (by kernel_rfl)) (fun _ _ _ h => h) (Or.inr ⟨by rfl, rfl⟩) ?_ ?_;rotate_left;(simp only [Act.put, List.setIfInBounds_toArray, List.set_cons_zero, List.set_cons_succ, i64_w, i32_w];rfl)
     refine pure_ (i := 12) (N := some 56) (v := undef) (a' := ?_) #[Tt,Tt,Tt,Tt,Tt,Tt,Tt,Tt,Tt,Tt,Tt,Tt,Tt,Ff,Ff,Ff,Ff,Ff,Ff,Ff,Ff] rfl rfl (any_of HT_.out (by kernel_rfl)) (fun _ _ _ h => h) (Or.inr ⟨by rfl, rfl⟩) ?_ ?_;rotate_left;(simp only [Act.put, List.setIfInBounds_toArray, List.set_cons_zero, List.set_cons_succ, i64_w, i32_w];rfl)
     refine pure_ (i := 13) (N := some 57) (v := undef) (a' := ?_) #[Tt,Tt,Tt,Tt,Tt,Tt,Tt,Tt,Tt,Tt,Tt,Tt,Tt,Tt,Ff,Ff,Ff,Ff,Ff,Ff,Ff] rfl rfl (any_of HT_.out (by kernel_rfl)) (fun _ _ _ h => h) (Or.inr ⟨by rfl, rfl⟩) ?_ ?_;rotate_left;(simp only [Act.put, List.setIfInBounds_toArray, List.set_cons_zero, List.set_cons_succ, i64_w, i32_w];rfl)
     refine pure_ (i := 14) (N := some 58) (v := undef) (a' := ?_) #[Tt,Tt,Tt,Tt,Tt,Tt,Tt,Tt,Tt,Tt,Tt,Tt,Tt,Tt,Tt,Ff,Ff,Ff,Ff,Ff,Ff] rfl rfl (any_of HT_.out (by kernel_rfl)) (fun _ _ _ h => h) (Or.inr ⟨by rfl, rfl⟩) ?_ ?_;rotate_left;(simp only [Act.put, List.setIfInBounds_toArray, List.set_cons_zero, List.set_cons_succ, i64_w, i32_w];rfl)
     refine pure_ (i := 15) (N := some 59) (v := undef) (a' := ?_) #[Tt,Tt,Tt,Tt,Tt,Tt,Tt,Tt,Tt,Tt,Tt,Tt,Tt,Tt,Tt,Tt,Ff,Ff,Ff,Ff,Ff] rfl rfl (any_of HT_.out (by kernel_rfl)) (fun _ _ _ h => h) (Or.inr ⟨by rfl, rfl⟩) ?_ ?_;rotate_left;(simp only [Act.put, List.setIfInBounds_toArray, List.set_cons_zero, List.set_cons_succ, i64_w, i32_w];rfl)
     refine pure_ (i := 16) (N := some 60) (v := undef) (a' := ?_) #[Tt,Tt,Tt,Tt,Tt,Tt,Tt,Tt,Tt,Tt,Tt,Tt,Tt,Tt,Tt,Tt,Tt,Ff,Ff,Ff,Ff] rfl rfl (any_of HT_.out (by kernel_rfl)) (fun _ _ _ h => h) (Or.inr ⟨by rfl, rfl⟩) ?_ ?_;rotate_left;(simp only [Act.put, List.setIfInBounds_toArray, List.set_cons_zero, List.set_cons_succ, i64_w, i32_w];rfl)
     refine pure_ (i := 17) (N := some 61) (v := undef) (a' := ?_) #[Tt,Tt,Tt,Tt,Tt,Tt,Tt,Tt,Tt,Tt,Tt,Tt,Tt,Tt,Tt,Tt,Tt,Tt,Ff,Ff,Ff] rfl rfl (any_of HT_.out (by kernel_rfl)) (fun _ _ _ h => h) (Or.inr ⟨by rfl, rfl⟩) ?_ ?_;rotate_left;(simp only [Act.put, List.setIfInBounds_toArray, List.set_cons_zero, List.set_cons_succ, i64_w, i32_w];rfl)
     refine pure_ (i := 18) (N := some 62) (v := ?_) (a' := ?_) #[Tt,Tt,Tt,Tt,Tt,Tt,Tt,Tt,Tt,Tt,Tt,Tt,Tt,Tt,Tt,Tt,Tt,Tt,Tt,Ff,Ff] rfl rfl (any_of HT_.out (by kernel_rfl)) (fun _ _ _ h => h) (Or.inl ⟨by rfl, ?_⟩) ?_ ?_;rotate_left;(intro w';go_simp;with_reducible rfl);rotate_left;(simp only [Act.put, List.setIfInBounds_toArray, List.set_cons_zero, List.set_cons_succ, i64_w, i32_w];rfl)
     refine pure_ (i := 19) (N := some 63) (v := ?_) (a' := ?_) #[Tt,Tt,Tt,Tt,Tt,Tt,Tt,Tt,Tt,Tt,Tt,Tt,Tt,Tt,Tt,Tt,Tt,Tt,Tt,Tt,Ff] rfl rfl (any_of HT_.out (by kernel_rfl)) (fun _ _ _ h => h) (Or.inl ⟨by rfl, ?_⟩) ?_ ?_;rotate_left;(intro w';go_simp;with_reducible rfl);rotate_left;(simp only [Act.put, List.setIfInBounds_toArray, List.set_cons_zero, List.set_cons_succ, i64_w, i32_w];rfl)
     refine pure_ (i := 20) (N := some 64) (v := ?_) (a' := ?_) #[Tt,Tt,Tt,Tt,Tt,Tt,Tt,Tt,Tt,Tt,Tt,Tt,Tt,Tt,Tt,Tt,Tt,Tt,Tt,Tt,Tt] rfl rfl (any_of HT_.out (by kernel_rfl)) (fun _ _ _ h => h) (Or.inl ⟨by rfl, ?_⟩) ?_ ?_;rotate_left;(intro w';go_simp;with_reducible rfl);rotate_left;(simp only [Act.put, List.setIfInBounds_toArray, List.set_cons_zero, List.set_cons_succ, i64_w, i32_w];rfl)
     refine done_ (done_of HT_.out (by kernel_rfl)) ?_
     go_wp2
     go_roundg (gk - 1)
     case measure => have := AA.out; have := OA.out; omega
     case rel => exact ⟨a - 1, by rw [hwa], ⟨by have := OA.out; omega, by have := AA.out; have := OA.out; omega, by have := AA.out; omega, by rw [show a - 1 + 1 = a by omega]; exact GO2.out, II2.out⟩⟩
    | some q =>
     obtain ⟨y, hy⟩ : ∃ y, prtAt o' j = y := ⟨_, rfl⟩
     have GA := Aside0.mk (II.out.good.at OA.out.1 (by have := II.out.len; have := OA.out; omega))
     have MT := Aside0.mk (refMatch (prtAt o' a) (prtAt o' j) q r (by rw [HX.out]) RR.out.1 (GA.out.2 q (by rw [HX.out])).1 (GJ.out.2 r RR.out.1).1 R4.out)
     have RY := Aside0.mk RR.out.1
     rw [HX.out] at MT
     rw [hy] at MT RY
     have HY := Aside0.mk hy
     clear hy
     obtain ⟨⟨s0, s1, s2, s3⟩, run2, left2, passed2⟩ := y
     obtain rfl : run2 = some r := RY.out
     obtain ⟨q0, q1, q2, q3, q4⟩ := q
     obtain ⟨r0, r1, r2, r3, r4⟩ := r
     dsimp only at MT
     have ga : ∀ (i : Nat) (u : Value), (ptCells (refPart ⟨⟨t0, t1, t2, t3⟩, some ⟨q0, q1, q2, q3, q4⟩, left, passed⟩))[i]? = some u → wr.cell? ⟨g, a.toNat * 12 + i, none⟩ = some u := fun i u h => II.out.row.at a OA.out.1 OA.out.2 i u (by rw [HX.out]; exact h)
     have gj : ∀ (i : Nat) (u : Value), (ptCells (refPart ⟨⟨s0, s1, s2, s3⟩, some ⟨r0, r1, r2, r3, r4⟩, left2, passed2⟩))[i]? = some u → wr.cell? ⟨g, j.toNat * 12 + i, none⟩ = some u := fun i u h => II.out.row.at j JJ.out.1 JJ.out.2.1 i u (by rw [HY.out]; exact h)
     have a0_ : wr.cell? ⟨g, a.toNat * 12, none⟩ = some (.int .i64 t0) := ga 0 (.int .i64 t0) rfl
     have a1_ : wr.cell? ⟨g, a.toNat * 12 + 1, none⟩ = some (.int .i64 t1) := ga 1 (.int .i64 t1) rfl
     have a2_ : wr.cell? ⟨g, a.toNat * 12 + 2, none⟩ = some (.int .i64 t2) := ga 2 (.int .i64 t2) rfl
     have a3_ : wr.cell? ⟨g, a.toNat * 12 + 3, none⟩ = some (.int .i64 t3) := ga 3 (.int .i64 t3) rfl
     have a4_ : wr.cell? ⟨g, a.toNat * 12 + 4, none⟩ = some (.bool true) := ga 4 (.bool true) rfl
     have a5_ : wr.cell? ⟨g, a.toNat * 12 + 5, none⟩ = some (.int .i64 q0) := ga 5 (.int .i64 q0) rfl
     have a6_ : wr.cell? ⟨g, a.toNat * 12 + 6, none⟩ = some (.int .i64 q1) := ga 6 (.int .i64 q1) rfl
     have a7_ : wr.cell? ⟨g, a.toNat * 12 + 7, none⟩ = some (.int .u8 q2) := ga 7 (.int .u8 q2) rfl
     have a8_ : wr.cell? ⟨g, a.toNat * 12 + 8, none⟩ = some (.bool q3) := ga 8 (.bool q3) rfl
     have a9_ : wr.cell? ⟨g, a.toNat * 12 + 9, none⟩ = some (.bool q4) := ga 9 (.bool q4) rfl
     have a10_ : wr.cell? ⟨g, a.toNat * 12 + 10, none⟩ = some (.int .i64 left) := ga 10 (.int .i64 left) rfl
     have a11_ : wr.cell? ⟨g, a.toNat * 12 + 11, none⟩ = some (.bool passed) := ga 11 (.bool passed) rfl
     have j0_ : wr.cell? ⟨g, j.toNat * 12, none⟩ = some (.int .i64 s0) := gj 0 (.int .i64 s0) rfl
     have j1_ : wr.cell? ⟨g, j.toNat * 12 + 1, none⟩ = some (.int .i64 s1) := gj 1 (.int .i64 s1) rfl
     have j2_ : wr.cell? ⟨g, j.toNat * 12 + 2, none⟩ = some (.int .i64 s2) := gj 2 (.int .i64 s2) rfl
     have j3_ : wr.cell? ⟨g, j.toNat * 12 + 3, none⟩ = some (.int .i64 s3) := gj 3 (.int .i64 s3) rfl
     have j4_ : wr.cell? ⟨g, j.toNat * 12 + 4, none⟩ = some (.bool true) := gj 4 (.bool true) rfl
     have j5_ : wr.cell? ⟨g, j.toNat * 12 + 5, none⟩ = some (.int .i64 r0) := gj 5 (.int .i64 r0) rfl
     have j6_ : wr.cell? ⟨g, j.toNat * 12 + 6, none⟩ = some (.int .i64 r1) := gj 6 (.int .i64 r1) rfl
     have j7_ : wr.cell? ⟨g, j.toNat * 12 + 7, none⟩ = some (.int .u8 r2) := gj 7 (.int .u8 r2) rfl
     have j8_ : wr.cell? ⟨g, j.toNat * 12 + 8, none⟩ = some (.bool r3) := gj 8 (.bool r3) rfl
     have j9_ : wr.cell? ⟨g, j.toNat * 12 + 9, none⟩ = some (.bool r4) := gj 9 (.bool r4) rfl
     have j10_ : wr.cell? ⟨g, j.toNat * 12 + 10, none⟩ = some (.int .i64 left2) := gj 10 (.int .i64 left2) rfl
     have j11_ : wr.cell? ⟨g, j.toNat * 12 + 11, none⟩ = some (.bool passed2) := gj 11 (.bool passed2) rfl
     clear ga gj
     have OKE := Aside0.mk (show common_opener.ok (prtAt o' a) ⟨r0, r1, r2, r3, r4⟩ = common_opener.ok ⟨⟨t0, t1, t2, t3⟩, some ⟨q0, q1, q2, q3, q4⟩, left, passed⟩ ⟨r0, r1, r2, r3, r4⟩ from by rw [HX.out])
     generalize common_opener.ok ⟨⟨t0, t1, t2, t3⟩, some ⟨q0, q1, q2, q3, q4⟩, left, passed⟩ ⟨r0, r1, r2, r3, r4⟩ = ok at *
     go_wp2
     refine start_ (n := 21) (S := fun w' => w'.cell? ⟨g, a.toNat * 12, none⟩ = some (.int .i64 t0) ∧ w'.cell? ⟨g, a.toNat * 12 + 1, none⟩ = some (.int .i64 t1) ∧ w'.cell? ⟨g, a.toNat * 12 + 2, none⟩ = some (.int .i64 t2) ∧ w'.cell? ⟨g, a.toNat * 12 + 3, none⟩ = some (.int .i64 t3) ∧ w'.cell? ⟨g, a.toNat * 12 + 4, none⟩ = some (.bool true) ∧ w'.cell? ⟨g, a.toNat * 12 + 5, none⟩ = some (.int .i64 q0) ∧ w'.cell? ⟨g, a.toNat * 12 + 6, none⟩ = some (.int .i64 q1) ∧ w'.cell? ⟨g, a.toNat * 12 + 7, none⟩ = some (.int .u8 q2) ∧ w'.cell? ⟨g, a.toNat * 12 + 8, none⟩ = some (.bool q3) ∧ w'.cell? ⟨g, a.toNat * 12 + 9, none⟩ = some (.bool q4) ∧ w'.cell? ⟨g, a.toNat * 12 + 10, none⟩ = some (.int .i64 left) ∧ w'.cell? ⟨g, a.toNat * 12 + 11, none⟩ = some (.bool passed) ∧ w'.cell? ⟨g, j.toNat * 12, none⟩ = some (.int .i64 s0) ∧ w'.cell? ⟨g, j.toNat * 12 + 1, none⟩ = some (.int .i64 s1) ∧ w'.cell? ⟨g, j.toNat * 12 + 2, none⟩ = some (.int .i64 s2) ∧ w'.cell? ⟨g, j.toNat * 12 + 3, none⟩ = some (.int .i64 s3) ∧ w'.cell? ⟨g, j.toNat * 12 + 4, none⟩ = some (.bool true) ∧ w'.cell? ⟨g, j.toNat * 12 + 5, none⟩ = some (.int .i64 r0) ∧ w'.cell? ⟨g, j.toNat * 12 + 6, none⟩ = some (.int .i64 r1) ∧ w'.cell? ⟨g, j.toNat * 12 + 7, none⟩ = some (.int .u8 r2) ∧ w'.cell? ⟨g, j.toNat * 12 + 8, none⟩ = some (.bool r3) ∧ w'.cell? ⟨g, j.toNat * 12 + 9, none⟩ = some (.bool r4) ∧ w'.cell? ⟨g, j.toNat * 12 + 10, none⟩ = some (.int .i64 left2) ∧ w'.cell? ⟨g, j.toNat * 12 + 11, none⟩ = some (.bool passed2)) (ds := []) #[Ff,Ff,Ff,Ff,Ff,Ff,Ff,Ff,Ff,Ff,Ff,Ff,Ff,Ff,Ff,Ff,Ff,Ff,Ff,Ff,Ff] (by kernel_rfl) rfl rfl ⟨a0_, a1_, a2_, a3_, a4_, a5_, a6_, a7_, a8_, a9_, a10_, a11_, j0_, j1_, j2_, j3_, j4_, j5_, j6_, j7_, j8_, j9_, j10_, j11_⟩ (fun hHeld => ?_)
     refine with_tabW emenderref28_paired.tab6 emenderref28_paired.bits6 (fun HT_ HW_ => ?_)
     have II2 := Aside0.mk (II.out.weak (Below.drew (Below.refl _ wr)))
     clear II a0_ a1_ a2_ a3_ a4_ a5_ a6_ a7_ a8_ a9_ a10_ a11_ j0_ j1_ j2_ j3_ j4_ j5_ j6_ j7_ j8_ j9_ j10_ j11_
     generalize wr.drew = w3 at *
     refine pure_ (i := 0) (N := some 44) (v := ?_) (a' := ?_) #[Tt,Ff,Ff,Ff,Ff,Ff,Ff,Ff,Ff,Ff,Ff,Ff,Ff,Ff,Ff,Ff,Ff,Ff,Ff,Ff,Ff] rfl rfl (any_of HT_.out (by kernel_rfl)) (fun _ _ _ h => h) (Or.inl ⟨by rfl, ?_⟩) ?_ ?_;rotate_left;(intro w';go_simp;with_reducible rfl);rotate_left;(simp only [Act.put, List.setIfInBounds_toArray, List.set_cons_zero, List.set_cons_succ, i64_w, i32_w];rfl)
     refine pure_ (i := 1) (N := some 45) (v := ?_) (a' := ?_) #[Tt,Tt,Ff,Ff,Ff,Ff,Ff,Ff,Ff,Ff,Ff,Ff,Ff,Ff,Ff,Ff,Ff,Ff,Ff,Ff,Ff] rfl rfl (any_of HT_.out (by kernel_rfl)) (fun _ _ _ h => h) (Or.inl ⟨by rfl, ?_⟩) ?_ ?_;rotate_left;(intro w';go_simp;with_reducible rfl);rotate_left;(simp only [Act.put, List.setIfInBounds_toArray, List.set_cons_zero, List.set_cons_succ, i64_w, i32_w];rfl)
     refine pure_ (i := 2) (N := some 46) (v := ?_) (a' := ?_) #[Tt,Tt,Tt,Ff,Ff,Ff,Ff,Ff,Ff,Ff,Ff,Ff,Ff,Ff,Ff,Ff,Ff,Ff,Ff,Ff,Ff] rfl rfl (any_of HT_.out (by kernel_rfl)) (fun _ _ _ h => h) (Or.inl ⟨by rfl, ?_⟩) ?_ ?_;rotate_left;(intro w';go_simp;with_reducible rfl);rotate_left;(simp only [Act.put, List.setIfInBounds_toArray, List.set_cons_zero, List.set_cons_succ, i64_w, i32_w];rfl)
     refine pure_ (i := 3) (N := some 47) (v := ?_) (a' := ?_) #[Tt,Tt,Tt,Tt,Ff,Ff,Ff,Ff,Ff,Ff,Ff,Ff,Ff,Ff,Ff,Ff,Ff,Ff,Ff,Ff,Ff] rfl rfl (any_of HT_.out (by kernel_rfl)) (fun _ _ _ h => h) (Or.inl ⟨by rfl, ?_⟩) ?_ ?_;rotate_left;(intro w';go_simp;with_reducible rfl);rotate_left;(simp only [Act.put, List.setIfInBounds_toArray, List.set_cons_zero, List.set_cons_succ, i64_w, i32_w];rfl)
     refine pure_ (i := 4) (N := some 48) (v := ?_) (a' := ?_) #[Tt,Tt,Tt,Tt,Tt,Ff,Ff,Ff,Ff,Ff,Ff,Ff,Ff,Ff,Ff,Ff,Ff,Ff,Ff,Ff,Ff] rfl rfl (any_of HT_.out (by kernel_rfl)) (fun _ _ _ h => h) (Or.inl ⟨by rfl, ?_⟩) ?_ ?_;rotate_left;(intro w';go_simp;with_reducible rfl);rotate_left;(simp only [Act.put, List.setIfInBounds_toArray, List.set_cons_zero, List.set_cons_succ, i64_w, i32_w];rfl)
     refine pure_ (i := 5) (N := some 49) (v := ?_) (a' := ?_) #[Tt,Tt,Tt,Tt,Tt,Tt,Ff,Ff,Ff,Ff,Ff,Ff,Ff,Ff,Ff,Ff,Ff,Ff,Ff,Ff,Ff] rfl rfl (any_of HT_.out (by kernel_rfl)) (fun _ _ _ h => h) (Or.inl ⟨by rfl, ?_⟩) ?_ ?_;rotate_left;(intro w';go_simp;with_reducible rfl);rotate_left;(simp only [Act.put, List.setIfInBounds_toArray, List.set_cons_zero, List.set_cons_succ, i64_w, i32_w];rfl)
     refine pure_ (i := 6) (N := some 50) (v := ?_) (a' := ?_) #[Tt,Tt,Tt,Tt,Tt,Tt,Tt,Ff,Ff,Ff,Ff,Ff,Ff,Ff,Ff,Ff,Ff,Ff,Ff,Ff,Ff] rfl rfl (any_of HT_.out (by kernel_rfl)) (fun _ _ _ h => h) (Or.inl ⟨by rfl, ?_⟩) ?_ ?_;rotate_left;(intro w';go_simp;with_reducible rfl);rotate_left;(simp only [Act.put, List.setIfInBounds_toArray, List.set_cons_zero, List.set_cons_succ, i64_w, i32_w];rfl)
     refine take_ (i := 7) (N := some 51) (v := ?_) (a' := ?_) #[Tt,Tt,Tt,Tt,Tt,Tt,Tt,Tt,Ff,Ff,Ff,Ff,Ff,Ff,Ff,Ff,Ff,Ff,Ff,Ff,Ff] rfl rfl (take_ofW HT_.out HW_.out (by kernel_rfl)) (fun _ _ _ h => h) (Or.inl ⟨by rfl, ?_⟩) hHeld ?_ ?_;rotate_left;(rintro w' ⟨s0, s1, s2, s3, s4, s5, s6, s7, s8, s9, s10, s11, s12, s13, s14, s15, s16, s17, s18, s19, s20, s21, s22, s23⟩;go_simp;with_reducible rfl);rotate_left;(simp only [Act.put, List.setIfInBounds_toArray, List.set_cons_zero, List.set_cons_succ, i64_w, i32_w];rfl)
     refine pure_ (i := 8) (N := some 52) (v := ?_) (a' := ?_) #[Tt,Tt,Tt,Tt,Tt,Tt,Tt,Tt,Tt,Ff,Ff,Ff,Ff,Ff,Ff,Ff,Ff,Ff,Ff,Ff,Ff] rfl rfl (any_of HT_.out (by kernel_rfl)) (fun _ _ _ h => h) (Or.inl ⟨by rfl, ?_⟩) ?_ ?_;rotate_left;(intro w';go_simp;with_reducible rfl);rotate_left;(simp only [Act.put, List.setIfInBounds_toArray, List.set_cons_zero, List.set_cons_succ, i64_w, i32_w];rfl)
     refine pure_ (i := 9) (N := some 53) (v := ?_) (a' := ?_) #[Tt,Tt,Tt,Tt,Tt,Tt,Tt,Tt,Tt,Tt,Ff,Ff,Ff,Ff,Ff,Ff,Ff,Ff,Ff,Ff,Ff] rfl rfl (any_of HT_.out (by kernel_rfl)) (fun _ _ _ h => h) (Or.inl ⟨by rfl, ?_⟩) ?_ ?_;rotate_left;(intro w';go_simp;with_reducible rfl);rotate_left;(simp only [Act.put, List.setIfInBounds_toArray, List.set_cons_zero, List.set_cons_succ, i64_w, i32_w];rfl)
     refine pure_ (i := 10) (N := some 54) (v := ?_) (a' := ?_) #[Tt,Tt,Tt,Tt,Tt,Tt,Tt,Tt,Tt,Tt,Tt,Ff,Ff,Ff,Ff,Ff,Ff,Ff,Ff,Ff,Ff] rfl rfl (any_of HT_.out (by kernel_rfl)) (fun _ _ _ h => h) (Or.inl ⟨by rfl, ?_⟩) ?_ ?_;rotate_left;(intro w';go_simp;with_reducible rfl);rotate_left;(simp only [Act.put, List.setIfInBounds_toArray, List.set_cons_zero, List.set_cons_succ, i64_w, i32_w];rfl)
     refine pure_ (i := 11) (N := some 55) (v := ?_) (a' := ?_) #[Tt,Tt,Tt,Tt,Tt,Tt,Tt,Tt,Tt,Tt,Tt,Tt,Ff,Ff,Ff,Ff,Ff,Ff,Ff,Ff,Ff] rfl rfl (any_of HT_.out (by kernel_rfl)) (fun _ _ _ h => h) (Or.inl ⟨by rfl, ?_⟩) ?_ ?_;rotate_left;(intro w';go_simp;with_reducible rfl);rotate_left;(simp only [Act.put, List.setIfInBounds_toArray, List.set_cons_zero, List.set_cons_succ, i64_w, i32_w];rfl)
     refine take_ (i := 12) (N := some 56) (v := ?_) (a' := ?_) #[Tt,Tt,Tt,Tt,Tt,Tt,Tt,Tt,Tt,Tt,Tt,Tt,Tt,Ff,Ff,Ff,Ff,Ff,Ff,Ff,Ff] rfl rfl (take_ofW HT_.out HW_.out (by kernel_rfl)) (fun _ _ _ h => h) (Or.inl ⟨by rfl, ?_⟩) hHeld ?_ ?_;rotate_left;(rintro w' ⟨s0, s1, s2, s3, s4, s5, s6, s7, s8, s9, s10, s11, s12, s13, s14, s15, s16, s17, s18, s19, s20, s21, s22, s23⟩;go_simp;with_reducible rfl);rotate_left;(simp only [Act.put, List.setIfInBounds_toArray, List.set_cons_zero, List.set_cons_succ, i64_w, i32_w];rfl)
     refine pure_ (i := 13) (N := some 57) (v := ?_) (a' := ?_) #[Tt,Tt,Tt,Tt,Tt,Tt,Tt,Tt,Tt,Tt,Tt,Tt,Tt,Tt,Ff,Ff,Ff,Ff,Ff,Ff,Ff] rfl rfl (any_of HT_.out (by kernel_rfl)) (fun _ _ _ h => h) (Or.inl ⟨by rfl, ?_⟩) ?_ ?_;rotate_left;(intro w';go_simp;with_reducible rfl);rotate_left;(simp only [Act.put, List.setIfInBounds_toArray, List.set_cons_zero, List.set_cons_succ, i64_w, i32_w];rfl)
     refine pure_ (i := 14) (N := some 58) (v := ?_) (a' := ?_) #[Tt,Tt,Tt,Tt,Tt,Tt,Tt,Tt,Tt,Tt,Tt,Tt,Tt,Tt,Tt,Ff,Ff,Ff,Ff,Ff,Ff] rfl rfl (any_of HT_.out (by kernel_rfl)) (fun _ _ _ h => h) (Or.inl ⟨by rfl, ?_⟩) ?_ ?_;rotate_left;(intro w';go_simp;with_reducible rfl);rotate_left;(simp only [Act.put, List.setIfInBounds_toArray, List.set_cons_zero, List.set_cons_succ, i64_w, i32_w];rfl)
     refine pure_ (i := 15) (N := some 59) (v := ?_) (a' := ?_) #[Tt,Tt,Tt,Tt,Tt,Tt,Tt,Tt,Tt,Tt,Tt,Tt,Tt,Tt,Tt,Tt,Ff,Ff,Ff,Ff,Ff] rfl rfl (any_of HT_.out (by kernel_rfl)) (fun _ _ _ h => h) (Or.inl ⟨by rfl, ?_⟩) ?_ ?_;rotate_left;(intro w';go_simp;with_reducible rfl);rotate_left;(simp only [Act.put, List.setIfInBounds_toArray, List.set_cons_zero, List.set_cons_succ, i64_w, i32_w];rfl)
     refine take_ (i := 16) (N := some 60) (v := ?_) (a' := ?_) #[Tt,Tt,Tt,Tt,Tt,Tt,Tt,Tt,Tt,Tt,Tt,Tt,Tt,Tt,Tt,Tt,Tt,Ff,Ff,Ff,Ff] rfl rfl (take_ofW HT_.out HW_.out (by kernel_rfl)) (fun _ _ _ h => h) (Or.inl ⟨by rfl, ?_⟩) hHeld ?_ ?_;rotate_left;(rintro w' ⟨s0, s1, s2, s3, s4, s5, s6, s7, s8, s9, s10, s11, s12, s13, s14, s15, s16, s17, s18, s19, s20, s21, s22, s23⟩;go_simp;with_reducible rfl);rotate_left;(simp only [Act.put, List.setIfInBounds_toArray, List.set_cons_zero, List.set_cons_succ, i64_w, i32_w];rfl)
     refine one_ (i := 17) (N := some 61) #[Tt,Tt,Tt,Tt,Tt,Tt,Tt,Tt,Tt,Tt,Tt,Tt,Tt,Tt,Tt,Tt,Tt,Tt,Ff,Ff,Ff] rfl rfl (one_of HT_.out (by kernel_rfl)) (by decide) (fun K hK => ?_)
     refine goes_ Tryd.func37 (by kernel_rfl) rfl #[.agg #[.int .i64 t0, .int .i64 t1, .int .i64 t2, .int .i64 t3, .bool true, .int .i64 q0, .int .i64 q1, .int .u8 q2, .bool q3, .bool q4, .int .i64 left, .bool passed], .agg #[.int .i64 s0, .int .i64 s1, .int .i64 s2, .int .i64 s3, .bool true, .int .i64 r0, .int .i64 r1, .int .u8 r2, .bool r3, .bool r4, .int .i64 left2, .bool passed2]] (by rfl) rfl rfl (by simp only [List.map_toArray, List.map_cons, List.map_nil]; rfl) ?_
     refine (emenderref28_match.calls t0 t1 t2 t3 true q0 q1 q2 q3 q4 left passed s0 s1 s2 s3 true r0 r1 r2 r3 r4 left2 passed2 _ _ MT.out).mono ?_
     rintro e w4 ⟨rfl, hd⟩
     refine ⟨_, rfl, ?_⟩
     have II3 := Aside0.mk (II2.out.weak hd)
     have keep : ∀ (ad : Addr) (u : Value), w3.cell? ad = some u → w4.cell? ad = some u := fun ad u s => (hd.cell (World.block_lt_of_cell? w3 _ s)).trans s
     refine hK.out _ _ ⟨keep _ _ hHeld.1, keep _ _ hHeld.2.1, keep _ _ hHeld.2.2.1, keep _ _ hHeld.2.2.2.1, keep _ _ hHeld.2.2.2.2.1, keep _ _ hHeld.2.2.2.2.2.1, keep _ _ hHeld.2.2.2.2.2.2.1, keep _ _ hHeld.2.2.2.2.2.2.2.1, keep _ _ hHeld.2.2.2.2.2.2.2.2.1, keep _ _ hHeld.2.2.2.2.2.2.2.2.2.1, keep _ _ hHeld.2.2.2.2.2.2.2.2.2.2.1, keep _ _ hHeld.2.2.2.2.2.2.2.2.2.2.2.1, keep _ _ hHeld.2.2.2.2.2.2.2.2.2.2.2.2.1, keep _ _ hHeld.2.2.2.2.2.2.2.2.2.2.2.2.2.1, keep _ _ hHeld.2.2.2.2.2.2.2.2.2.2.2.2.2.2.1, keep _ _ hHeld.2.2.2.2.2.2.2.2.2.2.2.2.2.2.2.1, keep _ _ hHeld.2.2.2.2.2.2.2.2.2.2.2.2.2.2.2.2.1, keep _ _ hHeld.2.2.2.2.2.2.2.2.2.2.2.2.2.2.2.2.2.1, keep _ _ hHeld.2.2.2.2.2.2.2.2.2.2.2.2.2.2.2.2.2.2.1, keep _ _ hHeld.2.2.2.2.2.2.2.2.2.2.2.2.2.2.2.2.2.2.2.1, keep _ _ hHeld.2.2.2.2.2.2.2.2.2.2.2.2.2.2.2.2.2.2.2.2.1, keep _ _ hHeld.2.2.2.2.2.2.2.2.2.2.2.2.2.2.2.2.2.2.2.2.2.1, keep _ _ hHeld.2.2.2.2.2.2.2.2.2.2.2.2.2.2.2.2.2.2.2.2.2.2.1, keep _ _ hHeld.2.2.2.2.2.2.2.2.2.2.2.2.2.2.2.2.2.2.2.2.2.2.2⟩ (fun hHeld => ?_)
     clear hK K keep hd II2
     refine norm_ (a' := ?_) ?_ ?_
     rotate_left
     ·show Act.put _ (some 61) _ = _
      simp only [Act.put, List.setIfInBounds_toArray, List.set_cons_zero, List.set_cons_succ, i64_w, i32_w]
      rfl
     refine pure_ (i := 18) (N := some 62) (v := ?_) (a' := ?_) #[Tt,Tt,Tt,Tt,Tt,Tt,Tt,Tt,Tt,Tt,Tt,Tt,Tt,Tt,Tt,Tt,Tt,Tt,Tt,Ff,Ff] rfl rfl (any_of HT_.out (by kernel_rfl)) (fun _ _ _ h => h) (Or.inl ⟨by rfl, ?_⟩) ?_ ?_;rotate_left;(intro w';go_simp;with_reducible rfl);rotate_left;(simp only [Act.put, List.setIfInBounds_toArray, List.set_cons_zero, List.set_cons_succ, i64_w, i32_w];rfl)
     refine pure_ (i := 19) (N := some 63) (v := ?_) (a' := ?_) #[Tt,Tt,Tt,Tt,Tt,Tt,Tt,Tt,Tt,Tt,Tt,Tt,Tt,Tt,Tt,Tt,Tt,Tt,Tt,Tt,Ff] rfl rfl (any_of HT_.out (by kernel_rfl)) (fun _ _ _ h => h) (Or.inl ⟨by rfl, ?_⟩) ?_ ?_;rotate_left;(intro w';go_simp;with_reducible rfl);rotate_left;(simp only [Act.put, List.setIfInBounds_toArray, List.set_cons_zero, List.set_cons_succ, i64_w, i32_w];rfl)
     refine pure_ (i := 20) (N := some 64) (v := ?_) (a' := ?_) #[Tt,Tt,Tt,Tt,Tt,Tt,Tt,Tt,Tt,Tt,Tt,Tt,Tt,Tt,Tt,Tt,Tt,Tt,Tt,Tt,Tt] rfl rfl (any_of HT_.out (by kernel_rfl)) (fun _ _ _ h => h) (Or.inl ⟨by rfl, ?_⟩) ?_ ?_;rotate_left;(intro w';go_simp;with_reducible rfl);rotate_left;(simp only [Act.put, List.setIfInBounds_toArray, List.set_cons_zero, List.set_cons_succ, i64_w, i32_w];rfl)
     refine done_ (done_of HT_.out (by kernel_rfl)) ?_
     cases ok with
     | false =>
      have GO2 := Aside0.mk (show common_opener.go o' ⟨r0, r1, r2, r3, r4⟩ a.toNat = common_opener.go o' ⟨r0, r1, r2, r3, r4⟩ j.toNat from by rw [← GO.out, NXT.out]; rfl)
      clear GO NXT
      go_wp2
      go_roundg (gk - 1)
      case measure => have := AA.out; have := OA.out; omega
      case rel => exact ⟨a - 1, by rw [hwa], ⟨by have := OA.out; omega, by have := AA.out; have := OA.out; omega, by have := AA.out; omega, by rw [show a - 1 + 1 = a by omega]; exact GO2.out, II3.out⟩⟩
     | true =>
      have GO2 := Aside0.mk (show common_opener.go o' ⟨r0, r1, r2, r3, r4⟩ j.toNat = a from by rw [← GO.out, NXT.out]; rfl)
      have hgo := HG2.out
      rw [GO2.out, if_neg (by have := OA.out; omega)] at hgo
      have HG3 := Aside0.mk hgo
      have c8b : decide (a < 0) = false := decide_eq_false (by have := OA.out; omega)
      have LF : Aside0 (common_opener.ok (prtAt o' a) ⟨r0, r1, r2, r3, r4⟩ = true) := OKE
      have FA := Aside0.mk (common_pair.facts (i := a) (j := j) II3.out.good OA.out.1 (by have := AA.out; omega) (by have := II3.out.len; have := JJ.out; omega) (by have := GA.out.1; have := common_opener.ok_left LF.out; omega) (by have := C6.out; omega))
      have PP := Aside0.mk (fun k (hk : j ≤ k) => pair_passed o' a j k OA.out.1 (by have := AA.out; omega) (by have := II3.out.len; have := JJ.out; omega) hk)
      clear hgo HG2 GO NXT GO2 LF OKE
      have la := II3.out.row.at a OA.out.1 OA.out.2 10 (.int .i64 left) (by rw [HX.out]; rfl)
      have lb := II3.out.row.at j JJ.out.1 JJ.out.2.1 10 (.int .i64 left2) (by rw [HY.out]; rfl)
      have a1u := eq_true OA.out.2
      have TW : Aside0 (common_pair.two o' a j = (decide (1 < left) && decide (1 < left2))) := ⟨by unfold common_pair.two; rw [HX.out, HY.out]⟩
      by_cases d1 : 1 < left
      ·have d1b : decide (1 < left) = true := decide_eq_true d1
       have d1g : decide (left > 1) = true := d1b
       by_cases d2 : 1 < left2
       ·have d2b : decide (1 < left2) = true := decide_eq_true d2
        have d2g : decide (left2 > 1) = true := d2b
        rw [d1b, d2b] at TW
        clear d1 d2
        have BC := emenderref28_between.calls (some ⟨g, 0, none⟩) cap o' a j 1 w4 (by have h := Kd.R_reads' II3.out.row; rw [List.length_map] at h; exact h.2.2) OA.out.1 (by have := AA.out; omega) (by have := II3.out.len; have := JJ.out; omega) (by have := II3.out.len; have := HL.out; omega) (by decide)
        rw [II3.out.len] at BC
        have BC := Aside0.mk BC
        have MA := Aside0.mk (marks_at 1 (j - a - 1).toNat o' (a + 1) a (by have := OA.out; omega) OA.out.1 (by omega))
        have MJ := Aside0.mk (marks_at 1 (j - a - 1).toNat o' (a + 1) j (by have := OA.out; omega) JJ.out.1 (by have := AA.out; omega))
        have EF := Aside0.mk (show common_pair.f o' a j = common_pair.take 2 (common_pair.take 2 (common_pair.marks 1 o' (a + 1) (j - a - 1).toNat) a) j from if_pos TW.out)
        obtain ⟨om, hom⟩ : ∃ om, om = common_pair.marks 1 o' (a + 1) (j - a - 1).toNat := ⟨_, rfl⟩
        rw [← hom] at MA MJ EF
        have HOM := Aside0.mk hom
        clear hom
        go_wp2_with fail
        refine BC.out.mono ?_
        rintro e w5 ⟨cp, co, rfl, hrow, hb⟩
        rw [II3.out.len] at hrow ⊢
        rw [← HOM.out] at hrow
        have R5 := Aside0.mk (show refR w5 w0.heap.size cp out.length co om from Kd.R_lower hrow II3.out.below.size)
        have B5 := Aside0.mk (II3.out.below.trans (hb.mono II3.out.below.size))
        clear hrow hb BC HOM
        rw [HX.out] at MA
        rw [HY.out] at MJ
        have ya := R5.out.at a OA.out.1 OA.out.2 10 (.int .i64 left) (by rw [MA.out]; rfl)
        obtain ⟨p1, p2, fa⟩ := R5.out.put a OA.out.1 OA.out.2 10 (by decide) (.int .i64 (left - 2)) rfl (prtLeft 2 (prtAt om a)) (by rw [MA.out]; rfl)
        have R6 := Aside0.mk p1
        have B6 := Aside0.mk (B5.out.setCell (p := ⟨cp, a.toNat * 12 + 10, none⟩) (emenderref28_paired.base R5.out) (.int .i64 (left - 2)))
        clear p1 p2 R5 B5
        have hwl : wrap64 (left - 2) = left - 2 := by have := GA.out.1; have e := HX.out; rw [e] at this; dsimp only at this; unfold wrap64; omega
        have hwl2 : wrap64 (left2 - 2) = left2 - 2 := by have := GJ.out.1; have e := HY.out; rw [e] at this; dsimp only at this; unfold wrap64; omega
        go_upto_region 17 with (fail)
        generalize w5.setCell ⟨cp, a.toNat * 12 + 10, none⟩ (.int .i64 (left - 2)) = w6 at *
        clear ya fa
        have MJ2 := Aside0.mk ((prtAt_set_ne (o := om) OA.out.1 JJ.out.1 (by have := AA.out; omega) (prtLeft 2 (prtAt om a))).trans MJ.out)
        obtain ⟨o2, ho2⟩ : ∃ o2, o2 = om.set a.toNat (prtLeft 2 (prtAt om a)) := ⟨_, rfl⟩
        rw [← ho2] at R6 MJ2
        have O2 := Aside0.mk ho2
        clear ho2
        have yj := R6.out.at j JJ.out.1 JJ.out.2.1 10 (.int .i64 left2) (by rw [MJ2.out]; rfl)
        obtain ⟨p1, p2, fj⟩ := R6.out.put j JJ.out.1 JJ.out.2.1 10 (by decide) (.int .i64 (left2 - 2)) rfl (prtLeft 2 (prtAt o2 j)) (by rw [MJ2.out]; rfl)
        have R7 := Aside0.mk p1
        have B7 := Aside0.mk (B6.out.setCell (p := ⟨cp, j.toNat * 12 + 10, none⟩) (emenderref28_paired.base R6.out) (.int .i64 (left2 - 2)))
        clear p1 p2 R6 B6
        have EQ : Aside0 (o2.set j.toNat (prtLeft 2 (prtAt o2 j)) = common_pair.f o' a j) := ⟨by rw [EF.out, O2.out]; rfl⟩
        rw [EQ.out] at R7
        go_wp2
        go_roundg f2
        case measure => omega
        case rel => exact ⟨_, cp, co, rfl, ⟨HG3.out, ⟨R7.out, B7.out, FA.out.1, FA.out.2.1.trans II3.out.len, fun k h1 h2 => (PP.out k h1).trans (II3.out.np k h1 h2)⟩, (FA.out.2.2.2 j JJ.out.1).trans RR.out.1, by have := FA.out.2.2.1; have := RR.out.2; omega⟩⟩
       ·have d2b : decide (1 < left2) = false := decide_eq_false d2
        have d2g : decide (left2 > 1) = false := d2b
        rw [d1b, d2b] at TW
        clear d1 d2
        have BC := emenderref28_between.calls (some ⟨g, 0, none⟩) cap o' a j 2 w4 (by have h := Kd.R_reads' II3.out.row; rw [List.length_map] at h; exact h.2.2) OA.out.1 (by have := AA.out; omega) (by have := II3.out.len; have := JJ.out; omega) (by have := II3.out.len; have := HL.out; omega) (by decide)
        rw [II3.out.len] at BC
        have BC := Aside0.mk BC
        have MA := Aside0.mk (marks_at 2 (j - a - 1).toNat o' (a + 1) a (by have := OA.out; omega) OA.out.1 (by omega))
        have MJ := Aside0.mk (marks_at 2 (j - a - 1).toNat o' (a + 1) j (by have := OA.out; omega) JJ.out.1 (by have := AA.out; omega))
        have EF := Aside0.mk (show common_pair.f o' a j = common_pair.take 1 (common_pair.take 1 (common_pair.marks 2 o' (a + 1) (j - a - 1).toNat) a) j from if_neg (by rw [TW.out]; decide))
        obtain ⟨om, hom⟩ : ∃ om, om = common_pair.marks 2 o' (a + 1) (j - a - 1).toNat := ⟨_, rfl⟩
        rw [← hom] at MA MJ EF
        have HOM := Aside0.mk hom
        clear hom
        go_wp2_with fail
        refine BC.out.mono ?_
        rintro e w5 ⟨cp, co, rfl, hrow, hb⟩
        rw [II3.out.len] at hrow ⊢
        rw [← HOM.out] at hrow
        have R5 := Aside0.mk (show refR w5 w0.heap.size cp out.length co om from Kd.R_lower hrow II3.out.below.size)
        have B5 := Aside0.mk (II3.out.below.trans (hb.mono II3.out.below.size))
        clear hrow hb BC HOM
        rw [HX.out] at MA
        rw [HY.out] at MJ
        have ya := R5.out.at a OA.out.1 OA.out.2 10 (.int .i64 left) (by rw [MA.out]; rfl)
        obtain ⟨p1, p2, fa⟩ := R5.out.put a OA.out.1 OA.out.2 10 (by decide) (.int .i64 (left - 1)) rfl (prtLeft 1 (prtAt om a)) (by rw [MA.out]; rfl)
        have R6 := Aside0.mk p1
        have B6 := Aside0.mk (B5.out.setCell (p := ⟨cp, a.toNat * 12 + 10, none⟩) (emenderref28_paired.base R5.out) (.int .i64 (left - 1)))
        clear p1 p2 R5 B5
        have hwl : wrap64 (left - 1) = left - 1 := by have := GA.out.1; have e := HX.out; rw [e] at this; dsimp only at this; unfold wrap64; omega
        have hwl2 : wrap64 (left2 - 1) = left2 - 1 := by have := GJ.out.1; have e := HY.out; rw [e] at this; dsimp only at this; unfold wrap64; omega
        go_upto_region 17 with (fail)
        generalize w5.setCell ⟨cp, a.toNat * 12 + 10, none⟩ (.int .i64 (left - 1)) = w6 at *
        clear ya fa
        have MJ2 := Aside0.mk ((prtAt_set_ne (o := om) OA.out.1 JJ.out.1 (by have := AA.out; omega) (prtLeft 1 (prtAt om a))).trans MJ.out)
        obtain ⟨o2, ho2⟩ : ∃ o2, o2 = om.set a.toNat (prtLeft 1 (prtAt om a)) := ⟨_, rfl⟩
        rw [← ho2] at R6 MJ2
        have O2 := Aside0.mk ho2
        clear ho2
        have yj := R6.out.at j JJ.out.1 JJ.out.2.1 10 (.int .i64 left2) (by rw [MJ2.out]; rfl)
        obtain ⟨p1, p2, fj⟩ := R6.out.put j JJ.out.1 JJ.out.2.1 10 (by decide) (.int .i64 (left2 - 1)) rfl (prtLeft 1 (prtAt o2 j)) (by rw [MJ2.out]; rfl)
        have R7 := Aside0.mk p1
        have B7 := Aside0.mk (B6.out.setCell (p := ⟨cp, j.toNat * 12 + 10, none⟩) (emenderref28_paired.base R6.out) (.int .i64 (left2 - 1)))
        clear p1 p2 R6 B6
        have EQ : Aside0 (o2.set j.toNat (prtLeft 1 (prtAt o2 j)) = common_pair.f o' a j) := ⟨by rw [EF.out, O2.out]; rfl⟩
        rw [EQ.out] at R7
        go_wp2
        go_roundg f2
        case measure => omega
        case rel => exact ⟨_, cp, co, rfl, ⟨HG3.out, ⟨R7.out, B7.out, FA.out.1, FA.out.2.1.trans II3.out.len, fun k h1 h2 => (PP.out k h1).trans (II3.out.np k h1 h2)⟩, (FA.out.2.2.2 j JJ.out.1).trans RR.out.1, by have := FA.out.2.2.1; have := RR.out.2; omega⟩⟩
      ·have d1b : decide (1 < left) = false := decide_eq_false d1
       have d1g : decide (left > 1) = false := d1b
       rw [d1b, Bool.false_and] at TW
       clear d1
       have BC := emenderref28_between.calls (some ⟨g, 0, none⟩) cap o' a j 2 w4 (by have h := Kd.R_reads' II3.out.row; rw [List.length_map] at h; exact h.2.2) OA.out.1 (by have := AA.out; omega) (by have := II3.out.len; have := JJ.out; omega) (by have := II3.out.len; have := HL.out; omega) (by decide)
       rw [II3.out.len] at BC
       have BC := Aside0.mk BC
       have MA := Aside0.mk (marks_at 2 (j - a - 1).toNat o' (a + 1) a (by have := OA.out; omega) OA.out.1 (by omega))
       have MJ := Aside0.mk (marks_at 2 (j - a - 1).toNat o' (a + 1) j (by have := OA.out; omega) JJ.out.1 (by have := AA.out; omega))
       have EF := Aside0.mk (show common_pair.f o' a j = common_pair.take 1 (common_pair.take 1 (common_pair.marks 2 o' (a + 1) (j - a - 1).toNat) a) j from if_neg (by rw [TW.out]; decide))
       obtain ⟨om, hom⟩ : ∃ om, om = common_pair.marks 2 o' (a + 1) (j - a - 1).toNat := ⟨_, rfl⟩
       rw [← hom] at MA MJ EF
       have HOM := Aside0.mk hom
       clear hom
       go_wp2_with fail
       refine BC.out.mono ?_
       rintro e w5 ⟨cp, co, rfl, hrow, hb⟩
       rw [II3.out.len] at hrow ⊢
       rw [← HOM.out] at hrow
       have R5 := Aside0.mk (show refR w5 w0.heap.size cp out.length co om from Kd.R_lower hrow II3.out.below.size)
       have B5 := Aside0.mk (II3.out.below.trans (hb.mono II3.out.below.size))
       clear hrow hb BC HOM
       rw [HX.out] at MA
       rw [HY.out] at MJ
       have ya := R5.out.at a OA.out.1 OA.out.2 10 (.int .i64 left) (by rw [MA.out]; rfl)
       obtain ⟨p1, p2, fa⟩ := R5.out.put a OA.out.1 OA.out.2 10 (by decide) (.int .i64 (left - 1)) rfl (prtLeft 1 (prtAt om a)) (by rw [MA.out]; rfl)
       have R6 := Aside0.mk p1
       have B6 := Aside0.mk (B5.out.setCell (p := ⟨cp, a.toNat * 12 + 10, none⟩) (emenderref28_paired.base R5.out) (.int .i64 (left - 1)))
       clear p1 p2 R5 B5
       have hwl : wrap64 (left - 1) = left - 1 := by have := GA.out.1; have e := HX.out; rw [e] at this; dsimp only at this; unfold wrap64; omega
       have hwl2 : wrap64 (left2 - 1) = left2 - 1 := by have := GJ.out.1; have e := HY.out; rw [e] at this; dsimp only at this; unfold wrap64; omega
       go_upto_region 17 with (fail)
       generalize w5.setCell ⟨cp, a.toNat * 12 + 10, none⟩ (.int .i64 (left - 1)) = w6 at *
       clear ya fa
       have MJ2 := Aside0.mk ((prtAt_set_ne (o := om) OA.out.1 JJ.out.1 (by have := AA.out; omega) (prtLeft 1 (prtAt om a))).trans MJ.out)
       obtain ⟨o2, ho2⟩ : ∃ o2, o2 = om.set a.toNat (prtLeft 1 (prtAt om a)) := ⟨_, rfl⟩
       rw [← ho2] at R6 MJ2
       have O2 := Aside0.mk ho2
       clear ho2
       have yj := R6.out.at j JJ.out.1 JJ.out.2.1 10 (.int .i64 left2) (by rw [MJ2.out]; rfl)
       obtain ⟨p1, p2, fj⟩ := R6.out.put j JJ.out.1 JJ.out.2.1 10 (by decide) (.int .i64 (left2 - 1)) rfl (prtLeft 1 (prtAt o2 j)) (by rw [MJ2.out]; rfl)
       have R7 := Aside0.mk p1
       have B7 := Aside0.mk (B6.out.setCell (p := ⟨cp, j.toNat * 12 + 10, none⟩) (emenderref28_paired.base R6.out) (.int .i64 (left2 - 1)))
       clear p1 p2 R6 B6
       have EQ : Aside0 (o2.set j.toNat (prtLeft 1 (prtAt o2 j)) = common_pair.f o' a j) := ⟨by rw [EF.out, O2.out]; rfl⟩
       rw [EQ.out] at R7
       go_wp2
       go_roundg f2
       case measure => omega
       case rel => exact ⟨_, cp, co, rfl, ⟨HG3.out, ⟨R7.out, B7.out, FA.out.1, FA.out.2.1.trans II3.out.len, fun k h1 h2 => (PP.out k h1).trans (II3.out.np k h1 h2)⟩, (FA.out.2.2.2 j JJ.out.1).trans RR.out.1, by have := FA.out.2.2.1; have := RR.out.2; omega⟩⟩

end Go.Proofs.YtfnafjohfmlniaaDoor.PCs
-- Written for this claim by a program (the kit's print, with hand-made contracts for what it does not take).
namespace Go.Proofs.YtfnafjohfmlniaaDoor.PCs
open Go.RowKit Go.Proofs.YtfnafjohfmlniaaDoorW.PrintWords Go.Proofs.YtfnafjohfmlniaaDoorW.PrintLast Go.Proofs.YtfnafjohfmlniaaDoorW.PrintMore
attribute [local go_sem] max2_int min2_int max_two min_two max_three min_three max_four min_four   -- for this text's walks alone
set_option linter.unusedVariables false
set_option linter.unusedSimpArgs false

/-! ### emenderref28_Parse: function 11 -/
/-! ### The document's code points are the decoder's -/
theorem dec28_w64' {i : Int} (h : -9223372036854775808 ≤ i ∧ i ≤ 9223372036854775807) : wrap64 i = i := by unfold wrap64; omega
/-- A byte of a string. -/
def dec28_by_ (s : ByteArray) (i : Nat) : Nat := (s.get! i).toNat
theorem dec28_by_lt (s : ByteArray) (i : Nat) : dec28_by_ s i < 256 := (s.get! i).toNat_lt
theorem dec28_bt_by (s : ByteArray) (i : Nat) (h : i < s.size) : bt s (i : Int) = (dec28_by_ s i : Int) := by
 unfold bt dec28_by_
 rw [dif_pos (show (i : Int).toNat < s.size by simpa using h)]
 have e : s.get! i = s[i] := by
  cases s with
  | mk a => exact getElem!_pos a i h
 rw [e]
 rfl
theorem dec28_cont (b : Nat) (h : b < 256) : (Go.bits .and .u8 (b : Int) 192 = 128) ↔ b / 64 = 2 := by
 have := (show ∀ b : Fin 256, (Go.bits .and .u8 (b.1 : Int) 192 = 128) ↔ b.1 / 64 = 2 by decide +kernel) ⟨b, h⟩
 exact this
theorem dec28_low6 (b : Nat) (h : b < 256) : Go.bits .and .u8 (b : Int) 63 = ((b % 64 : Nat) : Int) := by
 have := (show ∀ b : Fin 256, Go.bits .and .u8 (b.1 : Int) 63 = ((b.1 % 64 : Nat) : Int) by decide +kernel) ⟨b, h⟩
 exact this
theorem dec28_lows (b : Nat) (h : b < 256) : Go.bits .and .i64 (b : Int) 31 = ((b % 32 : Nat) : Int) ∧ Go.bits .and .i64 (b : Int) 15 = ((b % 16 : Nat) : Int) ∧ Go.bits .and .i64 (b : Int) 7 = ((b % 8 : Nat) : Int) := by
 have := (show ∀ b : Fin 256, Go.bits .and .i64 (b.1 : Int) 31 = ((b.1 % 32 : Nat) : Int) ∧ Go.bits .and .i64 (b.1 : Int) 15 = ((b.1 % 16 : Nat) : Int) ∧ Go.bits .and .i64 (b.1 : Int) 7 = ((b.1 % 8 : Nat) : Int) by decide +kernel) ⟨b, h⟩
 exact this
theorem dec28_wraps_i64 (n : Int) (h₀ : 0 ≤ n) (h₁ : n < 2 ^ 63) : IntKind.i64.wrap n = n := by rw [IntKind.wrap_i64]; omega
theorem dec28_join6 (c b : Nat) (hc : c < 1000000) : Go.bits .or .i64 (wrap64 ((c : Int) * 64)) (wrap64 ((b % 64 : Nat) : Int)) = ((c * 64 + b % 64 : Nat) : Int) := by
 rw [dec28_w64' (by omega), dec28_w64' (by omega), bits_join .i64 63 (by decide) dec28_wraps_i64 6 _ _ (by omega) (by omega) (by omega) (by omega) (by omega) (by omega)]
 omega
/-- One more byte of a code dec28_point. -/
theorem dec28_pt_step (k : Nat) (s : ByteArray) (hs : s.size ≤ 65536) (i n least c j : Nat) (hj : j < n) (hn : n ≤ 4) (hin : i + n ≤ s.size) (hc : c < 1000000) :
  emenderref14_Point.l0 (k + 1) s i n least c j = if dec28_by_ s (i + j) / 64 = 2 then emenderref14_Point.l0 k s i n least ((c * 64 + dec28_by_ s (i + j) % 64 : Nat) : Int) ((j + 1 : Nat) : Int) else some (0, 0) := by
 simp only [emenderref14_Point.l0]
 have e : wrap64 ((i : Int) + (j : Int)) = ((i + j : Nat) : Int) := by rw [dec28_w64' (by omega)]; omega
 rw [if_pos (by omega), e, if_pos (by omega), if_pos (by omega), dec28_bt_by s _ (by omega), dec28_low6 _ (dec28_by_lt s _), dec28_join6 _ _ hc, show wrap64 ((j : Int) + 1) = ((j + 1 : Nat) : Int) by rw [dec28_w64' (by omega)]; omega]
 by_cases h : dec28_by_ s (i + j) / 64 = 2
 ·rw [if_pos ((dec28_cont _ (dec28_by_lt s _)).2 h), if_pos h]
 ·rw [if_neg (fun e => h ((dec28_cont _ (dec28_by_lt s _)).1 e)), if_neg h]
/-- Behind the last one. -/
theorem dec28_pt_end (k : Nat) (s : ByteArray) (i n least c : Nat) :
  emenderref14_Point.l0 (k + 1) s i n least c n = some (if c ≥ least ∧ (c < 55296 ∨ (57344 ≤ c ∧ c ≤ 1114111)) then ((c : Int), (n : Int)) else (0, 0)) := by
 simp only [emenderref14_Point.l0]
 rw [if_neg (by omega)]
 by_cases h : c < least
 ·rw [if_pos (by omega), if_neg (by omega)]
 ·rw [if_neg (by omega)]
  unfold emenderref04_Point.f
  rw [if_pos (by omega)]
  by_cases h1 : c ≤ 1114111
  ·rw [if_pos (by omega)]
   by_cases h2 : c < 55296
   ·rw [if_pos (by omega), Option.bind_some, if_pos rfl, if_pos (by omega)]
   ·rw [if_neg (by omega), Option.bind_some]
    by_cases h3 : 57344 ≤ c
    ·rw [if_pos (by simp only [decide_eq_true_eq]; omega), if_pos (by omega)]
    ·rw [if_neg (by simp only [decide_eq_true_eq]; omega), if_neg (by omega)]
  ·rw [if_neg (by omega), Option.bind_some, if_neg (by decide), if_neg (by omega)]
/-- The code dec28_point at a place, told by the decoder. -/
def dec28_P (s : ByteArray) (i : Nat) : Int × Int := if rune s i = 65533 ∧ width s i = 1 then (0, 0) else (rune s i, (width s i : Int))
theorem dec28_P_of {s : ByteArray} {i : Nat} {x : Nat × Nat} (h : Utf8.decode s i = x) : dec28_P s i = if x.1 = 65533 ∧ x.2 = 1 then (0, 0) else ((x.1 : Int), (x.2 : Int)) := by
 unfold dec28_P rune width
 rw [h]
 by_cases e : x.1 = 65533 ∧ x.2 = 1
 ·rw [if_pos e, if_pos (by omega)]
 ·rw [if_neg e, if_neg (by omega)]
theorem dec28_point_j3 (k : Nat) (s : ByteArray) (hs : s.size ≤ 65536) (i n least c : Nat) (hn : 2 ≤ n ∧ n ≤ 4) (hi : i < s.size) :
  emenderref14_Point.j2 (k + 2) s i n least c = if i + n ≤ s.size then emenderref14_Point.l0 k s i n least c 1 else some (0, 0) := by
 simp only [emenderref14_Point.j2]
 rw [if_neg (by omega), dec28_w64' (by omega)]
 by_cases h : i + n ≤ s.size
 ·rw [if_pos h, show decide ((i : Int) + (n : Int) > (s.size : Int)) = false from decide_eq_false (by omega)]
  simp only [emenderref14_Point.j3]
  rw [if_neg (by decide)]
 ·rw [if_neg h, show decide ((i : Int) + (n : Int) > (s.size : Int)) = true from decide_eq_true (by omega)]
  simp only [emenderref14_Point.j3]
  rfl
theorem dec28_point (s : ByteArray) (hs : s.size ≤ 65536) (i : Nat) (hi : i < s.size) (k : Nat) (hk : 10 ≤ k) : emenderref14_Point.f k s i = some (dec28_P s i) := by
 obtain ⟨k, rfl⟩ : ∃ m, k = m + 10 := ⟨k - 10, by omega⟩
 have hb := dec28_by_lt s i
 have l1 := dec28_by_lt s (i + 1)
 have l2 := dec28_by_lt s (i + 2)
 have l3 := dec28_by_lt s (i + 3)
 obtain ⟨m0, m1, m2⟩ := dec28_lows _ hb
 have dc := Lib.decode_at s i
 change Utf8.decode s i = Lib.decodeN (s.size - i) (dec28_by_ s i) (dec28_by_ s (i + 1)) (dec28_by_ s (i + 2)) (dec28_by_ s (i + 3)) at dc
 have e0 : wrap64 (bt s (i : Int)) = (dec28_by_ s i : Int) := by rw [dec28_bt_by s i hi, dec28_w64' (by omega)]
 unfold emenderref14_Point.f
 rw [if_pos (by omega), if_pos (by omega), e0]
 by_cases c0 : dec28_by_ s i < 128
 ·rw [if_pos (by omega), dec28_P_of (dc.trans (by unfold Lib.decodeN; rw [if_pos c0]))]
  rw [if_neg (by dsimp only; omega)]
  rfl
 rw [if_neg (by omega)]
 by_cases c1 : dec28_by_ s i / 32 = 6
 ·rw [if_pos (by omega), show decide ((dec28_by_ s i : Int) < 224) = true from decide_eq_true (by omega)]
  simp only [emenderref14_Point.j0]
  rw [if_pos trivial, m0]
  have := dec28_point_j3 (k + 7) s hs i 2 128 (dec28_by_ s i % 32) (by omega) hi
  rw [show k + 7 + 2 = k + 9 from rfl] at this
  refine this.trans ?_
  by_cases g : i + 2 ≤ s.size
  ·rw [if_pos g, show (1 : Int) = ((1 : Nat) : Int) from rfl, dec28_pt_step _ s hs i 2 128 _ 1 (by omega) (by omega) g (by omega)]
   by_cases g1 : dec28_by_ s (i + 1) / 64 = 2
   ·rw [if_pos g1, dec28_pt_end (k + 5), dec28_P_of (dc.trans (by unfold Lib.decodeN; rw [if_neg c0, if_pos ⟨c1, by omega, g1⟩]))]
    congr 1
    by_cases g2 : dec28_by_ s i % 32 * 64 + dec28_by_ s (i + 1) % 64 ≥ 128
    ·rw [if_pos ⟨g2, by omega⟩, if_pos g2, if_neg (by dsimp only; omega)]
    ·rw [if_neg (by omega), if_neg g2, if_pos (by dsimp only; omega)]
   ·rw [if_neg g1, dec28_P_of (dc.trans (by unfold Lib.decodeN; rw [if_neg c0, if_neg (by omega), if_neg (by omega), if_neg (by omega)]))]
    rfl
  ·rw [if_neg g, dec28_P_of (dc.trans (by unfold Lib.decodeN; rw [if_neg c0, if_neg (by omega), if_neg (by omega), if_neg (by omega)]))]
   rfl
 have t1 : (if (dec28_by_ s i : Int) ≥ 192 then emenderref14_Point.j0 (k + 10) s i 0 0 (dec28_by_ s i) (decide ((dec28_by_ s i : Int) < 224)) else emenderref14_Point.j0 (k + 10) s i 0 0 (dec28_by_ s i) false) = emenderref14_Point.j0 (k + 10) s i 0 0 (dec28_by_ s i) false := by
  by_cases h : (dec28_by_ s i : Int) ≥ 192
  ·rw [if_pos h, show decide ((dec28_by_ s i : Int) < 224) = false from decide_eq_false (by omega)]
  ·rw [if_neg h]
 rw [t1]
 simp only [emenderref14_Point.j0]
 rw [if_neg (by decide)]
 by_cases c2 : dec28_by_ s i / 16 = 14
 ·rw [if_pos (by omega), show decide ((dec28_by_ s i : Int) < 240) = true from decide_eq_true (by omega)]
  simp only [emenderref14_Point.j1]
  rw [if_pos trivial, m1]
  have := dec28_point_j3 (k + 6) s hs i 3 2048 (dec28_by_ s i % 16) (by omega) hi
  refine this.trans ?_
  by_cases g : i + 3 ≤ s.size
  ·rw [if_pos g, show (1 : Int) = ((1 : Nat) : Int) from rfl, dec28_pt_step _ s hs i 3 2048 _ 1 (by omega) (by omega) g (by omega)]
   by_cases g1 : dec28_by_ s (i + 1) / 64 = 2
   ·rw [if_pos g1, dec28_pt_step _ s hs i 3 2048 _ 2 (by omega) (by omega) g (by omega)]
    by_cases g2 : dec28_by_ s (i + 2) / 64 = 2
    ·rw [if_pos g2, dec28_pt_end (k + 3), dec28_P_of (dc.trans (by unfold Lib.decodeN; rw [if_neg c0, if_neg (by omega), if_pos ⟨c2, ⟨by omega, g1⟩, by omega, g2⟩]))]
     congr 1
     rw [show (dec28_by_ s i % 16 * 64 + dec28_by_ s (i + 1) % 64) * 64 + dec28_by_ s (i + 2) % 64 = dec28_by_ s i % 16 * 4096 + dec28_by_ s (i + 1) % 64 * 64 + dec28_by_ s (i + 2) % 64 by omega]
     by_cases g3 : dec28_by_ s i % 16 * 4096 + dec28_by_ s (i + 1) % 64 * 64 + dec28_by_ s (i + 2) % 64 ≥ 2048 ∧ (dec28_by_ s i % 16 * 4096 + dec28_by_ s (i + 1) % 64 * 64 + dec28_by_ s (i + 2) % 64 < 55296 ∨ (57344 ≤ dec28_by_ s i % 16 * 4096 + dec28_by_ s (i + 1) % 64 * 64 + dec28_by_ s (i + 2) % 64 ∧ dec28_by_ s i % 16 * 4096 + dec28_by_ s (i + 1) % 64 * 64 + dec28_by_ s (i + 2) % 64 ≤ 1114111))
     ·rw [if_pos g3, if_pos g3, if_neg (by dsimp only; omega)]
     ·rw [if_neg g3, if_neg g3, if_pos (by dsimp only; omega)]
    ·rw [if_neg g2, dec28_P_of (dc.trans (by unfold Lib.decodeN; rw [if_neg c0, if_neg (by omega), if_neg (by omega), if_neg (by omega)]))]
     rfl
   ·rw [if_neg g1, dec28_P_of (dc.trans (by unfold Lib.decodeN; rw [if_neg c0, if_neg (by omega), if_neg (by omega), if_neg (by omega)]))]
    rfl
  ·rw [if_neg g, dec28_P_of (dc.trans (by unfold Lib.decodeN; rw [if_neg c0, if_neg (by omega), if_neg (by omega), if_neg (by omega)]))]
   rfl
 have t2 : (if (dec28_by_ s i : Int) ≥ 224 then emenderref14_Point.j1 (k + 9) s i 0 0 (dec28_by_ s i) (decide ((dec28_by_ s i : Int) < 240)) else emenderref14_Point.j1 (k + 9) s i 0 0 (dec28_by_ s i) false) = emenderref14_Point.j1 (k + 9) s i 0 0 (dec28_by_ s i) false := by
  by_cases h : (dec28_by_ s i : Int) ≥ 224
  ·rw [if_pos h, show decide ((dec28_by_ s i : Int) < 240) = false from decide_eq_false (by omega)]
  ·rw [if_neg h]
 rw [t2]
 simp only [emenderref14_Point.j1]
 rw [if_neg (by decide)]
 by_cases c3 : dec28_by_ s i / 8 = 30
 ·rw [if_pos (by omega), if_pos (by omega), m2]
  have := dec28_point_j3 (k + 6) s hs i 4 65536 (dec28_by_ s i % 8) (by omega) hi
  refine this.trans ?_
  by_cases g : i + 4 ≤ s.size
  ·rw [if_pos g, show (1 : Int) = ((1 : Nat) : Int) from rfl, dec28_pt_step _ s hs i 4 65536 _ 1 (by omega) (by omega) g (by omega)]
   by_cases g1 : dec28_by_ s (i + 1) / 64 = 2
   ·rw [if_pos g1, dec28_pt_step _ s hs i 4 65536 _ 2 (by omega) (by omega) g (by omega)]
    by_cases g2 : dec28_by_ s (i + 2) / 64 = 2
    ·rw [if_pos g2, dec28_pt_step _ s hs i 4 65536 _ 3 (by omega) (by omega) g (by omega)]
     by_cases g3 : dec28_by_ s (i + 3) / 64 = 2
     ·rw [if_pos g3, dec28_pt_end (k + 2), dec28_P_of (dc.trans (by unfold Lib.decodeN; rw [if_neg c0, if_neg (by omega), if_neg (by omega), if_pos ⟨c3, ⟨by omega, g1⟩, ⟨by omega, g2⟩, by omega, g3⟩]))]
      congr 1
      rw [show ((dec28_by_ s i % 8 * 64 + dec28_by_ s (i + 1) % 64) * 64 + dec28_by_ s (i + 2) % 64) * 64 + dec28_by_ s (i + 3) % 64 = dec28_by_ s i % 8 * 262144 + dec28_by_ s (i + 1) % 64 * 4096 + dec28_by_ s (i + 2) % 64 * 64 + dec28_by_ s (i + 3) % 64 by omega]
      by_cases g4 : dec28_by_ s i % 8 * 262144 + dec28_by_ s (i + 1) % 64 * 4096 + dec28_by_ s (i + 2) % 64 * 64 + dec28_by_ s (i + 3) % 64 ≥ 65536 ∧ (dec28_by_ s i % 8 * 262144 + dec28_by_ s (i + 1) % 64 * 4096 + dec28_by_ s (i + 2) % 64 * 64 + dec28_by_ s (i + 3) % 64 < 55296 ∨ (57344 ≤ dec28_by_ s i % 8 * 262144 + dec28_by_ s (i + 1) % 64 * 4096 + dec28_by_ s (i + 2) % 64 * 64 + dec28_by_ s (i + 3) % 64 ∧ dec28_by_ s i % 8 * 262144 + dec28_by_ s (i + 1) % 64 * 4096 + dec28_by_ s (i + 2) % 64 * 64 + dec28_by_ s (i + 3) % 64 ≤ 1114111))
      ·rw [if_pos g4, if_pos g4, if_neg (by dsimp only; omega)]
      ·rw [if_neg g4, if_neg g4, if_pos (by dsimp only; omega)]
     ·rw [if_neg g3, dec28_P_of (dc.trans (by unfold Lib.decodeN; rw [if_neg c0, if_neg (by omega), if_neg (by omega), if_neg (by omega)]))]
      rfl
    ·rw [if_neg g2, dec28_P_of (dc.trans (by unfold Lib.decodeN; rw [if_neg c0, if_neg (by omega), if_neg (by omega), if_neg (by omega)]))]
     rfl
   ·rw [if_neg g1, dec28_P_of (dc.trans (by unfold Lib.decodeN; rw [if_neg c0, if_neg (by omega), if_neg (by omega), if_neg (by omega)]))]
    rfl
  ·rw [if_neg g, dec28_P_of (dc.trans (by unfold Lib.decodeN; rw [if_neg c0, if_neg (by omega), if_neg (by omega), if_neg (by omega)]))]
   rfl
 have t3 : (if (dec28_by_ s i : Int) ≥ 240 then (if (dec28_by_ s i : Int) < 248 then emenderref14_Point.j2 (k + 8) s i 4 65536 (Go.bits .and .i64 (dec28_by_ s i) 7) else emenderref14_Point.j2 (k + 8) s i 0 0 (dec28_by_ s i)) else emenderref14_Point.j2 (k + 8) s i 0 0 (dec28_by_ s i)) = emenderref14_Point.j2 (k + 8) s i 0 0 (dec28_by_ s i) := by
  by_cases h : (dec28_by_ s i : Int) ≥ 240
  ·rw [if_pos h, if_neg (by omega)]
  ·rw [if_neg h]
 rw [t3, dec28_P_of (dc.trans (by unfold Lib.decodeN; rw [if_neg c0, if_neg (by omega), if_neg (by omega), if_neg (by omega)]))]
 simp only [emenderref14_Point.j2]
 rw [if_pos trivial]
 simp only [emenderref14_Point.j3]
 rfl
theorem dec28_size_width (s : ByteArray) (i : Nat) (h : ¬ (rune s i = 65533 ∧ width s i = 1)) : (width s i : Int) = refSize (rune s i) := by
 have hb := dec28_by_lt s i
 have dc := Lib.decode_at s i
 change Utf8.decode s i = Lib.decodeN (s.size - i) (dec28_by_ s i) (dec28_by_ s (i + 1)) (dec28_by_ s (i + 2)) (dec28_by_ s (i + 3)) at dc
 unfold rune width at h ⊢
 rw [dc] at h ⊢
 generalize dec28_by_ s i = b0 at *
 generalize dec28_by_ s (i + 1) = b1 at *
 generalize dec28_by_ s (i + 2) = b2 at *
 generalize dec28_by_ s (i + 3) = b3 at *
 unfold Lib.decodeN at h ⊢
 unfold refSize
 by_cases c0 : b0 < 128
 ·rw [if_pos c0, if_pos (by dsimp only; omega)]; rfl
 rw [if_neg c0] at h ⊢
 by_cases c1 : b0 / 32 = 6 ∧ (1 < s.size - i ∧ b1 / 64 = 2)
 ·rw [if_pos c1] at h ⊢
  by_cases c2 : b0 % 32 * 64 + b1 % 64 ≥ 128
  ·rw [if_pos c2] at h ⊢
   rw [if_neg (by dsimp only; omega), if_pos (by dsimp only; omega)]; rfl
  ·rw [if_neg c2] at h; exact absurd ⟨rfl, rfl⟩ h
 rw [if_neg c1] at h ⊢
 by_cases c2 : b0 / 16 = 14 ∧ (1 < s.size - i ∧ b1 / 64 = 2) ∧ (2 < s.size - i ∧ b2 / 64 = 2)
 ·rw [if_pos c2] at h ⊢
  split at h
  ·rename_i c3
   rw [if_pos c3, if_neg (by dsimp only; omega), if_neg (by dsimp only; omega), if_pos (by dsimp only; omega)]; rfl
  ·exact absurd ⟨rfl, rfl⟩ h
 rw [if_neg c2] at h ⊢
 split at h
 ·rename_i c3
  rw [if_pos c3]
  split at h
  ·rename_i c4
   rw [if_pos c4, if_neg (by dsimp only; omega), if_neg (by dsimp only; omega), if_neg (by dsimp only; omega)]; rfl
  ·exact absurd ⟨rfl, rfl⟩ h
 ·exact absurd ⟨rfl, rfl⟩ h
theorem dec28_scan_len (s : ByteArray) : ∀ (f i : Nat), (common_points.scan s f i).2.length ≤ s.size - i := fun f i => (common_points.scan_facts s f i).1
theorem dec28_points_loop (s : ByteArray) (hs : s.size ≤ 65536) : ∀ (f k i : Nat) (acc : List Int), s.size - i ≤ f → f + 12 ≤ k → i ≤ s.size → acc.length ≤ i →
  emenderref14_Points.l0 k s acc i = some (match (common_points.scan s f i).1 with | some j => ([], (j : Int), false) | none => (acc ++ (common_points.scan s f i).2.map (fun x => x.f0), (s.size : Int), true))
 | 0, k, i, acc, hf, hk, hi, ha => by
  obtain ⟨k, rfl⟩ : ∃ m, k = m + 1 := ⟨k - 1, by omega⟩
  simp only [emenderref14_Points.l0, common_points.scan]
  rw [if_neg (by omega), List.map_nil, List.append_nil]
 | f + 1, k, i, acc, hf, hk, hi, ha => by
  obtain ⟨k, rfl⟩ : ∃ m, k = m + 1 := ⟨k - 1, by omega⟩
  simp only [emenderref14_Points.l0]
  unfold common_points.scan
  by_cases h : i < s.size
  ·have hw := width_pos s i h
   rw [if_pos (by omega), if_pos h, dec28_point s hs i h k (by omega), Option.bind_some]
   unfold dec28_P
   by_cases h1 : rune s i = 65533 ∧ width s i = 1
   ·rw [if_pos h1, if_pos rfl, if_pos (Or.inr h1)]
   ·rw [if_neg h1]
    dsimp only
    rw [if_neg (by omega)]
    by_cases h2 : rune s i = 10
    ·rw [if_pos h2, if_pos (Or.inl h2)]
    ·rw [if_neg h2, if_neg (show ¬ (rune s i = 10 ∨ (rune s i = 65533 ∧ width s i = 1)) by rintro (h | h) <;> contradiction), if_pos (by omega), show wrap64 ((i : Int) + (width s i : Int)) = ((i + width s i : Nat) : Int) by rw [dec28_w64' (by omega)]; omega,
      dec28_points_loop s hs f k (i + width s i) (acc ++ [rune s i]) (by omega) (by omega) (by omega) (by simp only [List.length_append, List.length_singleton]; omega)]
     dsimp only
     rw [List.append_assoc]
     rfl
  ·rw [if_neg (by omega), if_neg h]
   simp only [List.map_nil, List.append_nil]
theorem dec28_scan_pts (s : ByteArray) : ∀ (f i : Nat), (common_points.scan s f i).2 = refPts (i : Int) ((common_points.scan s f i).2.map (fun x => x.f0))
 | 0, i => rfl
 | f + 1, i => by
  unfold common_points.scan
  split
  ·split
   ·rfl
   ·rename_i h
    dsimp only
    rw [List.map_cons, refPts]
    dsimp only
    rw [← dec28_size_width s i (fun e => h (Or.inr e)), ← Int.natCast_add]
    congr 1
    exact dec28_scan_pts s f (i + width s i)
  ·rfl
theorem refPtsF (s : ByteArray) : (common_points.f s).1 = refPts 0 ((common_points.f s).1.map (fun x => x.f0)) := by
 unfold common_points.f
 split
 ·rfl
 ·unfold common_points.res
  split
  ·rfl
  ·exact dec28_scan_pts s s.size 0
theorem refRead (s : ByteArray) (k : Nat) (hk : 4100 ≤ k) : emenderref28_read.f k s = some ((common_points.f s).1.map (fun x => x.f0), (common_points.f s).2.1, (common_points.f s).2.2) := by
 unfold emenderref28_read.f common_points.f
 by_cases h : s.size > 4000
 ·rw [if_pos (by omega), if_pos h]
  rfl
 ·rw [if_neg (by omega), if_neg h]
  have hp := dec28_points_loop s (by omega) s.size k 0 [] (by omega) (by omega) (by omega) (by simp)
  rw [show emenderref14_Points.f k s = _ from hp, Option.bind_some]
  unfold common_points.res
  cases (common_points.scan s s.size 0).1 with
  | some j => rfl
  | none => rfl
def emenderref28_Parse.f (s : ByteArray) : Option (List S43 × Int × Int) := common_Parse.f s
def emenderref28_Parse.Post (r1 : List S43) (r2 r3 : Int) (w : World) (e : Ending) (w' : World) : Prop := ∃ v0_ : Value, e = .returned (.tuple #[v0_, .int .i64 r2, .int .i64 r3]) ∧ Kd.R k43 43 w' w.heap.size (fun _ => True) v0_ r1 ∧ Below w.heap.size w w'
structure emenderref28_Parse.I (wH : World) (v : Value) (acc : List S43) (W : World) : Prop where
 row : Kd.R k43 43 W wH.heap.size (fun _ => True) v acc
 below : Below wH.heap.size wH W
theorem parse_rd (o : List Prt) (k : Nat) (h : k < o.length) : rd_T65 (o.map refPart) (k : Int) = refPart (prtAt o (k : Int)) := by
 unfold rd_T65 prtAt
 rw [Int.toNat_natCast, List.getD_eq_getElem?_getD, List.getD_eq_getElem?_getD, List.getElem?_map, List.getElem?_eq_getElem h]
 rfl
theorem split_unpassed (p : List S79) : ∀ (f : Nat) (i : Int), ∀ x ∈ common_split.go p f i, x.passed = false
 | 0, _ => fun x hx => by cases hx
 | f + 1, i => by
  have pl : ∀ a b m, ∀ x ∈ common_plain.f p a b m, x.passed = false := fun a b m x hx => by
   obtain ⟨y, _, rfl⟩ := List.mem_map.1 hx
   rfl
  have cd : ∀ a b, ∀ x ∈ common_code.f p a b, x.passed = false := fun a b x hx => by
   unfold common_code.f at hx
   split at hx <;> exact pl _ _ _ x hx
  have ap : ∀ (a b : List Prt), (∀ x ∈ a, x.passed = false) → (∀ x ∈ b, x.passed = false) → ∀ x ∈ a ++ b, x.passed = false := fun a b ha hb x hx => (List.mem_append.1 hx).elim (ha x) (hb x)
  rw [common_split.go]
  split
  ·split
   ·split
    ·exact ap _ _ (pl _ _ _) (split_unpassed p f _)
    ·exact ap _ _ (cd _ _) (split_unpassed p f _)
   ·split
    ·intro x hx
     rcases List.mem_cons.1 hx with rfl | hx
     ·rfl
     ·exact split_unpassed p f _ x hx
    ·split
     ·exact ap _ _ (pl _ _ _) (split_unpassed p f _)
     ·exact ap _ _ (pl _ _ _) (split_unpassed p f _)
  ·exact fun x hx => by cases hx
def emenderref28_Parse.T14 : Bool × List (List Nat × List Nat) := (true, [([], []), ([], []), ([], []), ([1, 2], [1, 2]), ([3], [3]), ([4], [4]), ([5], [5]), ([6], [6]), ([], []), ([], []), ([8, 9], [8, 9]), ([10], [10]), ([11], [11]), ([12], [12]), ([7, 13], [7, 13]), ([14], [14]), ([0, 15], [0, 15]), ([16, 16, 0, 1, 2, 3, 4, 5, 6, 7, 8, 9, 10, 11, 12, 13, 14, 15, 16], [0, 16])])
def emenderref28_Parse.B14 : List Nat := [0, 0, 0, 6, 14, 30, 62, 126, 0, 0, 768, 1792, 3840, 7936, 16382, 32766, 65535, 131071]
theorem emenderref28_Parse.tab14 : rtab .any (opsOf Tryd.f11 14) = emenderref28_Parse.T14 := by kernel_rfl
theorem emenderref28_Parse.bits14 : waitsOk emenderref28_Parse.T14.2 emenderref28_Parse.B14 = true := by kernel_rfl
set_option maxHeartbeats 16000000 in
set_option maxRecDepth 100000 in
theorem emenderref28_Parse.calls (a0 : ByteArray) (r1 : List S43) (r2 r3 : Int) (w : World) (h : emenderref28_Parse.f a0 = some (r1, r2, r3)) :
  Calls Tryd.prog 11 #[.string a0] w (emenderref28_Parse.Post r1 r2 r3 w) := by
 have hu39 := Tryd.underlying39
 have hu65 := Tryd.underlying65
 have hu43 := Tryd.underlying43
 unfold emenderref28_Parse.f common_Parse.f at h
 have FA := Aside0.mk (common_points.facts a0).1
 have PT := Aside0.mk (refPtsF a0)
 have RD := Aside0.mk (refRead a0 5000 (by omega))
 generalize common_points.f a0 = q at *
 obtain ⟨ps, n1, e1⟩ := q
 dsimp only at h FA PT RD
 obtain ⟨p, hp⟩ : ∃ p, p = ps.map (fun x => x.f0) := ⟨_, rfl⟩
 rw [← hp] at PT RD
 have LP : Aside0 (p.length ≤ 4000) := ⟨by rw [hp, List.length_map]; exact FA.out⟩
 rw [PT.out] at h
 have H := Aside0.mk h
 clear h PT FA hp
 go_enter Tryd.func11, Tryd.ntmps11
 go_wp2_with fail
 refine (emenderref28_read.calls 5000 a0 _ _ _ w RD.out).mono ?_
 rintro e w1 ⟨v0, rfl, hr, hb⟩
 have HB := Aside0.mk hb
 have HR := Aside0.mk hr
 clear hr hb RD
 obtain ⟨A, c, hv⟩ := Kd.R_slice HR.out
 subst hv
 by_cases c1 : e1 = 0
 ·have c1b : (e1 != 0) = false := bne_eq_false_iff_eq.mpr c1
  have h := H.out
  rw [if_pos c1] at h
  simp only [Option.some.injEq, Prod.mk.injEq] at h
  obtain ⟨h1, h2, h3⟩ := h
  have H1 := Aside0.mk h1
  have H2 := Aside0.mk h2
  have H3 := Aside0.mk h3
  clear h1 h2 h3 c1 H
  go_wp2_with fail
  refine (emenderref28_parts.calls A c p ((common_split.f (refPts 0 p)).map refPart) w1 (Kd.R_reads' HR.out).2.2 (Kd.R_reads' HR.out).2.1 (if_pos LP.out)).mono ?_
  rintro e w2 ⟨v1, rfl, hr, hb⟩
  have HB1 := Aside0.mk hb
  have HW := Aside0.mk hr
  have LP2 : Aside0 ((refPts 0 p).length ≤ 4000) := ⟨by rw [refPts_length]; exact LP.out⟩
  have LO : Aside0 ((common_split.f (refPts 0 p)).length ≤ 4000) := ⟨by have := common_split.len (refPts 0 p) ((refPts 0 p).length + 1) 0 (by omega) (by omega); have := LP2.out; unfold common_split.f; omega⟩
  have GD := Aside0.mk (show prtsGood (common_split.f (refPts 0 p)) from common_split.good (refPts 0 p) LP2.out _ 0 (by omega))
  have UP := Aside0.mk (show ∀ x ∈ common_split.f (refPts 0 p), x.passed = false from split_unpassed (refPts 0 p) _ 0)
  clear hr hb HR
  generalize common_split.f (refPts 0 p) = o0 at *
  go_wp2_with fail
  refine (emenderref28_paired.calls v1 o0 w1 w2 HW.out HB1.out LO.out GD.out UP.out).mono ?_
  rintro e w3 ⟨v2, rfl, hr, hb, hgd, hln⟩
  have HB2 := Aside0.mk (HB.out.trans (hb.mono HB.out.size))
  have HW2 := Aside0.mk hr
  have GO := Aside0.mk hgd
  have LM : Aside0 ((common_match.f o0).length ≤ 4000) := ⟨by rw [hln]; exact LO.out⟩
  clear hr hb hgd hln HB HB1 HW GD UP LO
  generalize common_match.f o0 = o at *
  obtain ⟨A2, c2, hv⟩ := Kd.R_slice HW2.out
  subst hv
  have HC := Aside0.mk (Kd.R_reads' HW2.out).2.2
  have HL : (o.map refPart).length = o.length := List.length_map ..
  rw [HL] at HC
  rw [HL]
  have HZ := Aside0.mk HB2.out.size
  clear HW2 HL
  have I0 := Aside0.mk (show emenderref28_Parse.I w3 (.slice none 0 0) [] w3 from ⟨Kd.R_nil _ _ _ _ _, Below.refl _ _⟩)
  go_wp2
  go_loopg [9, 10] o.length (fun kq v9 v10 w' => ∃ (k : Nat), v10 = .int .i64 (k : Int) ∧ Aside0 (k + kq = o.length ∧ emenderref28_Parse.I w3 v9 ((o.take k).flatMap common_Parse.toks) w'))
  case atStart => exact ⟨0, rfl, ⟨by omega, I0.out⟩⟩
  case round =>
   clear I0
   obtain ⟨k, rfl, HI⟩ := hrel
   cases gk with
   | zero =>
    have e : k = o.length := by have := HI.out.1; omega
    subst e
    have hI := HI.out.2
    rw [List.take_length] at hI
    have c5b : decide ((o.length : Int) < (o.length : Int)) = false := decide_eq_false (by omega)
    have HX := Aside0.mk hI
    clear hI HI
    go_wp2
    go_ret3
    exact ⟨_, by rw [← H2.out, ← H3.out]; rfl, by rw [← H1.out]; exact Kd.R_lower HX.out.row HZ.out, HB2.out.trans (HX.out.below.mono HZ.out)⟩
   | succ f =>
   have kn : (k : Int) < (o.length : Int) := by have := HI.out.1; omega
   have c5b : decide ((k : Int) < (o.length : Int)) = true := decide_eq_true kn
   have XA : Aside0 (∀ W, Below w3.heap.size w3 W → ∃ ad , A2 = some ad ∧ W.cell? (ad.add (k * 12)) = some (.int .i64 (refPart (prtAt o (k : Int))).f0.f0) ∧ W.cell? ⟨(ad.add (k * 12)).block, (ad.add (k * 12)).off + 1, none⟩ = some (.int .i64 (refPart (prtAt o (k : Int))).f0.f1) ∧ W.cell? ⟨(ad.add (k * 12)).block, (ad.add (k * 12)).off + 2, none⟩ = some (.int .i64 (refPart (prtAt o (k : Int))).f0.f2) ∧ W.cell? ⟨(ad.add (k * 12)).block, (ad.add (k * 12)).off + 3, none⟩ = some (.int .i64 (refPart (prtAt o (k : Int))).f0.f3) ∧ W.cell? ⟨(ad.add (k * 12)).block, (ad.add (k * 12)).off + 4, none⟩ = some (.bool (refPart (prtAt o (k : Int))).f1) ∧ W.cell? ⟨(ad.add (k * 12)).block, (ad.add (k * 12)).off + 7, none⟩ = some (.int .u8 (refPart (prtAt o (k : Int))).f2.f2) ∧ W.cell? ⟨(ad.add (k * 12)).block, (ad.add (k * 12)).off + 10, none⟩ = some (.int .i64 (refPart (prtAt o (k : Int))).f3)) := ⟨fun W hW => by
    obtain ⟨ad, eA, x0, x1, x2, x3, x4, x5, x6, x7, x8, x9, x10, x11⟩ := at_T65 (Kd.C_below HC.out hW) (k : Int) (by omega) kn
    rw [parse_rd o k (by omega)] at x0 x1 x2 x3 x4 x7 x10
    rw [Int.toNat_natCast] at x0 x1 x2 x3 x4 x7 x10
    exact ⟨ad, eA, x0, x1, x2, x3, x4, x7, x10⟩⟩
   obtain ⟨ad, eA, x0, x1, x2, x3, x4, x7, x10⟩ := XA.out _ HI.out.2.below
   subst eA
   have NX := Aside0.mk (common_Parse.take_succ o k (by omega))
   have KK := Aside0.mk HI.out.1
   have II := Aside0.mk HI.out.2
   have GX := Aside0.mk (GO.out.at (show (0 : Int) ≤ (k : Int) by omega) kn)
   have AL : Aside0 (((o.take k).flatMap common_Parse.toks).length ≤ 16000000) := ⟨by have h := common_Parse.all_len (o.take k) (fun y hy => GO.out y (List.mem_of_mem_take hy)); rw [List.length_take] at h; have := LM.out; omega⟩
   have hwk : wrap64 ((k : Int) + 1) = ((k + 1 : Nat) : Int) := by have := LM.out; unfold wrap64; omega
   have knt := eq_true kn
   have k0t := eq_true (show (0 : Int) ≤ (k : Int) by omega)
   clear HI kn
   generalize ha : (o.take k).flatMap common_Parse.toks = acc at *
   generalize prtAt o (k : Int) = x at *
   obtain ⟨⟨t0, t1, t2, t3⟩, run, left, passed⟩ := x
   cases run with
   | none =>
    replace x0 : wr.cell? (ad.add (k * 12)) = some (.int .i64 t0) := x0
    replace x1 : wr.cell? ⟨(ad.add (k * 12)).block, (ad.add (k * 12)).off + 1, none⟩ = some (.int .i64 t1) := x1
    replace x2 : wr.cell? ⟨(ad.add (k * 12)).block, (ad.add (k * 12)).off + 2, none⟩ = some (.int .i64 t2) := x2
    replace x3 : wr.cell? ⟨(ad.add (k * 12)).block, (ad.add (k * 12)).off + 3, none⟩ = some (.int .i64 t3) := x3
    replace x4 : wr.cell? ⟨(ad.add (k * 12)).block, (ad.add (k * 12)).off + 4, none⟩ = some (.bool false) := x4
    have TK_ : Aside0 (common_Parse.toks ⟨⟨t0, t1, t2, t3⟩, none, left, passed⟩ = [⟨t0, t1, t2, t3⟩]) := ⟨rfl⟩
    have TR_ := Aside0.mk II.out.row
    have HB6 := Aside0.mk II.out.below
    clear II x7 x10 XA
    go_wp2_with (first | (at_builtin; refine Kd.R_append k43 (w0 := w3) w3.heap.size rfl (.tmp 37) (.tmp 43) 23 43 (.agg #[.int .i64 0, .int .i64 0, .int .i64 0, .int .i64 0]) 32 rfl Tryd.underlying23 info43 rfl (by decide) (by decide) u9 acc (⟨t0, t1, t2, t3⟩ : S43) [.int .i64 t0, .int .i64 t1, .int .i64 t2, .int .i64 t3] (fun _ => True) (fun _ => False) rfl (by first | rfl | (go_simp; done) | (go_simp; rfl) | simp) (k43_mkM _ _ _ (⟨t0, t1, t2, t3⟩ : S43)) (fun _ h => h.elim) (fun _ _ => trivial) TR_.out HB6.out HB6.out.size (by have := AL.out; omega) ?_; intro v1 w8 ho hb hg hat; have n0_ := Aside0.mk (show emenderref28_Parse.I w3 v1 (acc ++ [(⟨t0, t1, t2, t3⟩ : S43)]) w8 from ⟨ho, hb⟩); clear ho hb hg hat TR_ HB6))
    go_roundg f
    case measure => omega
    case rel => exact ⟨k + 1, by rw [hwk], ⟨by have := KK.out; omega, by rw [NX.out, TK_.out]; exact n0_.out⟩⟩
   | some r =>
    obtain ⟨q0, q1, q2, q3, q4⟩ := r
    replace x4 : wr.cell? ⟨(ad.add (k * 12)).block, (ad.add (k * 12)).off + 4, none⟩ = some (.bool true) := x4
    have TK_ : Aside0 (common_Parse.toks ⟨⟨t0, t1, t2, t3⟩, some ⟨q0, q1, q2, q3, q4⟩, left, passed⟩ = List.replicate left.toNat (⟨0, 0, q2, t3⟩ : S43)) := ⟨rfl⟩
    have RB := Aside0.mk (GX.out.2 _ rfl).2
    have LB := Aside0.mk GX.out.1
    dsimp only at RB LB
    have hwr : wrap64 q2 = q2 := by have := RB.out; unfold wrap64; omega
    have hwr2 : IntKind.i64.wrap q2 = q2 := (i64_w _).trans hwr
    clear x0 x1 x2 x3 x7 x10 GX
    go_wp2
    clear x4
    go_loopg [9, 11] left.toNat (fun kq2 v9 v11 w' => ∃ (m : Nat), v11 = .int .i64 (m : Int) ∧ Aside0 (m + kq2 = left.toNat ∧ emenderref28_Parse.I w3 v9 (acc ++ List.replicate m (⟨0, 0, q2, t3⟩ : S43)) w'))
    case atStart => exact ⟨0, rfl, ⟨by omega, by rw [List.replicate_zero, List.append_nil]; exact II.out⟩⟩
    case round =>
     clear II
     obtain ⟨m, rfl, HJ⟩ := hrel
     obtain ⟨ad_, eA, _, _, _, x3, _, x7, x10⟩ := XA.out _ HJ.out.2.below
     cases eA
     replace x3 : wr.cell? ⟨(ad.add (k * 12)).block, (ad.add (k * 12)).off + 3, none⟩ = some (.int .i64 t3) := x3
     replace x7 : wr.cell? ⟨(ad.add (k * 12)).block, (ad.add (k * 12)).off + 7, none⟩ = some (.int .u8 q2) := x7
     replace x10 : wr.cell? ⟨(ad.add (k * 12)).block, (ad.add (k * 12)).off + 10, none⟩ = some (.int .i64 left) := x10
     cases gk with
     | zero =>
      have e : m = left.toNat := by have := HJ.out.1; omega
      have c6b : decide ((m : Int) < left) = false := decide_eq_false (by have := LB.out; omega)
      have HX := Aside0.mk HJ.out.2
      rw [e] at HX
      clear HJ
      go_wp2
      go_roundg f
      case measure => omega
      case rel => exact ⟨k + 1, by rw [hwk], ⟨by have := KK.out; omega, by rw [NX.out, TK_.out]; exact HX.out⟩⟩
     | succ f2 =>
      have c6b : decide ((m : Int) < left) = true := decide_eq_true (by have := HJ.out.1; omega)
      have M1 := Aside0.mk HJ.out.1
      have II := Aside0.mk HJ.out.2
      have hwm : wrap64 ((m : Int) + 1) = ((m + 1 : Nat) : Int) := by have := LB.out; have := M1.out; unfold wrap64; omega
      have RP := Aside0.mk (show acc ++ List.replicate m (⟨0, 0, q2, t3⟩ : S43) ++ [⟨0, 0, q2, t3⟩] = acc ++ List.replicate (m + 1) (⟨0, 0, q2, t3⟩ : S43) from by rw [List.append_assoc, ← List.replicate_succ'])
      have AM : Aside0 ((acc ++ List.replicate m (⟨0, 0, q2, t3⟩ : S43)).length ≤ 16100000) := ⟨by rw [List.length_append, List.length_replicate]; have := AL.out; have := M1.out; have := LB.out; omega⟩
      clear HJ
      generalize acc ++ List.replicate m (⟨0, 0, q2, t3⟩ : S43) = ac at *
      go_wp2
      refine start_ (n := 18) (S := fun w' => w'.cell? ⟨(ad.add (k * 12)).block, (ad.add (k * 12)).off + 7, none⟩ = some (.int .u8 q2) ∧ w'.cell? ⟨(ad.add (k * 12)).block, (ad.add (k * 12)).off + 3, none⟩ = some (.int .i64 t3)) (ds := [16]) #[Ff,Ff,Ff,Ff,Ff,Ff,Ff,Ff,Ff,Ff,Ff,Ff,Ff,Ff,Ff,Ff,Ff,Ff] (by kernel_rfl) rfl rfl ⟨x7, x3⟩ (fun hHeld => ?_)
      refine with_tabW emenderref28_Parse.tab14 emenderref28_Parse.bits14 (fun HT_ HW_ => ?_)
      have TW := Aside0.mk (Kd.R_drew II.out.row)
      have BW := Aside0.mk (show Below w3.heap.size w3 wr.drew from Below.drew II.out.below)
      clear II x7 x3 x10
      generalize wr.drew = w7 at *
      refine pure_ (i := 0) (N := some 54) (v := ?_) (a' := ?_) #[Tt,Ff,Ff,Ff,Ff,Ff,Ff,Ff,Ff,Ff,Ff,Ff,Ff,Ff,Ff,Ff,Ff,Ff] rfl rfl (any_of HT_.out (by kernel_rfl)) (fun _ _ _ h => h) (Or.inl ⟨by rfl, ?_⟩) ?_ ?_;rotate_left;(intro w';go_simp;with_reducible rfl);rotate_left;(simp only [Act.put, List.setIfInBounds_toArray, List.set_cons_zero, List.set_cons_succ, i64_w, i32_w];rfl)
      refine pure_ (i := 1) (N := some 55) (v := ?_) (a' := ?_) #[Tt,Tt,Ff,Ff,Ff,Ff,Ff,Ff,Ff,Ff,Ff,Ff,Ff,Ff,Ff,Ff,Ff,Ff] rfl rfl (any_of HT_.out (by kernel_rfl)) (fun _ _ _ h => h) (Or.inl ⟨by rfl, ?_⟩) ?_ ?_;rotate_left;(intro w';go_simp;with_reducible rfl);rotate_left;(simp only [Act.put, List.setIfInBounds_toArray, List.set_cons_zero, List.set_cons_succ, i64_w, i32_w];rfl)
      refine pure_ (i := 2) (N := some 56) (v := ?_) (a' := ?_) #[Tt,Tt,Tt,Ff,Ff,Ff,Ff,Ff,Ff,Ff,Ff,Ff,Ff,Ff,Ff,Ff,Ff,Ff] rfl rfl (any_of HT_.out (by kernel_rfl)) (fun _ _ _ h => h) (Or.inl ⟨by rfl, ?_⟩) ?_ ?_;rotate_left;(intro w';go_simp;with_reducible rfl);rotate_left;(simp only [Act.put, List.setIfInBounds_toArray, List.set_cons_zero, List.set_cons_succ, i64_w, i32_w];rfl)
      refine pure_ (i := 3) (N := some 57) (v := ?_) (a' := ?_) #[Tt,Tt,Tt,Tt,Ff,Ff,Ff,Ff,Ff,Ff,Ff,Ff,Ff,Ff,Ff,Ff,Ff,Ff] rfl rfl (any_of HT_.out (by kernel_rfl)) (fun _ _ _ h => h) (Or.inl ⟨by rfl, ?_⟩) ?_ ?_;rotate_left;(intro w';go_simp;with_reducible rfl);rotate_left;(simp only [Act.put, List.setIfInBounds_toArray, List.set_cons_zero, List.set_cons_succ, i64_w, i32_w];rfl)
      refine pure_ (i := 4) (N := some 58) (v := ?_) (a' := ?_) #[Tt,Tt,Tt,Tt,Tt,Ff,Ff,Ff,Ff,Ff,Ff,Ff,Ff,Ff,Ff,Ff,Ff,Ff] rfl rfl (any_of HT_.out (by kernel_rfl)) (fun _ _ _ h => h) (Or.inl ⟨by rfl, ?_⟩) ?_ ?_;rotate_left;(intro w';go_simp;with_reducible rfl);rotate_left;(simp only [Act.put, List.setIfInBounds_toArray, List.set_cons_zero, List.set_cons_succ, i64_w, i32_w];rfl)
      refine pure_ (i := 5) (N := some 59) (v := ?_) (a' := ?_) #[Tt,Tt,Tt,Tt,Tt,Tt,Ff,Ff,Ff,Ff,Ff,Ff,Ff,Ff,Ff,Ff,Ff,Ff] rfl rfl (any_of HT_.out (by kernel_rfl)) (fun _ _ _ h => h) (Or.inl ⟨by rfl, ?_⟩) ?_ ?_;rotate_left;(intro w';go_simp;with_reducible rfl);rotate_left;(simp only [Act.put, List.setIfInBounds_toArray, List.set_cons_zero, List.set_cons_succ, i64_w, i32_w];rfl)
      refine take_ (i := 6) (N := some 60) (v := ?_) (a' := ?_) #[Tt,Tt,Tt,Tt,Tt,Tt,Tt,Ff,Ff,Ff,Ff,Ff,Ff,Ff,Ff,Ff,Ff,Ff] rfl rfl (take_ofW HT_.out HW_.out (by kernel_rfl)) (fun _ _ _ h => h) (Or.inl ⟨by rfl, ?_⟩) hHeld ?_ ?_;rotate_left;(rintro w' ⟨s0, s1⟩;go_simp;with_reducible rfl);rotate_left;(simp only [Act.put, List.setIfInBounds_toArray, List.set_cons_zero, List.set_cons_succ, i64_w, i32_w];rfl)
      refine pure_ (i := 7) (N := some 61) (v := ?_) (a' := ?_) #[Tt,Tt,Tt,Tt,Tt,Tt,Tt,Tt,Ff,Ff,Ff,Ff,Ff,Ff,Ff,Ff,Ff,Ff] rfl rfl (any_of HT_.out (by kernel_rfl)) (fun _ _ _ h => h) (Or.inl ⟨by rfl, ?_⟩) ?_ ?_;rotate_left;(intro w';go_simp;with_reducible rfl);rotate_left;(simp only [Act.put, List.setIfInBounds_toArray, List.set_cons_zero, List.set_cons_succ, i64_w, i32_w];rfl)
      refine pure_ (i := 8) (N := some 62) (v := ?_) (a' := ?_) #[Tt,Tt,Tt,Tt,Tt,Tt,Tt,Tt,Tt,Ff,Ff,Ff,Ff,Ff,Ff,Ff,Ff,Ff] rfl rfl (any_of HT_.out (by kernel_rfl)) (fun _ _ _ h => h) (Or.inl ⟨by rfl, ?_⟩) ?_ ?_;rotate_left;(intro w';go_simp;with_reducible rfl);rotate_left;(simp only [Act.put, List.setIfInBounds_toArray, List.set_cons_zero, List.set_cons_succ, i64_w, i32_w];rfl)
      refine pure_ (i := 9) (N := some 63) (v := ?_) (a' := ?_) #[Tt,Tt,Tt,Tt,Tt,Tt,Tt,Tt,Tt,Tt,Ff,Ff,Ff,Ff,Ff,Ff,Ff,Ff] rfl rfl (any_of HT_.out (by kernel_rfl)) (fun _ _ _ h => h) (Or.inl ⟨by rfl, ?_⟩) ?_ ?_;rotate_left;(intro w';go_simp;with_reducible rfl);rotate_left;(simp only [Act.put, List.setIfInBounds_toArray, List.set_cons_zero, List.set_cons_succ, i64_w, i32_w];rfl)
      refine pure_ (i := 10) (N := some 64) (v := ?_) (a' := ?_) #[Tt,Tt,Tt,Tt,Tt,Tt,Tt,Tt,Tt,Tt,Tt,Ff,Ff,Ff,Ff,Ff,Ff,Ff] rfl rfl (any_of HT_.out (by kernel_rfl)) (fun _ _ _ h => h) (Or.inl ⟨by rfl, ?_⟩) ?_ ?_;rotate_left;(intro w';go_simp;with_reducible rfl);rotate_left;(simp only [Act.put, List.setIfInBounds_toArray, List.set_cons_zero, List.set_cons_succ, i64_w, i32_w];rfl)
      refine pure_ (i := 11) (N := some 65) (v := ?_) (a' := ?_) #[Tt,Tt,Tt,Tt,Tt,Tt,Tt,Tt,Tt,Tt,Tt,Tt,Ff,Ff,Ff,Ff,Ff,Ff] rfl rfl (any_of HT_.out (by kernel_rfl)) (fun _ _ _ h => h) (Or.inl ⟨by rfl, ?_⟩) ?_ ?_;rotate_left;(intro w';go_simp;with_reducible rfl);rotate_left;(simp only [Act.put, List.setIfInBounds_toArray, List.set_cons_zero, List.set_cons_succ, i64_w, i32_w];rfl)
      refine pure_ (i := 12) (N := some 66) (v := ?_) (a' := ?_) #[Tt,Tt,Tt,Tt,Tt,Tt,Tt,Tt,Tt,Tt,Tt,Tt,Tt,Ff,Ff,Ff,Ff,Ff] rfl rfl (any_of HT_.out (by kernel_rfl)) (fun _ _ _ h => h) (Or.inl ⟨by rfl, ?_⟩) ?_ ?_;rotate_left;(intro w';go_simp;with_reducible rfl);rotate_left;(simp only [Act.put, List.setIfInBounds_toArray, List.set_cons_zero, List.set_cons_succ, i64_w, i32_w];rfl)
      refine take_ (i := 13) (N := some 67) (v := ?_) (a' := ?_) #[Tt,Tt,Tt,Tt,Tt,Tt,Tt,Tt,Tt,Tt,Tt,Tt,Tt,Tt,Ff,Ff,Ff,Ff] rfl rfl (take_ofW HT_.out HW_.out (by kernel_rfl)) (fun _ _ _ h => h) (Or.inl ⟨by rfl, ?_⟩) hHeld ?_ ?_;rotate_left;(rintro w' ⟨s0, s1⟩;go_simp;with_reducible rfl);rotate_left;(simp only [Act.put, List.setIfInBounds_toArray, List.set_cons_zero, List.set_cons_succ, i64_w, i32_w];rfl)
      refine pure_ (i := 14) (N := some 68) (v := ?_) (a' := ?_) #[Tt,Tt,Tt,Tt,Tt,Tt,Tt,Tt,Tt,Tt,Tt,Tt,Tt,Tt,Tt,Ff,Ff,Ff] rfl rfl (any_of HT_.out (by kernel_rfl)) (fun _ _ _ h => h) (Or.inl ⟨by rfl, ?_⟩) ?_ ?_;rotate_left;(intro w';go_simp;with_reducible rfl);rotate_left;(simp only [Act.put, List.setIfInBounds_toArray, List.set_cons_zero, List.set_cons_succ, i64_w, i32_w];rfl)
      refine one_ (i := 15) (N := some 69) #[Tt,Tt,Tt,Tt,Tt,Tt,Tt,Tt,Tt,Tt,Tt,Tt,Tt,Tt,Tt,Tt,Ff,Ff] rfl rfl (one_of HT_.out (by kernel_rfl)) (by decide) (fun K hK => ?_)
      refine value_ (w1 := ?_) (v := ?_) (by rfl) rfl ?_ ?_
      rotate_left 2
      ·go_simp
       constructor
       ·rfl
       ·rfl
      refine hK.out _ _ ⟨cell_grown (World.grownBy_alloc w7 (.cells #[.int .i64 0, .int .i64 0, .int .i64 q2, .int .i64 t3] 43 (0, 0)) none) hHeld.1 (by simp), cell_grown (World.grownBy_alloc w7 (.cells #[.int .i64 0, .int .i64 0, .int .i64 q2, .int .i64 t3] 43 (0, 0)) none) hHeld.2 (by simp)⟩ (fun hHeld => ?_)
      clear hK K
      refine norm_ (a' := ?_) ?_ ?_
      rotate_left
      ·show Act.put _ (some 69) _ = _
       simp only [Act.put, List.setIfInBounds_toArray, List.set_cons_zero, List.set_cons_succ, i64_w, i32_w]
       rfl
      refine last_ (i := 16) (N := some 70) #[Tt,Tt,Tt,Tt,Tt,Tt,Tt,Tt,Tt,Tt,Tt,Tt,Tt,Tt,Tt,Tt,Tt,Ff] rfl rfl (one_of HT_.out (by kernel_rfl)) (by decide) (fun K hK => ?_)
      refine Kd.R_append_step k43 (w0 := w3) w3.heap.size (by rfl) (.tmp 54) (.tmp 69) 23 43 (.agg #[.int .i64 0, .int .i64 0, .int .i64 0, .int .i64 0]) 32 rfl Tryd.underlying23 info43 rfl (by decide) (by omega) u9 ac (⟨0, 0, q2, t3⟩ : S43) [.int .i64 0, .int .i64 0, .int .i64 q2, .int .i64 t3] (fun _ => True) (fun _ => False) rfl rfl (k43_mkM _ _ _ (⟨0, 0, q2, t3⟩ : S43)) (fun _ hk => hk.elim) (fun _ _ => trivial) TW.out BW.out BW.out.size (by have := AM.out; omega) ?_
      intro v1 w9 hR1 hb9 hg1 hat1
      have N1 := Aside0.mk (show emenderref28_Parse.I w3 v1 (ac ++ [(⟨0, 0, q2, t3⟩ : S43)]) w9 from ⟨hR1, hb9⟩)
      clear hR1 hb9 hg1 hat1 TW BW
      refine hK.out _ _ ?_
      clear hK K
      refine norm_ (a' := ?_) ?_ ?_
      rotate_left
      ·show Act.put _ (some 70) _ = _
       simp only [Act.put, List.setIfInBounds_toArray, List.set_cons_zero, List.set_cons_succ, i64_w, i32_w]
       rfl
      refine pure_ (i := 17) (N := some 9) (v := ?_) (a' := ?_) #[Tt,Tt,Tt,Tt,Tt,Tt,Tt,Tt,Tt,Tt,Tt,Tt,Tt,Tt,Tt,Tt,Tt,Tt] rfl rfl (any_of HT_.out (by kernel_rfl)) (fun _ _ _ h => h) (Or.inl ⟨by rfl, ?_⟩) ?_ ?_;rotate_left;(intro w';go_simp;with_reducible rfl);rotate_left;(simp only [Act.put, List.setIfInBounds_toArray, List.set_cons_zero, List.set_cons_succ, i64_w, i32_w];rfl)
      refine done_ (done_of HT_.out (by kernel_rfl)) ?_
      go_wp2
      go_roundg f2
      case measure => omega
      case rel => exact ⟨m + 1, by rw [hwm], ⟨by have := M1.out; omega, by rw [← RP.out]; exact N1.out⟩⟩
 ·have c1b : (e1 != 0) = true := bne_iff_ne.mpr c1
  have h := H.out
  rw [if_neg c1] at h
  simp only [Option.some.injEq, Prod.mk.injEq] at h
  obtain ⟨rfl, rfl, rfl⟩ := h
  clear c1 H
  go_wp2
  go_ret3
  exact ⟨_, rfl, Kd.R_nil _ _ _ _ _, HB.out⟩

end Go.Proofs.YtfnafjohfmlniaaDoor.PCs
-- Written for this claim by a program (the kit's print, with hand-made contracts for what it does not take).
namespace Go.Proofs.YtfnafjohfmlniaaDoor.PCs
open Go.RowKit Go.Proofs.YtfnafjohfmlniaaDoorW.PrintWords Go.Proofs.YtfnafjohfmlniaaDoorW.PrintLast Go.Proofs.YtfnafjohfmlniaaDoorW.PrintMore
attribute [local go_sem] max2_int min2_int max_two min_two max_three min_three max_four min_four   -- for this text's walks alone
set_option linter.unusedVariables false
set_option linter.unusedSimpArgs false

attribute [local go_sem high] eqA43
/-! ### emenderlaw28_alike: function 12 -/
def emenderlaw28_alike.l0 : Nat → List (S43) → List (S43) → Int → Option (Bool)
  | 0, _, _, _ => none
  | k + 1, x0, x1, x5 => if x5 < (x0.length : Int) then (if 0 ≤ x5 then (if x5 < (x1.length : Int) then (if (!(((rd_T43 x0 x5).f0) == ((rd_T43 x1 x5).f0)) || (!(((rd_T43 x0 x5).f1) == ((rd_T43 x1 x5).f1)) || (!(((rd_T43 x0 x5).f2) == ((rd_T43 x1 x5).f2)) || (!(((rd_T43 x0 x5).f3) == ((rd_T43 x1 x5).f3)))))) = true then (some false) else (emenderlaw28_alike.l0 k x0 x1 (wrap64 (x5 + 1)))) else (none)) else (none)) else (some true)
def emenderlaw28_alike.f (k : Nat) (l0 : List (S43)) (l1 : List (S43)) : Option (Bool) := if (l0.length : Int) = (l1.length : Int) then (emenderlaw28_alike.l0 k l0 l1 0) else (some false)
theorem emenderlaw28_alike.mono_l : ∀ k, (∀ y0 y1 y2, LeO (emenderlaw28_alike.l0 k y0 y1 y2) (emenderlaw28_alike.l0 (k + 1) y0 y1 y2))
  | 0 => fun _ _ _ r h => by simp [emenderlaw28_alike.l0] at h
  | k + 1 => by
    have ih0 := emenderlaw28_alike.mono_l k
    · intro y0 y1 y2
      unfold emenderlaw28_alike.l0
      repeat' first
      | (with_reducible exact ih0 _ _ _)
      | (with_reducible exact LeO.refl _)
      | (with_reducible exact LeO.none _)
      | (with_reducible refine LeO.ite ?_ ?_)
      | (with_reducible refine LeO.bind ?_ (fun _ => ?_))
      | exact ih0 _ _ _
      | exact LeO.none _
      | refine LeO.ite ?_ ?_
      | refine LeO.bind ?_ (fun _ => ?_)
theorem emenderlaw28_alike.mono : ∀ a0 a1 k, LeO (emenderlaw28_alike.f k a0 a1) (emenderlaw28_alike.f (k + 1) a0 a1) := by
  intro a0 a1 k
  have ih0 := emenderlaw28_alike.mono_l k
  unfold emenderlaw28_alike.f
  repeat' first
      | (with_reducible exact ih0 _ _ _)
      | (with_reducible exact LeO.refl _)
      | (with_reducible exact LeO.none _)
      | (with_reducible refine LeO.ite ?_ ?_)
      | (with_reducible refine LeO.bind ?_ (fun _ => ?_))
      | exact ih0 _ _ _
      | exact LeO.none _
      | refine LeO.ite ?_ ?_
      | refine LeO.bind ?_ (fun _ => ?_)
set_option maxHeartbeats 8000000 in
set_option maxRecDepth 100000 in
theorem emenderlaw28_alike.calls (k : Nat) (A0 : Option Addr) (c0 : Nat) (l0 : List (S43)) (A1 : Option Addr) (c1 : Nat) (l1 : List (S43)) (r : Bool) (w : World) (hr0 : Kd.C k43 w A0 l0.length l0) (hc0 : l0.length ≤ c0) (hr1 : Kd.C k43 w A1 l1.length l1) (hc1 : l1.length ≤ c1) (h : emenderlaw28_alike.f k l0 l1 = some r) :
    Calls Tryd.prog 12 #[.slice A0 l0.length c0, .slice A1 l1.length c1] w fun e w' => e = .returned (.bool r) ∧ Drawn0 w w' := by
  have hu43 := Tryd.underlying43
  have HR0 := Aside0.mk hr0
  have HC0 := Aside0.mk hc0
  clear hr0 hc0
  have HR1 := Aside0.mk hr1
  have HC1 := Aside0.mk hc1
  clear hr1 hc1
  have H : (if (l0.length : Int) = (l1.length : Int) then (emenderlaw28_alike.l0 k l0 l1 0) else (some false)) = some r := h
  clear h
  by_cases c3 : (l0.length : Int) = (l1.length : Int)
  · rw [if_pos c3] at H
    have c3b0 : ((l0.length : Int) == (l1.length : Int)) = true := beq_iff_eq.mpr c3
    have c3b1 : ((l0.length : Int) != (l1.length : Int)) = false := bne_eq_false_iff_eq.mpr c3
    have c3b2 : (l0.length == l1.length) = true := by first | simpa using c3 | (simp at c3 ⊢; omega)
    clear c3
    have H' := Aside0.mk H
    clear H
    go_enter Tryd.func12, Tryd.ntmps12
    go_wp2
    repeat (go_quiet (fail); try go_wp2)
    go_loopg [5] k (fun kq v5 w' => ∃ (x5_1 : Int), v5 = .int .i64 x5_1 ∧ Aside0 (emenderlaw28_alike.l0 kq l0 l1 x5_1 = some r) ∧ Aside0 (kq ≤ k) ∧ Drawn0 w w')
    case atStart => exact ⟨(0), (by first | rfl | (simp; done) | (simp [*]; done)), H', ⟨Nat.le_refl _⟩, by repeat (first | exact Drawn0.refl _ | apply Drawn0.step)⟩
    case round =>
      clear H'
      try clear c1
      try clear p2
      try clear c3
      try clear c3b0
      try clear c3b1
      try clear c3b2
      obtain ⟨x5_1, rfl, HA, HK1, ⟨m1, rfl⟩⟩ := hrel
      cases gk with
      | zero => exact absurd HA.out (by simp [emenderlaw28_alike.l0])
      | succ k1 =>
        have H := HA.out
        clear HA
        simp only [emenderlaw28_alike.l0] at H
        by_cases c4 : x5_1 < (l0.length : Int)
        · rw [if_pos c4] at H
          have c4b0 : decide (x5_1 < (l0.length : Int)) = true := decide_eq_true c4
          clear c4
          by_cases c5 : 0 ≤ x5_1
          · rw [if_pos c5] at H
            have c5b0 : decide (0 ≤ x5_1) = true := decide_eq_true c5
            clear c5
            by_cases c6 : x5_1 < (l1.length : Int)
            · rw [if_pos c6] at H
              have c6b0 : decide (x5_1 < (l1.length : Int)) = true := decide_eq_true c6
              clear c6
              by_cases c7 : (!(((rd_T43 l0 x5_1).f0) == ((rd_T43 l1 x5_1).f0)) || (!(((rd_T43 l0 x5_1).f1) == ((rd_T43 l1 x5_1).f1)) || (!(((rd_T43 l0 x5_1).f2) == ((rd_T43 l1 x5_1).f2)) || (!(((rd_T43 l0 x5_1).f3) == ((rd_T43 l1 x5_1).f3)))))) = true
              · rw [if_pos c7] at H
                have c7b0 : (!(((rd_T43 l0 x5_1).f0) == ((rd_T43 l1 x5_1).f0)) || (!(((rd_T43 l0 x5_1).f1) == ((rd_T43 l1 x5_1).f1)) || (!(((rd_T43 l0 x5_1).f2) == ((rd_T43 l1 x5_1).f2)) || (!(((rd_T43 l0 x5_1).f3) == ((rd_T43 l1 x5_1).f3)))))) = true := c7
                clear c7
                obtain rfl := Option.some.inj H
                have p136 : 0 ≤ (x5_1 : Int) := of_decide_eq_true (by first | (with_reducible assumption) | assumption)
                have q136 : x5_1 < (l0.length : Int) := of_decide_eq_true (by first | (with_reducible assumption) | assumption)
                obtain ⟨ad136, e136, hx136_0, hx136_1, hx136_2, hx136_3⟩ := at_T43 HR0.out x5_1 p136 q136
                cases e136
                replace p136 := eq_true p136
                replace q136 := eq_true q136
                have p137 : 0 ≤ (x5_1 : Int) := of_decide_eq_true (by first | (with_reducible assumption) | assumption)
                have q137 : x5_1 < (l1.length : Int) := of_decide_eq_true (by first | (with_reducible assumption) | assumption)
                obtain ⟨ad137, e137, hx137_0, hx137_1, hx137_2, hx137_3⟩ := at_T43 HR1.out x5_1 p137 q137
                cases e137
                replace p137 := eq_true p137
                replace q137 := eq_true q137
                go_wp2
                repeat (go_quiet (fail); try go_wp2)
                go_ret
                exact ⟨by first | rfl | (simp; done) | (simp [*]; done), by repeat (first | exact Drawn0.refl _ | apply Drawn0.step)⟩
              · rw [if_neg c7] at H
                have c7b0 : (!(((rd_T43 l0 x5_1).f0) == ((rd_T43 l1 x5_1).f0)) || (!(((rd_T43 l0 x5_1).f1) == ((rd_T43 l1 x5_1).f1)) || (!(((rd_T43 l0 x5_1).f2) == ((rd_T43 l1 x5_1).f2)) || (!(((rd_T43 l0 x5_1).f3) == ((rd_T43 l1 x5_1).f3)))))) = false := by simpa using c7
                clear c7
                have H' := Aside0.mk H
                clear H
                have p136 : 0 ≤ (x5_1 : Int) := of_decide_eq_true (by first | (with_reducible assumption) | assumption)
                have q136 : x5_1 < (l0.length : Int) := of_decide_eq_true (by first | (with_reducible assumption) | assumption)
                obtain ⟨ad136, e136, hx136_0, hx136_1, hx136_2, hx136_3⟩ := at_T43 HR0.out x5_1 p136 q136
                cases e136
                replace p136 := eq_true p136
                replace q136 := eq_true q136
                have p137 : 0 ≤ (x5_1 : Int) := of_decide_eq_true (by first | (with_reducible assumption) | assumption)
                have q137 : x5_1 < (l1.length : Int) := of_decide_eq_true (by first | (with_reducible assumption) | assumption)
                obtain ⟨ad137, e137, hx137_0, hx137_1, hx137_2, hx137_3⟩ := at_T43 HR1.out x5_1 p137 q137
                cases e137
                replace p137 := eq_true p137
                replace q137 := eq_true q137
                go_wp2
                repeat (go_quiet (fail); try go_wp2)
                go_roundg k1
                case measure => have := HK1.out; omega
                case rel => exact ⟨(wrap64 (x5_1 + 1)), (by first | rfl | (simp; done) | (simp [*]; done)), H', ⟨by have := HK1.out; omega⟩, by repeat (first | exact Drawn0.refl _ | apply Drawn0.step)⟩
            · rw [if_neg c6] at H
              exact absurd H (by simp)
          · rw [if_neg c5] at H
            exact absurd H (by simp)
        · rw [if_neg c4] at H
          have c4b0 : decide (x5_1 < (l0.length : Int)) = false := decide_eq_false c4
          clear c4
          obtain rfl := Option.some.inj H
          go_wp2
          repeat (go_quiet (fail); try go_wp2)
          go_ret
          exact ⟨by first | rfl | (simp; done) | (simp [*]; done), by repeat (first | exact Drawn0.refl _ | apply Drawn0.step)⟩
  · rw [if_neg c3] at H
    have c3b0 : ((l0.length : Int) == (l1.length : Int)) = false := beq_eq_false_iff_ne.mpr c3
    have c3b1 : ((l0.length : Int) != (l1.length : Int)) = true := bne_iff_ne.mpr c3
    have c3b2 : (l0.length == l1.length) = false := by first | simpa using c3 | (simp at c3 ⊢; omega)
    obtain rfl := Option.some.inj H
    go_enter Tryd.func12, Tryd.ntmps12
    go_wp2
    repeat (go_quiet (fail); try go_wp2)
    go_ret
    exact ⟨by first | rfl | (simp; done) | (simp [*]; done), by repeat (first | exact Drawn0.refl _ | apply Drawn0.step)⟩

/-! ### emenderlaw28_CommonParses: function 3 -/
def emenderlaw28_CommonParses.j0 : Nat → ByteArray → Bool → Option (Bool)
  | 0, _, _ => none
  | k + 1, x0, x16 => if x16 = true then ((emenderlaw28_awake.f).bind fun t138 => (some t138)) else ((common_Parse.f x0).bind fun bt139 => ((emenderref28_Parse.f x0).bind fun bt144 => ((emenderlaw28_alike.f k bt139.1 bt144.1).bind fun t149 => (if t149 = true then (if bt139.2.1 = bt144.2.1 then (if bt139.2.2 = bt144.2.2 then ((emenderlaw28_awake.f).bind fun t150 => (some t150)) else (none)) else (none)) else (none)))))
def emenderlaw28_CommonParses.f (k : Nat) (a0 : ByteArray) : Option (Bool) := if (a0.size : Int) > 600 then (emenderlaw28_CommonParses.j0 k a0 (decide ((a0.size : Int) ≤ 4000))) else (emenderlaw28_CommonParses.j0 k a0 false)
theorem emenderlaw28_CommonParses.mono_l : ∀ k, (∀ y0 y1, LeO (emenderlaw28_CommonParses.j0 k y0 y1) (emenderlaw28_CommonParses.j0 (k + 1) y0 y1))
  | 0 => fun _ _ r h => by simp [emenderlaw28_CommonParses.j0] at h
  | k + 1 => by
    have ih0 := emenderlaw28_CommonParses.mono_l k
    · intro y0 y1
      unfold emenderlaw28_CommonParses.j0
      repeat' first
      | (with_reducible exact ih0 _ _)
      | (with_reducible exact emenderlaw28_alike.mono _ _ _)
      | (with_reducible exact LeO.refl _)
      | (with_reducible exact LeO.none _)
      | (with_reducible refine LeO.ite ?_ ?_)
      | (with_reducible refine LeO.bind ?_ (fun _ => ?_))
      | exact ih0 _ _
      | exact emenderlaw28_alike.mono _ _ _
      | exact LeO.none _
      | refine LeO.ite ?_ ?_
      | refine LeO.bind ?_ (fun _ => ?_)
theorem emenderlaw28_CommonParses.mono : ∀ a0 k, LeO (emenderlaw28_CommonParses.f k a0) (emenderlaw28_CommonParses.f (k + 1) a0) := by
  intro a0 k
  have ih0 := emenderlaw28_CommonParses.mono_l k
  unfold emenderlaw28_CommonParses.f
  repeat' first
      | (with_reducible exact ih0 _ _)
      | (with_reducible exact emenderlaw28_alike.mono _ _ _)
      | (with_reducible exact LeO.refl _)
      | (with_reducible exact LeO.none _)
      | (with_reducible refine LeO.ite ?_ ?_)
      | (with_reducible refine LeO.bind ?_ (fun _ => ?_))
      | exact ih0 _ _
      | exact emenderlaw28_alike.mono _ _ _
      | exact LeO.none _
      | refine LeO.ite ?_ ?_
      | refine LeO.bind ?_ (fun _ => ?_)
set_option maxHeartbeats 8000000 in
set_option maxRecDepth 100000 in
theorem emenderlaw28_CommonParses.calls (k : Nat) (a0 : ByteArray) (r : Bool) (w : World) (HT_ : Aside0 (Lib.Utf8Tabs 0 1 w)) (h : emenderlaw28_CommonParses.f k a0 = some r) :
    Calls Tryd.prog 3 #[.string a0] w fun e w' => e = .returned (.bool r) ∧ Below w.heap.size w w' := by
  have HU8_ := HT_
  have HB := Aside0.mk (Below.refl w.heap.size w)
  have H : (if (a0.size : Int) > 600 then (emenderlaw28_CommonParses.j0 k a0 (decide ((a0.size : Int) ≤ 4000))) else (emenderlaw28_CommonParses.j0 k a0 false)) = some r := h
  clear h
  have HC2 := Aside0.mk H
  clear H
  go_enter Tryd.func3, Tryd.ntmps3
  go_upto_region 1 with (fail)
  go_cut [16] (fun v16 wc => ∃ (kq : Nat) (x16_1 : Bool), v16 = .bool x16_1 ∧ Aside0 (emenderlaw28_CommonParses.j0 kq a0 x16_1 = some r) ∧ Aside0 (kq ≤ k) ∧ Aside0 (Below w.heap.size w wc))
  case first =>
    have H := HC2.out
    clear HC2
    by_cases c3 : (a0.size : Int) > 600
    · rw [if_pos c3] at H
      have c3b0 : decide (600 < (a0.size : Int)) = true := decide_eq_true c3
      have c3b1 : decide (600 < a0.size) = true := decide_eq_true (by omega)
      clear c3
      (first | rw [c3b0] | (simp only [i64_w, i32_w]; rw [c3b0]) | skip)
      have H' := Aside0.mk H
      clear H
      go_wp2
      go_meet
      case rel => exact ⟨_, (decide ((a0.size : Int) ≤ 4000)), (by first | rfl | (simp; done) | (simp [*]; done)), H', ⟨by first | omega | exact Nat.le_refl _⟩, ⟨by repeat (first | (with_reducible first | exact HB.out | apply below_alloc | apply pw_below_drewN | apply below_drew1) | exact HB.out)⟩⟩
    · rw [if_neg c3] at H
      have c3b0 : decide (600 < (a0.size : Int)) = false := decide_eq_false c3
      have c3b1 : decide (600 < a0.size) = false := decide_eq_false (by omega)
      clear c3
      (first | rw [c3b0] | (simp only [i64_w, i32_w]; rw [c3b0]) | skip)
      have H' := Aside0.mk H
      clear H
      go_wp2
      go_meet
      case rel => exact ⟨_, (false), (by first | rfl | (simp; done) | (simp [*]; done)), H', ⟨by first | omega | exact Nat.le_refl _⟩, ⟨by repeat (first | (with_reducible first | exact HB.out | apply below_alloc | apply pw_below_drewN | apply below_drew1) | exact HB.out)⟩⟩
  case rest =>
    clear HC2
    try clear p2
    try clear c3
    try clear c3b0
    try clear c3b1
    obtain ⟨kq, x16_1, rfl, HA, HJ1, HB⟩ := hcut
    cases kq with
    | zero => exact absurd HA.out (by simp [emenderlaw28_CommonParses.j0])
    | succ kj1 =>
      have H := HA.out
      clear HA
      simp only [emenderlaw28_CommonParses.j0] at H
      by_cases c4 : x16_1 = true
      · subst c4
        have H1 : ((emenderlaw28_awake.f).bind fun t138 => (some t138)) = some r := by rw [if_pos rfl] at H; exact H
        clear H
        have H := H1
        clear H1
        replace H := Option.bind_eq_some_iff.mp H
        obtain ⟨t138, A50, H⟩ := H
        replace H : (some t138) = some r := H
        have A5 := Aside0.mk A50
        clear A50
        obtain rfl := Option.some.inj H
        go_wp2_with (first | ((with_reducible refine gate_callee (f := 9) rfl ?_); refine goesL_ (some 17) rfl rfl Tryd.func9 (by kernel_rfl) rfl #[] rfl (by (try simp only [List.map_toArray, List.map_cons, List.map_nil]); first | done | rfl | (simp only [List.length_drop, List.length_take]; rfl)) ?_; (with_reducible refine (emenderlaw28_awake.calls  t138 _ A5.out).mono ?_); rintro e w6 ⟨rfl, hb⟩; refine ⟨_, rfl, ?_⟩; have n0_ := Aside0.mk (below_step (by repeat (first | (with_reducible first | exact HB.out | apply below_alloc | apply pw_below_drewN | apply below_drew1) | exact HB.out)) hb); clear HB; have HB := n0_; clear n0_; (try clear hb); (try clear hb2); (try clear hk); (try clear hi)))
        go_ret
        exact ⟨by first | rfl | (simp [errW_none, errW_some] <;> rfl) | (simp [*, errW_none, errW_some] <;> rfl), by repeat (first | (with_reducible first | exact HB.out | apply below_alloc | apply pw_below_drewN | apply below_drew1) | exact HB.out)⟩
      · replace c4 := Bool.eq_false_iff.mpr c4
        subst c4
        have H1 : ((common_Parse.f a0).bind fun bt139 => ((emenderref28_Parse.f a0).bind fun bt144 => ((emenderlaw28_alike.f kj1 bt139.1 bt144.1).bind fun t149 => (if t149 = true then (if bt139.2.1 = bt144.2.1 then (if bt139.2.2 = bt144.2.2 then ((emenderlaw28_awake.f).bind fun t150 => (some t150)) else (none)) else (none)) else (none))))) = some r := by rw [if_neg (show ¬ (false = true) by decide)] at H; exact H
        clear H
        have H := H1
        clear H1
        replace H := Option.bind_eq_some_iff.mp H
        obtain ⟨⟨t139, t140, t141⟩, A70, H⟩ := H
        replace H : ((emenderref28_Parse.f a0).bind fun bt144 => ((emenderlaw28_alike.f kj1 t139 bt144.1).bind fun t149 => (if t149 = true then (if t140 = bt144.2.1 then (if t141 = bt144.2.2 then ((emenderlaw28_awake.f).bind fun t150 => (some t150)) else (none)) else (none)) else (none)))) = some r := H
        have A7 := Aside0.mk A70
        clear A70
        replace H := Option.bind_eq_some_iff.mp H
        obtain ⟨⟨t144, t145, t146⟩, A80, H⟩ := H
        replace H : ((emenderlaw28_alike.f kj1 t139 t144).bind fun t149 => (if t149 = true then (if t140 = t145 then (if t141 = t146 then ((emenderlaw28_awake.f).bind fun t150 => (some t150)) else (none)) else (none)) else (none))) = some r := H
        have A8 := Aside0.mk A80
        clear A80
        replace H := Option.bind_eq_some_iff.mp H
        obtain ⟨t149, A90, H⟩ := H
        replace H : (if t149 = true then (if t140 = t145 then (if t141 = t146 then ((emenderlaw28_awake.f).bind fun t150 => (some t150)) else (none)) else (none)) else (none)) = some r := H
        have A9 := Aside0.mk A90
        clear A90
        by_cases c10 : t149 = true
        · subst c10
          have H1 : (if t140 = t145 then (if t141 = t146 then ((emenderlaw28_awake.f).bind fun t150 => (some t150)) else (none)) else (none)) = some r := by rw [if_pos rfl] at H; exact H
          clear H
          have H := H1
          clear H1
          by_cases c11 : t140 = t145
          · rw [if_pos c11] at H
            have c11b0 : (t140 == t145) = true := beq_iff_eq.mpr c11
            have c11b1 : (t140 != t145) = false := bne_eq_false_iff_eq.mpr c11
            clear c11
            by_cases c12 : t141 = t146
            · rw [if_pos c12] at H
              have c12b0 : (t141 == t146) = true := beq_iff_eq.mpr c12
              have c12b1 : (t141 != t146) = false := bne_eq_false_iff_eq.mpr c12
              clear c12
              replace H := Option.bind_eq_some_iff.mp H
              obtain ⟨t150, A130, H⟩ := H
              replace H : (some t150) = some r := H
              have A13 := Aside0.mk A130
              clear A130
              obtain rfl := Option.some.inj H
              go_wp2_with (first | ((with_reducible refine gate_callee (f := 10) rfl ?_); refine goesL_ (some 20) rfl rfl Tryd.func10 (by kernel_rfl) rfl #[.string a0] rfl (by (try simp only [List.map_toArray, List.map_cons, List.map_nil]); first | done | rfl | (simp only [List.length_drop, List.length_take]; rfl)) ?_; (with_reducible refine (common_Parse.calls a0 t139 t140 t141 _ A7.out).mono ?_); rintro e w14 ⟨v142, rfl, ho0, hb⟩; refine ⟨_, rfl, ?_⟩; have n0_ := Aside0.mk (Kd.R_lower ho0 (below_size (by repeat (first | (with_reducible first | exact HB.out | apply below_alloc | apply pw_below_drewN | apply below_drew1) | exact HB.out)))); have n1_ := Aside0.mk (below_step (by repeat (first | (with_reducible first | exact HB.out | apply below_alloc | apply pw_below_drewN | apply below_drew1) | exact HB.out)) hb); clear HB; have HO143 := n0_; have HB := n1_; clear n0_ n1_; (try clear hb); (try clear hb2); (try clear hk); (try clear hi); (try clear ho0)) | ((with_reducible refine gate_callee (f := 11) rfl ?_); refine goesL_ (some 26) rfl rfl Tryd.func11 (by kernel_rfl) rfl #[.string a0] rfl (by (try simp only [List.map_toArray, List.map_cons, List.map_nil]); first | done | rfl | (simp only [List.length_drop, List.length_take]; rfl)) ?_; (with_reducible refine (emenderref28_Parse.calls a0 t144 t145 t146 _ A8.out).mono ?_); rintro e w15 ⟨v147, rfl, ho0, hb⟩; refine ⟨_, rfl, ?_⟩; have n0_ := Aside0.mk (Kd.R_elder' (by (with_reducible repeat (first | apply Kd.R_alloc | apply Kd.R_drewN | apply Kd.R_drew)); exact HO143.out) (Kd.R_base ho0) hb); have n1_ := Aside0.mk (Kd.R_lower (Kd.R_new' ho0 (Kd.R_lt (by (with_reducible repeat (first | apply Kd.R_alloc | apply Kd.R_drewN | apply Kd.R_drew)); exact HO143.out))) (below_size (by repeat (first | (with_reducible first | exact HB.out | apply below_alloc | apply pw_below_drewN | apply below_drew1) | exact HB.out)))); have n2_ := Aside0.mk (below_step (by repeat (first | (with_reducible first | exact HB.out | apply below_alloc | apply pw_below_drewN | apply below_drew1) | exact HB.out)) hb); clear HO143; clear HB; have HO143 := n0_; have HO148 := n1_; have HB := n2_; clear n0_ n1_ n2_; (try clear hb); (try clear hb2); (try clear hk); (try clear hi); (try clear ho0); obtain ⟨Ao16, co16, eo16⟩ := Kd.R_slice HO143.out; subst eo16; obtain ⟨Ao17, co17, eo17⟩ := Kd.R_slice HO148.out; subst eo17) | ((with_reducible refine gate_callee (f := 12) rfl ?_); refine goesL_ (some 32) rfl rfl Tryd.func12 (by kernel_rfl) rfl #[.slice Ao16 t139.length co16, .slice Ao17 t144.length co17] rfl (by (try simp only [List.map_toArray, List.map_cons, List.map_nil]); first | done | rfl | (simp only [List.length_drop, List.length_take]; rfl)) ?_; (with_reducible refine (emenderlaw28_alike.calls kj1 _ _ t139 _ _ t144 true _ ?side1 ?side2 ?side3 ?side4 A9.out).mono ?_); (case side1 => repeat (first | exact (Kd.R_reads' HO143.out).2.2 | (with_reducible refine Kd.C_alloc ?_ _) | (with_reducible refine Kd.C_drewN ?_ _) | (with_reducible refine Kd.C_drew ?_))); (case side2 => exact (Kd.R_reads' HO143.out).2.1); (case side3 => repeat (first | exact (Kd.R_reads' HO148.out).2.2 | (with_reducible refine Kd.C_alloc ?_ _) | (with_reducible refine Kd.C_drewN ?_ _) | (with_reducible refine Kd.C_drew ?_))); (case side4 => exact (Kd.R_reads' HO148.out).2.1); rintro e w' ⟨rfl, ⟨nd, rfl⟩⟩; refine ⟨_, rfl, ?_⟩) | (go_at_call 9; (with_reducible refine (emenderlaw28_awake.calls  t150 _ A13.out).mono ?_); rintro e w18 ⟨rfl, hb⟩; have n0_ := Aside0.mk (Kd.R_below (by (with_reducible repeat (first | apply Kd.R_alloc | apply Kd.R_drewN | apply Kd.R_drew)); exact HO143.out) hb); have n1_ := Aside0.mk (Kd.R_below (by (with_reducible repeat (first | apply Kd.R_alloc | apply Kd.R_drewN | apply Kd.R_drew)); exact HO148.out) hb); have n2_ := Aside0.mk (below_step (by repeat (first | (with_reducible first | exact HB.out | apply below_alloc | apply pw_below_drewN | apply below_drew1) | exact HB.out)) hb); clear HO143; clear HO148; clear HB; have HO143 := n0_; have HO148 := n1_; have HB := n2_; clear n0_ n1_ n2_; (try clear hb); (try clear hb2); (try clear hk); (try clear hi)))
              go_ret
              exact ⟨by first | rfl | (simp [errW_none, errW_some] <;> rfl) | (simp [*, errW_none, errW_some] <;> rfl), by repeat (first | (with_reducible first | exact HB.out | apply below_alloc | apply pw_below_drewN | apply below_drew1) | exact HB.out)⟩
            · rw [if_neg c12] at H
              exact absurd H (by simp)
          · rw [if_neg c11] at H
            exact absurd H (by simp)
        · replace c10 := Bool.eq_false_iff.mpr c10
          subst c10
          have H1 : (none) = some r := by rw [if_neg (show ¬ (false = true) by decide)] at H; exact H
          clear H
          have H := H1
          clear H1
          exact absurd H (by simp)

/-- THE ONE PURE STATEMENT of emenderlaw28_CommonParses: yours. -/
def emenderlaw28_CommonParses.Pure : Prop := ∀ (a0 : ByteArray), a0.size ≤ 140737488351232 → ∃ k, emenderlaw28_CommonParses.f k a0 = some true
theorem emenderlaw28_CommonParses.walk (P : emenderlaw28_CommonParses.Pure) (a0 : ByteArray) (w : World) (HT_ : Aside0 (Lib.Utf8Tabs 0 1 w)) (w0 : a0.size ≤ 140737488351232) :
    Calls Tryd.prog 3 #[.string a0] w fun e w' => e = .returned (.bool true) ∧ Below w.heap.size w w' := by
  obtain ⟨k, h⟩ := P a0 w0
  refine (emenderlaw28_CommonParses.calls k a0 true w HT_ h).mono ?_
  rintro e w' ⟨rfl, hd⟩
  exact ⟨rfl, hd⟩

end Go.Proofs.YtfnafjohfmlniaaDoor.PCs
