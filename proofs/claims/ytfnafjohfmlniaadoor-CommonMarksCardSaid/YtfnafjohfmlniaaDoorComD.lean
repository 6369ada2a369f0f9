/- A line that stands between two runs of the same sign: the second one closes the first. -/
import Derived.Test.YtfnafjohfmlniaaDoorComC
import Derived.Test.YtfnafjohfmlniaaDoorPCbx0
import Derived.Test.YtfnafjohfmlniaaDoorPCbx10
import Derived.Test.YtfnafjohfmlniaaDoorPCbx11
import Derived.Test.YtfnafjohfmlniaaDoorPCbx12
import Derived.Test.YtfnafjohfmlniaaDoorPCbx2
import Derived.Test.YtfnafjohfmlniaaDoorPCbx8
namespace Go.Proofs.YtfnafjohfmlniaaDoor.ComD
open Go.RowKit Go.Proofs.YtfnafjohfmlniaaDoorW.PrintWords Go.Proofs.YtfnafjohfmlniaaDoorW.PrintMore
open Go.Proofs.YtfnafjohfmlniaaDoor Go.Proofs.YtfnafjohfmlniaaDoor.PCb Go.Proofs.YtfnafjohfmlniaaDoor.ComA Go.Proofs.YtfnafjohfmlniaaDoor.ComT Go.Proofs.YtfnafjohfmlniaaDoor.ComB Go.Proofs.YtfnafjohfmlniaaDoor.ComC
set_option linter.unusedSimpArgs false
set_option linter.unusedVariables false
theorem prtAt_mid {o pre post : List Prt} {x : Prt} (h : o = pre ++ x :: post) : prtAt o (pre.length : Int) = x := by
  subst h
  unfold prtAt
  rw [List.getD_eq_getElem?_getD, Int.toNat_natCast, List.getElem?_append_right (Nat.le_refl _), Nat.sub_self]
  rfl
theorem set_mid {o pre post : List Prt} {x : Prt} (h : o = pre ++ x :: post) (y : Prt) : o.set pre.length y = pre ++ y :: post := by
  subst h
  rw [List.set_append_right _ _ (Nat.le_refl _), Nat.sub_self]
  rfl
theorem marks_mid (m : Int) : ∀ (W pre post o : List Prt), o = pre ++ (W ++ post) → common_pair.marks m o (pre.length : Int) W.length = pre ++ (W.map (prtMark m) ++ post)
  | [], pre, post, o, h => by rw [h]; rfl
  | x :: W, pre, post, o, h => by
    have h1 : o = pre ++ x :: (W ++ post) := h
    have ih := marks_mid m W (pre ++ [prtMark m x]) post (pre ++ prtMark m x :: (W ++ post)) (by rw [List.append_assoc]; rfl)
    show common_pair.marks m (o.set (pre.length : Int).toNat (prtMark m (prtAt o (pre.length : Int)))) ((pre.length : Int) + 1) W.length = _
    rw [prtAt_mid h1, Int.toNat_natCast, set_mid h1, show (pre.length : Int) + 1 = ((pre ++ [prtMark m x]).length : Int) by simp, ih, List.append_assoc]
    rfl
def R (r : S38) (n : Int) : Prt := ⟨⟨0, 0, 0, 0⟩, some r, n, false⟩
def line (r1 r2 : S38) (n : Int) (W : List Prt) : List Prt := R r1 n :: (W ++ [R r2 n])
theorem line_len (r1 r2 : S38) (n : Int) (W : List Prt) : (line r1 r2 n W).length = W.length + 2 := by unfold line; simp
theorem at_zero (r1 r2 : S38) (n : Int) (W : List Prt) : prtAt (line r1 r2 n W) 0 = R r1 n := rfl
theorem at_last (r1 r2 : S38) (n : Int) (W : List Prt) : prtAt (line r1 r2 n W) ((W.length : Int) + 1) = R r2 n := by
  have := prtAt_mid (o := line r1 r2 n W) (pre := R r1 n :: W) (post := []) (x := R r2 n) rfl
  rw [← this]
  rfl
theorem take_two (r1 r2 : S38) (n k : Int) (W : List Prt) : common_pair.take k (common_pair.take k (line r1 r2 n W) 0) ((W.length : Int) + 1) = line r1 r2 (n - k) W := by
  have e1 : common_pair.take k (line r1 r2 n W) 0 = (R r1 (n - k) :: W) ++ R r2 n :: [] := rfl
  have e2 : prtAt ((R r1 (n - k) :: W) ++ R r2 n :: []) ((W.length : Int) + 1) = R r2 n := by
    rw [show (W.length : Int) + 1 = (((R r1 (n - k) :: W).length : Nat) : Int) by simp]
    exact prtAt_mid rfl
  rw [e1]
  unfold common_pair.take
  rw [e2, show ((W.length : Int) + 1).toNat = (R r1 (n - k) :: W).length by simp, set_mid rfl]
  rfl
theorem marks_line (r1 r2 : S38) (n m : Int) (W : List Prt) : common_pair.marks m (line r1 r2 n W) (0 + 1) ((W.length : Int) + 1 - 0 - 1).toNat = line r1 r2 n (W.map (prtMark m)) := by
  have := marks_mid m W [R r1 n] [R r2 n] (line r1 r2 n W) rfl
  rw [show ((W.length : Int) + 1 - 0 - 1).toNat = W.length by omega]
  exact this
theorem pair_two (r1 r2 : S38) (n : Int) (W : List Prt) (h : 1 < n) : common_pair.f (line r1 r2 n W) 0 ((W.length : Int) + 1) = line r1 r2 (n - 2) (W.map (prtMark 1)) := by
  unfold common_pair.f
  have h2 : common_pair.two (line r1 r2 n W) 0 ((W.length : Int) + 1) = true := by
    unfold common_pair.two
    rw [at_last, at_zero]
    show (decide (1 < n) && decide (1 < n)) = true
    rw [decide_eq_true h]
    rfl
  rw [if_pos h2, marks_line]
  have := take_two r1 r2 n 2 (W.map (prtMark 1))
  rw [List.length_map] at this
  exact this
theorem pair_one (r1 r2 : S38) (W : List Prt) : common_pair.f (line r1 r2 1 W) 0 ((W.length : Int) + 1) = line r1 r2 0 (W.map (prtMark 2)) := by
  unfold common_pair.f
  have h2 : ¬ common_pair.two (line r1 r2 1 W) 0 ((W.length : Int) + 1) = true := by
    unfold common_pair.two
    rw [at_last, at_zero]
    show ¬ (decide ((1 : Int) < 1) && decide ((1 : Int) < 1)) = true
    decide
  rw [if_neg h2, marks_line]
  have := take_two r1 r2 1 1 (W.map (prtMark 2))
  rw [List.length_map] at this
  exact this
def fits (r1 r2 : S38) : Prop := r1.f2 = r2.f2 ∧ r1.f3 = true ∧ r1.f4 = false ∧ r2.f3 = false ∧ r2.f4 = true
def bare (W : List Prt) : Prop := ∀ x ∈ W, x.run = none
theorem bare_map {W : List Prt} (h : bare W) (m : Int) : bare (W.map (prtMark m)) := fun x hx => by
  obtain ⟨y, hy, rfl⟩ := List.mem_map.1 hx
  exact h y hy
theorem at_in {r1 r2 : S38} {n : Int} {W : List Prt} (h : bare W) (k : Nat) (hk : k < W.length) : (prtAt (line r1 r2 n W) ((k + 1 : Nat) : Int)).run = none := by
  have e : prtAt (line r1 r2 n W) ((k + 1 : Nat) : Int) = W[k] := by
    unfold prtAt line
    rw [Int.toNat_natCast, List.getD_eq_getElem?_getD, List.getElem?_cons_succ, List.getElem?_append_left hk, List.getElem?_eq_getElem hk]
    rfl
  rw [e]
  exact h _ (List.getElem_mem hk)
theorem opener_line {r1 r2 : S38} {n : Int} {W : List Prt} (hf : fits r1 r2) (hW : bare W) (hn : n ≠ 0) : ∀ k, k ≤ W.length → common_opener.go (line r1 r2 n W) r2 (k + 1) = 0
  | 0, _ => by
    have e : common_opener.ok (prtAt (line r1 r2 n W) ((0 : Nat) : Int)) r2 = true := by
      show common_opener.ok (R r1 n) r2 = true
      obtain ⟨h1, h2, h3, h4, h5⟩ := hf
      unfold common_opener.ok R common_opener.three
      dsimp only
      rw [h1, h2, h3, h4, decide_eq_true hn]
      simp
    rw [common_opener.go, if_pos e]
    rfl
  | k + 1, hk => by
    have e : ¬ common_opener.ok (prtAt (line r1 r2 n W) ((k + 1 : Nat) : Int)) r2 = true := by
      unfold common_opener.ok
      rw [at_in hW k (by omega)]
      intro h
      cases h
    rw [common_opener.go, if_neg e]
    exact opener_line hf hW hn k (by omega)
theorem inn_step {r1 r2 : S38} {n : Int} {W : List Prt} (hf : fits r1 r2) (hW : bare W) (hn : 0 < n) (f : Nat) :
    common_match.inn ((W.length : Int) + 1) r2 (f + 1) (line r1 r2 n W) = common_match.inn ((W.length : Int) + 1) r2 f (common_pair.f (line r1 r2 n W) 0 ((W.length : Int) + 1)) := by
  have e := opener_line hf hW (show n ≠ 0 by omega) W.length (Nat.le_refl _)
  rw [common_match.inn, at_last, if_pos (show 0 < (R r2 n).left from hn), show ((W.length : Int) + 1).toNat = W.length + 1 by omega, e, if_neg (by decide)]
theorem inn_stop (r1 r2 : S38) (W : List Prt) (f : Nat) : common_match.inn ((W.length : Int) + 1) r2 f (line r1 r2 0 W) = line r1 r2 0 W := by
  cases f with
  | zero => rfl
  | succ f => rw [common_match.inn, at_last, if_neg (show ¬ 0 < (R r2 0).left from (by decide : ¬ (0 : Int) < 0))]
theorem out_skip (o : List Prt) : ∀ (k r : Nat) (j : Int), (∀ i : Nat, i < k → common_match.one o (j + i) = o) → common_match.out (r + k) j o = common_match.out r (j + k) o
  | 0, r, j, _ => by rw [Nat.add_zero, show j + ((0 : Nat) : Int) = j by omega]
  | k + 1, r, j, h => by
    have h0 := h 0 (by omega)
    rw [show j + ((0 : Nat) : Int) = j by omega] at h0
    rw [← Nat.add_assoc, common_match.out, h0, out_skip o k r (j + 1) (fun i hi => by have := h (i + 1) (by omega); rw [show j + 1 + (i : Int) = j + ((i + 1 : Nat) : Int) by omega]; exact this), show j + 1 + (k : Int) = j + ((k + 1 : Nat) : Int) by omega]
theorem match_line {r1 r2 : S38} {n : Int} {W : List Prt} (hf : fits r1 r2) (hW : bare W) : common_match.f (line r1 r2 n W) = common_match.inn ((W.length : Int) + 1) r2 4001 (line r1 r2 n W) := by
  unfold common_match.f
  rw [line_len, show W.length + 2 = 1 + (W.length + 1) by omega, out_skip]
  · rw [show (0 : Int) + ((W.length + 1 : Nat) : Int) = (W.length : Int) + 1 by omega]
    show common_match.one (line r1 r2 n W) ((W.length : Int) + 1) = _
    unfold common_match.one
    rw [at_last]
    show (if r2.f4 = true then _ else _) = _
    rw [if_pos hf.2.2.2.2]
  · intro i hi
    rw [show (0 : Int) + (i : Int) = (i : Int) by omega]
    unfold common_match.one
    cases i with
    | zero =>
      rw [show ((0 : Nat) : Int) = 0 from rfl, at_zero]
      show (if r1.f4 = true then _ else _) = _
      rw [if_neg (by rw [hf.2.2.1]; decide)]
    | succ i => rw [at_in hW i (by omega)]
theorem match1 {r1 r2 : S38} {W : List Prt} (hf : fits r1 r2) (hW : bare W) : common_match.f (line r1 r2 1 W) = line r1 r2 0 (W.map (prtMark 2)) := by
  have e := inn_stop r1 r2 (W.map (prtMark 2)) 4000
  rw [List.length_map] at e
  rw [match_line hf hW, show (4001 : Nat) = 4000 + 1 from rfl, inn_step hf hW (by decide), pair_one, e]
theorem match2 {r1 r2 : S38} {W : List Prt} (hf : fits r1 r2) (hW : bare W) : common_match.f (line r1 r2 2 W) = line r1 r2 0 (W.map (prtMark 1)) := by
  have e := inn_stop r1 r2 (W.map (prtMark 1)) 4000
  rw [List.length_map] at e
  rw [match_line hf hW, show (4001 : Nat) = 4000 + 1 from rfl, inn_step hf hW (by decide), pair_two _ _ _ _ (by decide), show (2 : Int) - 2 = 0 from rfl, e]
theorem match3 {r1 r2 : S38} {W : List Prt} (hf : fits r1 r2) (hW : bare W) : common_match.f (line r1 r2 3 W) = line r1 r2 0 ((W.map (prtMark 1)).map (prtMark 2)) := by
  have e := inn_stop r1 r2 ((W.map (prtMark 1)).map (prtMark 2)) 3999
  have s := inn_step (n := 1) hf (bare_map hW 1) (by decide) 3999
  have q := pair_one r1 r2 (W.map (prtMark 1))
  rw [List.length_map, List.length_map] at e
  rw [List.length_map] at s q
  rw [match_line hf hW, show (4001 : Nat) = 4000 + 1 from rfl, inn_step hf hW (by decide), pair_two _ _ _ _ (by decide), show (3 : Int) - 2 = 1 from rfl, show (4000 : Nat) = 3999 + 1 from rfl, s, q, e]
theorem toks_line (r1 r2 : S38) (W : List Prt) : (line r1 r2 0 W).flatMap common_Parse.toks = W.flatMap common_Parse.toks := by
  unfold line
  rw [List.flatMap_cons, List.flatMap_append]
  show [] ++ (W.flatMap common_Parse.toks ++ _) = _
  rw [List.nil_append]
  exact List.append_nil _
end Go.Proofs.YtfnafjohfmlniaaDoor.ComD
