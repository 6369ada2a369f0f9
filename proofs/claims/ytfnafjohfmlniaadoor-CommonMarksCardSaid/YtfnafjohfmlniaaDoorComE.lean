/- Letters between two runs of stars, or between two backticks: the parts. -/
import Derived.Test.YtfnafjohfmlniaaDoorComD
import Derived.Test.YtfnafjohfmlniaaDoorPCbx0
import Derived.Test.YtfnafjohfmlniaaDoorPCbx2
import Derived.Test.YtfnafjohfmlniaaDoorPCbx3
import Derived.Test.YtfnafjohfmlniaaDoorPCbx4
import Derived.Test.YtfnafjohfmlniaaDoorPCbx6
import Derived.Test.YtfnafjohfmlniaaDoorPCbx7
namespace Go.Proofs.YtfnafjohfmlniaaDoor.ComE
open Go.RowKit Go.Proofs.YtfnafjohfmlniaaDoorW.PrintWords Go.Proofs.YtfnafjohfmlniaaDoorW.PrintMore
open Go.Proofs.YtfnafjohfmlniaaDoor Go.Proofs.YtfnafjohfmlniaaDoor.PCb Go.Proofs.YtfnafjohfmlniaaDoor.ComA Go.Proofs.YtfnafjohfmlniaaDoor.ComT Go.Proofs.YtfnafjohfmlniaaDoor.ComB Go.Proofs.YtfnafjohfmlniaaDoor.ComC Go.Proofs.YtfnafjohfmlniaaDoor.ComD
set_option linter.unusedSimpArgs false
set_option linter.unusedVariables false
theorem row_run {p pre A post : List S79} {x : S79} (hp : p = pre ++ (x :: A ++ post)) (hA : ∀ y ∈ A, y.f0 = x.f0) (hq : ∀ y q, post = y :: q → y.f0 ≠ x.f0) : common_row.f p (pre.length : Int) = ((A.length + 1 : Nat) : Int) := by
  have hp1 : p = pre ++ x :: (A ++ post) := hp
  have hd : p.drop ((pre.length : Int) + 1).toNat = A ++ post := by
    rw [show ((pre.length : Int) + 1).toNat = (pre ++ [x]).length by simp, show p = (pre ++ [x]) ++ (A ++ post) by rw [hp1, List.append_assoc]; rfl, List.drop_append_of_le_length (Nat.le_refl _), List.drop_length, List.nil_append]
  have ht : post.takeWhile (fun y => y.f0 == x.f0) = [] := by
    cases post with
    | nil => rfl
    | cons y q => rw [List.takeWhile_cons, if_neg (by simpa using hq y q rfl)]
  unfold common_row.f common_row.rest
  rw [rd_mid hp1, hd, List.takeWhile_append_of_pos (fun y hy => by simp [hA y hy]), ht, List.append_nil]
  omega
theorem at_in_mid {p P1 PL P2 : List S79} (hp : p = P1 ++ (PL ++ P2)) (i : Nat) (h1 : P1.length ≤ i) (h2 : i < P1.length + PL.length) : ∃ x ∈ PL, common_at.f p (i : Int) = x.f0 := by
  have hk : i - P1.length < PL.length := by omega
  have hl : p.length = P1.length + (PL.length + P2.length) := by rw [hp, List.length_append, List.length_append]
  refine ⟨PL[i - P1.length], List.getElem_mem hk, ?_⟩
  unfold common_at.f rd_T79
  rw [if_neg (by omega), if_neg (by omega), Int.toNat_natCast, hp, List.getD_eq_getElem?_getD, List.getElem?_append_right h1, List.getElem?_append_left hk, List.getElem?_eq_getElem hk]
  rfl
theorem run_open {p : List S79} {i n : Int} (h0 : common_at.f p (i - 1) = 32) (h1 : ltr (common_at.f p (i + n)) = true) (h2 : (rd_T79 p i).f0 = 42) : common_run.f p i n = ⟨(rd_T79 p i).f1, n, 42, true, false⟩ := by
  unfold common_run.f
  rw [h0, h2, bl_ltr h1, sg_ltr h1]
  rfl
theorem run_close {p : List S79} {i n : Int} (h0 : ltr (common_at.f p (i - 1)) = true) (h1 : common_at.f p (i + n) = 32) (h2 : (rd_T79 p i).f0 = 42) : common_run.f p i n = ⟨(rd_T79 p i).f1, n, 42, false, true⟩ := by
  unfold common_run.f
  rw [h1, h2, bl_ltr h0, sg_ltr h0]
  rfl
theorem go_star {p pre A post : List S79} {x : S79} (hp : p = pre ++ (x :: A ++ post)) (hx : x.f0 = 42) (hA : ∀ y ∈ A, y.f0 = x.f0) (hq : ∀ y q, post = y :: q → y.f0 ≠ x.f0) (f : Nat) :
    common_split.go p (f + 1) (pre.length : Int) = R (common_run.f p (pre.length : Int) ((A.length + 1 : Nat) : Int)) ((A.length + 1 : Nat) : Int) :: common_split.go p f ((pre.length : Int) + ((A.length + 1 : Nat) : Int)) := by
  have hp1 : p = pre ++ x :: (A ++ post) := hp
  rw [common_split.go, if_pos (len_mid hp1), rd_mid hp1, hx, if_neg (by decide), if_pos (Or.inl rfl), row_run hp hA hq]
  rfl
def S (n : Nat) : List Int := List.replicate (n + 1) 42
theorem pts_S (n i : Nat) : pts (S n) i = (⟨42, (i : Int)⟩ : S79) :: pts (List.replicate n 42) (i + 1) := rfl
theorem rep_f0 (n i : Nat) : ∀ y ∈ pts (List.replicate n 42) i, y.f0 = 42 := fun y hy => (List.mem_replicate.1 (pts_mem _ _ _ hy)).2
theorem star_split (n : Nat) (L : List Int) (hL : ∀ x ∈ L, ltr x = true) (hne : 0 < L.length) : ∃ r1 r2 : S38, fits r1 r2 ∧ common_split.f (pts (S n ++ (L ++ S n)) 0) = line r1 r2 ((n + 1 : Nat) : Int) ((pts L (n + 1)).map (common_plain.one 0)) := by
  have hSl : (S n).length = n + 1 := List.length_replicate
  obtain ⟨m, hm⟩ : ∃ m, m = n + 1 + L.length := ⟨_, rfl⟩
  have hp : pts (S n ++ (L ++ S n)) 0 = pts (S n) 0 ++ (pts L (n + 1) ++ pts (S n) m) := by rw [pts_append, pts_append, hSl, Nat.zero_add, hm]
  have hlen : (pts (S n ++ (L ++ S n)) 0).length = n + 1 + (L.length + (n + 1)) := by rw [pts_len, List.length_append, List.length_append, hSl]
  generalize pts (S n ++ (L ++ S n)) 0 = p at hp hlen ⊢
  have l1 : (pts (S n) 0).length = n + 1 := by rw [pts_len, hSl]
  have lL : (pts L (n + 1)).length = L.length := pts_len _ _
  have hmid : ∀ i : Nat, n + 1 ≤ i → i < n + 1 + L.length → ltr (common_at.f p (i : Int)) = true := fun i h1 h2 => by
    obtain ⟨x, hx, e⟩ := at_in_mid hp i (by omega) (by omega)
    rw [e]
    exact hL _ (pts_mem _ _ _ hx)
  have hp1 : p = [] ++ ((⟨42, ((0 : Nat) : Int)⟩ : S79) :: pts (List.replicate n 42) (0 + 1) ++ (pts L (n + 1) ++ pts (S n) m)) := hp
  have hp2 : p = (pts (S n) 0 ++ pts L (n + 1)) ++ ((⟨42, (m : Int)⟩ : S79) :: pts (List.replicate n 42) (m + 1) ++ []) := by rw [hp, List.append_nil, List.append_assoc]; rfl
  have la : ∀ i, (pts (List.replicate n 42) i).length = n := fun i => by rw [pts_len, List.length_replicate]
  have lP : (pts (S n) 0 ++ pts L (n + 1)).length = m := by rw [List.length_append, l1, lL, hm]
  have c1 : ∀ y q, pts L (n + 1) ++ pts (S n) m = y :: q → y.f0 ≠ (⟨42, ((0 : Nat) : Int)⟩ : S79).f0 := fun y q e => by
    cases L with
    | nil => exact absurd hne (by decide)
    | cons c L =>
      have e2 : y = (⟨c, ((n + 1 : Nat) : Int)⟩ : S79) := by injection e with e1 _; exact e1.symm
      have := (ltr_iff c).1 (hL c (List.mem_cons_self ..))
      rw [e2]
      show c ≠ 42
      omega
  have g1 := go_star hp1 rfl (rep_f0 n _) c1 (L.length + (2 * n + 2))
  have g2 := go_calms (pts L (n + 1)) (pts (S n) 0) (pts (S n) m) p hp (fun x hx => by have := (ltr_iff _).1 (hL _ (pts_mem _ _ _ hx)); unfold calm; omega) (2 * n + 2)
  have g3 := go_star hp2 rfl (rep_f0 n _) (fun y q e => by cases e) (2 * n + 1)
  have r1 := run_open (p := p) (i := (([] : List S79).length : Int)) (n := ((n + 1 : Nat) : Int)) rfl (by have := hmid (n + 1) (Nat.le_refl _) (by omega); rw [show ((([] : List S79).length : Int)) + ((n + 1 : Nat) : Int) = ((n + 1 : Nat) : Int) by simp]; exact this) (by rw [rd_mid hp1])
  have r2 := run_close (p := p) (i := ((pts (S n) 0 ++ pts L (n + 1)).length : Int)) (n := ((n + 1 : Nat) : Int)) (by have := hmid (m - 1) (by omega) (by omega); rw [lP, show (m : Int) - 1 = ((m - 1 : Nat) : Int) by omega]; exact this) (by rw [lP]; unfold common_at.f; rw [if_neg (by omega), if_pos (by omega)]) (by rw [rd_mid hp2])
  rw [la] at g1 g3
  rw [r1] at g1
  rw [r2] at g3
  rw [l1, lL] at g2
  rw [lP] at g3
  refine ⟨⟨(rd_T79 p (([] : List S79).length : Int)).f1, ((n + 1 : Nat) : Int), 42, true, false⟩, ⟨(rd_T79 p (m : Int)).f1, ((n + 1 : Nat) : Int), 42, false, true⟩, ⟨rfl, rfl, rfl, rfl, rfl⟩, ?_⟩
  unfold common_split.f
  rw [hlen]
  have e0 : n + 1 + (L.length + (n + 1)) + 1 = L.length + (2 * n + 2) + 1 := by omega
  rw [e0]
  refine (show _ = _ from g1).trans ?_
  rw [show ((([] : List S79).length : Int)) + ((n + 1 : Nat) : Int) = ((n + 1 : Nat) : Int) by simp, show L.length + (2 * n + 2) = 2 * n + 2 + L.length by omega, g2, show n + 1 + L.length = m from hm.symm, show 2 * n + 2 = 2 * n + 1 + 1 from rfl, g3, show (m : Int) + ((n + 1 : Nat) : Int) = (p.length : Int) by rw [hlen]; omega, go_end]
  rfl
theorem fence_go {b : S79} (hb : b.f0 = 96) : ∀ (w pre p : List S79), p = pre ++ (w ++ [b]) → (∀ x ∈ w, x.f0 ≠ 96) → ∀ f, common_fence.go p 1 (f + 1 + w.length) (pre.length : Int) = ((pre.length + w.length : Nat) : Int)
  | [], pre, p, hp, _, f => by
    have hp1 : p = pre ++ b :: [] := hp
    have hr := row_run (A := []) (post := []) (p := p) (pre := pre) (x := b) hp (fun y hy => by cases hy) (fun y q e => by cases e)
    show common_fence.go p 1 (f + 1) (pre.length : Int) = _
    rw [common_fence.go, if_pos (len_mid hp1), rd_mid hp1, if_pos hb, hr, if_pos (show ((([] : List S79).length + 1 : Nat) : Int) = 1 from rfl)]
    rfl
  | x :: w, pre, p, hp, h, f => by
    have hp1 : p = pre ++ x :: (w ++ [b]) := hp
    have ih := fence_go hb w (pre ++ [x]) p (by rw [hp, List.append_assoc]; rfl) (fun y hy => h y (List.mem_cons_of_mem _ hy)) f
    rw [List.length_append, List.length_singleton] at ih
    rw [show f + 1 + (x :: w).length = f + 1 + w.length + 1 by rw [List.length_cons]; omega, common_fence.go, if_pos (len_mid hp1), rd_mid hp1, if_neg (h x (List.mem_cons_self ..)), show (pre.length : Int) + 1 = ((pre.length + 1 : Nat) : Int) by omega, ih, List.length_cons]
    omega
theorem code_split (L : List Int) (hL : ∀ x ∈ L, ltr x = true) (hne : 0 < L.length) : common_split.f (pts ([96] ++ (L ++ [96])) 0) = (pts L 1).map (common_plain.one 4) := by
  obtain ⟨m, hm⟩ : ∃ m, m = 1 + L.length := ⟨_, rfl⟩
  have hp : pts ([96] ++ (L ++ [96])) 0 = [(⟨96, ((0 : Nat) : Int)⟩ : S79)] ++ (pts L 1 ++ [(⟨96, (m : Int)⟩ : S79)]) := by rw [pts_append, pts_append, hm]; rfl
  have hlen : (pts ([96] ++ (L ++ [96])) 0).length = L.length + 2 := by rw [pts_len]; simp
  generalize pts ([96] ++ (L ++ [96])) 0 = p at hp hlen ⊢
  have lL : (pts L 1).length = L.length := pts_len _ _
  have c1 : ∀ y q, pts L 1 ++ [(⟨96, (m : Int)⟩ : S79)] = y :: q → ltr y.f0 = true := fun y q e => by
    cases L with
    | nil => exact absurd hne (by decide)
    | cons c L =>
      have e2 : y = (⟨c, ((1 : Nat) : Int)⟩ : S79) := by injection e with e1 _; exact e1.symm
      rw [e2]
      exact hL c (List.mem_cons_self ..)
  have hr := row_run (A := []) (post := pts L 1 ++ [(⟨96, (m : Int)⟩ : S79)]) (p := p) (pre := []) (x := (⟨96, ((0 : Nat) : Int)⟩ : S79)) hp (fun y hy => by cases hy) (fun y q e => by have := (ltr_iff _).1 (c1 y q e); show y.f0 ≠ 96; omega)
  have hr0 : common_row.f p 0 = 1 := hr
  have hrd : rd_T79 p 0 = (⟨96, ((0 : Nat) : Int)⟩ : S79) := rd_mid (pre := []) (post := pts L 1 ++ [(⟨96, (m : Int)⟩ : S79)]) hp
  have hf := fence_go (b := (⟨96, (m : Int)⟩ : S79)) rfl (pts L 1) [(⟨96, ((0 : Nat) : Int)⟩ : S79)] p hp (fun x hx => by have := (ltr_iff _).1 (hL _ (pts_mem _ _ _ hx)); omega) 2
  have hf1 : common_fence.f p 1 1 = (m : Int) := by
    unfold common_fence.f
    rw [hlen, show L.length + 2 + 1 = 2 + 1 + (pts L 1).length by rw [lL]; omega]
    refine (show _ = _ from hf).trans ?_
    rw [lL, hm]
    rfl
  have hb : common_code.bare p 1 (m : Int) = false := by
    have e : ((rd_T79 p 1).f0 == 32) = false := by
      obtain ⟨x, hx, e⟩ := at_in_mid hp 1 (Nat.le_refl _) (by rw [lL]; show 1 < 1 + L.length; omega)
      have h2 : common_at.f p ((1 : Nat) : Int) = (rd_T79 p 1).f0 := by unfold common_at.f; rw [if_neg (by omega), if_neg (by omega)]; rfl
      have := (ltr_iff _).1 (hL _ (pts_mem _ _ _ hx))
      rw [← h2, e]
      simp
      omega
    unfold common_code.bare
    rw [e, Bool.false_and, Bool.and_false, Bool.and_false]
  have hcode : common_code.f p 1 (m : Int) = (pts L 1).map (common_plain.one 4) := by
    unfold common_code.f
    rw [hb, if_neg (by decide)]
    unfold common_plain.f common_cut
    rw [Int.toNat_natCast, show (1 : Int).toNat = 1 from rfl, hp, ← List.append_assoc, List.take_append_of_le_length (by rw [List.length_append, lL, hm]; exact Nat.le_refl _), List.take_of_length_le (by rw [List.length_append, lL, hm]; exact Nat.le_refl _)]
    rfl
  unfold common_split.f
  rw [common_split.go, if_pos (by omega), hrd, if_pos rfl, hr0, show (0 : Int) + 1 = 1 from rfl, hf1, if_neg (by omega), hcode, show (m : Int) + 1 = (p.length : Int) by rw [hlen]; omega, go_end, List.append_nil]
end Go.Proofs.YtfnafjohfmlniaaDoor.ComE
