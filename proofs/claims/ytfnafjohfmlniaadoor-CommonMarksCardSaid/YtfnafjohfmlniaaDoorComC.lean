/- Lines of letters and blanks with a low line between letters: no run of theirs closes. -/
import Derived.Test.YtfnafjohfmlniaaDoorComB
import Derived.Test.YtfnafjohfmlniaaDoorPCbx0
import Derived.Test.YtfnafjohfmlniaaDoorPCbx12
import Derived.Test.YtfnafjohfmlniaaDoorPCbx2
import Derived.Test.YtfnafjohfmlniaaDoorPCbx3
import Derived.Test.YtfnafjohfmlniaaDoorPCbx6
import Derived.Test.YtfnafjohfmlniaaDoorPCbx7
namespace Go.Proofs.YtfnafjohfmlniaaDoor.ComC
open Go.RowKit Go.Proofs.YtfnafjohfmlniaaDoorW.PrintWords Go.Proofs.YtfnafjohfmlniaaDoorW.PrintMore
open Go.Proofs.YtfnafjohfmlniaaDoor Go.Proofs.YtfnafjohfmlniaaDoor.PCb Go.Proofs.YtfnafjohfmlniaaDoor.ComA Go.Proofs.YtfnafjohfmlniaaDoor.ComT Go.Proofs.YtfnafjohfmlniaaDoor.ComB
set_option linter.unusedSimpArgs false
set_option linter.unusedVariables false
def ltr (c : Int) : Bool := decide (97 ≤ c) && decide (c ≤ 122)
theorem ltr_iff (c : Int) : ltr c = true ↔ 97 ≤ c ∧ c ≤ 122 := by unfold ltr; rw [Bool.and_eq_true, decide_eq_true_iff, decide_eq_true_iff]
def nxt : List Int → Bool
  | [] => false
  | c :: _ => ltr c
def good : Bool → List Int → Bool
  | _, [] => true
  | b, c :: r => if c = 95 then b && nxt r && good false r else (ltr c || decide (c = 32)) && good (ltr c) r
def endl : Bool → List Int → Bool
  | b, [] => b
  | _, c :: r => endl (ltr c) r
theorem endl_last : ∀ (q : List Int) (b : Bool) (x : Int), endl b (q ++ [x]) = ltr x
  | [], _, _ => rfl
  | c :: q, b, x => endl_last q (ltr c) x
theorem good_app : ∀ (a : List Int) (b : Bool) (q : List Int), good b a = true → good (endl b a) q = true → good b (a ++ q) = true
  | [], _, _, _, h => h
  | c :: a, b, q, h1, h2 => by
    show good b (c :: (a ++ q)) = true
    have h2' : good (endl (ltr c) a) q = true := h2
    unfold good at h1 ⊢
    by_cases hc : c = 95
    · rw [if_pos hc] at h1 ⊢
      rw [Bool.and_eq_true, Bool.and_eq_true] at h1 ⊢
      cases a with
      | nil => exact absurd h1.1.2 (by decide)
      | cons d a =>
        refine ⟨⟨h1.1.1, h1.1.2⟩, ?_⟩
        refine good_app (d :: a) false q h1.2 ?_
        rw [hc] at h2'
        exact h2'
    · rw [if_neg hc] at h1 ⊢
      rw [Bool.and_eq_true] at h1 ⊢
      exact ⟨h1.1, good_app a _ q h1.2 h2'⟩
theorem good_mem : ∀ (a : List Int) (b : Bool), good b a = true → ∀ x ∈ a, x = 95 ∨ x = 32 ∨ (97 ≤ x ∧ x ≤ 122)
  | [], _, _, _, h => by cases h
  | c :: a, b, h1, x, hx => by
    unfold good at h1
    by_cases hc : c = 95
    · rw [if_pos hc] at h1
      rw [Bool.and_eq_true, Bool.and_eq_true] at h1
      rcases List.mem_cons.1 hx with rfl | hx
      · exact .inl hc
      · exact good_mem a _ h1.2 x hx
    · rw [if_neg hc] at h1
      rw [Bool.and_eq_true] at h1
      rcases List.mem_cons.1 hx with rfl | hx
      · right
        have h := h1.1
        rw [Bool.or_eq_true, ltr_iff, decide_eq_true_iff] at h
        omega
      · exact good_mem a _ h1.2 x hx
theorem good_asc (a : List Int) (b : Bool) (h : good b a = true) : ∀ x ∈ a, asc x := fun x hx => by
  have := good_mem a b h x hx
  unfold asc
  omega
theorem row_one {p pre post : List S79} {x y : S79} (hp : p = pre ++ x :: y :: post) (h : y.f0 ≠ x.f0) : common_row.f p (pre.length : Int) = 1 := by
  unfold common_row.f common_row.rest
  rw [rd_mid hp]
  have hp2 : p = (pre ++ [x]) ++ y :: post := by rw [hp, List.append_assoc]; rfl
  rw [show ((pre.length : Int) + 1).toNat = (pre ++ [x]).length by simp, hp2, List.drop_append_of_le_length (Nat.le_refl _), List.drop_length, List.nil_append, List.takeWhile_cons, if_neg (by simpa using h)]
  rfl
theorem at_mid {p pre post : List S79} {x : S79} (hp : p = pre ++ x :: post) : common_at.f p (pre.length : Int) = x.f0 := by
  have h := len_mid hp
  unfold common_at.f
  rw [if_neg (by omega), if_neg (by omega), rd_mid hp]
theorem bl_ltr {c : Int} (h : ltr c = true) : bl c = false := by
  rw [ltr_iff] at h
  unfold bl
  rw [decide_eq_false (by omega), decide_eq_false (by omega)]
  rfl
theorem sg_ltr {c : Int} (h : ltr c = true) : sg c = false := by
  rw [ltr_iff] at h
  unfold sg
  rw [decide_eq_true h.1, decide_eq_true h.2]
  simp
theorem go_low {q post p : List S79} {y x z : S79} (hp : p = q ++ y :: x :: z :: post) (hy : ltr y.f0 = true) (hx : x.f0 = 95) (hz : ltr z.f0 = true) (f : Nat) :
    common_split.go p (f + 1) ((q ++ [y]).length : Int) = (⟨⟨0, 0, 0, 0⟩, some ⟨x.f1, 1, 95, false, false⟩, 1, false⟩ : Prt) :: common_split.go p f (((q ++ [y]).length : Int) + 1) := by
  have hp1 : p = (q ++ [y]) ++ x :: z :: post := by rw [hp, List.append_assoc]; rfl
  have hp2 : p = (q ++ [y, x]) ++ z :: post := by rw [hp, List.append_assoc]; rfl
  have h1 := rd_mid hp1
  have h2 := row_one hp1 (by rw [ltr_iff] at hz; omega)
  have h3 := len_mid hp1
  have h4 := at_mid hp
  have h5 := at_mid hp2
  rw [show ((q.length : Nat) : Int) = ((q ++ [y]).length : Int) - 1 by simp] at h4
  rw [show (((q ++ [y, x]).length : Nat) : Int) = ((q ++ [y]).length : Int) + 1 by simp; omega] at h5
  rw [common_split.go, if_pos h3, h1, hx, if_neg (by decide), if_pos (Or.inr rfl), h2]
  have hr : common_run.f p ((q ++ [y]).length : Int) 1 = ⟨x.f1, 1, 95, false, false⟩ := by
    unfold common_run.f
    rw [h1, h4, h5, bl_ltr hy, sg_ltr hy, bl_ltr hz, sg_ltr hz, hx]
    rfl
  rw [hr]
theorem go_good : ∀ (w : List Int) (b : Bool) (k : Nat) (pre p : List S79), p = pre ++ pts w k → good b w = true → (b = true → ∃ q y, pre = q ++ [y] ∧ ltr y.f0 = true) → ∀ f, ∃ o, common_split.go p (f + w.length) (pre.length : Int) = o ∧ (∀ x ∈ o, ∀ r, x.run = some r → r.f4 = false) ∧ o.flatMap common_Parse.toks = tk w
  | [], b, k, pre, p, hp, _, _, f => by
    have : p = pre := by rw [hp]; exact List.append_nil _
    subst this
    exact ⟨[], go_end _ _, (by simp), rfl⟩
  | c :: w, b, k, pre, p, hp, hg, hb, f => by
    have hp1 : p = (pre ++ [(⟨c, (k : Int)⟩ : S79)]) ++ pts w (k + 1) := by rw [hp, List.append_assoc]; rfl
    have hi : ((pre ++ [(⟨c, (k : Int)⟩ : S79)]).length : Int) = (pre.length : Int) + 1 := by simp
    unfold good at hg
    by_cases hc : c = 95
    · rw [if_pos hc, Bool.and_eq_true, Bool.and_eq_true] at hg
      obtain ⟨q, y, rfl, hy⟩ := hb hg.1.1
      obtain ⟨o, h1, h2, h3⟩ := go_good w false (k + 1) _ p hp1 hg.2 (fun e => by cases e) f
      rw [hi] at h1
      cases w with
      | nil => exact absurd hg.1.2 (by decide)
      | cons d w =>
        have hl := go_low (q := q) (y := y) (x := (⟨c, (k : Int)⟩ : S79)) (z := (⟨d, ((k + 1 : Nat) : Int)⟩ : S79)) (post := pts w (k + 1 + 1)) (p := p) (by rw [hp, List.append_assoc]; rfl) hy hc hg.1.2 (f + (d :: w).length)
        refine ⟨_, hl, ?_, ?_⟩
        · intro x hx r hr
          rcases List.mem_cons.1 hx with rfl | hx
          · obtain rfl := Option.some.inj hr
            rfl
          · rw [h1] at hx
            exact h2 x hx r hr
        · rw [List.flatMap_cons, h1, h3, hc]
          rfl
    · rw [if_neg hc, Bool.and_eq_true] at hg
      obtain ⟨o, h1, h2, h3⟩ := go_good w (ltr c) (k + 1) _ p hp1 hg.2 (fun e => ⟨pre, _, rfl, e⟩) f
      rw [hi] at h1
      have hcl : calm c := by
        have h := hg.1
        rw [Bool.or_eq_true, ltr_iff, decide_eq_true_iff] at h
        unfold calm
        omega
      have hl := go_calm (p := p) (pre := pre) (post := pts w (k + 1)) (x := (⟨c, (k : Int)⟩ : S79)) hp hcl (f + w.length)
      refine ⟨_, hl, ?_, ?_⟩
      · intro x hx r hr
        rcases List.mem_cons.1 hx with rfl | hx
        · cases hr
        · rw [h1] at hx
          exact h2 x hx r hr
      · rw [List.flatMap_cons, h1, h3]
        rfl
theorem good_parse (w : List Int) (hg : good false w = true) (hl : w.length ≤ 4000) : common_Parse.f (str w) = some (tk w, ((str w).size : Int), 0) := by
  obtain ⟨o, h1, h2, h3⟩ := go_good w false 0 [] (pts w 0) rfl hg (fun e => by cases e) 1
  have hsp : common_split.f (pts w 0) = o := by
    unfold common_split.f
    rw [pts_len, Nat.add_comm]
    exact h1
  unfold common_Parse.f
  rw [points_str _ (good_asc _ _ hg) (by omega)]
  dsimp only
  rw [if_pos rfl, hsp, match_id _ h2, h3, str_size]
end Go.Proofs.YtfnafjohfmlniaaDoor.ComC
