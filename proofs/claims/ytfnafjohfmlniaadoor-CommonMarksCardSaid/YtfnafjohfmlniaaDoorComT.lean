/- The text of a line's tokens has no more bytes than its parts; the law's awake. -/
import Derived.Test.YtfnafjohfmlniaaDoorComA
import Derived.Test.YtfnafjohfmlniaaDoorPCbx0
import Derived.Test.YtfnafjohfmlniaaDoorPCbx12
import Derived.Test.YtfnafjohfmlniaaDoorPCbx13
import Derived.Test.YtfnafjohfmlniaaDoorPCbx14
import Derived.Test.YtfnafjohfmlniaaDoorPCbx2
import Derived.Test.YtfnafjohfmlniaaDoorPCbx9
namespace Go.Proofs.YtfnafjohfmlniaaDoor.ComT
open Go.RowKit Go.Proofs.YtfnafjohfmlniaaDoorW.PrintWords Go.Proofs.YtfnafjohfmlniaaDoorW.PrintMore
open Go.Proofs.YtfnafjohfmlniaaDoor Go.Proofs.YtfnafjohfmlniaaDoor.PCb Go.Proofs.YtfnafjohfmlniaaDoor.ComA
set_option linter.unusedSimpArgs false
set_option linter.unusedVariables false
theorem right_tok {t : S43} (h : tokOk t) : flat_Right.f t.f0 t.f1 t.f2 t.f3 = some true := by
  obtain ⟨h0, h1, h2, _, h3, h4⟩ := h
  unfold flat_Right.f
  rw [if_pos h0, if_pos h1, if_pos (show t.f2 ≥ 0 from h2.1), if_pos h2.2.1, if_neg h2.2.2]
  unfold mark_Right.f
  rw [if_pos (show t.f3 ≥ 0 from h3), decide_eq_true h4]
  rfl
theorem one_len (t : S43) : (flat_Text.one t).length ≤ sz t.f2 := by
  unfold flat_Text.one
  split
  · split
    · exact Nat.le_refl _
    · exact Nat.zero_le _
  · exact Nat.zero_le _
theorem txt_append (a b : List S43) : flat_Text.txt (a ++ b) = flat_Text.txt a ++ flat_Text.txt b := by unfold flat_Text.txt; rw [List.flatMap_append]
theorem txt_rep (t : S43) (h : sz t.f2 = 1) : ∀ n : Nat, (flat_Text.txt (List.replicate n t)).length ≤ n
  | 0 => Nat.le_refl _
  | n + 1 => by
    rw [List.replicate_succ]
    show (flat_Text.one t ++ flat_Text.txt (List.replicate n t)).length ≤ n + 1
    rw [List.length_append]
    have h1 := one_len t
    have h2 := txt_rep t h n
    omega
theorem toks_txt {x : Prt} (h : prtOkay x) : (flat_Text.txt (common_Parse.toks x)).length ≤ wt x := by
  unfold common_Parse.toks wt
  cases hr : x.run with
  | none =>
    show (flat_Text.one x.tok ++ []).length ≤ _
    rw [List.append_nil]
    exact one_len _
  | some r => exact txt_rep _ (sz_sign _ (h.2.2.2.2 r hr)) _
theorem all_txt : ∀ o : List Prt, (∀ x ∈ o, prtOkay x) → (flat_Text.txt (o.flatMap common_Parse.toks)).length ≤ wts o
  | [], _ => Nat.le_refl _
  | x :: o, h => by
    rw [List.flatMap_cons, txt_append, List.length_append]
    have h1 := toks_txt (h x (by simp))
    have h2 := all_txt o (fun y hy => h y (by simp [hy]))
    show _ ≤ wt x + wts o
    omega
theorem text_f (l : List S43) (h : l.length < 17592186044416) : flat_Text.f l = some ⟨(flat_Text.txt l).toArray⟩ := if_pos h
theorem text_size (l : List UInt8) : (⟨l.toArray⟩ : ByteArray).size = l.length := by simp [ByteArray.size]
theorem awake28 : emenderlaw28_awake.f = some true := by decide +kernel
theorem scan_idx (s : ByteArray) : ∀ (f i j : Nat), (common_points.scan s f i).1 = some j → j < s.size
  | 0, _, _, h => by cases h
  | f + 1, i, j, h => by
    rw [common_points.scan] at h
    by_cases h1 : i < s.size
    · rw [if_pos h1] at h
      by_cases h2 : rune s i = 10 ∨ (rune s i = 65533 ∧ width s i = 1)
      · rw [if_pos h2] at h
        obtain rfl := Option.some.inj h
        exact h1
      · rw [if_neg h2] at h
        exact scan_idx s f _ j h
    · rw [if_neg h1] at h
      cases h
theorem points_n (s : ByteArray) : 0 ≤ (common_points.f s).2.1 ∧ (common_points.f s).2.1 ≤ (s.size : Int) ∧ ((common_points.f s).2.2 = 0 → s.size ≤ 4000) := by
  unfold common_points.f
  by_cases h : s.size > 4000
  · rw [if_pos h]
    exact ⟨Int.le_refl 0, by show (0 : Int) ≤ _; omega, fun e => by cases e⟩
  · rw [if_neg h]
    unfold common_points.res
    split
    · rename_i i hi
      have := scan_idx s s.size 0 i hi
      exact ⟨by show (0 : Int) ≤ (i : Int); omega, by show (i : Int) ≤ _; omega, fun _ => by omega⟩
    · exact ⟨by show (0 : Int) ≤ (s.size : Int); omega, Int.le_refl _, fun _ => by omega⟩

end Go.Proofs.YtfnafjohfmlniaaDoor.ComT
