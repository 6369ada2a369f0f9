/- InlineRight: what is read of any line is right, and written and read again it is the same. -/
import Derived.Test.YtebbngeamnpgjaaDoorGInlineRight
import Derived.Test.YtebbngeamnpgjaaDoorInlG
import Derived.Test.YtebbngeamnpgjaaDoorInlD
import Derived.Test.YtebbngeamnpgjaaDoorPIax0
import Derived.Test.YtebbngeamnpgjaaDoorPIax12
import Derived.Test.YtebbngeamnpgjaaDoorPIax2
import Derived.Test.YtebbngeamnpgjaaDoorPIax3
import Derived.Test.YtebbngeamnpgjaaDoorPIax8
namespace Go.Proofs.YtebbngeamnpgjaaDoor.Pure
open Go.RowKit Go.Proofs.YtebbngeamnpgjaaDoorW.PrintWords Go.Proofs.YtebbngeamnpgjaaDoorW.PrintMore
open Go.Proofs.YtebbngeamnpgjaaDoor Go.Proofs.YtebbngeamnpgjaaDoor.PIa Go.Proofs.YtebbngeamnpgjaaDoor.FlatA Go.Proofs.YtebbngeamnpgjaaDoor.InlA Go.Proofs.YtebbngeamnpgjaaDoor.InlB Go.Proofs.YtebbngeamnpgjaaDoor.InlC Go.Proofs.YtebbngeamnpgjaaDoor.InlD Go.Proofs.YtebbngeamnpgjaaDoor.InlG
set_option linter.unusedSimpArgs false
theorem rune_ok (s : ByteArray) (i : Nat) : okc (rune s i) := by
  unfold rune okc
  rw [Lib.decode_at]
  have h0 := (s.get! i).toNat_lt
  unfold Lib.decodeN
  repeat' split
  all_goals (dsimp only; omega)
theorem scan_ok (s : ByteArray) : ∀ (f i : Nat), ∀ x ∈ (inline_Parse.scan s f i).2, okc x ∧ x ≠ 10
  | 0, i => by simp [inline_Parse.scan]
  | f + 1, i => by
    unfold inline_Parse.scan
    split
    · split
      · simp
      · rename_i h
        intro x hx
        rcases List.mem_cons.1 hx with rfl | hx
        · exact ⟨rune_ok s i, fun e => h (Or.inr e)⟩
        · exact scan_ok s f _ x hx
    · simp
theorem good_of (c set : Int) (hc : okc c) (h10 : c ≠ 10) (hs : 0 ≤ set ∧ set ≤ 4) : good ⟨0, 0, c, set⟩ = true := by
  have hr : right 0 0 c set = true := by
    unfold right flat_Right.f
    rw [if_pos rfl, if_pos rfl, if_pos (show c ≥ 0 from hc.1), if_pos hc.2.1, if_neg (by have := hc.2.2; omega)]
    unfold mark_Right.f
    rw [if_pos (show set ≥ 0 from hs.1), decide_eq_true hs.2]
    rfl
  unfold good
  dsimp only
  rw [hr, show (c != 10) = true from bne_iff_ne.2 h10]
  rfl
theorem x_le (set m : Int) (hm : m = 1 ∨ m = 2) (h : 0 ≤ set ∧ set ≤ 3) : 0 ≤ inline_take.x set m ∧ inline_take.x set m ≤ 3 := by
  have : set = 0 ∨ set = 1 ∨ set = 2 ∨ set = 3 := by omega
  rcases hm with rfl | rfl <;> rcases this with rfl | rfl | rfl | rfl <;> decide +kernel
theorem run_good : ∀ (n : Nat) (l : List Int) (set old : Int), l.length ≤ n → (∀ c ∈ l, okc c ∧ c ≠ 10) → 0 ≤ set ∧ set ≤ 4 → 0 ≤ old ∧ old ≤ 3 → ∀ t ∈ inline_Parse.run l set old, good t = true
  | n, [], set, old, _, _, _, _ => by rw [run_nil]; simp
  | 0, c :: l, set, old, h, _, _, _ => by simp at h
  | n + 1, c :: l, set, old, h, hg, hs, ho => by
    have h' : l.length ≤ n := by simpa using h
    have ht : l.tail.length ≤ n := by rw [List.length_tail]; omega
    obtain ⟨hc, h10⟩ := hg c (List.mem_cons_self ..)
    have hl : ∀ x ∈ l, okc x ∧ x ≠ 10 := fun x hx => hg x (List.mem_cons_of_mem _ hx)
    have hlt : ∀ x ∈ l.tail, okc x ∧ x ≠ 10 := fun x hx => hl x (List.mem_of_mem_tail hx)
    have key : ∀ (b : Bool) (o : List S36) (s1 o1 : Int), inline_take.step c (l.headD (-1)) set old = (b, o, s1, o1) → (∀ t ∈ o, good t = true) → 0 ≤ s1 ∧ s1 ≤ 4 → 0 ≤ o1 ∧ o1 ≤ 3 → ∀ t ∈ inline_Parse.run (c :: l) set old, good t = true := by
      intro b o s1 o1 e h1 h2 h3 t hm
      rw [run_cons, e] at hm
      dsimp only at hm
      rcases List.mem_append.1 hm with hm | hm
      · exact h1 t hm
      · cases b with
        | true => rw [if_pos rfl] at hm; exact run_good n l.tail s1 o1 ht hlt h2 h3 t hm
        | false => rw [if_neg (by decide)] at hm; exact run_good n l s1 o1 h' hl h2 h3 t hm
    have one : ∀ t ∈ [(⟨0, 0, c, set⟩ : S36)], good t = true := fun t ht => by rw [List.mem_singleton.1 ht]; exact good_of c set hc h10 hs
    unfold inline_take.step at key
    by_cases a1 : c = 92
    · rw [if_pos a1] at key
      refine key _ _ _ _ rfl ?_ hs ho
      intro t hm
      split at hm
      · rw [List.mem_singleton.1 hm]
        cases l with
        | nil => rename_i g; exact absurd g (by simp)
        | cons x r => exact good_of _ set (hl x (List.mem_cons_self ..)).1 (hl x (List.mem_cons_self ..)).2 hs
      · cases hm
    rw [if_neg a1] at key
    by_cases a2 : c = 96
    · rw [if_pos a2] at key
      by_cases a3 : set = 4
      · rw [if_pos a3] at key
        exact key _ _ _ _ rfl (by simp) ⟨ho.1, by omega⟩ ho
      · rw [if_neg a3] at key
        exact key _ _ _ _ rfl (by simp) (by decide) ⟨hs.1, by omega⟩
    rw [if_neg a2] at key
    by_cases a3 : set = 4
    · rw [if_pos a3] at key
      exact key _ _ _ _ rfl one hs ho
    rw [if_neg a3] at key
    by_cases a4 : c = 42 ∧ l.headD (-1) = 42
    · rw [if_pos a4] at key
      have := x_le set 1 (Or.inl rfl) (by omega)
      exact key _ _ _ _ rfl (by simp) ⟨this.1, by omega⟩ ho
    rw [if_neg a4] at key
    by_cases a5 : c = 95
    · rw [if_pos a5] at key
      have := x_le set 2 (Or.inr rfl) (by omega)
      exact key _ _ _ _ rfl (by simp) ⟨this.1, by omega⟩ ho
    rw [if_neg a5] at key
    exact key _ _ _ _ rfl one hs ho
theorem reads_good (s : ByteArray) : (∀ t ∈ (reads s).1, good t = true) ∧ ((reads s).2.2 ≠ 0 → (reads s).1 = []) := by
  unfold reads
  by_cases h : s.size > 65536
  · rw [if_pos h]; simp
  · rw [if_neg h]
    unfold inline_Parse.res
    split
    · simp
    · exact ⟨run_good _ _ 0 0 (Nat.le_refl _) (scan_ok s _ _) (by decide) (by decide), fun e => absurd rfl e⟩
theorem right_j0 (k : Nat) (l : List S36) (hk : l.length + 10 ≤ k) (hl : l.length ≤ 65536) (h : ∀ t ∈ l, good t = true) : emenderlaw14_InlineRight.j0 (k + 1) l (lineOf l) false = some true := by
  simp only [emenderlaw14_InlineRight.j0]
  rw [if_neg (by decide), awake14 _ (by omega)]
  by_cases h2 : ((lineOf l).size : Int) > 65536
  · rw [if_pos h2]
    rfl
  · rw [if_neg h2, our_parse, Option.bind_some, reads_line l h (by omega)]
    dsimp only
    rw [if_pos rfl, alike _ _ (by omega) _ (by omega), Option.bind_some, sameL_refl, if_pos rfl]
    rfl
theorem InlineRight : emenderlaw14_InlineRight.PureG := by
  intro s hs
  obtain ⟨g1, g2⟩ := reads_good s
  obtain ⟨r1, r2⟩ := reads_len s
  refine ⟨(reads s).1.length + 20 + 1, ?_⟩
  unfold emenderlaw14_InlineRight.f
  rw [our_parse, Option.bind_some]
  by_cases h : (reads s).2.2 = 0
  · rw [if_pos h, our_print _ (by omega) _ (by omega), Option.bind_some]
    unfold prints
    rw [if_pos (List.all_eq_true.2 g1)]
    dsimp only
    rw [if_pos rfl, decide_eq_false (by omega)]
    exact right_j0 _ _ (by omega) r2 g1
  · rw [if_neg h, g2 h, if_pos (show (([] : List S36).length : Int) = 0 from rfl), awake14 _ (by simp)]
    rfl
end Go.Proofs.YtebbngeamnpgjaaDoor.Pure
