/- What the parts of a line are, whatever pairs are found: their tokens, and how many bytes they have. -/
import Derived.Test.YtfnafjohfmlniaaDoorPCsx0
import Derived.Test.YtfnafjohfmlniaaDoorPCsy4
import Derived.Test.YtfnafjohfmlniaaDoorPCsy0
import Derived.Test.YtfnafjohfmlniaaDoorPCsy1
import Derived.Test.YtfnafjohfmlniaaDoorPCsy2
namespace Go.Proofs.YtfnafjohfmlniaaDoor.ComA
open Go.RowKit Go.Proofs.YtfnafjohfmlniaaDoorW.PrintWords Go.Proofs.YtfnafjohfmlniaaDoorW.PrintMore
open Go.Proofs.YtfnafjohfmlniaaDoor Go.Proofs.YtfnafjohfmlniaaDoor.PCs
set_option linter.unusedSimpArgs false
set_option linter.unusedVariables false

/-! ### What every pair keeps -/
theorem marks_ind (P : List Prt → Prop) (hm : ∀ o i m, (m = 1 ∨ m = 2) → P o → P (o.set (i : Int).toNat (prtMark m (prtAt o i)))) (m : Int) (h : m = 1 ∨ m = 2) : ∀ (k : Nat) (o : List Prt) (i : Int), P o → P (common_pair.marks m o i k)
  | 0, _, _, h0 => h0
  | k + 1, o, i, h0 => by
    rw [common_pair.marks]
    exact marks_ind P hm m h k _ _ (hm o i m h h0)
theorem pair_ind (P : List Prt → Prop) (hm : ∀ o i m, (m = 1 ∨ m = 2) → P o → P (o.set (i : Int).toNat (prtMark m (prtAt o i)))) (hl : ∀ o i n, (n = 1 ∨ n = 2) → P o → P (o.set (i : Int).toNat (prtLeft n (prtAt o i)))) (o : List Prt) (i j : Int) (h : P o) : P (common_pair.f o i j) := by
  unfold common_pair.f common_pair.take
  split
  · exact hl _ _ 2 (.inr rfl) (hl _ _ 2 (.inr rfl) (marks_ind P hm 1 (.inl rfl) _ _ _ h))
  · exact hl _ _ 1 (.inl rfl) (hl _ _ 1 (.inl rfl) (marks_ind P hm 2 (.inr rfl) _ _ _ h))
theorem inn_ind (P : List Prt → Prop) (hm : ∀ o i m, (m = 1 ∨ m = 2) → P o → P (o.set (i : Int).toNat (prtMark m (prtAt o i)))) (hl : ∀ o i n, (n = 1 ∨ n = 2) → P o → P (o.set (i : Int).toNat (prtLeft n (prtAt o i)))) (hp : ∀ o i v, P o → P (o.set (i : Int).toNat (prtPass v (prtAt o i)))) (j : Int) (r : S38) : ∀ (f : Nat) (o : List Prt), P o → P (common_match.inn j r f o)
  | 0, _, h => h
  | f + 1, o, h => by
    rw [common_match.inn]
    split
    · split
      · exact hp _ _ _ h
      · exact inn_ind P hm hl hp j r f _ (pair_ind P hm hl _ _ _ h)
    · exact h
theorem match_ind (P : List Prt → Prop) (hm : ∀ o i m, (m = 1 ∨ m = 2) → P o → P (o.set (i : Int).toNat (prtMark m (prtAt o i)))) (hl : ∀ o i n, (n = 1 ∨ n = 2) → P o → P (o.set (i : Int).toNat (prtLeft n (prtAt o i)))) (hp : ∀ o i v, P o → P (o.set (i : Int).toNat (prtPass v (prtAt o i)))) (o : List Prt) (h : P o) : P (common_match.f o) := by
  have key : ∀ (k : Nat) (j : Int) (o : List Prt), P o → P (common_match.out k j o) := by
    intro k
    induction k with
    | zero => intro j o h; exact h
    | succ k ih =>
      intro j o h
      rw [common_match.out]
      refine ih _ _ ?_
      unfold common_match.one
      split
      · exact h
      · split
        · exact inn_ind P hm hl hp _ _ _ _ h
        · exact h
  exact key _ _ _ h
theorem set_all (Q : Prt → Prop) {o : List Prt} {i : Int} {f : Prt → Prt} (h : ∀ x ∈ o, Q x) (hf : ∀ x, Q x → Q (f x)) : ∀ x ∈ o.set i.toNat (f (prtAt o i)), Q x := by
  intro x hx
  by_cases hi : i.toNat < o.length
  · rcases List.mem_or_eq_of_mem_set hx with hx | rfl
    · exact h x hx
    · exact hf _ (h _ (common_getD_mem o zPrt i.toNat hi))
  · rw [List.set_eq_of_length_le (by omega)] at hx
    exact h x hx
/-! ### How many bytes -/
def sz (c : Int) : Nat := (Lib.encodeRune c).length
theorem sz_pos (c : Int) : 1 ≤ sz c := by unfold sz Lib.encodeRune; rw [List.length_map]; exact (Lib.encodeRuneZ_length c).1
theorem sz_le (c : Int) (n : Nat) (h : (0 ≤ c ∧ c ≤ 127 ∧ 1 ≤ n) ∨ (128 ≤ c ∧ c ≤ 2047 ∧ 2 ≤ n) ∨ (2048 ≤ c ∧ c ≤ 65535 ∧ 3 ≤ n) ∨ 4 ≤ n) : sz c ≤ n := by
  unfold sz Lib.encodeRune
  rw [List.length_map]
  unfold Lib.encodeRuneZ
  split
  · simp only [List.length_cons, List.length_nil]; omega
  · split
    · simp only [List.length_cons, List.length_nil]; omega
    · split
      · simp only [List.length_cons, List.length_nil]; omega
      · split
        · simp only [List.length_cons, List.length_nil]; omega
        · simp only [List.length_cons, List.length_nil]; omega
theorem sz_width (s : ByteArray) (i : Nat) (h : ¬ (rune s i = 65533 ∧ width s i = 1)) : sz (rune s i) ≤ width s i := by
  apply sz_le
  unfold rune width at *
  rw [Lib.decode_at] at *
  have h0 := (s.get! i).toNat_lt
  unfold Lib.decodeN at *
  split at h
  · rename_i g; simp only [if_pos g]; left; omega
  · rename_i g
    simp only [if_neg g]
    split at h
    · rename_i g2
      simp only [if_pos g2]
      split at h
      · rename_i g3; simp only [if_pos g3]; right; left; omega
      · exact absurd ⟨rfl, rfl⟩ h
    · rename_i g2
      simp only [if_neg g2]
      split at h
      · rename_i g3
        simp only [if_pos g3]
        split at h
        · rename_i g4; simp only [if_pos g4]; right; right; left; omega
        · exact absurd ⟨rfl, rfl⟩ h
      · rename_i g3
        simp only [if_neg g3]
        split at h
        · rename_i g4
          simp only [if_pos g4]
          split at h
          · rename_i g5; simp only [if_pos g5]; right; right; right; omega
          · exact absurd ⟨rfl, rfl⟩ h
        · exact absurd ⟨rfl, rfl⟩ h
def pw (l : List S79) : Nat := (l.map fun x => sz x.f0).sum
def wt (x : Prt) : Nat := match x.run with | none => sz x.tok.f2 | some _ => x.left.toNat
def wts (o : List Prt) : Nat := (o.map wt).sum
theorem pw_append (a b : List S79) : pw (a ++ b) = pw a + pw b := by unfold pw; rw [List.map_append, List.sum_append]
theorem pw_len : ∀ l : List S79, l.length ≤ pw l
  | [] => Nat.zero_le _
  | x :: l => by
    have h1 := pw_len l
    have h2 := sz_pos x.f0
    show l.length + 1 ≤ sz x.f0 + pw l
    omega
theorem wts_append (a b : List Prt) : wts (a ++ b) = wts a + wts b := by unfold wts; rw [List.map_append, List.sum_append]
theorem wts_set : ∀ (o : List Prt) (i : Nat) (x : Prt), wt x ≤ wt (o.getD i zPrt) → wts (o.set i x) ≤ wts o
  | [], _, _, _ => Nat.le_refl _
  | y :: o, 0, x, h => by
    show wt x + wts o ≤ wt y + wts o
    have : wt x ≤ wt y := h
    omega
  | y :: o, i + 1, x, h => by
    show wt y + wts (o.set i x) ≤ wt y + wts o
    have := wts_set o i x h
    omega
theorem scan_pw (s : ByteArray) : ∀ (f i : Nat), i ≤ s.size → pw (common_points.scan s f i).2 + i ≤ s.size
  | 0, i, h => by rw [common_points.scan]; show 0 + i ≤ s.size; omega
  | f + 1, i, h => by
    rw [common_points.scan]
    by_cases h1 : i < s.size
    · rw [if_pos h1]
      by_cases h2 : rune s i = 10 ∨ (rune s i = 65533 ∧ width s i = 1)
      · rw [if_pos h2]; show 0 + i ≤ s.size; omega
      · rw [if_neg h2]
        have hw := width_pos s i h1
        have := scan_pw s f (i + width s i) hw.2
        have := sz_width s i (fun h => h2 (.inr h))
        show sz (rune s i) + pw (common_points.scan s f (i + width s i)).2 + i ≤ s.size
        omega
    · rw [if_neg h1]; show 0 + i ≤ s.size; omega
/-- How many bytes are left from a place on. -/
def D (p : List S79) (i : Int) : Nat := pw (p.drop i.toNat)
theorem D_cut (p : List S79) (i j : Int) (h0 : 0 ≤ i) (hij : i ≤ j) (hj : j ≤ (p.length : Int)) : pw (common_cut p i j) + D p j = D p i := by
  unfold D common_cut
  rw [← pw_append, ← List.drop_append_of_le_length (by rw [List.length_take]; omega), List.take_append_drop]
theorem D_mono (p : List S79) (i j : Int) (h0 : 0 ≤ i) (hij : i ≤ j) (hj : j ≤ (p.length : Int)) : D p j ≤ D p i := by
  have := D_cut p i j h0 hij hj
  omega
theorem plain_wts (p : List S79) (i j m : Int) : wts (common_plain.f p i j m) = pw (common_cut p i j) := by
  unfold common_plain.f wts pw
  rw [List.map_map]
  rfl
theorem code_wts (p : List S79) (i j : Int) (h0 : 0 ≤ i) (hij : i ≤ j) (hj : j ≤ (p.length : Int)) : wts (common_code.f p i j) + D p j ≤ D p i := by
  unfold common_code.f
  by_cases h : common_code.bare p i j = true
  · rw [if_pos h, plain_wts]
    unfold common_code.bare at h
    simp only [Bool.and_eq_true, decide_eq_true_eq] at h
    have h1 := D_cut p (i + 1) (j - 1) (by omega) (by omega) (by omega)
    have h2 := D_mono p i (i + 1) h0 (by omega) (by omega)
    have h3 := D_mono p (j - 1) j (by omega) (by omega) hj
    omega
  · rw [if_neg h, plain_wts]
    have := D_cut p i j h0 hij hj
    omega
theorem split_wts (p : List S79) : ∀ (f : Nat) (i : Int), 0 ≤ i → i ≤ (p.length : Int) → wts (common_split.go p f i) ≤ D p i
  | 0, _, _, _ => Nat.zero_le _
  | f + 1, i, h0, hi => by
    rw [common_split.go]
    by_cases h : i < (p.length : Int)
    · have hb := common_row.bound p i h0 h
      rw [if_pos h]
      by_cases h1 : (rd_T79 p i).f0 = 96
      · rw [if_pos h1]
        by_cases h2 : common_fence.f p (i + common_row.f p i) (common_row.f p i) < 0
        · rw [if_pos h2, wts_append, plain_wts]
          have := split_wts p f (i + common_row.f p i) (by omega) (by omega)
          have := D_cut p i (i + common_row.f p i) h0 (by omega) (by omega)
          omega
        · rw [if_neg h2, wts_append]
          have hf := common_fence.bound p (i + common_row.f p i) (common_row.f p i) (by omega) h2
          have := split_wts p f (common_fence.f p (i + common_row.f p i) (common_row.f p i) + common_row.f p i) (by omega) (by omega)
          have := code_wts p (i + common_row.f p i) (common_fence.f p (i + common_row.f p i) (common_row.f p i)) (by omega) (by omega) (by omega)
          have := D_mono p i (i + common_row.f p i) h0 (by omega) (by omega)
          have := D_mono p (common_fence.f p (i + common_row.f p i) (common_row.f p i)) (common_fence.f p (i + common_row.f p i) (common_row.f p i) + common_row.f p i) (by omega) (by omega) (by omega)
          omega
      · rw [if_neg h1]
        by_cases h3 : (rd_T79 p i).f0 = 42 ∨ (rd_T79 p i).f0 = 95
        · rw [if_pos h3]
          show (common_row.f p i).toNat + wts (common_split.go p f (i + common_row.f p i)) ≤ D p i
          have := split_wts p f (i + common_row.f p i) (by omega) (by omega)
          have h4 := D_cut p i (i + common_row.f p i) h0 (by omega) (by omega)
          have h5 := pw_len (common_cut p i (i + common_row.f p i))
          rw [common_cut_length p i (i + common_row.f p i) (by omega)] at h5
          omega
        · rw [if_neg h3]
          by_cases h4 : (rd_T79 p i).f0 = 92 ∧ sg (common_at.f p (i + 1)) = true
          · rw [if_pos h4, wts_append, plain_wts]
            have hs := common_sg_at p (i + 1) h4.2
            have := split_wts p f (i + 1 + 1) (by omega) (by omega)
            have := D_cut p (i + 1) (i + 1 + 1) (by omega) (by omega) (by omega)
            have := D_mono p i (i + 1) h0 (by omega) (by omega)
            omega
          · rw [if_neg h4, wts_append, plain_wts]
            have := split_wts p f (i + 1) (by omega) (by omega)
            have := D_cut p i (i + 1) h0 (by omega) (by omega)
            omega
    · rw [if_neg h]; exact Nat.zero_le _
/-! ### What a part is -/
def okc (c : Int) : Prop := 0 ≤ c ∧ c ≤ 1114111 ∧ ¬ (c / 2048 = 27)
def prtOkay (x : Prt) : Prop := x.tok.f0 = 0 ∧ x.tok.f1 = 0 ∧ (0 ≤ x.tok.f3 ∧ x.tok.f3 ≤ 4) ∧ (x.run = none → okc x.tok.f2 ∧ x.tok.f2 ≠ 10) ∧ ∀ r, x.run = some r → r.f2 = 42 ∨ r.f2 = 95
theorem addM_le (x m : Int) (hm : m = 1 ∨ m = 2) : 0 ≤ addM x m ∧ addM x m ≤ 4 := by
  unfold addM
  by_cases h : 0 ≤ x ∧ x ≤ 4
  · rw [if_pos h]
    by_cases h4 : x = 4
    · rw [if_pos h4]; decide
    · rw [if_neg h4]
      have : x = 0 ∨ x = 1 ∨ x = 2 ∨ x = 3 := by omega
      rcases hm with rfl | rfl <;> rcases this with rfl | rfl | rfl | rfl <;> decide +kernel
  · rw [if_neg h]; decide
theorem plain_okay {p : List S79} (hp : ∀ x ∈ p, okc x.f0 ∧ x.f0 ≠ 10) (i j m : Int) (hm : m = 0 ∨ m = 4) : ∀ x ∈ common_plain.f p i j m, prtOkay x := by
  intro x hx
  obtain ⟨y, hy, rfl⟩ := List.mem_map.1 hx
  exact ⟨rfl, rfl, by show 0 ≤ m ∧ m ≤ 4; omega, fun _ => hp y (common_cut_mem hy), fun r hr => by cases hr⟩
theorem split_okay {p : List S79} (hp : ∀ x ∈ p, okc x.f0 ∧ x.f0 ≠ 10) : ∀ (f : Nat) (i : Int), ∀ x ∈ common_split.go p f i, prtOkay x
  | 0, _, x, hx => by cases hx
  | f + 1, i, x, hx => by
    rw [common_split.go] at hx
    split at hx
    · split at hx
      · split at hx
        · exact (List.mem_append.1 hx).elim (plain_okay hp _ _ _ (.inl rfl) x) (split_okay hp f _ x)
        · refine (List.mem_append.1 hx).elim (fun h => ?_) (split_okay hp f _ x)
          unfold common_code.f at h
          split at h <;> exact plain_okay hp _ _ _ (.inr rfl) x h
      · split at hx
        · rename_i h3
          rcases List.mem_cons.1 hx with rfl | hx
          · refine ⟨rfl, rfl, ⟨by show (0 : Int) ≤ 0; omega, by show (0 : Int) ≤ 4; omega⟩, fun h => (by cases h), fun r hr => ?_⟩
            obtain rfl := Option.some.inj hr
            unfold common_run.f common_run.mk
            split <;> exact h3
          · exact split_okay hp f _ x hx
        · split at hx
          · exact (List.mem_append.1 hx).elim (plain_okay hp _ _ _ (.inl rfl) x) (split_okay hp f _ x)
          · exact (List.mem_append.1 hx).elim (plain_okay hp _ _ _ (.inl rfl) x) (split_okay hp f _ x)
    · cases hx
theorem rune_okc (s : ByteArray) (i : Nat) : okc (rune s i) := by
  unfold rune okc
  rw [Lib.decode_at]
  have h0 := (s.get! i).toNat_lt
  unfold Lib.decodeN
  repeat' split
  all_goals (dsimp only; omega)
theorem scan_okc (s : ByteArray) : ∀ (f i : Nat), ∀ x ∈ (common_points.scan s f i).2, okc x.f0 ∧ x.f0 ≠ 10
  | 0, _, x, hx => by cases hx
  | f + 1, i, x, hx => by
    rw [common_points.scan] at hx
    split at hx
    · split at hx
      · cases hx
      · rename_i h
        rcases List.mem_cons.1 hx with rfl | hx
        · exact ⟨rune_okc s i, fun e => h (.inl e)⟩
        · exact scan_okc s f _ x hx
    · cases hx
/-- The parts of a line with their pairs: each is as a part may be; they have no more bytes than the line. -/
theorem parts_all (s : ByteArray) (h : (common_points.f s).2.2 = 0) : (∀ x ∈ common_match.f (common_split.f (common_points.f s).1), prtOkay x) ∧ wts (common_match.f (common_split.f (common_points.f s).1)) ≤ s.size := by
  have hpt : (∀ x ∈ (common_points.f s).1, okc x.f0 ∧ x.f0 ≠ 10) ∧ pw (common_points.f s).1 ≤ s.size := by
    unfold common_points.f at *
    by_cases hl : s.size > 4000
    · rw [if_pos hl]; exact ⟨fun x hx => (by cases hx), Nat.zero_le _⟩
    · rw [if_neg hl]
      unfold common_points.res
      split
      · exact ⟨fun x hx => (by cases hx), Nat.zero_le _⟩
      · exact ⟨scan_okc s s.size 0, scan_pw s s.size 0 (Nat.zero_le _)⟩
  generalize (common_points.f s).1 = p at *
  refine match_ind (fun o => (∀ x ∈ o, prtOkay x) ∧ wts o ≤ s.size) ?_ ?_ ?_ _ ⟨split_okay hpt.1 _ _, ?_⟩
  · intro o i m hm ⟨h1, h2⟩
    exact ⟨set_all prtOkay h1 (fun x hx => ⟨hx.1, hx.2.1, addM_le _ _ hm, hx.2.2.2⟩), Nat.le_trans (wts_set o i.toNat _ (Nat.le_refl _)) h2⟩
  · intro o i n hn ⟨h1, h2⟩
    refine ⟨set_all prtOkay h1 (fun x hx => hx), Nat.le_trans (wts_set o i.toNat _ ?_) h2⟩
    show wt (prtLeft n (prtAt o i)) ≤ wt (prtAt o i)
    unfold wt prtLeft
    dsimp only
    split
    · exact Nat.le_refl _
    · omega
  · intro o i v ⟨h1, h2⟩
    exact ⟨set_all prtOkay h1 (fun x hx => hx), Nat.le_trans (wts_set o i.toNat _ (Nat.le_refl _)) h2⟩
  · have h1 := split_wts p (p.length + 1) 0 (by omega) (by omega)
    have h2 : D p 0 = pw p := rfl
    show wts (common_split.go p (p.length + 1) 0) ≤ s.size
    omega

/-! ### Tokens -/
def tokOk (t : S43) : Prop := t.f0 = 0 ∧ t.f1 = 0 ∧ okc t.f2 ∧ t.f2 ≠ 10 ∧ 0 ≤ t.f3 ∧ t.f3 ≤ 4
theorem sz_sign (c : Int) (h : c = 42 ∨ c = 95) : sz c = 1 := by rcases h with rfl | rfl <;> rfl
theorem toks_ok {x : Prt} (h : prtOkay x) : ∀ t ∈ common_Parse.toks x, tokOk t := by
  intro t ht
  unfold common_Parse.toks at ht
  split at ht
  · rename_i hr
    obtain rfl := List.mem_singleton.1 ht
    have h2 := h.2.2.2.1 hr
    exact ⟨h.1, h.2.1, h2.1, h2.2, h.2.2.1⟩
  · rename_i r hr
    obtain rfl := List.eq_of_mem_replicate ht
    have h2 := h.2.2.2.2 r hr
    exact ⟨rfl, rfl, by unfold okc; dsimp only; omega, by dsimp only; omega, h.2.2.1⟩
theorem toks_len {x : Prt} : (common_Parse.toks x).length ≤ wt x := by
  unfold common_Parse.toks wt
  cases x.run with
  | none => exact sz_pos _
  | some r => dsimp only; rw [List.length_replicate]; exact Nat.le_refl _
theorem all_toks_len : ∀ o : List Prt, (o.flatMap common_Parse.toks).length ≤ wts o
  | [] => Nat.le_refl _
  | x :: o => by
    rw [List.flatMap_cons, List.length_append]
    have h1 := toks_len (x := x)
    have h2 := all_toks_len o
    show _ ≤ wt x + wts o
    omega

end Go.Proofs.YtfnafjohfmlniaaDoor.ComA
