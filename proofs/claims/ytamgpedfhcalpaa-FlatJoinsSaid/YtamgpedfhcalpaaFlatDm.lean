/- Cuts, likeness and text of tokens, told by the program and by the document's answer: the same. -/
import Derived.Test.YtamgpedfhcalpaaFlatBm
import Derived.Laws.BitsLemmas
import Derived.Test.YtamgpedfhcalpaaPFmx0
import Derived.Test.YtamgpedfhcalpaaPFmx2
import Derived.Test.YtamgpedfhcalpaaPFmx4
import Derived.Test.YtamgpedfhcalpaaPFmx6
import Derived.Test.YtamgpedfhcalpaaPFmx7
import Derived.Test.YtamgpedfhcalpaaPFmx8
namespace Go.Proofs.Ytamgpedfhcalpaa.FlatD
open Go.RowKit Go.Proofs.YtamgpedfhcalpaaW.PrintWords Go.Proofs.YtamgpedfhcalpaaW.PrintMore
open Go.Proofs.Ytamgpedfhcalpaa Go.Proofs.Ytamgpedfhcalpaa.PFm Go.Proofs.Ytamgpedfhcalpaa.FlatA Go.Proofs.Ytamgpedfhcalpaa.FlatB
set_option linter.unusedSimpArgs false

/-! ### Likeness -/
def eqT (t u : S23) : Bool := t.f0 == u.f0 && (t.f1 == u.f1 && (t.f2 == u.f2 && t.f3 == u.f3))
def sameL : List S23 → List S23 → Bool
  | [], [] => true
  | t :: a, u :: b => eqT t u && sameL a b
  | _, _ => false
theorem sameL_refl : ∀ a : List S23, sameL a a = true
  | [] => rfl
  | t :: a => by simp [sameL, eqT, sameL_refl a]
theorem sameL_length : ∀ (a b : List S23), a.length ≠ b.length → sameL a b = false
  | [], [], h => absurd rfl h
  | [], _ :: _, _ => rfl
  | _ :: _, [], _ => rfl
  | t :: a, u :: b, h => by
    simp only [sameL]
    rw [sameL_length a b (by simpa using h)]
    simp
theorem ne_test (t u : S23) : (!(t.f0 == u.f0) || (!(t.f1 == u.f1) || (!(t.f2 == u.f2) || (!(t.f3 == u.f3))))) = !(eqT t u) := by
  unfold eqT
  cases t.f0 == u.f0 <;> cases t.f1 == u.f1 <;> cases t.f2 == u.f2 <;> cases t.f3 == u.f3 <;> rfl
theorem alike_loop (a b : List S23) (hab : a.length = b.length) (hl : a.length < 17592186044416) : ∀ (d k : Nat) (i : Int), 0 ≤ i → i + d = a.length → d < k → emenderlaw04_alike.l0 k a b i = some (sameL (a.drop i.toNat) (b.drop i.toNat)) := by
  intro d
  induction d with
  | zero =>
    intro k i h0 h1 hk
    obtain ⟨k, rfl⟩ : ∃ m, k = m + 1 := ⟨k - 1, by omega⟩
    simp only [emenderlaw04_alike.l0]
    rw [if_neg (by omega), List.drop_eq_nil_of_le (by omega), List.drop_eq_nil_of_le (by omega)]
    rfl
  | succ d ih =>
    intro k i h0 h1 hk
    obtain ⟨k, rfl⟩ : ∃ m, k = m + 1 := ⟨k - 1, by omega⟩
    have ha : i.toNat < a.length := by omega
    have hb : i.toNat < b.length := by omega
    simp only [emenderlaw04_alike.l0]
    rw [if_pos (by omega), if_pos h0, if_pos (by omega), rd_get a i ha, rd_get b i hb, ne_test, w64 (by omega) (by omega), List.drop_eq_getElem_cons ha, List.drop_eq_getElem_cons hb]
    simp only [sameL]
    cases e : eqT a[i.toNat] b[i.toNat] with
    | false => simp
    | true =>
      rw [if_neg (by decide), ih k (i + 1) (by omega) (by omega) (by omega), show (i + 1).toNat = i.toNat + 1 by omega]
      simp
theorem alike (a b : List S23) (hl : a.length < 17592186044416) (k : Nat) (hk : a.length < k) : emenderlaw04_alike.f k a b = some (sameL a b) := by
  unfold emenderlaw04_alike.f
  by_cases h : (a.length : Int) = (b.length : Int)
  · rw [if_pos h, alike_loop a b (by omega) hl a.length k 0 (by omega) (by omega) hk]
    rfl
  · rw [if_neg h, sameL_length a b (by omega)]
theorem same_loop (a b : List S23) (hab : a.length = b.length) (hl : a.length < 17592186044416) : ∀ (d k : Nat) (i : Int), 0 ≤ i → i + d = a.length → d < k → flat_Same.l0 k a b (a.length : Int) i = some (sameL (a.drop i.toNat) (b.drop i.toNat)) := by
  intro d
  induction d with
  | zero =>
    intro k i h0 h1 hk
    obtain ⟨k, rfl⟩ : ∃ m, k = m + 1 := ⟨k - 1, by omega⟩
    simp only [flat_Same.l0]
    rw [if_neg (by omega), List.drop_eq_nil_of_le (by omega), List.drop_eq_nil_of_le (by omega)]
    rfl
  | succ d ih =>
    intro k i h0 h1 hk
    obtain ⟨k, rfl⟩ : ∃ m, k = m + 1 := ⟨k - 1, by omega⟩
    have ha : i.toNat < a.length := by omega
    have hb : i.toNat < b.length := by omega
    have ha' : i < (a.length : Int) := by omega
    simp only [flat_Same.l0]
    simp only [if_pos ha', if_pos h0, if_pos (show i < (b.length : Int) by omega), rd_get a i ha, rd_get b i hb, ne_test]
    rw [w64 (by omega) (by omega), List.drop_eq_getElem_cons ha, List.drop_eq_getElem_cons hb]
    simp only [sameL]
    cases e : eqT a[i.toNat] b[i.toNat] with
    | false => simp
    | true =>
      rw [if_neg (by decide), ih k (i + 1) (by omega) (by omega) (by omega), show (i + 1).toNat = i.toNat + 1 by omega]
      simp
theorem flat_same (a b : List S23) (hl : a.length < 17592186044416) (k : Nat) (hk : a.length < k) : flat_Same.f k a b = some (sameL a b) := by
  unfold flat_Same.f
  by_cases h : (a.length : Int) = (b.length : Int)
  · rw [if_pos h, same_loop a b (by omega) hl a.length k 0 (by omega) (by omega) hk]
    rfl
  · rw [if_neg h, sameL_length a b (by omega)]
/-! ### Cuts -/
def cutS (l : List S23) (a b : Int) : List S23 × Int := if a < 0 ∨ a > b ∨ b > (l.length : Int) then ([], 1) else ((l.take b.toNat).drop a.toNat, 0)
theorem flat_cut (l : List S23) (hl : l.length < 4398046511104) (a b : Int) : flat_Cut.f l a b = some (cutS l a b) := by
  unfold flat_Cut.f cutS
  by_cases h1 : a < 0
  · rw [if_pos h1, if_pos (.inl h1)]
  · by_cases h2 : a > b
    · rw [if_neg h1, if_pos h2, if_pos (.inr (.inl h2))]
    · by_cases h3 : b > (l.length : Int)
      · rw [if_neg h1, if_neg h2, if_pos h3, if_pos (.inr (.inr h3))]
      · rw [if_neg h1, if_neg h2, if_neg h3, if_pos (by omega), if_pos (by omega), if_pos (by omega), Option.bind_some, if_pos (by rw [List.length_drop, List.length_take]; simp; omega), if_neg (by omega)]
        rfl
theorem ref_cut (l : List S23) (hl : l.length < 4398046511104) (a b : Int) : emenderref04_Cut.f l a b = some (cutS l a b) := by
  unfold emenderref04_Cut.f cutS
  by_cases h1 : a < 0
  · rw [if_pos h1, if_pos (.inl h1)]
  · by_cases h2 : a > b
    · rw [if_neg h1, if_pos h2, if_pos (.inr (.inl h2))]
    · by_cases h3 : b > (l.length : Int)
      · rw [if_neg h1, if_neg h2, if_pos h3, if_pos (.inr (.inr h3))]
      · rw [if_neg h1, if_neg h2, if_neg h3, Option.bind_some, if_pos (by omega), if_pos (by omega), if_pos (by omega), Option.bind_some, if_pos (by rw [List.length_drop, List.length_take]; simp; omega), if_neg (by omega)]
        rfl
/-! ### Text -/
theorem wraps_i64 (n : Int) (h₀ : 0 ≤ n) (h₁ : n < 2 ^ 63) : IntKind.i64.wrap n = n := by rw [IntKind.wrap_i64]; omega
theorem or_i64 (i : Nat) (x y : Int) (hx : 0 ≤ x) (hm : x % 2 ^ i = 0) (hx1 : x < 2 ^ 63) (hy : 0 ≤ y) (hy1 : y < 2 ^ i) (hy2 : y < 2 ^ 63) : Go.bits .or .i64 x y = x + y :=
  bits_join .i64 63 (by decide) wraps_i64 i x y hx hm hx1 hy hy1 hy2
theorem and63 (x : Int) (h0 : 0 ≤ x) (h1 : x < 2 ^ 63) : Go.bits .and .i64 x 63 = x % 64 := bits_mask .i64 63 (by decide) wraps_i64 6 (by decide) x h0 h1
theorem ref_utf8 (n : Int) (h0 : 0 ≤ n) (h1 : n ≤ 1114111) (hs : ¬ (55296 ≤ n ∧ n ≤ 57343)) : emenderref04_utf8.f n = some (Lib.encodeRuneZ n) := by
  unfold emenderref04_utf8.f
  by_cases c1 : n < 128
  · rw [if_pos c1, Lib.encodeRuneZ_one h0 (by omega), Int.emod_eq_of_lt h0 (by omega)]
  · have m1 : Go.bits .or .i64 128 (n % 64) = 128 + n % 64 := or_i64 6 _ _ (by decide) (by decide) (by decide) (by omega) (by omega) (by omega)
    by_cases c2 : n < 2048
    · rw [if_neg c1, if_pos c2, Lib.encodeRuneZ_two (by omega) (by omega), and63 n h0 (by omega), m1, or_i64 5 192 (n / 64) (by decide) (by decide) (by decide) (by omega) (by omega) (by omega), show (192 + n / 64) % 256 = 192 + n / 64 by omega, show (128 + n % 64) % 256 = 128 + n % 64 by omega]
    · have m2 : Go.bits .or .i64 128 (n / 64 % 64) = 128 + n / 64 % 64 := or_i64 6 _ _ (by decide) (by decide) (by decide) (by omega) (by omega) (by omega)
      by_cases c3 : n < 65536
      · rw [if_neg c1, if_neg c2, if_pos c3, Lib.encodeRuneZ_three (by omega), and63 n h0 (by omega), m1, and63 (n / 64) (by omega) (by omega), m2, or_i64 5 224 (n / 4096) (by decide) (by decide) (by decide) (by omega) (by omega) (by omega), show (224 + n / 4096) % 256 = 224 + n / 4096 by omega, show (128 + n / 64 % 64) % 256 = 128 + n / 64 % 64 by omega, show (128 + n % 64) % 256 = 128 + n % 64 by omega]
      · have m3 : Go.bits .or .i64 128 (n / 4096 % 64) = 128 + n / 4096 % 64 := or_i64 6 _ _ (by decide) (by decide) (by decide) (by omega) (by omega) (by omega)
        rw [if_neg c1, if_neg c2, if_neg c3, Lib.encodeRuneZ_four (by omega) (by omega), and63 n h0 (by omega), m1, and63 (n / 64) (by omega) (by omega), m2, and63 (n / 4096) (by omega) (by omega), m3, or_i64 4 240 (n / 262144) (by decide) (by decide) (by decide) (by omega) (by omega) (by omega), show (240 + n / 262144) % 256 = 240 + n / 262144 by omega, show (128 + n / 4096 % 64) % 256 = 128 + n / 4096 % 64 by omega, show (128 + n / 64 % 64) % 256 = 128 + n / 64 % 64 by omega, show (128 + n % 64) % 256 = 128 + n % 64 by omega]
def oneZ (t : S23) : List Int := if t.f0 = 0 then (if right t.f0 t.f1 t.f2 t.f3 = true then Lib.encodeRuneZ t.f2 else []) else []
theorem oneZ_one (t : S23) : (oneZ t).map (fun n => UInt8.ofNat n.toNat) = flat_Text.one t := by
  unfold oneZ flat_Text.one
  by_cases h : t.f0 = 0
  · rw [if_pos h, if_pos h, flat_right]
    by_cases h2 : right t.f0 t.f1 t.f2 t.f3 = true
    · rw [if_pos h2, if_pos (by rw [h2])]
      rfl
    · rw [if_neg h2, if_neg (by simpa using h2)]
      rfl
  · rw [if_neg h, if_neg h]
    rfl
theorem oneZ_length (t : S23) : (oneZ t).length ≤ 4 := by
  have := congrArg List.length (oneZ_one t)
  rw [List.length_map] at this
  rw [this]
  unfold flat_Text.one
  split
  · split
    · exact flat_Text.encode_le _
    · simp
  · simp
theorem right_rune (a b c d : Int) (h : right a b c d = true) (ha : a = 0) : 0 ≤ c ∧ c ≤ 1114111 ∧ ¬ (55296 ≤ c ∧ c ≤ 57343) := by
  have h' := flat_right a b c d
  rw [h] at h'
  obtain ⟨h1, h2⟩ := flat_Text.right_bounds a b c d h' ha
  refine ⟨h1, h2, fun h3 => ?_⟩
  subst ha
  unfold flat_Right.f at h'
  simp only [if_true] at h'
  by_cases hb : b = 0
  · rw [if_pos hb, if_pos h1, if_pos h2, if_pos (by omega)] at h'
    cases h'
  · rw [if_neg hb] at h'
    cases h'
theorem ref_text_loop (x : List S23) (hl : x.length < 4398046511104) : ∀ (d k : Nat) (acc : List Int) (i : Int), 0 ≤ i → i + d = x.length → d + 1 < k → (acc.length : Int) ≤ 4 * i → emenderref04_Text.l0 k x acc i = some (strOfNums (acc ++ (x.drop i.toNat).flatMap oneZ)) := by
  intro d
  induction d with
  | zero =>
    intro k acc i h0 h1 hk ha
    obtain ⟨k, rfl⟩ : ∃ m, k = m + 1 := ⟨k - 1, by omega⟩
    simp only [emenderref04_Text.l0]
    rw [if_neg (by omega), List.drop_eq_nil_of_le (by omega)]
    simp
  | succ d ih =>
    intro k acc i h0 h1 hk ha
    obtain ⟨k, rfl⟩ : ∃ m, k = m + 2 := ⟨k - 2, by omega⟩
    have hi : i.toNat < x.length := by omega
    have go : emenderref04_Text.l0 (k + 2) x acc i = emenderref04_Text.l0 (k + 1) x (acc ++ oneZ x[i.toNat]) (i + 1) := by
      rw [show k + 2 = (k + 1) + 1 by rfl]
      simp only [emenderref04_Text.l0]
      rw [if_pos (by omega), if_pos h0, rd_get x i hi, ref_right, Option.bind_some, w64 (by omega) (by omega)]
      unfold oneZ
      by_cases c : x[i.toNat].f0 = 0
      · rw [if_pos c, if_pos c]
        by_cases c2 : right x[i.toNat].f0 x[i.toNat].f1 x[i.toNat].f2 x[i.toNat].f3 = true
        · obtain ⟨b1, b2, b3⟩ := right_rune _ _ _ _ c2 c
          have hz := oneZ_length x[i.toNat]
          unfold oneZ at hz
          rw [if_pos c, if_pos c2] at hz
          rw [if_pos c2, if_pos c2, ref_utf8 _ b1 b2 b3, Option.bind_some, if_pos (by omega)]
        · rw [if_neg c2, if_neg c2, List.append_nil]
      · rw [if_neg c, if_neg c, List.append_nil]
    have hz := oneZ_length x[i.toNat]
    rw [go, ih (k + 1) _ (i + 1) (by omega) (by omega) (by omega) (by rw [List.length_append]; omega), List.drop_eq_getElem_cons hi, show (i + 1).toNat = i.toNat + 1 by omega, List.flatMap_cons, List.append_assoc]
theorem ref_text (x : List S23) (hl : x.length < 4398046511104) (k : Nat) (hk : x.length + 1 < k) : emenderref04_Text.f k x = some ⟨(flat_Text.txt x).toArray⟩ := by
  unfold emenderref04_Text.f
  rw [ref_text_loop x hl x.length k [] 0 (by omega) (by omega) hk (by simp)]
  simp only [strOfNums, List.nil_append]
  congr 2
  congr 1
  unfold flat_Text.txt
  rw [show (0 : Int).toNat = 0 from rfl, List.drop_zero, List.map_flatMap]
  congr 1
  funext t
  exact oneZ_one t
theorem flat_text (x : List S23) (hl : x.length < 4398046511104) : flat_Text.f x = some ⟨(flat_Text.txt x).toArray⟩ := by
  unfold flat_Text.f
  rw [if_pos (by omega)]
theorem txt_append (a b : List S23) : flat_Text.txt (a ++ b) = flat_Text.txt a ++ flat_Text.txt b := by
  unfold flat_Text.txt
  rw [List.flatMap_append]
theorem txt_length (a : List S23) : (flat_Text.txt a).length ≤ 4 * a.length := by
  unfold flat_Text.txt
  induction a with
  | nil => simp
  | cons t a ih =>
    rw [List.flatMap_cons, List.length_append, List.length_cons]
    have : (flat_Text.one t).length ≤ 4 := by
      rw [← oneZ_one, List.length_map]
      exact oneZ_length t
    omega
theorem str_append (a b : List UInt8) : (⟨a.toArray⟩ : ByteArray) ++ (⟨b.toArray⟩ : ByteArray) = ⟨(a ++ b).toArray⟩ := by
  apply ByteArray.ext
  simp [ByteArray.data_append]
theorem str_size (a : List UInt8) : (⟨a.toArray⟩ : ByteArray).size = a.length := by simp [ByteArray.size]
end Go.Proofs.Ytamgpedfhcalpaa.FlatD
