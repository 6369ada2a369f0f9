/- A line that is read: the document's code points are the decoder's, its reading is the program's. -/
import Derived.Test.YtebbngeamnpgjaaDoorFlatA
import Derived.Laws.BitsLemmas
import Derived.Lib.DecodeN
import Derived.Test.YtebbngeamnpgjaaDoorPIax0
import Derived.Test.YtebbngeamnpgjaaDoorPIax2
import Derived.Test.YtebbngeamnpgjaaDoorPIax3
import Derived.Test.YtebbngeamnpgjaaDoorPIax4
import Derived.Test.YtebbngeamnpgjaaDoorPIax5
import Derived.Test.YtebbngeamnpgjaaDoorPIax6
import Derived.Test.YtebbngeamnpgjaaDoorPIax7
import Derived.Test.YtebbngeamnpgjaaDoorPIax8
namespace Go.Proofs.YtebbngeamnpgjaaDoor.InlC
open Go.RowKit Go.Proofs.YtebbngeamnpgjaaDoorW.PrintWords Go.Proofs.YtebbngeamnpgjaaDoorW.PrintMore
open Go.Proofs.YtebbngeamnpgjaaDoor Go.Proofs.YtebbngeamnpgjaaDoor.PIa Go.Proofs.YtebbngeamnpgjaaDoor.FlatA
set_option linter.unusedSimpArgs false
set_option linter.unusedVariables false

theorem w64' {i : Int} (h : -9223372036854775808 ≤ i ∧ i ≤ 9223372036854775807) : wrap64 i = i := by unfold wrap64; omega
/-- A byte of a string. -/
def by_ (s : ByteArray) (i : Nat) : Nat := (s.get! i).toNat
theorem by_lt (s : ByteArray) (i : Nat) : by_ s i < 256 := (s.get! i).toNat_lt
theorem bt_by (s : ByteArray) (i : Nat) (h : i < s.size) : bt s (i : Int) = (by_ s i : Int) := by
  unfold bt by_
  rw [dif_pos (show (i : Int).toNat < s.size by simpa using h)]
  have e : s.get! i = s[i] := by
    cases s with
    | mk a => exact getElem!_pos a i h
  rw [e]
  rfl
theorem cont (b : Nat) (h : b < 256) : (Go.bits .and .u8 (b : Int) 192 = 128) ↔ b / 64 = 2 := by
  have := (show ∀ b : Fin 256, (Go.bits .and .u8 (b.1 : Int) 192 = 128) ↔ b.1 / 64 = 2 by decide +kernel) ⟨b, h⟩
  exact this
theorem low6 (b : Nat) (h : b < 256) : Go.bits .and .u8 (b : Int) 63 = ((b % 64 : Nat) : Int) := by
  have := (show ∀ b : Fin 256, Go.bits .and .u8 (b.1 : Int) 63 = ((b.1 % 64 : Nat) : Int) by decide +kernel) ⟨b, h⟩
  exact this
theorem lows (b : Nat) (h : b < 256) : Go.bits .and .i64 (b : Int) 31 = ((b % 32 : Nat) : Int) ∧ Go.bits .and .i64 (b : Int) 15 = ((b % 16 : Nat) : Int) ∧ Go.bits .and .i64 (b : Int) 7 = ((b % 8 : Nat) : Int) := by
  have := (show ∀ b : Fin 256, Go.bits .and .i64 (b.1 : Int) 31 = ((b.1 % 32 : Nat) : Int) ∧ Go.bits .and .i64 (b.1 : Int) 15 = ((b.1 % 16 : Nat) : Int) ∧ Go.bits .and .i64 (b.1 : Int) 7 = ((b.1 % 8 : Nat) : Int) by decide +kernel) ⟨b, h⟩
  exact this
theorem wraps_i64 (n : Int) (h₀ : 0 ≤ n) (h₁ : n < 2 ^ 63) : IntKind.i64.wrap n = n := by rw [IntKind.wrap_i64]; omega
theorem join6 (c b : Nat) (hc : c < 1000000) : Go.bits .or .i64 (wrap64 ((c : Int) * 64)) (wrap64 ((b % 64 : Nat) : Int)) = ((c * 64 + b % 64 : Nat) : Int) := by
  rw [w64' (by omega), w64' (by omega), bits_join .i64 63 (by decide) wraps_i64 6 _ _ (by omega) (by omega) (by omega) (by omega) (by omega) (by omega)]
  omega
/-- One more byte of a code point. -/
theorem pt_step (k : Nat) (s : ByteArray) (hs : s.size ≤ 65536) (i n least c j : Nat) (hj : j < n) (hn : n ≤ 4) (hin : i + n ≤ s.size) (hc : c < 1000000) :
    emenderref14_Point.l0 (k + 1) s i n least c j = if by_ s (i + j) / 64 = 2 then emenderref14_Point.l0 k s i n least ((c * 64 + by_ s (i + j) % 64 : Nat) : Int) ((j + 1 : Nat) : Int) else some (0, 0) := by
  simp only [emenderref14_Point.l0]
  have e : wrap64 ((i : Int) + (j : Int)) = ((i + j : Nat) : Int) := by rw [w64' (by omega)]; omega
  rw [if_pos (by omega), e, if_pos (by omega), if_pos (by omega), bt_by s _ (by omega), low6 _ (by_lt s _), join6 _ _ hc, show wrap64 ((j : Int) + 1) = ((j + 1 : Nat) : Int) by rw [w64' (by omega)]; omega]
  by_cases h : by_ s (i + j) / 64 = 2
  · rw [if_pos ((cont _ (by_lt s _)).2 h), if_pos h]
  · rw [if_neg (fun e => h ((cont _ (by_lt s _)).1 e)), if_neg h]
/-- Behind the last one. -/
theorem pt_end (k : Nat) (s : ByteArray) (i n least c : Nat) :
    emenderref14_Point.l0 (k + 1) s i n least c n = some (if c ≥ least ∧ (c < 55296 ∨ (57344 ≤ c ∧ c ≤ 1114111)) then ((c : Int), (n : Int)) else (0, 0)) := by
  simp only [emenderref14_Point.l0]
  rw [if_neg (by omega)]
  by_cases h : c < least
  · rw [if_pos (by omega), if_neg (by omega)]
  · rw [if_neg (by omega)]
    unfold emenderref04_Point.f
    rw [if_pos (by omega)]
    by_cases h1 : c ≤ 1114111
    · rw [if_pos (by omega)]
      by_cases h2 : c < 55296
      · rw [if_pos (by omega), Option.bind_some, if_pos rfl, if_pos (by omega)]
      · rw [if_neg (by omega), Option.bind_some]
        by_cases h3 : 57344 ≤ c
        · rw [if_pos (by simp only [decide_eq_true_eq]; omega), if_pos (by omega)]
        · rw [if_neg (by simp only [decide_eq_true_eq]; omega), if_neg (by omega)]
    · rw [if_neg (by omega), Option.bind_some, if_neg (by decide), if_neg (by omega)]
/-- The code point at a place, told by the decoder. -/
def P (s : ByteArray) (i : Nat) : Int × Int := if rune s i = 65533 ∧ width s i = 1 then (0, 0) else (rune s i, (width s i : Int))
theorem P_of {s : ByteArray} {i : Nat} {x : Nat × Nat} (h : Utf8.decode s i = x) : P s i = if x.1 = 65533 ∧ x.2 = 1 then (0, 0) else ((x.1 : Int), (x.2 : Int)) := by
  unfold P rune width
  rw [h]
  by_cases e : x.1 = 65533 ∧ x.2 = 1
  · rw [if_pos e, if_pos (by omega)]
  · rw [if_neg e, if_neg (by omega)]
theorem point_j3 (k : Nat) (s : ByteArray) (hs : s.size ≤ 65536) (i n least c : Nat) (hn : 2 ≤ n ∧ n ≤ 4) (hi : i < s.size) :
    emenderref14_Point.j2 (k + 2) s i n least c = if i + n ≤ s.size then emenderref14_Point.l0 k s i n least c 1 else some (0, 0) := by
  simp only [emenderref14_Point.j2]
  rw [if_neg (by omega), w64' (by omega)]
  by_cases h : i + n ≤ s.size
  · rw [if_pos h, show decide ((i : Int) + (n : Int) > (s.size : Int)) = false from decide_eq_false (by omega)]
    simp only [emenderref14_Point.j3]
    rw [if_neg (by decide)]
  · rw [if_neg h, show decide ((i : Int) + (n : Int) > (s.size : Int)) = true from decide_eq_true (by omega)]
    simp only [emenderref14_Point.j3]
    rfl
theorem point (s : ByteArray) (hs : s.size ≤ 65536) (i : Nat) (hi : i < s.size) (k : Nat) (hk : 10 ≤ k) : emenderref14_Point.f k s i = some (P s i) := by
  obtain ⟨k, rfl⟩ : ∃ m, k = m + 10 := ⟨k - 10, by omega⟩
  have hb := by_lt s i
  have l1 := by_lt s (i + 1)
  have l2 := by_lt s (i + 2)
  have l3 := by_lt s (i + 3)
  obtain ⟨m0, m1, m2⟩ := lows _ hb
  have dc := Lib.decode_at s i
  change Utf8.decode s i = Lib.decodeN (s.size - i) (by_ s i) (by_ s (i + 1)) (by_ s (i + 2)) (by_ s (i + 3)) at dc
  have e0 : wrap64 (bt s (i : Int)) = (by_ s i : Int) := by rw [bt_by s i hi, w64' (by omega)]
  unfold emenderref14_Point.f
  rw [if_pos (by omega), if_pos (by omega), e0]
  by_cases c0 : by_ s i < 128
  · rw [if_pos (by omega), P_of (dc.trans (by unfold Lib.decodeN; rw [if_pos c0]))]
    rw [if_neg (by dsimp only; omega)]
    rfl
  rw [if_neg (by omega)]
  by_cases c1 : by_ s i / 32 = 6
  · rw [if_pos (by omega), show decide ((by_ s i : Int) < 224) = true from decide_eq_true (by omega)]
    simp only [emenderref14_Point.j0]
    rw [if_pos trivial, m0]
    have := point_j3 (k + 7) s hs i 2 128 (by_ s i % 32) (by omega) hi
    rw [show k + 7 + 2 = k + 9 from rfl] at this
    refine this.trans ?_
    by_cases g : i + 2 ≤ s.size
    · rw [if_pos g, show (1 : Int) = ((1 : Nat) : Int) from rfl, pt_step _ s hs i 2 128 _ 1 (by omega) (by omega) g (by omega)]
      by_cases g1 : by_ s (i + 1) / 64 = 2
      · rw [if_pos g1, pt_end (k + 5), P_of (dc.trans (by unfold Lib.decodeN; rw [if_neg c0, if_pos ⟨c1, by omega, g1⟩]))]
        congr 1
        by_cases g2 : by_ s i % 32 * 64 + by_ s (i + 1) % 64 ≥ 128
        · rw [if_pos ⟨g2, by omega⟩, if_pos g2, if_neg (by dsimp only; omega)]
        · rw [if_neg (by omega), if_neg g2, if_pos (by dsimp only; omega)]
      · rw [if_neg g1, P_of (dc.trans (by unfold Lib.decodeN; rw [if_neg c0, if_neg (by omega), if_neg (by omega), if_neg (by omega)]))]
        rfl
    · rw [if_neg g, P_of (dc.trans (by unfold Lib.decodeN; rw [if_neg c0, if_neg (by omega), if_neg (by omega), if_neg (by omega)]))]
      rfl
  have t1 : (if (by_ s i : Int) ≥ 192 then emenderref14_Point.j0 (k + 10) s i 0 0 (by_ s i) (decide ((by_ s i : Int) < 224)) else emenderref14_Point.j0 (k + 10) s i 0 0 (by_ s i) false) = emenderref14_Point.j0 (k + 10) s i 0 0 (by_ s i) false := by
    by_cases h : (by_ s i : Int) ≥ 192
    · rw [if_pos h, show decide ((by_ s i : Int) < 224) = false from decide_eq_false (by omega)]
    · rw [if_neg h]
  rw [t1]
  simp only [emenderref14_Point.j0]
  rw [if_neg (by decide)]
  by_cases c2 : by_ s i / 16 = 14
  · rw [if_pos (by omega), show decide ((by_ s i : Int) < 240) = true from decide_eq_true (by omega)]
    simp only [emenderref14_Point.j1]
    rw [if_pos trivial, m1]
    have := point_j3 (k + 6) s hs i 3 2048 (by_ s i % 16) (by omega) hi
    refine this.trans ?_
    by_cases g : i + 3 ≤ s.size
    · rw [if_pos g, show (1 : Int) = ((1 : Nat) : Int) from rfl, pt_step _ s hs i 3 2048 _ 1 (by omega) (by omega) g (by omega)]
      by_cases g1 : by_ s (i + 1) / 64 = 2
      · rw [if_pos g1, pt_step _ s hs i 3 2048 _ 2 (by omega) (by omega) g (by omega)]
        by_cases g2 : by_ s (i + 2) / 64 = 2
        · rw [if_pos g2, pt_end (k + 3), P_of (dc.trans (by unfold Lib.decodeN; rw [if_neg c0, if_neg (by omega), if_pos ⟨c2, ⟨by omega, g1⟩, by omega, g2⟩]))]
          congr 1
          rw [show (by_ s i % 16 * 64 + by_ s (i + 1) % 64) * 64 + by_ s (i + 2) % 64 = by_ s i % 16 * 4096 + by_ s (i + 1) % 64 * 64 + by_ s (i + 2) % 64 by omega]
          by_cases g3 : by_ s i % 16 * 4096 + by_ s (i + 1) % 64 * 64 + by_ s (i + 2) % 64 ≥ 2048 ∧ (by_ s i % 16 * 4096 + by_ s (i + 1) % 64 * 64 + by_ s (i + 2) % 64 < 55296 ∨ (57344 ≤ by_ s i % 16 * 4096 + by_ s (i + 1) % 64 * 64 + by_ s (i + 2) % 64 ∧ by_ s i % 16 * 4096 + by_ s (i + 1) % 64 * 64 + by_ s (i + 2) % 64 ≤ 1114111))
          · rw [if_pos g3, if_pos g3, if_neg (by dsimp only; omega)]
          · rw [if_neg g3, if_neg g3, if_pos (by dsimp only; omega)]
        · rw [if_neg g2, P_of (dc.trans (by unfold Lib.decodeN; rw [if_neg c0, if_neg (by omega), if_neg (by omega), if_neg (by omega)]))]
          rfl
      · rw [if_neg g1, P_of (dc.trans (by unfold Lib.decodeN; rw [if_neg c0, if_neg (by omega), if_neg (by omega), if_neg (by omega)]))]
        rfl
    · rw [if_neg g, P_of (dc.trans (by unfold Lib.decodeN; rw [if_neg c0, if_neg (by omega), if_neg (by omega), if_neg (by omega)]))]
      rfl
  have t2 : (if (by_ s i : Int) ≥ 224 then emenderref14_Point.j1 (k + 9) s i 0 0 (by_ s i) (decide ((by_ s i : Int) < 240)) else emenderref14_Point.j1 (k + 9) s i 0 0 (by_ s i) false) = emenderref14_Point.j1 (k + 9) s i 0 0 (by_ s i) false := by
    by_cases h : (by_ s i : Int) ≥ 224
    · rw [if_pos h, show decide ((by_ s i : Int) < 240) = false from decide_eq_false (by omega)]
    · rw [if_neg h]
  rw [t2]
  simp only [emenderref14_Point.j1]
  rw [if_neg (by decide)]
  by_cases c3 : by_ s i / 8 = 30
  · rw [if_pos (by omega), if_pos (by omega), m2]
    have := point_j3 (k + 6) s hs i 4 65536 (by_ s i % 8) (by omega) hi
    refine this.trans ?_
    by_cases g : i + 4 ≤ s.size
    · rw [if_pos g, show (1 : Int) = ((1 : Nat) : Int) from rfl, pt_step _ s hs i 4 65536 _ 1 (by omega) (by omega) g (by omega)]
      by_cases g1 : by_ s (i + 1) / 64 = 2
      · rw [if_pos g1, pt_step _ s hs i 4 65536 _ 2 (by omega) (by omega) g (by omega)]
        by_cases g2 : by_ s (i + 2) / 64 = 2
        · rw [if_pos g2, pt_step _ s hs i 4 65536 _ 3 (by omega) (by omega) g (by omega)]
          by_cases g3 : by_ s (i + 3) / 64 = 2
          · rw [if_pos g3, pt_end (k + 2), P_of (dc.trans (by unfold Lib.decodeN; rw [if_neg c0, if_neg (by omega), if_neg (by omega), if_pos ⟨c3, ⟨by omega, g1⟩, ⟨by omega, g2⟩, by omega, g3⟩]))]
            congr 1
            rw [show ((by_ s i % 8 * 64 + by_ s (i + 1) % 64) * 64 + by_ s (i + 2) % 64) * 64 + by_ s (i + 3) % 64 = by_ s i % 8 * 262144 + by_ s (i + 1) % 64 * 4096 + by_ s (i + 2) % 64 * 64 + by_ s (i + 3) % 64 by omega]
            by_cases g4 : by_ s i % 8 * 262144 + by_ s (i + 1) % 64 * 4096 + by_ s (i + 2) % 64 * 64 + by_ s (i + 3) % 64 ≥ 65536 ∧ (by_ s i % 8 * 262144 + by_ s (i + 1) % 64 * 4096 + by_ s (i + 2) % 64 * 64 + by_ s (i + 3) % 64 < 55296 ∨ (57344 ≤ by_ s i % 8 * 262144 + by_ s (i + 1) % 64 * 4096 + by_ s (i + 2) % 64 * 64 + by_ s (i + 3) % 64 ∧ by_ s i % 8 * 262144 + by_ s (i + 1) % 64 * 4096 + by_ s (i + 2) % 64 * 64 + by_ s (i + 3) % 64 ≤ 1114111))
            · rw [if_pos g4, if_pos g4, if_neg (by dsimp only; omega)]
            · rw [if_neg g4, if_neg g4, if_pos (by dsimp only; omega)]
          · rw [if_neg g3, P_of (dc.trans (by unfold Lib.decodeN; rw [if_neg c0, if_neg (by omega), if_neg (by omega), if_neg (by omega)]))]
            rfl
        · rw [if_neg g2, P_of (dc.trans (by unfold Lib.decodeN; rw [if_neg c0, if_neg (by omega), if_neg (by omega), if_neg (by omega)]))]
          rfl
      · rw [if_neg g1, P_of (dc.trans (by unfold Lib.decodeN; rw [if_neg c0, if_neg (by omega), if_neg (by omega), if_neg (by omega)]))]
        rfl
    · rw [if_neg g, P_of (dc.trans (by unfold Lib.decodeN; rw [if_neg c0, if_neg (by omega), if_neg (by omega), if_neg (by omega)]))]
      rfl
  have t3 : (if (by_ s i : Int) ≥ 240 then (if (by_ s i : Int) < 248 then emenderref14_Point.j2 (k + 8) s i 4 65536 (Go.bits .and .i64 (by_ s i) 7) else emenderref14_Point.j2 (k + 8) s i 0 0 (by_ s i)) else emenderref14_Point.j2 (k + 8) s i 0 0 (by_ s i)) = emenderref14_Point.j2 (k + 8) s i 0 0 (by_ s i) := by
    by_cases h : (by_ s i : Int) ≥ 240
    · rw [if_pos h, if_neg (by omega)]
    · rw [if_neg h]
  rw [t3, P_of (dc.trans (by unfold Lib.decodeN; rw [if_neg c0, if_neg (by omega), if_neg (by omega), if_neg (by omega)]))]
  simp only [emenderref14_Point.j2]
  rw [if_pos trivial]
  simp only [emenderref14_Point.j3]
  rfl
/-! ### All of them -/
theorem scan_len (s : ByteArray) : ∀ (f i : Nat), (inline_Parse.scan s f i).2.length ≤ s.size - i
  | 0, i => by simp [inline_Parse.scan]
  | f + 1, i => by
    unfold inline_Parse.scan
    by_cases h : i < s.size
    · rw [if_pos h]
      have hw := width_pos s i h
      have := scan_len s f (i + width s i)
      split
      · simp
      · simp only [List.length_cons]; omega
    · rw [if_neg h]; simp
theorem scan_pos (s : ByteArray) : ∀ (f i : Nat), ∀ x ∈ (inline_Parse.scan s f i).2, 0 ≤ x ∧ x ≤ 1114111
  | 0, i => by simp [inline_Parse.scan]
  | f + 1, i => by
    unfold inline_Parse.scan
    split
    · split
      · simp
      · intro x hx
        rcases List.mem_cons.1 hx with rfl | hx
        · exact rune_le s i
        · exact scan_pos s f _ x hx
    · simp
theorem points_loop (s : ByteArray) (hs : s.size ≤ 65536) : ∀ (f k i : Nat) (acc : List Int), s.size - i ≤ f → f + 12 ≤ k → i ≤ s.size → acc.length ≤ i →
    emenderref14_Points.l0 k s acc i = some (match (inline_Parse.scan s f i).1 with | some j => ([], (j : Int), false) | none => (acc ++ (inline_Parse.scan s f i).2, (s.size : Int), true))
  | 0, k, i, acc, hf, hk, hi, ha => by
    obtain ⟨k, rfl⟩ : ∃ m, k = m + 1 := ⟨k - 1, by omega⟩
    simp only [emenderref14_Points.l0, inline_Parse.scan]
    rw [if_neg (by omega), List.append_nil]
  | f + 1, k, i, acc, hf, hk, hi, ha => by
    obtain ⟨k, rfl⟩ : ∃ m, k = m + 1 := ⟨k - 1, by omega⟩
    simp only [emenderref14_Points.l0]
    unfold inline_Parse.scan
    by_cases h : i < s.size
    · have hw := width_pos s i h
      rw [if_pos (by omega), if_pos h, point s hs i h k (by omega), Option.bind_some]
      unfold P
      by_cases h1 : rune s i = 65533 ∧ width s i = 1
      · rw [if_pos h1, if_pos rfl, if_pos (Or.inl h1)]
      · rw [if_neg h1]
        dsimp only
        rw [if_neg (by omega)]
        by_cases h2 : rune s i = 10
        · rw [if_pos h2, if_pos (Or.inr h2)]
        · rw [if_neg h2, if_neg (show ¬ ((rune s i = 65533 ∧ width s i = 1) ∨ rune s i = 10) by rintro (h | h) <;> contradiction), if_pos (by omega), show wrap64 ((i : Int) + (width s i : Int)) = ((i + width s i : Nat) : Int) by rw [w64' (by omega)]; omega,
            points_loop s hs f k (i + width s i) (acc ++ [rune s i]) (by omega) (by omega) (by omega) (by simp only [List.length_append, List.length_singleton]; omega)]
          dsimp only
          rw [List.append_assoc]
          rfl
    · rw [if_neg (by omega), if_neg h]
      simp only [List.append_nil]
theorem points (s : ByteArray) (hs : s.size ≤ 65536) (k : Nat) (hk : s.size + 12 ≤ k) : emenderref14_Points.f k s = some (match (inline_Parse.scan s s.size 0).1 with | some j => ([], (j : Int), false) | none => ((inline_Parse.scan s s.size 0).2, (s.size : Int), true)) := by
  have := points_loop s hs s.size k 0 [] (by omega) hk (by omega) (by simp)
  exact this
/-! ### The line -/
theorem rd_at (p : List Int) (i : Nat) (h : i < p.length) : rd p (i : Int) = p[i] := by rw [rdi_get p _ (by simpa using h)]; rfl
theorem run_loop (s : ByteArray) (p : List Int) (hp : p.length ≤ 65536) (hn : ∀ x ∈ p, 0 ≤ x) : ∀ (d k i : Nat) (out : List S36) (set old : Int), p.length - i ≤ d → 3 * d + 3 ≤ k → out.length ≤ i →
    emenderref14_Parse.l0 k s p out set old i = some (out ++ inline_Parse.run (p.drop i) set old, (s.size : Int), 0)
  | 0, k, i, out, set, old, hd, hk, ho => by
    obtain ⟨k, rfl⟩ : ∃ m, k = m + 1 := ⟨k - 1, by omega⟩
    simp only [emenderref14_Parse.l0]
    rw [if_neg (by omega), List.drop_eq_nil_of_le (by omega)]
    unfold inline_Parse.run
    rw [List.append_nil]
  | d + 1, k, i, out, set, old, hd, hk, ho => by
    obtain ⟨k, rfl⟩ : ∃ m, k = m + 1 := ⟨k - 1, by omega⟩
    by_cases h : i < p.length
    · have ei : wrap64 ((i : Int) + 1) = ((i + 1 : Nat) : Int) := by rw [w64' (by omega)]; omega
      have ei2 : wrap64 (((i + 1 : Nat) : Int) + 1) = ((i + 2 : Nat) : Int) := by rw [w64' (by omega)]; omega
      have hc := hn _ (List.getElem_mem h)
      have ih := fun (k j : Nat) (out : List S36) (set old : Int) (h1 : p.length - j ≤ d) (h2 : 3 * d + 3 ≤ k) (h3 : out.length ≤ j) => run_loop s p hp hn d k j out set old h1 h2 h3
      have e1 : ∀ (j : Nat), (p.drop (i + 1)).tail = p.drop (i + 2) := fun _ => by rw [List.tail_drop]
      simp only [emenderref14_Parse.l0]
      rw [if_pos (by omega), if_pos (by omega), rd_at p i h, ei, ei2, List.drop_eq_getElem_cons h]
      unfold inline_Parse.run
      generalize hcc : p[i] = c at *
      unfold inline_take.step
      by_cases a1 : c = 92
      · rw [if_pos a1, if_pos a1]
        by_cases a2 : i + 1 < p.length
        · have hx := hn _ (List.getElem_mem a2)
          rw [if_pos (by omega), if_pos (by omega), if_pos (by omega), rd_at p _ a2, ih _ _ _ _ _ (by omega) (by omega) (by simp only [List.length_append, List.length_singleton]; omega)]
          rw [List.drop_eq_getElem_cons a2]
          simp only [List.headD_cons, List.tail_cons, if_pos hx, if_true, ge_iff_le, List.append_assoc]
          try rfl
        · rw [if_neg (by omega), ih _ _ _ _ _ (by omega) (by omega) (by omega), List.drop_eq_nil_of_le (show p.length ≤ i + 1 by omega), List.drop_eq_nil_of_le (show p.length ≤ i + 2 by omega)]
          simp only [List.headD_nil, List.tail_nil, if_true]
          try rfl
      · rw [if_neg a1, if_neg a1]
        have b1 : (if c = 96 then emenderref14_Parse.j1 k s p out set old i c (set == 4) else emenderref14_Parse.j1 k s p out set old i c false) = emenderref14_Parse.j1 k s p out set old i c (c == 96 && set == 4) := by
          by_cases a : c = 96
          · rw [if_pos a, show (c == 96) = true from beq_iff_eq.2 a, Bool.true_and]
          · rw [if_neg a, show (c == 96) = false from beq_eq_false_iff_ne.2 a, Bool.false_and]
        rw [b1]
        clear b1
        obtain ⟨k, rfl⟩ : ∃ m, k = m + 1 := ⟨k - 1, by omega⟩
        simp only [emenderref14_Parse.j1]
        by_cases a2 : c = 96
        · rw [show (c == 96) = true from beq_iff_eq.2 a2, Bool.true_and]
          by_cases a3 : set = 4
          · rw [if_pos (beq_iff_eq.2 a3), if_pos a2, if_pos a3, ei, ih _ _ _ _ _ (by omega) (by omega) (by omega)]
            rfl
          · rw [if_neg (fun e => a3 (beq_iff_eq.1 e)), if_pos a2, if_pos a2, if_neg a3, ei, ih _ _ _ _ _ (by omega) (by omega) (by omega)]
            rfl
        · rw [show (c == 96) = false from beq_eq_false_iff_ne.2 a2, Bool.false_and, if_neg (by decide), if_neg a2, if_neg a2]
          have b2 : (if c = 42 then (if set = 4 then emenderref14_Parse.j2 k s p out set old i c false else (if wrap64 ((i : Int) + 1) < (p.length : Int) then (if 0 ≤ wrap64 ((i : Int) + 1) then emenderref14_Parse.j2 k s p out set old i c (rd p (wrap64 ((i : Int) + 1)) == 42) else none) else emenderref14_Parse.j2 k s p out set old i c false)) else emenderref14_Parse.j2 k s p out set old i c false)
              = emenderref14_Parse.j2 k s p out set old i c (decide (c = 42 ∧ set ≠ 4 ∧ (p.drop (i + 1)).headD (-1) = 42)) := by
            by_cases a : c = 42
            · rw [if_pos a]
              by_cases a3 : set = 4
              · rw [if_pos a3, decide_eq_false (by simp [a3])]
              · rw [if_neg a3, ei]
                by_cases a4 : i + 1 < p.length
                · rw [if_pos (by omega), if_pos (by omega), rd_at p _ a4, List.drop_eq_getElem_cons a4]
                  congr 1
                  rw [Bool.eq_iff_iff, beq_iff_eq, decide_eq_true_eq]
                  exact ⟨fun e => ⟨a, a3, e⟩, fun e => e.2.2⟩
                · rw [if_neg (by omega), List.drop_eq_nil_of_le (show p.length ≤ i + 1 by omega), decide_eq_false (by simp)]
            · rw [if_neg a, decide_eq_false (fun e => a e.1)]
          rw [b2]
          clear b2
          obtain ⟨k, rfl⟩ : ∃ m, k = m + 1 := ⟨k - 1, by omega⟩
          simp only [emenderref14_Parse.j2]
          rw [ei, ei2]
          by_cases a3 : set = 4
          · rw [if_neg (by simp [a3])]
            have b3 : (if c = 95 then (if set = 4 then (if out.length < 4398046511104 then emenderref14_Parse.l0 k s p (out ++ [⟨0, 0, c, set⟩]) set old ((i + 1 : Nat) : Int) else none) else emenderref14_Parse.l0 k s p out (Go.bits .xor .i64 set 2) old ((i + 1 : Nat) : Int)) else (if out.length < 4398046511104 then emenderref14_Parse.l0 k s p (out ++ [⟨0, 0, c, set⟩]) set old ((i + 1 : Nat) : Int) else none))
                = emenderref14_Parse.l0 k s p (out ++ [⟨0, 0, c, set⟩]) set old ((i + 1 : Nat) : Int) := by
              rw [if_pos a3, if_pos (show out.length < 4398046511104 by omega)]
              split <;> rfl
            rw [b3, if_pos a3, ih _ _ _ _ _ (by omega) (by omega) (by simp only [List.length_append, List.length_singleton]; omega), List.append_assoc]
            rfl
          · rw [if_neg a3]
            by_cases a4 : c = 42 ∧ (p.drop (i + 1)).headD (-1) = 42
            · rw [if_pos (decide_eq_true ⟨a4.1, a3, a4.2⟩), if_pos a4, if_neg a3, ih _ _ _ _ _ (by omega) (by omega) (by omega), ← e1 0]
              rfl
            · rw [if_neg (by simp only [decide_eq_true_eq]; exact fun e => a4 ⟨e.1, e.2.2⟩), if_neg a4]
              by_cases a5 : c = 95
              · rw [if_pos a5, if_neg a3, if_pos a5, ih _ _ _ _ _ (by omega) (by omega) (by omega)]
                rfl
              · rw [if_neg a5, if_pos (by omega), if_neg a5, if_neg a3, ih _ _ _ _ _ (by omega) (by omega) (by simp only [List.length_append, List.length_singleton]; omega), List.append_assoc]
                rfl
    · simp only [emenderref14_Parse.l0]
      rw [if_neg (by omega), List.drop_eq_nil_of_le (by omega)]
      unfold inline_Parse.run
      rw [List.append_nil]
/-- What both read. -/
def reads (s : ByteArray) : List S36 × Int × Int := if s.size > 65536 then ([], 0, 2) else inline_Parse.res s (inline_Parse.scan s s.size 0)
theorem our_parse (s : ByteArray) : inline_Parse.f s = some (reads s) := by
  unfold inline_Parse.f reads
  split <;> rfl
theorem ref_parse (s : ByteArray) (k : Nat) (hk : 3 * s.size + 20 ≤ k) : emenderref14_Parse.f k s = some (reads s) := by
  unfold emenderref14_Parse.f reads
  by_cases h : s.size > 65536
  · rw [if_pos (by omega), if_pos h]
  · rw [if_neg (by omega), if_neg h, points s (by omega) k (by omega), Option.bind_some]
    unfold inline_Parse.res
    cases e : (inline_Parse.scan s s.size 0).1 with
    | some j => rfl
    | none =>
      have hl := scan_len s s.size 0
      have := run_loop s _ (by omega) (fun x hx => (scan_pos s s.size 0 x hx).1) (inline_Parse.scan s s.size 0).2.length k 0 [] 0 0 (by omega) (by omega) (by simp)
      exact this
theorem run_len : ∀ (n : Nat) (l : List Int) (set old : Int), l.length ≤ n → (inline_Parse.run l set old).length ≤ l.length
  | n, [], set, old, _ => by unfold inline_Parse.run; simp
  | 0, c :: l, set, old, h => by simp at h
  | n + 1, c :: l, set, old, h => by
    have h' : l.length ≤ n := by simpa using h
    have i0 := run_len n l
    have i1 := run_len n l.tail
    unfold inline_Parse.run inline_take.step
    simp only [List.length_append, List.length_cons]
    have t1 : l.tail.length = l.length - 1 := List.length_tail
    repeat' split
    all_goals dsimp only at *
    all_goals first | contradiction | (simp only [if_true, List.length_singleton, List.length_nil, List.length_cons]; first | (have := i0 4 set h'; omega) | (have := i0 old old h'; omega) | (have := i0 set old h'; omega) | (have := i0 (inline_take.x set 2) old h'; omega) | (have := i1 (inline_take.x set 1) old (by omega); omega) | (have := i1 set old (by omega); omega) | skip)
    all_goals skip
theorem reads_len (s : ByteArray) : (reads s).1.length ≤ s.size ∧ (reads s).1.length ≤ 65536 := by
  unfold reads
  by_cases h : s.size > 65536
  · rw [if_pos h]; simp
  · rw [if_neg h]
    unfold inline_Parse.res
    split
    · simp
    · have h1 := run_len _ (inline_Parse.scan s s.size 0).2 0 0 (Nat.le_refl _)
      have h2 := scan_len s s.size 0
      dsimp only
      omega
/-! ### Alike -/
def eqT (t u : S36) : Bool := t.f0 == u.f0 && (t.f1 == u.f1 && (t.f2 == u.f2 && t.f3 == u.f3))
def sameL : List S36 → List S36 → Bool
  | [], [] => true
  | t :: a, u :: b => eqT t u && sameL a b
  | _, _ => false
theorem sameL_refl : ∀ a : List S36, sameL a a = true
  | [] => rfl
  | t :: a => by simp [sameL, eqT, sameL_refl a]
theorem sameL_length : ∀ (a b : List S36), a.length ≠ b.length → sameL a b = false
  | [], [], h => absurd rfl h
  | [], _ :: _, _ => rfl
  | _ :: _, [], _ => rfl
  | t :: a, u :: b, h => by
    simp only [sameL]
    rw [sameL_length a b (by simpa using h)]
    simp
theorem ne_test (t u : S36) : (!(t.f0 == u.f0) || (!(t.f1 == u.f1) || (!(t.f2 == u.f2) || (!(t.f3 == u.f3))))) = !(eqT t u) := by
  unfold eqT
  cases t.f0 == u.f0 <;> cases t.f1 == u.f1 <;> cases t.f2 == u.f2 <;> cases t.f3 == u.f3 <;> rfl
theorem alike_loop (a b : List S36) (hab : a.length = b.length) (hl : a.length < 17592186044416) : ∀ (d k : Nat) (i : Int), 0 ≤ i → i + d = a.length → d < k → emenderlaw14_alike.l0 k a b i = some (sameL (a.drop i.toNat) (b.drop i.toNat)) := by
  intro d
  induction d with
  | zero =>
    intro k i h0 h1 hk
    obtain ⟨k, rfl⟩ : ∃ m, k = m + 1 := ⟨k - 1, by omega⟩
    simp only [emenderlaw14_alike.l0]
    rw [if_neg (by omega), List.drop_eq_nil_of_le (by omega), List.drop_eq_nil_of_le (by omega)]
    rfl
  | succ d ih =>
    intro k i h0 h1 hk
    obtain ⟨k, rfl⟩ : ∃ m, k = m + 1 := ⟨k - 1, by omega⟩
    have ha : i.toNat < a.length := by omega
    have hb : i.toNat < b.length := by omega
    simp only [emenderlaw14_alike.l0]
    rw [if_pos (by omega), if_pos h0, if_pos (by omega), rd_get a i ha, rd_get b i hb, ne_test, w64' (by omega), List.drop_eq_getElem_cons ha, List.drop_eq_getElem_cons hb]
    simp only [sameL]
    cases e : eqT a[i.toNat] b[i.toNat] with
    | false => simp
    | true =>
      rw [if_neg (by decide), ih k (i + 1) (by omega) (by omega) (by omega), show (i + 1).toNat = i.toNat + 1 by omega]
      simp
theorem alike (a b : List S36) (hl : a.length < 17592186044416) (k : Nat) (hk : a.length < k) : emenderlaw14_alike.f k a b = some (sameL a b) := by
  unfold emenderlaw14_alike.f
  by_cases h : (a.length : Int) = (b.length : Int)
  · rw [if_pos h, alike_loop a b (by omega) hl a.length k 0 (by omega) (by omega) hk]
    rfl
  · rw [if_neg h, sameL_length a b (by omega)]
end Go.Proofs.YtebbngeamnpgjaaDoor.InlC
