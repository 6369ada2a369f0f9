/- A line that is read: the document's code points are the decoder's, its reading is the program's. -/
import Derived.Test.YtfcfomconcoimaaDoorFlatA
import Derived.Laws.BitsLemmas
import Derived.Lib.DecodeN
import Derived.Test.YtfcfomconcoimaaDoorPFax0
import Derived.Test.YtfcfomconcoimaaDoorPFay4
import Derived.Test.YtfcfomconcoimaaDoorPFay6
import Derived.Test.YtfcfomconcoimaaDoorPFay0
namespace Go.Proofs.YtfcfomconcoimaaDoor.InlC
open Go.RowKit Go.Proofs.YtfcfomconcoimaaDoorW.PrintWords Go.Proofs.YtfcfomconcoimaaDoorW.PrintMore
open Go.Proofs.YtfcfomconcoimaaDoor Go.Proofs.YtfcfomconcoimaaDoor.PFa Go.Proofs.YtfcfomconcoimaaDoor.FlatA
set_option linter.unusedSimpArgs false
set_option linter.unusedVariables false

theorem w64' {i : Int} (h : -9223372036854775808 ≤ i ∧ i ≤ 9223372036854775807) : wrap64 i = i := by unfold wrap64; omega
/-- A byte of a string. -/
def by_ (s : ByteArray) (i : Nat) : Nat := (s.get! i).toNat
theorem by_lt (s : ByteArray) (i : Nat) : by_ s i < 256 := (s.get! i).toNat_lt
theorem bt_by (s : ByteArray) (i : Nat) (h : i < s.size) : bt s (i : Int) = (by_ s i : Int) := by
 unfold bt by_
 rw [dif_pos (show (i : Int).toNat < s.size by simpa using h)]
 have e : s.get! i = s[i] := by
  cases s with
  | mk a => exact getElem!_pos a i h
 rw [e]
 rfl
theorem cont (b : Nat) (h : b < 256) : (Go.bits .and .u8 (b : Int) 192 = 128) ↔ b / 64 = 2 := by
 have := (show ∀ b : Fin 256, (Go.bits .and .u8 (b.1 : Int) 192 = 128) ↔ b.1 / 64 = 2 by decide +kernel) ⟨b, h⟩
 exact this
theorem low6 (b : Nat) (h : b < 256) : Go.bits .and .u8 (b : Int) 63 = ((b % 64 : Nat) : Int) := by
 have := (show ∀ b : Fin 256, Go.bits .and .u8 (b.1 : Int) 63 = ((b.1 % 64 : Nat) : Int) by decide +kernel) ⟨b, h⟩
 exact this
theorem lows (b : Nat) (h : b < 256) : Go.bits .and .i64 (b : Int) 31 = ((b % 32 : Nat) : Int) ∧ Go.bits .and .i64 (b : Int) 15 = ((b % 16 : Nat) : Int) ∧ Go.bits .and .i64 (b : Int) 7 = ((b % 8 : Nat) : Int) := by
 have := (show ∀ b : Fin 256, Go.bits .and .i64 (b.1 : Int) 31 = ((b.1 % 32 : Nat) : Int) ∧ Go.bits .and .i64 (b.1 : Int) 15 = ((b.1 % 16 : Nat) : Int) ∧ Go.bits .and .i64 (b.1 : Int) 7 = ((b.1 % 8 : Nat) : Int) by decide +kernel) ⟨b, h⟩
 exact this
theorem wraps_i64 (n : Int) (h₀ : 0 ≤ n) (h₁ : n < 2 ^ 63) : IntKind.i64.wrap n = n := by rw [IntKind.wrap_i64]; omega
theorem join6 (c b : Nat) (hc : c < 1000000) : Go.bits .or .i64 (wrap64 ((c : Int) * 64)) (wrap64 ((b % 64 : Nat) : Int)) = ((c * 64 + b % 64 : Nat) : Int) := by
 rw [w64' (by omega), w64' (by omega), bits_join .i64 63 (by decide) wraps_i64 6 _ _ (by omega) (by omega) (by omega) (by omega) (by omega) (by omega)]
 omega
/-- One more byte of a code point. -/
theorem pt_step (k : Nat) (s : ByteArray) (hs : s.size ≤ 65536) (i n least c j : Nat) (hj : j < n) (hn : n ≤ 4) (hin : i + n ≤ s.size) (hc : c < 1000000) :
  emenderref14_Point.l0 (k + 1) s i n least c j = if by_ s (i + j) / 64 = 2 then emenderref14_Point.l0 k s i n least ((c * 64 + by_ s (i + j) % 64 : Nat) : Int) ((j + 1 : Nat) : Int) else some (0, 0) := by
 simp only [emenderref14_Point.l0]
 have e : wrap64 ((i : Int) + (j : Int)) = ((i + j : Nat) : Int) := by rw [w64' (by omega)]; omega
 rw [if_pos (by omega), e, if_pos (by omega), if_pos (by omega), bt_by s _ (by omega), low6 _ (by_lt s _), join6 _ _ hc, show wrap64 ((j : Int) + 1) = ((j + 1 : Nat) : Int) by rw [w64' (by omega)]; omega]
 by_cases h : by_ s (i + j) / 64 = 2
 ·rw [if_pos ((cont _ (by_lt s _)).2 h), if_pos h]
 ·rw [if_neg (fun e => h ((cont _ (by_lt s _)).1 e)), if_neg h]
/-- Behind the last one. -/
theorem pt_end (k : Nat) (s : ByteArray) (i n least c : Nat) :
  emenderref14_Point.l0 (k + 1) s i n least c n = some (if c ≥ least ∧ (c < 55296 ∨ (57344 ≤ c ∧ c ≤ 1114111)) then ((c : Int), (n : Int)) else (0, 0)) := by
 simp only [emenderref14_Point.l0]
 rw [if_neg (by omega)]
 by_cases h : c < least
 ·rw [if_pos (by omega), if_neg (by omega)]
 ·rw [if_neg (by omega)]
  unfold emenderref04_Point.f
  rw [if_pos (by omega)]
  by_cases h1 : c ≤ 1114111
  ·rw [if_pos (by omega)]
   by_cases h2 : c < 55296
   ·rw [if_pos (by omega), Option.bind_some, if_pos rfl, if_pos (by omega)]
   ·rw [if_neg (by omega), Option.bind_some]
    by_cases h3 : 57344 ≤ c
    ·rw [if_pos (by simp only [decide_eq_true_eq]; omega), if_pos (by omega)]
    ·rw [if_neg (by simp only [decide_eq_true_eq]; omega), if_neg (by omega)]
  ·rw [if_neg (by omega), Option.bind_some, if_neg (by decide), if_neg (by omega)]
/-- The code point at a place, told by the decoder. -/
def P (s : ByteArray) (i : Nat) : Int × Int := if rune s i = 65533 ∧ width s i = 1 then (0, 0) else (rune s i, (width s i : Int))
theorem P_of {s : ByteArray} {i : Nat} {x : Nat × Nat} (h : Utf8.decode s i = x) : P s i = if x.1 = 65533 ∧ x.2 = 1 then (0, 0) else ((x.1 : Int), (x.2 : Int)) := by
 unfold P rune width
 rw [h]
 by_cases e : x.1 = 65533 ∧ x.2 = 1
 ·rw [if_pos e, if_pos (by omega)]
 ·rw [if_neg e, if_neg (by omega)]
theorem point_j3 (k : Nat) (s : ByteArray) (hs : s.size ≤ 65536) (i n least c : Nat) (hn : 2 ≤ n ∧ n ≤ 4) (hi : i < s.size) :
  emenderref14_Point.j2 (k + 2) s i n least c = if i + n ≤ s.size then emenderref14_Point.l0 k s i n least c 1 else some (0, 0) := by
 simp only [emenderref14_Point.j2]
 rw [if_neg (by omega), w64' (by omega)]
 by_cases h : i + n ≤ s.size
 ·rw [if_pos h, show decide ((i : Int) + (n : Int) > (s.size : Int)) = false from decide_eq_false (by omega)]
  simp only [emenderref14_Point.j3]
  rw [if_neg (by decide)]
 ·rw [if_neg h, show decide ((i : Int) + (n : Int) > (s.size : Int)) = true from decide_eq_true (by omega)]
  simp only [emenderref14_Point.j3]
  rfl
theorem point (s : ByteArray) (hs : s.size ≤ 65536) (i : Nat) (hi : i < s.size) (k : Nat) (hk : 10 ≤ k) : emenderref14_Point.f k s i = some (P s i) := by
 obtain ⟨k, rfl⟩ : ∃ m, k = m + 10 := ⟨k - 10, by omega⟩
 have hb := by_lt s i
 have l1 := by_lt s (i + 1)
 have l2 := by_lt s (i + 2)
 have l3 := by_lt s (i + 3)
 obtain ⟨m0, m1, m2⟩ := lows _ hb
 have dc := Lib.decode_at s i
 change Utf8.decode s i = Lib.decodeN (s.size - i) (by_ s i) (by_ s (i + 1)) (by_ s (i + 2)) (by_ s (i + 3)) at dc
 have e0 : wrap64 (bt s (i : Int)) = (by_ s i : Int) := by rw [bt_by s i hi, w64' (by omega)]
 unfold emenderref14_Point.f
 rw [if_pos (by omega), if_pos (by omega), e0]
 by_cases c0 : by_ s i < 128
 ·rw [if_pos (by omega), P_of (dc.trans (by unfold Lib.decodeN; rw [if_pos c0]))]
  rw [if_neg (by dsimp only; omega)]
  rfl
 rw [if_neg (by omega)]
 by_cases c1 : by_ s i / 32 = 6
 ·rw [if_pos (by omega), show decide ((by_ s i : Int) < 224) = true from decide_eq_true (by omega)]
  simp only [emenderref14_Point.j0]
  rw [if_pos trivial, m0]
  have := point_j3 (k + 7) s hs i 2 128 (by_ s i % 32) (by omega) hi
  rw [show k + 7 + 2 = k + 9 from rfl] at this
  refine this.trans ?_
  by_cases g : i + 2 ≤ s.size
  ·rw [if_pos g, show (1 : Int) = ((1 : Nat) : Int) from rfl, pt_step _ s hs i 2 128 _ 1 (by omega) (by omega) g (by omega)]
   by_cases g1 : by_ s (i + 1) / 64 = 2
   ·rw [if_pos g1, pt_end (k + 5), P_of (dc.trans (by unfold Lib.decodeN; rw [if_neg c0, if_pos ⟨c1, by omega, g1⟩]))]
    congr 1
    by_cases g2 : by_ s i % 32 * 64 + by_ s (i + 1) % 64 ≥ 128
    ·rw [if_pos ⟨g2, by omega⟩, if_pos g2, if_neg (by dsimp only; omega)]
    ·rw [if_neg (by omega), if_neg g2, if_pos (by dsimp only; omega)]
   ·rw [if_neg g1, P_of (dc.trans (by unfold Lib.decodeN; rw [if_neg c0, if_neg (by omega), if_neg (by omega), if_neg (by omega)]))]
    rfl
  ·rw [if_neg g, P_of (dc.trans (by unfold Lib.decodeN; rw [if_neg c0, if_neg (by omega), if_neg (by omega), if_neg (by omega)]))]
   rfl
 have t1 : (if (by_ s i : Int) ≥ 192 then emenderref14_Point.j0 (k + 10) s i 0 0 (by_ s i) (decide ((by_ s i : Int) < 224)) else emenderref14_Point.j0 (k + 10) s i 0 0 (by_ s i) false) = emenderref14_Point.j0 (k + 10) s i 0 0 (by_ s i) false := by
  by_cases h : (by_ s i : Int) ≥ 192
  ·rw [if_pos h, show decide ((by_ s i : Int) < 224) = false from decide_eq_false (by omega)]
  ·rw [if_neg h]
 rw [t1]
 simp only [emenderref14_Point.j0]
 rw [if_neg (by decide)]
 by_cases c2 : by_ s i / 16 = 14
 ·rw [if_pos (by omega), show decide ((by_ s i : Int) < 240) = true from decide_eq_true (by omega)]
  simp only [emenderref14_Point.j1]
  rw [if_pos trivial, m1]
  have := point_j3 (k + 6) s hs i 3 2048 (by_ s i % 16) (by omega) hi
  refine this.trans ?_
  by_cases g : i + 3 ≤ s.size
  ·rw [if_pos g, show (1 : Int) = ((1 : Nat) : Int) from rfl, pt_step _ s hs i 3 2048 _ 1 (by omega) (by omega) g (by omega)]
   by_cases g1 : by_ s (i + 1) / 64 = 2
   ·rw [if_pos g1, pt_step _ s hs i 3 2048 _ 2 (by omega) (by omega) g (by omega)]
    by_cases g2 : by_ s (i + 2) / 64 = 2
    ·rw [if_pos g2, pt_end (k + 3), P_of (dc.trans (by unfold Lib.decodeN; rw [if_neg c0, if_neg (by omega), if_pos ⟨c2, ⟨by omega, g1⟩, by omega, g2⟩]))]
     congr 1
     rw [show (by_ s i % 16 * 64 + by_ s (i + 1) % 64) * 64 + by_ s (i + 2) % 64 = by_ s i % 16 * 4096 + by_ s (i + 1) % 64 * 64 + by_ s (i + 2) % 64 by omega]
     by_cases g3 : by_ s i % 16 * 4096 + by_ s (i + 1) % 64 * 64 + by_ s (i + 2) % 64 ≥ 2048 ∧ (by_ s i % 16 * 4096 + by_ s (i + 1) % 64 * 64 + by_ s (i + 2) % 64 < 55296 ∨ (57344 ≤ by_ s i % 16 * 4096 + by_ s (i + 1) % 64 * 64 + by_ s (i + 2) % 64 ∧ by_ s i % 16 * 4096 + by_ s (i + 1) % 64 * 64 + by_ s (i + 2) % 64 ≤ 1114111))
     ·rw [if_pos g3, if_pos g3, if_neg (by dsimp only; omega)]
     ·rw [if_neg g3, if_neg g3, if_pos (by dsimp only; omega)]
    ·rw [if_neg g2, P_of (dc.trans (by unfold Lib.decodeN; rw [if_neg c0, if_neg (by omega), if_neg (by omega), if_neg (by omega)]))]
     rfl
   ·rw [if_neg g1, P_of (dc.trans (by unfold Lib.decodeN; rw [if_neg c0, if_neg (by omega), if_neg (by omega), if_neg (by omega)]))]
    rfl
  ·rw [if_neg g, P_of (dc.trans (by unfold Lib.decodeN; rw [if_neg c0, if_neg (by omega), if_neg (by omega), if_neg (by omega)]))]
   rfl
 have t2 : (if (by_ s i : Int) ≥ 224 then emenderref14_Point.j1 (k + 9) s i 0 0 (by_ s i) (decide ((by_ s i : Int) < 240)) else emenderref14_Point.j1 (k + 9) s i 0 0 (by_ s i) false) = emenderref14_Point.j1 (k + 9) s i 0 0 (by_ s i) false := by
  by_cases h : (by_ s i : Int) ≥ 224
  ·rw [if_pos h, show decide ((by_ s i : Int) < 240) = false from decide_eq_false (by omega)]
  ·rw [if_neg h]
 rw [t2]
 simp only [emenderref14_Point.j1]
 rw [if_neg (by decide)]
 by_cases c3 : by_ s i / 8 = 30
 ·rw [if_pos (by omega), if_pos (by omega), m2]
  have := point_j3 (k + 6) s hs i 4 65536 (by_ s i % 8) (by omega) hi
  refine this.trans ?_
  by_cases g : i + 4 ≤ s.size
  ·rw [if_pos g, show (1 : Int) = ((1 : Nat) : Int) from rfl, pt_step _ s hs i 4 65536 _ 1 (by omega) (by omega) g (by omega)]
   by_cases g1 : by_ s (i + 1) / 64 = 2
   ·rw [if_pos g1, pt_step _ s hs i 4 65536 _ 2 (by omega) (by omega) g (by omega)]
    by_cases g2 : by_ s (i + 2) / 64 = 2
    ·rw [if_pos g2, pt_step _ s hs i 4 65536 _ 3 (by omega) (by omega) g (by omega)]
     by_cases g3 : by_ s (i + 3) / 64 = 2
     ·rw [if_pos g3, pt_end (k + 2), P_of (dc.trans (by unfold Lib.decodeN; rw [if_neg c0, if_neg (by omega), if_neg (by omega), if_pos ⟨c3, ⟨by omega, g1⟩, ⟨by omega, g2⟩, by omega, g3⟩]))]
      congr 1
      rw [show ((by_ s i % 8 * 64 + by_ s (i + 1) % 64) * 64 + by_ s (i + 2) % 64) * 64 + by_ s (i + 3) % 64 = by_ s i % 8 * 262144 + by_ s (i + 1) % 64 * 4096 + by_ s (i + 2) % 64 * 64 + by_ s (i + 3) % 64 by omega]
      by_cases g4 : by_ s i % 8 * 262144 + by_ s (i + 1) % 64 * 4096 + by_ s (i + 2) % 64 * 64 + by_ s (i + 3) % 64 ≥ 65536 ∧ (by_ s i % 8 * 262144 + by_ s (i + 1) % 64 * 4096 + by_ s (i + 2) % 64 * 64 + by_ s (i + 3) % 64 < 55296 ∨ (57344 ≤ by_ s i % 8 * 262144 + by_ s (i + 1) % 64 * 4096 + by_ s (i + 2) % 64 * 64 + by_ s (i + 3) % 64 ∧ by_ s i % 8 * 262144 + by_ s (i + 1) % 64 * 4096 + by_ s (i + 2) % 64 * 64 + by_ s (i + 3) % 64 ≤ 1114111))
      ·rw [if_pos g4, if_pos g4, if_neg (by dsimp only; omega)]
      ·rw [if_neg g4, if_neg g4, if_pos (by dsimp only; omega)]
     ·rw [if_neg g3, P_of (dc.trans (by unfold Lib.decodeN; rw [if_neg c0, if_neg (by omega), if_neg (by omega), if_neg (by omega)]))]
      rfl
    ·rw [if_neg g2, P_of (dc.trans (by unfold Lib.decodeN; rw [if_neg c0, if_neg (by omega), if_neg (by omega), if_neg (by omega)]))]
     rfl
   ·rw [if_neg g1, P_of (dc.trans (by unfold Lib.decodeN; rw [if_neg c0, if_neg (by omega), if_neg (by omega), if_neg (by omega)]))]
    rfl
  ·rw [if_neg g, P_of (dc.trans (by unfold Lib.decodeN; rw [if_neg c0, if_neg (by omega), if_neg (by omega), if_neg (by omega)]))]
   rfl
 have t3 : (if (by_ s i : Int) ≥ 240 then (if (by_ s i : Int) < 248 then emenderref14_Point.j2 (k + 8) s i 4 65536 (Go.bits .and .i64 (by_ s i) 7) else emenderref14_Point.j2 (k + 8) s i 0 0 (by_ s i)) else emenderref14_Point.j2 (k + 8) s i 0 0 (by_ s i)) = emenderref14_Point.j2 (k + 8) s i 0 0 (by_ s i) := by
  by_cases h : (by_ s i : Int) ≥ 240
  ·rw [if_pos h, if_neg (by omega)]
  ·rw [if_neg h]
 rw [t3, P_of (dc.trans (by unfold Lib.decodeN; rw [if_neg c0, if_neg (by omega), if_neg (by omega), if_neg (by omega)]))]
 simp only [emenderref14_Point.j2]
 rw [if_pos trivial]
 simp only [emenderref14_Point.j3]
 rfl
/-! ### All of them -/
end Go.Proofs.YtfcfomconcoimaaDoor.InlC
