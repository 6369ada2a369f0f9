/- A line that is written is read as it was: code points encoded and decoded, the sets there and back. -/
import Derived.Test.YtebbngeamnpgjaaDoorInlB
import Derived.Test.YtebbngeamnpgjaaDoorInlC
import Derived.Test.YtebbngeamnpgjaaDoorPIax0
import Derived.Test.YtebbngeamnpgjaaDoorPIax10
import Derived.Test.YtebbngeamnpgjaaDoorPIax2
import Derived.Test.YtebbngeamnpgjaaDoorPIax3
import Derived.Test.YtebbngeamnpgjaaDoorPIax8
import Derived.Test.YtebbngeamnpgjaaDoorPIax9
namespace Go.Proofs.YtebbngeamnpgjaaDoor.InlD
open Go.RowKit Go.Proofs.YtebbngeamnpgjaaDoorW.PrintWords Go.Proofs.YtebbngeamnpgjaaDoorW.PrintMore
open Go.Proofs.YtebbngeamnpgjaaDoor Go.Proofs.YtebbngeamnpgjaaDoor.PIa Go.Proofs.YtebbngeamnpgjaaDoor.FlatA Go.Proofs.YtebbngeamnpgjaaDoor.InlA Go.Proofs.YtebbngeamnpgjaaDoor.InlB Go.Proofs.YtebbngeamnpgjaaDoor.InlC
set_option linter.unusedSimpArgs false
set_option linter.unusedVariables false

def okc (c : Int) : Prop := 0 ≤ c ∧ c ≤ 1114111 ∧ ¬ (55296 ≤ c ∧ c ≤ 57343)
theorem get_list (l : List UInt8) (i : Nat) : (⟨l.toArray⟩ : ByteArray).get! i = l.getD i 0 := by
  show l.toArray[i]! = l.getD i 0
  simp only [List.getElem!_toArray, List.getD_eq_getElem?_getD]
  rw [List.getElem!_eq_getElem?_getD]
  rfl
theorem by_list (pre l : List UInt8) (j : Nat) : by_ ⟨(pre ++ l).toArray⟩ (pre.length + j) = (l.getD j 0).toNat := by
  unfold by_
  rw [get_list, List.getD_eq_getElem?_getD, List.getD_eq_getElem?_getD, List.getElem?_append_right (by omega), Nat.add_sub_cancel_left]
theorem u8n (x : Int) : (x.toNat.toUInt8).toNat = x.toNat % 256 := by simp
theorem enc_len (c : Int) : 1 ≤ (Lib.encodeRune c).length := by
  unfold Lib.encodeRune Lib.encodeRuneZ
  rw [List.length_map]
  repeat' split
  all_goals simp
/-- A code point that is encoded is decoded. -/
theorem dec_enc (pre post : List UInt8) (c : Int) (hc : okc c) : Utf8.decode ⟨(pre ++ (Lib.encodeRune c ++ post)).toArray⟩ pre.length = (c.toNat, (Lib.encodeRune c).length) := by
  obtain ⟨h0, h1, h2⟩ := hc
  have dc := Lib.decode_at ⟨(pre ++ (Lib.encodeRune c ++ post)).toArray⟩ pre.length
  change _ = Lib.decodeN _ (by_ _ (pre.length + 0)) (by_ _ (pre.length + 1)) (by_ _ (pre.length + 2)) (by_ _ (pre.length + 3)) at dc
  simp only [by_list] at dc
  rw [show (⟨(pre ++ (Lib.encodeRune c ++ post)).toArray⟩ : ByteArray).size - pre.length = (Lib.encodeRune c).length + post.length by simp [ByteArray.size]] at dc
  rw [dc]
  clear dc
  unfold Lib.encodeRune
  by_cases c1 : c ≤ 127
  · rw [Lib.encodeRuneZ_one h0 c1]
    simp only [List.map_cons, List.map_nil, List.length_cons, List.length_nil, List.cons_append, List.nil_append, List.getD_cons_zero, u8n]
    unfold Lib.decodeN
    rw [if_pos (by omega)]
    exact Prod.ext (by dsimp only; omega) rfl
  by_cases c2 : c ≤ 2047
  · rw [Lib.encodeRuneZ_two (by omega) c2]
    simp only [List.map_cons, List.map_nil, List.length_cons, List.length_nil, List.cons_append, List.nil_append, List.getD_cons_zero, List.getD_cons_succ, u8n]
    unfold Lib.decodeN
    rw [if_neg (by omega), if_pos (by refine ⟨?_, ?_, ?_⟩ <;> omega), if_pos (by omega)]
    exact Prod.ext (by dsimp only; omega) rfl
  by_cases c3 : c ≤ 65535
  · rw [Lib.encodeRuneZ_three (by omega)]
    simp only [List.map_cons, List.map_nil, List.length_cons, List.length_nil, List.cons_append, List.nil_append, List.getD_cons_zero, List.getD_cons_succ, u8n]
    unfold Lib.decodeN
    rw [if_neg (by omega), if_neg (by omega), if_pos (by refine ⟨?_, ⟨?_, ?_⟩, ?_, ?_⟩ <;> omega), if_pos (by omega)]
    exact Prod.ext (by dsimp only; omega) rfl
  · rw [Lib.encodeRuneZ_four (by omega) (by omega)]
    simp only [List.map_cons, List.map_nil, List.length_cons, List.length_nil, List.cons_append, List.nil_append, List.getD_cons_zero, List.getD_cons_succ, u8n]
    unfold Lib.decodeN
    rw [if_neg (by omega), if_neg (by omega), if_neg (by omega), if_pos (by refine ⟨?_, ⟨?_, ?_⟩, ⟨?_, ?_⟩, ?_, ?_⟩ <;> omega), if_pos (by omega)]
    exact Prod.ext (by dsimp only; omega) rfl
def encs (l : List Int) : List UInt8 := l.flatMap Lib.encodeRune
theorem scan_enc : ∀ (ps : List Int) (pre : List UInt8) (f : Nat), (∀ c ∈ ps, okc c ∧ c ≠ 10) → (encs ps).length ≤ f → inline_Parse.scan ⟨(pre ++ encs ps).toArray⟩ f pre.length = (none, ps)
  | [], pre, f, _, _ => by
    cases f with
    | zero => rfl
    | succ f =>
      unfold inline_Parse.scan
      rw [if_neg (by simp [encs, ByteArray.size])]
  | c :: ps, pre, f, h, hf => by
    have hl := enc_len c
    have e : encs (c :: ps) = Lib.encodeRune c ++ encs ps := rfl
    rw [e, List.length_append] at hf
    rw [e]
    cases f with
    | zero => omega
    | succ f =>
      obtain ⟨hc, h10⟩ := h c (List.mem_cons_self ..)
      have d := dec_enc pre (encs ps) c hc
      have hr : rune ⟨(pre ++ (Lib.encodeRune c ++ encs ps)).toArray⟩ pre.length = c := by
        unfold rune
        rw [d]
        dsimp only
        have := hc.1
        omega
      have hw : width ⟨(pre ++ (Lib.encodeRune c ++ encs ps)).toArray⟩ pre.length = (Lib.encodeRune c).length := by
        unfold width
        rw [d]
      unfold inline_Parse.scan
      rw [hr, hw, if_pos (by simp [ByteArray.size]; omega), if_neg (by
        rintro (⟨rfl, h2⟩ | h2)
        · exact absurd h2 (by decide)
        · exact h10 h2)]
      have ih := scan_enc ps (pre ++ Lib.encodeRune c) f (fun x hx => h x (List.mem_cons_of_mem _ hx)) (by omega)
      rw [List.append_assoc, List.length_append] at ih
      rw [ih]
/-- A text of code points is read as they are. -/
theorem reads_enc (ps : List Int) (h : ∀ c ∈ ps, okc c ∧ c ≠ 10) (hs : (encs ps).length ≤ 65536) : reads ⟨(encs ps).toArray⟩ = (inline_Parse.run ps 0 0, ((encs ps).length : Int), 0) := by
  unfold reads
  have e : (⟨(encs ps).toArray⟩ : ByteArray).size = (encs ps).length := by simp [ByteArray.size]
  rw [e, if_neg (by omega)]
  have := scan_enc ps [] (encs ps).length h (Nat.le_refl _)
  rw [List.nil_append, List.length_nil] at this
  rw [this]
  unfold inline_Parse.res
  dsimp only
  rw [e]
/-! ### How a line is read -/
theorem run_cons (c : Int) (r : List Int) (set old : Int) : inline_Parse.run (c :: r) set old = (inline_take.step c (r.headD (-1)) set old).2.1 ++ inline_Parse.run (if (inline_take.step c (r.headD (-1)) set old).1 = true then r.tail else r) (inline_take.step c (r.headD (-1)) set old).2.2.1 (inline_take.step c (r.headD (-1)) set old).2.2.2 := by
  rw [inline_Parse.run]
theorem run_nil (set old : Int) : inline_Parse.run [] set old = [] := by rw [inline_Parse.run]
theorem run_out (r : List Int) (old : Int) : inline_Parse.run (96 :: r) 4 old = inline_Parse.run r old old := by
  rw [run_cons]
  rfl
theorem run_in (r : List Int) (set old : Int) (h : set ≠ 4) : inline_Parse.run (96 :: r) set old = inline_Parse.run r 4 set := by
  have e : ∀ n, inline_take.step 96 n set old = (false, [], 4, set) := fun n => by unfold inline_take.step; rw [if_neg (by decide), if_pos rfl, if_neg h]
  rw [run_cons, e]
  rfl
theorem run_star (r : List Int) (set old : Int) (h : set ≠ 4) : inline_Parse.run (42 :: 42 :: r) set old = inline_Parse.run r (inline_take.x set 1) old := by
  have e : inline_take.step 42 42 set old = (true, [], inline_take.x set 1, old) := by unfold inline_take.step; rw [if_neg (by decide), if_neg (by decide), if_neg h, if_pos ⟨rfl, rfl⟩]
  rw [run_cons, List.headD_cons, e]
  rfl
theorem run_us (r : List Int) (set old : Int) (h : set ≠ 4) : inline_Parse.run (95 :: r) set old = inline_Parse.run r (inline_take.x set 2) old := by
  have e : ∀ n, inline_take.step 95 n set old = (false, [], inline_take.x set 2, old) := fun n => by unfold inline_take.step; rw [if_neg (by decide), if_neg (by decide), if_neg h, if_neg (fun e => absurd e.1 (by decide)), if_pos rfl]
  rw [run_cons, e]
  rfl
theorem run_esc (c : Int) (r : List Int) (set old : Int) (h : 0 ≤ c) : inline_Parse.run (92 :: c :: r) set old = ⟨0, 0, c, set⟩ :: inline_Parse.run r set old := by
  have e : inline_take.step 92 c set old = (true, [⟨0, 0, c, set⟩], set, old) := by unfold inline_take.step; rw [if_pos rfl, if_pos h]
  rw [run_cons, List.headD_cons, e]
  rfl
theorem run_plain (c : Int) (r : List Int) (set old : Int) (h : ¬ (c = 92 ∨ c = 96 ∨ c = 42 ∨ c = 95)) : inline_Parse.run (c :: r) set old = ⟨0, 0, c, set⟩ :: inline_Parse.run r set old := by
  have e : ∀ n, inline_take.step c n set old = (false, [⟨0, 0, c, set⟩], set, old) := fun n => by
    unfold inline_take.step
    rw [if_neg (by omega), if_neg (by omega), if_neg (show ¬ (c = 42 ∧ n = 42) by omega), if_neg (show ¬ c = 95 by omega)]
    split <;> rfl
  rw [run_cons, e]
  rfl
/-! ### How it is written -/
def partC (f dst : Int) : List Int := (if Go.bits .and .i64 (Go.bits .xor .i64 f dst) 1 = 0 then [] else [42, 42]) ++ (if Go.bits .and .i64 (Go.bits .xor .i64 f dst) 2 = 0 then [] else [95])
def turnC (set old dst : Int) : List Int := if set = dst then [] else (if set = 4 then [96] else []) ++ (if dst = 4 then [96] else partC (inline_turn.base set old) dst)
def escC (c : Int) : List Int := if c = 92 ∨ c = 96 ∨ c = 42 ∨ c = 95 then [92] else []
def cps : List S36 → Int → Int → List Int
  | [], set, old => turnC set old 0
  | t :: ts, set, old => turnC set old t.f3 ++ (escC t.f2 ++ (t.f2 :: cps ts t.f3 (inline_turn.old set old t.f3)))
theorem encs_append (a b : List Int) : encs (a ++ b) = encs a ++ encs b := by unfold encs; rw [List.flatMap_append]
theorem encs_part (f dst : Int) : encs (partC f dst) = inline_turn.part f dst := by
  unfold partC inline_turn.part
  repeat' split
  all_goals rfl
theorem encs_turn (set old dst : Int) : encs (turnC set old dst) = inline_turn.out set old dst := by
  unfold turnC inline_turn.out
  by_cases h : set = dst
  · rw [if_pos h, if_pos h]; rfl
  · rw [if_neg h, if_neg h, encs_append]
    congr 1
    · split <;> rfl
    · split
      · rfl
      · exact encs_part _ _
theorem encs_esc (c : Int) : encs (escC c) = inline_Line.esc c := by
  unfold escC inline_Line.esc
  split <;> rfl
theorem encs_cps : ∀ (l : List S36) (set old : Int), encs (cps l set old) = inline_Line.go l set old
  | [], set, old => encs_turn set old 0
  | t :: ts, set, old => by
    have e : ∀ x, encs (t.f2 :: x) = Lib.encodeRune t.f2 ++ encs x := fun _ => rfl
    simp only [cps, inline_Line.go]
    rw [encs_append, encs_append, encs_turn, encs_esc, e, encs_cps ts]
theorem turnC_mem (set old dst : Int) : ∀ c ∈ turnC set old dst, okc c ∧ c ≠ 10 := by
  unfold turnC partC
  intro c hc
  have : c = 96 ∨ c = 42 ∨ c = 95 := by
    split at hc
    · cases hc
    · rcases List.mem_append.1 hc with h | h
      · split at h
        · left; simpa using h
        · cases h
      · split at h
        · left; simpa using h
        · rcases List.mem_append.1 h with h | h
          · split at h
            · cases h
            · right; left; simpa using h
          · split at h
            · cases h
            · right; right; simpa using h
  unfold okc
  omega
theorem cps_mem : ∀ (l : List S36) (set old : Int), (∀ t ∈ l, okc t.f2 ∧ t.f2 ≠ 10) → ∀ c ∈ cps l set old, okc c ∧ c ≠ 10
  | [], set, old, _ => turnC_mem set old 0
  | t :: ts, set, old, h => by
    intro c hc
    simp only [cps] at hc
    rcases List.mem_append.1 hc with hc | hc
    · exact turnC_mem _ _ _ c hc
    rcases List.mem_append.1 hc with hc | hc
    · unfold escC at hc
      split at hc
      · have : c = 92 := by simpa using hc
        unfold okc
        omega
      · cases hc
    rcases List.mem_cons.1 hc with rfl | hc
    · exact h t (List.mem_cons_self ..)
    · exact cps_mem ts _ _ (fun x hx => h x (List.mem_cons_of_mem _ hx)) c hc
/-! ### There and back -/
theorem part_run (r : List Int) (f dst old : Int) (h0 : 0 ≤ f ∧ f ≤ 3) (h1 : 0 ≤ dst ∧ dst ≤ 3) : inline_Parse.run (partC f dst ++ r) f old = inline_Parse.run r dst old := by
  have two : ∀ x : Int, 0 ≤ x ∧ x ≤ 3 → x = 0 ∨ x = 1 ∨ x = 2 ∨ x = 3 := fun x h => by omega
  have n4 : f ≠ 4 := by omega
  have key : ∀ (a b : Bool), inline_Parse.run (((if a = true then [] else [42, 42]) ++ (if b = true then [] else [95])) ++ r) f old = inline_Parse.run r (if b = true then (if a = true then f else inline_take.x f 1) else inline_take.x (if a = true then f else inline_take.x f 1) 2) old := by
    intro a b
    have m4 : inline_take.x f 1 ≠ 4 := by rcases two f h0 with rfl | rfl | rfl | rfl <;> decide +kernel
    cases a <;> cases b <;> simp only [if_true, Bool.false_eq_true, if_false, List.nil_append, List.append_nil, List.cons_append]
    · rw [run_star _ _ _ n4, run_us _ _ _ m4]
    · rw [run_star _ _ _ n4]
    · rw [run_us _ _ _ n4]
  have e : partC f dst = (if decide (Go.bits .and .i64 (Go.bits .xor .i64 f dst) 1 = 0) = true then [] else [42, 42]) ++ (if decide (Go.bits .and .i64 (Go.bits .xor .i64 f dst) 2 = 0) = true then [] else [95]) := by
    unfold partC
    simp only [decide_eq_true_eq]
  rw [e, key]
  congr 1
  rcases two f h0 with rfl | rfl | rfl | rfl <;> rcases two dst h1 with rfl | rfl | rfl | rfl <;> decide +kernel
theorem turn_run (r : List Int) (set old dst : Int) (h0 : 0 ≤ set ∧ set ≤ 4) (h1 : 0 ≤ dst ∧ dst ≤ 4) (h2 : 0 ≤ old ∧ old ≤ 3) : inline_Parse.run (turnC set old dst ++ r) set old = inline_Parse.run r dst (inline_turn.old set old dst) := by
  unfold turnC inline_turn.old inline_turn.base
  by_cases a : set = dst
  · rw [if_pos a, if_pos a, a]; rfl
  · rw [if_neg a, if_neg a]
    by_cases b : set = 4
    · subst b
      rw [if_pos rfl, if_pos rfl, if_neg (show ¬ dst = 4 by omega), if_neg (show ¬ dst = 4 by omega)]
      show inline_Parse.run (96 :: (partC old dst ++ r)) 4 old = _
      rw [run_out, part_run _ _ _ _ h2 (by omega)]
    · rw [if_neg b, if_neg b]
      by_cases c : dst = 4
      · subst c
        rw [if_pos rfl, if_pos rfl]
        exact run_in r set old b
      · rw [if_neg c, if_neg c, List.nil_append, part_run _ _ _ _ (by omega) (by omega)]
theorem old_le (set old dst : Int) (h0 : 0 ≤ set ∧ set ≤ 4) (h2 : 0 ≤ old ∧ old ≤ 3) : 0 ≤ inline_turn.old set old dst ∧ inline_turn.old set old dst ≤ 3 := by
  unfold inline_turn.old inline_turn.base
  repeat' split
  all_goals omega
theorem back_run : ∀ (l : List S36) (set old : Int), 0 ≤ set ∧ set ≤ 4 → 0 ≤ old ∧ old ≤ 3 → (∀ t ∈ l, t.f0 = 0 ∧ t.f1 = 0 ∧ 0 ≤ t.f2 ∧ 0 ≤ t.f3 ∧ t.f3 ≤ 4) → inline_Parse.run (cps l set old) set old = l
  | [], set, old, h0, h1, _ => by
    have := turn_run [] set old 0 h0 (by decide) h1
    rw [List.append_nil, run_nil] at this
    exact this
  | t :: ts, set, old, h0, h1, h => by
    obtain ⟨a, b, c, d, e⟩ := h t (List.mem_cons_self ..)
    have ih := back_run ts t.f3 (inline_turn.old set old t.f3) ⟨d, e⟩ (old_le set old t.f3 h0 h1) (fun x hx => h x (List.mem_cons_of_mem _ hx))
    have ht : (⟨0, 0, t.f2, t.f3⟩ : S36) = t := by
      cases t
      simp only at a b
      subst a b
      rfl
    simp only [cps]
    rw [turn_run _ _ _ _ h0 ⟨d, e⟩ h1]
    unfold escC
    by_cases g : t.f2 = 92 ∨ t.f2 = 96 ∨ t.f2 = 42 ∨ t.f2 = 95
    · rw [if_pos g]
      show inline_Parse.run (92 :: t.f2 :: _) _ _ = _
      rw [run_esc _ _ _ _ c, ih, ht]
    · rw [if_neg g, List.nil_append, run_plain _ _ _ _ g, ih, ht]
theorem right_all (b c d : Int) (h : right 0 b c d = true) : b = 0 ∧ okc c ∧ 0 ≤ d ∧ d ≤ 4 := by
  have h' : flat_Right.f 0 b c d = some true := by rw [flat_right, h]
  have hb := right_rune 0 b c d h rfl
  unfold flat_Right.f at h'
  rw [if_pos rfl] at h'
  by_cases h1 : b = 0
  · refine ⟨h1, hb, ?_⟩
    rw [if_pos h1, if_pos (show c ≥ 0 from hb.1), if_pos hb.2.1, if_neg (by have := hb.2.2; omega)] at h'
    unfold mark_Right.f at h'
    by_cases h4 : d ≥ 0
    · rw [if_pos h4, Option.bind_some] at h'
      have := of_decide_eq_true (Option.some.inj h')
      exact ⟨h4, this⟩
    · rw [if_neg h4] at h'
      cases h'
  · rw [if_neg h1] at h'
    cases h'
theorem good_all {t : S36} (h : good t = true) : t.f0 = 0 ∧ t.f1 = 0 ∧ okc t.f2 ∧ t.f2 ≠ 10 ∧ 0 ≤ t.f3 ∧ t.f3 ≤ 4 := by
  unfold good at h
  simp only [Bool.and_eq_true, beq_iff_eq, bne_iff_ne, ne_eq] at h
  obtain ⟨a, b, c⟩ := h
  rw [a] at b
  have := right_all _ _ _ b
  exact ⟨a, this.1, this.2.1, c, this.2.2⟩
/-- What is written is read as it is. -/
theorem reads_line (l : List S36) (h : ∀ t ∈ l, good t = true) (hs : (lineOf l).size ≤ 65536) : reads (lineOf l) = (l, ((lineOf l).size : Int), 0) := by
  have e : lineOf l = ⟨(encs (cps l 0 0)).toArray⟩ := by unfold lineOf; rw [encs_cps]
  have e2 : (lineOf l).size = (encs (cps l 0 0)).length := by rw [e]; simp [ByteArray.size]
  rw [e2] at hs
  rw [e2, e, reads_enc _ (cps_mem l 0 0 (fun t ht => ⟨(good_all (h t ht)).2.2.1, (good_all (h t ht)).2.2.2.1⟩)) hs, back_run l 0 0 (by decide) (by decide) (fun t ht => by
    obtain ⟨a, b, c, _, d, e⟩ := good_all (h t ht)
    exact ⟨a, b, c.1, d, e⟩)]
end Go.Proofs.YtebbngeamnpgjaaDoor.InlD
