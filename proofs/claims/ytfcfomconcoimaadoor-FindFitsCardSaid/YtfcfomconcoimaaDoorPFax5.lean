-- Written for this claim by a program (the kit's print, with hand-made contracts for what it does not take).
import Derived.Test.YtfcfomconcoimaaDoorPFax0
namespace Go.Proofs.YtfcfomconcoimaaDoor.PFa
open Go.RowKit Go.Proofs.YtfcfomconcoimaaDoorW.PrintWords Go.Proofs.YtfcfomconcoimaaDoorW.PrintLast Go.Proofs.YtfcfomconcoimaaDoorW.PrintMore
attribute [local go_sem] max2_int min2_int max_two min_two max_three min_three max_four min_four   -- for this text's walks alone
set_option linter.unusedVariables false
set_option linter.unusedSimpArgs false

/-! ### find_points: function 17 -/

theorem u8_below {g3 g4 : Nat} {w W : World} (h : Lib.Utf8Tabs g3 g4 w) (hb : Below w.heap.size w W) : Lib.Utf8Tabs g3 g4 W :=
  ⟨fun c hc => (hb.cell (World.block_lt_of_cell? w _ (h.1 c hc))).trans (h.1 c hc), fun i hi => ⟨(hb.cell (World.block_lt_of_cell? w _ (h.2 i hi).1)).trans (h.2 i hi).1, (hb.cell (World.block_lt_of_cell? w _ (h.2 i hi).2)).trans (h.2 i hi).2⟩⟩
theorem iter_R {α : Type} {d : Kd α} {e : Nat} {W : World} {base : Nat} {ok : Nat → Prop} {v : Value} {xs : List α} (h : d.R e W base ok v xs) {k : Nat} {s : ByteArray} {pos : Nat} (hk : W.heap[k]? = some (.stringIter s pos)) (pos' : Nat) : d.R e (W.iterAt k s pos') base ok v xs := by
  refine Kd.R_mono (Kd.R_grown (Kd.R_bound h) (row := some k) ⟨rfl, rfl, rfl, by rw [Lib.iterAt_size]; exact Nat.le_refl _, fun i _ hne => Lib.iterAt_other W k i s pos' (fun e => hne (by rw [e]))⟩ ?_) (fun _ h => h.1)
  rintro j ⟨_, _, _, q, _, cells, hc⟩ e
  injection e with e
  subst e
  rw [hk] at hc
  cases hc
/-- A string's code point at a place. -/
def rune (s : ByteArray) (i : Nat) : Int := ((Utf8.decode s i).1 : Int)
def width (s : ByteArray) (i : Nat) : Nat := (Utf8.decode s i).2
theorem width_pos (s : ByteArray) (i : Nat) (h : i < s.size) : 1 ≤ width s i ∧ i + width s i ≤ s.size := by
  unfold width
  rw [Lib.decode_at]
  unfold Lib.decodeN
  repeat' split
  all_goals (dsimp only; omega)
theorem rune_le (s : ByteArray) (i : Nat) : 0 ≤ rune s i ∧ rune s i ≤ 1114111 := by
  unfold rune
  rw [Lib.decode_at]
  have h0 := (s.get! i).toNat_lt
  unfold Lib.decodeN
  repeat' split
  all_goals (dsimp only; omega)
/-! ### A text's code points -/
def find_points.scan (s : ByteArray) : Nat → Nat → List Int
  | 0, _ => []
  | f + 1, i => if i < s.size then rune s i :: find_points.scan s f (i + width s i) else []
def find_points.f (s : ByteArray) : Option (List Int × Int) := if s.size > 1000 then some ([], 2) else if Lib.validD s.data.toList = true then some (find_points.scan s s.size 0, 0) else some ([], 4)
theorem find_points.scan_len (s : ByteArray) : ∀ (f i : Nat), (find_points.scan s f i).length ≤ s.size - i
  | 0, i => Nat.zero_le _
  | f + 1, i => by
    rw [find_points.scan]
    by_cases h : i < s.size
    · rw [if_pos h]
      have := find_points.scan_len s f (i + width s i)
      have := width_pos s i h
      simp only [List.length_cons]
      omega
    · rw [if_neg h]
      exact Nat.zero_le _
theorem find_points.len {s : ByteArray} {p : List Int} {e : Int} (h : find_points.f s = some (p, e)) : p.length ≤ 1000 := by
  unfold find_points.f at h
  split at h
  · obtain ⟨rfl, rfl⟩ := Prod.mk.inj (Option.some.inj h)
    exact Nat.zero_le _
  · split at h
    · obtain ⟨rfl, rfl⟩ := Prod.mk.inj (Option.some.inj h)
      have := find_points.scan_len s s.size 0
      omega
    · obtain ⟨rfl, rfl⟩ := Prod.mk.inj (Option.some.inj h)
      exact Nat.zero_le _
structure find_points.P1 (s : ByteArray) (w : World) (W0 : World) (v : Value) (pos fuel : Nat) (acc : List Int) (full : List Int) (wr : World) : Prop where
  it : wr.heap[W0.heap.size]? = some (.stringIter s pos)
  row : Kd.R (Kd.int .i64) 3 wr w.heap.size (fun _ => True) v acc
  below : Below w.heap.size w wr
  rest : full = acc ++ find_points.scan s fuel pos
  fuel : s.size ≤ pos + fuel
  le : pos ≤ s.size
  len : acc.length ≤ pos
set_option maxHeartbeats 16000000 in
set_option maxRecDepth 100000 in
theorem find_points.calls (a0 : ByteArray) (r1 : List Int) (r2 : Int) (w : World) (h : find_points.f a0 = some (r1, r2)) (hT_ : Lib.Utf8Tabs 0 1 w := by first | exact u8_below HU8_.out (by repeat (first | (with_reducible first | exact HB.out | apply below_alloc | apply pw_below_drewN | apply below_drew1) | exact HB.out)) | exact u8_below HT_.out (by repeat (first | (with_reducible first | exact HB.out | apply below_alloc | apply pw_below_drewN | apply below_drew1) | exact HB.out))) :
    Calls Tryd.prog 17 #[.string a0] w fun e w' => ∃ v0_ : Value, e = .returned (.tuple #[v0_, .int .i64 r2]) ∧ Kd.R (Kd.int .i64) 3 w' w.heap.size (fun _ => True) v0_ r1 ∧ Below w.heap.size w w' := by
  have HT := Aside0.mk hT_
  clear hT_
  unfold find_points.f at h
  by_cases hl : a0.size > 1000
  · rw [if_pos hl] at h
    obtain ⟨rfl, rfl⟩ := Prod.mk.inj (Option.some.inj h)
    have b1 : decide ((1000 : Int) < (a0.size : Int)) = true := decide_eq_true (by omega)
    have b2 : decide (1000 < a0.size) = true := decide_eq_true hl
    clear hl h
    go_enter Tryd.func17, Tryd.ntmps17
    go_wp2
    go_ret2
    exact ⟨_, rfl, Kd.R_nil _ _ _ _ _, Below.refl _ _⟩
  rw [if_neg hl] at h
  have HL := Aside0.mk (show a0.size ≤ 1000 by omega)
  have b1 : decide ((1000 : Int) < (a0.size : Int)) = false := decide_eq_false (by omega)
  have b2 : decide (1000 < a0.size) = false := decide_eq_false hl
  have cV : Calls Tryd.prog 30 #[.string a0] w _ := Any.utf8_ValidString Tryd.laysValid a0 w (by have := HL.out; omega) HT.out
  have CV := Aside0.mk cV
  clear cV hl HT
  generalize Lib.validD a0.data.toList = V at *
  cases V with
  | false =>
    rw [if_neg (by decide)] at h
    obtain ⟨rfl, rfl⟩ := Prod.mk.inj (Option.some.inj h)
    clear h
    go_enter Tryd.func17, Tryd.ntmps17
    go_wp2_with (go_at_call 30; refine CV.out.mono ?_; rintro e w1 ⟨rfl, hb⟩; have HB := Aside0.mk hb; clear hb)
    go_ret2
    exact ⟨_, rfl, Kd.R_nil _ _ _ _ _, HB.out⟩
  | true =>
    rw [if_pos rfl] at h
    obtain ⟨hfull, rfl⟩ := Prod.mk.inj (Option.some.inj h)
    obtain ⟨full, hf⟩ : ∃ x, x = find_points.scan a0 a0.size 0 := ⟨_, rfl⟩
    rw [← hf] at hfull
    subst hfull
    have HF := Aside0.mk hf
    clear h hf
    go_enter Tryd.func17, Tryd.ntmps17
    go_wp2_with (go_at_call 30; refine CV.out.mono ?_; rintro e w1 ⟨rfl, hb⟩; have HB := Aside0.mk hb; clear hb)
    go_loopw [4, 6] (fun v4 v6 wr => ∃ (pos fuel : Nat) (acc : List Int), Aside0 (find_points.P1 a0 w w1 v4 pos fuel acc full wr)) (fun _ _ wr => a0.size - wr.iterPos w1.heap.size)
    case atStart =>
      refine ⟨0, a0.size, [], ⟨⟨World.iter_heap w1 a0 0, Kd.R_nil _ _ _ _ _, HB.out.alloc HB.out.size _, ?_, by omega, Nat.zero_le _, Nat.zero_le _⟩⟩⟩
      rw [List.nil_append]
      exact HF.out
    case round =>
      clear HF b1 b2
      obtain ⟨pos, fuel, acc, HP⟩ := hrel
      by_cases hp : pos < a0.size
      · have hnx : ∀ ty, (Instr.next (.pointer (some ⟨w1.heap.size, 0, none⟩)) true ty).run Tryd.prog wr = .ok (.tuple #[.bool true, .int .i64 pos, .int .i32 (rune a0 pos)]) (wr.iterAt w1.heap.size a0 (pos + width a0 pos)) := fun ty => Lib.run_next_any_at wr w1.heap.size a0 pos ty HP.out.it hp
        obtain ⟨wp1, wp2⟩ := width_pos a0 pos hp
        have it2 := Lib.iterAt_heap wr w1.heap.size a0 pos (pos + width a0 pos) HP.out.it
        have bl2 := Lib.below_iterAt HP.out.below (k := w1.heap.size) HB.out.size a0 (pos + width a0 pos)
        have rw2 := iter_R HP.out.row HP.out.it (pos + width a0 pos)
        obtain ⟨f, rfl⟩ : ∃ f, fuel = f + 1 := ⟨fuel - 1, by have := HP.out.fuel; omega⟩
        have rest := HP.out.rest
        simp only [find_points.scan] at rest
        rw [if_pos hp] at rest
        have itp : wr.iterPos w1.heap.size = pos := by simp only [World.iterPos, HP.out.it]
        have fu := HP.out.fuel
        have le := HP.out.len
        obtain ⟨n, hn⟩ : ∃ n, n = width a0 pos := ⟨_, rfl⟩
        obtain ⟨c, hc⟩ : ∃ c, c = rune a0 pos := ⟨_, rfl⟩
        have rle := rune_le a0 pos
        rw [← hn, ← hc] at hnx rest
        rw [← hc] at rle
        rw [← hn] at it2 bl2 rw2 wp1 wp2
        clear hn hc HP
        generalize wr.iterAt w1.heap.size a0 (pos + n) = W2 at *
        have I3 := Aside0.mk it2
        have B3 := Aside0.mk bl2
        have R3 := Aside0.mk rw2
        have REST := Aside0.mk rest
        have WP := Aside0.mk (And.intro wp1 wp2)
        have ITP := Aside0.mk itp
        have FU := Aside0.mk fu
        have LE := Aside0.mk le
        have WC := Aside0.mk (show wrap64 c = c from by unfold wrap64; omega)
        clear it2 bl2 rw2 rest wp1 wp2 itp fu le rle
        go_wp2_with (first | (at_builtin; refine Kd.R_append (Kd.int .i64) (w0 := w) w.heap.size rfl (.tmp 20) (.tmp 23) 50 3 (.int .i64 0) 8 rfl Tryd.underlying50 info3 rfl (by decide) (by decide) u4 acc (wrap64 c) [.int .i64 (wrap64 c)] (fun _ => True) (fun _ => False) rfl rfl rfl (fun _ h => h.elim) (fun _ _ => trivial) R3.out B3.out B3.out.size (by have := LE.out; have := HL.out; have := WP.out; omega) ?_; intro v1 w8 ho hb hg hat; rw [WC.out] at ho; have n0_ := Aside0.mk (show find_points.P1 a0 w w1 v1 (pos + n) f (acc ++ [c]) full w8 from ⟨(hg.block _ (Array.getElem?_eq_some_iff.1 I3.out).1 (fun e_ => by obtain ⟨_, hc_⟩ := Kd.R_typed R3.out _ e_.symm; rw [I3.out] at hc_; cases hc_)).trans I3.out, ho, hb, by rw [REST.out]; simp only [List.append_assoc, List.cons_append, List.nil_append], by have := FU.out; have := WP.out; omega, WP.out.2, by rw [List.length_append, List.length_singleton]; have := LE.out; have := WP.out; omega⟩); clear ho hb hg hat R3 B3 I3))
        go_roundw
        case rel => exact ⟨_, _, _, n0_⟩
        case measure => simp only [World.iterPos, n0_.out.it]; have := ITP.out; simp only [World.iterPos] at this; rw [this]; have := WP.out; omega
      · have hnx : ∀ ty, (Instr.next (.pointer (some ⟨w1.heap.size, 0, none⟩)) true ty).run Tryd.prog wr = .ok (.tuple #[.bool false]) wr := fun ty => Lib.run_next_end_at wr w1.heap.size a0 pos ty HP.out.it hp
        have hfull : full = acc := by
          rw [HP.out.rest]
          cases fuel with
          | zero => simp [find_points.scan]
          | succ f => simp [find_points.scan, hp]
        have HX := Aside0.mk hfull
        have HB2 := Aside0.mk HP.out.below
        have HR := Aside0.mk HP.out.row
        clear hp hfull HP
        go_wp2
        go_ret2
        exact ⟨_, rfl, by rw [HX.out]; exact HR.out, HB2.out⟩

/-! ### find_looked: function 18 -/
/-! ### How a text is looked for -/
def find_looked.key (fold : Bool) : Value := if fold = true then .func (.func 33) #[] #[] else .func (.func 31) #[] #[]
def find_looked.edge (whole : Bool) : Value := if whole = true then .func (.func 34) #[] #[] else .func (.func 32) #[] #[]
theorem find_looked.run_store_func {P : Program} {w : World} (a : Addr) (m : Mode) (f : Fn) (xs ys : Array Value) : (store a (.func f xs ys) m).run P w = stored P w a (.func f xs ys) m := run_store P w a _ m rfl
attribute [local go_sem] find_looked.run_store_func
theorem find_looked.res {tmps : Array Value} {W : World} {g : Nat} {v0 v1 v2 : Value} (p6 : tmps.getD 6 undef = .pointer (some ⟨g, 0, none⟩)) (h3 : W.heap[g]? = some (.cells #[v0, v1, v2] 56 (0, 0))) :
    (results Tryd.f18 tmps).run Tryd.prog W = .ok (.agg #[v0, v1, v2]) W := by
  have h1 : tmps[6]?.getD undef = .pointer (some ⟨g, 0, none⟩) := by simpa using p6
  have hc0 : W.cell? ⟨g, 0, none⟩ = some v0 := (blk_cell h3 0).trans rfl
  have hc1 : W.cell? ⟨g, 1, none⟩ = some v1 := (blk_cell h3 1).trans rfl
  have hc2 : W.cell? ⟨g, 2, none⟩ = some v2 := (blk_cell h3 2).trans rfl
  have hr : Tryd.f18.results = #[.cell 6 56] := rfl
  simp [results, hr, h1, asAddr, go_sem, hc0, hc1, hc2]
set_option maxHeartbeats 8000000 in
set_option maxRecDepth 100000 in
theorem find_looked.calls (A : Option Addr) (n c : Nat) (fold whole : Bool) (w : World) :
    Calls Tryd.prog 18 #[.slice A n c, .bool fold, .bool whole] w fun e w' => e = .returned (.agg #[.slice A n c, find_looked.key fold, find_looked.edge whole]) ∧ Below w.heap.size w w' := by
  have hu56 := Tryd.underlying56
  go_enter Tryd.func18, Tryd.ntmps18
  go_upto_region 1 with (fail)
  have z6 := blk_new w (.cells #[.slice none 0 0, .nilFunc, .nilFunc] 56)
  have b6 := below_alloc (Below.refl w.heap.size w) (.cells #[.slice none 0 0, .nilFunc, .nilFunc] 56)
  generalize w.alloc (.cells #[.slice none 0 0, .nilFunc, .nilFunc] 56) = W1 at *
  obtain ⟨g6, hg6⟩ : ∃ g, g = w.heap.size := ⟨_, rfl⟩
  rw [← hg6] at z6 ⊢
  have Q6 := Aside0.mk z6
  have P6 := Aside0.mk b6
  have L7 := Aside0.mk hg6
  clear z6 b6 hg6
  cases fold with
  | false =>
    cases whole with
    | false =>
      go_upto_region 2 with (fail)
      have Z6 := Aside0.mk (blk_alloc Q6.out (.cells #[.slice A n c, .func (.func 31) #[] #[], .func (.func 32) #[] #[]] 56))
      have B6 := Aside0.mk (below_alloc P6.out (.cells #[.slice A n c, .func (.func 31) #[] #[], .func (.func 32) #[] #[]] 56))
      have Z7 := Aside0.mk (blk_new W1 (.cells #[.slice A n c, .func (.func 31) #[] #[], .func (.func 32) #[] #[]] 56))
      have NE := Aside0.mk (show g6 ≠ W1.heap.size from fun e => by have := blk_lt Q6.out; omega)
      have G7 := Aside0.mk (show w.heap.size ≤ W1.heap.size from P6.out.size)
      generalize W1.alloc (.cells #[.slice A n c, .func (.func 31) #[] #[], .func (.func 32) #[] #[]] 56) = W2 at *
      generalize W1.heap.size = g7 at *
      go_upto_region 4 with (fail)
      have ZA := Z7
      have ZB := Z6
      have ZC := B6
      go_upto_region 6 with (fail)
      have YA := ZA
      have YB := ZB
      have YC := ZC
      have d0 : W2.cell? ⟨g7, 0, none⟩ = some (.slice A n c) := (blk_cell YA.out 0).trans rfl
      have d1 : W2.cell? ⟨g7, 1, none⟩ = some (.func (.func 31) #[] #[]) := (blk_cell YA.out 1).trans rfl
      have d2 : W2.cell? ⟨g7, 2, none⟩ = some (.func (.func 32) #[] #[]) := (blk_cell YA.out 2).trans rfl
      have e0 : W2.cell? ⟨g6, 0, none⟩ = some (.slice none 0 0) := (blk_cell YB.out 0).trans rfl
      have e1 : W2.cell? ⟨g6, 1, none⟩ = some (.nilFunc) := (blk_cell YB.out 1).trans rfl
      have e2 : W2.cell? ⟨g6, 2, none⟩ = some (.nilFunc) := (blk_cell YB.out 2).trans rfl
      have h0 := blk_frozen YB.out 0
      have h1 := blk_frozen YB.out 1
      have h2 := blk_frozen YB.out 2
      go_wp2
      have X := blk_put (blk_put (blk_put YB.out 0 (.slice A n c) rfl) 1 (.func (.func 31) #[] #[]) rfl) 2 (.func (.func 32) #[] #[]) rfl
      refine bodyPost_ret (find_looked.res rfl X) rfl ?_
      have lg : w.heap.size ≤ g6 := Nat.le_of_eq L7.out.symm
      exact ⟨rfl, below_set (below_set (below_set YC.out lg) lg) lg⟩
    | true =>
      go_upto_region 2 with (fail)
      have Z6 := Aside0.mk (blk_alloc Q6.out (.cells #[.slice A n c, .func (.func 31) #[] #[], .func (.func 32) #[] #[]] 56))
      have B6 := Aside0.mk (below_alloc P6.out (.cells #[.slice A n c, .func (.func 31) #[] #[], .func (.func 32) #[] #[]] 56))
      have Z7 := Aside0.mk (blk_new W1 (.cells #[.slice A n c, .func (.func 31) #[] #[], .func (.func 32) #[] #[]] 56))
      have NE := Aside0.mk (show g6 ≠ W1.heap.size from fun e => by have := blk_lt Q6.out; omega)
      have G7 := Aside0.mk (show w.heap.size ≤ W1.heap.size from P6.out.size)
      generalize W1.alloc (.cells #[.slice A n c, .func (.func 31) #[] #[], .func (.func 32) #[] #[]] 56) = W2 at *
      generalize W1.heap.size = g7 at *
      go_upto_region 4 with (fail)
      have ZA := Z7
      have ZB := Z6
      have ZC := B6
      have c2 : W2.cell? ⟨g7, 2, none⟩ = some (.func (.func 32) #[] #[]) := (blk_cell ZA.out 2).trans rfl
      have f2 := blk_frozen ZA.out 2
      go_upto_region 6 with (fail)
      have YA := Aside0.mk (blk_put ZA.out 2 (.func (.func 34) #[] #[]) rfl)
      have YB := Aside0.mk (blk_far (p := ⟨g7, 2, none⟩) ZB.out NE.out (.func (.func 34) #[] #[]))
      have YC := Aside0.mk (below_set (j := 2) ZC.out G7.out (v := .func (.func 34) #[] #[]))
      clear c2 f2
      generalize W2.setCell ⟨g7, 2, none⟩ (.func (.func 34) #[] #[]) = W4 at *
      have d0 : W4.cell? ⟨g7, 0, none⟩ = some (.slice A n c) := (blk_cell YA.out 0).trans rfl
      have d1 : W4.cell? ⟨g7, 1, none⟩ = some (.func (.func 31) #[] #[]) := (blk_cell YA.out 1).trans rfl
      have d2 : W4.cell? ⟨g7, 2, none⟩ = some (.func (.func 34) #[] #[]) := (blk_cell YA.out 2).trans rfl
      have e0 : W4.cell? ⟨g6, 0, none⟩ = some (.slice none 0 0) := (blk_cell YB.out 0).trans rfl
      have e1 : W4.cell? ⟨g6, 1, none⟩ = some (.nilFunc) := (blk_cell YB.out 1).trans rfl
      have e2 : W4.cell? ⟨g6, 2, none⟩ = some (.nilFunc) := (blk_cell YB.out 2).trans rfl
      have h0 := blk_frozen YB.out 0
      have h1 := blk_frozen YB.out 1
      have h2 := blk_frozen YB.out 2
      go_wp2
      have X := blk_put (blk_put (blk_put YB.out 0 (.slice A n c) rfl) 1 (.func (.func 31) #[] #[]) rfl) 2 (.func (.func 34) #[] #[]) rfl
      refine bodyPost_ret (find_looked.res rfl X) rfl ?_
      have lg : w.heap.size ≤ g6 := Nat.le_of_eq L7.out.symm
      exact ⟨rfl, below_set (below_set (below_set YC.out lg) lg) lg⟩
  | true =>
    cases whole with
    | false =>
      go_upto_region 2 with (fail)
      have Z6 := Aside0.mk (blk_alloc Q6.out (.cells #[.slice A n c, .func (.func 31) #[] #[], .func (.func 32) #[] #[]] 56))
      have B6 := Aside0.mk (below_alloc P6.out (.cells #[.slice A n c, .func (.func 31) #[] #[], .func (.func 32) #[] #[]] 56))
      have Z7 := Aside0.mk (blk_new W1 (.cells #[.slice A n c, .func (.func 31) #[] #[], .func (.func 32) #[] #[]] 56))
      have NE := Aside0.mk (show g6 ≠ W1.heap.size from fun e => by have := blk_lt Q6.out; omega)
      have G7 := Aside0.mk (show w.heap.size ≤ W1.heap.size from P6.out.size)
      generalize W1.alloc (.cells #[.slice A n c, .func (.func 31) #[] #[], .func (.func 32) #[] #[]] 56) = W2 at *
      generalize W1.heap.size = g7 at *
      have c1 : W2.cell? ⟨g7, 1, none⟩ = some (.func (.func 31) #[] #[]) := (blk_cell Z7.out 1).trans rfl
      have f1 := blk_frozen Z7.out 1
      go_upto_region 4 with (fail)
      have ZA := Aside0.mk (blk_put Z7.out 1 (.func (.func 33) #[] #[]) rfl)
      have ZB := Aside0.mk (blk_far (p := ⟨g7, 1, none⟩) Z6.out NE.out (.func (.func 33) #[] #[]))
      have ZC := Aside0.mk (below_set (j := 1) B6.out G7.out (v := .func (.func 33) #[] #[]))
      clear c1 f1
      generalize W2.setCell ⟨g7, 1, none⟩ (.func (.func 33) #[] #[]) = W3 at *
      go_upto_region 6 with (fail)
      have YA := ZA
      have YB := ZB
      have YC := ZC
      have d0 : W3.cell? ⟨g7, 0, none⟩ = some (.slice A n c) := (blk_cell YA.out 0).trans rfl
      have d1 : W3.cell? ⟨g7, 1, none⟩ = some (.func (.func 33) #[] #[]) := (blk_cell YA.out 1).trans rfl
      have d2 : W3.cell? ⟨g7, 2, none⟩ = some (.func (.func 32) #[] #[]) := (blk_cell YA.out 2).trans rfl
      have e0 : W3.cell? ⟨g6, 0, none⟩ = some (.slice none 0 0) := (blk_cell YB.out 0).trans rfl
      have e1 : W3.cell? ⟨g6, 1, none⟩ = some (.nilFunc) := (blk_cell YB.out 1).trans rfl
      have e2 : W3.cell? ⟨g6, 2, none⟩ = some (.nilFunc) := (blk_cell YB.out 2).trans rfl
      have h0 := blk_frozen YB.out 0
      have h1 := blk_frozen YB.out 1
      have h2 := blk_frozen YB.out 2
      go_wp2
      have X := blk_put (blk_put (blk_put YB.out 0 (.slice A n c) rfl) 1 (.func (.func 33) #[] #[]) rfl) 2 (.func (.func 32) #[] #[]) rfl
      refine bodyPost_ret (find_looked.res rfl X) rfl ?_
      have lg : w.heap.size ≤ g6 := Nat.le_of_eq L7.out.symm
      exact ⟨rfl, below_set (below_set (below_set YC.out lg) lg) lg⟩
    | true =>
      go_upto_region 2 with (fail)
      have Z6 := Aside0.mk (blk_alloc Q6.out (.cells #[.slice A n c, .func (.func 31) #[] #[], .func (.func 32) #[] #[]] 56))
      have B6 := Aside0.mk (below_alloc P6.out (.cells #[.slice A n c, .func (.func 31) #[] #[], .func (.func 32) #[] #[]] 56))
      have Z7 := Aside0.mk (blk_new W1 (.cells #[.slice A n c, .func (.func 31) #[] #[], .func (.func 32) #[] #[]] 56))
      have NE := Aside0.mk (show g6 ≠ W1.heap.size from fun e => by have := blk_lt Q6.out; omega)
      have G7 := Aside0.mk (show w.heap.size ≤ W1.heap.size from P6.out.size)
      generalize W1.alloc (.cells #[.slice A n c, .func (.func 31) #[] #[], .func (.func 32) #[] #[]] 56) = W2 at *
      generalize W1.heap.size = g7 at *
      have c1 : W2.cell? ⟨g7, 1, none⟩ = some (.func (.func 31) #[] #[]) := (blk_cell Z7.out 1).trans rfl
      have f1 := blk_frozen Z7.out 1
      go_upto_region 4 with (fail)
      have ZA := Aside0.mk (blk_put Z7.out 1 (.func (.func 33) #[] #[]) rfl)
      have ZB := Aside0.mk (blk_far (p := ⟨g7, 1, none⟩) Z6.out NE.out (.func (.func 33) #[] #[]))
      have ZC := Aside0.mk (below_set (j := 1) B6.out G7.out (v := .func (.func 33) #[] #[]))
      clear c1 f1
      generalize W2.setCell ⟨g7, 1, none⟩ (.func (.func 33) #[] #[]) = W3 at *
      have c2 : W3.cell? ⟨g7, 2, none⟩ = some (.func (.func 32) #[] #[]) := (blk_cell ZA.out 2).trans rfl
      have f2 := blk_frozen ZA.out 2
      go_upto_region 6 with (fail)
      have YA := Aside0.mk (blk_put ZA.out 2 (.func (.func 34) #[] #[]) rfl)
      have YB := Aside0.mk (blk_far (p := ⟨g7, 2, none⟩) ZB.out NE.out (.func (.func 34) #[] #[]))
      have YC := Aside0.mk (below_set (j := 2) ZC.out G7.out (v := .func (.func 34) #[] #[]))
      clear c2 f2
      generalize W3.setCell ⟨g7, 2, none⟩ (.func (.func 34) #[] #[]) = W4 at *
      have d0 : W4.cell? ⟨g7, 0, none⟩ = some (.slice A n c) := (blk_cell YA.out 0).trans rfl
      have d1 : W4.cell? ⟨g7, 1, none⟩ = some (.func (.func 33) #[] #[]) := (blk_cell YA.out 1).trans rfl
      have d2 : W4.cell? ⟨g7, 2, none⟩ = some (.func (.func 34) #[] #[]) := (blk_cell YA.out 2).trans rfl
      have e0 : W4.cell? ⟨g6, 0, none⟩ = some (.slice none 0 0) := (blk_cell YB.out 0).trans rfl
      have e1 : W4.cell? ⟨g6, 1, none⟩ = some (.nilFunc) := (blk_cell YB.out 1).trans rfl
      have e2 : W4.cell? ⟨g6, 2, none⟩ = some (.nilFunc) := (blk_cell YB.out 2).trans rfl
      have h0 := blk_frozen YB.out 0
      have h1 := blk_frozen YB.out 1
      have h2 := blk_frozen YB.out 2
      go_wp2
      have X := blk_put (blk_put (blk_put YB.out 0 (.slice A n c) rfl) 1 (.func (.func 33) #[] #[]) rfl) 2 (.func (.func 34) #[] #[]) rfl
      refine bodyPost_ret (find_looked.res rfl X) rfl ?_
      have lg : w.heap.size ≤ g6 := Nat.le_of_eq L7.out.symm
      exact ⟨rfl, below_set (below_set (below_set YC.out lg) lg) lg⟩

/-! ### find_folded: function 33 -/
def find_folded.f (a0 : Int) : Option (Int) := if a0 ≥ 65 then (if a0 ≤ 90 then (some (wrap64 (a0 + 32))) else (some a0)) else (some a0)
set_option maxHeartbeats 8000000 in
set_option maxRecDepth 100000 in
theorem find_folded.calls (a0 : Int) (r : Int) (w : World) (h : find_folded.f a0 = some r) :
    Calls Tryd.prog 33 #[.int .i64 a0] w fun e w' => e = .returned (.int .i64 r) ∧ Drawn0 w w' := by
  have H : (if a0 ≥ 65 then (if a0 ≤ 90 then (some (wrap64 (a0 + 32))) else (some a0)) else (some a0)) = some r := h
  clear h
  by_cases c2 : a0 ≥ 65
  · rw [if_pos c2] at H
    have c2b0 : decide (65 ≤ a0) = true := decide_eq_true c2
    clear c2
    by_cases c3 : a0 ≤ 90
    · rw [if_pos c3] at H
      have c3b0 : decide (a0 ≤ 90) = true := decide_eq_true c3
      clear c3
      obtain rfl := Option.some.inj H
      go_enter Tryd.func33, Tryd.ntmps33
      go_wp2
      go_ret
      exact ⟨by first | rfl | (simp; done) | (simp [*]; done), by repeat (first | exact Drawn0.refl _ | apply Drawn0.step)⟩
    · rw [if_neg c3] at H
      have c3b0 : decide (a0 ≤ 90) = false := decide_eq_false c3
      clear c3
      obtain rfl := Option.some.inj H
      go_enter Tryd.func33, Tryd.ntmps33
      go_wp2
      go_ret
      exact ⟨by first | rfl | (simp; done) | (simp [*]; done), by repeat (first | exact Drawn0.refl _ | apply Drawn0.step)⟩
  · rw [if_neg c2] at H
    have c2b0 : decide (65 ≤ a0) = false := decide_eq_false c2
    clear c2
    obtain rfl := Option.some.inj H
    go_enter Tryd.func33, Tryd.ntmps33
    go_wp2
    go_ret
    exact ⟨by first | rfl | (simp; done) | (simp [*]; done), by repeat (first | exact Drawn0.refl _ | apply Drawn0.step)⟩

end Go.Proofs.YtfcfomconcoimaaDoor.PFa
