-- Written for this claim by a program (the kit's print, with hand-made contracts for what it does not take).
import Derived.Test.YtebbngeamnpgjaaDoorPIax0
import Derived.Test.YtebbngeamnpgjaaDoorPIax2
namespace Go.Proofs.YtebbngeamnpgjaaDoor.PIa
open Go.RowKit Go.Proofs.YtebbngeamnpgjaaDoorW.PrintWords Go.Proofs.YtebbngeamnpgjaaDoorW.PrintLast Go.Proofs.YtebbngeamnpgjaaDoorW.PrintMore
attribute [local go_sem] max2_int min2_int max_two min_two max_three min_three max_four min_four   -- for this text's walks alone
set_option linter.unusedVariables false
set_option linter.unusedSimpArgs false

/-! ### inline_Parse: function 8 -/

theorem u8_below {g3 g4 : Nat} {w W : World} (h : Lib.Utf8Tabs g3 g4 w) (hb : Below w.heap.size w W) : Lib.Utf8Tabs g3 g4 W :=
  ⟨fun c hc => (hb.cell (World.block_lt_of_cell? w _ (h.1 c hc))).trans (h.1 c hc), fun i hi => ⟨(hb.cell (World.block_lt_of_cell? w _ (h.2 i hi).1)).trans (h.2 i hi).1, (hb.cell (World.block_lt_of_cell? w _ (h.2 i hi).2)).trans (h.2 i hi).2⟩⟩
theorem iter_R {α : Type} {d : Kd α} {e : Nat} {W : World} {base : Nat} {ok : Nat → Prop} {v : Value} {xs : List α} (h : d.R e W base ok v xs) {k : Nat} {s : ByteArray} {pos : Nat} (hk : W.heap[k]? = some (.stringIter s pos)) (pos' : Nat) : d.R e (W.iterAt k s pos') base ok v xs := by
  refine Kd.R_mono (Kd.R_grown (Kd.R_bound h) (row := some k) ⟨rfl, rfl, rfl, by rw [Lib.iterAt_size]; exact Nat.le_refl _, fun i _ hne => Lib.iterAt_other W k i s pos' (fun e => hne (by rw [e]))⟩ ?_) (fun _ h => h.1)
  rintro j ⟨_, _, _, q, _, cells, hc⟩ e
  injection e with e
  subst e
  rw [hk] at hc
  cases hc
/-- A string's code point at a place. -/
def rune (s : ByteArray) (i : Nat) : Int := ((Utf8.decode s i).1 : Int)
def width (s : ByteArray) (i : Nat) : Nat := (Utf8.decode s i).2
theorem width_pos (s : ByteArray) (i : Nat) (h : i < s.size) : 1 ≤ width s i ∧ i + width s i ≤ s.size := by
  unfold width
  rw [Lib.decode_at]
  unfold Lib.decodeN
  repeat' split
  all_goals (dsimp only; omega)
theorem rune_le (s : ByteArray) (i : Nat) : 0 ≤ rune s i ∧ rune s i ≤ 1114111 := by
  unfold rune
  rw [Lib.decode_at]
  have h0 := (s.get! i).toNat_lt
  unfold Lib.decodeN
  repeat' split
  all_goals (dsimp only; omega)

theorem inline_dec (s : ByteArray) (i : Nat) (hi : i < s.size) (w : World) (hT : Lib.Utf8Tabs 0 1 w) :
    Calls Tryd.prog 14 #[.string (s.extract i s.size)] w fun e w' => e = .returned (.tuple #[.int .i32 (rune s i), .int .i64 (width s i : Int)]) ∧ Below w.heap.size w w' := by
  have h := Tryd.utf8_DecodeRuneInString (s.extract i s.size) w hT
  have e : Lib.decodeGo (s.extract i s.size) = Utf8.decode s i := by
    unfold Lib.decodeGo
    rw [if_neg (by rw [ByteArray.size_extract]; omega), Lib.tail_decode, Nat.add_zero]
  rw [e] at h
  exact h

theorem inline_keep_R {α : Type} {d : Kd α} {e : Nat} {w w1 : World} {base : Nat} {ok : Nat → Prop} {v : Value} {xs : List α} (h : d.R e w base ok v xs) (hK : inline_Keep w w1) (hne : ∀ q, q ∈ e :: d.E → q ≠ 36 ∧ q ≠ 46) : d.R e w1 base ok v xs := by
  refine Kd.R_mono (Kd.R_step (Kd.R_bound h) (fun k ho hk => ?_)) (fun _ h => h.1)
  obtain ⟨_, _, _, q, hq, cells, hc⟩ := ho
  rw [hc]
  exact hK _ _ _ (hne q hq).1 (hne q hq).2 hc
def inline_Parse.scan (s : ByteArray) : Nat → Nat → Option Nat × List Int
  | 0, _ => (none, [])
  | f + 1, i => if i < s.size then (if (rune s i = 65533 ∧ width s i = 1) ∨ rune s i = 10 then (some i, []) else ((inline_Parse.scan s f (i + width s i)).1, rune s i :: (inline_Parse.scan s f (i + width s i)).2)) else (none, [])
def inline_Parse.run (l : List Int) (set old : Int) : List S36 :=
  match l with
  | [] => []
  | c :: rest => (inline_take.step c (rest.headD (-1)) set old).2.1 ++ inline_Parse.run (if (inline_take.step c (rest.headD (-1)) set old).1 = true then rest.tail else rest) (inline_take.step c (rest.headD (-1)) set old).2.2.1 (inline_take.step c (rest.headD (-1)) set old).2.2.2
termination_by l.length
decreasing_by
  split
  · simp only [List.length_tail, List.length_cons]; omega
  · simp only [List.length_cons]; omega
def inline_Parse.res (s : ByteArray) (x : Option Nat × List Int) : List S36 × Int × Int :=
  match x.1 with
  | some i => ([], (i : Int), 4)
  | none => (inline_Parse.run x.2 0 0, (s.size : Int), 0)
def inline_Parse.f (s : ByteArray) : Option (List S36 × Int × Int) := if s.size > 65536 then some ([], 0, 2) else some (inline_Parse.res s (inline_Parse.scan s s.size 0))
def inline_Parse.Post (r1 : List S36) (r2 r3 : Int) (w : World) (e : Ending) (w' : World) : Prop := ∃ v0_ : Value, e = .returned (.tuple #[v0_, .int .i64 r2, .int .i64 r3]) ∧ Kd.R k36 36 w' w.heap.size (fun _ => True) v0_ r1 ∧ Below w.heap.size w w'
/-- The code points so far. -/
structure inline_Parse.P1 (s : ByteArray) (w : World) (v : Value) (pos fuel : Nat) (acc : List Int) (full : Option Nat × List Int) (wr : World) : Prop where
  it : wr.heap[w.heap.size]? = some (.stringIter s pos)
  row : Kd.R (Kd.int .i32) 21 wr w.heap.size (fun _ => True) v acc
  below : Below w.heap.size w wr
  rest : full = ((inline_Parse.scan s fuel pos).1, acc ++ (inline_Parse.scan s fuel pos).2)
  fuel : s.size ≤ pos + fuel
  le : pos ≤ s.size
  len : acc.length ≤ pos
  all : ∀ x ∈ acc, 0 ≤ x ∧ x ≤ 1114111
/-- The tokens so far. -/
structure inline_Parse.P2 (w : World) (b : Nat) (A : Option Addr) (cp : Nat) (P : List Int) (i : Int) (out : List S36) (set old : Int) (wr : World) : Prop where
  line : inline_L w.heap.size b out set old wr
  row : Kd.R (Kd.int .i32) 21 wr w.heap.size (fun _ => True) (.slice A P.length cp) P
  below : Below w.heap.size w wr
  rest : out ++ inline_Parse.run (P.drop i.toNat) set old = inline_Parse.run P 0 0
  len : (out.length : Int) ≤ i
theorem inline_Parse.next (P : List Int) (i : Int) (h0 : 0 ≤ i) (h1 : i < (P.length : Int)) : P.drop i.toNat = rd P i :: P.drop (i + 1).toNat ∧ (P.drop (i + 1).toNat).headD (-1) = (if i + 1 < (P.length : Int) then rd P (i + 1) else -1) := by
  have hi : i.toNat < P.length := by omega
  have e : (i + 1).toNat = i.toNat + 1 := by omega
  refine ⟨?_, ?_⟩
  · rw [List.drop_eq_getElem_cons hi, e]
    simp [rd, List.getD_eq_getElem?_getD, List.getElem?_eq_getElem hi]
  · by_cases c : i + 1 < (P.length : Int)
    · rw [if_pos c, List.drop_eq_getElem_cons (by omega)]
      simp [rd, List.getD_eq_getElem?_getD, List.getElem?_eq_getElem (show (i + 1).toNat < P.length by omega)]
    · rw [if_neg c, List.drop_eq_nil_of_le (by omega)]
      rfl
theorem inline_take.put_le (c n set old : Int) : (inline_take.step c n set old).2.1.length ≤ 1 := by
  unfold inline_take.step
  repeat' split
  all_goals simp
theorem inline_Parse.P2.step {w : World} {b : Nat} {A : Option Addr} {cp : Nat} {P : List Int} {i : Int} {out : List S36} {set old : Int} {wr w1 : World} (h : inline_Parse.P2 w b A cp P i out set old wr) (h0 : 0 ≤ i) (h1 : i < (P.length : Int)) (nx : Int) (hn : nx = if i + 1 < (P.length : Int) then rd P (i + 1) else -1)
    (hs : inline_take.St w.heap.size b out (inline_take.step (rd P i) nx set old) w wr w1) : inline_Parse.P2 w b A cp P (if (inline_take.step (rd P i) nx set old).1 = true then i + 1 + 1 else i + 1) (out ++ (inline_take.step (rd P i) nx set old).2.1) (inline_take.step (rd P i) nx set old).2.2.1 (inline_take.step (rd P i) nx set old).2.2.2 w1 := by
  obtain ⟨e1, e2⟩ := inline_Parse.next P i h0 h1
  refine ⟨hs.line, inline_keep_R h.row hs.keep (by intro q hq; revert q; decide), hs.below, ?_, ?_⟩
  · have hr := h.rest
    rw [e1, inline_Parse.run, e2, ← hn] at hr
    rw [← hr, List.append_assoc]
    congr 2
    split
    · rw [show (i + 1 + 1).toNat = (i + 1).toNat + 1 by omega, ← List.tail_drop]
    · rfl
  · have := inline_take.put_le (rd P i) nx set old
    have := h.len
    rw [List.length_append]
    split <;> omega
set_option maxHeartbeats 16000000 in
set_option maxRecDepth 100000 in
theorem inline_Parse.calls (a0 : ByteArray) (r1 : List S36) (r2 r3 : Int) (w : World) (h : inline_Parse.f a0 = some (r1, r2, r3)) (hT_ : Lib.Utf8Tabs 0 1 w := by exact u8_below HT_.out (by repeat (first | (with_reducible first | exact HB.out | apply below_alloc | apply pw_below_drewN | apply below_drew1) | exact HB.out))) :
    Calls Tryd.prog 8 #[.string a0] w (inline_Parse.Post r1 r2 r3 w) := by
  have HT := Aside0.mk hT_
  clear hT_
  unfold inline_Parse.f at h
  by_cases hl : a0.size > 65536
  · rw [if_pos hl] at h
    simp only [Option.some.injEq, Prod.mk.injEq] at h
    obtain ⟨rfl, rfl, rfl⟩ := h
    have b1 : decide ((65536 : Int) < (a0.size : Int)) = true := decide_eq_true (by omega)
    have b2 : decide (65536 < a0.size) = true := decide_eq_true hl
    clear hl
    go_enter Tryd.func8, Tryd.ntmps8
    go_wp2
    go_ret3
    exact ⟨_, rfl, Kd.R_nil _ _ _ _ _, Below.refl _ _⟩
  · rw [if_neg hl] at h
    have h := Option.some.inj h
    obtain ⟨full, hfull⟩ : ∃ x, x = inline_Parse.scan a0 a0.size 0 := ⟨_, rfl⟩
    rw [← hfull] at h
    have H := Aside0.mk h
    have HL := Aside0.mk (show a0.size ≤ 65536 by omega)
    have b1 : decide ((65536 : Int) < (a0.size : Int)) = false := decide_eq_false (by omega)
    have b2 : decide (65536 < a0.size) = false := decide_eq_false hl
    have HF := Aside0.mk hfull
    clear hl h hfull
    go_enter Tryd.func8, Tryd.ntmps8
    go_wp2
    go_loopw [5] (fun v5 wr => ∃ (pos fuel : Nat) (acc : List Int), Aside0 (inline_Parse.P1 a0 w v5 pos fuel acc full wr)) (fun _ wr => a0.size - wr.iterPos w.heap.size)
    case atStart =>
      refine ⟨0, a0.size, [], ⟨⟨World.iter_heap w a0 0, Kd.R_nil _ _ _ _ _, (Below.refl _ w).alloc (Nat.le_refl _) _, ?_, by omega, Nat.zero_le _, Nat.zero_le _, by simp⟩⟩⟩
      rw [List.nil_append]
      exact HF.out
    case round =>
      clear HF b1 b2
      obtain ⟨pos, fuel, acc, HP⟩ := hrel
      by_cases hp : pos < a0.size
      · have hnx : ∀ ty, (Instr.next (.pointer (some ⟨w.heap.size, 0, none⟩)) true ty).run Tryd.prog wr = .ok (.tuple #[.bool true, .int .i64 pos, .int .i32 (rune a0 pos)]) (wr.iterAt w.heap.size a0 (pos + width a0 pos)) := fun ty => Lib.run_next_any_at wr w.heap.size a0 pos ty HP.out.it hp
        obtain ⟨wp1, wp2⟩ := width_pos a0 pos hp
        obtain ⟨rl0, rl1⟩ := rune_le a0 pos
        have it2 := Lib.iterAt_heap wr w.heap.size a0 pos (pos + width a0 pos) HP.out.it
        have bl2 := Lib.below_iterAt HP.out.below (k := w.heap.size) (Nat.le_refl _) a0 (pos + width a0 pos)
        have rw2 := iter_R HP.out.row HP.out.it (pos + width a0 pos)
        obtain ⟨f, rfl⟩ : ∃ f, fuel = f + 1 := ⟨fuel - 1, by have := HP.out.fuel; omega⟩
        have rest := HP.out.rest
        simp only [inline_Parse.scan] at rest
        rw [if_pos hp] at rest
        have cD := inline_dec a0 pos hp (wr.iterAt w.heap.size a0 (pos + width a0 pos)) (u8_below HT.out bl2)
        have itp : wr.iterPos w.heap.size = pos := by simp only [World.iterPos, HP.out.it]
        have fu := HP.out.fuel
        have le := HP.out.len
        have al := HP.out.all
        obtain ⟨n, hn⟩ : ∃ n, n = width a0 pos := ⟨_, rfl⟩
        obtain ⟨c, hc⟩ : ∃ c, c = rune a0 pos := ⟨_, rfl⟩
        rw [← hn, ← hc] at hnx cD rest
        rw [← hn] at it2 bl2 rw2 wp1 wp2
        rw [← hc] at rl0 rl1
        clear hn hc HP
        generalize wr.iterAt w.heap.size a0 (pos + n) = W2 at *
        have p0 : (0 : Int) ≤ (pos : Int) := by omega
        have p1 : (pos : Int) ≤ (a0.size : Int) := by omega
        have IT2 := Aside0.mk it2
        have BL2 := Aside0.mk bl2
        have RW2 := Aside0.mk rw2
        have REST := Aside0.mk rest
        have RL := Aside0.mk (And.intro rl0 rl1)
        have WP := Aside0.mk (And.intro wp1 wp2)
        have ITP := Aside0.mk itp
        have FU := Aside0.mk fu
        have LE := Aside0.mk le
        have AL := Aside0.mk al
        obtain ⟨nI, hnI⟩ : ∃ x : Int, x = (n : Int) := ⟨_, rfl⟩
        rw [← hnI] at cD
        have NI := Aside0.mk hnI
        clear it2 bl2 rw2 rest rl0 rl1 wp1 wp2 itp fu le al hnI
        by_cases c1 : c = 65533
        · have c1b : (c == 65533) = true := beq_iff_eq.mpr c1
          by_cases c2 : nI = 1
          · have c2b : (nI == 1) = true := beq_iff_eq.mpr c2
            have R2 := Aside0.mk (show inline_Parse.res a0 full = ([], (pos : Int), 4) from by rw [REST.out, if_pos (.inl ⟨c1, by have := NI.out; omega⟩)]; rfl)
            clear c1 c2
            rw [H.out] at R2
            simp only [Prod.mk.injEq] at R2
            have R3 := Aside0.mk R2.out
            clear R2 REST H
            obtain ⟨q1, q2, q3⟩ := R3.out
            clear R3
            subst q1 q2 q3
            go_wp2_with fail
            refine cD.mono ?_
            rintro e w3 ⟨rfl, hb⟩
            have B3 := Aside0.mk (below_step BL2.out hb)
            clear hb cD hnx
            go_wp2
            go_ret3
            exact ⟨_, rfl, Kd.R_nil _ _ _ _ _, B3.out⟩
          · have c2b : (nI == 1) = false := beq_eq_false_iff_ne.mpr c2
            have c3b : (c == 10) = false := beq_eq_false_iff_ne.mpr (by omega)
            have hbad : ¬ ((c = 65533 ∧ n = 1) ∨ c = 10) := by have := NI.out; omega
            rw [if_neg hbad] at REST
            clear c1 c2 hbad
            go_wp2_with fail
            refine cD.mono ?_
            rintro e w3 ⟨rfl, hb⟩
            have B3 := Aside0.mk (below_step BL2.out hb)
            have R3 := Aside0.mk (Kd.R_below RW2.out hb)
            have I3 := Aside0.mk (show w3.heap[w.heap.size]? = some (.stringIter a0 (pos + n)) from (hb.block _ (Array.getElem?_eq_some_iff.1 IT2.out).1).trans IT2.out)
            clear hb cD hnx RW2 IT2
            go_wp2_with (first | (at_builtin; refine Kd.R_append (Kd.int .i32) (w0 := w) w.heap.size rfl (.tmp 40) (.tmp 42) 41 21 (.int .i32 0) 4 rfl Tryd.underlying41 info21 rfl (by decide) (by decide) u5 acc c [.int .i32 c] (fun _ => True) (fun _ => False) rfl rfl rfl (fun _ h => h.elim) (fun _ _ => trivial) R3.out B3.out B3.out.size (by have := LE.out; have := HL.out; have := WP.out; omega) ?_; intro v1 w8 ho hb hg hat; have n0_ := Aside0.mk (show inline_Parse.P1 a0 w v1 (pos + n) f (acc ++ [c]) full w8 from ⟨(hg.block _ (Array.getElem?_eq_some_iff.1 I3.out).1 (fun e_ => by obtain ⟨_, hc_⟩ := Kd.R_typed R3.out _ e_.symm; rw [I3.out] at hc_; cases hc_)).trans I3.out, ho, hb, by rw [REST.out]; simp only [List.append_assoc, List.cons_append, List.nil_append], by have := FU.out; have := WP.out; omega, WP.out.2, by rw [List.length_append, List.length_singleton]; have := LE.out; have := WP.out; omega, fun x hx => by rcases List.mem_append.1 hx with h_ | h_; exact AL.out x h_; rw [List.mem_singleton.1 h_]; exact RL.out⟩); clear ho hb hg hat R3 B3 I3))
            go_roundw
            case rel => exact ⟨_, _, _, n0_⟩
            case measure => simp only [World.iterPos, n0_.out.it]; have := ITP.out; simp only [World.iterPos] at this; rw [this]; have := WP.out; omega
        · have c1b : (c == 65533) = false := beq_eq_false_iff_ne.mpr c1
          by_cases c3 : c = 10
          · have c3b : (c == 10) = true := beq_iff_eq.mpr c3
            have R2 := Aside0.mk (show inline_Parse.res a0 full = ([], (pos : Int), 4) from by rw [REST.out, if_pos (.inr c3)]; rfl)
            clear c1 c3
            rw [H.out] at R2
            simp only [Prod.mk.injEq] at R2
            have R3 := Aside0.mk R2.out
            clear R2 REST H
            obtain ⟨q1, q2, q3⟩ := R3.out
            clear R3
            subst q1 q2 q3
            go_wp2_with fail
            refine cD.mono ?_
            rintro e w3 ⟨rfl, hb⟩
            have B3 := Aside0.mk (below_step BL2.out hb)
            clear hb cD hnx
            go_wp2
            go_ret3
            exact ⟨_, rfl, Kd.R_nil _ _ _ _ _, B3.out⟩
          · have c3b : (c == 10) = false := beq_eq_false_iff_ne.mpr c3
            have hbad : ¬ ((c = 65533 ∧ n = 1) ∨ c = 10) := by omega
            rw [if_neg hbad] at REST
            clear c1 c3 hbad
            go_wp2_with fail
            refine cD.mono ?_
            rintro e w3 ⟨rfl, hb⟩
            have B3 := Aside0.mk (below_step BL2.out hb)
            have R3 := Aside0.mk (Kd.R_below RW2.out hb)
            have I3 := Aside0.mk (show w3.heap[w.heap.size]? = some (.stringIter a0 (pos + n)) from (hb.block _ (Array.getElem?_eq_some_iff.1 IT2.out).1).trans IT2.out)
            clear hb cD hnx RW2 IT2
            go_wp2_with (first | (at_builtin; refine Kd.R_append (Kd.int .i32) (w0 := w) w.heap.size rfl (.tmp 40) (.tmp 42) 41 21 (.int .i32 0) 4 rfl Tryd.underlying41 info21 rfl (by decide) (by decide) u5 acc c [.int .i32 c] (fun _ => True) (fun _ => False) rfl rfl rfl (fun _ h => h.elim) (fun _ _ => trivial) R3.out B3.out B3.out.size (by have := LE.out; have := HL.out; have := WP.out; omega) ?_; intro v1 w8 ho hb hg hat; have n0_ := Aside0.mk (show inline_Parse.P1 a0 w v1 (pos + n) f (acc ++ [c]) full w8 from ⟨(hg.block _ (Array.getElem?_eq_some_iff.1 I3.out).1 (fun e_ => by obtain ⟨_, hc_⟩ := Kd.R_typed R3.out _ e_.symm; rw [I3.out] at hc_; cases hc_)).trans I3.out, ho, hb, by rw [REST.out]; simp only [List.append_assoc, List.cons_append, List.nil_append], by have := FU.out; have := WP.out; omega, WP.out.2, by rw [List.length_append, List.length_singleton]; have := LE.out; have := WP.out; omega, fun x hx => by rcases List.mem_append.1 hx with h_ | h_; exact AL.out x h_; rw [List.mem_singleton.1 h_]; exact RL.out⟩); clear ho hb hg hat R3 B3 I3))
            go_roundw
            case rel => exact ⟨_, _, _, n0_⟩
            case measure => simp only [World.iterPos, n0_.out.it]; have := ITP.out; simp only [World.iterPos] at this; rw [this]; have := WP.out; omega
      · have hnx : ∀ ty, (Instr.next (.pointer (some ⟨w.heap.size, 0, none⟩)) true ty).run Tryd.prog wr = .ok (.tuple #[.bool false]) wr := fun ty => Lib.run_next_end_at wr w.heap.size a0 pos ty HP.out.it hp
        have hfull : full = (none, acc) := by
          rw [HP.out.rest]
          cases fuel with
          | zero => simp [inline_Parse.scan]
          | succ f => simp [inline_Parse.scan, hp]
        have hR : inline_Parse.res a0 full = (inline_Parse.run acc 0 0, (a0.size : Int), 0) := by rw [hfull]; rfl
        rw [H.out] at hR
        simp only [Prod.mk.injEq] at hR
        obtain ⟨rfl, rfl, rfl⟩ := hR
        have HLA := Aside0.mk (show acc.length ≤ 65536 from by have := HP.out.len; have := HP.out.le; have := HL.out; omega)
        have HALL := Aside0.mk HP.out.all
        have HB := Aside0.mk HP.out.below
        have HR := Aside0.mk HP.out.row
        clear hp hfull H HP HT
        obtain ⟨A, cp, ev⟩ := Kd.R_slice HR.out
        subst ev
        go_wp2_with (first | ((with_reducible refine gate_dst (N := 45) rfl ?_); refine box_event ?hg (N := 45) ?hd (cs := #[.slice none 0 0, .int .i64 0, .int .i64 0]) (t := 46) ?hr ?_; (case hd => rfl); (case hg => rfl); (case hr => first | (go_simp; done) | (go_simp; rfl)); intro b hg w3 hbox hb; have n0_ := Aside0.mk (below_step HB.out hb); have HP := Aside0.mk (show inline_Parse.P2 w b A cp acc 0 [] 0 0 w3 from ⟨⟨⟨_, hbox, Kd.R_nil _ _ _ _ _⟩, by rw [hg]; exact below_size HB.out⟩, Kd.R_below HR.out hb, n0_.out, rfl, Int.le_refl 0⟩); clear HB HR n0_ hb hbox hg))
        go_loopg [11] (acc.length + 1) (fun kq v11 w' => ∃ (i : Int), v11 = .int .i64 i ∧ Aside0 (0 ≤ i ∧ i + kq = acc.length + 1) ∧ ∃ (out : List S36) (set old : Int), Aside0 (inline_Parse.P2 w b A cp acc i out set old w'))
        case atStart => exact ⟨0, rfl, ⟨by omega⟩, _, _, _, HP⟩
        case round =>
          clear HP
          obtain ⟨i, rfl, HI, out, set, old, HP⟩ := hrel
          have hI := HI.out
          have hL := HLA.out
          have w1 : wrap64 (i + 1) = i + 1 := by unfold wrap64; omega
          have w2 : IntKind.i64.wrap (i + 1) = i + 1 := (i64_w _).trans w1
          by_cases c5 : i < (acc.length : Int)
          · have c5b : decide (i < (acc.length : Int)) = true := decide_eq_true c5
            have w3 : wrap64 (i + 1 + 1) = i + 1 + 1 := by unfold wrap64; omega
            have w4 : IntKind.i64.wrap (i + 1 + 1) = i + 1 + 1 := (i64_w _).trans w3
            have i0 : 0 ≤ i := hI.1
            have i1 : 0 ≤ i + 1 := by omega
            obtain ⟨ad, e_, hx0⟩ := Kd.at_int (Kd.R_reads' HP.out.row).2.2 i i0 c5
            have I0 := Aside0.mk i0
            have C5 := Aside0.mk c5
            have q1 := eq_true c5
            have HC := Aside0.mk (show 0 ≤ rd acc i ∧ rd acc i ≤ 1114111 from HALL.out _ (by simp only [rd, List.getD_eq_getElem?_getD, List.getElem?_eq_getElem (show i.toNat < acc.length by omega)]; exact List.getElem_mem _))
            by_cases c6 : i + 1 < (acc.length : Int)
            · have c6b : decide (i + 1 < (acc.length : Int)) = true := decide_eq_true c6
              obtain ⟨ad2, e2_, hx1⟩ := Kd.at_int (Kd.R_reads' HP.out.row).2.2 (i + 1) i1 c6
              have q2 := eq_true c6
              have HN := Aside0.mk (show -1 ≤ rd acc (i + 1) ∧ rd acc (i + 1) ≤ 1114111 from by have := HALL.out (rd acc (i + 1)) (by simp only [rd, List.getD_eq_getElem?_getD, List.getElem?_eq_getElem (show (i + 1).toNat < acc.length by omega)]; exact List.getElem_mem _); omega)
              subst e_
              cases e2_
              obtain ⟨cc, hcc⟩ : ∃ x, x = rd acc i := ⟨_, rfl⟩
              obtain ⟨nx, hnx2⟩ : ∃ x, x = rd acc (i + 1) := ⟨_, rfl⟩
              rw [← hcc] at hx0 HC
              have NX := Aside0.mk (show nx = if i + 1 < (acc.length : Int) then rd acc (i + 1) else -1 from by rw [if_pos c6]; exact hnx2)
              rw [← hnx2] at hx1 HN
              have CC := Aside0.mk hcc
              clear hI hL c5 c6 w1 w3 hcc hnx2
              go_wp2_with fail
              refine (inline_take.calls w.heap.size b out set old cc nx HC.out.1 HC.out.2 HN.out.1 HN.out.2 w _ HP.out.line HP.out.below HP.out.below.size (by have := HP.out.len; have := HLA.out; have := C5.out; omega)).mono ?_
              rintro e w5 ⟨rfl, hs⟩
              rw [CC.out] at hs
              have ST := Aside0.mk (HP.out.step I0.out C5.out nx NX.out hs)
              rw [← CC.out] at ST
              clear hs HP hx0 hx1
              obtain ⟨st, hst⟩ : ∃ x, x = inline_take.step cc nx set old := ⟨_, rfl⟩
              rw [← hst] at ST ⊢
              clear hst
              obtain ⟨q, l, s1, o1⟩ := st
              cases q with
              | true =>
                go_wp2
                go_roundg (gk - 2)
                case measure => have := HI.out; have := C5.out; omega
                case rel => exact ⟨i + 1 + 1, by first | rfl | (rw [w4]; done) | go_num, ⟨by have := HI.out; have := C5.out; omega⟩, _, _, _, ST⟩
              | false =>
                go_wp2
                go_roundg (gk - 1)
                case measure => have := HI.out; have := C5.out; omega
                case rel => exact ⟨i + 1, by first | rfl | (rw [w2]; done) | go_num, ⟨by have := HI.out; have := C5.out; omega⟩, _, _, _, ST⟩
            · have c6b : decide (i + 1 < (acc.length : Int)) = false := decide_eq_false c6
              have NX := Aside0.mk (show (-1 : Int) = if i + 1 < (acc.length : Int) then rd acc (i + 1) else -1 from by rw [if_neg c6])
              have HN := Aside0.mk (show (-1 : Int) ≤ -1 ∧ (-1 : Int) ≤ 1114111 from by omega)
              subst e_
              obtain ⟨cc, hcc⟩ : ∃ x, x = rd acc i := ⟨_, rfl⟩
              rw [← hcc] at hx0 HC
              have CC := Aside0.mk hcc
              clear hI hL c5 c6 w1 w3 hcc
              go_wp2_with fail
              refine (inline_take.calls w.heap.size b out set old cc (-1) HC.out.1 HC.out.2 HN.out.1 HN.out.2 w _ HP.out.line HP.out.below HP.out.below.size (by have := HP.out.len; have := HLA.out; have := C5.out; omega)).mono ?_
              rintro e w5 ⟨rfl, hs⟩
              rw [CC.out] at hs
              have ST := Aside0.mk (HP.out.step I0.out C5.out (-1) NX.out hs)
              rw [← CC.out] at ST
              clear hs HP hx0
              obtain ⟨st, hst⟩ : ∃ x, x = inline_take.step cc (-1) set old := ⟨_, rfl⟩
              rw [← hst] at ST ⊢
              clear hst
              obtain ⟨q, l, s1, o1⟩ := st
              cases q with
              | true =>
                go_wp2
                go_roundg (gk - 2)
                case measure => have := HI.out; have := C5.out; omega
                case rel => exact ⟨i + 1 + 1, by first | rfl | (rw [w4]; done) | go_num, ⟨by have := HI.out; have := C5.out; omega⟩, _, _, _, ST⟩
              | false =>
                go_wp2
                go_roundg (gk - 1)
                case measure => have := HI.out; have := C5.out; omega
                case rel => exact ⟨i + 1, by first | rfl | (rw [w2]; done) | go_num, ⟨by have := HI.out; have := C5.out; omega⟩, _, _, _, ST⟩
          · have c5b : decide (i < (acc.length : Int)) = false := decide_eq_false c5
            have hrest := HP.out.rest
            rw [List.drop_eq_nil_of_le (by omega), inline_Parse.run, List.append_nil] at hrest
            subst hrest
            obtain ⟨⟨v, hb1, hb2⟩, _⟩ := HP.out.line
            have cv : wr.cell? ⟨b, 0, none⟩ = some v := (blk_cell hb1 0).trans rfl
            have HV := Aside0.mk hb2
            have HB := Aside0.mk HP.out.below
            clear hI hL c5 w1 hb1 hb2 HP
            go_wp2
            go_ret3
            exact ⟨_, rfl, HV.out, HB.out⟩

end Go.Proofs.YtebbngeamnpgjaaDoor.PIa
