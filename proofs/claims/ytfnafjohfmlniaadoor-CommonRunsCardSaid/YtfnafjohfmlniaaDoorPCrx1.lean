-- Written for this claim by a program (the kit's print, with hand-made contracts for what it does not take).
import Derived.Test.YtfnafjohfmlniaaDoorPCrx0
namespace Go.Proofs.YtfnafjohfmlniaaDoor.PCr
open Go.RowKit Go.Proofs.YtfnafjohfmlniaaDoorW.PrintWords Go.Proofs.YtfnafjohfmlniaaDoorW.PrintLast Go.Proofs.YtfnafjohfmlniaaDoorW.PrintMore
attribute [local go_sem] max2_int min2_int max_two min_two max_three min_three max_four min_four   -- for this text's walks alone
set_option linter.unusedVariables false
set_option linter.unusedSimpArgs false

/-! ### common_line_at: function 33 -/
/-! ### What a line holds that is read as others write it -/
abbrev Tt : Bool := true
abbrev Ff : Bool := false
/-- What a pointer of a struct's own leads to. -/
def PtrR {β : Type} (t : Nat) (enc : β → Array Value) (w : World) (ok : Nat → Prop) (v : Value) : Option β → Prop
  | none => v = .pointer none
  | some b => ∃ g : Nat, v = .pointer (some ⟨g, 0, none⟩) ∧ ok g ∧ w.heap[g]? = some (.cells (enc b) t (0, 0))
theorem PtrR.imp {β : Type} {t : Nat} {enc : β → Array Value} {w w1 : World} {ok ok' : Nat → Prop} {v : Value} {x : Option β} (h : PtrR t enc w ok v x) (hk : ∀ g cs, ok g → w.heap[g]? = some (.cells cs t (0, 0)) → ok' g ∧ w1.heap[g]? = w.heap[g]?) : PtrR t enc w1 ok' v x := by
  cases x with
  | none => exact h
  | some b =>
    obtain ⟨g, h1, h2, h3⟩ := h
    obtain ⟨h4, h5⟩ := hk g _ h2 h3
    exact ⟨g, h1, h4, h5.trans h3⟩
/-- The kind of a pointer to a struct of type t that is never written again, or none. -/
def ptrKd {β : Type} (t : Nat) (enc : β → Array Value) : Kd (Option β) where
  sz := 1
  E := [t]
  K := fun w x cs => ∃ v, cs = [v] ∧ PtrR t enc w (fun _ => True) v x
  M := fun w base ok x cs => ∃ v, cs = [v] ∧ PtrR t enc w (fun k => ok k ∧ base ≤ k) v x
  K_len := by
    rintro w x cs ⟨v, rfl, _⟩
    rfl
  K_one := by
    rintro w x cs ⟨v, rfl, h⟩ u hu
    rw [List.mem_singleton.1 hu]
    cases x with
    | none => rw [show v = _ from h]; rfl
    | some b => obtain ⟨g, rfl, _⟩ := h; rfl
  K_below := by
    rintro w w1 x cs hb ⟨v, rfl, h⟩
    exact ⟨v, rfl, h.imp (fun g cs _ hg => ⟨trivial, hb.block g (blk_lt hg)⟩)⟩
  K_of_M := by
    rintro w base ok x cs ⟨v, rfl, h⟩
    exact ⟨v, rfl, h.imp (fun _ _ _ _ => ⟨trivial, rfl⟩)⟩
  M_mono := by
    rintro w base ok ok' x cs hok ⟨v, rfl, h⟩
    exact ⟨v, rfl, h.imp (fun g _ hg _ => ⟨⟨hok g hg.1, hg.2⟩, rfl⟩)⟩
  M_bound := by
    rintro w base ok x cs ⟨v, rfl, h⟩
    exact ⟨v, rfl, h.imp (fun g cs hg hc => ⟨⟨⟨hg.1, hg.2, blk_lt hc, t, List.mem_singleton.2 rfl, _, hc⟩, hg.2⟩, rfl⟩)⟩
  M_move := by
    rintro w w1 base ok x cs hm ⟨v, rfl, h⟩
    exact ⟨v, rfl, h.imp (fun g _ hg _ => ⟨hg, hm g hg.1⟩)⟩
  M_lower := by
    rintro w base base' ok x cs hb ⟨v, rfl, h⟩
    exact ⟨v, rfl, h.imp (fun g _ hg _ => ⟨⟨hg.1, Nat.le_trans hb hg.2⟩, rfl⟩)⟩
/-- A part: a code point that is told, or a run with signs that are left. -/
structure Prt where
  tok : S43
  run : Option S38
  left : Int
  passed : Bool
def encRun (r : S38) : Array Value := #[.int .i64 r.f0, .int .i64 r.f1, .int .u8 r.f2, .bool r.f3, .bool r.f4]
def kPrt : Kd Prt := Kd.iso (Kd.pair k43 (Kd.pair (ptrKd 38 encRun) (Kd.pair (Kd.int .i64) Kd.bool))) (fun x : Prt => (x.tok, x.run, x.left, x.passed))
def zPrt : Prt := ⟨⟨0, 0, 0, 0⟩, none, 0, false⟩
def prtAt (l : List Prt) (i : Int) : Prt := l.getD i.toNat zPrt
theorem kPrt_open {w : World} {x : Prt} {cs : List Value} (h : kPrt.K w x cs) : ∃ v, cs = [.int .i64 x.tok.f0, .int .i64 x.tok.f1, .int .i64 x.tok.f2, .int .i64 x.tok.f3, v, .int .i64 x.left, .bool x.passed] ∧ PtrR 38 encRun w (fun _ => True) v x.run := by
  obtain ⟨_, _, rfl, h1, _, _, rfl, ⟨v, rfl, h2⟩, _, _, rfl, rfl, rfl⟩ := h
  rw [k43_open h1]
  exact ⟨v, rfl, h2⟩
theorem kPrt_openM {w : World} {base : Nat} {ok : Nat → Prop} {x : Prt} {cs : List Value} (h : kPrt.M w base ok x cs) : ∃ v, cs = [.int .i64 x.tok.f0, .int .i64 x.tok.f1, .int .i64 x.tok.f2, .int .i64 x.tok.f3, v, .int .i64 x.left, .bool x.passed] ∧ PtrR 38 encRun w (fun k => ok k ∧ base ≤ k) v x.run := by
  obtain ⟨_, _, rfl, h1, _, _, rfl, ⟨v, rfl, h2⟩, _, _, rfl, rfl, rfl⟩ := h
  rw [k43_open (k43.K_of_M h1)]
  exact ⟨v, rfl, h2⟩
theorem kPrt_mkM {w : World} {base : Nat} {ok : Nat → Prop} (x : Prt) {v : Value} (h : PtrR 38 encRun w (fun k => ok k ∧ base ≤ k) v x.run) : kPrt.M w base ok x [.int .i64 x.tok.f0, .int .i64 x.tok.f1, .int .i64 x.tok.f2, .int .i64 x.tok.f3, v, .int .i64 x.left, .bool x.passed] :=
  ⟨[.int .i64 x.tok.f0, .int .i64 x.tok.f1, .int .i64 x.tok.f2, .int .i64 x.tok.f3], [v, .int .i64 x.left, .bool x.passed], rfl, k43_mkM _ _ _ _, [v], [.int .i64 x.left, .bool x.passed], rfl, ⟨v, rfl, h⟩, [.int .i64 x.left], [.bool x.passed], rfl, rfl, rfl⟩
theorem info57 : (Tryd.prog.info? 57).map (fun i => (i.zero, i.size, i.bytes)) = some (some (.agg #[.int .i64 0, .int .i64 0, .int .i64 0, .int .i64 0, .pointer none, .int .i64 0, .bool false]), 7, 56) := by kernel_rfl
/-- A line at a place: its code points, its parts. -/
structure common_L (B b : Nat) (A : Option Addr) (c : Nat) (p : List S79) (out : List Prt) (W : World) : Prop where
  ex : ∃ vo, W.heap[b]? = some (.cells #[.slice A p.length c, vo] 54 (0, 0)) ∧ Kd.R k79 79 W B (fun _ => True) (.slice A p.length c) p ∧ Kd.R kPrt 57 W B (fun _ => True) vo out
  base : B ≤ b
theorem common_L.below {B b : Nat} {A : Option Addr} {c : Nat} {p : List S79} {out : List Prt} {W W1 : World} (h : common_L B b A c p out W) (hb : Below W.heap.size W W1) : common_L B b A c p out W1 := by
  obtain ⟨⟨vo, h1, h2, h3⟩, h4⟩ := h
  exact ⟨⟨vo, blk_below h1 hb, Kd.R_below h2 hb, Kd.R_below h3 hb⟩, h4⟩
/-- What a walk reads of it. -/
theorem common_L.open {B b : Nat} {A : Option Addr} {c : Nat} {p : List S79} {out : List Prt} {W : World} (h : common_L B b A c p out W) : ∃ Ao co, W.heap[b]? = some (.cells #[.slice A p.length c, .slice Ao out.length co] 54 (0, 0)) ∧ Kd.R k79 79 W B (fun _ => True) (.slice A p.length c) p ∧ Kd.R kPrt 57 W B (fun _ => True) (.slice Ao out.length co) out ∧ B ≤ b := by
  obtain ⟨⟨vo, h1, h2, h3⟩, h4⟩ := h
  obtain ⟨Ao, co, rfl⟩ := Kd.R_slice h3
  exact ⟨Ao, co, h1, h2, h3, h4⟩
/-- The code point at a place; a blank beyond. -/
def common_at.f (p : List S79) (i : Int) : Int := if i < 0 then 32 else if (p.length : Int) ≤ i then 32 else (rd_T79 p i).f0
set_option maxRecDepth 100000 in
theorem common_at.calls (B b : Nat) (A : Option Addr) (c : Nat) (p : List S79) (out : List Prt) (i : Int) (w : World) (h : common_L B b A c p out w) :
    Calls Tryd.prog 33 #[.pointer (some ⟨b, 0, none⟩), .int .i64 i] w fun e w' => e = .returned (.int .i32 (common_at.f p i)) ∧ Below w.heap.size w w' := by
  have hu54 := Tryd.underlying54
  have hu79 := Tryd.underlying79
  obtain ⟨Ao, co, h1, h2, h3, h4⟩ := h.open
  have s0 : w.cell? ⟨b, 0, none⟩ = some (.slice A p.length c) := (blk_cell h1 0).trans rfl
  have H2 := Aside0.mk h2
  clear h h1 h2 h3 h4
  unfold common_at.f
  by_cases n1 : i < 0
  · have n1b : decide (i < 0) = true := decide_eq_true n1
    rw [if_pos n1]
    clear n1
    go_enter Tryd.func33, Tryd.ntmps33
    go_wp2
    go_ret
    exact ⟨rfl, Below.refl _ _⟩
  · have n1b : decide (i < 0) = false := decide_eq_false n1
    rw [if_neg n1]
    by_cases n2 : (p.length : Int) ≤ i
    · have n2b : decide ((p.length : Int) ≤ i) = true := decide_eq_true n2
      rw [if_pos n2]
      clear n1 n2
      go_enter Tryd.func33, Tryd.ntmps33
      go_wp2
      go_ret
      exact ⟨rfl, Below.refl _ _⟩
    · have n2b : decide ((p.length : Int) ≤ i) = false := decide_eq_false n2
      rw [if_neg n2]
      have i0 : 0 ≤ i := by omega
      have i1 : i < (p.length : Int) := by omega
      obtain ⟨ad, eA, x0, x1⟩ := at_T79 (Kd.R_reads' H2.out).2.2 i i0 i1
      subst eA
      have i0t := eq_true i0
      have i1t := eq_true i1
      clear n1 n2 i0 i1
      go_enter Tryd.func33, Tryd.ntmps33
      go_wp2
      go_ret
      exact ⟨rfl, Below.refl _ _⟩

/-! ### common_points: function 17 -/

theorem u8_below {g3 g4 : Nat} {w W : World} (h : Lib.Utf8Tabs g3 g4 w) (hb : Below w.heap.size w W) : Lib.Utf8Tabs g3 g4 W :=
  ⟨fun c hc => (hb.cell (World.block_lt_of_cell? w _ (h.1 c hc))).trans (h.1 c hc), fun i hi => ⟨(hb.cell (World.block_lt_of_cell? w _ (h.2 i hi).1)).trans (h.2 i hi).1, (hb.cell (World.block_lt_of_cell? w _ (h.2 i hi).2)).trans (h.2 i hi).2⟩⟩
theorem iter_R {α : Type} {d : Kd α} {e : Nat} {W : World} {base : Nat} {ok : Nat → Prop} {v : Value} {xs : List α} (h : d.R e W base ok v xs) {k : Nat} {s : ByteArray} {pos : Nat} (hk : W.heap[k]? = some (.stringIter s pos)) (pos' : Nat) : d.R e (W.iterAt k s pos') base ok v xs := by
  refine Kd.R_mono (Kd.R_grown (Kd.R_bound h) (row := some k) ⟨rfl, rfl, rfl, by rw [Lib.iterAt_size]; exact Nat.le_refl _, fun i _ hne => Lib.iterAt_other W k i s pos' (fun e => hne (by rw [e]))⟩ ?_) (fun _ h => h.1)
  rintro j ⟨_, _, _, q, _, cells, hc⟩ e
  injection e with e
  subst e
  rw [hk] at hc
  cases hc
/-- A string's code point at a place. -/
def rune (s : ByteArray) (i : Nat) : Int := ((Utf8.decode s i).1 : Int)
def width (s : ByteArray) (i : Nat) : Nat := (Utf8.decode s i).2
theorem width_pos (s : ByteArray) (i : Nat) (h : i < s.size) : 1 ≤ width s i ∧ i + width s i ≤ s.size := by
  unfold width
  rw [Lib.decode_at]
  unfold Lib.decodeN
  repeat' split
  all_goals (dsimp only; omega)
theorem rune_le (s : ByteArray) (i : Nat) : 0 ≤ rune s i ∧ rune s i ≤ 1114111 := by
  unfold rune
  rw [Lib.decode_at]
  have h0 := (s.get! i).toNat_lt
  unfold Lib.decodeN
  repeat' split
  all_goals (dsimp only; omega)
theorem common_dec (s : ByteArray) (i : Nat) (hi : i < s.size) (w : World) (hT : Lib.Utf8Tabs 0 1 w) :
    Calls Tryd.prog 26 #[.string (s.extract i s.size)] w fun e w' => e = .returned (.tuple #[.int .i32 (rune s i), .int .i64 (width s i : Int)]) ∧ Below w.heap.size w w' := by
  have h := Tryd.utf8_DecodeRuneInString (s.extract i s.size) w hT
  have e : Lib.decodeGo (s.extract i s.size) = Utf8.decode s i := by
    unfold Lib.decodeGo
    rw [if_neg (by rw [ByteArray.size_extract]; omega), Lib.tail_decode, Nat.add_zero]
  rw [e] at h
  exact h
def common_points.scan (s : ByteArray) : Nat → Nat → Option Nat × List S79
  | 0, _ => (none, [])
  | f + 1, i => if i < s.size then (if rune s i = 10 ∨ (rune s i = 65533 ∧ width s i = 1) then (some i, []) else ((common_points.scan s f (i + width s i)).1, (⟨rune s i, (i : Int)⟩ : S79) :: (common_points.scan s f (i + width s i)).2)) else (none, [])
def common_points.res (s : ByteArray) (x : Option Nat × List S79) : List S79 × Int × Int :=
  match x.1 with
  | some i => ([], (i : Int), 4)
  | none => (x.2, (s.size : Int), 0)
def common_points.f (s : ByteArray) : List S79 × Int × Int := if s.size > 4000 then ([], 0, 2) else common_points.res s (common_points.scan s s.size 0)
def common_points.Post (r : List S79 × Int × Int) (w : World) (e : Ending) (w' : World) : Prop := ∃ v0_ : Value, e = .returned (.tuple #[v0_, .int .i64 r.2.1, .int .i64 r.2.2]) ∧ Kd.R k79 79 w' w.heap.size (fun _ => True) v0_ r.1 ∧ Below w.heap.size w w'
structure common_points.P1 (s : ByteArray) (w : World) (v : Value) (pos fuel : Nat) (acc : List S79) (full : Option Nat × List S79) (wr : World) : Prop where
  it : wr.heap[w.heap.size]? = some (.stringIter s pos)
  row : Kd.R k79 79 wr w.heap.size (fun _ => True) v acc
  below : Below w.heap.size w wr
  rest : full = ((common_points.scan s fuel pos).1, acc ++ (common_points.scan s fuel pos).2)
  fuel : s.size ≤ pos + fuel
  le : pos ≤ s.size
  len : acc.length ≤ pos
set_option maxHeartbeats 16000000 in
set_option maxRecDepth 100000 in
theorem common_points.calls (a0 : ByteArray) (w : World) (hT_ : Lib.Utf8Tabs 0 1 w) :
    Calls Tryd.prog 17 #[.string a0] w (common_points.Post (common_points.f a0) w) := by
  have hu79 := Tryd.underlying79
  have HT := Aside0.mk hT_
  clear hT_
  unfold common_points.f
  by_cases hl : a0.size > 4000
  · rw [if_pos hl]
    have b1 : decide ((4000 : Int) < (a0.size : Int)) = true := decide_eq_true (by omega)
    have b2 : decide (4000 < a0.size) = true := decide_eq_true hl
    clear hl
    go_enter Tryd.func17, Tryd.ntmps17
    go_wp2
    go_ret3
    exact ⟨_, rfl, Kd.R_nil _ _ _ _ _, Below.refl _ _⟩
  · rw [if_neg hl]
    obtain ⟨full, hfull⟩ : ∃ x, x = common_points.scan a0 a0.size 0 := ⟨_, rfl⟩
    rw [← hfull]
    have HL := Aside0.mk (show a0.size ≤ 4000 by omega)
    have b1 : decide ((4000 : Int) < (a0.size : Int)) = false := decide_eq_false (by omega)
    have b2 : decide (4000 < a0.size) = false := decide_eq_false hl
    have HF := Aside0.mk hfull
    clear hl hfull
    go_enter Tryd.func17, Tryd.ntmps17
    go_wp2
    go_loopw [5] (fun v5 wr => ∃ (pos fuel : Nat) (acc : List S79), Aside0 (common_points.P1 a0 w v5 pos fuel acc full wr)) (fun _ wr => a0.size - wr.iterPos w.heap.size)
    case atStart =>
      refine ⟨0, a0.size, [], ⟨⟨World.iter_heap w a0 0, Kd.R_nil _ _ _ _ _, (Below.refl _ w).alloc (Nat.le_refl _) _, ?_, by omega, Nat.zero_le _, Nat.zero_le _⟩⟩⟩
      rw [List.nil_append]
      exact HF.out
    case round =>
      clear HF b1 b2
      obtain ⟨pos, fuel, acc, HP⟩ := hrel
      by_cases hp : pos < a0.size
      · have hnx : ∀ ty, (Instr.next (.pointer (some ⟨w.heap.size, 0, none⟩)) true ty).run Tryd.prog wr = .ok (.tuple #[.bool true, .int .i64 pos, .int .i32 (rune a0 pos)]) (wr.iterAt w.heap.size a0 (pos + width a0 pos)) := fun ty => Lib.run_next_any_at wr w.heap.size a0 pos ty HP.out.it hp
        obtain ⟨wp1, wp2⟩ := width_pos a0 pos hp
        have it2 := Lib.iterAt_heap wr w.heap.size a0 pos (pos + width a0 pos) HP.out.it
        have bl2 := Lib.below_iterAt HP.out.below (k := w.heap.size) (Nat.le_refl _) a0 (pos + width a0 pos)
        have rw2 := iter_R HP.out.row HP.out.it (pos + width a0 pos)
        obtain ⟨f, rfl⟩ : ∃ f, fuel = f + 1 := ⟨fuel - 1, by have := HP.out.fuel; omega⟩
        have rest := HP.out.rest
        simp only [common_points.scan] at rest
        rw [if_pos hp] at rest
        have cD := common_dec a0 pos hp (wr.iterAt w.heap.size a0 (pos + width a0 pos)) (u8_below HT.out bl2)
        have itp : wr.iterPos w.heap.size = pos := by simp only [World.iterPos, HP.out.it]
        have fu := HP.out.fuel
        have le := HP.out.len
        obtain ⟨n, hn⟩ : ∃ n, n = width a0 pos := ⟨_, rfl⟩
        obtain ⟨c, hc⟩ : ∃ c, c = rune a0 pos := ⟨_, rfl⟩
        rw [← hn, ← hc] at hnx cD rest
        rw [← hn] at it2 bl2 rw2 wp1 wp2
        clear hn hc HP
        generalize wr.iterAt w.heap.size a0 (pos + n) = W2 at *
        have p0 : (0 : Int) ≤ (pos : Int) := by omega
        have p1 : (pos : Int) ≤ (a0.size : Int) := by omega
        have IT2 := Aside0.mk it2
        have BL2 := Aside0.mk bl2
        have RW2 := Aside0.mk rw2
        have REST := Aside0.mk rest
        have WP := Aside0.mk (And.intro wp1 wp2)
        have ITP := Aside0.mk itp
        have FU := Aside0.mk fu
        have LE := Aside0.mk le
        obtain ⟨nI, hnI⟩ : ∃ x : Int, x = (n : Int) := ⟨_, rfl⟩
        rw [← hnI] at cD
        have NI := Aside0.mk hnI
        clear it2 bl2 rw2 rest wp1 wp2 itp fu le hnI
        by_cases c3 : c = 10
        · have c3b : (c == 10) = true := beq_iff_eq.mpr c3
          have R2 := Aside0.mk (show common_points.res a0 full = ([], (pos : Int), 4) from by rw [REST.out, if_pos (.inl c3)]; rfl)
          clear c3 cD
          go_wp2
          go_ret3
          exact by rw [R2.out]; exact ⟨_, rfl, Kd.R_nil _ _ _ _ _, BL2.out⟩
        · have c3b : (c == 10) = false := beq_eq_false_iff_ne.mpr c3
          by_cases c1 : c = 65533
          · have c1b : (c == 65533) = true := beq_iff_eq.mpr c1
            by_cases c2 : nI = 1
            · have c2b : (nI == 1) = true := beq_iff_eq.mpr c2
              have R2 := Aside0.mk (show common_points.res a0 full = ([], (pos : Int), 4) from by rw [REST.out, if_pos (.inr ⟨c1, by have := NI.out; omega⟩)]; rfl)
              clear c1 c2 c3
              go_wp2_with fail
              refine cD.mono ?_
              rintro e w3 ⟨rfl, hb⟩
              have B3 := Aside0.mk (below_step BL2.out hb)
              clear hb cD hnx
              go_wp2
              go_ret3
              exact by rw [R2.out]; exact ⟨_, rfl, Kd.R_nil _ _ _ _ _, B3.out⟩
            · have c2b : (nI == 1) = false := beq_eq_false_iff_ne.mpr c2
              have hbad : ¬ (c = 10 ∨ (c = 65533 ∧ n = 1)) := by have := NI.out; omega
              rw [if_neg hbad] at REST
              clear c1 c2 c3 hbad
              go_wp2_with fail
              refine cD.mono ?_
              rintro e w3 ⟨rfl, hb⟩
              have B3 := Aside0.mk (below_step BL2.out hb)
              have R3 := Aside0.mk (Kd.R_below RW2.out hb)
              have I3 := Aside0.mk (show w3.heap[w.heap.size]? = some (.stringIter a0 (pos + n)) from (hb.block _ (Array.getElem?_eq_some_iff.1 IT2.out).1).trans IT2.out)
              clear hb cD hnx RW2 IT2
              go_wp2_with (first | (at_builtin; refine Kd.R_append k79 (w0 := w) w.heap.size rfl (.tmp 34) (.tmp 38) 48 79 (.agg #[.int .i32 0, .int .i64 0]) 16 rfl Tryd.underlying48 info79 rfl (by decide) (by decide) u5 acc (⟨c, (pos : Int)⟩ : S79) [.int .i32 c, .int .i64 (pos : Int)] (fun _ => True) (fun _ => False) rfl rfl (k79_mkM _ _ _ _) (fun _ h => h.elim) (fun _ _ => trivial) R3.out B3.out B3.out.size (by have := LE.out; have := HL.out; have := WP.out; omega) ?_; intro v1 w8 ho hb hg hat; have n0_ := Aside0.mk (show common_points.P1 a0 w v1 (pos + n) f (acc ++ [(⟨c, (pos : Int)⟩ : S79)]) full w8 from ⟨(hg.block _ (Array.getElem?_eq_some_iff.1 I3.out).1 (fun e_ => by obtain ⟨_, hc_⟩ := Kd.R_typed R3.out _ e_.symm; rw [I3.out] at hc_; cases hc_)).trans I3.out, ho, hb, by rw [REST.out]; simp only [List.append_assoc, List.cons_append, List.nil_append], by have := FU.out; have := WP.out; omega, WP.out.2, by rw [List.length_append, List.length_singleton]; have := LE.out; have := WP.out; omega⟩); clear ho hb hg hat R3 B3 I3))
              go_roundw
              case rel => exact ⟨_, _, _, n0_⟩
              case measure => simp only [World.iterPos, n0_.out.it]; have := ITP.out; simp only [World.iterPos] at this; rw [this]; have := WP.out; omega
          · have c1b : (c == 65533) = false := beq_eq_false_iff_ne.mpr c1
            have hbad : ¬ (c = 10 ∨ (c = 65533 ∧ n = 1)) := by omega
            rw [if_neg hbad] at REST
            have B3 := BL2
            have R3 := RW2
            have I3 := IT2
            clear c1 c3 hbad cD RW2 IT2
            go_wp2_with (first | (at_builtin; refine Kd.R_append k79 (w0 := w) w.heap.size rfl (.tmp 34) (.tmp 38) 48 79 (.agg #[.int .i32 0, .int .i64 0]) 16 rfl Tryd.underlying48 info79 rfl (by decide) (by decide) u5 acc (⟨c, (pos : Int)⟩ : S79) [.int .i32 c, .int .i64 (pos : Int)] (fun _ => True) (fun _ => False) rfl rfl (k79_mkM _ _ _ _) (fun _ h => h.elim) (fun _ _ => trivial) R3.out B3.out B3.out.size (by have := LE.out; have := HL.out; have := WP.out; omega) ?_; intro v1 w8 ho hb hg hat; have n0_ := Aside0.mk (show common_points.P1 a0 w v1 (pos + n) f (acc ++ [(⟨c, (pos : Int)⟩ : S79)]) full w8 from ⟨(hg.block _ (Array.getElem?_eq_some_iff.1 I3.out).1 (fun e_ => by obtain ⟨_, hc_⟩ := Kd.R_typed R3.out _ e_.symm; rw [I3.out] at hc_; cases hc_)).trans I3.out, ho, hb, by rw [REST.out]; simp only [List.append_assoc, List.cons_append, List.nil_append], by have := FU.out; have := WP.out; omega, WP.out.2, by rw [List.length_append, List.length_singleton]; have := LE.out; have := WP.out; omega⟩); clear ho hb hg hat R3 B3 I3))
            go_roundw
            case rel => exact ⟨_, _, _, n0_⟩
            case measure => simp only [World.iterPos, n0_.out.it]; have := ITP.out; simp only [World.iterPos] at this; rw [this]; have := WP.out; omega
      · have hnx : ∀ ty, (Instr.next (.pointer (some ⟨w.heap.size, 0, none⟩)) true ty).run Tryd.prog wr = .ok (.tuple #[.bool false]) wr := fun ty => Lib.run_next_end_at wr w.heap.size a0 pos ty HP.out.it hp
        have hfull : full = (none, acc) := by
          rw [HP.out.rest]
          cases fuel with
          | zero => simp [common_points.scan]
          | succ f => simp [common_points.scan, hp]
        have hR : common_points.res a0 full = (acc, (a0.size : Int), 0) := by rw [hfull]; rfl
        have HX := Aside0.mk hR
        have HB := Aside0.mk HP.out.below
        have HR := Aside0.mk HP.out.row
        clear hp hfull hR HP HT
        go_wp2
        go_ret3
        exact by rw [HX.out]; exact ⟨_, rfl, HR.out, HB.out⟩

end Go.Proofs.YtfnafjohfmlniaaDoor.PCr
