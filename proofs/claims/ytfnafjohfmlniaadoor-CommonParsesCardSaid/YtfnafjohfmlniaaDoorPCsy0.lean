-- Written for this claim by a program (printed texts under one roof).
import Derived.Test.YtfnafjohfmlniaaDoorPCsx0
-- Written for this claim by a program (the kit's print, with hand-made contracts for what it does not take).
namespace Go.Proofs.YtfnafjohfmlniaaDoor.PCs
open Go.RowKit Go.Proofs.YtfnafjohfmlniaaDoorW.PrintWords Go.Proofs.YtfnafjohfmlniaaDoorW.PrintLast Go.Proofs.YtfnafjohfmlniaaDoorW.PrintMore
attribute [local go_sem] max2_int min2_int max_two min_two max_three min_three max_four min_four   -- for this text's walks alone
set_option linter.unusedVariables false
set_option linter.unusedSimpArgs false

theorem eqA43 (d : Nat) (w : World) (x0 y0 : Int) (x1 y1 : Int) (x2 y2 : Int) (x3 y3 : Int) :
    (Op.equalIn (d + 2) 43 (.agg #[.int .i64 x0, .int .i64 x1, .int .i64 x2, .int .i64 x3]) (.agg #[.int .i64 y0, .int .i64 y1, .int .i64 y2, .int .i64 y3])).run Tryd.prog w = .ok (x0 == y0 && (x1 == y1 && (x2 == y2 && (x3 == y3)))) w := by
  refine eqA_of Tryd.underlying43 (by kernel_rfl) ?_
  refine eqf_cons (by rfl) (by go_simp; rfl) (by go_simp; rfl) (by go_simp) ?_
  refine eqf_cons (by rfl) (by go_simp; rfl) (by go_simp; rfl) (by go_simp) ?_
  refine eqf_cons (by rfl) (by go_simp; rfl) (by go_simp; rfl) (by go_simp) ?_
  exact eqf_last (by rfl) (by go_simp; rfl) (by go_simp; rfl) (by go_simp)
end Go.Proofs.YtfnafjohfmlniaaDoor.PCs
-- Written for this claim by a program (the kit's print, with hand-made contracts for what it does not take).
namespace Go.Proofs.YtfnafjohfmlniaaDoor.PCs
open Go.RowKit Go.Proofs.YtfnafjohfmlniaaDoorW.PrintWords Go.Proofs.YtfnafjohfmlniaaDoorW.PrintLast Go.Proofs.YtfnafjohfmlniaaDoorW.PrintMore
attribute [local go_sem] max2_int min2_int max_two min_two max_three min_three max_four min_four   -- for this text's walks alone
set_option linter.unusedVariables false
set_option linter.unusedSimpArgs false

/-! ### common_line_at: function 33 -/
/-! ### What a line holds that is read as others write it -/
abbrev Tt : Bool := true
abbrev Ff : Bool := false
/-- What a pointer of a struct's own leads to. -/
def PtrR {β : Type} (t : Nat) (enc : β → Array Value) (w : World) (ok : Nat → Prop) (v : Value) : Option β → Prop
  | none => v = .pointer none
  | some b => ∃ g : Nat, v = .pointer (some ⟨g, 0, none⟩) ∧ ok g ∧ w.heap[g]? = some (.cells (enc b) t (0, 0))
theorem PtrR.imp {β : Type} {t : Nat} {enc : β → Array Value} {w w1 : World} {ok ok' : Nat → Prop} {v : Value} {x : Option β} (h : PtrR t enc w ok v x) (hk : ∀ g cs, ok g → w.heap[g]? = some (.cells cs t (0, 0)) → ok' g ∧ w1.heap[g]? = w.heap[g]?) : PtrR t enc w1 ok' v x := by
  cases x with
  | none => exact h
  | some b =>
    obtain ⟨g, h1, h2, h3⟩ := h
    obtain ⟨h4, h5⟩ := hk g _ h2 h3
    exact ⟨g, h1, h4, h5.trans h3⟩
/-- The kind of a pointer to a struct of type t that is never written again, or none. -/
def ptrKd {β : Type} (t : Nat) (enc : β → Array Value) : Kd (Option β) where
  sz := 1
  E := [t]
  K := fun w x cs => ∃ v, cs = [v] ∧ PtrR t enc w (fun _ => True) v x
  M := fun w base ok x cs => ∃ v, cs = [v] ∧ PtrR t enc w (fun k => ok k ∧ base ≤ k) v x
  K_len := by
    rintro w x cs ⟨v, rfl, _⟩
    rfl
  K_one := by
    rintro w x cs ⟨v, rfl, h⟩ u hu
    rw [List.mem_singleton.1 hu]
    cases x with
    | none => rw [show v = _ from h]; rfl
    | some b => obtain ⟨g, rfl, _⟩ := h; rfl
  K_below := by
    rintro w w1 x cs hb ⟨v, rfl, h⟩
    exact ⟨v, rfl, h.imp (fun g cs _ hg => ⟨trivial, hb.block g (blk_lt hg)⟩)⟩
  K_of_M := by
    rintro w base ok x cs ⟨v, rfl, h⟩
    exact ⟨v, rfl, h.imp (fun _ _ _ _ => ⟨trivial, rfl⟩)⟩
  M_mono := by
    rintro w base ok ok' x cs hok ⟨v, rfl, h⟩
    exact ⟨v, rfl, h.imp (fun g _ hg _ => ⟨⟨hok g hg.1, hg.2⟩, rfl⟩)⟩
  M_bound := by
    rintro w base ok x cs ⟨v, rfl, h⟩
    exact ⟨v, rfl, h.imp (fun g cs hg hc => ⟨⟨⟨hg.1, hg.2, blk_lt hc, t, List.mem_singleton.2 rfl, _, hc⟩, hg.2⟩, rfl⟩)⟩
  M_move := by
    rintro w w1 base ok x cs hm ⟨v, rfl, h⟩
    exact ⟨v, rfl, h.imp (fun g _ hg _ => ⟨hg, hm g hg.1⟩)⟩
  M_lower := by
    rintro w base base' ok x cs hb ⟨v, rfl, h⟩
    exact ⟨v, rfl, h.imp (fun g _ hg _ => ⟨⟨hg.1, Nat.le_trans hb hg.2⟩, rfl⟩)⟩
/-- A part: a code point that is told, or a run with signs that are left. -/
structure Prt where
  tok : S43
  run : Option S38
  left : Int
  passed : Bool
def encRun (r : S38) : Array Value := #[.int .i64 r.f0, .int .i64 r.f1, .int .u8 r.f2, .bool r.f3, .bool r.f4]
def kPrt : Kd Prt := Kd.iso (Kd.pair k43 (Kd.pair (ptrKd 38 encRun) (Kd.pair (Kd.int .i64) Kd.bool))) (fun x : Prt => (x.tok, x.run, x.left, x.passed))
def zPrt : Prt := ⟨⟨0, 0, 0, 0⟩, none, 0, false⟩
def prtAt (l : List Prt) (i : Int) : Prt := l.getD i.toNat zPrt
theorem kPrt_open {w : World} {x : Prt} {cs : List Value} (h : kPrt.K w x cs) : ∃ v, cs = [.int .i64 x.tok.f0, .int .i64 x.tok.f1, .int .i64 x.tok.f2, .int .i64 x.tok.f3, v, .int .i64 x.left, .bool x.passed] ∧ PtrR 38 encRun w (fun _ => True) v x.run := by
  obtain ⟨_, _, rfl, h1, _, _, rfl, ⟨v, rfl, h2⟩, _, _, rfl, rfl, rfl⟩ := h
  rw [k43_open h1]
  exact ⟨v, rfl, h2⟩
theorem kPrt_openM {w : World} {base : Nat} {ok : Nat → Prop} {x : Prt} {cs : List Value} (h : kPrt.M w base ok x cs) : ∃ v, cs = [.int .i64 x.tok.f0, .int .i64 x.tok.f1, .int .i64 x.tok.f2, .int .i64 x.tok.f3, v, .int .i64 x.left, .bool x.passed] ∧ PtrR 38 encRun w (fun k => ok k ∧ base ≤ k) v x.run := by
  obtain ⟨_, _, rfl, h1, _, _, rfl, ⟨v, rfl, h2⟩, _, _, rfl, rfl, rfl⟩ := h
  rw [k43_open (k43.K_of_M h1)]
  exact ⟨v, rfl, h2⟩
theorem kPrt_mkM {w : World} {base : Nat} {ok : Nat → Prop} (x : Prt) {v : Value} (h : PtrR 38 encRun w (fun k => ok k ∧ base ≤ k) v x.run) : kPrt.M w base ok x [.int .i64 x.tok.f0, .int .i64 x.tok.f1, .int .i64 x.tok.f2, .int .i64 x.tok.f3, v, .int .i64 x.left, .bool x.passed] :=
  ⟨[.int .i64 x.tok.f0, .int .i64 x.tok.f1, .int .i64 x.tok.f2, .int .i64 x.tok.f3], [v, .int .i64 x.left, .bool x.passed], rfl, k43_mkM _ _ _ _, [v], [.int .i64 x.left, .bool x.passed], rfl, ⟨v, rfl, h⟩, [.int .i64 x.left], [.bool x.passed], rfl, rfl, rfl⟩
theorem info57 : (Tryd.prog.info? 57).map (fun i => (i.zero, i.size, i.bytes)) = some (some (.agg #[.int .i64 0, .int .i64 0, .int .i64 0, .int .i64 0, .pointer none, .int .i64 0, .bool false]), 7, 56) := by kernel_rfl
/-- A line at a place: its code points, its parts. -/
structure common_L (B b : Nat) (A : Option Addr) (c : Nat) (p : List S79) (out : List Prt) (W : World) : Prop where
  ex : ∃ vo, W.heap[b]? = some (.cells #[.slice A p.length c, vo] 54 (0, 0)) ∧ Kd.R k79 79 W B (fun _ => True) (.slice A p.length c) p ∧ Kd.R kPrt 57 W B (fun _ => True) vo out
  base : B ≤ b
theorem common_L.below {B b : Nat} {A : Option Addr} {c : Nat} {p : List S79} {out : List Prt} {W W1 : World} (h : common_L B b A c p out W) (hb : Below W.heap.size W W1) : common_L B b A c p out W1 := by
  obtain ⟨⟨vo, h1, h2, h3⟩, h4⟩ := h
  exact ⟨⟨vo, blk_below h1 hb, Kd.R_below h2 hb, Kd.R_below h3 hb⟩, h4⟩
/-- What a walk reads of it. -/
theorem common_L.open {B b : Nat} {A : Option Addr} {c : Nat} {p : List S79} {out : List Prt} {W : World} (h : common_L B b A c p out W) : ∃ Ao co, W.heap[b]? = some (.cells #[.slice A p.length c, .slice Ao out.length co] 54 (0, 0)) ∧ Kd.R k79 79 W B (fun _ => True) (.slice A p.length c) p ∧ Kd.R kPrt 57 W B (fun _ => True) (.slice Ao out.length co) out ∧ B ≤ b := by
  obtain ⟨⟨vo, h1, h2, h3⟩, h4⟩ := h
  obtain ⟨Ao, co, rfl⟩ := Kd.R_slice h3
  exact ⟨Ao, co, h1, h2, h3, h4⟩
/-- The code point at a place; a blank beyond. -/
def common_at.f (p : List S79) (i : Int) : Int := if i < 0 then 32 else if (p.length : Int) ≤ i then 32 else (rd_T79 p i).f0
set_option maxRecDepth 100000 in
theorem common_at.calls (B b : Nat) (A : Option Addr) (c : Nat) (p : List S79) (out : List Prt) (i : Int) (w : World) (h : common_L B b A c p out w) :
    Calls Tryd.prog 33 #[.pointer (some ⟨b, 0, none⟩), .int .i64 i] w fun e w' => e = .returned (.int .i32 (common_at.f p i)) ∧ Below w.heap.size w w' := by
  have hu54 := Tryd.underlying54
  have hu79 := Tryd.underlying79
  obtain ⟨Ao, co, h1, h2, h3, h4⟩ := h.open
  have s0 : w.cell? ⟨b, 0, none⟩ = some (.slice A p.length c) := (blk_cell h1 0).trans rfl
  have H2 := Aside0.mk h2
  clear h h1 h2 h3 h4
  unfold common_at.f
  by_cases n1 : i < 0
  · have n1b : decide (i < 0) = true := decide_eq_true n1
    rw [if_pos n1]
    clear n1
    go_enter Tryd.func33, Tryd.ntmps33
    go_wp2
    go_ret
    exact ⟨rfl, Below.refl _ _⟩
  · have n1b : decide (i < 0) = false := decide_eq_false n1
    rw [if_neg n1]
    by_cases n2 : (p.length : Int) ≤ i
    · have n2b : decide ((p.length : Int) ≤ i) = true := decide_eq_true n2
      rw [if_pos n2]
      clear n1 n2
      go_enter Tryd.func33, Tryd.ntmps33
      go_wp2
      go_ret
      exact ⟨rfl, Below.refl _ _⟩
    · have n2b : decide ((p.length : Int) ≤ i) = false := decide_eq_false n2
      rw [if_neg n2]
      have i0 : 0 ≤ i := by omega
      have i1 : i < (p.length : Int) := by omega
      obtain ⟨ad, eA, x0, x1⟩ := at_T79 (Kd.R_reads' H2.out).2.2 i i0 i1
      subst eA
      have i0t := eq_true i0
      have i1t := eq_true i1
      clear n1 n2 i0 i1
      go_enter Tryd.func33, Tryd.ntmps33
      go_wp2
      go_ret
      exact ⟨rfl, Below.refl _ _⟩

/-! ### common_points: function 17 -/

theorem u8_below {g3 g4 : Nat} {w W : World} (h : Lib.Utf8Tabs g3 g4 w) (hb : Below w.heap.size w W) : Lib.Utf8Tabs g3 g4 W :=
  ⟨fun c hc => (hb.cell (World.block_lt_of_cell? w _ (h.1 c hc))).trans (h.1 c hc), fun i hi => ⟨(hb.cell (World.block_lt_of_cell? w _ (h.2 i hi).1)).trans (h.2 i hi).1, (hb.cell (World.block_lt_of_cell? w _ (h.2 i hi).2)).trans (h.2 i hi).2⟩⟩
theorem iter_R {α : Type} {d : Kd α} {e : Nat} {W : World} {base : Nat} {ok : Nat → Prop} {v : Value} {xs : List α} (h : d.R e W base ok v xs) {k : Nat} {s : ByteArray} {pos : Nat} (hk : W.heap[k]? = some (.stringIter s pos)) (pos' : Nat) : d.R e (W.iterAt k s pos') base ok v xs := by
  refine Kd.R_mono (Kd.R_grown (Kd.R_bound h) (row := some k) ⟨rfl, rfl, rfl, by rw [Lib.iterAt_size]; exact Nat.le_refl _, fun i _ hne => Lib.iterAt_other W k i s pos' (fun e => hne (by rw [e]))⟩ ?_) (fun _ h => h.1)
  rintro j ⟨_, _, _, q, _, cells, hc⟩ e
  injection e with e
  subst e
  rw [hk] at hc
  cases hc
/-- A string's code point at a place. -/
def rune (s : ByteArray) (i : Nat) : Int := ((Utf8.decode s i).1 : Int)
def width (s : ByteArray) (i : Nat) : Nat := (Utf8.decode s i).2
theorem width_pos (s : ByteArray) (i : Nat) (h : i < s.size) : 1 ≤ width s i ∧ i + width s i ≤ s.size := by
  unfold width
  rw [Lib.decode_at]
  unfold Lib.decodeN
  repeat' split
  all_goals (dsimp only; omega)
theorem rune_le (s : ByteArray) (i : Nat) : 0 ≤ rune s i ∧ rune s i ≤ 1114111 := by
  unfold rune
  rw [Lib.decode_at]
  have h0 := (s.get! i).toNat_lt
  unfold Lib.decodeN
  repeat' split
  all_goals (dsimp only; omega)
theorem common_dec (s : ByteArray) (i : Nat) (hi : i < s.size) (w : World) (hT : Lib.Utf8Tabs 0 1 w) :
    Calls Tryd.prog 26 #[.string (s.extract i s.size)] w fun e w' => e = .returned (.tuple #[.int .i32 (rune s i), .int .i64 (width s i : Int)]) ∧ Below w.heap.size w w' := by
  have h := Tryd.utf8_DecodeRuneInString (s.extract i s.size) w hT
  have e : Lib.decodeGo (s.extract i s.size) = Utf8.decode s i := by
    unfold Lib.decodeGo
    rw [if_neg (by rw [ByteArray.size_extract]; omega), Lib.tail_decode, Nat.add_zero]
  rw [e] at h
  exact h
def common_points.scan (s : ByteArray) : Nat → Nat → Option Nat × List S79
  | 0, _ => (none, [])
  | f + 1, i => if i < s.size then (if rune s i = 10 ∨ (rune s i = 65533 ∧ width s i = 1) then (some i, []) else ((common_points.scan s f (i + width s i)).1, (⟨rune s i, (i : Int)⟩ : S79) :: (common_points.scan s f (i + width s i)).2)) else (none, [])
def common_points.res (s : ByteArray) (x : Option Nat × List S79) : List S79 × Int × Int :=
  match x.1 with
  | some i => ([], (i : Int), 4)
  | none => (x.2, (s.size : Int), 0)
def common_points.f (s : ByteArray) : List S79 × Int × Int := if s.size > 4000 then ([], 0, 2) else common_points.res s (common_points.scan s s.size 0)
def common_points.Post (r : List S79 × Int × Int) (w : World) (e : Ending) (w' : World) : Prop := ∃ v0_ : Value, e = .returned (.tuple #[v0_, .int .i64 r.2.1, .int .i64 r.2.2]) ∧ Kd.R k79 79 w' w.heap.size (fun _ => True) v0_ r.1 ∧ Below w.heap.size w w'
structure common_points.P1 (s : ByteArray) (w : World) (v : Value) (pos fuel : Nat) (acc : List S79) (full : Option Nat × List S79) (wr : World) : Prop where
  it : wr.heap[w.heap.size]? = some (.stringIter s pos)
  row : Kd.R k79 79 wr w.heap.size (fun _ => True) v acc
  below : Below w.heap.size w wr
  rest : full = ((common_points.scan s fuel pos).1, acc ++ (common_points.scan s fuel pos).2)
  fuel : s.size ≤ pos + fuel
  le : pos ≤ s.size
  len : acc.length ≤ pos
set_option maxHeartbeats 16000000 in
set_option maxRecDepth 100000 in
theorem common_points.calls (a0 : ByteArray) (w : World) (hT_ : Lib.Utf8Tabs 0 1 w) :
    Calls Tryd.prog 17 #[.string a0] w (common_points.Post (common_points.f a0) w) := by
  have hu79 := Tryd.underlying79
  have HT := Aside0.mk hT_
  clear hT_
  unfold common_points.f
  by_cases hl : a0.size > 4000
  · rw [if_pos hl]
    have b1 : decide ((4000 : Int) < (a0.size : Int)) = true := decide_eq_true (by omega)
    have b2 : decide (4000 < a0.size) = true := decide_eq_true hl
    clear hl
    go_enter Tryd.func17, Tryd.ntmps17
    go_wp2
    go_ret3
    exact ⟨_, rfl, Kd.R_nil _ _ _ _ _, Below.refl _ _⟩
  · rw [if_neg hl]
    obtain ⟨full, hfull⟩ : ∃ x, x = common_points.scan a0 a0.size 0 := ⟨_, rfl⟩
    rw [← hfull]
    have HL := Aside0.mk (show a0.size ≤ 4000 by omega)
    have b1 : decide ((4000 : Int) < (a0.size : Int)) = false := decide_eq_false (by omega)
    have b2 : decide (4000 < a0.size) = false := decide_eq_false hl
    have HF := Aside0.mk hfull
    clear hl hfull
    go_enter Tryd.func17, Tryd.ntmps17
    go_wp2
    go_loopw [5] (fun v5 wr => ∃ (pos fuel : Nat) (acc : List S79), Aside0 (common_points.P1 a0 w v5 pos fuel acc full wr)) (fun _ wr => a0.size - wr.iterPos w.heap.size)
    case atStart =>
      refine ⟨0, a0.size, [], ⟨⟨World.iter_heap w a0 0, Kd.R_nil _ _ _ _ _, (Below.refl _ w).alloc (Nat.le_refl _) _, ?_, by omega, Nat.zero_le _, Nat.zero_le _⟩⟩⟩
      rw [List.nil_append]
      exact HF.out
    case round =>
      clear HF b1 b2
      obtain ⟨pos, fuel, acc, HP⟩ := hrel
      by_cases hp : pos < a0.size
      · have hnx : ∀ ty, (Instr.next (.pointer (some ⟨w.heap.size, 0, none⟩)) true ty).run Tryd.prog wr = .ok (.tuple #[.bool true, .int .i64 pos, .int .i32 (rune a0 pos)]) (wr.iterAt w.heap.size a0 (pos + width a0 pos)) := fun ty => Lib.run_next_any_at wr w.heap.size a0 pos ty HP.out.it hp
        obtain ⟨wp1, wp2⟩ := width_pos a0 pos hp
        have it2 := Lib.iterAt_heap wr w.heap.size a0 pos (pos + width a0 pos) HP.out.it
        have bl2 := Lib.below_iterAt HP.out.below (k := w.heap.size) (Nat.le_refl _) a0 (pos + width a0 pos)
        have rw2 := iter_R HP.out.row HP.out.it (pos + width a0 pos)
        obtain ⟨f, rfl⟩ : ∃ f, fuel = f + 1 := ⟨fuel - 1, by have := HP.out.fuel; omega⟩
        have rest := HP.out.rest
        simp only [common_points.scan] at rest
        rw [if_pos hp] at rest
        have cD := common_dec a0 pos hp (wr.iterAt w.heap.size a0 (pos + width a0 pos)) (u8_below HT.out bl2)
        have itp : wr.iterPos w.heap.size = pos := by simp only [World.iterPos, HP.out.it]
        have fu := HP.out.fuel
        have le := HP.out.len
        obtain ⟨n, hn⟩ : ∃ n, n = width a0 pos := ⟨_, rfl⟩
        obtain ⟨c, hc⟩ : ∃ c, c = rune a0 pos := ⟨_, rfl⟩
        rw [← hn, ← hc] at hnx cD rest
        rw [← hn] at it2 bl2 rw2 wp1 wp2
        clear hn hc HP
        generalize wr.iterAt w.heap.size a0 (pos + n) = W2 at *
        have p0 : (0 : Int) ≤ (pos : Int) := by omega
        have p1 : (pos : Int) ≤ (a0.size : Int) := by omega
        have IT2 := Aside0.mk it2
        have BL2 := Aside0.mk bl2
        have RW2 := Aside0.mk rw2
        have REST := Aside0.mk rest
        have WP := Aside0.mk (And.intro wp1 wp2)
        have ITP := Aside0.mk itp
        have FU := Aside0.mk fu
        have LE := Aside0.mk le
        obtain ⟨nI, hnI⟩ : ∃ x : Int, x = (n : Int) := ⟨_, rfl⟩
        rw [← hnI] at cD
        have NI := Aside0.mk hnI
        clear it2 bl2 rw2 rest wp1 wp2 itp fu le hnI
        by_cases c3 : c = 10
        · have c3b : (c == 10) = true := beq_iff_eq.mpr c3
          have R2 := Aside0.mk (show common_points.res a0 full = ([], (pos : Int), 4) from by rw [REST.out, if_pos (.inl c3)]; rfl)
          clear c3 cD
          go_wp2
          go_ret3
          exact by rw [R2.out]; exact ⟨_, rfl, Kd.R_nil _ _ _ _ _, BL2.out⟩
        · have c3b : (c == 10) = false := beq_eq_false_iff_ne.mpr c3
          by_cases c1 : c = 65533
          · have c1b : (c == 65533) = true := beq_iff_eq.mpr c1
            by_cases c2 : nI = 1
            · have c2b : (nI == 1) = true := beq_iff_eq.mpr c2
              have R2 := Aside0.mk (show common_points.res a0 full = ([], (pos : Int), 4) from by rw [REST.out, if_pos (.inr ⟨c1, by have := NI.out; omega⟩)]; rfl)
              clear c1 c2 c3
              go_wp2_with fail
              refine cD.mono ?_
              rintro e w3 ⟨rfl, hb⟩
              have B3 := Aside0.mk (below_step BL2.out hb)
              clear hb cD hnx
              go_wp2
              go_ret3
              exact by rw [R2.out]; exact ⟨_, rfl, Kd.R_nil _ _ _ _ _, B3.out⟩
            · have c2b : (nI == 1) = false := beq_eq_false_iff_ne.mpr c2
              have hbad : ¬ (c = 10 ∨ (c = 65533 ∧ n = 1)) := by have := NI.out; omega
              rw [if_neg hbad] at REST
              clear c1 c2 c3 hbad
              go_wp2_with fail
              refine cD.mono ?_
              rintro e w3 ⟨rfl, hb⟩
              have B3 := Aside0.mk (below_step BL2.out hb)
              have R3 := Aside0.mk (Kd.R_below RW2.out hb)
              have I3 := Aside0.mk (show w3.heap[w.heap.size]? = some (.stringIter a0 (pos + n)) from (hb.block _ (Array.getElem?_eq_some_iff.1 IT2.out).1).trans IT2.out)
              clear hb cD hnx RW2 IT2
              go_wp2_with (first | (at_builtin; refine Kd.R_append k79 (w0 := w) w.heap.size rfl (.tmp 34) (.tmp 38) 48 79 (.agg #[.int .i32 0, .int .i64 0]) 16 rfl Tryd.underlying48 info79 rfl (by decide) (by decide) u5 acc (⟨c, (pos : Int)⟩ : S79) [.int .i32 c, .int .i64 (pos : Int)] (fun _ => True) (fun _ => False) rfl rfl (k79_mkM _ _ _ _) (fun _ h => h.elim) (fun _ _ => trivial) R3.out B3.out B3.out.size (by have := LE.out; have := HL.out; have := WP.out; omega) ?_; intro v1 w8 ho hb hg hat; have n0_ := Aside0.mk (show common_points.P1 a0 w v1 (pos + n) f (acc ++ [(⟨c, (pos : Int)⟩ : S79)]) full w8 from ⟨(hg.block _ (Array.getElem?_eq_some_iff.1 I3.out).1 (fun e_ => by obtain ⟨_, hc_⟩ := Kd.R_typed R3.out _ e_.symm; rw [I3.out] at hc_; cases hc_)).trans I3.out, ho, hb, by rw [REST.out]; simp only [List.append_assoc, List.cons_append, List.nil_append], by have := FU.out; have := WP.out; omega, WP.out.2, by rw [List.length_append, List.length_singleton]; have := LE.out; have := WP.out; omega⟩); clear ho hb hg hat R3 B3 I3))
              go_roundw
              case rel => exact ⟨_, _, _, n0_⟩
              case measure => simp only [World.iterPos, n0_.out.it]; have := ITP.out; simp only [World.iterPos] at this; rw [this]; have := WP.out; omega
          · have c1b : (c == 65533) = false := beq_eq_false_iff_ne.mpr c1
            have hbad : ¬ (c = 10 ∨ (c = 65533 ∧ n = 1)) := by omega
            rw [if_neg hbad] at REST
            have B3 := BL2
            have R3 := RW2
            have I3 := IT2
            clear c1 c3 hbad cD RW2 IT2
            go_wp2_with (first | (at_builtin; refine Kd.R_append k79 (w0 := w) w.heap.size rfl (.tmp 34) (.tmp 38) 48 79 (.agg #[.int .i32 0, .int .i64 0]) 16 rfl Tryd.underlying48 info79 rfl (by decide) (by decide) u5 acc (⟨c, (pos : Int)⟩ : S79) [.int .i32 c, .int .i64 (pos : Int)] (fun _ => True) (fun _ => False) rfl rfl (k79_mkM _ _ _ _) (fun _ h => h.elim) (fun _ _ => trivial) R3.out B3.out B3.out.size (by have := LE.out; have := HL.out; have := WP.out; omega) ?_; intro v1 w8 ho hb hg hat; have n0_ := Aside0.mk (show common_points.P1 a0 w v1 (pos + n) f (acc ++ [(⟨c, (pos : Int)⟩ : S79)]) full w8 from ⟨(hg.block _ (Array.getElem?_eq_some_iff.1 I3.out).1 (fun e_ => by obtain ⟨_, hc_⟩ := Kd.R_typed R3.out _ e_.symm; rw [I3.out] at hc_; cases hc_)).trans I3.out, ho, hb, by rw [REST.out]; simp only [List.append_assoc, List.cons_append, List.nil_append], by have := FU.out; have := WP.out; omega, WP.out.2, by rw [List.length_append, List.length_singleton]; have := LE.out; have := WP.out; omega⟩); clear ho hb hg hat R3 B3 I3))
            go_roundw
            case rel => exact ⟨_, _, _, n0_⟩
            case measure => simp only [World.iterPos, n0_.out.it]; have := ITP.out; simp only [World.iterPos] at this; rw [this]; have := WP.out; omega
      · have hnx : ∀ ty, (Instr.next (.pointer (some ⟨w.heap.size, 0, none⟩)) true ty).run Tryd.prog wr = .ok (.tuple #[.bool false]) wr := fun ty => Lib.run_next_end_at wr w.heap.size a0 pos ty HP.out.it hp
        have hfull : full = (none, acc) := by
          rw [HP.out.rest]
          cases fuel with
          | zero => simp [common_points.scan]
          | succ f => simp [common_points.scan, hp]
        have hR : common_points.res a0 full = (acc, (a0.size : Int), 0) := by rw [hfull]; rfl
        have HX := Aside0.mk hR
        have HB := Aside0.mk HP.out.below
        have HR := Aside0.mk HP.out.row
        clear hp hfull hR HP HT
        go_wp2
        go_ret3
        exact by rw [HX.out]; exact ⟨_, rfl, HR.out, HB.out⟩

end Go.Proofs.YtfnafjohfmlniaaDoor.PCs
-- Written for this claim by a program (the kit's print, with hand-made contracts for what it does not take).
namespace Go.Proofs.YtfnafjohfmlniaaDoor.PCs
open Go.RowKit Go.Proofs.YtfnafjohfmlniaaDoorW.PrintWords Go.Proofs.YtfnafjohfmlniaaDoorW.PrintLast Go.Proofs.YtfnafjohfmlniaaDoorW.PrintMore
attribute [local go_sem] max2_int min2_int max_two min_two max_three min_three max_four min_four   -- for this text's walks alone
set_option linter.unusedVariables false
set_option linter.unusedSimpArgs false

/-! ### common_line_row: function 27 -/
/-! ### How many of one code point stand at a place -/
def common_row.rest (p : List S79) (i n : Int) : Int := (((p.drop (i + n).toNat).takeWhile (fun x => x.f0 == (rd_T79 p i).f0)).length : Int)
def common_row.f (p : List S79) (i : Int) : Int := 1 + common_row.rest p i 1
theorem common_row.rest_end (p : List S79) (i n : Int) (h : (p.length : Int) ≤ i + n) : common_row.rest p i n = 0 := by
  unfold common_row.rest
  rw [List.drop_eq_nil_of_le (by omega)]
  rfl
theorem common_row.rest_step (p : List S79) (i n : Int) (h0 : 0 ≤ i + n) (h : i + n < (p.length : Int)) : common_row.rest p i n = if (rd_T79 p (i + n)).f0 = (rd_T79 p i).f0 then 1 + common_row.rest p i (n + 1) else 0 := by
  unfold common_row.rest
  have e : rd_T79 p (i + n) = p[(i + n).toNat]'(by omega) := by simp [rd_T79, List.getD_eq_getElem?_getD, List.getElem?_eq_getElem (show (i + n).toNat < p.length by omega)]
  rw [List.drop_eq_getElem_cons (show (i + n).toNat < p.length by omega), List.takeWhile_cons, ← e, show (i + (n + 1)).toNat = (i + n).toNat + 1 by omega]
  by_cases c : (rd_T79 p (i + n)).f0 = (rd_T79 p i).f0
  · rw [if_pos c, if_pos (by simpa using c), List.length_cons]
    omega
  · rw [if_neg c, if_neg (by simpa using c)]
    rfl
theorem common_row.rest_bound (p : List S79) (i n : Int) (h0 : 0 ≤ i + n) (h : i + n ≤ (p.length : Int)) : 0 ≤ common_row.rest p i n ∧ i + n + common_row.rest p i n ≤ (p.length : Int) := by
  unfold common_row.rest
  have := (List.takeWhile_prefix (l := p.drop (i + n).toNat) (fun x => x.f0 == (rd_T79 p i).f0)).length_le
  rw [List.length_drop] at this
  omega
theorem common_row.bound (p : List S79) (i : Int) (h0 : 0 ≤ i) (h : i < (p.length : Int)) : 1 ≤ common_row.f p i ∧ i + common_row.f p i ≤ (p.length : Int) := by
  have := common_row.rest_bound p i 1 (by omega) (by omega)
  unfold common_row.f
  omega
def common_row.T2 : Bool × List (List Nat × List Nat) := (true, [([], []), ([], []), ([0, 1], [0, 1]), ([], []), ([3], [3]), ([4], [4]), ([5], [5]), ([6], [6]), ([2, 7], [2, 7]), ([8], [8]), ([9], [9]), ([10, 9], [9, 10]), ([11, 9], [9, 11]), ([12, 9], [9, 12]), ([9], [9]), ([9], [9]), ([14, 15, 9], [9, 14, 15]), ([13, 16, 9], [9, 13, 16]), ([17, 9], [9, 17]), ([18, 9], [9, 18]), ([9], [9]), ([20, 9], [9, 20]), ([21, 9], [9, 21]), ([22, 9], [9, 22]), ([9], [9]), ([23, 24, 9], [9, 23, 24]), ([25, 9], [9, 25]), ([26, 9], [9, 26]), ([19, 27, 9], [9, 19, 27]), ([9, 28], [9, 28])])
def common_row.B2 : List Nat := [0, 0, 3, 0, 8, 24, 56, 120, 255, 511, 1023, 2047, 4095, 8191, 1023, 1023, 50175, 131071, 262143, 524287, 1023, 1049599, 3146751, 7341055, 1023, 32506879, 66061311, 133170175, 268435455, 536870911]
theorem common_row.tab2 : rtab .any (opsOf Tryd.f27 2) = common_row.T2 := by kernel_rfl
theorem common_row.bits2 : waitsOk common_row.T2.2 common_row.B2 = true := by kernel_rfl
set_option maxRecDepth 100000 in
set_option maxHeartbeats 8000000 in
theorem common_row.calls (B b : Nat) (A : Option Addr) (c : Nat) (p : List S79) (out : List Prt) (i : Int) (w : World) (h : common_L B b A c p out w) (hp : p.length ≤ 4000) (h0 : 0 ≤ i) (hi : i < (p.length : Int)) :
    Calls Tryd.prog 27 #[.pointer (some ⟨b, 0, none⟩), .int .i64 i] w fun e w' => e = .returned (.int .i64 (common_row.f p i)) ∧ Below w.heap.size w w' := by
  have hu54 := Tryd.underlying54
  have hu79 := Tryd.underlying79
  have HL := Aside0.mk h
  have HN := Aside0.mk (And.intro hp (And.intro h0 hi))
  clear h hp h0 hi
  go_enter Tryd.func27, Tryd.ntmps27
  go_wp2
  go_loopg [5] p.length (fun kq v5 w' => ∃ n : Int, v5 = .int .i64 n ∧ Aside0 (1 ≤ n ∧ i + n ≤ (p.length : Int) ∧ i + n + kq = p.length + 1 + i ∧ common_row.f p i = n + common_row.rest p i n ∧ Below w.heap.size w w'))
  case atStart => exact ⟨1, rfl, ⟨by omega, by have := HN.out; omega, by omega, rfl, Below.refl _ _⟩⟩
  case round =>
    obtain ⟨n, rfl, HI⟩ := hrel
    have hn : i + n ≤ (p.length : Int) := HI.out.2.1
    have hw : wrap64 (i + n) = i + n := by have := HN.out; have := HI.out; unfold wrap64; omega
    have hw1 : wrap64 (n + 1) = n + 1 := by have := HN.out; have := HI.out; unfold wrap64; omega
    obtain ⟨Ao, co, h1, h2, h3, h4⟩ := (HL.out.below HI.out.2.2.2.2).open
    have s0 : wr.cell? ⟨b, 0, none⟩ = some (.slice A p.length c) := (blk_cell h1 0).trans rfl
    have HC := Aside0.mk (Kd.R_reads' h2).2.2
    clear h1 h2 h3 h4
    by_cases c5 : i + n < (p.length : Int)
    · have c5b : decide (i + n < (p.length : Int)) = true := decide_eq_true c5
      have z0 : 0 ≤ i + n := by have := HN.out; have := HI.out; omega
      have z0t := eq_true z0
      have c5t := eq_true c5
      have i0t := eq_true HN.out.2.1
      have i1t := eq_true HN.out.2.2
      obtain ⟨ad, eA, x0, _⟩ := at_T79 HC.out (i + n) z0 c5
      subst eA
      obtain ⟨ad_, eA, y0, _⟩ := at_T79 HC.out i HN.out.2.1 HN.out.2.2
      cases eA
      have ST := Aside0.mk (common_row.rest_step p i n z0 c5)
      clear z0 c5 hn
      by_cases c6 : (rd_T79 p (i + n)).f0 = (rd_T79 p i).f0
      · have c6b : ((rd_T79 p (i + n)).f0 == (rd_T79 p i).f0) = true := beq_iff_eq.mpr c6
        have ST2 := Aside0.mk (ST.out.trans (if_pos c6))
        clear c6 ST
        go_wp2
        refine start_ (n := 30) (S := fun w' => w'.cell? ⟨b, 0, none⟩ = some (.slice (some ad) p.length c) ∧ w'.cell? (ad.add ((i + n).toNat * 2)) = some (.int .i32 (rd_T79 p (i + n)).f0) ∧ w'.cell? (ad.add (i.toNat * 2)) = some (.int .i32 (rd_T79 p i).f0)) (ds := []) #[Ff,Ff,Ff,Ff,Ff,Ff,Ff,Ff,Ff,Ff,Ff,Ff,Ff,Ff,Ff,Ff,Ff,Ff,Ff,Ff,Ff,Ff,Ff,Ff,Ff,Ff,Ff,Ff,Ff,Ff] (by kernel_rfl) rfl rfl ⟨s0, x0, y0⟩ (fun hHeld => ?_)
        refine with_tabW common_row.tab2 common_row.bits2 (fun HT_ HW_ => ?_)
        have HB := Aside0.mk (show Below w.heap.size w wr.drew from Below.drew HI.out.2.2.2.2)
        clear s0 x0 y0
        generalize wr.drew = w2 at *
        refine pure_ (i := 0) (N := some 6) (v := ?_) (a' := ?_) #[Tt,Ff,Ff,Ff,Ff,Ff,Ff,Ff,Ff,Ff,Ff,Ff,Ff,Ff,Ff,Ff,Ff,Ff,Ff,Ff,Ff,Ff,Ff,Ff,Ff,Ff,Ff,Ff,Ff,Ff] rfl rfl (any_of HT_.out (by kernel_rfl)) (fun _ _ _ h => h) (Or.inl ⟨by rfl, ?_⟩) ?_ ?_;rotate_left;(intro w';go_simp;with_reducible rfl);rotate_left;(simp only [Act.put, List.setIfInBounds_toArray, List.set_cons_zero, List.set_cons_succ, i64_w, i32_w];rfl)
        refine pure_ (i := 1) (N := some 7) (v := ?_) (a' := ?_) #[Tt,Tt,Ff,Ff,Ff,Ff,Ff,Ff,Ff,Ff,Ff,Ff,Ff,Ff,Ff,Ff,Ff,Ff,Ff,Ff,Ff,Ff,Ff,Ff,Ff,Ff,Ff,Ff,Ff,Ff] rfl rfl (any_of HT_.out (by kernel_rfl)) (fun _ _ _ h => h) (Or.inl ⟨by rfl, ?_⟩) ?_ ?_;rotate_left;(intro w';go_simp;with_reducible rfl);rotate_left;(simp only [Act.put, List.setIfInBounds_toArray, List.set_cons_zero, List.set_cons_succ, i64_w, i32_w];rfl)
        refine pure_ (i := 2) (N := some 8) (v := ?_) (a' := ?_) #[Tt,Tt,Tt,Ff,Ff,Ff,Ff,Ff,Ff,Ff,Ff,Ff,Ff,Ff,Ff,Ff,Ff,Ff,Ff,Ff,Ff,Ff,Ff,Ff,Ff,Ff,Ff,Ff,Ff,Ff] rfl rfl (any_of HT_.out (by kernel_rfl)) (fun _ _ _ h => h) (Or.inl ⟨by rfl, ?_⟩) ?_ ?_;rotate_left;(intro w';go_simp;with_reducible rfl);rotate_left;(simp only [Act.put, List.setIfInBounds_toArray, List.set_cons_zero, List.set_cons_succ, i64_w, i32_w];rfl)
        refine pure_ (i := 3) (N := some 9) (v := ?_) (a' := ?_) #[Tt,Tt,Tt,Tt,Ff,Ff,Ff,Ff,Ff,Ff,Ff,Ff,Ff,Ff,Ff,Ff,Ff,Ff,Ff,Ff,Ff,Ff,Ff,Ff,Ff,Ff,Ff,Ff,Ff,Ff] rfl rfl (any_of HT_.out (by kernel_rfl)) (fun _ _ _ h => h) (Or.inl ⟨by rfl, ?_⟩) ?_ ?_;rotate_left;(intro w';go_simp;with_reducible rfl);rotate_left;(simp only [Act.put, List.setIfInBounds_toArray, List.set_cons_zero, List.set_cons_succ, i64_w, i32_w];rfl)
        refine pure_ (i := 4) (N := some 10) (v := ?_) (a' := ?_) #[Tt,Tt,Tt,Tt,Tt,Ff,Ff,Ff,Ff,Ff,Ff,Ff,Ff,Ff,Ff,Ff,Ff,Ff,Ff,Ff,Ff,Ff,Ff,Ff,Ff,Ff,Ff,Ff,Ff,Ff] rfl rfl (any_of HT_.out (by kernel_rfl)) (fun _ _ _ h => h) (Or.inl ⟨by rfl, ?_⟩) ?_ ?_;rotate_left;(intro w';go_simp;with_reducible rfl);rotate_left;(simp only [Act.put, List.setIfInBounds_toArray, List.set_cons_zero, List.set_cons_succ, i64_w, i32_w];rfl)
        refine pure_ (i := 5) (N := some 11) (v := ?_) (a' := ?_) #[Tt,Tt,Tt,Tt,Tt,Tt,Ff,Ff,Ff,Ff,Ff,Ff,Ff,Ff,Ff,Ff,Ff,Ff,Ff,Ff,Ff,Ff,Ff,Ff,Ff,Ff,Ff,Ff,Ff,Ff] rfl rfl (any_of HT_.out (by kernel_rfl)) (fun _ _ _ h => h) (Or.inl ⟨by rfl, ?_⟩) ?_ ?_;rotate_left;(intro w';go_simp;with_reducible rfl);rotate_left;(simp only [Act.put, List.setIfInBounds_toArray, List.set_cons_zero, List.set_cons_succ, i64_w, i32_w];rfl)
        refine take_ (i := 6) (N := some 12) (v := ?_) (a' := ?_) #[Tt,Tt,Tt,Tt,Tt,Tt,Tt,Ff,Ff,Ff,Ff,Ff,Ff,Ff,Ff,Ff,Ff,Ff,Ff,Ff,Ff,Ff,Ff,Ff,Ff,Ff,Ff,Ff,Ff,Ff] rfl rfl (take_ofW HT_.out HW_.out (by kernel_rfl)) (fun _ _ _ h => h) (Or.inl ⟨by rfl, ?_⟩) hHeld ?_ ?_;rotate_left;(rintro w' ⟨s0, s1, s2⟩;go_simp;with_reducible rfl);rotate_left;(simp only [Act.put, List.setIfInBounds_toArray, List.set_cons_zero, List.set_cons_succ, i64_w, i32_w];rfl)
        refine pure_ (i := 7) (N := some 13) (v := ?_) (a' := ?_) #[Tt,Tt,Tt,Tt,Tt,Tt,Tt,Tt,Ff,Ff,Ff,Ff,Ff,Ff,Ff,Ff,Ff,Ff,Ff,Ff,Ff,Ff,Ff,Ff,Ff,Ff,Ff,Ff,Ff,Ff] rfl rfl (any_of HT_.out (by kernel_rfl)) (fun _ _ _ h => h) (Or.inl ⟨by rfl, ?_⟩) ?_ ?_;rotate_left;(intro w';go_simp;with_reducible rfl);rotate_left;(simp only [Act.put, List.setIfInBounds_toArray, List.set_cons_zero, List.set_cons_succ, i64_w, i32_w];rfl)
        refine pure_ (i := 8) (N := some 14) (v := ?_) (a' := ?_) #[Tt,Tt,Tt,Tt,Tt,Tt,Tt,Tt,Tt,Ff,Ff,Ff,Ff,Ff,Ff,Ff,Ff,Ff,Ff,Ff,Ff,Ff,Ff,Ff,Ff,Ff,Ff,Ff,Ff,Ff] rfl rfl (any_of HT_.out (by kernel_rfl)) (fun _ _ _ h => h) (Or.inl ⟨by rfl, ?_⟩) ?_ ?_;rotate_left;(intro w';go_simp;with_reducible rfl);rotate_left;(simp only [Act.put, List.setIfInBounds_toArray, List.set_cons_zero, List.set_cons_succ, i64_w, i32_w];rfl)
        refine pure_ (i := 9) (N := some 15) (v := ?_) (a' := ?_) #[Tt,Tt,Tt,Tt,Tt,Tt,Tt,Tt,Tt,Tt,Ff,Ff,Ff,Ff,Ff,Ff,Ff,Ff,Ff,Ff,Ff,Ff,Ff,Ff,Ff,Ff,Ff,Ff,Ff,Ff] rfl rfl (any_of HT_.out (by kernel_rfl)) (fun _ _ _ h => h) (Or.inl ⟨by rfl, ?_⟩) ?_ ?_;rotate_left;(intro w';go_simp;with_reducible rfl);rotate_left;(simp only [Act.put, List.setIfInBounds_toArray, List.set_cons_zero, List.set_cons_succ, i64_w, i32_w];rfl)
        refine pure_ (i := 10) (N := some 16) (v := ?_) (a' := ?_) #[Tt,Tt,Tt,Tt,Tt,Tt,Tt,Tt,Tt,Tt,Tt,Ff,Ff,Ff,Ff,Ff,Ff,Ff,Ff,Ff,Ff,Ff,Ff,Ff,Ff,Ff,Ff,Ff,Ff,Ff] rfl rfl (any_of HT_.out (by kernel_rfl)) (fun _ _ _ h => h) (Or.inl ⟨by rfl, ?_⟩) ?_ ?_;rotate_left;(intro w';go_simp;with_reducible rfl);rotate_left;(simp only [Act.put, List.setIfInBounds_toArray, List.set_cons_zero, List.set_cons_succ, i64_w, i32_w];rfl)
        refine pure_ (i := 11) (N := some 17) (v := ?_) (a' := ?_) #[Tt,Tt,Tt,Tt,Tt,Tt,Tt,Tt,Tt,Tt,Tt,Tt,Ff,Ff,Ff,Ff,Ff,Ff,Ff,Ff,Ff,Ff,Ff,Ff,Ff,Ff,Ff,Ff,Ff,Ff] rfl rfl (any_of HT_.out (by kernel_rfl)) (fun _ _ _ h => h) (Or.inl ⟨by rfl, ?_⟩) ?_ ?_;rotate_left;(intro w';go_simp;with_reducible rfl);rotate_left;(simp only [Act.put, List.setIfInBounds_toArray, List.set_cons_zero, List.set_cons_succ, i64_w, i32_w];rfl)
        refine pure_ (i := 12) (N := some 18) (v := ?_) (a' := ?_) #[Tt,Tt,Tt,Tt,Tt,Tt,Tt,Tt,Tt,Tt,Tt,Tt,Tt,Ff,Ff,Ff,Ff,Ff,Ff,Ff,Ff,Ff,Ff,Ff,Ff,Ff,Ff,Ff,Ff,Ff] rfl rfl (any_of HT_.out (by kernel_rfl)) (fun _ _ _ h => h) (Or.inl ⟨by rfl, ?_⟩) ?_ ?_;rotate_left;(intro w';go_simp;with_reducible rfl);rotate_left;(simp only [Act.put, List.setIfInBounds_toArray, List.set_cons_zero, List.set_cons_succ, i64_w, i32_w];rfl)
        refine take_ (i := 13) (N := some 19) (v := ?_) (a' := ?_) #[Tt,Tt,Tt,Tt,Tt,Tt,Tt,Tt,Tt,Tt,Tt,Tt,Tt,Tt,Ff,Ff,Ff,Ff,Ff,Ff,Ff,Ff,Ff,Ff,Ff,Ff,Ff,Ff,Ff,Ff] rfl rfl (take_ofW HT_.out HW_.out (by kernel_rfl)) (fun _ _ _ h => h) (Or.inl ⟨by rfl, ?_⟩) hHeld ?_ ?_;rotate_left;(rintro w' ⟨s0, s1, s2⟩;go_simp;with_reducible rfl);rotate_left;(simp only [Act.put, List.setIfInBounds_toArray, List.set_cons_zero, List.set_cons_succ, i64_w, i32_w];rfl)
        refine pure_ (i := 14) (N := some 20) (v := ?_) (a' := ?_) #[Tt,Tt,Tt,Tt,Tt,Tt,Tt,Tt,Tt,Tt,Tt,Tt,Tt,Tt,Tt,Ff,Ff,Ff,Ff,Ff,Ff,Ff,Ff,Ff,Ff,Ff,Ff,Ff,Ff,Ff] rfl rfl (any_of HT_.out (by kernel_rfl)) (fun _ _ _ h => h) (Or.inl ⟨by rfl, ?_⟩) ?_ ?_;rotate_left;(intro w';go_simp;with_reducible rfl);rotate_left;(simp only [Act.put, List.setIfInBounds_toArray, List.set_cons_zero, List.set_cons_succ, i64_w, i32_w];rfl)
        refine pure_ (i := 15) (N := some 21) (v := ?_) (a' := ?_) #[Tt,Tt,Tt,Tt,Tt,Tt,Tt,Tt,Tt,Tt,Tt,Tt,Tt,Tt,Tt,Tt,Ff,Ff,Ff,Ff,Ff,Ff,Ff,Ff,Ff,Ff,Ff,Ff,Ff,Ff] rfl rfl (any_of HT_.out (by kernel_rfl)) (fun _ _ _ h => h) (Or.inl ⟨by rfl, ?_⟩) ?_ ?_;rotate_left;(intro w';go_simp;with_reducible rfl);rotate_left;(simp only [Act.put, List.setIfInBounds_toArray, List.set_cons_zero, List.set_cons_succ, i64_w, i32_w];rfl)
        refine pure_ (i := 16) (N := some 22) (v := ?_) (a' := ?_) #[Tt,Tt,Tt,Tt,Tt,Tt,Tt,Tt,Tt,Tt,Tt,Tt,Tt,Tt,Tt,Tt,Tt,Ff,Ff,Ff,Ff,Ff,Ff,Ff,Ff,Ff,Ff,Ff,Ff,Ff] rfl rfl (any_of HT_.out (by kernel_rfl)) (fun _ _ _ h => h) (Or.inl ⟨by rfl, ?_⟩) ?_ ?_;rotate_left;(intro w';go_simp;with_reducible rfl);rotate_left;(simp only [Act.put, List.setIfInBounds_toArray, List.set_cons_zero, List.set_cons_succ, i64_w, i32_w];rfl)
        refine pure_ (i := 17) (N := some 23) (v := ?_) (a' := ?_) #[Tt,Tt,Tt,Tt,Tt,Tt,Tt,Tt,Tt,Tt,Tt,Tt,Tt,Tt,Tt,Tt,Tt,Tt,Ff,Ff,Ff,Ff,Ff,Ff,Ff,Ff,Ff,Ff,Ff,Ff] rfl rfl (any_of HT_.out (by kernel_rfl)) (fun _ _ _ h => h) (Or.inl ⟨by rfl, ?_⟩) ?_ ?_;rotate_left;(intro w';go_simp;with_reducible rfl);rotate_left;(simp only [Act.put, List.setIfInBounds_toArray, List.set_cons_zero, List.set_cons_succ, i64_w, i32_w];rfl)
        refine pure_ (i := 18) (N := some 24) (v := ?_) (a' := ?_) #[Tt,Tt,Tt,Tt,Tt,Tt,Tt,Tt,Tt,Tt,Tt,Tt,Tt,Tt,Tt,Tt,Tt,Tt,Tt,Ff,Ff,Ff,Ff,Ff,Ff,Ff,Ff,Ff,Ff,Ff] rfl rfl (any_of HT_.out (by kernel_rfl)) (fun _ _ _ h => h) (Or.inl ⟨by rfl, ?_⟩) ?_ ?_;rotate_left;(intro w';go_simp;with_reducible rfl);rotate_left;(simp only [Act.put, List.setIfInBounds_toArray, List.set_cons_zero, List.set_cons_succ, i64_w, i32_w];rfl)
        refine take_ (i := 19) (N := some 25) (v := ?_) (a' := ?_) #[Tt,Tt,Tt,Tt,Tt,Tt,Tt,Tt,Tt,Tt,Tt,Tt,Tt,Tt,Tt,Tt,Tt,Tt,Tt,Tt,Ff,Ff,Ff,Ff,Ff,Ff,Ff,Ff,Ff,Ff] rfl rfl (take_ofW HT_.out HW_.out (by kernel_rfl)) (fun _ _ _ h => h) (Or.inl ⟨by rfl, ?_⟩) hHeld ?_ ?_;rotate_left;(rintro w' ⟨s0, s1, s2⟩;go_simp;with_reducible rfl);rotate_left;(simp only [Act.put, List.setIfInBounds_toArray, List.set_cons_zero, List.set_cons_succ, i64_w, i32_w];rfl)
        refine pure_ (i := 20) (N := some 26) (v := ?_) (a' := ?_) #[Tt,Tt,Tt,Tt,Tt,Tt,Tt,Tt,Tt,Tt,Tt,Tt,Tt,Tt,Tt,Tt,Tt,Tt,Tt,Tt,Tt,Ff,Ff,Ff,Ff,Ff,Ff,Ff,Ff,Ff] rfl rfl (any_of HT_.out (by kernel_rfl)) (fun _ _ _ h => h) (Or.inl ⟨by rfl, ?_⟩) ?_ ?_;rotate_left;(intro w';go_simp;with_reducible rfl);rotate_left;(simp only [Act.put, List.setIfInBounds_toArray, List.set_cons_zero, List.set_cons_succ, i64_w, i32_w];rfl)
        refine pure_ (i := 21) (N := some 27) (v := ?_) (a' := ?_) #[Tt,Tt,Tt,Tt,Tt,Tt,Tt,Tt,Tt,Tt,Tt,Tt,Tt,Tt,Tt,Tt,Tt,Tt,Tt,Tt,Tt,Tt,Ff,Ff,Ff,Ff,Ff,Ff,Ff,Ff] rfl rfl (any_of HT_.out (by kernel_rfl)) (fun _ _ _ h => h) (Or.inl ⟨by rfl, ?_⟩) ?_ ?_;rotate_left;(intro w';go_simp;with_reducible rfl);rotate_left;(simp only [Act.put, List.setIfInBounds_toArray, List.set_cons_zero, List.set_cons_succ, i64_w, i32_w];rfl)
        refine pure_ (i := 22) (N := some 28) (v := ?_) (a' := ?_) #[Tt,Tt,Tt,Tt,Tt,Tt,Tt,Tt,Tt,Tt,Tt,Tt,Tt,Tt,Tt,Tt,Tt,Tt,Tt,Tt,Tt,Tt,Tt,Ff,Ff,Ff,Ff,Ff,Ff,Ff] rfl rfl (any_of HT_.out (by kernel_rfl)) (fun _ _ _ h => h) (Or.inl ⟨by rfl, ?_⟩) ?_ ?_;rotate_left;(intro w';go_simp;with_reducible rfl);rotate_left;(simp only [Act.put, List.setIfInBounds_toArray, List.set_cons_zero, List.set_cons_succ, i64_w, i32_w];rfl)
        refine take_ (i := 23) (N := some 29) (v := ?_) (a' := ?_) #[Tt,Tt,Tt,Tt,Tt,Tt,Tt,Tt,Tt,Tt,Tt,Tt,Tt,Tt,Tt,Tt,Tt,Tt,Tt,Tt,Tt,Tt,Tt,Tt,Ff,Ff,Ff,Ff,Ff,Ff] rfl rfl (take_ofW HT_.out HW_.out (by kernel_rfl)) (fun _ _ _ h => h) (Or.inl ⟨by rfl, ?_⟩) hHeld ?_ ?_;rotate_left;(rintro w' ⟨s0, s1, s2⟩;go_simp;with_reducible rfl);rotate_left;(simp only [Act.put, List.setIfInBounds_toArray, List.set_cons_zero, List.set_cons_succ, i64_w, i32_w];rfl)
        refine pure_ (i := 24) (N := some 30) (v := ?_) (a' := ?_) #[Tt,Tt,Tt,Tt,Tt,Tt,Tt,Tt,Tt,Tt,Tt,Tt,Tt,Tt,Tt,Tt,Tt,Tt,Tt,Tt,Tt,Tt,Tt,Tt,Tt,Ff,Ff,Ff,Ff,Ff] rfl rfl (any_of HT_.out (by kernel_rfl)) (fun _ _ _ h => h) (Or.inl ⟨by rfl, ?_⟩) ?_ ?_;rotate_left;(intro w';go_simp;with_reducible rfl);rotate_left;(simp only [Act.put, List.setIfInBounds_toArray, List.set_cons_zero, List.set_cons_succ, i64_w, i32_w];rfl)
        refine pure_ (i := 25) (N := some 31) (v := ?_) (a' := ?_) #[Tt,Tt,Tt,Tt,Tt,Tt,Tt,Tt,Tt,Tt,Tt,Tt,Tt,Tt,Tt,Tt,Tt,Tt,Tt,Tt,Tt,Tt,Tt,Tt,Tt,Tt,Ff,Ff,Ff,Ff] rfl rfl (any_of HT_.out (by kernel_rfl)) (fun _ _ _ h => h) (Or.inl ⟨by rfl, ?_⟩) ?_ ?_;rotate_left;(intro w';go_simp;with_reducible rfl);rotate_left;(simp only [Act.put, List.setIfInBounds_toArray, List.set_cons_zero, List.set_cons_succ, i64_w, i32_w];rfl)
        refine pure_ (i := 26) (N := some 32) (v := ?_) (a' := ?_) #[Tt,Tt,Tt,Tt,Tt,Tt,Tt,Tt,Tt,Tt,Tt,Tt,Tt,Tt,Tt,Tt,Tt,Tt,Tt,Tt,Tt,Tt,Tt,Tt,Tt,Tt,Tt,Ff,Ff,Ff] rfl rfl (any_of HT_.out (by kernel_rfl)) (fun _ _ _ h => h) (Or.inl ⟨by rfl, ?_⟩) ?_ ?_;rotate_left;(intro w';go_simp;with_reducible rfl);rotate_left;(simp only [Act.put, List.setIfInBounds_toArray, List.set_cons_zero, List.set_cons_succ, i64_w, i32_w];rfl)
        refine take_ (i := 27) (N := some 33) (v := ?_) (a' := ?_) #[Tt,Tt,Tt,Tt,Tt,Tt,Tt,Tt,Tt,Tt,Tt,Tt,Tt,Tt,Tt,Tt,Tt,Tt,Tt,Tt,Tt,Tt,Tt,Tt,Tt,Tt,Tt,Tt,Ff,Ff] rfl rfl (take_ofW HT_.out HW_.out (by kernel_rfl)) (fun _ _ _ h => h) (Or.inl ⟨by rfl, ?_⟩) hHeld ?_ ?_;rotate_left;(rintro w' ⟨s0, s1, s2⟩;go_simp;with_reducible rfl);rotate_left;(simp only [Act.put, List.setIfInBounds_toArray, List.set_cons_zero, List.set_cons_succ, i64_w, i32_w];rfl)
        refine pure_ (i := 28) (N := some 34) (v := ?_) (a' := ?_) #[Tt,Tt,Tt,Tt,Tt,Tt,Tt,Tt,Tt,Tt,Tt,Tt,Tt,Tt,Tt,Tt,Tt,Tt,Tt,Tt,Tt,Tt,Tt,Tt,Tt,Tt,Tt,Tt,Tt,Ff] rfl rfl (any_of HT_.out (by kernel_rfl)) (fun _ _ _ h => h) (Or.inl ⟨by rfl, ?_⟩) ?_ ?_;rotate_left;(intro w';go_simp;with_reducible rfl);rotate_left;(simp only [Act.put, List.setIfInBounds_toArray, List.set_cons_zero, List.set_cons_succ, i64_w, i32_w];rfl)
        refine pure_ (i := 29) (N := some 35) (v := ?_) (a' := ?_) #[Tt,Tt,Tt,Tt,Tt,Tt,Tt,Tt,Tt,Tt,Tt,Tt,Tt,Tt,Tt,Tt,Tt,Tt,Tt,Tt,Tt,Tt,Tt,Tt,Tt,Tt,Tt,Tt,Tt,Tt] rfl rfl (any_of HT_.out (by kernel_rfl)) (fun _ _ _ h => h) (Or.inl ⟨by rfl, ?_⟩) ?_ ?_;rotate_left;(intro w';go_simp;with_reducible rfl);rotate_left;(simp only [Act.put, List.setIfInBounds_toArray, List.set_cons_zero, List.set_cons_succ, i64_w, i32_w];rfl)
        refine done_ (done_of HT_.out (by kernel_rfl)) ?_
        go_wp2
        go_roundg (gk - 1)
        case measure => have := HI.out; have := HN.out; have := of_eq_true c5t; omega
        case rel => exact ⟨n + 1, by rw [hw1], ⟨by have := HI.out; omega, by have := of_eq_true c5t; omega, by have := HI.out; have := of_eq_true c5t; have := HN.out; omega, by have := HI.out; have := ST2.out; omega, HB.out⟩⟩
      · have c6b : ((rd_T79 p (i + n)).f0 == (rd_T79 p i).f0) = false := beq_eq_false_iff_ne.mpr c6
        have ST2 := Aside0.mk (ST.out.trans (if_neg c6))
        clear c6 ST
        go_wp2
        refine start_ (n := 30) (S := fun w' => w'.cell? ⟨b, 0, none⟩ = some (.slice (some ad) p.length c) ∧ w'.cell? (ad.add ((i + n).toNat * 2)) = some (.int .i32 (rd_T79 p (i + n)).f0) ∧ w'.cell? (ad.add (i.toNat * 2)) = some (.int .i32 (rd_T79 p i).f0)) (ds := []) #[Ff,Ff,Ff,Ff,Ff,Ff,Ff,Ff,Ff,Ff,Ff,Ff,Ff,Ff,Ff,Ff,Ff,Ff,Ff,Ff,Ff,Ff,Ff,Ff,Ff,Ff,Ff,Ff,Ff,Ff] (by kernel_rfl) rfl rfl ⟨s0, x0, y0⟩ (fun hHeld => ?_)
        refine with_tabW common_row.tab2 common_row.bits2 (fun HT_ HW_ => ?_)
        have HB := Aside0.mk (show Below w.heap.size w wr.drew from Below.drew HI.out.2.2.2.2)
        clear s0 x0 y0
        generalize wr.drew = w2 at *
        refine pure_ (i := 0) (N := some 6) (v := ?_) (a' := ?_) #[Tt,Ff,Ff,Ff,Ff,Ff,Ff,Ff,Ff,Ff,Ff,Ff,Ff,Ff,Ff,Ff,Ff,Ff,Ff,Ff,Ff,Ff,Ff,Ff,Ff,Ff,Ff,Ff,Ff,Ff] rfl rfl (any_of HT_.out (by kernel_rfl)) (fun _ _ _ h => h) (Or.inl ⟨by rfl, ?_⟩) ?_ ?_;rotate_left;(intro w';go_simp;with_reducible rfl);rotate_left;(simp only [Act.put, List.setIfInBounds_toArray, List.set_cons_zero, List.set_cons_succ, i64_w, i32_w];rfl)
        refine pure_ (i := 1) (N := some 7) (v := ?_) (a' := ?_) #[Tt,Tt,Ff,Ff,Ff,Ff,Ff,Ff,Ff,Ff,Ff,Ff,Ff,Ff,Ff,Ff,Ff,Ff,Ff,Ff,Ff,Ff,Ff,Ff,Ff,Ff,Ff,Ff,Ff,Ff] rfl rfl (any_of HT_.out (by kernel_rfl)) (fun _ _ _ h => h) (Or.inl ⟨by rfl, ?_⟩) ?_ ?_;rotate_left;(intro w';go_simp;with_reducible rfl);rotate_left;(simp only [Act.put, List.setIfInBounds_toArray, List.set_cons_zero, List.set_cons_succ, i64_w, i32_w];rfl)
        refine pure_ (i := 2) (N := some 8) (v := ?_) (a' := ?_) #[Tt,Tt,Tt,Ff,Ff,Ff,Ff,Ff,Ff,Ff,Ff,Ff,Ff,Ff,Ff,Ff,Ff,Ff,Ff,Ff,Ff,Ff,Ff,Ff,Ff,Ff,Ff,Ff,Ff,Ff] rfl rfl (any_of HT_.out (by kernel_rfl)) (fun _ _ _ h => h) (Or.inl ⟨by rfl, ?_⟩) ?_ ?_;rotate_left;(intro w';go_simp;with_reducible rfl);rotate_left;(simp only [Act.put, List.setIfInBounds_toArray, List.set_cons_zero, List.set_cons_succ, i64_w, i32_w];rfl)
        refine pure_ (i := 3) (N := some 9) (v := ?_) (a' := ?_) #[Tt,Tt,Tt,Tt,Ff,Ff,Ff,Ff,Ff,Ff,Ff,Ff,Ff,Ff,Ff,Ff,Ff,Ff,Ff,Ff,Ff,Ff,Ff,Ff,Ff,Ff,Ff,Ff,Ff,Ff] rfl rfl (any_of HT_.out (by kernel_rfl)) (fun _ _ _ h => h) (Or.inl ⟨by rfl, ?_⟩) ?_ ?_;rotate_left;(intro w';go_simp;with_reducible rfl);rotate_left;(simp only [Act.put, List.setIfInBounds_toArray, List.set_cons_zero, List.set_cons_succ, i64_w, i32_w];rfl)
        refine pure_ (i := 4) (N := some 10) (v := ?_) (a' := ?_) #[Tt,Tt,Tt,Tt,Tt,Ff,Ff,Ff,Ff,Ff,Ff,Ff,Ff,Ff,Ff,Ff,Ff,Ff,Ff,Ff,Ff,Ff,Ff,Ff,Ff,Ff,Ff,Ff,Ff,Ff] rfl rfl (any_of HT_.out (by kernel_rfl)) (fun _ _ _ h => h) (Or.inl ⟨by rfl, ?_⟩) ?_ ?_;rotate_left;(intro w';go_simp;with_reducible rfl);rotate_left;(simp only [Act.put, List.setIfInBounds_toArray, List.set_cons_zero, List.set_cons_succ, i64_w, i32_w];rfl)
        refine pure_ (i := 5) (N := some 11) (v := ?_) (a' := ?_) #[Tt,Tt,Tt,Tt,Tt,Tt,Ff,Ff,Ff,Ff,Ff,Ff,Ff,Ff,Ff,Ff,Ff,Ff,Ff,Ff,Ff,Ff,Ff,Ff,Ff,Ff,Ff,Ff,Ff,Ff] rfl rfl (any_of HT_.out (by kernel_rfl)) (fun _ _ _ h => h) (Or.inl ⟨by rfl, ?_⟩) ?_ ?_;rotate_left;(intro w';go_simp;with_reducible rfl);rotate_left;(simp only [Act.put, List.setIfInBounds_toArray, List.set_cons_zero, List.set_cons_succ, i64_w, i32_w];rfl)
        refine take_ (i := 6) (N := some 12) (v := ?_) (a' := ?_) #[Tt,Tt,Tt,Tt,Tt,Tt,Tt,Ff,Ff,Ff,Ff,Ff,Ff,Ff,Ff,Ff,Ff,Ff,Ff,Ff,Ff,Ff,Ff,Ff,Ff,Ff,Ff,Ff,Ff,Ff] rfl rfl (take_ofW HT_.out HW_.out (by kernel_rfl)) (fun _ _ _ h => h) (Or.inl ⟨by rfl, ?_⟩) hHeld ?_ ?_;rotate_left;(rintro w' ⟨s0, s1, s2⟩;go_simp;with_reducible rfl);rotate_left;(simp only [Act.put, List.setIfInBounds_toArray, List.set_cons_zero, List.set_cons_succ, i64_w, i32_w];rfl)
        refine pure_ (i := 7) (N := some 13) (v := ?_) (a' := ?_) #[Tt,Tt,Tt,Tt,Tt,Tt,Tt,Tt,Ff,Ff,Ff,Ff,Ff,Ff,Ff,Ff,Ff,Ff,Ff,Ff,Ff,Ff,Ff,Ff,Ff,Ff,Ff,Ff,Ff,Ff] rfl rfl (any_of HT_.out (by kernel_rfl)) (fun _ _ _ h => h) (Or.inl ⟨by rfl, ?_⟩) ?_ ?_;rotate_left;(intro w';go_simp;with_reducible rfl);rotate_left;(simp only [Act.put, List.setIfInBounds_toArray, List.set_cons_zero, List.set_cons_succ, i64_w, i32_w];rfl)
        refine pure_ (i := 8) (N := some 14) (v := ?_) (a' := ?_) #[Tt,Tt,Tt,Tt,Tt,Tt,Tt,Tt,Tt,Ff,Ff,Ff,Ff,Ff,Ff,Ff,Ff,Ff,Ff,Ff,Ff,Ff,Ff,Ff,Ff,Ff,Ff,Ff,Ff,Ff] rfl rfl (any_of HT_.out (by kernel_rfl)) (fun _ _ _ h => h) (Or.inl ⟨by rfl, ?_⟩) ?_ ?_;rotate_left;(intro w';go_simp;with_reducible rfl);rotate_left;(simp only [Act.put, List.setIfInBounds_toArray, List.set_cons_zero, List.set_cons_succ, i64_w, i32_w];rfl)
        refine pure_ (i := 9) (N := some 15) (v := ?_) (a' := ?_) #[Tt,Tt,Tt,Tt,Tt,Tt,Tt,Tt,Tt,Tt,Ff,Ff,Ff,Ff,Ff,Ff,Ff,Ff,Ff,Ff,Ff,Ff,Ff,Ff,Ff,Ff,Ff,Ff,Ff,Ff] rfl rfl (any_of HT_.out (by kernel_rfl)) (fun _ _ _ h => h) (Or.inl ⟨by rfl, ?_⟩) ?_ ?_;rotate_left;(intro w';go_simp;with_reducible rfl);rotate_left;(simp only [Act.put, List.setIfInBounds_toArray, List.set_cons_zero, List.set_cons_succ, i64_w, i32_w];rfl)
        refine pure_ (i := 10) (N := some 16) (v := ?_) (a' := ?_) #[Tt,Tt,Tt,Tt,Tt,Tt,Tt,Tt,Tt,Tt,Tt,Ff,Ff,Ff,Ff,Ff,Ff,Ff,Ff,Ff,Ff,Ff,Ff,Ff,Ff,Ff,Ff,Ff,Ff,Ff] rfl rfl (any_of HT_.out (by kernel_rfl)) (fun _ _ _ h => h) (Or.inl ⟨by rfl, ?_⟩) ?_ ?_;rotate_left;(intro w';go_simp;with_reducible rfl);rotate_left;(simp only [Act.put, List.setIfInBounds_toArray, List.set_cons_zero, List.set_cons_succ, i64_w, i32_w];rfl)
        refine pure_ (i := 11) (N := some 17) (v := ?_) (a' := ?_) #[Tt,Tt,Tt,Tt,Tt,Tt,Tt,Tt,Tt,Tt,Tt,Tt,Ff,Ff,Ff,Ff,Ff,Ff,Ff,Ff,Ff,Ff,Ff,Ff,Ff,Ff,Ff,Ff,Ff,Ff] rfl rfl (any_of HT_.out (by kernel_rfl)) (fun _ _ _ h => h) (Or.inl ⟨by rfl, ?_⟩) ?_ ?_;rotate_left;(intro w';go_simp;with_reducible rfl);rotate_left;(simp only [Act.put, List.setIfInBounds_toArray, List.set_cons_zero, List.set_cons_succ, i64_w, i32_w];rfl)
        refine pure_ (i := 12) (N := some 18) (v := ?_) (a' := ?_) #[Tt,Tt,Tt,Tt,Tt,Tt,Tt,Tt,Tt,Tt,Tt,Tt,Tt,Ff,Ff,Ff,Ff,Ff,Ff,Ff,Ff,Ff,Ff,Ff,Ff,Ff,Ff,Ff,Ff,Ff] rfl rfl (any_of HT_.out (by kernel_rfl)) (fun _ _ _ h => h) (Or.inl ⟨by rfl, ?_⟩) ?_ ?_;rotate_left;(intro w';go_simp;with_reducible rfl);rotate_left;(simp only [Act.put, List.setIfInBounds_toArray, List.set_cons_zero, List.set_cons_succ, i64_w, i32_w];rfl)
        refine take_ (i := 13) (N := some 19) (v := ?_) (a' := ?_) #[Tt,Tt,Tt,Tt,Tt,Tt,Tt,Tt,Tt,Tt,Tt,Tt,Tt,Tt,Ff,Ff,Ff,Ff,Ff,Ff,Ff,Ff,Ff,Ff,Ff,Ff,Ff,Ff,Ff,Ff] rfl rfl (take_ofW HT_.out HW_.out (by kernel_rfl)) (fun _ _ _ h => h) (Or.inl ⟨by rfl, ?_⟩) hHeld ?_ ?_;rotate_left;(rintro w' ⟨s0, s1, s2⟩;go_simp;with_reducible rfl);rotate_left;(simp only [Act.put, List.setIfInBounds_toArray, List.set_cons_zero, List.set_cons_succ, i64_w, i32_w];rfl)
        refine pure_ (i := 14) (N := some 20) (v := ?_) (a' := ?_) #[Tt,Tt,Tt,Tt,Tt,Tt,Tt,Tt,Tt,Tt,Tt,Tt,Tt,Tt,Tt,Ff,Ff,Ff,Ff,Ff,Ff,Ff,Ff,Ff,Ff,Ff,Ff,Ff,Ff,Ff] rfl rfl (any_of HT_.out (by kernel_rfl)) (fun _ _ _ h => h) (Or.inl ⟨by rfl, ?_⟩) ?_ ?_;rotate_left;(intro w';go_simp;with_reducible rfl);rotate_left;(simp only [Act.put, List.setIfInBounds_toArray, List.set_cons_zero, List.set_cons_succ, i64_w, i32_w];rfl)
        refine pure_ (i := 15) (N := some 21) (v := ?_) (a' := ?_) #[Tt,Tt,Tt,Tt,Tt,Tt,Tt,Tt,Tt,Tt,Tt,Tt,Tt,Tt,Tt,Tt,Ff,Ff,Ff,Ff,Ff,Ff,Ff,Ff,Ff,Ff,Ff,Ff,Ff,Ff] rfl rfl (any_of HT_.out (by kernel_rfl)) (fun _ _ _ h => h) (Or.inl ⟨by rfl, ?_⟩) ?_ ?_;rotate_left;(intro w';go_simp;with_reducible rfl);rotate_left;(simp only [Act.put, List.setIfInBounds_toArray, List.set_cons_zero, List.set_cons_succ, i64_w, i32_w];rfl)
        refine pure_ (i := 16) (N := some 22) (v := ?_) (a' := ?_) #[Tt,Tt,Tt,Tt,Tt,Tt,Tt,Tt,Tt,Tt,Tt,Tt,Tt,Tt,Tt,Tt,Tt,Ff,Ff,Ff,Ff,Ff,Ff,Ff,Ff,Ff,Ff,Ff,Ff,Ff] rfl rfl (any_of HT_.out (by kernel_rfl)) (fun _ _ _ h => h) (Or.inl ⟨by rfl, ?_⟩) ?_ ?_;rotate_left;(intro w';go_simp;with_reducible rfl);rotate_left;(simp only [Act.put, List.setIfInBounds_toArray, List.set_cons_zero, List.set_cons_succ, i64_w, i32_w];rfl)
        refine pure_ (i := 17) (N := some 23) (v := ?_) (a' := ?_) #[Tt,Tt,Tt,Tt,Tt,Tt,Tt,Tt,Tt,Tt,Tt,Tt,Tt,Tt,Tt,Tt,Tt,Tt,Ff,Ff,Ff,Ff,Ff,Ff,Ff,Ff,Ff,Ff,Ff,Ff] rfl rfl (any_of HT_.out (by kernel_rfl)) (fun _ _ _ h => h) (Or.inl ⟨by rfl, ?_⟩) ?_ ?_;rotate_left;(intro w';go_simp;with_reducible rfl);rotate_left;(simp only [Act.put, List.setIfInBounds_toArray, List.set_cons_zero, List.set_cons_succ, i64_w, i32_w];rfl)
        refine pure_ (i := 18) (N := some 24) (v := ?_) (a' := ?_) #[Tt,Tt,Tt,Tt,Tt,Tt,Tt,Tt,Tt,Tt,Tt,Tt,Tt,Tt,Tt,Tt,Tt,Tt,Tt,Ff,Ff,Ff,Ff,Ff,Ff,Ff,Ff,Ff,Ff,Ff] rfl rfl (any_of HT_.out (by kernel_rfl)) (fun _ _ _ h => h) (Or.inl ⟨by rfl, ?_⟩) ?_ ?_;rotate_left;(intro w';go_simp;with_reducible rfl);rotate_left;(simp only [Act.put, List.setIfInBounds_toArray, List.set_cons_zero, List.set_cons_succ, i64_w, i32_w];rfl)
        refine take_ (i := 19) (N := some 25) (v := ?_) (a' := ?_) #[Tt,Tt,Tt,Tt,Tt,Tt,Tt,Tt,Tt,Tt,Tt,Tt,Tt,Tt,Tt,Tt,Tt,Tt,Tt,Tt,Ff,Ff,Ff,Ff,Ff,Ff,Ff,Ff,Ff,Ff] rfl rfl (take_ofW HT_.out HW_.out (by kernel_rfl)) (fun _ _ _ h => h) (Or.inl ⟨by rfl, ?_⟩) hHeld ?_ ?_;rotate_left;(rintro w' ⟨s0, s1, s2⟩;go_simp;with_reducible rfl);rotate_left;(simp only [Act.put, List.setIfInBounds_toArray, List.set_cons_zero, List.set_cons_succ, i64_w, i32_w];rfl)
        refine pure_ (i := 20) (N := some 26) (v := ?_) (a' := ?_) #[Tt,Tt,Tt,Tt,Tt,Tt,Tt,Tt,Tt,Tt,Tt,Tt,Tt,Tt,Tt,Tt,Tt,Tt,Tt,Tt,Tt,Ff,Ff,Ff,Ff,Ff,Ff,Ff,Ff,Ff] rfl rfl (any_of HT_.out (by kernel_rfl)) (fun _ _ _ h => h) (Or.inl ⟨by rfl, ?_⟩) ?_ ?_;rotate_left;(intro w';go_simp;with_reducible rfl);rotate_left;(simp only [Act.put, List.setIfInBounds_toArray, List.set_cons_zero, List.set_cons_succ, i64_w, i32_w];rfl)
        refine pure_ (i := 21) (N := some 27) (v := ?_) (a' := ?_) #[Tt,Tt,Tt,Tt,Tt,Tt,Tt,Tt,Tt,Tt,Tt,Tt,Tt,Tt,Tt,Tt,Tt,Tt,Tt,Tt,Tt,Tt,Ff,Ff,Ff,Ff,Ff,Ff,Ff,Ff] rfl rfl (any_of HT_.out (by kernel_rfl)) (fun _ _ _ h => h) (Or.inl ⟨by rfl, ?_⟩) ?_ ?_;rotate_left;(intro w';go_simp;with_reducible rfl);rotate_left;(simp only [Act.put, List.setIfInBounds_toArray, List.set_cons_zero, List.set_cons_succ, i64_w, i32_w];rfl)
        refine pure_ (i := 22) (N := some 28) (v := ?_) (a' := ?_) #[Tt,Tt,Tt,Tt,Tt,Tt,Tt,Tt,Tt,Tt,Tt,Tt,Tt,Tt,Tt,Tt,Tt,Tt,Tt,Tt,Tt,Tt,Tt,Ff,Ff,Ff,Ff,Ff,Ff,Ff] rfl rfl (any_of HT_.out (by kernel_rfl)) (fun _ _ _ h => h) (Or.inl ⟨by rfl, ?_⟩) ?_ ?_;rotate_left;(intro w';go_simp;with_reducible rfl);rotate_left;(simp only [Act.put, List.setIfInBounds_toArray, List.set_cons_zero, List.set_cons_succ, i64_w, i32_w];rfl)
        refine take_ (i := 23) (N := some 29) (v := ?_) (a' := ?_) #[Tt,Tt,Tt,Tt,Tt,Tt,Tt,Tt,Tt,Tt,Tt,Tt,Tt,Tt,Tt,Tt,Tt,Tt,Tt,Tt,Tt,Tt,Tt,Tt,Ff,Ff,Ff,Ff,Ff,Ff] rfl rfl (take_ofW HT_.out HW_.out (by kernel_rfl)) (fun _ _ _ h => h) (Or.inl ⟨by rfl, ?_⟩) hHeld ?_ ?_;rotate_left;(rintro w' ⟨s0, s1, s2⟩;go_simp;with_reducible rfl);rotate_left;(simp only [Act.put, List.setIfInBounds_toArray, List.set_cons_zero, List.set_cons_succ, i64_w, i32_w];rfl)
        refine pure_ (i := 24) (N := some 30) (v := ?_) (a' := ?_) #[Tt,Tt,Tt,Tt,Tt,Tt,Tt,Tt,Tt,Tt,Tt,Tt,Tt,Tt,Tt,Tt,Tt,Tt,Tt,Tt,Tt,Tt,Tt,Tt,Tt,Ff,Ff,Ff,Ff,Ff] rfl rfl (any_of HT_.out (by kernel_rfl)) (fun _ _ _ h => h) (Or.inl ⟨by rfl, ?_⟩) ?_ ?_;rotate_left;(intro w';go_simp;with_reducible rfl);rotate_left;(simp only [Act.put, List.setIfInBounds_toArray, List.set_cons_zero, List.set_cons_succ, i64_w, i32_w];rfl)
        refine pure_ (i := 25) (N := some 31) (v := ?_) (a' := ?_) #[Tt,Tt,Tt,Tt,Tt,Tt,Tt,Tt,Tt,Tt,Tt,Tt,Tt,Tt,Tt,Tt,Tt,Tt,Tt,Tt,Tt,Tt,Tt,Tt,Tt,Tt,Ff,Ff,Ff,Ff] rfl rfl (any_of HT_.out (by kernel_rfl)) (fun _ _ _ h => h) (Or.inl ⟨by rfl, ?_⟩) ?_ ?_;rotate_left;(intro w';go_simp;with_reducible rfl);rotate_left;(simp only [Act.put, List.setIfInBounds_toArray, List.set_cons_zero, List.set_cons_succ, i64_w, i32_w];rfl)
        refine pure_ (i := 26) (N := some 32) (v := ?_) (a' := ?_) #[Tt,Tt,Tt,Tt,Tt,Tt,Tt,Tt,Tt,Tt,Tt,Tt,Tt,Tt,Tt,Tt,Tt,Tt,Tt,Tt,Tt,Tt,Tt,Tt,Tt,Tt,Tt,Ff,Ff,Ff] rfl rfl (any_of HT_.out (by kernel_rfl)) (fun _ _ _ h => h) (Or.inl ⟨by rfl, ?_⟩) ?_ ?_;rotate_left;(intro w';go_simp;with_reducible rfl);rotate_left;(simp only [Act.put, List.setIfInBounds_toArray, List.set_cons_zero, List.set_cons_succ, i64_w, i32_w];rfl)
        refine take_ (i := 27) (N := some 33) (v := ?_) (a' := ?_) #[Tt,Tt,Tt,Tt,Tt,Tt,Tt,Tt,Tt,Tt,Tt,Tt,Tt,Tt,Tt,Tt,Tt,Tt,Tt,Tt,Tt,Tt,Tt,Tt,Tt,Tt,Tt,Tt,Ff,Ff] rfl rfl (take_ofW HT_.out HW_.out (by kernel_rfl)) (fun _ _ _ h => h) (Or.inl ⟨by rfl, ?_⟩) hHeld ?_ ?_;rotate_left;(rintro w' ⟨s0, s1, s2⟩;go_simp;with_reducible rfl);rotate_left;(simp only [Act.put, List.setIfInBounds_toArray, List.set_cons_zero, List.set_cons_succ, i64_w, i32_w];rfl)
        refine pure_ (i := 28) (N := some 34) (v := ?_) (a' := ?_) #[Tt,Tt,Tt,Tt,Tt,Tt,Tt,Tt,Tt,Tt,Tt,Tt,Tt,Tt,Tt,Tt,Tt,Tt,Tt,Tt,Tt,Tt,Tt,Tt,Tt,Tt,Tt,Tt,Tt,Ff] rfl rfl (any_of HT_.out (by kernel_rfl)) (fun _ _ _ h => h) (Or.inl ⟨by rfl, ?_⟩) ?_ ?_;rotate_left;(intro w';go_simp;with_reducible rfl);rotate_left;(simp only [Act.put, List.setIfInBounds_toArray, List.set_cons_zero, List.set_cons_succ, i64_w, i32_w];rfl)
        refine pure_ (i := 29) (N := some 35) (v := ?_) (a' := ?_) #[Tt,Tt,Tt,Tt,Tt,Tt,Tt,Tt,Tt,Tt,Tt,Tt,Tt,Tt,Tt,Tt,Tt,Tt,Tt,Tt,Tt,Tt,Tt,Tt,Tt,Tt,Tt,Tt,Tt,Tt] rfl rfl (any_of HT_.out (by kernel_rfl)) (fun _ _ _ h => h) (Or.inl ⟨by rfl, ?_⟩) ?_ ?_;rotate_left;(intro w';go_simp;with_reducible rfl);rotate_left;(simp only [Act.put, List.setIfInBounds_toArray, List.set_cons_zero, List.set_cons_succ, i64_w, i32_w];rfl)
        refine done_ (done_of HT_.out (by kernel_rfl)) ?_
        go_wp2
        go_ret
        exact ⟨by rw [show common_row.f p i = n from by have := HI.out; have := ST2.out; omega]; rfl, HB.out⟩
    · have c5b : decide (i + n < (p.length : Int)) = false := decide_eq_false c5
      have ST2 := Aside0.mk (common_row.rest_end p i n (by omega))
      clear c5 hn
      go_wp2
      refine start_ (n := 30) (S := fun w' => w'.cell? ⟨b, 0, none⟩ = some (.slice A p.length c)) (ds := []) #[Ff,Ff,Ff,Ff,Ff,Ff,Ff,Ff,Ff,Ff,Ff,Ff,Ff,Ff,Ff,Ff,Ff,Ff,Ff,Ff,Ff,Ff,Ff,Ff,Ff,Ff,Ff,Ff,Ff,Ff] (by kernel_rfl) rfl rfl s0 (fun hHeld => ?_)
      refine with_tabW common_row.tab2 common_row.bits2 (fun HT_ HW_ => ?_)
      have HB := Aside0.mk (show Below w.heap.size w wr.drew from Below.drew HI.out.2.2.2.2)
      clear s0
      generalize wr.drew = w2 at *
      refine pure_ (i := 0) (N := some 6) (v := ?_) (a' := ?_) #[Tt,Ff,Ff,Ff,Ff,Ff,Ff,Ff,Ff,Ff,Ff,Ff,Ff,Ff,Ff,Ff,Ff,Ff,Ff,Ff,Ff,Ff,Ff,Ff,Ff,Ff,Ff,Ff,Ff,Ff] rfl rfl (any_of HT_.out (by kernel_rfl)) (fun _ _ _ h => h) (Or.inl ⟨by rfl, ?_⟩) ?_ ?_;rotate_left;(intro w';go_simp;with_reducible rfl);rotate_left;(simp only [Act.put, List.setIfInBounds_toArray, List.set_cons_zero, List.set_cons_succ, i64_w, i32_w];rfl)
      refine pure_ (i := 1) (N := some 7) (v := ?_) (a' := ?_) #[Tt,Tt,Ff,Ff,Ff,Ff,Ff,Ff,Ff,Ff,Ff,Ff,Ff,Ff,Ff,Ff,Ff,Ff,Ff,Ff,Ff,Ff,Ff,Ff,Ff,Ff,Ff,Ff,Ff,Ff] rfl rfl (any_of HT_.out (by kernel_rfl)) (fun _ _ _ h => h) (Or.inl ⟨by rfl, ?_⟩) ?_ ?_;rotate_left;(intro w';go_simp;with_reducible rfl);rotate_left;(simp only [Act.put, List.setIfInBounds_toArray, List.set_cons_zero, List.set_cons_succ, i64_w, i32_w];rfl)
      refine pure_ (i := 2) (N := some 8) (v := ?_) (a' := ?_) #[Tt,Tt,Tt,Ff,Ff,Ff,Ff,Ff,Ff,Ff,Ff,Ff,Ff,Ff,Ff,Ff,Ff,Ff,Ff,Ff,Ff,Ff,Ff,Ff,Ff,Ff,Ff,Ff,Ff,Ff] rfl rfl (any_of HT_.out (by kernel_rfl)) (fun _ _ _ h => h) (Or.inl ⟨by rfl, ?_⟩) ?_ ?_;rotate_left;(intro w';go_simp;with_reducible rfl);rotate_left;(simp only [Act.put, List.setIfInBounds_toArray, List.set_cons_zero, List.set_cons_succ, i64_w, i32_w];rfl)
      refine pure_ (i := 3) (N := some 9) (v := ?_) (a' := ?_) #[Tt,Tt,Tt,Tt,Ff,Ff,Ff,Ff,Ff,Ff,Ff,Ff,Ff,Ff,Ff,Ff,Ff,Ff,Ff,Ff,Ff,Ff,Ff,Ff,Ff,Ff,Ff,Ff,Ff,Ff] rfl rfl (any_of HT_.out (by kernel_rfl)) (fun _ _ _ h => h) (Or.inl ⟨by rfl, ?_⟩) ?_ ?_;rotate_left;(intro w';go_simp;with_reducible rfl);rotate_left;(simp only [Act.put, List.setIfInBounds_toArray, List.set_cons_zero, List.set_cons_succ, i64_w, i32_w];rfl)
      refine pure_ (i := 4) (N := some 10) (v := ?_) (a' := ?_) #[Tt,Tt,Tt,Tt,Tt,Ff,Ff,Ff,Ff,Ff,Ff,Ff,Ff,Ff,Ff,Ff,Ff,Ff,Ff,Ff,Ff,Ff,Ff,Ff,Ff,Ff,Ff,Ff,Ff,Ff] rfl rfl (any_of HT_.out (by kernel_rfl)) (fun _ _ _ h => h) (Or.inl ⟨by rfl, ?_⟩) ?_ ?_;rotate_left;(intro w';go_simp;with_reducible rfl);rotate_left;(simp only [Act.put, List.setIfInBounds_toArray, List.set_cons_zero, List.set_cons_succ, i64_w, i32_w];rfl)
      refine pure_ (i := 5) (N := some 11) (v := ?_) (a' := ?_) #[Tt,Tt,Tt,Tt,Tt,Tt,Ff,Ff,Ff,Ff,Ff,Ff,Ff,Ff,Ff,Ff,Ff,Ff,Ff,Ff,Ff,Ff,Ff,Ff,Ff,Ff,Ff,Ff,Ff,Ff] rfl rfl (any_of HT_.out (by kernel_rfl)) (fun _ _ _ h => h) (Or.inl ⟨by rfl, ?_⟩) ?_ ?_;rotate_left;(intro w';go_simp;with_reducible rfl);rotate_left;(simp only [Act.put, List.setIfInBounds_toArray, List.set_cons_zero, List.set_cons_succ, i64_w, i32_w];rfl)
      refine take_ (i := 6) (N := some 12) (v := ?_) (a' := ?_) #[Tt,Tt,Tt,Tt,Tt,Tt,Tt,Ff,Ff,Ff,Ff,Ff,Ff,Ff,Ff,Ff,Ff,Ff,Ff,Ff,Ff,Ff,Ff,Ff,Ff,Ff,Ff,Ff,Ff,Ff] rfl rfl (take_ofW HT_.out HW_.out (by kernel_rfl)) (fun _ _ _ h => h) (Or.inl ⟨by rfl, ?_⟩) hHeld ?_ ?_;rotate_left;(intro w' s0;go_simp;with_reducible rfl);rotate_left;(simp only [Act.put, List.setIfInBounds_toArray, List.set_cons_zero, List.set_cons_succ, i64_w, i32_w];rfl)
      refine pure_ (i := 7) (N := some 13) (v := ?_) (a' := ?_) #[Tt,Tt,Tt,Tt,Tt,Tt,Tt,Tt,Ff,Ff,Ff,Ff,Ff,Ff,Ff,Ff,Ff,Ff,Ff,Ff,Ff,Ff,Ff,Ff,Ff,Ff,Ff,Ff,Ff,Ff] rfl rfl (any_of HT_.out (by kernel_rfl)) (fun _ _ _ h => h) (Or.inl ⟨by rfl, ?_⟩) ?_ ?_;rotate_left;(intro w';go_simp;with_reducible rfl);rotate_left;(simp only [Act.put, List.setIfInBounds_toArray, List.set_cons_zero, List.set_cons_succ, i64_w, i32_w];rfl)
      refine pure_ (i := 8) (N := some 14) (v := ?_) (a' := ?_) #[Tt,Tt,Tt,Tt,Tt,Tt,Tt,Tt,Tt,Ff,Ff,Ff,Ff,Ff,Ff,Ff,Ff,Ff,Ff,Ff,Ff,Ff,Ff,Ff,Ff,Ff,Ff,Ff,Ff,Ff] rfl rfl (any_of HT_.out (by kernel_rfl)) (fun _ _ _ h => h) (Or.inl ⟨by rfl, ?_⟩) ?_ ?_;rotate_left;(intro w';go_simp;with_reducible rfl);rotate_left;(simp only [Act.put, List.setIfInBounds_toArray, List.set_cons_zero, List.set_cons_succ, i64_w, i32_w];rfl)
      refine pure_ (i := 9) (N := some 15) (v := ?_) (a' := ?_) #[Tt,Tt,Tt,Tt,Tt,Tt,Tt,Tt,Tt,Tt,Ff,Ff,Ff,Ff,Ff,Ff,Ff,Ff,Ff,Ff,Ff,Ff,Ff,Ff,Ff,Ff,Ff,Ff,Ff,Ff] rfl rfl (any_of HT_.out (by kernel_rfl)) (fun _ _ _ h => h) (Or.inl ⟨by rfl, ?_⟩) ?_ ?_;rotate_left;(intro w';go_simp;with_reducible rfl);rotate_left;(simp only [Act.put, List.setIfInBounds_toArray, List.set_cons_zero, List.set_cons_succ, i64_w, i32_w];rfl)
      refine pure_ (i := 10) (N := some 16) (v := undef) (a' := ?_) #[Tt,Tt,Tt,Tt,Tt,Tt,Tt,Tt,Tt,Tt,Tt,Ff,Ff,Ff,Ff,Ff,Ff,Ff,Ff,Ff,Ff,Ff,Ff,Ff,Ff,Ff,Ff,Ff,Ff,Ff] rfl rfl (any_of HT_.out (by kernel_rfl)) (fun _ _ _ h => h) (Or.inr ⟨by rfl, rfl⟩) ?_ ?_;rotate_left;(simp only [Act.put, List.setIfInBounds_toArray, List.set_cons_zero, List.set_cons_succ, i64_w, i32_w];rfl)
      refine pure_ (i := 11) (N := some 17) (v := undef) (a' := ?_) #[Tt,Tt,Tt,Tt,Tt,Tt,Tt,Tt,Tt,Tt,Tt,Tt,Ff,Ff,Ff,Ff,Ff,Ff,Ff,Ff,Ff,Ff,Ff,Ff,Ff,Ff,Ff,Ff,Ff,Ff] rfl rfl (any_of HT_.out (by kernel_rfl)) (fun _ _ _ h => h) (Or.inr ⟨by rfl, rfl⟩) ?_ ?_;rotate_left;(simp only [Act.put, List.setIfInBounds_toArray, List.set_cons_zero, List.set_cons_succ, i64_w, i32_w];rfl)
      refine pure_ (i := 12) (N := some 18) (v := undef) (a' := ?_) #[Tt,Tt,Tt,Tt,Tt,Tt,Tt,Tt,Tt,Tt,Tt,Tt,Tt,Ff,Ff,Ff,Ff,Ff,Ff,Ff,Ff,Ff,Ff,Ff,Ff,Ff,Ff,Ff,Ff,Ff] rfl rfl (any_of HT_.out (by kernel_rfl)) (fun _ _ _ h => h) (Or.inr ⟨by rfl, rfl⟩) ?_ ?_;rotate_left;(simp only [Act.put, List.setIfInBounds_toArray, List.set_cons_zero, List.set_cons_succ, i64_w, i32_w];rfl)
      refine pure_ (i := 13) (N := some 19) (v := undef) (a' := ?_) #[Tt,Tt,Tt,Tt,Tt,Tt,Tt,Tt,Tt,Tt,Tt,Tt,Tt,Tt,Ff,Ff,Ff,Ff,Ff,Ff,Ff,Ff,Ff,Ff,Ff,Ff,Ff,Ff,Ff,Ff] rfl rfl (any_of HT_.out (by kernel_rfl)) (fun _ _ _ h => h) (Or.inr ⟨by rfl, rfl⟩) ?_ ?_;rotate_left;(simp only [Act.put, List.setIfInBounds_toArray, List.set_cons_zero, List.set_cons_succ, i64_w, i32_w];rfl)
      refine pure_ (i := 14) (N := some 20) (v := undef) (a' := ?_) #[Tt,Tt,Tt,Tt,Tt,Tt,Tt,Tt,Tt,Tt,Tt,Tt,Tt,Tt,Tt,Ff,Ff,Ff,Ff,Ff,Ff,Ff,Ff,Ff,Ff,Ff,Ff,Ff,Ff,Ff] rfl rfl (any_of HT_.out (by kernel_rfl)) (fun _ _ _ h => h) (Or.inr ⟨by rfl, rfl⟩) ?_ ?_;rotate_left;(simp only [Act.put, List.setIfInBounds_toArray, List.set_cons_zero, List.set_cons_succ, i64_w, i32_w];rfl)
      refine pure_ (i := 15) (N := some 21) (v := undef) (a' := ?_) #[Tt,Tt,Tt,Tt,Tt,Tt,Tt,Tt,Tt,Tt,Tt,Tt,Tt,Tt,Tt,Tt,Ff,Ff,Ff,Ff,Ff,Ff,Ff,Ff,Ff,Ff,Ff,Ff,Ff,Ff] rfl rfl (any_of HT_.out (by kernel_rfl)) (fun _ _ _ h => h) (Or.inr ⟨by rfl, rfl⟩) ?_ ?_;rotate_left;(simp only [Act.put, List.setIfInBounds_toArray, List.set_cons_zero, List.set_cons_succ, i64_w, i32_w];rfl)
      refine pure_ (i := 16) (N := some 22) (v := undef) (a' := ?_) #[Tt,Tt,Tt,Tt,Tt,Tt,Tt,Tt,Tt,Tt,Tt,Tt,Tt,Tt,Tt,Tt,Tt,Ff,Ff,Ff,Ff,Ff,Ff,Ff,Ff,Ff,Ff,Ff,Ff,Ff] rfl rfl (any_of HT_.out (by kernel_rfl)) (fun _ _ _ h => h) (Or.inr ⟨by rfl, rfl⟩) ?_ ?_;rotate_left;(simp only [Act.put, List.setIfInBounds_toArray, List.set_cons_zero, List.set_cons_succ, i64_w, i32_w];rfl)
      refine pure_ (i := 17) (N := some 23) (v := undef) (a' := ?_) #[Tt,Tt,Tt,Tt,Tt,Tt,Tt,Tt,Tt,Tt,Tt,Tt,Tt,Tt,Tt,Tt,Tt,Tt,Ff,Ff,Ff,Ff,Ff,Ff,Ff,Ff,Ff,Ff,Ff,Ff] rfl rfl (any_of HT_.out (by kernel_rfl)) (fun _ _ _ h => h) (Or.inr ⟨by rfl, rfl⟩) ?_ ?_;rotate_left;(simp only [Act.put, List.setIfInBounds_toArray, List.set_cons_zero, List.set_cons_succ, i64_w, i32_w];rfl)
      refine pure_ (i := 18) (N := some 24) (v := undef) (a' := ?_) #[Tt,Tt,Tt,Tt,Tt,Tt,Tt,Tt,Tt,Tt,Tt,Tt,Tt,Tt,Tt,Tt,Tt,Tt,Tt,Ff,Ff,Ff,Ff,Ff,Ff,Ff,Ff,Ff,Ff,Ff] rfl rfl (any_of HT_.out (by kernel_rfl)) (fun _ _ _ h => h) (Or.inr ⟨by rfl, rfl⟩) ?_ ?_;rotate_left;(simp only [Act.put, List.setIfInBounds_toArray, List.set_cons_zero, List.set_cons_succ, i64_w, i32_w];rfl)
      refine pure_ (i := 19) (N := some 25) (v := undef) (a' := ?_) #[Tt,Tt,Tt,Tt,Tt,Tt,Tt,Tt,Tt,Tt,Tt,Tt,Tt,Tt,Tt,Tt,Tt,Tt,Tt,Tt,Ff,Ff,Ff,Ff,Ff,Ff,Ff,Ff,Ff,Ff] rfl rfl (any_of HT_.out (by kernel_rfl)) (fun _ _ _ h => h) (Or.inr ⟨by rfl, rfl⟩) ?_ ?_;rotate_left;(simp only [Act.put, List.setIfInBounds_toArray, List.set_cons_zero, List.set_cons_succ, i64_w, i32_w];rfl)
      refine pure_ (i := 20) (N := some 26) (v := undef) (a' := ?_) #[Tt,Tt,Tt,Tt,Tt,Tt,Tt,Tt,Tt,Tt,Tt,Tt,Tt,Tt,Tt,Tt,Tt,Tt,Tt,Tt,Tt,Ff,Ff,Ff,Ff,Ff,Ff,Ff,Ff,Ff] rfl rfl (any_of HT_.out (by kernel_rfl)) (fun _ _ _ h => h) (Or.inr ⟨by rfl, rfl⟩) ?_ ?_;rotate_left;(simp only [Act.put, List.setIfInBounds_toArray, List.set_cons_zero, List.set_cons_succ, i64_w, i32_w];rfl)
      refine pure_ (i := 21) (N := some 27) (v := undef) (a' := ?_) #[Tt,Tt,Tt,Tt,Tt,Tt,Tt,Tt,Tt,Tt,Tt,Tt,Tt,Tt,Tt,Tt,Tt,Tt,Tt,Tt,Tt,Tt,Ff,Ff,Ff,Ff,Ff,Ff,Ff,Ff] rfl rfl (any_of HT_.out (by kernel_rfl)) (fun _ _ _ h => h) (Or.inr ⟨by rfl, rfl⟩) ?_ ?_;rotate_left;(simp only [Act.put, List.setIfInBounds_toArray, List.set_cons_zero, List.set_cons_succ, i64_w, i32_w];rfl)
      refine pure_ (i := 22) (N := some 28) (v := undef) (a' := ?_) #[Tt,Tt,Tt,Tt,Tt,Tt,Tt,Tt,Tt,Tt,Tt,Tt,Tt,Tt,Tt,Tt,Tt,Tt,Tt,Tt,Tt,Tt,Tt,Ff,Ff,Ff,Ff,Ff,Ff,Ff] rfl rfl (any_of HT_.out (by kernel_rfl)) (fun _ _ _ h => h) (Or.inr ⟨by rfl, rfl⟩) ?_ ?_;rotate_left;(simp only [Act.put, List.setIfInBounds_toArray, List.set_cons_zero, List.set_cons_succ, i64_w, i32_w];rfl)
      refine pure_ (i := 23) (N := some 29) (v := undef) (a' := ?_) #[Tt,Tt,Tt,Tt,Tt,Tt,Tt,Tt,Tt,Tt,Tt,Tt,Tt,Tt,Tt,Tt,Tt,Tt,Tt,Tt,Tt,Tt,Tt,Tt,Ff,Ff,Ff,Ff,Ff,Ff] rfl rfl (any_of HT_.out (by kernel_rfl)) (fun _ _ _ h => h) (Or.inr ⟨by rfl, rfl⟩) ?_ ?_;rotate_left;(simp only [Act.put, List.setIfInBounds_toArray, List.set_cons_zero, List.set_cons_succ, i64_w, i32_w];rfl)
      refine pure_ (i := 24) (N := some 30) (v := undef) (a' := ?_) #[Tt,Tt,Tt,Tt,Tt,Tt,Tt,Tt,Tt,Tt,Tt,Tt,Tt,Tt,Tt,Tt,Tt,Tt,Tt,Tt,Tt,Tt,Tt,Tt,Tt,Ff,Ff,Ff,Ff,Ff] rfl rfl (any_of HT_.out (by kernel_rfl)) (fun _ _ _ h => h) (Or.inr ⟨by rfl, rfl⟩) ?_ ?_;rotate_left;(simp only [Act.put, List.setIfInBounds_toArray, List.set_cons_zero, List.set_cons_succ, i64_w, i32_w];rfl)
      refine pure_ (i := 25) (N := some 31) (v := undef) (a' := ?_) #[Tt,Tt,Tt,Tt,Tt,Tt,Tt,Tt,Tt,Tt,Tt,Tt,Tt,Tt,Tt,Tt,Tt,Tt,Tt,Tt,Tt,Tt,Tt,Tt,Tt,Tt,Ff,Ff,Ff,Ff] rfl rfl (any_of HT_.out (by kernel_rfl)) (fun _ _ _ h => h) (Or.inr ⟨by rfl, rfl⟩) ?_ ?_;rotate_left;(simp only [Act.put, List.setIfInBounds_toArray, List.set_cons_zero, List.set_cons_succ, i64_w, i32_w];rfl)
      refine pure_ (i := 26) (N := some 32) (v := undef) (a' := ?_) #[Tt,Tt,Tt,Tt,Tt,Tt,Tt,Tt,Tt,Tt,Tt,Tt,Tt,Tt,Tt,Tt,Tt,Tt,Tt,Tt,Tt,Tt,Tt,Tt,Tt,Tt,Tt,Ff,Ff,Ff] rfl rfl (any_of HT_.out (by kernel_rfl)) (fun _ _ _ h => h) (Or.inr ⟨by rfl, rfl⟩) ?_ ?_;rotate_left;(simp only [Act.put, List.setIfInBounds_toArray, List.set_cons_zero, List.set_cons_succ, i64_w, i32_w];rfl)
      refine pure_ (i := 27) (N := some 33) (v := undef) (a' := ?_) #[Tt,Tt,Tt,Tt,Tt,Tt,Tt,Tt,Tt,Tt,Tt,Tt,Tt,Tt,Tt,Tt,Tt,Tt,Tt,Tt,Tt,Tt,Tt,Tt,Tt,Tt,Tt,Tt,Ff,Ff] rfl rfl (any_of HT_.out (by kernel_rfl)) (fun _ _ _ h => h) (Or.inr ⟨by rfl, rfl⟩) ?_ ?_;rotate_left;(simp only [Act.put, List.setIfInBounds_toArray, List.set_cons_zero, List.set_cons_succ, i64_w, i32_w];rfl)
      refine pure_ (i := 28) (N := some 34) (v := undef) (a' := ?_) #[Tt,Tt,Tt,Tt,Tt,Tt,Tt,Tt,Tt,Tt,Tt,Tt,Tt,Tt,Tt,Tt,Tt,Tt,Tt,Tt,Tt,Tt,Tt,Tt,Tt,Tt,Tt,Tt,Tt,Ff] rfl rfl (any_of HT_.out (by kernel_rfl)) (fun _ _ _ h => h) (Or.inr ⟨by rfl, rfl⟩) ?_ ?_;rotate_left;(simp only [Act.put, List.setIfInBounds_toArray, List.set_cons_zero, List.set_cons_succ, i64_w, i32_w];rfl)
      refine pure_ (i := 29) (N := some 35) (v := ?_) (a' := ?_) #[Tt,Tt,Tt,Tt,Tt,Tt,Tt,Tt,Tt,Tt,Tt,Tt,Tt,Tt,Tt,Tt,Tt,Tt,Tt,Tt,Tt,Tt,Tt,Tt,Tt,Tt,Tt,Tt,Tt,Tt] rfl rfl (any_of HT_.out (by kernel_rfl)) (fun _ _ _ h => h) (Or.inl ⟨by rfl, ?_⟩) ?_ ?_;rotate_left;(intro w';go_simp;with_reducible rfl);rotate_left;(simp only [Act.put, List.setIfInBounds_toArray, List.set_cons_zero, List.set_cons_succ, i64_w, i32_w];rfl)
      refine done_ (done_of HT_.out (by kernel_rfl)) ?_
      go_wp2
      go_ret
      exact ⟨by rw [show common_row.f p i = n from by have := HI.out; have := ST2.out; omega]; rfl, HB.out⟩

/-! ### common_line_fence: function 28 -/
/-! ### The row of just so many signs of code -/
def common_fence.go (p : List S79) (n : Int) : Nat → Int → Int
  | 0, _ => -1
  | f + 1, i => if i < (p.length : Int) then (if (rd_T79 p i).f0 = 96 then (if common_row.f p i = n then i else common_fence.go p n f (i + common_row.f p i)) else common_fence.go p n f (i + 1)) else -1
def common_fence.f (p : List S79) (i n : Int) : Int := common_fence.go p n (p.length + 1) i
set_option maxRecDepth 100000 in
set_option maxHeartbeats 8000000 in
theorem common_fence.calls (B b : Nat) (A : Option Addr) (c : Nat) (p : List S79) (out : List Prt) (i n : Int) (w : World) (h : common_L B b A c p out w) (hp : p.length ≤ 4000) (h0 : 0 ≤ i) (hi : i ≤ (p.length : Int)) :
    Calls Tryd.prog 28 #[.pointer (some ⟨b, 0, none⟩), .int .i64 i, .int .i64 n] w fun e w' => e = .returned (.int .i64 (common_fence.f p i n)) ∧ Below w.heap.size w w' := by
  have hu54 := Tryd.underlying54
  have hu79 := Tryd.underlying79
  have HL := Aside0.mk h
  have HN := Aside0.mk (And.intro hp (And.intro h0 hi))
  clear h hp h0 hi
  go_enter Tryd.func28, Tryd.ntmps28
  go_wp2
  go_loopg [1] (p.length + 1) (fun kq v1 w' => ∃ j : Int, v1 = .int .i64 j ∧ Aside0 (0 ≤ j ∧ j ≤ (p.length : Int) ∧ p.length < j + kq ∧ common_fence.go p n kq j = common_fence.f p i n ∧ Below w.heap.size w w'))
  case atStart => exact ⟨i, rfl, ⟨by have := HN.out; omega, by have := HN.out; omega, by have := HN.out; omega, rfl, Below.refl _ _⟩⟩
  case round =>
    obtain ⟨j, rfl, HI⟩ := hrel
    have hgo := HI.out.2.2.2.1
    cases gk with
    | zero => have := HI.out; omega
    | succ f =>
    simp only [common_fence.go] at hgo
    obtain ⟨Ao, co, h1, h2, h3, h4⟩ := (HL.out.below HI.out.2.2.2.2).open
    have s0 : wr.cell? ⟨b, 0, none⟩ = some (.slice A p.length c) := (blk_cell h1 0).trans rfl
    have HC := Aside0.mk (Kd.R_reads' h2).2.2
    clear h1 h2 h3 h4
    by_cases c5 : j < (p.length : Int)
    · have c5b : decide (j < (p.length : Int)) = true := decide_eq_true c5
      rw [if_pos c5] at hgo
      have j0 : 0 ≤ j := HI.out.1
      obtain ⟨ad, eA, x0, _⟩ := at_T79 HC.out j j0 c5
      subst eA
      have j0t := eq_true j0
      have c5t := eq_true c5
      have C5 := Aside0.mk c5
      have RB := Aside0.mk (common_row.bound p j j0 c5)
      clear j0 c5
      by_cases c6 : (rd_T79 p j).f0 = 96
      · have c6b : ((rd_T79 p j).f0 != 96) = false := bne_eq_false_iff_eq.mpr c6
        have c6c : ((rd_T79 p j).f0 == 96) = true := beq_iff_eq.mpr c6
        rw [if_pos c6] at hgo
        have HG := Aside0.mk hgo
        clear c6 hgo
        go_wp2_with fail
        refine (common_row.calls B b _ c p out j _ (HL.out.below HI.out.2.2.2.2) HN.out.1 HI.out.1 C5.out).mono ?_
        rintro e w2 ⟨rfl, hb⟩
        have HB := Aside0.mk (below_step HI.out.2.2.2.2 hb)
        have RR := RB.out
        have HG2 := HG.out
        clear hb HG RB
        generalize common_row.f p j = r at *
        have hw : wrap64 (j + r) = j + r := by have := HN.out; have := HI.out; unfold wrap64; omega
        by_cases c7 : r = n
        · have c7b : (r == n) = true := beq_iff_eq.mpr c7
          rw [if_pos c7] at HG2
          clear c7
          go_wp2
          go_ret
          exact ⟨by rw [← HG2]; rfl, HB.out⟩
        · have c7b : (r == n) = false := beq_eq_false_iff_ne.mpr c7
          rw [if_neg c7] at HG2
          have HG3 := Aside0.mk HG2
          have RR := Aside0.mk RR
          clear c7 HG2
          go_wp2
          go_roundg f
          case measure => omega
          case rel => exact ⟨j + r, by rw [hw], ⟨by have := RR.out; have := HI.out; omega, by have := RR.out; omega, by have := RR.out; have := HI.out; omega, HG3.out, HB.out⟩⟩
      · have c6b : ((rd_T79 p j).f0 != 96) = true := bne_iff_ne.mpr c6
        have c6c : ((rd_T79 p j).f0 == 96) = false := beq_eq_false_iff_ne.mpr c6
        rw [if_neg c6] at hgo
        have HG := Aside0.mk hgo
        have hw : wrap64 (j + 1) = j + 1 := by have := HN.out; have := HI.out; unfold wrap64; omega
        clear c6 hgo RB
        go_wp2
        go_roundg f
        case measure => omega
        case rel => exact ⟨j + 1, by rw [hw], ⟨by have := HI.out; omega, by have := C5.out; omega, by have := HI.out; omega, HG.out, HI.out.2.2.2.2⟩⟩
    · have c5b : decide (j < (p.length : Int)) = false := decide_eq_false c5
      rw [if_neg c5] at hgo
      have HG := Aside0.mk hgo
      clear c5 hgo
      go_wp2
      go_ret
      exact ⟨by rw [← HG.out]; rfl, HI.out.2.2.2.2⟩

end Go.Proofs.YtfnafjohfmlniaaDoor.PCs
-- Written for this claim by a program (the kit's print, with hand-made contracts for what it does not take).
namespace Go.Proofs.YtfnafjohfmlniaaDoor.PCs
open Go.RowKit Go.Proofs.YtfnafjohfmlniaaDoorW.PrintWords Go.Proofs.YtfnafjohfmlniaaDoorW.PrintLast Go.Proofs.YtfnafjohfmlniaaDoorW.PrintMore
attribute [local go_sem] max2_int min2_int max_two min_two max_three min_three max_four min_four   -- for this text's walks alone
set_option linter.unusedVariables false
set_option linter.unusedSimpArgs false

/-! ### common_line_plain: function 29 -/
/-! ### Code points are put with a mark -/
def common_cut (p : List S79) (i j : Int) : List S79 := (p.take j.toNat).drop i.toNat
def common_plain.one (m : Int) (x : S79) : Prt := ⟨⟨0, 0, x.f0, m⟩, none, 0, false⟩
def common_plain.f (p : List S79) (i j m : Int) : List Prt := (common_cut p i j).map (common_plain.one m)
theorem common_cut_length (p : List S79) (i j : Int) (hj : j ≤ (p.length : Int)) : (common_cut p i j).length = j.toNat - i.toNat := by
  unfold common_cut
  rw [List.length_drop, List.length_take]
  omega
theorem common_cut_mem {p : List S79} {i j : Int} {x : S79} (h : x ∈ common_cut p i j) : x ∈ p := List.mem_of_mem_take (List.mem_of_mem_drop h)
theorem common_take_succ {α β : Type} (f : α → β) (l : List α) (z : α) (k : Nat) (h : k < l.length) : (l.take (k + 1)).map f = (l.take k).map f ++ [f (l.getD k z)] := by
  rw [List.take_add_one, List.map_append, List.getD_eq_getElem?_getD, List.getElem?_eq_getElem h]
  rfl
theorem common_getD_mem {α : Type} (l : List α) (z : α) (k : Nat) (h : k < l.length) : l.getD k z ∈ l := by
  rw [List.getD_eq_getElem?_getD, List.getElem?_eq_getElem h]
  exact List.getElem_mem _
def common_plain.T3 : Bool × List (List Nat × List Nat) := (true, [([], []), ([], []), ([1], [1]), ([2], [2]), ([3], [3]), ([], []), ([5], [5]), ([6], [6]), ([], []), ([7, 8], [7, 8]), ([9], [9]), ([10], [10]), ([4, 11], [4, 11]), ([0, 0, 1, 2, 3, 4, 5, 6, 7, 8, 9, 10, 11, 12], [0]), ([13, 0, 1, 2, 3, 4, 5, 6, 7, 8, 9, 10, 11, 12], [13]), ([14, 12, 12, 0, 1, 2, 3, 4, 5, 6, 7, 8, 9, 10, 11, 12], [12, 14])])
def common_plain.B3 : List Nat := [0, 0, 2, 6, 14, 0, 32, 96, 0, 480, 992, 2016, 4094, 8191, 16383, 32767]
theorem common_plain.tab3 : rtab .any (opsOf Tryd.f29 3) = common_plain.T3 := by kernel_rfl
theorem common_plain.bits3 : waitsOk common_plain.T3.2 common_plain.B3 = true := by kernel_rfl
set_option maxRecDepth 100000 in
set_option maxHeartbeats 8000000 in
theorem common_plain.calls (B b : Nat) (A : Option Addr) (c : Nat) (p : List S79) (out : List Prt) (i j m : Int) (w0 w : World) (h : common_L B b A c p out w) (hB : Below B w0 w) (hp : p.length ≤ 4000) (hc : ∀ x ∈ p, 0 ≤ x.f0 ∧ x.f0 ≤ 1114111) (ho : out.length ≤ 4000000) (h0 : 0 ≤ i) (hij : i ≤ j) (hj : j ≤ (p.length : Int)) :
    Calls Tryd.prog 29 #[.pointer (some ⟨b, 0, none⟩), .int .i64 i, .int .i64 j, .int .i64 m] w fun e w' => e = .returned (.tuple #[]) ∧ common_L B b A c p (out ++ common_plain.f p i j m) w' ∧ Below B w0 w' := by
  have hu54 := Tryd.underlying54
  have hu79 := Tryd.underlying79
  have hu57 := Tryd.underlying57
  have hu43 := Tryd.underlying43
  have HL := Aside0.mk h
  have HB := Aside0.mk hB
  have HN := Aside0.mk (And.intro hp (And.intro h0 (And.intro hij (And.intro hj ho))))
  have HC := Aside0.mk hc
  obtain ⟨Ao, co, h1, h2, h3, h4⟩ := h.open
  have s0 : w.cell? ⟨b, 0, none⟩ = some (.slice A p.length c) := (blk_cell h1 0).trans rfl
  have hcap := (Kd.R_reads' h2).2.1
  obtain ⟨i0_, hi0_, _, hsz_, _⟩ := info_parts info79
  have hcut := cut_mid (P := Tryd.prog) 48 79 .i64 .i64 Tryd.underlying48 hi0_ 2 hsz_ A p.length c i j h0 hij hj hcap
  obtain ⟨A1, hA1⟩ : ∃ A1, A1 = (if c = i.toNat then A else A.map (·.add (i.toNat * 2))) := ⟨_, rfl⟩
  obtain ⟨c1, hc1⟩ : ∃ c1, c1 = c - i.toNat := ⟨_, rfl⟩
  have hy := common_cut_length p i j hj
  rw [← hA1, ← hc1, ← hy] at hcut
  have SEE : Aside0 (∀ W : World, Kd.C k79 W A p.length p → Kd.C k79 W A1 (common_cut p i j).length (common_cut p i j)) := ⟨fun W hW => by
    rw [hA1]
    exact Kd.C_mid (lo := i.toNat) (hi := j.toNat) hW (by omega) (by omega) hcap⟩
  have PF := Aside0.mk (show common_plain.f p i j m = (common_cut p i j).map (common_plain.one m) from rfl)
  have YM := Aside0.mk (fun x hx => hc x (common_cut_mem (i := i) (j := j) hx))
  have YL := Aside0.mk (show (common_cut p i j).length ≤ 4000 from by omega)
  rw [PF.out]
  clear h hB hp h0 hij hj h1 h2 h3 h4 ho hc hi0_ hsz_ hA1 hc1 hy PF
  generalize common_cut p i j = ys at *
  go_enter Tryd.func29, Tryd.ntmps29
  go_wp2
  go_loopg [18] ys.length (fun kq v18 w' => ∃ k : Nat, v18 = .int .i64 (k : Int) ∧ Aside0 (k + kq = ys.length ∧ common_L B b A c p (out ++ (ys.take k).map (common_plain.one m)) w' ∧ Below B w0 w'))
  case atStart => exact ⟨0, rfl, ⟨by omega, by rw [List.take_zero, List.map_nil, List.append_nil]; exact HL.out, HB.out⟩⟩
  case round =>
    clear HL HB s0 hcap
    obtain ⟨k, rfl, HI⟩ := hrel
    by_cases c5 : (k : Int) < (ys.length : Int)
    · have c5b : decide ((k : Int) < (ys.length : Int)) = true := decide_eq_true c5
      have c5t := eq_true c5
      have k0t := eq_true (show (0 : Int) ≤ (k : Int) by omega)
      obtain ⟨Ao, co, h1, h2, h3, h4⟩ := HI.out.2.1.open
      obtain ⟨ad, eA, x0, x1⟩ := at_T79 (SEE.out _ (Kd.R_reads' h2).2.2) (k : Int) (by omega) c5
      subst eA
      rw [Int.toNat_natCast] at x0 x1
      have hmem := YM.out _ (common_getD_mem ys ⟨0, 0⟩ k (by omega))
      have EX : Aside0 (rd_T79 ys (k : Int) = ys.getD k ⟨0, 0⟩) := ⟨rfl⟩
      obtain ⟨q, hq⟩ : ∃ q, q = rd_T79 ys (k : Int) := ⟨_, rfl⟩
      rw [← hq] at x0 x1
      have EQ := Aside0.mk (hq.trans EX.out)
      rw [← EQ.out] at hmem
      have hw1 : wrap64 q.f0 = q.f0 := by unfold wrap64; omega
      have hw2 : IntKind.i64.wrap q.f0 = q.f0 := (i64_w _).trans hw1
      have hw3 : wrap64 ((k : Int) + 1) = ((k + 1 : Nat) : Int) := by have := YL.out; unfold wrap64; omega
      clear hq EX hmem
      have H1 := Aside0.mk (blk_alloc h1 (.cells #[.int .i32 q.f0, .int .i64 q.f1] 79))
      have H2 := Aside0.mk (Kd.R_alloc h2 (.cells #[.int .i32 q.f0, .int .i64 q.f1] 79))
      have H3 := Aside0.mk (Kd.R_alloc h3 (.cells #[.int .i32 q.f0, .int .i64 q.f1] 79))
      have HB := Aside0.mk (HI.out.2.2.alloc (Nat.le_of_lt (Nat.lt_of_le_of_lt h4 (blk_lt h1))) (.cells #[.int .i32 q.f0, .int .i64 q.f1] 79))
      have z0 : (wr.alloc (.cells #[.int .i32 q.f0, .int .i64 q.f1] 79)).cell? ⟨wr.heap.size, 0, none⟩ = some (.int .i32 q.f0) := (blk_cell (blk_new wr (.cells #[.int .i32 q.f0, .int .i64 q.f1] 79)) 0).trans rfl
      have s1 : (wr.alloc (.cells #[.int .i32 q.f0, .int .i64 q.f1] 79)).cell? ⟨b, 1, none⟩ = some (.slice Ao (out ++ (ys.take k).map (common_plain.one m)).length co) := (blk_cell H1.out 1).trans rfl
      have HB4 := Aside0.mk h4
      have HO : Aside0 ((out ++ (ys.take k).map (common_plain.one m)).length ≤ 4100000) := ⟨by have := HN.out; have := YL.out; rw [List.length_append, List.length_map, List.length_take]; omega⟩
      have NX := Aside0.mk (show out ++ (ys.take k).map (common_plain.one m) ++ [common_plain.one m q] = out ++ (ys.take (k + 1)).map (common_plain.one m) from by rw [common_take_succ _ ys ⟨0, 0⟩ k (by omega), ← EQ.out, List.append_assoc])
      have NK := Aside0.mk (And.intro HI.out.1 c5)
      clear h1 h2 h3 h4 HI c5 EQ
      generalize out ++ (ys.take k).map (common_plain.one m) = o1 at *
      obtain ⟨no, hno⟩ : ∃ n, n = o1.length := ⟨_, rfl⟩
      rw [← hno] at s1 H1 H3
      clear hno
      go_wp2
      refine start_ (n := 16) (S := fun w' => w'.cell? ⟨b, 1, none⟩ = some (.slice Ao no co) ∧ w'.cell? ⟨wr.heap.size, 0, none⟩ = some (.int .i32 q.f0)) (ds := [12, 15]) #[Ff,Ff,Ff,Ff,Ff,Ff,Ff,Ff,Ff,Ff,Ff,Ff,Ff,Ff,Ff,Ff] (by kernel_rfl) rfl rfl ⟨s1, z0⟩ (fun hHeld => ?_)
      refine with_tabW common_plain.tab3 common_plain.bits3 (fun HT_ HW_ => ?_)
      have BO := Aside0.mk (blk_drew H1.out)
      have RP := Aside0.mk (Kd.R_drew H2.out)
      have RO := Aside0.mk (Kd.R_drew H3.out)
      have BL := Aside0.mk (show Below B w0 (wr.alloc (.cells #[.int .i32 q.f0, .int .i64 q.f1] 79)).drew from Below.drew HB.out)
      have BS := Aside0.mk (Nat.le_of_lt (Nat.lt_of_le_of_lt HB4.out (blk_lt BO.out)))
      clear H1 H2 H3 HB s1 z0
      generalize (wr.alloc (.cells #[.int .i32 q.f0, .int .i64 q.f1] 79)).drew = w13 at *
      refine pure_ (i := 0) (N := some 22) (v := ?_) (a' := ?_) #[Tt,Ff,Ff,Ff,Ff,Ff,Ff,Ff,Ff,Ff,Ff,Ff,Ff,Ff,Ff,Ff] rfl rfl (any_of HT_.out (by kernel_rfl)) (fun _ _ _ h => h) (Or.inl ⟨by rfl, ?_⟩) ?_ ?_;rotate_left;(intro w';go_simp;with_reducible rfl);rotate_left;(simp only [Act.put, List.setIfInBounds_toArray, List.set_cons_zero, List.set_cons_succ, i64_w, i32_w];rfl)
      refine pure_ (i := 1) (N := some 23) (v := ?_) (a' := ?_) #[Tt,Tt,Ff,Ff,Ff,Ff,Ff,Ff,Ff,Ff,Ff,Ff,Ff,Ff,Ff,Ff] rfl rfl (any_of HT_.out (by kernel_rfl)) (fun _ _ _ h => h) (Or.inl ⟨by rfl, ?_⟩) ?_ ?_;rotate_left;(intro w';go_simp;with_reducible rfl);rotate_left;(simp only [Act.put, List.setIfInBounds_toArray, List.set_cons_zero, List.set_cons_succ, i64_w, i32_w];rfl)
      refine pure_ (i := 2) (N := some 24) (v := ?_) (a' := ?_) #[Tt,Tt,Tt,Ff,Ff,Ff,Ff,Ff,Ff,Ff,Ff,Ff,Ff,Ff,Ff,Ff] rfl rfl (any_of HT_.out (by kernel_rfl)) (fun _ _ _ h => h) (Or.inl ⟨by rfl, ?_⟩) ?_ ?_;rotate_left;(intro w';go_simp;with_reducible rfl);rotate_left;(simp only [Act.put, List.setIfInBounds_toArray, List.set_cons_zero, List.set_cons_succ, i64_w, i32_w];rfl)
      refine pure_ (i := 3) (N := some 25) (v := ?_) (a' := ?_) #[Tt,Tt,Tt,Tt,Ff,Ff,Ff,Ff,Ff,Ff,Ff,Ff,Ff,Ff,Ff,Ff] rfl rfl (any_of HT_.out (by kernel_rfl)) (fun _ _ _ h => h) (Or.inl ⟨by rfl, ?_⟩) ?_ ?_;rotate_left;(intro w';go_simp;with_reducible rfl);rotate_left;(simp only [Act.put, List.setIfInBounds_toArray, List.set_cons_zero, List.set_cons_succ, i64_w, i32_w];rfl)
      refine take_ (i := 4) (N := some 26) (v := ?_) (a' := ?_) #[Tt,Tt,Tt,Tt,Tt,Ff,Ff,Ff,Ff,Ff,Ff,Ff,Ff,Ff,Ff,Ff] rfl rfl (take_ofW HT_.out HW_.out (by kernel_rfl)) (fun _ _ _ h => h) (Or.inl ⟨by rfl, ?_⟩) hHeld ?_ ?_;rotate_left;(rintro w' ⟨s0, s1⟩;go_simp;with_reducible rfl);rotate_left;(simp only [Act.put, List.setIfInBounds_toArray, List.set_cons_zero, List.set_cons_succ, i64_w, i32_w];rfl)
      refine pure_ (i := 5) (N := some 27) (v := ?_) (a' := ?_) #[Tt,Tt,Tt,Tt,Tt,Tt,Ff,Ff,Ff,Ff,Ff,Ff,Ff,Ff,Ff,Ff] rfl rfl (any_of HT_.out (by kernel_rfl)) (fun _ _ _ h => h) (Or.inl ⟨by rfl, ?_⟩) ?_ ?_;rotate_left;(intro w';go_simp;with_reducible rfl);rotate_left;(simp only [Act.put, List.setIfInBounds_toArray, List.set_cons_zero, List.set_cons_succ, i64_w, i32_w];rfl)
      refine take_ (i := 6) (N := some 28) (v := ?_) (a' := ?_) #[Tt,Tt,Tt,Tt,Tt,Tt,Tt,Ff,Ff,Ff,Ff,Ff,Ff,Ff,Ff,Ff] rfl rfl (take_ofW HT_.out HW_.out (by kernel_rfl)) (fun _ _ _ h => h) (Or.inl ⟨by rfl, ?_⟩) hHeld ?_ ?_;rotate_left;(rintro w' ⟨s0, s1⟩;go_simp;with_reducible rfl);rotate_left;(simp only [Act.put, List.setIfInBounds_toArray, List.set_cons_zero, List.set_cons_succ, i64_w, i32_w];rfl)
      refine pure_ (i := 7) (N := some 29) (v := ?_) (a' := ?_) #[Tt,Tt,Tt,Tt,Tt,Tt,Tt,Tt,Ff,Ff,Ff,Ff,Ff,Ff,Ff,Ff] rfl rfl (any_of HT_.out (by kernel_rfl)) (fun _ _ _ h => h) (Or.inl ⟨by rfl, ?_⟩) ?_ ?_;rotate_left;(intro w';go_simp;with_reducible rfl);rotate_left;(simp only [Act.put, List.setIfInBounds_toArray, List.set_cons_zero, List.set_cons_succ, i64_w, i32_w];rfl)
      refine pure_ (i := 8) (N := some 30) (v := ?_) (a' := ?_) #[Tt,Tt,Tt,Tt,Tt,Tt,Tt,Tt,Tt,Ff,Ff,Ff,Ff,Ff,Ff,Ff] rfl rfl (any_of HT_.out (by kernel_rfl)) (fun _ _ _ h => h) (Or.inl ⟨by rfl, ?_⟩) ?_ ?_;rotate_left;(intro w';go_simp;with_reducible rfl);rotate_left;(simp only [Act.put, List.setIfInBounds_toArray, List.set_cons_zero, List.set_cons_succ, i64_w, i32_w];rfl)
      refine pure_ (i := 9) (N := some 31) (v := ?_) (a' := ?_) #[Tt,Tt,Tt,Tt,Tt,Tt,Tt,Tt,Tt,Tt,Ff,Ff,Ff,Ff,Ff,Ff] rfl rfl (any_of HT_.out (by kernel_rfl)) (fun _ _ _ h => h) (Or.inl ⟨by rfl, ?_⟩) ?_ ?_;rotate_left;(intro w';go_simp;with_reducible rfl);rotate_left;(simp only [Act.put, List.setIfInBounds_toArray, List.set_cons_zero, List.set_cons_succ, i64_w, i32_w];rfl)
      refine pure_ (i := 10) (N := some 32) (v := ?_) (a' := ?_) #[Tt,Tt,Tt,Tt,Tt,Tt,Tt,Tt,Tt,Tt,Tt,Ff,Ff,Ff,Ff,Ff] rfl rfl (any_of HT_.out (by kernel_rfl)) (fun _ _ _ h => h) (Or.inl ⟨by rfl, ?_⟩) ?_ ?_;rotate_left;(intro w';go_simp;with_reducible rfl);rotate_left;(simp only [Act.put, List.setIfInBounds_toArray, List.set_cons_zero, List.set_cons_succ, i64_w, i32_w];rfl)
      refine one_ (i := 11) (N := some 33) #[Tt,Tt,Tt,Tt,Tt,Tt,Tt,Tt,Tt,Tt,Tt,Tt,Ff,Ff,Ff,Ff] rfl rfl (one_of HT_.out (by kernel_rfl)) (by decide) (fun K hK => ?_)
      refine value_ (w1 := ?_) (v := ?_) (by rfl) rfl ?_ ?_
      rotate_left 2
      · go_simp
        constructor
        · rfl
        · rfl
      refine hK.out _ _ ⟨cell_grown (World.grownBy_alloc w13 (.cells #[.int .i64 0, .int .i64 0, .int .i64 q.f0, .int .i64 m, .pointer none, .int .i64 0, .bool false] 57 (0, 0)) none) hHeld.1 (by simp), cell_grown (World.grownBy_alloc w13 (.cells #[.int .i64 0, .int .i64 0, .int .i64 q.f0, .int .i64 m, .pointer none, .int .i64 0, .bool false] 57 (0, 0)) none) hHeld.2 (by simp)⟩ (fun hHeld => ?_)
      clear hK K
      refine norm_ (a' := ?_) ?_ ?_
      rotate_left
      · show Act.put _ (some 33) _ = _
        simp only [Act.put, List.setIfInBounds_toArray, List.set_cons_zero, List.set_cons_succ, i64_w, i32_w]
        rfl
      refine last_ (i := 12) (N := some 34) #[Tt,Tt,Tt,Tt,Tt,Tt,Tt,Tt,Tt,Tt,Tt,Tt,Tt,Ff,Ff,Ff] rfl rfl (one_of HT_.out (by kernel_rfl)) (by decide) (fun K hK => ?_)
      refine Kd.R_append_step kPrt (w0 := w0) B (by rfl) (.tmp 26) (.tmp 33) 52 57 (.agg #[.int .i64 0, .int .i64 0, .int .i64 0, .int .i64 0, .pointer none, .int .i64 0, .bool false]) 56 rfl Tryd.underlying52 info57 rfl (by decide) (by omega) (.slice Ao no co) o1 (common_plain.one m q) [.int .i64 0, .int .i64 0, .int .i64 q.f0, .int .i64 m, .pointer none, .int .i64 0, .bool false] (fun _ => True) (fun _ => False) rfl rfl (kPrt_mkM (common_plain.one m q) rfl) (fun _ hk => hk.elim) (fun _ _ => trivial) RO.out BL.out BS.out (by have := HO.out; omega) ?_
      intro v1 w9 hR1 hb9 hg1 hat1
      obtain ⟨av_, cv_, hv1_⟩ := Kd.R_slice hR1
      obtain ⟨nv_, hnv_⟩ : ∃ nn_, nn_ = (o1 ++ [(common_plain.one m q)]).length := ⟨_, rfl⟩
      rw [← hnv_] at hv1_
      subst hv1_
      have R9 := Aside0.mk hR1
      have B9 := Aside0.mk hb9
      have O9 := Aside0.mk (blk_grown BO.out hg1 (Kd.R_ne RO.out BO.out (by decide)))
      have P9 := Aside0.mk (Kd.R_mono (Kd.R_grown (Kd.R_bound RP.out) hg1 (fun k hk => by obtain ⟨_, _, _, q_, hq_, cs_, hc_⟩ := hk; exact Kd.R_ne RO.out hc_ (by rintro rfl; revert hq_; decide))) (fun _ hk => hk.1))
      clear hR1 hb9 hg1 hat1 hnv_
      have hco : w9.cell? ⟨b, 1, none⟩ = some (.slice Ao no co) := (blk_cell O9.out 1).trans rfl
      have hfo := blk_frozen O9.out 1
      refine hK.out _ _ ?_
      clear hK K
      refine norm_ (a' := ?_) ?_ ?_
      rotate_left
      · show Act.put _ (some 34) _ = _
        simp only [Act.put, List.setIfInBounds_toArray, List.set_cons_zero, List.set_cons_succ, i64_w, i32_w]
        rfl
      refine pure_ (i := 13) (N := some 35) (v := ?_) (a' := ?_) #[Tt,Tt,Tt,Tt,Tt,Tt,Tt,Tt,Tt,Tt,Tt,Tt,Tt,Tt,Ff,Ff] rfl rfl (any_of HT_.out (by kernel_rfl)) (fun _ _ _ h => h) (Or.inl ⟨by rfl, ?_⟩) ?_ ?_;rotate_left;(intro w';go_simp;with_reducible rfl);rotate_left;(simp only [Act.put, List.setIfInBounds_toArray, List.set_cons_zero, List.set_cons_succ, i64_w, i32_w];rfl)
      refine pure_ (i := 14) (N := some 36) (v := ?_) (a' := ?_) #[Tt,Tt,Tt,Tt,Tt,Tt,Tt,Tt,Tt,Tt,Tt,Tt,Tt,Tt,Tt,Ff] rfl rfl (any_of HT_.out (by kernel_rfl)) (fun _ _ _ h => h) (Or.inl ⟨by rfl, ?_⟩) ?_ ?_;rotate_left;(intro w';go_simp;with_reducible rfl);rotate_left;(simp only [Act.put, List.setIfInBounds_toArray, List.set_cons_zero, List.set_cons_succ, i64_w, i32_w];rfl)
      refine last_ (i := 15) (N := none) #[Tt,Tt,Tt,Tt,Tt,Tt,Tt,Tt,Tt,Tt,Tt,Tt,Tt,Tt,Tt,Tt] rfl rfl (one_of HT_.out (by kernel_rfl)) (by decide) (fun K hK => ?_)
      refine skip_ (w1 := ?_) (by rfl) rfl ?_ ?_
      rotate_left
      · go_simp
        rfl
      refine hK.out _ _ ?_
      clear hK K
      refine done_ (done_of HT_.out (by kernel_rfl)) ?_
      go_wp2
      go_roundg (gk - 1)
      case measure => have := NK.out; omega
      case rel => exact ⟨k + 1, by rw [hw3], ⟨by have := NK.out; omega, by rw [← NX.out]; exact ⟨⟨_, (blk_set O9.out 1 _).trans rfl, Kd.R_set P9.out O9.out (by decide) 1 _, Kd.R_set R9.out O9.out (by decide) 1 _⟩, HB4.out⟩, B9.out.setCell HB4.out _⟩⟩
    · have c5b : decide ((k : Int) < (ys.length : Int)) = false := decide_eq_false c5
      go_wp2
      go_end0
      have e : (ys.take k) = ys := List.take_of_length_le (by omega)
      have hI := HI.out.2
      rw [e] at hI
      exact ⟨rfl, hI⟩

/-! ### common_line_code: function 30 -/
/-! ### Code between its fences -/
def common_code.other (ys : List S79) : Bool := ys.any (fun x => x.f0 != 32)
def common_code.bare (p : List S79) (i j : Int) : Bool := decide (1 < j - i) && (common_code.other (common_cut p i j) && (((rd_T79 p i).f0 == 32) && ((rd_T79 p (j - 1)).f0 == 32)))
def common_code.f (p : List S79) (i j : Int) : List Prt := if common_code.bare p i j = true then common_plain.f p (i + 1) (j - 1) 4 else common_plain.f p i j 4
set_option maxRecDepth 100000 in
set_option maxHeartbeats 8000000 in
theorem common_code.calls (B b : Nat) (A : Option Addr) (c : Nat) (p : List S79) (out : List Prt) (i j : Int) (w0 w : World) (h : common_L B b A c p out w) (hB : Below B w0 w) (hp : p.length ≤ 4000) (hc : ∀ x ∈ p, 0 ≤ x.f0 ∧ x.f0 ≤ 1114111) (ho : out.length ≤ 4000000) (h0 : 0 ≤ i) (hij : i ≤ j) (hj : j ≤ (p.length : Int)) :
    Calls Tryd.prog 30 #[.pointer (some ⟨b, 0, none⟩), .int .i64 i, .int .i64 j] w fun e w' => e = .returned (.tuple #[]) ∧ common_L B b A c p (out ++ common_code.f p i j) w' ∧ Below B w0 w' := by
  have hu54 := Tryd.underlying54
  have hu79 := Tryd.underlying79
  have HL := Aside0.mk h
  have HB := Aside0.mk hB
  have HN := Aside0.mk (And.intro hp (And.intro h0 (And.intro hij (And.intro hj ho))))
  have HC := Aside0.mk hc
  obtain ⟨Ao, co, h1, h2, h3, h4⟩ := h.open
  have s0 : w.cell? ⟨b, 0, none⟩ = some (.slice A p.length c) := (blk_cell h1 0).trans rfl
  have hcap := (Kd.R_reads' h2).2.1
  obtain ⟨i0_, hi0_, _, hsz_, _⟩ := info_parts info79
  have hcut := cut_mid (P := Tryd.prog) 48 79 .i64 .i64 Tryd.underlying48 hi0_ 2 hsz_ A p.length c i j h0 hij hj hcap
  obtain ⟨A1, hA1⟩ : ∃ A1, A1 = (if c = i.toNat then A else A.map (·.add (i.toNat * 2))) := ⟨_, rfl⟩
  obtain ⟨c1, hc1⟩ : ∃ c1, c1 = c - i.toNat := ⟨_, rfl⟩
  have hy := common_cut_length p i j hj
  rw [← hA1, ← hc1, ← hy] at hcut
  have SEE : Aside0 (∀ W : World, Kd.C k79 W A p.length p → Kd.C k79 W A1 (common_cut p i j).length (common_cut p i j)) := ⟨fun W hW => by
    rw [hA1]
    exact Kd.C_mid (lo := i.toNat) (hi := j.toNat) hW (by omega) (by omega) hcap⟩
  have PF := Aside0.mk (show common_code.bare p i j = (decide (1 < j - i) && (common_code.other (common_cut p i j) && (((rd_T79 p i).f0 == 32) && ((rd_T79 p (j - 1)).f0 == 32)))) from rfl)
  have YL := Aside0.mk (show (common_cut p i j).length ≤ 4000 from by omega)
  clear h hB hp h0 hij hj h1 h2 h3 h4 ho hc hi0_ hsz_ hA1 hc1 hy
  generalize common_cut p i j = ys at *
  go_enter Tryd.func30, Tryd.ntmps30
  go_wp2
  go_loopg [6, 17] ys.length (fun kq v6 v17 w' => ∃ k : Nat, v17 = .int .i64 (k : Int) ∧ v6 = .bool (common_code.other (ys.take k)) ∧ Aside0 (k + kq = ys.length ∧ Below w.heap.size w w'))
  case atStart => exact ⟨0, rfl, by rw [List.take_zero]; rfl, ⟨by omega, Below.refl _ _⟩⟩
  case round =>
    obtain ⟨k, rfl, rfl, HI⟩ := hrel
    by_cases c5 : (k : Int) < (ys.length : Int)
    · have c5b : decide ((k : Int) < (ys.length : Int)) = true := decide_eq_true c5
      have c5t := eq_true c5
      have k0t := eq_true (show (0 : Int) ≤ (k : Int) by omega)
      obtain ⟨Ao, co, h1, h2, h3, h4⟩ := (HL.out.below HI.out.2).open
      obtain ⟨ad, eA, x0, x1⟩ := at_T79 (SEE.out _ (Kd.R_reads' h2).2.2) (k : Int) (by omega) c5
      subst eA
      rw [Int.toNat_natCast] at x0 x1
      have EX : Aside0 (rd_T79 ys (k : Int) = ys.getD k ⟨0, 0⟩) := ⟨rfl⟩
      obtain ⟨q, hq⟩ : ∃ q, q = rd_T79 ys (k : Int) := ⟨_, rfl⟩
      rw [← hq] at x0 x1
      have EQ := Aside0.mk (hq.trans EX.out)
      have hw3 : wrap64 ((k : Int) + 1) = ((k + 1 : Nat) : Int) := by have := YL.out; unfold wrap64; omega
      have z0 : (wr.alloc (.cells #[.int .i32 q.f0, .int .i64 q.f1] 79)).cell? ⟨wr.heap.size, 0, none⟩ = some (.int .i32 q.f0) := (blk_cell (blk_new wr (.cells #[.int .i32 q.f0, .int .i64 q.f1] 79)) 0).trans rfl
      have NX := Aside0.mk (show common_code.other (ys.take (k + 1)) = (common_code.other (ys.take k) || (q.f0 != 32)) from by
        unfold common_code.other
        rw [List.take_add_one, List.any_append, EQ.out, List.getD_eq_getElem?_getD, List.getElem?_eq_getElem (show k < ys.length by omega)]
        simp)
      have HB2 := Aside0.mk (below_alloc HI.out.2 (.cells #[.int .i32 q.f0, .int .i64 q.f1] 79))
      have NK := Aside0.mk (And.intro HI.out.1 c5)
      clear h1 h2 h3 h4 hq EX EQ HI c5 s0
      generalize common_code.other (ys.take k) = ot at *
      cases ot with
      | true =>
        go_wp2
        go_roundg (gk - 1)
        case measure => have := NK.out; omega
        case rel => exact ⟨k + 1, by rw [hw3], by rw [NX.out, Bool.true_or], ⟨by have := NK.out; omega, HB2.out⟩⟩
      | false =>
        go_wp2
        go_roundg (gk - 1)
        case measure => have := NK.out; omega
        case rel => exact ⟨k + 1, by rw [hw3], by rw [NX.out, Bool.false_or], ⟨by have := NK.out; omega, HB2.out⟩⟩
    · have c5b : decide ((k : Int) < (ys.length : Int)) = false := decide_eq_false c5
      have e : (ys.take k) = ys := List.take_of_length_le (by omega)
      rw [e]
      have HL2 := Aside0.mk (HL.out.below HI.out.2)
      have HB2 := Aside0.mk (show Below B w0 wr from HB.out.trans (HI.out.2.mono (by have := HL.out.base; obtain ⟨_, h1, _⟩ := HL.out.ex; exact Nat.le_of_lt (Nat.lt_of_le_of_lt this (blk_lt h1)))))
      clear HL HB HI e s0
      have hwa : wrap64 (j - i) = j - i := by have := HN.out; unfold wrap64; omega
      have hwb : wrap64 (i + 1) = i + 1 := by have := HN.out; unfold wrap64; omega
      obtain ⟨jm, hjm⟩ : ∃ x, x = j - 1 := ⟨_, rfl⟩
      have hwc : wrap64 (j - 1) = jm := by have := HN.out; unfold wrap64; omega
      have JM := Aside0.mk hjm
      have PF2 := Aside0.mk PF.out
      rw [← hjm] at PF2
      have CF : Aside0 (common_code.f p i j = if common_code.bare p i j = true then common_plain.f p (i + 1) jm 4 else common_plain.f p i j 4) := ⟨by rw [JM.out]; rfl⟩
      clear hjm PF
      have LEN := Aside0.mk (show ys.length ≤ 4000 from YL.out)
      generalize common_code.other ys = ot at *
      by_cases d1 : 1 < j - i
      · have d1b : decide (1 < j - i) = true := decide_eq_true d1
        have i0 : 0 ≤ i := HN.out.2.1
        have i1 : i < (p.length : Int) := by have := HN.out; omega
        have j0 : 0 ≤ jm := by have := JM.out; omega
        have j1 : jm < (p.length : Int) := by have := HN.out; have := JM.out; omega
        obtain ⟨Ao, co, h1, h2, h3, h4⟩ := HL2.out.open
        have s0 : wr.cell? ⟨b, 0, none⟩ = some (.slice A p.length c) := (blk_cell h1 0).trans rfl
        obtain ⟨ad, eA, x0, _⟩ := at_T79 (Kd.R_reads' h2).2.2 i i0 i1
        subst eA
        obtain ⟨ad_, eA, y0, _⟩ := at_T79 (Kd.R_reads' h2).2.2 jm j0 j1
        cases eA
        have i0t := eq_true i0
        have i1t := eq_true i1
        have j0t := eq_true j0
        have j1t := eq_true j1
        have D1 := Aside0.mk d1
        clear h1 h2 h3 h4 i0 i1 j0 j1 d1
        cases ot with
        | false =>
          have E := Aside0.mk (show common_code.f p i j = common_plain.f p i j 4 from CF.out.trans (if_neg (by rw [PF2.out]; simp)))
          go_wp2_with fail
          refine (common_plain.calls B b _ c p out i j 4 w0 _ HL2.out HB2.out HN.out.1 HC.out HN.out.2.2.2.2 HN.out.2.1 HN.out.2.2.1 HN.out.2.2.2.1).mono ?_
          rintro e w2 ⟨rfl, g1, g2⟩
          have G := Aside0.mk (And.intro g1 g2)
          clear g1 g2
          go_wp2
          go_end0
          exact ⟨rfl, by rw [E.out]; exact G.out⟩
        | true =>
          by_cases e1 : (rd_T79 p i).f0 = 32
          · have e1b : ((rd_T79 p i).f0 == 32) = true := beq_iff_eq.mpr e1
            by_cases e2 : (rd_T79 p jm).f0 = 32
            · have e2b : ((rd_T79 p jm).f0 == 32) = true := beq_iff_eq.mpr e2
              have E := Aside0.mk (show common_code.f p i j = common_plain.f p (i + 1) jm 4 from CF.out.trans (if_pos (by rw [PF2.out, d1b, e1b, e2b]; rfl)))
              clear e1 e2
              go_wp2_with fail
              refine (common_plain.calls B b _ c p out (i + 1) jm 4 w0 _ HL2.out HB2.out HN.out.1 HC.out HN.out.2.2.2.2 (by have := HN.out; omega) (by have := D1.out; have := JM.out; omega) (by have := HN.out; have := JM.out; omega)).mono ?_
              rintro e w2 ⟨rfl, g1, g2⟩
              have G := Aside0.mk (And.intro g1 g2)
              clear g1 g2
              go_wp2
              go_end0
              exact ⟨rfl, by rw [E.out]; exact G.out⟩
            · have e2b : ((rd_T79 p jm).f0 == 32) = false := beq_eq_false_iff_ne.mpr e2
              have E := Aside0.mk (show common_code.f p i j = common_plain.f p i j 4 from CF.out.trans (if_neg (by rw [PF2.out, e2b]; simp)))
              go_wp2_with fail
              refine (common_plain.calls B b _ c p out i j 4 w0 _ HL2.out HB2.out HN.out.1 HC.out HN.out.2.2.2.2 HN.out.2.1 HN.out.2.2.1 HN.out.2.2.2.1).mono ?_
              rintro e w2 ⟨rfl, g1, g2⟩
              have G := Aside0.mk (And.intro g1 g2)
              clear g1 g2
              go_wp2
              go_end0
              exact ⟨rfl, by rw [E.out]; exact G.out⟩
          · have e1b : ((rd_T79 p i).f0 == 32) = false := beq_eq_false_iff_ne.mpr e1
            have E := Aside0.mk (show common_code.f p i j = common_plain.f p i j 4 from CF.out.trans (if_neg (by rw [PF2.out, e1b]; simp)))
            go_wp2_with fail
            refine (common_plain.calls B b _ c p out i j 4 w0 _ HL2.out HB2.out HN.out.1 HC.out HN.out.2.2.2.2 HN.out.2.1 HN.out.2.2.1 HN.out.2.2.2.1).mono ?_
            rintro e w2 ⟨rfl, g1, g2⟩
            have G := Aside0.mk (And.intro g1 g2)
            clear g1 g2
            go_wp2
            go_end0
            exact ⟨rfl, by rw [E.out]; exact G.out⟩
      · have d1b : decide (1 < j - i) = false := decide_eq_false d1
        have E := Aside0.mk (show common_code.f p i j = common_plain.f p i j 4 from CF.out.trans (if_neg (by rw [PF2.out, d1b]; simp)))
        go_wp2_with fail
        refine (common_plain.calls B b _ c p out i j 4 w0 _ HL2.out HB2.out HN.out.1 HC.out HN.out.2.2.2.2 HN.out.2.1 HN.out.2.2.1 HN.out.2.2.2.1).mono ?_
        rintro e w2 ⟨rfl, g1, g2⟩
        have G := Aside0.mk (And.intro g1 g2)
        clear g1 g2
        go_wp2
        go_end0
        exact ⟨rfl, by rw [E.out]; exact G.out⟩

end Go.Proofs.YtfnafjohfmlniaaDoor.PCs
-- Written for this claim by a program (the kit's print, with hand-made contracts for what it does not take).
namespace Go.Proofs.YtfnafjohfmlniaaDoor.PCs
open Go.RowKit Go.Proofs.YtfnafjohfmlniaaDoorW.PrintWords Go.Proofs.YtfnafjohfmlniaaDoorW.PrintLast Go.Proofs.YtfnafjohfmlniaaDoorW.PrintMore
attribute [local go_sem] max2_int min2_int max_two min_two max_three min_three max_four min_four   -- for this text's walks alone
set_option linter.unusedVariables false
set_option linter.unusedSimpArgs false

/-! ### common_sign: function 32 -/
mutual
def common_sign.j0 : Nat → Int → Bool → Option (Bool)
  | 0, _, _ => none
  | k + 1, x0, x3 => if x3 = true then (some false) else (if x0 ≥ 48 then (common_sign.j1 k x0 (decide (x0 ≤ 57))) else (common_sign.j1 k x0 false))
def common_sign.j1 : Nat → Int → Bool → Option (Bool)
  | 0, _, _ => none
  | k + 1, x0, x10 => if x10 = true then (common_sign.j2 k x0 x10) else (if x0 ≥ 65 then (common_sign.j2 k x0 (decide (x0 ≤ 90))) else (common_sign.j2 k x0 false))
def common_sign.j2 : Nat → Int → Bool → Option (Bool)
  | 0, _, _ => none
  | k + 1, x0, x10 => if x10 = true then (some false) else (if x0 ≥ 97 then (if x0 ≤ 122 then (some false) else (some true)) else (some true))
end
def common_sign.f (k : Nat) (a0 : Int) : Option (Bool) := if a0 < 33 then (common_sign.j0 k a0 true) else (common_sign.j0 k a0 (decide (a0 > 126)))
theorem common_sign.mono_l : ∀ k, (∀ y0 y1, LeO (common_sign.j0 k y0 y1) (common_sign.j0 (k + 1) y0 y1)) ∧ (∀ y0 y1, LeO (common_sign.j1 k y0 y1) (common_sign.j1 (k + 1) y0 y1)) ∧ (∀ y0 y1, LeO (common_sign.j2 k y0 y1) (common_sign.j2 (k + 1) y0 y1))
  | 0 => ⟨fun _ _ r h => by simp [common_sign.j0] at h, fun _ _ r h => by simp [common_sign.j1] at h, fun _ _ r h => by simp [common_sign.j2] at h⟩
  | k + 1 => by
    obtain ⟨ih0, ih1, ih2⟩ := common_sign.mono_l k
    refine ⟨?_, ?_, ?_⟩
    · intro y0 y1
      unfold common_sign.j0
      repeat' first
      | (with_reducible exact ih0 _ _)
      | (with_reducible exact ih1 _ _)
      | (with_reducible exact ih2 _ _)
      | (with_reducible exact LeO.refl _)
      | (with_reducible exact LeO.none _)
      | (with_reducible refine LeO.ite ?_ ?_)
      | (with_reducible refine LeO.bind ?_ (fun _ => ?_))
      | exact ih0 _ _
      | exact ih1 _ _
      | exact ih2 _ _
      | exact LeO.none _
      | refine LeO.ite ?_ ?_
      | refine LeO.bind ?_ (fun _ => ?_)
    · intro y0 y1
      unfold common_sign.j1
      repeat' first
      | (with_reducible exact ih0 _ _)
      | (with_reducible exact ih1 _ _)
      | (with_reducible exact ih2 _ _)
      | (with_reducible exact LeO.refl _)
      | (with_reducible exact LeO.none _)
      | (with_reducible refine LeO.ite ?_ ?_)
      | (with_reducible refine LeO.bind ?_ (fun _ => ?_))
      | exact ih0 _ _
      | exact ih1 _ _
      | exact ih2 _ _
      | exact LeO.none _
      | refine LeO.ite ?_ ?_
      | refine LeO.bind ?_ (fun _ => ?_)
    · intro y0 y1
      unfold common_sign.j2
      repeat' first
      | (with_reducible exact ih0 _ _)
      | (with_reducible exact ih1 _ _)
      | (with_reducible exact ih2 _ _)
      | (with_reducible exact LeO.refl _)
      | (with_reducible exact LeO.none _)
      | (with_reducible refine LeO.ite ?_ ?_)
      | (with_reducible refine LeO.bind ?_ (fun _ => ?_))
      | exact ih0 _ _
      | exact ih1 _ _
      | exact ih2 _ _
      | exact LeO.none _
      | refine LeO.ite ?_ ?_
      | refine LeO.bind ?_ (fun _ => ?_)
theorem common_sign.mono : ∀ a0 k, LeO (common_sign.f k a0) (common_sign.f (k + 1) a0) := by
  intro a0 k
  obtain ⟨ih0, ih1, ih2⟩ := common_sign.mono_l k
  unfold common_sign.f
  repeat' first
      | (with_reducible exact ih0 _ _)
      | (with_reducible exact ih1 _ _)
      | (with_reducible exact ih2 _ _)
      | (with_reducible exact LeO.refl _)
      | (with_reducible exact LeO.none _)
      | (with_reducible refine LeO.ite ?_ ?_)
      | (with_reducible refine LeO.bind ?_ (fun _ => ?_))
      | exact ih0 _ _
      | exact ih1 _ _
      | exact ih2 _ _
      | exact LeO.none _
      | refine LeO.ite ?_ ?_
      | refine LeO.bind ?_ (fun _ => ?_)
set_option maxHeartbeats 8000000 in
set_option maxRecDepth 100000 in
theorem common_sign.calls (k : Nat) (a0 : Int) (r : Bool) (w : World) (h : common_sign.f k a0 = some r) :
    Calls Tryd.prog 32 #[.int .i32 a0] w fun e w' => e = .returned (.bool r) ∧ Drawn0 w w' := by
  have H : (if a0 < 33 then (common_sign.j0 k a0 true) else (common_sign.j0 k a0 (decide (a0 > 126)))) = some r := h
  clear h
  have HC2 := Aside0.mk H
  clear H
  go_enter Tryd.func32, Tryd.ntmps32
  go_upto_region 1 with (fail)
  go_cut [3] (fun v3 wc => ∃ (kq : Nat) (x3_1 : Bool), v3 = .bool x3_1 ∧ Aside0 (common_sign.j0 kq a0 x3_1 = some r) ∧ Aside0 (kq ≤ k) ∧ Drawn0 w wc)
  case first =>
    have H := HC2.out
    clear HC2
    by_cases c3 : a0 < 33
    · rw [if_pos c3] at H
      have c3b0 : decide (a0 < 33) = true := decide_eq_true c3
      clear c3
      (first | rw [c3b0] | (simp only [i64_w, i32_w]; rw [c3b0]) | skip)
      have H' := Aside0.mk H
      clear H
      go_wp2
      go_meet
      case rel => exact ⟨_, (true), (by first | rfl | (simp; done) | (simp [*]; done)), H', ⟨by first | omega | exact Nat.le_refl _⟩, by repeat (first | exact Drawn0.refl _ | apply Drawn0.step)⟩
    · rw [if_neg c3] at H
      have c3b0 : decide (a0 < 33) = false := decide_eq_false c3
      clear c3
      (first | rw [c3b0] | (simp only [i64_w, i32_w]; rw [c3b0]) | skip)
      have H' := Aside0.mk H
      clear H
      go_wp2
      go_meet
      case rel => exact ⟨_, (decide (a0 > 126)), (by first | rfl | (simp; done) | (simp [*]; done)), H', ⟨by first | omega | exact Nat.le_refl _⟩, by repeat (first | exact Drawn0.refl _ | apply Drawn0.step)⟩
  case rest =>
    clear HC2
    try clear p2
    try clear c3
    try clear c3b0
    obtain ⟨kq, x3_1, rfl, HA, HJ1, ⟨mc1, rfl⟩⟩ := hcut
    cases kq with
    | zero => exact absurd HA.out (by simp [common_sign.j0])
    | succ kj1 =>
      have H := HA.out
      clear HA
      simp only [common_sign.j0] at H
      by_cases c4 : x3_1 = true
      · subst c4
        have H1 : (some false) = some r := by rw [if_pos rfl] at H; exact H
        clear H
        have H := H1
        clear H1
        obtain rfl := Option.some.inj H
        go_wp2
        go_ret
        exact ⟨by first | rfl | (simp; done) | (simp [*]; done), by repeat (first | exact Drawn0.refl _ | apply Drawn0.step)⟩
      · replace c4 := Bool.eq_false_iff.mpr c4
        subst c4
        have H1 : (if a0 ≥ 48 then (common_sign.j1 kj1 a0 (decide (a0 ≤ 57))) else (common_sign.j1 kj1 a0 false)) = some r := by rw [if_neg (show ¬ (false = true) by decide)] at H; exact H
        clear H
        have H := H1
        clear H1
        have HC5 := Aside0.mk H
        clear H
        go_upto_region 3 with (fail)
        go_cut [10] (fun v10 wc => ∃ (kq : Nat) (x10_4 : Bool), v10 = .bool x10_4 ∧ Aside0 (common_sign.j1 kq a0 x10_4 = some r) ∧ Aside0 (kq ≤ kj1) ∧ Drawn0 w wc)
        case first =>
          have H := HC5.out
          clear HC5
          by_cases c6 : a0 ≥ 48
          · rw [if_pos c6] at H
            have c6b0 : decide (48 ≤ a0) = true := decide_eq_true c6
            clear c6
            (first | rw [c6b0] | (simp only [i64_w, i32_w]; rw [c6b0]) | skip)
            have H' := Aside0.mk H
            clear H
            go_wp2
            go_meet
            case rel => exact ⟨_, (decide (a0 ≤ 57)), (by first | rfl | (simp; done) | (simp [*]; done)), H', ⟨by have := HJ1.out; first | omega | exact Nat.le_refl _⟩, by repeat (first | exact Drawn0.refl _ | apply Drawn0.step)⟩
          · rw [if_neg c6] at H
            have c6b0 : decide (48 ≤ a0) = false := decide_eq_false c6
            clear c6
            (first | rw [c6b0] | (simp only [i64_w, i32_w]; rw [c6b0]) | skip)
            have H' := Aside0.mk H
            clear H
            go_wp2
            go_meet
            case rel => exact ⟨_, (false), (by first | rfl | (simp; done) | (simp [*]; done)), H', ⟨by have := HJ1.out; first | omega | exact Nat.le_refl _⟩, by repeat (first | exact Drawn0.refl _ | apply Drawn0.step)⟩
        case rest =>
          clear HC5
          try clear c1
          try clear p2
          try clear c3
          try clear c3b0
          try clear c4
          try clear c6
          try clear c6b0
          try clear p2
          obtain ⟨kq, x10_4, rfl, HA, HJ4, ⟨mc4, rfl⟩⟩ := hcut
          cases kq with
          | zero => exact absurd HA.out (by simp [common_sign.j1])
          | succ kj4 =>
            have H := HA.out
            clear HA
            simp only [common_sign.j1] at H
            have HC7 := Aside0.mk H
            clear H
            go_upto_if 10 with (fail)
            go_cut [10] (fun v10 wc => ∃ (kq : Nat) (x10_6 : Bool), v10 = .bool x10_6 ∧ Aside0 (common_sign.j2 kq a0 x10_6 = some r) ∧ Aside0 (kq ≤ kj4) ∧ Drawn0 w wc)
            case first =>
              have H := HC7.out
              clear HC7
              by_cases c8 : x10_4 = true
              · subst c8
                have H1 : (common_sign.j2 kj4 a0 true) = some r := by rw [if_pos rfl] at H; exact H
                clear H
                have H := H1
                clear H1
                have H' := Aside0.mk H
                clear H
                go_wp2
                go_meet
                case rel => exact ⟨_, (true), (by first | rfl | (simp; done) | (simp [*]; done)), H', ⟨by have := HJ1.out; have := HJ4.out; first | omega | exact Nat.le_refl _⟩, by repeat (first | exact Drawn0.refl _ | apply Drawn0.step)⟩
              · replace c8 := Bool.eq_false_iff.mpr c8
                subst c8
                have H1 : (if a0 ≥ 65 then (common_sign.j2 kj4 a0 (decide (a0 ≤ 90))) else (common_sign.j2 kj4 a0 false)) = some r := by rw [if_neg (show ¬ (false = true) by decide)] at H; exact H
                clear H
                have H := H1
                clear H1
                by_cases c9 : a0 ≥ 65
                · rw [if_pos c9] at H
                  have c9b0 : decide (65 ≤ a0) = true := decide_eq_true c9
                  clear c9
                  (first | rw [c9b0] | (simp only [i64_w, i32_w]; rw [c9b0]) | skip)
                  have H' := Aside0.mk H
                  clear H
                  go_wp2
                  go_meet
                  case rel => exact ⟨_, (decide (a0 ≤ 90)), (by first | rfl | (simp; done) | (simp [*]; done)), H', ⟨by have := HJ1.out; have := HJ4.out; first | omega | exact Nat.le_refl _⟩, by repeat (first | exact Drawn0.refl _ | apply Drawn0.step)⟩
                · rw [if_neg c9] at H
                  have c9b0 : decide (65 ≤ a0) = false := decide_eq_false c9
                  clear c9
                  (first | rw [c9b0] | (simp only [i64_w, i32_w]; rw [c9b0]) | skip)
                  have H' := Aside0.mk H
                  clear H
                  go_wp2
                  go_meet
                  case rel => exact ⟨_, (false), (by first | rfl | (simp; done) | (simp [*]; done)), H', ⟨by have := HJ1.out; have := HJ4.out; first | omega | exact Nat.le_refl _⟩, by repeat (first | exact Drawn0.refl _ | apply Drawn0.step)⟩
            case rest =>
              clear HC7
              try clear c1
              try clear p2
              try clear c3
              try clear c3b0
              try clear c4
              try clear c6
              try clear c6b0
              try clear c8
              try clear c9
              try clear c9b0
              try clear p2
              obtain ⟨kq, x10_6, rfl, HA, HJ6, ⟨mc6, rfl⟩⟩ := hcut
              cases kq with
              | zero => exact absurd HA.out (by simp [common_sign.j2])
              | succ kj6 =>
                have H := HA.out
                clear HA
                simp only [common_sign.j2] at H
                by_cases c10 : x10_6 = true
                · subst c10
                  have H1 : (some false) = some r := by rw [if_pos rfl] at H; exact H
                  clear H
                  have H := H1
                  clear H1
                  obtain rfl := Option.some.inj H
                  go_wp2
                  go_ret
                  exact ⟨by first | rfl | (simp; done) | (simp [*]; done), by repeat (first | exact Drawn0.refl _ | apply Drawn0.step)⟩
                · replace c10 := Bool.eq_false_iff.mpr c10
                  subst c10
                  have H1 : (if a0 ≥ 97 then (if a0 ≤ 122 then (some false) else (some true)) else (some true)) = some r := by rw [if_neg (show ¬ (false = true) by decide)] at H; exact H
                  clear H
                  have H := H1
                  clear H1
                  by_cases c11 : a0 ≥ 97
                  · rw [if_pos c11] at H
                    have c11b0 : decide (97 ≤ a0) = true := decide_eq_true c11
                    clear c11
                    by_cases c12 : a0 ≤ 122
                    · rw [if_pos c12] at H
                      have c12b0 : decide (a0 ≤ 122) = true := decide_eq_true c12
                      clear c12
                      obtain rfl := Option.some.inj H
                      go_wp2
                      go_ret
                      exact ⟨by first | rfl | (simp; done) | (simp [*]; done), by repeat (first | exact Drawn0.refl _ | apply Drawn0.step)⟩
                    · rw [if_neg c12] at H
                      have c12b0 : decide (a0 ≤ 122) = false := decide_eq_false c12
                      clear c12
                      obtain rfl := Option.some.inj H
                      go_wp2
                      go_ret
                      exact ⟨by first | rfl | (simp; done) | (simp [*]; done), by repeat (first | exact Drawn0.refl _ | apply Drawn0.step)⟩
                  · rw [if_neg c11] at H
                    have c11b0 : decide (97 ≤ a0) = false := decide_eq_false c11
                    clear c11
                    obtain rfl := Option.some.inj H
                    go_wp2
                    go_ret
                    exact ⟨by first | rfl | (simp; done) | (simp [*]; done), by repeat (first | exact Drawn0.refl _ | apply Drawn0.step)⟩

/-! ### common_blank: function 49 -/
def common_blank.f (a0 : Int) : Option (Bool) := if a0 = 32 then (some true) else (some (a0 == 9))
set_option maxHeartbeats 8000000 in
set_option maxRecDepth 100000 in
theorem common_blank.calls (a0 : Int) (r : Bool) (w : World) (h : common_blank.f a0 = some r) :
    Calls Tryd.prog 49 #[.int .i32 a0] w fun e w' => e = .returned (.bool r) ∧ Drawn0 w w' := by
  have H : (if a0 = 32 then (some true) else (some (a0 == 9))) = some r := h
  clear h
  by_cases c2 : a0 = 32
  · rw [if_pos c2] at H
    have c2b0 : (a0 == 32) = true := beq_iff_eq.mpr c2
    have c2b1 : (a0 != 32) = false := bne_eq_false_iff_eq.mpr c2
    clear c2
    obtain rfl := Option.some.inj H
    go_enter Tryd.func49, Tryd.ntmps49
    go_wp2
    go_ret
    exact ⟨by first | rfl | (simp; done) | (simp [*]; done), by repeat (first | exact Drawn0.refl _ | apply Drawn0.step)⟩
  · rw [if_neg c2] at H
    have c2b0 : (a0 == 32) = false := beq_eq_false_iff_ne.mpr c2
    have c2b1 : (a0 != 32) = true := bne_iff_ne.mpr c2
    obtain rfl := Option.some.inj H
    go_enter Tryd.func49, Tryd.ntmps49
    go_wp2
    go_ret
    exact ⟨by first | rfl | (simp; done) | (simp [*]; done), by repeat (first | exact Drawn0.refl _ | apply Drawn0.step)⟩

end Go.Proofs.YtfnafjohfmlniaaDoor.PCs
