-- Written for this claim by a program (the kit's print, with hand-made contracts for what it does not take).
import Derived.Test.YtebbngeamnpgjaaDoorPIax0
namespace Go.Proofs.YtebbngeamnpgjaaDoor.PIa
open Go.RowKit Go.Proofs.YtebbngeamnpgjaaDoorW.PrintWords Go.Proofs.YtebbngeamnpgjaaDoorW.PrintLast Go.Proofs.YtebbngeamnpgjaaDoorW.PrintMore
attribute [local go_sem] max2_int min2_int max_two min_two max_three min_three max_four min_four   -- for this text's walks alone
set_option linter.unusedVariables false
set_option linter.unusedSimpArgs false

/-! ### inline_writer_turn: function 25 -/

abbrev inline_W := BuilderE.Is 67 5
theorem inline_lies : BuilderE.XE Tryd.prog Tryd.lays166_ren 67 := ⟨by kernel_rfl, by decide⟩
theorem inline_lies8 : BuilderE.XE Tryd.prog Tryd.lays168_ren 67 := ⟨by kernel_rfl, by decide⟩
/-- A string written. -/
theorem inline_ws (B b : Nat) (x y : Value) (bs l : List UInt8) (w : World) (h : inline_W B b x y (Lib.byteCells bs) w) (hlen : bs.length + l.length ≤ 140737488355328) (hBw : B ≤ w.heap.size) :
    Calls Tryd.prog 26 #[.pointer (some ⟨b, 0, none⟩), .string ⟨l.toArray⟩] w fun e w' => e = .returned (.tuple #[.int .i64 (l.length : Int), .nilIface]) ∧ inline_W B b x y (Lib.byteCells (bs ++ l)) w' ∧ Below B w w' ∧ Lib.OthersKept 5 (some b) w w' := by
  refine (BuilderE.writeString (T := 67) Tryd.lays166 Tryd.Builder_Extra_166 inline_lies B b x y (Lib.byteCells bs) ⟨l.toArray⟩ w h (by rw [Lib.byteCells_length]; exact hlen) hBw).mono ?_
  rintro e w' ⟨he, h1, h2, h3⟩
  rw [show Lib.strCells ⟨l.toArray⟩ = Lib.byteCells l from rfl, ← Lib.byteCells_append] at h1
  exact ⟨he, h1, h2, h3⟩
/-- A code point written. -/
theorem inline_wr (B b : Nat) (x y : Value) (bs : List UInt8) (r : Int) (h0 : 0 ≤ r) (h1 : r ≤ 1114111) (w : World) (h : inline_W B b x y (Lib.byteCells bs) w) (hlen : bs.length + 4 ≤ 140737488355328) (hBw : B ≤ w.heap.size) :
    Calls Tryd.prog 19 #[.pointer (some ⟨b, 0, none⟩), .int .i32 r] w fun e w' => e = .returned (.tuple #[.int .i64 (Lib.runeCells r).length, .nilIface]) ∧ inline_W B b x y (Lib.byteCells (bs ++ Lib.encodeRune r)) w' ∧ Below B w w' ∧ Lib.OthersKept 5 (some b) w w' := by
  refine (BuilderE.writeRune (T := 67) Tryd.lays168 Tryd.Builder_Extra_168 inline_lies8 B b x y (Lib.byteCells bs) r (by omega) (by omega) w h (by rw [Lib.byteCells_length]; exact hlen) hBw).mono ?_
  rintro e w' ⟨he, h1, h2, h3⟩
  rw [← Lib.byteCells_encodeRune, ← Lib.byteCells_append] at h1
  exact ⟨he, h1, h2, h3⟩
def inline_turn.part (f dst : Int) : List UInt8 := (if Go.bits .and .i64 (Go.bits .xor .i64 f dst) 1 = 0 then [] else [42, 42]) ++ (if Go.bits .and .i64 (Go.bits .xor .i64 f dst) 2 = 0 then [] else [95])
def inline_turn.base (set old : Int) : Int := if set = 4 then old else set
/-- What is written on the way from a set dst another one. -/
def inline_turn.out (set old dst : Int) : List UInt8 := if set = dst then [] else (if set = 4 then [96] else []) ++ (if dst = 4 then [96] else inline_turn.part (inline_turn.base set old) dst)
/-- What the set ahead of code is then. -/
def inline_turn.old (set old dst : Int) : Int := if set = dst then old else if dst = 4 then inline_turn.base set old else old
theorem inline_turn.out_len (set old dst : Int) : (inline_turn.out set old dst).length ≤ 4 := by
  unfold inline_turn.out inline_turn.part
  repeat' split
  all_goals simp
def inline_turn.St (B b : Nat) (set old dst : Int) (bs : List UInt8) (w : World) (w' : World) : Prop := inline_W B b (.int .i64 dst) (.int .i64 (inline_turn.old set old dst)) (Lib.byteCells (bs ++ inline_turn.out set old dst)) w' ∧ Below B w w' ∧ Lib.OthersKept 5 (some b) w w'
set_option maxHeartbeats 8000000 in
set_option maxRecDepth 100000 in
theorem inline_turn.calls (B b : Nat) (set old dst : Int) (bs : List UInt8) (w : World) (h : inline_W B b (.int .i64 set) (.int .i64 old) (Lib.byteCells bs) w) (hlen : bs.length + 8 ≤ 140737488355328) (hBw : B ≤ w.heap.size) :
    Calls Tryd.prog 25 #[.pointer (some ⟨b, 0, none⟩), .int .i64 dst] w fun e w' => e = .returned (.tuple #[]) ∧ inline_turn.St B b set old dst bs w w' := by
  obtain ⟨c2, c3, f2, f3, hB, hb⟩ := h.cells
  have H := Aside0.mk h
  have HL := Aside0.mk hlen
  have HW := Aside0.mk hBw
  have HBB := Aside0.mk hB
  clear h hlen hBw
  by_cases e0 : set = dst
  · have e0b : (set == dst) = true := beq_iff_eq.mpr e0
    have R : inline_turn.St B b set old dst bs w w := ⟨by have := H.out; unfold inline_turn.old inline_turn.out; rw [if_pos e0, if_pos e0, ← e0, List.append_nil]; exact this, Below.refl B w, Lib.OthersKept.refl _ _ w⟩
    have HR := Aside0.mk R
    clear R e0 hB hb
    go_enter Tryd.func25, Tryd.ntmps25
    go_wp2
    (try simp only [Exit.inBlock, Exit.then]); refine bodyPost_ret (results_none rfl _ _ _) rfl ?_
    exact ⟨rfl, HR.out⟩
  · have e0b : (set == dst) = false := beq_eq_false_iff_ne.mpr e0
    have E0 := Aside0.mk e0
    clear e0 hB hb
    -- from code, or not
    by_cases e1 : set = 4
    · have e1b : (set == 4) = true := beq_iff_eq.mpr e1
      have e2 : ¬ dst = 4 := fun e => E0.out (by rw [e1, e])
      have e2b : (dst == 4) = false := beq_eq_false_iff_ne.mpr e2
      have EF := Aside0.mk (show inline_turn.base set old = old from if_pos e1)
      have EO := Aside0.mk (show inline_turn.out set old dst = [96] ++ inline_turn.part old dst from by unfold inline_turn.out; rw [if_neg E0.out, if_pos e1, if_neg e2, EF.out])
      have EL := Aside0.mk (show inline_turn.old set old dst = old from by unfold inline_turn.old; rw [if_neg E0.out, if_neg e2])
      clear e1 e2
      by_cases q1 : Go.bits .and .i64 (Go.bits .xor .i64 old dst) 1 = 0
      · have q1b : ((Go.bits .and .i64 (Go.bits .xor .i64 old dst) 1) == 0) = true := beq_iff_eq.mpr q1
        have q1c : ((Go.bits .and .i64 (Go.bits .xor .i64 old dst) 1) != 0) = false := bne_eq_false_iff_eq.mpr q1
        by_cases q2 : Go.bits .and .i64 (Go.bits .xor .i64 old dst) 2 = 0
        · have q2b : ((Go.bits .and .i64 (Go.bits .xor .i64 old dst) 2) == 0) = true := beq_iff_eq.mpr q2
          have q2c : ((Go.bits .and .i64 (Go.bits .xor .i64 old dst) 2) != 0) = false := bne_eq_false_iff_eq.mpr q2
          have EP := Aside0.mk (show inline_turn.part old dst = [] ++ [] from by unfold inline_turn.part; rw [if_pos q1, if_pos q2])
          clear q1 q2
          go_enter Tryd.func25, Tryd.ntmps25
          go_wp2_with fail
          refine (inline_ws B b _ _ bs [96] _ H.out (by have := HL.out; simp only [List.length_append, List.length_cons, List.length_nil]; omega) HW.out).mono ?_
          rintro e w1 ⟨rfl, h1, b1, o1⟩
          obtain ⟨d1_2, d1_3, g1_2, g1_3, _, _⟩ := h1.cells
          have H1 := Aside0.mk h1
          have B1 := Aside0.mk (b1)
          have O1 := Aside0.mk (o1)
          clear h1 b1 o1
          go_wp2
          go_end0
          exact ⟨rfl, by unfold inline_turn.St; rw [EO.out, EL.out, EP.out]; exact ⟨by have := H1.out; simpa using this.set2 (.int .i64 dst), (B1.out).setCell (p := ⟨b, 2, none⟩) HBB.out _, (O1.out).setCell ⟨b, 2, none⟩ rfl _⟩⟩
        · have q2b : ((Go.bits .and .i64 (Go.bits .xor .i64 old dst) 2) == 0) = false := beq_eq_false_iff_ne.mpr q2
          have q2c : ((Go.bits .and .i64 (Go.bits .xor .i64 old dst) 2) != 0) = true := bne_iff_ne.mpr q2
          have EP := Aside0.mk (show inline_turn.part old dst = [] ++ [95] from by unfold inline_turn.part; rw [if_pos q1, if_neg q2])
          clear q1 q2
          go_enter Tryd.func25, Tryd.ntmps25
          go_wp2_with fail
          refine (inline_ws B b _ _ bs [96] _ H.out (by have := HL.out; simp only [List.length_append, List.length_cons, List.length_nil]; omega) HW.out).mono ?_
          rintro e w1 ⟨rfl, h1, b1, o1⟩
          obtain ⟨d1_2, d1_3, g1_2, g1_3, _, _⟩ := h1.cells
          have H1 := Aside0.mk h1
          have B1 := Aside0.mk (b1)
          have O1 := Aside0.mk (o1)
          clear h1 b1 o1
          go_wp2_with fail
          refine (inline_ws B b _ _ (bs ++ [96]) [95] _ H1.out (by have := HL.out; simp only [List.length_append, List.length_cons, List.length_nil]; omega) (by have h_ := HW.out; have := B1.out.size; omega)).mono ?_
          rintro e w2 ⟨rfl, h2, b2, o2⟩
          obtain ⟨d2_2, d2_3, g2_2, g2_3, _, _⟩ := h2.cells
          have H2 := Aside0.mk h2
          have B2 := Aside0.mk (B1.out.trans b2)
          have O2 := Aside0.mk (O1.out.trans o2)
          clear h2 b2 o2
          go_wp2
          go_end0
          exact ⟨rfl, by unfold inline_turn.St; rw [EO.out, EL.out, EP.out]; exact ⟨by have := H2.out; simpa using this.set2 (.int .i64 dst), (B2.out).setCell (p := ⟨b, 2, none⟩) HBB.out _, (O2.out).setCell ⟨b, 2, none⟩ rfl _⟩⟩
      · have q1b : ((Go.bits .and .i64 (Go.bits .xor .i64 old dst) 1) == 0) = false := beq_eq_false_iff_ne.mpr q1
        have q1c : ((Go.bits .and .i64 (Go.bits .xor .i64 old dst) 1) != 0) = true := bne_iff_ne.mpr q1
        by_cases q2 : Go.bits .and .i64 (Go.bits .xor .i64 old dst) 2 = 0
        · have q2b : ((Go.bits .and .i64 (Go.bits .xor .i64 old dst) 2) == 0) = true := beq_iff_eq.mpr q2
          have q2c : ((Go.bits .and .i64 (Go.bits .xor .i64 old dst) 2) != 0) = false := bne_eq_false_iff_eq.mpr q2
          have EP := Aside0.mk (show inline_turn.part old dst = [42, 42] ++ [] from by unfold inline_turn.part; rw [if_neg q1, if_pos q2])
          clear q1 q2
          go_enter Tryd.func25, Tryd.ntmps25
          go_wp2_with fail
          refine (inline_ws B b _ _ bs [96] _ H.out (by have := HL.out; simp only [List.length_append, List.length_cons, List.length_nil]; omega) HW.out).mono ?_
          rintro e w1 ⟨rfl, h1, b1, o1⟩
          obtain ⟨d1_2, d1_3, g1_2, g1_3, _, _⟩ := h1.cells
          have H1 := Aside0.mk h1
          have B1 := Aside0.mk (b1)
          have O1 := Aside0.mk (o1)
          clear h1 b1 o1
          go_wp2_with fail
          refine (inline_ws B b _ _ (bs ++ [96]) [42, 42] _ H1.out (by have := HL.out; simp only [List.length_append, List.length_cons, List.length_nil]; omega) (by have h_ := HW.out; have := B1.out.size; omega)).mono ?_
          rintro e w2 ⟨rfl, h2, b2, o2⟩
          obtain ⟨d2_2, d2_3, g2_2, g2_3, _, _⟩ := h2.cells
          have H2 := Aside0.mk h2
          have B2 := Aside0.mk (B1.out.trans b2)
          have O2 := Aside0.mk (O1.out.trans o2)
          clear h2 b2 o2
          go_wp2
          go_end0
          exact ⟨rfl, by unfold inline_turn.St; rw [EO.out, EL.out, EP.out]; exact ⟨by have := H2.out; simpa using this.set2 (.int .i64 dst), (B2.out).setCell (p := ⟨b, 2, none⟩) HBB.out _, (O2.out).setCell ⟨b, 2, none⟩ rfl _⟩⟩
        · have q2b : ((Go.bits .and .i64 (Go.bits .xor .i64 old dst) 2) == 0) = false := beq_eq_false_iff_ne.mpr q2
          have q2c : ((Go.bits .and .i64 (Go.bits .xor .i64 old dst) 2) != 0) = true := bne_iff_ne.mpr q2
          have EP := Aside0.mk (show inline_turn.part old dst = [42, 42] ++ [95] from by unfold inline_turn.part; rw [if_neg q1, if_neg q2])
          clear q1 q2
          go_enter Tryd.func25, Tryd.ntmps25
          go_wp2_with fail
          refine (inline_ws B b _ _ bs [96] _ H.out (by have := HL.out; simp only [List.length_append, List.length_cons, List.length_nil]; omega) HW.out).mono ?_
          rintro e w1 ⟨rfl, h1, b1, o1⟩
          obtain ⟨d1_2, d1_3, g1_2, g1_3, _, _⟩ := h1.cells
          have H1 := Aside0.mk h1
          have B1 := Aside0.mk (b1)
          have O1 := Aside0.mk (o1)
          clear h1 b1 o1
          go_wp2_with fail
          refine (inline_ws B b _ _ (bs ++ [96]) [42, 42] _ H1.out (by have := HL.out; simp only [List.length_append, List.length_cons, List.length_nil]; omega) (by have h_ := HW.out; have := B1.out.size; omega)).mono ?_
          rintro e w2 ⟨rfl, h2, b2, o2⟩
          obtain ⟨d2_2, d2_3, g2_2, g2_3, _, _⟩ := h2.cells
          have H2 := Aside0.mk h2
          have B2 := Aside0.mk (B1.out.trans b2)
          have O2 := Aside0.mk (O1.out.trans o2)
          clear h2 b2 o2
          go_wp2_with fail
          refine (inline_ws B b _ _ (bs ++ [96] ++ [42, 42]) [95] _ H2.out (by have := HL.out; simp only [List.length_append, List.length_cons, List.length_nil]; omega) (by have h_ := HW.out; have := B2.out.size; omega)).mono ?_
          rintro e w3 ⟨rfl, h3, b3, o3⟩
          obtain ⟨d3_2, d3_3, g3_2, g3_3, _, _⟩ := h3.cells
          have H3 := Aside0.mk h3
          have B3 := Aside0.mk (B2.out.trans b3)
          have O3 := Aside0.mk (O2.out.trans o3)
          clear h3 b3 o3
          go_wp2
          go_end0
          exact ⟨rfl, by unfold inline_turn.St; rw [EO.out, EL.out, EP.out]; exact ⟨by have := H3.out; simpa using this.set2 (.int .i64 dst), (B3.out).setCell (p := ⟨b, 2, none⟩) HBB.out _, (O3.out).setCell ⟨b, 2, none⟩ rfl _⟩⟩
    · have e1b : (set == 4) = false := beq_eq_false_iff_ne.mpr e1
      have EF := Aside0.mk (show inline_turn.base set old = set from if_neg e1)
      by_cases e2 : dst = 4
      · have e2b : (dst == 4) = true := beq_iff_eq.mpr e2
        have EO := Aside0.mk (show inline_turn.out set old dst = [96] from by unfold inline_turn.out; rw [if_neg E0.out, if_neg e1, if_pos e2]; rfl)
        have EL := Aside0.mk (show inline_turn.old set old dst = set from by unfold inline_turn.old; rw [if_neg E0.out, if_pos e2, EF.out])
        clear e1 e2
        go_enter Tryd.func25, Tryd.ntmps25
        go_wp2_with fail
        refine (inline_ws B b _ _ bs [96] _ H.out (by have := HL.out; simp only [List.length_append, List.length_cons, List.length_nil]; omega) HW.out).mono ?_
        rintro e w1 ⟨rfl, h1, b1, o1⟩
        obtain ⟨d2, d3, g2, g3, _, _⟩ := h1.cells
        have H1 := Aside0.mk h1
        have B1 := Aside0.mk b1
        have O1 := Aside0.mk o1
        clear h1 b1 o1
        go_wp2
        go_end0
        exact ⟨rfl, by unfold inline_turn.St; rw [EO.out, EL.out]; exact ⟨(H1.out.set3 _).set2 _, (B1.out.setCell (p := ⟨b, 3, none⟩) HBB.out _).setCell (p := ⟨b, 2, none⟩) HBB.out _, (O1.out.setCell ⟨b, 3, none⟩ rfl _).setCell ⟨b, 2, none⟩ rfl _⟩⟩
      · have e2b : (dst == 4) = false := beq_eq_false_iff_ne.mpr e2
        have EO := Aside0.mk (show inline_turn.out set old dst = [] ++ inline_turn.part set dst from by unfold inline_turn.out; rw [if_neg E0.out, if_neg e1, if_neg e2, EF.out])
        have EL := Aside0.mk (show inline_turn.old set old dst = old from by unfold inline_turn.old; rw [if_neg E0.out, if_neg e2])
        clear e1 e2
        by_cases q1 : Go.bits .and .i64 (Go.bits .xor .i64 set dst) 1 = 0
        · have q1b : ((Go.bits .and .i64 (Go.bits .xor .i64 set dst) 1) == 0) = true := beq_iff_eq.mpr q1
          have q1c : ((Go.bits .and .i64 (Go.bits .xor .i64 set dst) 1) != 0) = false := bne_eq_false_iff_eq.mpr q1
          by_cases q2 : Go.bits .and .i64 (Go.bits .xor .i64 set dst) 2 = 0
          · have q2b : ((Go.bits .and .i64 (Go.bits .xor .i64 set dst) 2) == 0) = true := beq_iff_eq.mpr q2
            have q2c : ((Go.bits .and .i64 (Go.bits .xor .i64 set dst) 2) != 0) = false := bne_eq_false_iff_eq.mpr q2
            have EP := Aside0.mk (show inline_turn.part set dst = [] ++ [] from by unfold inline_turn.part; rw [if_pos q1, if_pos q2])
            clear q1 q2
            go_enter Tryd.func25, Tryd.ntmps25
            go_wp2
            go_end0
            exact ⟨rfl, by unfold inline_turn.St; rw [EO.out, EL.out, EP.out]; exact ⟨by have := H.out; simpa using this.set2 (.int .i64 dst), (Below.refl B w).setCell (p := ⟨b, 2, none⟩) HBB.out _, (Lib.OthersKept.refl _ _ w).setCell ⟨b, 2, none⟩ rfl _⟩⟩
          · have q2b : ((Go.bits .and .i64 (Go.bits .xor .i64 set dst) 2) == 0) = false := beq_eq_false_iff_ne.mpr q2
            have q2c : ((Go.bits .and .i64 (Go.bits .xor .i64 set dst) 2) != 0) = true := bne_iff_ne.mpr q2
            have EP := Aside0.mk (show inline_turn.part set dst = [] ++ [95] from by unfold inline_turn.part; rw [if_pos q1, if_neg q2])
            clear q1 q2
            go_enter Tryd.func25, Tryd.ntmps25
            go_wp2_with fail
            refine (inline_ws B b _ _ bs [95] _ H.out (by have := HL.out; simp only [List.length_append, List.length_cons, List.length_nil]; omega) HW.out).mono ?_
            rintro e w1 ⟨rfl, h1, b1, o1⟩
            obtain ⟨d1_2, d1_3, g1_2, g1_3, _, _⟩ := h1.cells
            have H1 := Aside0.mk h1
            have B1 := Aside0.mk (b1)
            have O1 := Aside0.mk (o1)
            clear h1 b1 o1
            go_wp2
            go_end0
            exact ⟨rfl, by unfold inline_turn.St; rw [EO.out, EL.out, EP.out]; exact ⟨by have := H1.out; simpa using this.set2 (.int .i64 dst), (B1.out).setCell (p := ⟨b, 2, none⟩) HBB.out _, (O1.out).setCell ⟨b, 2, none⟩ rfl _⟩⟩
        · have q1b : ((Go.bits .and .i64 (Go.bits .xor .i64 set dst) 1) == 0) = false := beq_eq_false_iff_ne.mpr q1
          have q1c : ((Go.bits .and .i64 (Go.bits .xor .i64 set dst) 1) != 0) = true := bne_iff_ne.mpr q1
          by_cases q2 : Go.bits .and .i64 (Go.bits .xor .i64 set dst) 2 = 0
          · have q2b : ((Go.bits .and .i64 (Go.bits .xor .i64 set dst) 2) == 0) = true := beq_iff_eq.mpr q2
            have q2c : ((Go.bits .and .i64 (Go.bits .xor .i64 set dst) 2) != 0) = false := bne_eq_false_iff_eq.mpr q2
            have EP := Aside0.mk (show inline_turn.part set dst = [42, 42] ++ [] from by unfold inline_turn.part; rw [if_neg q1, if_pos q2])
            clear q1 q2
            go_enter Tryd.func25, Tryd.ntmps25
            go_wp2_with fail
            refine (inline_ws B b _ _ bs [42, 42] _ H.out (by have := HL.out; simp only [List.length_append, List.length_cons, List.length_nil]; omega) HW.out).mono ?_
            rintro e w1 ⟨rfl, h1, b1, o1⟩
            obtain ⟨d1_2, d1_3, g1_2, g1_3, _, _⟩ := h1.cells
            have H1 := Aside0.mk h1
            have B1 := Aside0.mk (b1)
            have O1 := Aside0.mk (o1)
            clear h1 b1 o1
            go_wp2
            go_end0
            exact ⟨rfl, by unfold inline_turn.St; rw [EO.out, EL.out, EP.out]; exact ⟨by have := H1.out; simpa using this.set2 (.int .i64 dst), (B1.out).setCell (p := ⟨b, 2, none⟩) HBB.out _, (O1.out).setCell ⟨b, 2, none⟩ rfl _⟩⟩
          · have q2b : ((Go.bits .and .i64 (Go.bits .xor .i64 set dst) 2) == 0) = false := beq_eq_false_iff_ne.mpr q2
            have q2c : ((Go.bits .and .i64 (Go.bits .xor .i64 set dst) 2) != 0) = true := bne_iff_ne.mpr q2
            have EP := Aside0.mk (show inline_turn.part set dst = [42, 42] ++ [95] from by unfold inline_turn.part; rw [if_neg q1, if_neg q2])
            clear q1 q2
            go_enter Tryd.func25, Tryd.ntmps25
            go_wp2_with fail
            refine (inline_ws B b _ _ bs [42, 42] _ H.out (by have := HL.out; simp only [List.length_append, List.length_cons, List.length_nil]; omega) HW.out).mono ?_
            rintro e w1 ⟨rfl, h1, b1, o1⟩
            obtain ⟨d1_2, d1_3, g1_2, g1_3, _, _⟩ := h1.cells
            have H1 := Aside0.mk h1
            have B1 := Aside0.mk (b1)
            have O1 := Aside0.mk (o1)
            clear h1 b1 o1
            go_wp2_with fail
            refine (inline_ws B b _ _ (bs ++ [42, 42]) [95] _ H1.out (by have := HL.out; simp only [List.length_append, List.length_cons, List.length_nil]; omega) (by have h_ := HW.out; have := B1.out.size; omega)).mono ?_
            rintro e w2 ⟨rfl, h2, b2, o2⟩
            obtain ⟨d2_2, d2_3, g2_2, g2_3, _, _⟩ := h2.cells
            have H2 := Aside0.mk h2
            have B2 := Aside0.mk (B1.out.trans b2)
            have O2 := Aside0.mk (O1.out.trans o2)
            clear h2 b2 o2
            go_wp2
            go_end0
            exact ⟨rfl, by unfold inline_turn.St; rw [EO.out, EL.out, EP.out]; exact ⟨by have := H2.out; simpa using this.set2 (.int .i64 dst), (B2.out).setCell (p := ⟨b, 2, none⟩) HBB.out _, (O2.out).setCell ⟨b, 2, none⟩ rfl _⟩⟩

end Go.Proofs.YtebbngeamnpgjaaDoor.PIa
