-- Written for this claim by a program (the kit's print, with hand-made contracts for what it does not take).
import Derived.Test.YtfnafjohfmlniaaDoorPCrx0
import Derived.Test.YtfnafjohfmlniaaDoorPCrx1
import Derived.Test.YtfnafjohfmlniaaDoorPCrx2
import Derived.Test.YtfnafjohfmlniaaDoorPCrx3
import Derived.Test.YtfnafjohfmlniaaDoorPCrx5
import Derived.Test.YtfnafjohfmlniaaDoorPCrx6
import Derived.Test.YtfnafjohfmlniaaDoorPCrx7
import Derived.Test.YtfnafjohfmlniaaDoorPCrx10
namespace Go.Proofs.YtfnafjohfmlniaaDoor.PCr
open Go.RowKit Go.Proofs.YtfnafjohfmlniaaDoorW.PrintWords Go.Proofs.YtfnafjohfmlniaaDoorW.PrintLast Go.Proofs.YtfnafjohfmlniaaDoorW.PrintMore
attribute [local go_sem] max2_int min2_int max_two min_two max_three min_three max_four min_four   -- for this text's walks alone
set_option linter.unusedVariables false
set_option linter.unusedSimpArgs false

/-! ### common_Parse: function 10 -/
theorem common_points.scan_facts (s : ByteArray) : ∀ (f i : Nat), (common_points.scan s f i).2.length ≤ s.size - i ∧ ∀ x ∈ (common_points.scan s f i).2, 0 ≤ x.f0 ∧ x.f0 ≤ 1114111
  | 0, _ => ⟨Nat.zero_le _, fun x hx => by cases hx⟩
  | f + 1, i => by
    rw [common_points.scan]
    by_cases h : i < s.size
    · rw [if_pos h]
      split
      · exact ⟨Nat.zero_le _, fun x hx => by cases hx⟩
      · obtain ⟨h1, h2⟩ := common_points.scan_facts s f (i + width s i)
        have := width_pos s i h
        refine ⟨by simp only [List.length_cons]; omega, fun x hx => ?_⟩
        rcases List.mem_cons.1 hx with rfl | hx
        · exact rune_le s i
        · exact h2 x hx
    · rw [if_neg h]
      exact ⟨Nat.zero_le _, fun x hx => by cases hx⟩
theorem common_points.facts (s : ByteArray) : (common_points.f s).1.length ≤ 4000 ∧ ∀ x ∈ (common_points.f s).1, 0 ≤ x.f0 ∧ x.f0 ≤ 1114111 := by
  unfold common_points.f
  by_cases h : s.size > 4000
  · rw [if_pos h]
    exact ⟨Nat.zero_le _, fun x hx => by cases hx⟩
  · rw [if_neg h]
    unfold common_points.res
    obtain ⟨h1, h2⟩ := common_points.scan_facts s s.size 0
    split
    · exact ⟨Nat.zero_le _, fun x hx => by cases hx⟩
    · exact ⟨by dsimp only; omega, h2⟩
theorem common_plain.good (p : List S79) (i j m : Int) : prtsGood (common_plain.f p i j m) := by
  intro x hx
  obtain ⟨y, _, rfl⟩ := List.mem_map.1 hx
  exact ⟨⟨Int.le_refl 0, by show (0 : Int) ≤ 4000; omega⟩, fun r hr => by cases hr⟩
theorem prtsGood.append {a b : List Prt} (h : prtsGood a) (k : prtsGood b) : prtsGood (a ++ b) := fun x hx => (List.mem_append.1 hx).elim (h x) (k x)
theorem common_split.good (p : List S79) (hp : p.length ≤ 4000) : ∀ (f : Nat) (i : Int), 0 ≤ i → prtsGood (common_split.go p f i)
  | 0, _, _ => fun x hx => by cases hx
  | f + 1, i, h0 => by
    rw [common_split.go]
    by_cases h : i < (p.length : Int)
    · have hb := common_row.bound p i h0 h
      rw [if_pos h]
      by_cases h1 : (rd_T79 p i).f0 = 96
      · rw [if_pos h1]
        by_cases h2 : common_fence.f p (i + common_row.f p i) (common_row.f p i) < 0
        · rw [if_pos h2]
          exact (common_plain.good p _ _ _).append (common_split.good p hp f _ (by omega))
        · rw [if_neg h2]
          refine prtsGood.append ?_ (common_split.good p hp f _ (by omega))
          unfold common_code.f
          split <;> exact common_plain.good p _ _ _
      · rw [if_neg h1]
        by_cases h3 : (rd_T79 p i).f0 = 42 ∨ (rd_T79 p i).f0 = 95
        · rw [if_pos h3]
          intro x hx
          rcases List.mem_cons.1 hx with rfl | hx
          · refine ⟨by dsimp only; omega, fun r hr => ?_⟩
            obtain rfl := Option.some.inj hr
            unfold common_run.f common_run.mk
            split <;> (dsimp only; omega)
          · exact common_split.good p hp f _ (by omega) x hx
        · rw [if_neg h3]
          split
          · exact (common_plain.good p _ _ _).append (common_split.good p hp f _ (by omega))
          · exact (common_plain.good p _ _ _).append (common_split.good p hp f _ (by omega))
    · rw [if_neg h]
      exact fun x hx => by cases hx
theorem common_split.len (p : List S79) : ∀ (f : Nat) (i : Int), 0 ≤ i → i ≤ (p.length : Int) → ((common_split.go p f i).length : Int) ≤ (p.length : Int) - i
  | 0, i, _, h => by rw [common_split.go]; simp only [List.length_nil]; omega
  | f + 1, i, h0, hi => by
    rw [common_split.go]
    by_cases h : i < (p.length : Int)
    · have hb := common_row.bound p i h0 h
      rw [if_pos h]
      by_cases h1 : (rd_T79 p i).f0 = 96
      · rw [if_pos h1]
        by_cases h2 : common_fence.f p (i + common_row.f p i) (common_row.f p i) < 0
        · rw [if_pos h2]
          have := common_split.len p f (i + common_row.f p i) (by omega) (by omega)
          have := common_plain.len p i (i + common_row.f p i) 0 h0 (by omega) (by omega)
          rw [List.length_append]
          omega
        · rw [if_neg h2]
          have hf := common_fence.bound p (i + common_row.f p i) (common_row.f p i) (by omega) h2
          have := common_split.len p f (common_fence.f p (i + common_row.f p i) (common_row.f p i) + common_row.f p i) (by omega) (by omega)
          have := common_code.len p (i + common_row.f p i) (common_fence.f p (i + common_row.f p i) (common_row.f p i)) (by omega) (by omega) (by omega)
          rw [List.length_append]
          omega
      · rw [if_neg h1]
        by_cases h3 : (rd_T79 p i).f0 = 42 ∨ (rd_T79 p i).f0 = 95
        · rw [if_pos h3]
          have := common_split.len p f (i + common_row.f p i) (by omega) (by omega)
          rw [List.length_cons]
          omega
        · rw [if_neg h3]
          by_cases h4 : (rd_T79 p i).f0 = 92 ∧ sg (common_at.f p (i + 1)) = true
          · rw [if_pos h4]
            have hs := common_sg_at p (i + 1) h4.2
            have := common_split.len p f (i + 1 + 1) (by omega) (by omega)
            have := common_plain.len p (i + 1) (i + 1 + 1) 0 (by omega) (by omega) (by omega)
            rw [List.length_append]
            omega
          · rw [if_neg h4]
            have := common_split.len p f (i + 1) (by omega) (by omega)
            have := common_plain.len p i (i + 1) 0 h0 (by omega) (by omega)
            rw [List.length_append]
            omega
    · rw [if_neg h]
      simp only [List.length_nil]
      omega
def common_Parse.toks (x : Prt) : List S43 := match x.run with
  | none => [x.tok]
  | some r => List.replicate x.left.toNat ⟨0, 0, r.f2, x.tok.f3⟩
def common_Parse.f (s : ByteArray) : Option (List S43 × Int × Int) :=
  if (common_points.f s).2.2 = 0 then some ((common_match.f (common_split.f (common_points.f s).1)).flatMap common_Parse.toks, (s.size : Int), 0)
  else some ([], (common_points.f s).2.1, (common_points.f s).2.2)
def common_Parse.Post (r1 : List S43) (r2 r3 : Int) (w : World) (e : Ending) (w' : World) : Prop := ∃ v0_ : Value, e = .returned (.tuple #[v0_, .int .i64 r2, .int .i64 r3]) ∧ Kd.R k43 43 w' w.heap.size (fun _ => True) v0_ r1 ∧ Below w.heap.size w w'
theorem common_Parse.toks_len {x : Prt} (h : prtGood x) : (common_Parse.toks x).length ≤ 4000 := by
  unfold common_Parse.toks
  split
  · simp
  · rw [List.length_replicate]; have := h.1; omega
theorem common_Parse.all_len : ∀ (o : List Prt), prtsGood o → (o.flatMap common_Parse.toks).length ≤ 4000 * o.length
  | [], _ => Nat.zero_le _
  | x :: o, h => by
    rw [List.flatMap_cons, List.length_append, List.length_cons]
    have h1 := common_Parse.toks_len (h x (by simp))
    have h2 := common_Parse.all_len o (fun y hy => h y (by simp [hy]))
    omega
theorem common_Parse.take_succ (o : List Prt) (k : Nat) (h : k < o.length) : (o.take (k + 1)).flatMap common_Parse.toks = (o.take k).flatMap common_Parse.toks ++ common_Parse.toks (prtAt o (k : Int)) := by
  rw [List.take_add_one, List.flatMap_append, List.getElem?_eq_getElem h]
  unfold prtAt
  rw [Int.toNat_natCast, List.getD_eq_getElem?_getD, List.getElem?_eq_getElem h]
  simp
/-- What is known at the loop: the tokens so far, the parts. -/
structure common_Parse.I (w : World) (cp n co : Nat) (o : List Prt) (k : Nat) (v : Value) (acc : List S43) (W : World) : Prop where
  toks : Kd.R k43 43 W w.heap.size (fun _ => True) v acc
  row : Kd.R kPrt 57 W w.heap.size (fun _ => True) (.slice (some ⟨cp, 0, none⟩) n co) o
  below : Below w.heap.size w W
theorem prt_grown {W w1 : World} {B : Nat} {v v' : Value} {o : List Prt} {l : List S43} (h : Kd.R kPrt 57 W B (fun _ => True) v o) (hr : Kd.R k43 43 W B (fun _ => True) v' l) (hg : W.grownBy w1 v'.ownBlock) : Kd.R kPrt 57 w1 B (fun _ => True) v o :=
  Kd.R_mono (Kd.R_grown (Kd.R_bound h) hg (fun k hk => by obtain ⟨_, _, _, q_, hq_, cs_, hc_⟩ := hk; exact Kd.R_ne hr hc_ (by rintro rfl; revert hq_; decide))) (fun _ hk => hk.1)
def common_Parse.T15 : Bool × List (List Nat × List Nat) := (true, [([], []), ([], []), ([1], [1]), ([2], [2]), ([3], [3]), ([4], [4]), ([5], [5]), ([], []), ([7], [7]), ([8], [8]), ([6, 9], [6, 9]), ([10], [10]), ([0, 11], [0, 11]), ([12, 12, 0, 1, 2, 3, 4, 5, 6, 7, 8, 9, 10, 11, 12], [0, 12])])
def common_Parse.B15 : List Nat := [0, 0, 2, 6, 14, 30, 62, 0, 128, 384, 1022, 2046, 4095, 8191]
theorem common_Parse.tab15 : rtab .any (opsOf Tryd.f10 15) = common_Parse.T15 := by kernel_rfl
theorem common_Parse.bits15 : waitsOk common_Parse.T15.2 common_Parse.B15 = true := by kernel_rfl
set_option maxHeartbeats 16000000 in
set_option maxRecDepth 100000 in
theorem common_Parse.calls (a0 : ByteArray) (r1 : List S43) (r2 r3 : Int) (w : World) (h : common_Parse.f a0 = some (r1, r2, r3)) (hT_ : Lib.Utf8Tabs 0 1 w := by first | exact u8_below HU8_.out (by repeat (first | (with_reducible first | exact HB.out | apply below_alloc | apply pw_below_drewN | apply below_drew1) | exact HB.out)) | exact u8_below HT_.out (by repeat (first | (with_reducible first | exact HB.out | apply below_alloc | apply pw_below_drewN | apply below_drew1) | exact HB.out))) :
    Calls Tryd.prog 10 #[.string a0] w (common_Parse.Post r1 r2 r3 w) := by
  have hu54 := Tryd.underlying54
  have hu57 := Tryd.underlying57
  have hu43 := Tryd.underlying43
  have hu38 := Tryd.underlying38
  have HT := Aside0.mk hT_
  have FA := Aside0.mk (common_points.facts a0)
  clear hT_
  unfold common_Parse.f at h
  have PC := Aside0.mk (common_points.calls a0 w HT.out)
  generalize common_points.f a0 = q at *
  obtain ⟨p, n1, e1⟩ := q
  dsimp only at h FA
  have H := Aside0.mk h
  clear h
  go_enter Tryd.func10, Tryd.ntmps10
  go_wp2_with fail
  refine PC.out.mono ?_
  rintro e w1 ⟨v0, rfl, hr, hb⟩
  have HB := Aside0.mk hb
  have HR := Aside0.mk hr
  clear hr hb PC
  dsimp only at HR
  obtain ⟨A, c, hv⟩ := Kd.R_slice HR.out
  subst hv
  by_cases c1 : e1 = 0
  · have c1b : (e1 != 0) = false := bne_eq_false_iff_eq.mpr c1
    have h := H.out
    rw [if_pos c1] at h
    simp only [Option.some.injEq, Prod.mk.injEq] at h
    obtain ⟨h1, h2, h3⟩ := h
    have H1 := Aside0.mk h1
    have H2 := Aside0.mk h2
    have H3 := Aside0.mk h3
    clear h1 h2 h3 c1 H
    go_wp2_with (first | ((with_reducible refine gate_dst (N := 24) rfl ?_); refine box_event ?hg (N := 24) ?hd (cs := #[.slice A p.length c, .slice none 0 0]) (t := 54) ?hr ?_; (case hd => rfl); (case hg => rfl); (case hr => first | (go_simp; done) | (go_simp; rfl)); intro b hg w3 hbox hb; have n0_ := Aside0.mk (below_step HB.out hb); have HL := Aside0.mk (show common_L w.heap.size b A c p [] w3 from ⟨⟨_, hbox, Kd.R_below HR.out hb, Kd.R_nil _ _ _ _ _⟩, by rw [hg]; exact below_size HB.out⟩); clear HB hb hbox hg; have HB := n0_; clear n0_))
    refine (common_split.calls w.heap.size b A c p w _ HL.out HB.out FA.out.1 FA.out.2).mono ?_
    rintro e w4 ⟨rfl, g1, g2⟩
    have HL4 := Aside0.mk g1
    have HB4 := Aside0.mk g2
    have GS := Aside0.mk (common_split.good p FA.out.1 (p.length + 1) 0 (by omega))
    have LS := Aside0.mk (common_split.len p (p.length + 1) 0 (by omega) (by omega))
    clear g1 g2 HL HB
    go_wp2_with fail
    refine (common_match.calls w.heap.size b A c p (common_split.f p) w _ HL4.out HB4.out (by have := LS.out; have := FA.out.1; unfold common_split.f; omega) GS.out).mono ?_
    rintro e w5 ⟨rfl, g1, g2, g3, g4⟩
    have GO := Aside0.mk g3
    have LO : Aside0 ((common_match.f (common_split.f p)).length ≤ 4000) := ⟨by rw [g4]; have := LS.out; have := FA.out.1; unfold common_split.f; omega⟩
    have HB5 := Aside0.mk g2
    obtain ⟨Ao, co, h1, h2, h3, h4⟩ := g1.open
    clear g1 g2 g3 g4 HL4 HB4 GS LS
    generalize common_match.f (common_split.f p) = o at *
    have s1 : w5.cell? ⟨b, 1, none⟩ = some (.slice Ao o.length co) := (blk_cell h1 1).trans rfl
    by_cases cn : o.length = 0
    · have hn : o = [] := List.length_eq_zero_iff.1 cn
      subst hn
      clear cn
      go_wp2
      go_loopg [9, 34] 0 (fun kq v9 v34 w' => v9 = .slice none 0 0 ∧ v34 = .int .i64 0 ∧ Aside0 (Below w.heap.size w w'))
      case atStart => exact ⟨rfl, rfl, HB5⟩
      case round =>
        clear HB5 s1 h1 h2 h3
        obtain ⟨rfl, rfl, HI⟩ := hrel
        go_wp2
        go_ret3
        exact ⟨_, by rw [← H2.out, ← H3.out]; rfl, by rw [← H1.out]; exact Kd.R_nil _ _ _ _ _, HI.out⟩
    · obtain ⟨cp, rfl⟩ := prt_row h3 (by omega)
      have I0 := Aside0.mk (show common_Parse.I w cp o.length co o 0 (.slice none 0 0) [] w5 from ⟨Kd.R_nil _ _ _ _ _, h3, HB5.out⟩)
      clear h1 h2 h3 h4 HB5 cn
      go_wp2
      go_loopg [9, 34] o.length (fun kq v9 v34 w' => ∃ (k : Nat), v34 = .int .i64 (k : Int) ∧ Aside0 (k + kq = o.length ∧ common_Parse.I w cp o.length co o k v9 ((o.take k).flatMap common_Parse.toks) w'))
      case atStart => exact ⟨0, rfl, ⟨by omega, I0.out⟩⟩
      case round =>
        clear I0 s1
        obtain ⟨k, rfl, HI⟩ := hrel
        cases gk with
        | zero =>
          have e : k = o.length := by have := HI.out.1; omega
          subst e
          have hI := HI.out.2
          rw [List.take_length] at hI
          have c5b : decide (o.length < o.length) = false := decide_eq_false (by omega)
          have HX := Aside0.mk hI
          clear hI HI
          go_wp2
          go_ret3
          exact ⟨_, by rw [← H2.out, ← H3.out]; rfl, by rw [← H1.out]; exact HX.out.toks, HX.out.below⟩
        | succ f =>
        have kn : (k : Int) < (o.length : Int) := by have := HI.out.1; omega
        have knt := eq_true kn
        have k0t := eq_true (show (0 : Int) ≤ (k : Int) by omega)
        have c5b : decide ((k : Int) < (o.length : Int)) = true := decide_eq_true kn
        obtain ⟨v, hv, x0, x1, x2, x3, x4, x5, x6⟩ := prt_at HI.out.2.row (k : Int) (by omega) kn
        rw [Int.toNat_natCast] at x0 x1 x2 x3 x4 x5 x6
        have NX := Aside0.mk (common_Parse.take_succ o k (by omega))
        have GX := Aside0.mk (GO.out.at (show (0 : Int) ≤ (k : Int) by omega) kn)
        have KK := Aside0.mk HI.out.1
        have II := Aside0.mk HI.out.2
        have AL : Aside0 (((o.take k).flatMap common_Parse.toks).length ≤ 16000000) := ⟨by have h := common_Parse.all_len (o.take k) (fun y hy => GO.out y (List.mem_of_mem_take hy)); rw [List.length_take] at h; have := LO.out; omega⟩
        have hwk : wrap64 ((k : Int) + 1) = ((k + 1 : Nat) : Int) := by have := LO.out; unfold wrap64; omega
        clear HI kn
        generalize (o.take k).flatMap common_Parse.toks = acc at *
        generalize prtAt o (k : Int) = x at *
        obtain ⟨⟨t0, t1, t2, t3⟩, run, left, passed⟩ := x
        dsimp only at hv x0 x1 x2 x3 x4 x5 x6
        cases run with
        | none =>
          obtain rfl : v = .pointer none := hv
          have zb := blk_new wr (.cells #[.int .i64 t0, .int .i64 t1, .int .i64 t2, .int .i64 t3, .pointer none, .int .i64 left, .bool passed] 57)
          have z0 := (blk_cell zb 0).trans (show _ = some (.int .i64 t0) from rfl)
          have z1 := (blk_cell zb 1).trans (show _ = some (.int .i64 t1) from rfl)
          have z2 := (blk_cell zb 2).trans (show _ = some (.int .i64 t2) from rfl)
          have z3 := (blk_cell zb 3).trans (show _ = some (.int .i64 t3) from rfl)
          have z4 := (blk_cell zb 4).trans (show _ = some (.pointer none) from rfl)
          have TR_ := Aside0.mk (Kd.R_alloc II.out.toks (.cells #[.int .i64 t0, .int .i64 t1, .int .i64 t2, .int .i64 t3, .pointer none, .int .i64 left, .bool passed] 57))
          have RR_ := Aside0.mk (Kd.R_alloc II.out.row (.cells #[.int .i64 t0, .int .i64 t1, .int .i64 t2, .int .i64 t3, .pointer none, .int .i64 left, .bool passed] 57))
          have HB6 := Aside0.mk (below_alloc II.out.below (.cells #[.int .i64 t0, .int .i64 t1, .int .i64 t2, .int .i64 t3, .pointer none, .int .i64 left, .bool passed] 57))
          have TK_ : Aside0 (common_Parse.toks ⟨⟨t0, t1, t2, t3⟩, none, left, passed⟩ = [⟨t0, t1, t2, t3⟩]) := ⟨rfl⟩
          clear zb II
          go_wp2_with (first | (at_builtin; refine Kd.R_append k43 (w0 := w) w.heap.size rfl (.tmp 41) (.tmp 44) 23 43 (.agg #[.int .i64 0, .int .i64 0, .int .i64 0, .int .i64 0]) 32 rfl Tryd.underlying23 info43 rfl (by decide) (by decide) u9 acc (⟨t0, t1, t2, t3⟩ : S43) [.int .i64 t0, .int .i64 t1, .int .i64 t2, .int .i64 t3] (fun _ => True) (fun _ => False) rfl (by first | rfl | (go_simp; done) | (go_simp; rfl) | simp) (k43_mkM _ _ _ _) (fun _ h => h.elim) (fun _ _ => trivial) TR_.out HB6.out HB6.out.size (by have := AL.out; omega) ?_; intro v1 w8 ho hb hg hat; have n0_ := Aside0.mk (show common_Parse.I w cp o.length co o (k + 1) v1 (acc ++ [(⟨t0, t1, t2, t3⟩ : S43)]) w8 from ⟨ho, prt_grown RR_.out TR_.out hg, hb⟩); clear ho hb hg hat TR_ RR_ HB6))
          go_roundg f
          case measure => omega
          case rel => exact ⟨k + 1, by rw [hwk], ⟨by have := KK.out; omega, by rw [NX.out, TK_.out]; exact n0_.out⟩⟩
        | some r =>
          obtain ⟨gr, rfl, _, hgr⟩ := hv
          have RB := Aside0.mk (GX.out.2 r rfl).2
          have LB := Aside0.mk GX.out.1
          have zb := blk_new wr (.cells #[.int .i64 t0, .int .i64 t1, .int .i64 t2, .int .i64 t3, .pointer (some ⟨gr, 0, none⟩), .int .i64 left, .bool passed] 57)
          have z4 := (blk_cell zb 4).trans (show _ = some (.pointer (some ⟨gr, 0, none⟩)) from rfl)
          have z5 := (blk_cell zb 5).trans (show _ = some (.int .i64 left) from rfl)
          have J0 := Aside0.mk (show common_Parse.I w cp o.length co o k u9 acc (wr.alloc (.cells #[.int .i64 t0, .int .i64 t1, .int .i64 t2, .int .i64 t3, .pointer (some ⟨gr, 0, none⟩), .int .i64 left, .bool passed] 57)) ∧ (wr.alloc (.cells #[.int .i64 t0, .int .i64 t1, .int .i64 t2, .int .i64 t3, .pointer (some ⟨gr, 0, none⟩), .int .i64 left, .bool passed] 57)).heap[wr.heap.size]? = some (.cells #[.int .i64 t0, .int .i64 t1, .int .i64 t2, .int .i64 t3, .pointer (some ⟨gr, 0, none⟩), .int .i64 left, .bool passed] 57 (0, 0)) ∧ (wr.alloc (.cells #[.int .i64 t0, .int .i64 t1, .int .i64 t2, .int .i64 t3, .pointer (some ⟨gr, 0, none⟩), .int .i64 left, .bool passed] 57)).heap[gr]? = some (.cells (encRun r) 38 (0, 0))
            from ⟨⟨Kd.R_alloc II.out.toks _, Kd.R_alloc II.out.row _, below_alloc II.out.below _⟩, zb, blk_alloc hgr _⟩)
          have TK_ : Aside0 (common_Parse.toks ⟨⟨t0, t1, t2, t3⟩, some r, left, passed⟩ = List.replicate left.toNat (⟨0, 0, r.f2, t3⟩ : S43)) := ⟨rfl⟩
          have hwr : wrap64 r.f2 = r.f2 := by have := RB.out; unfold wrap64; omega
          have hwr2 : IntKind.i64.wrap r.f2 = r.f2 := (i64_w _).trans hwr
          clear zb II hgr GX
          go_wp2
          generalize wr.alloc (.cells #[.int .i64 t0, .int .i64 t1, .int .i64 t2, .int .i64 t3, .pointer (some ⟨gr, 0, none⟩), .int .i64 left, .bool passed] 57) = w6 at *
          generalize wr.heap.size = gb at *
          go_loopg [9, 48] left.toNat (fun kq2 v9 v48 w' => ∃ (m : Nat), v48 = .int .i64 (m : Int) ∧ Aside0 (m + kq2 = left.toNat ∧ common_Parse.I w cp o.length co o k v9 (acc ++ List.replicate m (⟨0, 0, r.f2, t3⟩ : S43)) w' ∧ w'.heap[gb]? = some (.cells #[.int .i64 t0, .int .i64 t1, .int .i64 t2, .int .i64 t3, .pointer (some ⟨gr, 0, none⟩), .int .i64 left, .bool passed] 57 (0, 0)) ∧ w'.heap[gr]? = some (.cells (encRun r) 38 (0, 0))))
          case atStart => exact ⟨0, rfl, ⟨by omega, by rw [List.replicate_zero, List.append_nil]; exact J0.out.1, J0.out.2.1, J0.out.2.2⟩⟩
          case round =>
            clear J0 z4 z5
            obtain ⟨m, rfl, HJ⟩ := hrel
            cases gk with
            | zero =>
              have e : m = left.toNat := by have := HJ.out.1; omega
              have c6b : decide ((m : Int) < left) = false := decide_eq_false (by have := LB.out; omega)
              have c6f : ((m : Int) < left) = False := eq_false (by have := LB.out; omega)
              have HX := Aside0.mk HJ.out.2.1
              rw [e] at HX
              clear HJ
              go_wp2
              go_roundg f
              case measure => omega
              case rel => exact ⟨k + 1, by rw [hwk], ⟨by have := KK.out; omega, by rw [NX.out, TK_.out]; exact ⟨HX.out.toks, HX.out.row, HX.out.below⟩⟩⟩
            | succ f2 =>
              have c6b : decide ((m : Int) < left) = true := decide_eq_true (by have := HJ.out.1; omega)
              have c6t : ((m : Int) < left) = True := eq_true (by have := HJ.out.1; omega)
              have y4 := (blk_cell HJ.out.2.2.1 4).trans (show _ = some (.pointer (some ⟨gr, 0, none⟩)) from rfl)
              have y3 := (blk_cell HJ.out.2.2.1 3).trans (show _ = some (.int .i64 t3) from rfl)
              have yr := (blk_cell HJ.out.2.2.2 2).trans (show _ = some (.int .u8 r.f2) from rfl)
              have M1 := Aside0.mk HJ.out.1
              have II := Aside0.mk HJ.out.2
              have hwm : wrap64 ((m : Int) + 1) = ((m + 1 : Nat) : Int) := by have := LB.out; have := M1.out; unfold wrap64; omega
              have RP := Aside0.mk (show acc ++ List.replicate m (⟨0, 0, r.f2, t3⟩ : S43) ++ [⟨0, 0, r.f2, t3⟩] = acc ++ List.replicate (m + 1) (⟨0, 0, r.f2, t3⟩ : S43) from by rw [List.append_assoc, ← List.replicate_succ'])
              have AM : Aside0 ((acc ++ List.replicate m (⟨0, 0, r.f2, t3⟩ : S43)).length ≤ 16100000) := ⟨by rw [List.length_append, List.length_replicate]; have := AL.out; have := M1.out; have := LB.out; omega⟩
              clear HJ
              generalize acc ++ List.replicate m (⟨0, 0, r.f2, t3⟩ : S43) = ac at *
              go_wp2
              refine start_ (n := 14) (S := fun w' => w'.cell? ⟨gb, 4, none⟩ = some (.pointer (some ⟨gr, 0, none⟩)) ∧ w'.cell? ⟨gr, 2, none⟩ = some (.int .u8 r.f2) ∧ w'.cell? ⟨gb, 3, none⟩ = some (.int .i64 t3)) (ds := [12]) #[Ff,Ff,Ff,Ff,Ff,Ff,Ff,Ff,Ff,Ff,Ff,Ff,Ff,Ff] (by kernel_rfl) rfl rfl ⟨y4, yr, y3⟩ (fun hHeld => ?_)
              refine with_tabW common_Parse.tab15 common_Parse.bits15 (fun HT_ HW_ => ?_)
              have TW := Aside0.mk (Kd.R_drew II.out.1.toks)
              have RW := Aside0.mk (Kd.R_drew II.out.1.row)
              have BW := Aside0.mk (show Below w.heap.size w wr.drew from Below.drew II.out.1.below)
              have ZB := Aside0.mk (blk_drew II.out.2.1)
              have ZR := Aside0.mk (blk_drew II.out.2.2)
              clear II y4 yr y3
              generalize wr.drew = w7 at *
              refine pure_ (i := 0) (N := some 50) (v := ?_) (a' := ?_) #[Tt,Ff,Ff,Ff,Ff,Ff,Ff,Ff,Ff,Ff,Ff,Ff,Ff,Ff] rfl rfl (any_of HT_.out (by kernel_rfl)) (fun _ _ _ h => h) (Or.inl ⟨by rfl, ?_⟩) ?_ ?_;rotate_left;(intro w';go_simp;with_reducible rfl);rotate_left;(simp only [Act.put, List.setIfInBounds_toArray, List.set_cons_zero, List.set_cons_succ, i64_w, i32_w];rfl)
              refine pure_ (i := 1) (N := some 51) (v := ?_) (a' := ?_) #[Tt,Tt,Ff,Ff,Ff,Ff,Ff,Ff,Ff,Ff,Ff,Ff,Ff,Ff] rfl rfl (any_of HT_.out (by kernel_rfl)) (fun _ _ _ h => h) (Or.inl ⟨by rfl, ?_⟩) ?_ ?_;rotate_left;(intro w';go_simp;with_reducible rfl);rotate_left;(simp only [Act.put, List.setIfInBounds_toArray, List.set_cons_zero, List.set_cons_succ, i64_w, i32_w];rfl)
              refine take_ (i := 2) (N := some 52) (v := ?_) (a' := ?_) #[Tt,Tt,Tt,Ff,Ff,Ff,Ff,Ff,Ff,Ff,Ff,Ff,Ff,Ff] rfl rfl (take_ofW HT_.out HW_.out (by kernel_rfl)) (fun _ _ _ h => h) (Or.inl ⟨by rfl, ?_⟩) hHeld ?_ ?_;rotate_left;(rintro w' ⟨s0, s1, s2⟩;go_simp;with_reducible rfl);rotate_left;(simp only [Act.put, List.setIfInBounds_toArray, List.set_cons_zero, List.set_cons_succ, i64_w, i32_w];rfl)
              refine pure_ (i := 3) (N := some 53) (v := ?_) (a' := ?_) #[Tt,Tt,Tt,Tt,Ff,Ff,Ff,Ff,Ff,Ff,Ff,Ff,Ff,Ff] rfl rfl (any_of HT_.out (by kernel_rfl)) (fun _ _ _ h => h) (Or.inl ⟨by rfl, ?_⟩) ?_ ?_;rotate_left;(intro w';go_simp;with_reducible rfl);rotate_left;(simp only [Act.put, List.setIfInBounds_toArray, List.set_cons_zero, List.set_cons_succ, i64_w, i32_w];rfl)
              refine pure_ (i := 4) (N := some 54) (v := ?_) (a' := ?_) #[Tt,Tt,Tt,Tt,Tt,Ff,Ff,Ff,Ff,Ff,Ff,Ff,Ff,Ff] rfl rfl (any_of HT_.out (by kernel_rfl)) (fun _ _ _ h => h) (Or.inl ⟨by rfl, ?_⟩) ?_ ?_;rotate_left;(intro w';go_simp;with_reducible rfl);rotate_left;(simp only [Act.put, List.setIfInBounds_toArray, List.set_cons_zero, List.set_cons_succ, i64_w, i32_w];rfl)
              refine take_ (i := 5) (N := some 55) (v := ?_) (a' := ?_) #[Tt,Tt,Tt,Tt,Tt,Tt,Ff,Ff,Ff,Ff,Ff,Ff,Ff,Ff] rfl rfl (take_ofW HT_.out HW_.out (by kernel_rfl)) (fun _ _ _ h => h) (Or.inl ⟨by rfl, ?_⟩) hHeld ?_ ?_;rotate_left;(rintro w' ⟨s0, s1, s2⟩;go_simp;with_reducible rfl);rotate_left;(simp only [Act.put, List.setIfInBounds_toArray, List.set_cons_zero, List.set_cons_succ, i64_w, i32_w];rfl)
              refine pure_ (i := 6) (N := some 56) (v := ?_) (a' := ?_) #[Tt,Tt,Tt,Tt,Tt,Tt,Tt,Ff,Ff,Ff,Ff,Ff,Ff,Ff] rfl rfl (any_of HT_.out (by kernel_rfl)) (fun _ _ _ h => h) (Or.inl ⟨by rfl, ?_⟩) ?_ ?_;rotate_left;(intro w';go_simp;with_reducible rfl);rotate_left;(simp only [Act.put, List.setIfInBounds_toArray, List.set_cons_zero, List.set_cons_succ, i64_w, i32_w];rfl)
              refine pure_ (i := 7) (N := some 57) (v := ?_) (a' := ?_) #[Tt,Tt,Tt,Tt,Tt,Tt,Tt,Tt,Ff,Ff,Ff,Ff,Ff,Ff] rfl rfl (any_of HT_.out (by kernel_rfl)) (fun _ _ _ h => h) (Or.inl ⟨by rfl, ?_⟩) ?_ ?_;rotate_left;(intro w';go_simp;with_reducible rfl);rotate_left;(simp only [Act.put, List.setIfInBounds_toArray, List.set_cons_zero, List.set_cons_succ, i64_w, i32_w];rfl)
              refine pure_ (i := 8) (N := some 58) (v := ?_) (a' := ?_) #[Tt,Tt,Tt,Tt,Tt,Tt,Tt,Tt,Tt,Ff,Ff,Ff,Ff,Ff] rfl rfl (any_of HT_.out (by kernel_rfl)) (fun _ _ _ h => h) (Or.inl ⟨by rfl, ?_⟩) ?_ ?_;rotate_left;(intro w';go_simp;with_reducible rfl);rotate_left;(simp only [Act.put, List.setIfInBounds_toArray, List.set_cons_zero, List.set_cons_succ, i64_w, i32_w];rfl)
              refine take_ (i := 9) (N := some 59) (v := ?_) (a' := ?_) #[Tt,Tt,Tt,Tt,Tt,Tt,Tt,Tt,Tt,Tt,Ff,Ff,Ff,Ff] rfl rfl (take_ofW HT_.out HW_.out (by kernel_rfl)) (fun _ _ _ h => h) (Or.inl ⟨by rfl, ?_⟩) hHeld ?_ ?_;rotate_left;(rintro w' ⟨s0, s1, s2⟩;go_simp;with_reducible rfl);rotate_left;(simp only [Act.put, List.setIfInBounds_toArray, List.set_cons_zero, List.set_cons_succ, i64_w, i32_w];rfl)
              refine pure_ (i := 10) (N := some 60) (v := ?_) (a' := ?_) #[Tt,Tt,Tt,Tt,Tt,Tt,Tt,Tt,Tt,Tt,Tt,Ff,Ff,Ff] rfl rfl (any_of HT_.out (by kernel_rfl)) (fun _ _ _ h => h) (Or.inl ⟨by rfl, ?_⟩) ?_ ?_;rotate_left;(intro w';go_simp;with_reducible rfl);rotate_left;(simp only [Act.put, List.setIfInBounds_toArray, List.set_cons_zero, List.set_cons_succ, i64_w, i32_w];rfl)
              refine one_ (i := 11) (N := some 61) #[Tt,Tt,Tt,Tt,Tt,Tt,Tt,Tt,Tt,Tt,Tt,Tt,Ff,Ff] rfl rfl (one_of HT_.out (by kernel_rfl)) (by decide) (fun K hK => ?_)
              refine value_ (w1 := ?_) (v := ?_) (by rfl) rfl ?_ ?_
              rotate_left 2
              · go_simp
                constructor
                · rfl
                · rfl
              refine hK.out _ _ ⟨cell_grown (World.grownBy_alloc w7 (.cells #[.int .i64 0, .int .i64 0, .int .i64 r.f2, .int .i64 t3] 43 (0, 0)) none) hHeld.1 (by simp), cell_grown (World.grownBy_alloc w7 (.cells #[.int .i64 0, .int .i64 0, .int .i64 r.f2, .int .i64 t3] 43 (0, 0)) none) hHeld.2.1 (by simp), cell_grown (World.grownBy_alloc w7 (.cells #[.int .i64 0, .int .i64 0, .int .i64 r.f2, .int .i64 t3] 43 (0, 0)) none) hHeld.2.2 (by simp)⟩ (fun hHeld => ?_)
              clear hK K
              refine norm_ (a' := ?_) ?_ ?_
              rotate_left
              · show Act.put _ (some 61) _ = _
                simp only [Act.put, List.setIfInBounds_toArray, List.set_cons_zero, List.set_cons_succ, i64_w, i32_w]
                rfl
              refine last_ (i := 12) (N := some 62) #[Tt,Tt,Tt,Tt,Tt,Tt,Tt,Tt,Tt,Tt,Tt,Tt,Tt,Ff] rfl rfl (one_of HT_.out (by kernel_rfl)) (by decide) (fun K hK => ?_)
              refine Kd.R_append_step k43 (w0 := w) w.heap.size (by rfl) (.tmp 50) (.tmp 61) 23 43 (.agg #[.int .i64 0, .int .i64 0, .int .i64 0, .int .i64 0]) 32 rfl Tryd.underlying23 info43 rfl (by decide) (by omega) u9 ac (⟨0, 0, r.f2, t3⟩ : S43) [.int .i64 0, .int .i64 0, .int .i64 r.f2, .int .i64 t3] (fun _ => True) (fun _ => False) rfl rfl (k43_mkM _ _ _ _) (fun _ hk => hk.elim) (fun _ _ => trivial) TW.out BW.out BW.out.size (by have := AM.out; omega) ?_
              intro v1 w9 hR1 hb9 hg1 hat1
              have N1 := Aside0.mk (show common_Parse.I w cp o.length co o k v1 (ac ++ [(⟨0, 0, r.f2, t3⟩ : S43)]) w9 ∧ w9.heap[gb]? = some (.cells #[.int .i64 t0, .int .i64 t1, .int .i64 t2, .int .i64 t3, .pointer (some ⟨gr, 0, none⟩), .int .i64 left, .bool passed] 57 (0, 0)) ∧ w9.heap[gr]? = some (.cells (encRun r) 38 (0, 0)) from ⟨⟨hR1, prt_grown RW.out TW.out hg1, hb9⟩, blk_grown ZB.out hg1 (Kd.R_ne TW.out ZB.out (by decide)), blk_grown ZR.out hg1 (Kd.R_ne TW.out ZR.out (by decide))⟩)
              clear hR1 hb9 hg1 hat1 TW RW BW ZB ZR
              refine hK.out _ _ ?_
              clear hK K
              refine norm_ (a' := ?_) ?_ ?_
              rotate_left
              · show Act.put _ (some 62) _ = _
                simp only [Act.put, List.setIfInBounds_toArray, List.set_cons_zero, List.set_cons_succ, i64_w, i32_w]
                rfl
              refine pure_ (i := 13) (N := some 9) (v := ?_) (a' := ?_) #[Tt,Tt,Tt,Tt,Tt,Tt,Tt,Tt,Tt,Tt,Tt,Tt,Tt,Tt] rfl rfl (any_of HT_.out (by kernel_rfl)) (fun _ _ _ h => h) (Or.inl ⟨by rfl, ?_⟩) ?_ ?_;rotate_left;(intro w';go_simp;with_reducible rfl);rotate_left;(simp only [Act.put, List.setIfInBounds_toArray, List.set_cons_zero, List.set_cons_succ, i64_w, i32_w];rfl)
              refine done_ (done_of HT_.out (by kernel_rfl)) ?_
              go_wp2
              go_roundg f2
              case measure => omega
              case rel => exact ⟨m + 1, by rw [hwm], ⟨by have := M1.out; omega, by rw [← RP.out]; exact N1.out.1, N1.out.2.1, N1.out.2.2⟩⟩
  · have c1b : (e1 != 0) = true := bne_iff_ne.mpr c1
    have h := H.out
    rw [if_neg c1] at h
    simp only [Option.some.injEq, Prod.mk.injEq] at h
    obtain ⟨rfl, rfl, rfl⟩ := h
    clear c1 H
    go_wp2
    go_ret3
    exact ⟨_, rfl, Kd.R_nil _ _ _ _ _, HB.out⟩

end Go.Proofs.YtfnafjohfmlniaaDoor.PCr
