-- Written for this claim by a program (the kit's print, with hand-made contracts for what it does not take).
import Derived.Test.YtfnafjohfmlniaaDoorPCrx0
import Derived.Test.YtfnafjohfmlniaaDoorPCrx1
import Derived.Test.YtfnafjohfmlniaaDoorPCrx6
import Derived.Test.YtfnafjohfmlniaaDoorPCrx7
import Derived.Test.YtfnafjohfmlniaaDoorPCrx11
namespace Go.Proofs.YtfnafjohfmlniaaDoor.PCr
open Go.RowKit Go.Proofs.YtfnafjohfmlniaaDoorW.PrintWords Go.Proofs.YtfnafjohfmlniaaDoorW.PrintLast Go.Proofs.YtfnafjohfmlniaaDoorW.PrintMore
attribute [local go_sem] max2_int min2_int max_two min_two max_three min_three max_four min_four   -- for this text's walks alone
set_option linter.unusedVariables false
set_option linter.unusedSimpArgs false

/-! ### emenderlaw28_awake: function 9 -/
def emenderlaw28_awake.f  : Option (Bool) := (common_Parse.f (⟨#[42, 97, 42]⟩ : ByteArray)).bind fun bt104 => (if bt104.2.2 = 0 then (if (bt104.1.length : Int) = 1 then (if 0 < (bt104.1.length : Int) then (some (((rd_T43 bt104.1 0).f3) == 2)) else (none)) else (some false)) else (some false))
set_option maxHeartbeats 8000000 in
set_option maxRecDepth 100000 in
theorem emenderlaw28_awake.calls  (r : Bool) (w : World) (h : emenderlaw28_awake.f  = some r) (hT_ : Lib.Utf8Tabs 0 1 w := by first | exact u8_below HU8_.out (by repeat (first | (with_reducible first | exact HB.out | apply below_alloc | apply pw_below_drewN | apply below_drew1) | exact HB.out)) | exact u8_below HT_.out (by repeat (first | (with_reducible first | exact HB.out | apply below_alloc | apply pw_below_drewN | apply below_drew1) | exact HB.out))) :
    Calls Tryd.prog 9 #[] w fun e w' => e = .returned (.bool r) ∧ Below w.heap.size w w' := by
  have HT_ := Aside0.mk hT_
  clear hT_
  have HB := Aside0.mk (Below.refl w.heap.size w)
  have H : ((common_Parse.f (⟨#[42, 97, 42]⟩ : ByteArray)).bind fun bt104 => (if bt104.2.2 = 0 then (if (bt104.1.length : Int) = 1 then (if 0 < (bt104.1.length : Int) then (some (((rd_T43 bt104.1 0).f3) == 2)) else (none)) else (some false)) else (some false))) = some r := h
  clear h
  replace H := Option.bind_eq_some_iff.mp H
  obtain ⟨⟨t104, t105, t106⟩, A10, H⟩ := H
  replace H : (if t106 = 0 then (if (t104.length : Int) = 1 then (if 0 < (t104.length : Int) then (some (((rd_T43 t104 0).f3) == 2)) else (none)) else (some false)) else (some false)) = some r := H
  have A1 := Aside0.mk A10
  clear A10
  by_cases c2 : t106 = 0
  · rw [if_pos c2] at H
    have c2b0 : (t106 == 0) = true := beq_iff_eq.mpr c2
    have c2b1 : (t106 != 0) = false := bne_eq_false_iff_eq.mpr c2
    clear c2
    by_cases c3 : (t104.length : Int) = 1
    · rw [if_pos c3] at H
      have c3b0 : ((t104.length : Int) == 1) = true := beq_iff_eq.mpr c3
      have c3b1 : ((t104.length : Int) != 1) = false := bne_eq_false_iff_eq.mpr c3
      clear c3
      by_cases c4 : 0 < (t104.length : Int)
      · rw [if_pos c4] at H
        have c4b0 : decide (0 < (t104.length : Int)) = true := decide_eq_true c4
        have c4b1 : decide (0 < t104.length) = true := decide_eq_true (by omega)
        clear c4
        obtain rfl := Option.some.inj H
        go_enter Tryd.func9, Tryd.ntmps9
        go_wp2_with (first | ((with_reducible refine gate_callee (f := 10) rfl ?_); refine goesL_ (some 5) rfl rfl Tryd.func10 (by kernel_rfl) rfl #[.string (⟨#[42, 97, 42]⟩ : ByteArray)] rfl (by (try simp only [List.map_toArray, List.map_cons, List.map_nil]); first | done | rfl | (simp only [List.length_drop, List.length_take]; rfl)) ?_; (with_reducible refine (common_Parse.calls (⟨#[42, 97, 42]⟩ : ByteArray) t104 t105 t106 _ A1.out).mono ?_); rintro e w5 ⟨v107, rfl, ho0, hb⟩; refine ⟨_, rfl, ?_⟩; have n0_ := Aside0.mk (Kd.R_lower ho0 (below_size (by repeat (first | (with_reducible first | exact HB.out | apply below_alloc | apply pw_below_drewN | apply below_drew1) | exact HB.out)))); have n1_ := Aside0.mk (below_step (by repeat (first | (with_reducible first | exact HB.out | apply below_alloc | apply pw_below_drewN | apply below_drew1) | exact HB.out)) hb); clear HB; have HO108 := n0_; have HB := n1_; clear n0_ n1_; (try clear hb); (try clear hb2); (try clear hk); (try clear hi); (try clear ho0); obtain ⟨Ao6, co6, eo6⟩ := Kd.R_slice HO108.out; subst eo6; have p109 : 0 ≤ (0 : Int) := (by omega); have q109 : 0 < (t104.length : Int) := of_decide_eq_true (by first | (with_reducible assumption) | assumption); obtain ⟨ad109, e109, hx109_0, hx109_1, hx109_2, hx109_3⟩ := at_T43 (Kd.R_reads' HO108.out).2.2 0 p109 q109; cases e109; have qi109 : (0 < t104.length) = True := eq_true (by omega); (try rw [show ((0 : Int)).toNat = 0 from rfl] at hx109_0); (try rw [show 0 * 4 = 0 from rfl] at hx109_0); (try rw [Addr.add_zero'] at hx109_0); (try rw [show ((0 : Int)).toNat = 0 from rfl] at hx109_1); (try rw [show 0 * 4 = 0 from rfl] at hx109_1); (try rw [Addr.add_zero'] at hx109_1); (try rw [show ((0 : Int)).toNat = 0 from rfl] at hx109_2); (try rw [show 0 * 4 = 0 from rfl] at hx109_2); (try rw [Addr.add_zero'] at hx109_2); (try rw [show ((0 : Int)).toNat = 0 from rfl] at hx109_3); (try rw [show 0 * 4 = 0 from rfl] at hx109_3); (try rw [Addr.add_zero'] at hx109_3); replace p109 := eq_true p109; replace q109 := eq_true q109))
        go_ret
        exact ⟨by first | rfl | (simp [errW_none, errW_some] <;> rfl) | (simp [*, errW_none, errW_some] <;> rfl), by repeat (first | (with_reducible first | exact HB.out | apply below_alloc | apply pw_below_drewN | apply below_drew1) | exact HB.out)⟩
      · rw [if_neg c4] at H
        exact absurd H (by simp)
    · rw [if_neg c3] at H
      have c3b0 : ((t104.length : Int) == 1) = false := beq_eq_false_iff_ne.mpr c3
      have c3b1 : ((t104.length : Int) != 1) = true := bne_iff_ne.mpr c3
      obtain rfl := Option.some.inj H
      go_enter Tryd.func9, Tryd.ntmps9
      go_wp2_with (first | ((with_reducible refine gate_callee (f := 10) rfl ?_); refine goesL_ (some 5) rfl rfl Tryd.func10 (by kernel_rfl) rfl #[.string (⟨#[42, 97, 42]⟩ : ByteArray)] rfl (by (try simp only [List.map_toArray, List.map_cons, List.map_nil]); first | done | rfl | (simp only [List.length_drop, List.length_take]; rfl)) ?_; (with_reducible refine (common_Parse.calls (⟨#[42, 97, 42]⟩ : ByteArray) t104 t105 t106 _ A1.out).mono ?_); rintro e w7 ⟨v107, rfl, ho0, hb⟩; refine ⟨_, rfl, ?_⟩; have n0_ := Aside0.mk (Kd.R_lower ho0 (below_size (by repeat (first | (with_reducible first | exact HB.out | apply below_alloc | apply pw_below_drewN | apply below_drew1) | exact HB.out)))); have n1_ := Aside0.mk (below_step (by repeat (first | (with_reducible first | exact HB.out | apply below_alloc | apply pw_below_drewN | apply below_drew1) | exact HB.out)) hb); clear HB; have HO108 := n0_; have HB := n1_; clear n0_ n1_; (try clear hb); (try clear hb2); (try clear hk); (try clear hi); (try clear ho0); obtain ⟨Ao8, co8, eo8⟩ := Kd.R_slice HO108.out; subst eo8))
      go_ret
      exact ⟨by first | rfl | (simp [errW_none, errW_some] <;> rfl) | (simp [*, errW_none, errW_some] <;> rfl), by repeat (first | (with_reducible first | exact HB.out | apply below_alloc | apply pw_below_drewN | apply below_drew1) | exact HB.out)⟩
  · rw [if_neg c2] at H
    have c2b0 : (t106 == 0) = false := beq_eq_false_iff_ne.mpr c2
    have c2b1 : (t106 != 0) = true := bne_iff_ne.mpr c2
    obtain rfl := Option.some.inj H
    go_enter Tryd.func9, Tryd.ntmps9
    go_wp2_with (first | ((with_reducible refine gate_callee (f := 10) rfl ?_); refine goesL_ (some 5) rfl rfl Tryd.func10 (by kernel_rfl) rfl #[.string (⟨#[42, 97, 42]⟩ : ByteArray)] rfl (by (try simp only [List.map_toArray, List.map_cons, List.map_nil]); first | done | rfl | (simp only [List.length_drop, List.length_take]; rfl)) ?_; (with_reducible refine (common_Parse.calls (⟨#[42, 97, 42]⟩ : ByteArray) t104 t105 t106 _ A1.out).mono ?_); rintro e w9 ⟨v107, rfl, ho0, hb⟩; refine ⟨_, rfl, ?_⟩; have n0_ := Aside0.mk (Kd.R_lower ho0 (below_size (by repeat (first | (with_reducible first | exact HB.out | apply below_alloc | apply pw_below_drewN | apply below_drew1) | exact HB.out)))); have n1_ := Aside0.mk (below_step (by repeat (first | (with_reducible first | exact HB.out | apply below_alloc | apply pw_below_drewN | apply below_drew1) | exact HB.out)) hb); clear HB; have HO108 := n0_; have HB := n1_; clear n0_ n1_; (try clear hb); (try clear hb2); (try clear hk); (try clear hi); (try clear ho0)))
    go_ret
    exact ⟨by first | rfl | (simp [errW_none, errW_some] <;> rfl) | (simp [*, errW_none, errW_some] <;> rfl), by repeat (first | (with_reducible first | exact HB.out | apply below_alloc | apply pw_below_drewN | apply below_drew1) | exact HB.out)⟩

/-! ### common_Runs: function 13 -/
def common_Runs.runs (x : Prt) : List S38 := match x.run with
  | none => []
  | some r => [r]
def common_Runs.f (s : ByteArray) : Option (List S38 × Int × Int) :=
  if (common_points.f s).2.2 = 0 then some ((common_split.f (common_points.f s).1).flatMap common_Runs.runs, (s.size : Int), 0)
  else some ([], (common_points.f s).2.1, (common_points.f s).2.2)
def common_Runs.Post (r1 : List S38) (r2 r3 : Int) (w : World) (e : Ending) (w' : World) : Prop := ∃ v0_ : Value, e = .returned (.tuple #[v0_, .int .i64 r2, .int .i64 r3]) ∧ Kd.R k38 38 w' w.heap.size (fun _ => True) v0_ r1 ∧ Below w.heap.size w w'
theorem common_Runs.all_len : ∀ (o : List Prt), (o.flatMap common_Runs.runs).length ≤ o.length
  | [] => Nat.zero_le _
  | x :: o => by
    rw [List.flatMap_cons, List.length_append, List.length_cons]
    have h1 : (common_Runs.runs x).length ≤ 1 := by unfold common_Runs.runs; split <;> simp
    have h2 := common_Runs.all_len o
    omega
theorem common_Runs.take_succ (o : List Prt) (k : Nat) (h : k < o.length) : (o.take (k + 1)).flatMap common_Runs.runs = (o.take k).flatMap common_Runs.runs ++ common_Runs.runs (prtAt o (k : Int)) := by
  rw [List.take_add_one, List.flatMap_append, List.getElem?_eq_getElem h]
  unfold prtAt
  rw [Int.toNat_natCast, List.getD_eq_getElem?_getD, List.getElem?_eq_getElem h]
  simp
/-- What is known at the loop: the runs so far (made behind the parts), the parts. -/
structure common_Runs.I (wH : World) (B cp n co : Nat) (o : List Prt) (v : Value) (acc : List S38) (W : World) : Prop where
  toks : Kd.R k38 38 W wH.heap.size (fun _ => True) v acc
  row : Kd.R kPrt 57 W B (fun k => k < wH.heap.size) (.slice (some ⟨cp, 0, none⟩) n co) o
  below : Below wH.heap.size wH W
theorem prt_grownH {W w1 : World} {B H : Nat} {v v' : Value} {o : List Prt} {l : List S38} (h : Kd.R kPrt 57 W B (fun k => k < H) v o) (hr : Kd.R k38 38 W H (fun _ => True) v' l) (hg : W.grownBy w1 v'.ownBlock) : Kd.R kPrt 57 w1 B (fun k => k < H) v o :=
  Kd.R_grown h hg (fun k hk e => by obtain ⟨_, ho⟩ := Kd.R_own hr; have := own_base ho k e.symm; omega)
set_option maxHeartbeats 16000000 in
set_option maxRecDepth 100000 in
theorem common_Runs.calls (a0 : ByteArray) (r1 : List S38) (r2 r3 : Int) (w : World) (h : common_Runs.f a0 = some (r1, r2, r3)) (hT_ : Lib.Utf8Tabs 0 1 w := by first | exact u8_below HU8_.out (by repeat (first | (with_reducible first | exact HB.out | apply below_alloc | apply pw_below_drewN | apply below_drew1) | exact HB.out)) | exact u8_below HT_.out (by repeat (first | (with_reducible first | exact HB.out | apply below_alloc | apply pw_below_drewN | apply below_drew1) | exact HB.out))) :
    Calls Tryd.prog 13 #[.string a0] w (common_Runs.Post r1 r2 r3 w) := by
  have hu54 := Tryd.underlying54
  have hu57 := Tryd.underlying57
  have hu38 := Tryd.underlying38
  have HT := Aside0.mk hT_
  have FA := Aside0.mk (common_points.facts a0)
  clear hT_
  unfold common_Runs.f at h
  have PC := Aside0.mk (common_points.calls a0 w HT.out)
  generalize common_points.f a0 = q at *
  obtain ⟨p, n1, e1⟩ := q
  dsimp only at h FA
  have H := Aside0.mk h
  clear h
  go_enter Tryd.func13, Tryd.ntmps13
  go_wp2_with fail
  refine PC.out.mono ?_
  rintro e w1 ⟨v0, rfl, hr, hb⟩
  have HB := Aside0.mk hb
  have HR := Aside0.mk hr
  clear hr hb PC
  dsimp only at HR
  obtain ⟨A, c, hv⟩ := Kd.R_slice HR.out
  subst hv
  by_cases c1 : e1 = 0
  · have c1b : (e1 != 0) = false := bne_eq_false_iff_eq.mpr c1
    have h := H.out
    rw [if_pos c1] at h
    simp only [Option.some.injEq, Prod.mk.injEq] at h
    obtain ⟨h1, h2, h3⟩ := h
    have H1 := Aside0.mk h1
    have H2 := Aside0.mk h2
    have H3 := Aside0.mk h3
    clear h1 h2 h3 c1 H
    go_wp2_with (first | ((with_reducible refine gate_dst (N := 24) rfl ?_); refine box_event ?hg (N := 24) ?hd (cs := #[.slice A p.length c, .slice none 0 0]) (t := 54) ?hr ?_; (case hd => rfl); (case hg => rfl); (case hr => first | (go_simp; done) | (go_simp; rfl)); intro b hg w3 hbox hb; have n0_ := Aside0.mk (below_step HB.out hb); have HL := Aside0.mk (show common_L w.heap.size b A c p [] w3 from ⟨⟨_, hbox, Kd.R_below HR.out hb, Kd.R_nil _ _ _ _ _⟩, by rw [hg]; exact below_size HB.out⟩); clear HB hb hbox hg; have HB := n0_; clear n0_))
    refine (common_split.calls w.heap.size b A c p w _ HL.out HB.out FA.out.1 FA.out.2).mono ?_
    rintro e w5 ⟨rfl, g1, g2⟩
    have LO : Aside0 ((common_split.f p).length ≤ 4000) := ⟨by have := common_split.len p (p.length + 1) 0 (by omega) (by omega); have := FA.out.1; unfold common_split.f; omega⟩
    have HB5 := Aside0.mk g2
    obtain ⟨Ao, co, h1, h2, h3, h4⟩ := g1.open
    clear g1 g2 HL HB
    generalize common_split.f p = o at *
    have s1 : w5.cell? ⟨b, 1, none⟩ = some (.slice Ao o.length co) := (blk_cell h1 1).trans rfl
    by_cases cn : o.length = 0
    · have hn : o = [] := List.length_eq_zero_iff.1 cn
      subst hn
      clear cn
      go_wp2
      go_loopg [9, 32] 0 (fun kq v9 v32 w' => v9 = .slice none 0 0 ∧ v32 = .int .i64 0 ∧ Aside0 (Below w.heap.size w w'))
      case atStart => exact ⟨rfl, rfl, HB5⟩
      case round =>
        clear HB5 s1 h1 h2 h3
        obtain ⟨rfl, rfl, HI⟩ := hrel
        go_wp2
        go_ret3
        exact ⟨_, by rw [← H2.out, ← H3.out]; rfl, by rw [← H1.out]; exact Kd.R_nil _ _ _ _ _, HI.out⟩
    · obtain ⟨cp, rfl⟩ := prt_row h3 (by omega)
      have I0 := Aside0.mk (show common_Runs.I w5 w.heap.size cp o.length co o (.slice none 0 0) [] w5 from ⟨Kd.R_nil _ _ _ _ _, Kd.R_mono (Kd.R_bound h3) (fun _ hk => hk.2.2.1), Below.refl _ _⟩)
      have HS : Aside0 (w.heap.size ≤ w5.heap.size) := ⟨HB5.out.size⟩
      clear h1 h2 h3 h4 cn
      go_wp2
      go_loopg [9, 32] o.length (fun kq v9 v32 w' => ∃ (k : Nat), v32 = .int .i64 (k : Int) ∧ Aside0 (k + kq = o.length ∧ common_Runs.I w5 w.heap.size cp o.length co o v9 ((o.take k).flatMap common_Runs.runs) w'))
      case atStart => exact ⟨0, rfl, ⟨by omega, I0.out⟩⟩
      case round =>
        clear I0 s1
        obtain ⟨k, rfl, HI⟩ := hrel
        cases gk with
        | zero =>
          have e : k = o.length := by have := HI.out.1; omega
          subst e
          have hI := HI.out.2
          rw [List.take_length] at hI
          have c5b : decide (o.length < o.length) = false := decide_eq_false (by omega)
          have HX := Aside0.mk hI
          clear hI HI
          go_wp2
          go_ret3
          exact ⟨_, by rw [← H2.out, ← H3.out]; rfl, by rw [← H1.out]; exact Kd.R_lower HX.out.toks HS.out, HB5.out.trans (HX.out.below.mono HS.out)⟩
        | succ f =>
        have kn : (k : Int) < (o.length : Int) := by have := HI.out.1; omega
        have knt := eq_true kn
        have k0t := eq_true (show (0 : Int) ≤ (k : Int) by omega)
        have c5b : decide ((k : Int) < (o.length : Int)) = true := decide_eq_true kn
        obtain ⟨v, hv, x0, x1, x2, x3, x4, x5, x6⟩ := prt_at (Kd.R_mono HI.out.2.row (fun _ _ => trivial)) (k : Int) (by omega) kn
        rw [Int.toNat_natCast] at x0 x1 x2 x3 x4 x5 x6
        have NX := Aside0.mk (common_Runs.take_succ o k (by omega))
        have KK := Aside0.mk HI.out.1
        have II := Aside0.mk HI.out.2
        have AL : Aside0 (((o.take k).flatMap common_Runs.runs).length ≤ 4000) := ⟨by have h := common_Runs.all_len (o.take k); rw [List.length_take] at h; have := LO.out; omega⟩
        have hwk : wrap64 ((k : Int) + 1) = ((k + 1 : Nat) : Int) := by have := LO.out; unfold wrap64; omega
        clear HI kn
        generalize (o.take k).flatMap common_Runs.runs = acc at *
        generalize prtAt o (k : Int) = x at *
        obtain ⟨⟨t0, t1, t2, t3⟩, run, left, passed⟩ := x
        dsimp only at hv x0 x1 x2 x3 x4 x5 x6
        cases run with
        | none =>
          obtain rfl : v = .pointer none := hv
          have zb := blk_new wr (.cells #[.int .i64 t0, .int .i64 t1, .int .i64 t2, .int .i64 t3, .pointer none, .int .i64 left, .bool passed] 57)
          have z4 := (blk_cell zb 4).trans (show _ = some (.pointer none) from rfl)
          have TR_ := Aside0.mk (Kd.R_alloc II.out.toks (.cells #[.int .i64 t0, .int .i64 t1, .int .i64 t2, .int .i64 t3, .pointer none, .int .i64 left, .bool passed] 57))
          have RR_ := Aside0.mk (Kd.R_alloc II.out.row (.cells #[.int .i64 t0, .int .i64 t1, .int .i64 t2, .int .i64 t3, .pointer none, .int .i64 left, .bool passed] 57))
          have HB6 := Aside0.mk (below_alloc II.out.below (.cells #[.int .i64 t0, .int .i64 t1, .int .i64 t2, .int .i64 t3, .pointer none, .int .i64 left, .bool passed] 57))
          have TK_ : Aside0 (common_Runs.runs ⟨⟨t0, t1, t2, t3⟩, none, left, passed⟩ = []) := ⟨rfl⟩
          clear zb II
          go_wp2
          go_roundg f
          case measure => omega
          case rel => exact ⟨k + 1, by rw [hwk], ⟨by have := KK.out; omega, by rw [NX.out, TK_.out, List.append_nil]; exact ⟨TR_.out, RR_.out, HB6.out⟩⟩⟩
        | some r =>
          obtain ⟨gr, rfl, _, hgr⟩ := hv
          have zb := blk_new wr (.cells #[.int .i64 t0, .int .i64 t1, .int .i64 t2, .int .i64 t3, .pointer (some ⟨gr, 0, none⟩), .int .i64 left, .bool passed] 57)
          have zr := blk_alloc hgr (.cells #[.int .i64 t0, .int .i64 t1, .int .i64 t2, .int .i64 t3, .pointer (some ⟨gr, 0, none⟩), .int .i64 left, .bool passed] 57)
          have z4 := (blk_cell zb 4).trans (show _ = some (.pointer (some ⟨gr, 0, none⟩)) from rfl)
          have y0 := (blk_cell zr 0).trans (show _ = some (.int .i64 r.f0) from rfl)
          have y1 := (blk_cell zr 1).trans (show _ = some (.int .i64 r.f1) from rfl)
          have y2 := (blk_cell zr 2).trans (show _ = some (.int .u8 r.f2) from rfl)
          have y3 := (blk_cell zr 3).trans (show _ = some (.bool r.f3) from rfl)
          have y4 := (blk_cell zr 4).trans (show _ = some (.bool r.f4) from rfl)
          have TR_ := Aside0.mk (Kd.R_alloc II.out.toks (.cells #[.int .i64 t0, .int .i64 t1, .int .i64 t2, .int .i64 t3, .pointer (some ⟨gr, 0, none⟩), .int .i64 left, .bool passed] 57))
          have RR_ := Aside0.mk (Kd.R_alloc II.out.row (.cells #[.int .i64 t0, .int .i64 t1, .int .i64 t2, .int .i64 t3, .pointer (some ⟨gr, 0, none⟩), .int .i64 left, .bool passed] 57))
          have HB6 := Aside0.mk (below_alloc II.out.below (.cells #[.int .i64 t0, .int .i64 t1, .int .i64 t2, .int .i64 t3, .pointer (some ⟨gr, 0, none⟩), .int .i64 left, .bool passed] 57))
          have TK_ : Aside0 (common_Runs.runs ⟨⟨t0, t1, t2, t3⟩, some r, left, passed⟩ = [r]) := ⟨rfl⟩
          clear zb zr hgr II
          go_wp2_with (first | (at_builtin; refine Kd.R_append k38 (w0 := w5) w5.heap.size rfl (.tmp 39) (.tmp 44) 31 38 (.agg #[.int .i64 0, .int .i64 0, .int .u8 0, .bool false, .bool false]) 24 rfl Tryd.underlying31 info38 rfl (by decide) (by decide) u9 acc (r : S38) [.int .i64 r.f0, .int .i64 r.f1, .int .u8 r.f2, .bool r.f3, .bool r.f4] (fun _ => True) (fun _ => False) rfl (by first | rfl | (go_simp; done) | (go_simp; rfl) | simp) (k38_mkM _ _ _ _) (fun _ h => h.elim) (fun _ _ => trivial) TR_.out HB6.out HB6.out.size (by have := AL.out; omega) ?_; intro v1 w8 ho hb hg hat; have n0_ := Aside0.mk (show common_Runs.I w5 w.heap.size cp o.length co o v1 (acc ++ [r]) w8 from ⟨ho, prt_grownH RR_.out TR_.out hg, hb⟩); clear ho hb hg hat TR_ RR_ HB6))
          go_roundg f
          case measure => omega
          case rel => exact ⟨k + 1, by rw [hwk], ⟨by have := KK.out; omega, by rw [NX.out, TK_.out]; exact n0_.out⟩⟩
  · have c1b : (e1 != 0) = true := bne_iff_ne.mpr c1
    have h := H.out
    rw [if_neg c1] at h
    simp only [Option.some.injEq, Prod.mk.injEq] at h
    obtain ⟨rfl, rfl, rfl⟩ := h
    clear c1 H
    go_wp2
    go_ret3
    exact ⟨_, rfl, Kd.R_nil _ _ _ _ _, HB.out⟩

/-! ### emenderref04_Point: function 59 -/
def emenderref04_Point.f (a0 : Int) : Option (Bool) := if a0 ≥ 0 then (if a0 ≤ 1114111 then (if a0 < 55296 then (some true) else (some (decide (a0 > 57343)))) else (some false)) else (some false)
set_option maxHeartbeats 8000000 in
set_option maxRecDepth 100000 in
theorem emenderref04_Point.calls (a0 : Int) (r : Bool) (w : World) (h : emenderref04_Point.f a0 = some r) :
    Calls Tryd.prog 59 #[.int .i64 a0] w fun e w' => e = .returned (.bool r) ∧ Drawn0 w w' := by
  have H : (if a0 ≥ 0 then (if a0 ≤ 1114111 then (if a0 < 55296 then (some true) else (some (decide (a0 > 57343)))) else (some false)) else (some false)) = some r := h
  clear h
  by_cases c2 : a0 ≥ 0
  · rw [if_pos c2] at H
    have c2b0 : decide (0 ≤ a0) = true := decide_eq_true c2
    clear c2
    by_cases c3 : a0 ≤ 1114111
    · rw [if_pos c3] at H
      have c3b0 : decide (a0 ≤ 1114111) = true := decide_eq_true c3
      clear c3
      by_cases c4 : a0 < 55296
      · rw [if_pos c4] at H
        have c4b0 : decide (a0 < 55296) = true := decide_eq_true c4
        clear c4
        obtain rfl := Option.some.inj H
        go_enter Tryd.func59, Tryd.ntmps59
        go_wp2
        go_ret
        exact ⟨by first | rfl | (simp; done) | (simp [*]; done), by repeat (first | exact Drawn0.refl _ | apply Drawn0.step)⟩
      · rw [if_neg c4] at H
        have c4b0 : decide (a0 < 55296) = false := decide_eq_false c4
        clear c4
        obtain rfl := Option.some.inj H
        go_enter Tryd.func59, Tryd.ntmps59
        go_wp2
        go_ret
        exact ⟨by first | rfl | (simp; done) | (simp [*]; done), by repeat (first | exact Drawn0.refl _ | apply Drawn0.step)⟩
    · rw [if_neg c3] at H
      have c3b0 : decide (a0 ≤ 1114111) = false := decide_eq_false c3
      clear c3
      obtain rfl := Option.some.inj H
      go_enter Tryd.func59, Tryd.ntmps59
      go_wp2
      go_ret
      exact ⟨by first | rfl | (simp; done) | (simp [*]; done), by repeat (first | exact Drawn0.refl _ | apply Drawn0.step)⟩
  · rw [if_neg c2] at H
    have c2b0 : decide (0 ≤ a0) = false := decide_eq_false c2
    clear c2
    obtain rfl := Option.some.inj H
    go_enter Tryd.func59, Tryd.ntmps59
    go_wp2
    go_ret
    exact ⟨by first | rfl | (simp; done) | (simp [*]; done), by repeat (first | exact Drawn0.refl _ | apply Drawn0.step)⟩

end Go.Proofs.YtfnafjohfmlniaaDoor.PCr
