-- Written for this claim by a program (the kit's print, with hand-made contracts for what it does not take).
import Derived.Test.YtfnafjohfmlniaaDoorPCrx0
import Derived.Test.YtfnafjohfmlniaaDoorPCrx5
import Derived.Test.YtfnafjohfmlniaaDoorPCrx15
import Derived.Test.YtfnafjohfmlniaaDoorPCrx16
namespace Go.Proofs.YtfnafjohfmlniaaDoor.PCr
open Go.RowKit Go.Proofs.YtfnafjohfmlniaaDoorW.PrintWords Go.Proofs.YtfnafjohfmlniaaDoorW.PrintLast Go.Proofs.YtfnafjohfmlniaaDoorW.PrintMore
attribute [local go_sem] max2_int min2_int max_two min_two max_three min_three max_four min_four   -- for this text's walks alone
set_option linter.unusedVariables false
set_option linter.unusedSimpArgs false

/-! ### emenderref28_run: function 44 -/
/-! ### The document's run at a place -/
def emenderref28_run.at (p : List Int) (i : Int) : Int := if i < 0 then 32 else if (p.length : Int) ≤ i then 32 else rd p i
theorem emenderref28_run.around (p : List Int) (i : Int) : emenderref28_around.f p i = some (emenderref28_run.at p i) := by
  unfold emenderref28_around.f emenderref28_run.at
  by_cases h : i < 0
  · rw [if_pos h, if_pos h]
  · rw [if_neg h, if_neg h]
    by_cases h2 : (p.length : Int) ≤ i
    · rw [if_pos h2, if_pos h2]
    · rw [if_neg (by omega), if_neg h2, if_pos (by omega), if_pos (by omega)]
theorem refSign (c : Int) : emenderref28_sign.f c = some (sg c) := by
  have hs : sg c = decide ((33 ≤ c ∧ c ≤ 47) ∨ (58 ≤ c ∧ c ≤ 64) ∨ (91 ≤ c ∧ c ≤ 96) ∨ (123 ≤ c ∧ c ≤ 126)) := by
    unfold sg
    rw [Bool.eq_iff_iff]
    simp only [Bool.and_eq_true, Bool.not_eq_true', Bool.and_eq_false_imp, decide_eq_true_eq, decide_eq_false_iff_not]
    omega
  rw [hs]
  unfold emenderref28_sign.f
  repeat' split
  all_goals (congr 1; rw [Bool.eq_iff_iff]; simp only [decide_eq_true_eq, true_iff, Bool.false_eq_true, false_iff]; omega)
theorem refBlank (c : Int) : emenderref28_blank.f c = some (bl c) := by
  unfold emenderref28_blank.f bl
  by_cases h : c = 32
  · rw [if_pos h, decide_eq_true h]; rfl
  · rw [if_neg h, decide_eq_false h, Bool.false_or]; rfl
def emenderref28_run.f (p : List Int) (i n pl : Int) : S38 :=
  common_run.mk pl n (rd p i) (bl (emenderref28_run.at p (i - 1))) (sg (emenderref28_run.at p (i - 1))) (bl (emenderref28_run.at p (i + n))) (sg (emenderref28_run.at p (i + n)))
def encRef (r : S38) : Array Value := #[.int .i64 r.f0, .int .i64 r.f1, .int .u8 r.f2, .bool r.f3, .bool r.f4]
set_option maxRecDepth 100000 in
set_option maxHeartbeats 16000000 in
theorem emenderref28_run.calls (A0 : Option Addr) (c0 : Nat) (p : List Int) (i n pl : Int) (w : World) (hr0 : Kd.C (Kd.int .i64) w A0 p.length p) (hc0 : p.length ≤ c0) (hp : p.length ≤ 4000) (h0 : 0 ≤ i) (h1 : i < (p.length : Int)) (hn : 0 ≤ n ∧ n ≤ 4000) (hc : rd p i = 42 ∨ rd p i = 95) :
    Calls Tryd.prog 44 #[.slice A0 p.length c0, .int .i64 i, .int .i64 n, .int .i64 pl] w fun e w' => e = .returned (.agg (encRef (emenderref28_run.f p i n pl))) ∧ Below w.heap.size w w' := by
  have hu39 := Tryd.underlying39
  have HR := Aside0.mk hr0
  have HC := Aside0.mk hc0
  have HB := Aside0.mk (Below.refl w.heap.size w)
  have hw1 : wrap64 (i - 1) = i - 1 := by unfold wrap64; omega
  have hw2 : wrap64 (i + n) = i + n := by unfold wrap64; omega
  unfold emenderref28_run.f
  have CA : Aside0 (∀ W, Kd.C (Kd.int .i64) W A0 p.length p → Calls Tryd.prog 53 #[.slice A0 p.length c0, .int .i64 (i - 1)] W fun e w' => e = .returned (.int .i64 (emenderref28_run.at p (i - 1))) ∧ Below W.heap.size W w') := ⟨fun W hW => (emenderref28_around.calls A0 c0 p (i - 1) _ W hW hc0 (emenderref28_run.around p _)).mono fun _ _ h => ⟨h.1, h.2.below⟩⟩
  have CD : Aside0 (∀ W, Kd.C (Kd.int .i64) W A0 p.length p → Calls Tryd.prog 53 #[.slice A0 p.length c0, .int .i64 (i + n)] W fun e w' => e = .returned (.int .i64 (emenderref28_run.at p (i + n))) ∧ Below W.heap.size W w') := ⟨fun W hW => (emenderref28_around.calls A0 c0 p (i + n) _ W hW hc0 (emenderref28_run.around p _)).mono fun _ _ h => ⟨h.1, h.2.below⟩⟩
  generalize emenderref28_run.at p (i - 1) = a at *
  generalize emenderref28_run.at p (i + n) = d at *
  have BA : Aside0 (∀ W : World, Calls Tryd.prog 54 #[.int .i64 a] W fun e w' => e = .returned (.bool (bl a)) ∧ Below W.heap.size W w') := ⟨fun W => (emenderref28_blank.calls a _ W (refBlank a)).mono fun _ _ h => ⟨h.1, h.2.below⟩⟩
  have BD : Aside0 (∀ W : World, Calls Tryd.prog 54 #[.int .i64 d] W fun e w' => e = .returned (.bool (bl d)) ∧ Below W.heap.size W w') := ⟨fun W => (emenderref28_blank.calls d _ W (refBlank d)).mono fun _ _ h => ⟨h.1, h.2.below⟩⟩
  have SA : Aside0 (∀ W : World, Calls Tryd.prog 40 #[.int .i64 a] W fun e w' => e = .returned (.bool (sg a)) ∧ Below W.heap.size W w') := ⟨fun W => (emenderref28_sign.calls a _ W (refSign a)).mono fun _ _ h => ⟨h.1, h.2.below⟩⟩
  have SD : Aside0 (∀ W : World, Calls Tryd.prog 40 #[.int .i64 d] W fun e w' => e = .returned (.bool (sg d)) ∧ Below W.heap.size W w') := ⟨fun W => (emenderref28_sign.calls d _ W (refSign d)).mono fun _ _ h => ⟨h.1, h.2.below⟩⟩
  generalize bl a = ba at *
  generalize bl d = bd at *
  generalize sg a = sa at *
  generalize sg d = sd at *
  obtain ⟨r, hr⟩ : ∃ r, r = common_run.mk pl n (rd p i) ba sa bd sd := ⟨_, rfl⟩
  rw [← hr]
  have RF := Aside0.mk hr
  clear hr
  obtain ⟨ad, eA, x0⟩ := Kd.at_int hr0 i h0 h1
  subst eA
  have X0 := Aside0.mk x0
  have i0t := eq_true h0
  have i1t := eq_true h1
  have HC95 := Aside0.mk hc
  clear hr0 hc0 hp hn x0 h0 h1 hc
  go_enter Tryd.func44, Tryd.ntmps44
  go_wp2_with (first | ((with_reducible refine gate_dst (N := 8) rfl ?_); refine box_event ?hg (N := 8) ?hd (cs := #[.int .i64 0, .int .i64 0, .int .u8 0, .bool false, .bool false]) (t := 39) ?hr ?_; (case hd => rfl); (case hg => rfl); (case hr => first | (go_simp; done) | (go_simp; rfl)); intro gb hg w8 hbox hb; have n0_ := Aside0.mk (below_step HB.out hb); have BK := Aside0.mk hbox; have GE : Aside0 (w.heap.size ≤ gb) := ⟨by rw [hg]; exact HB.out.size⟩; clear hb hbox hg HB; have HB := n0_; clear n0_))
  refine (CA.out _ (Kd.C_below HR.out HB.out)).mono ?_
  rintro e w0 ⟨rfl, hb⟩
  have n_ := Aside0.mk (below_step HB.out hb)
  have m_ := Aside0.mk (blk_below BK.out hb)
  clear HB hb BK
  have HB := n_
  have BK := m_
  clear n_ m_
  go_wp2_with fail
  refine (CD.out _ (Kd.C_below HR.out HB.out)).mono ?_
  rintro e w1 ⟨rfl, hb⟩
  have n_ := Aside0.mk (below_step HB.out hb)
  have m_ := Aside0.mk (blk_below BK.out hb)
  clear HB hb BK
  have HB := n_
  have BK := m_
  clear n_ m_
  go_upto_region 3 with (fail)
  (try simp only [Act.put, List.setIfInBounds_toArray, List.set_cons_zero, List.set_cons_succ])
  go_cut [11] (fun v11 wc => v11 = .bool (common_run.lf ba sa bd sd) ∧ Aside0 (wc.heap[gb]? = some (.cells #[.int .i64 0, .int .i64 0, .int .u8 0, .bool false, .bool false] 39 (0, 0))) ∧ Aside0 (Below w.heap.size w wc))
  case first =>
    cases bd with
    | true =>
      go_wp2_with fail
      refine (BD.out _).mono ?_
      rintro e w3 ⟨rfl, hb⟩
      have n_ := Aside0.mk (below_step HB.out hb)
      have m_ := Aside0.mk (blk_below BK.out hb)
      clear HB hb BK
      have HB := n_
      have BK := m_
      clear n_ m_
      go_wp2_with fail
      go_meet
      case rel => exact ⟨rfl, BK, HB⟩
    | false =>
      go_wp2_with fail
      refine (BD.out _).mono ?_
      rintro e w3 ⟨rfl, hb⟩
      have n_ := Aside0.mk (below_step HB.out hb)
      have m_ := Aside0.mk (blk_below BK.out hb)
      clear HB hb BK
      have HB := n_
      have BK := m_
      clear n_ m_
      cases sd with
      | false =>
        go_wp2_with fail
        refine (SD.out _).mono ?_
        rintro e w3 ⟨rfl, hb⟩
        have n_ := Aside0.mk (below_step HB.out hb)
        have m_ := Aside0.mk (blk_below BK.out hb)
        clear HB hb BK
        have HB := n_
        have BK := m_
        clear n_ m_
        go_wp2_with fail
        go_meet
        case rel => exact ⟨rfl, BK, HB⟩
      | true =>
        go_wp2_with fail
        refine (SD.out _).mono ?_
        rintro e w3 ⟨rfl, hb⟩
        have n_ := Aside0.mk (below_step HB.out hb)
        have m_ := Aside0.mk (blk_below BK.out hb)
        clear HB hb BK
        have HB := n_
        have BK := m_
        clear n_ m_
        cases ba with
        | true =>
          go_wp2_with fail
          refine (BA.out _).mono ?_
          rintro e w3 ⟨rfl, hb⟩
          have n_ := Aside0.mk (below_step HB.out hb)
          have m_ := Aside0.mk (blk_below BK.out hb)
          clear HB hb BK
          have HB := n_
          have BK := m_
          clear n_ m_
          go_wp2_with fail
          go_meet
          case rel => exact ⟨rfl, BK, HB⟩
        | false =>
          go_wp2_with fail
          refine (BA.out _).mono ?_
          rintro e w3 ⟨rfl, hb⟩
          have n_ := Aside0.mk (below_step HB.out hb)
          have m_ := Aside0.mk (blk_below BK.out hb)
          clear HB hb BK
          have HB := n_
          have BK := m_
          clear n_ m_
          go_wp2_with fail
          refine (SA.out _).mono ?_
          rintro e w3 ⟨rfl, hb⟩
          have n_ := Aside0.mk (below_step HB.out hb)
          have m_ := Aside0.mk (blk_below BK.out hb)
          clear HB hb BK
          have HB := n_
          have BK := m_
          clear n_ m_
          cases sa with
          | true =>
            go_wp2_with fail
            go_meet
            case rel => exact ⟨rfl, BK, HB⟩
          | false =>
            go_wp2_with fail
            go_meet
            case rel => exact ⟨rfl, BK, HB⟩
  case rest =>
    clear BK HB
    obtain ⟨rfl, BK, HB⟩ := hcut
    go_upto_region 4 with (fail)
    go_cut [12] (fun v12 wc => v12 = .bool (common_run.lf bd sd ba sa) ∧ Aside0 (wc.heap[gb]? = some (.cells #[.int .i64 0, .int .i64 0, .int .u8 0, .bool false, .bool false] 39 (0, 0))) ∧ Aside0 (Below w.heap.size w wc))
    case first =>
      cases ba with
      | true =>
        go_wp2_with fail
        refine (BA.out _).mono ?_
        rintro e w3 ⟨rfl, hb⟩
        have n_ := Aside0.mk (below_step HB.out hb)
        have m_ := Aside0.mk (blk_below BK.out hb)
        clear HB hb BK
        have HB := n_
        have BK := m_
        clear n_ m_
        go_wp2_with fail
        go_meet
        case rel => exact ⟨rfl, BK, HB⟩
      | false =>
        go_wp2_with fail
        refine (BA.out _).mono ?_
        rintro e w3 ⟨rfl, hb⟩
        have n_ := Aside0.mk (below_step HB.out hb)
        have m_ := Aside0.mk (blk_below BK.out hb)
        clear HB hb BK
        have HB := n_
        have BK := m_
        clear n_ m_
        cases sa with
        | false =>
          go_wp2_with fail
          refine (SA.out _).mono ?_
          rintro e w3 ⟨rfl, hb⟩
          have n_ := Aside0.mk (below_step HB.out hb)
          have m_ := Aside0.mk (blk_below BK.out hb)
          clear HB hb BK
          have HB := n_
          have BK := m_
          clear n_ m_
          go_wp2_with fail
          go_meet
          case rel => exact ⟨rfl, BK, HB⟩
        | true =>
          go_wp2_with fail
          refine (SA.out _).mono ?_
          rintro e w3 ⟨rfl, hb⟩
          have n_ := Aside0.mk (below_step HB.out hb)
          have m_ := Aside0.mk (blk_below BK.out hb)
          clear HB hb BK
          have HB := n_
          have BK := m_
          clear n_ m_
          cases bd with
          | true =>
            go_wp2_with fail
            refine (BD.out _).mono ?_
            rintro e w3 ⟨rfl, hb⟩
            have n_ := Aside0.mk (below_step HB.out hb)
            have m_ := Aside0.mk (blk_below BK.out hb)
            clear HB hb BK
            have HB := n_
            have BK := m_
            clear n_ m_
            go_wp2_with fail
            go_meet
            case rel => exact ⟨rfl, BK, HB⟩
          | false =>
            go_wp2_with fail
            refine (BD.out _).mono ?_
            rintro e w3 ⟨rfl, hb⟩
            have n_ := Aside0.mk (below_step HB.out hb)
            have m_ := Aside0.mk (blk_below BK.out hb)
            clear HB hb BK
            have HB := n_
            have BK := m_
            clear n_ m_
            go_wp2_with fail
            refine (SD.out _).mono ?_
            rintro e w3 ⟨rfl, hb⟩
            have n_ := Aside0.mk (below_step HB.out hb)
            have m_ := Aside0.mk (blk_below BK.out hb)
            clear HB hb BK
            have HB := n_
            have BK := m_
            clear n_ m_
            cases sd with
            | true =>
              go_wp2_with fail
              go_meet
              case rel => exact ⟨rfl, BK, HB⟩
            | false =>
              go_wp2_with fail
              go_meet
              case rel => exact ⟨rfl, BK, HB⟩
    case rest =>
      clear BK HB
      obtain ⟨rfl, BK, HB⟩ := hcut
      have RF2 := Aside0.mk (show r = if rd p i = 95 then ⟨pl, n, rd p i, common_run.lf ba sa bd sd && (!(common_run.lf bd sd ba sa) || sa), common_run.lf bd sd ba sa && (!(common_run.lf ba sa bd sd) || sd)⟩ else ⟨pl, n, rd p i, common_run.lf ba sa bd sd, common_run.lf bd sd ba sa⟩ from RF.out)
      clear RF
      generalize common_run.lf ba sa bd sd = lf at *
      generalize common_run.lf bd sd ba sa = rg at *
      have x0 := (HB.out.cell (World.block_lt_of_cell? w _ X0.out)).trans X0.out
      rcases HC95.out with h42 | h95
      · have RF := Aside0.mk (show r = ⟨pl, n, 42, lf, rg⟩ from RF2.out.trans (by rw [h42]; exact if_neg (by decide)))
        clear RF2
        rw [h42] at x0
        clear h42
        have x1 := ((below_alloc (Below.refl _ wc) (.cells #[.int .i64 pl, .int .i64 n, .int .u8 42, .bool lf, .bool rg] 39)).cell (World.block_lt_of_cell? wc _ x0)).trans x0
        go_upto_region 6 with (fail)
        have BX := Aside0.mk (blk_new wc (.cells #[.int .i64 pl, .int .i64 n, .int .u8 42, .bool lf, .bool rg] 39))
        have BK2 := Aside0.mk (blk_alloc BK.out (.cells #[.int .i64 pl, .int .i64 n, .int .u8 42, .bool lf, .bool rg] 39))
        have HB2 := Aside0.mk (below_alloc HB.out (.cells #[.int .i64 pl, .int .i64 n, .int .u8 42, .bool lf, .bool rg] 39))
        have NE : Aside0 (gb ≠ wc.heap.size) := ⟨Nat.ne_of_lt (blk_lt BK.out)⟩
        have GX : Aside0 (w.heap.size ≤ wc.heap.size) := ⟨HB.out.size⟩
        clear HB BK x0
        generalize wc.alloc (.cells #[.int .i64 pl, .int .i64 n, .int .u8 42, .bool lf, .bool rg] 39) = w5 at *
        generalize wc.heap.size = gx at *
        go_upto_region 9 with (fail)
        clear x1
        have y0 := (blk_cell BX.out 0).trans (show _ = some (.int .i64 pl) from rfl)
        have y1 := (blk_cell BX.out 1).trans (show _ = some (.int .i64 n) from rfl)
        have y2 := (blk_cell BX.out 2).trans (show _ = some (.int .u8 42) from rfl)
        have y3 := (blk_cell BX.out 3).trans (show _ = some (.bool lf) from rfl)
        have y4 := (blk_cell BX.out 4).trans (show _ = some (.bool rg) from rfl)
        have b0 : (w5).heap[gb]? = some (.cells #[.int .i64 0, .int .i64 0, .int .u8 0, .bool false, .bool false] 39 (0, 0)) := BK2.out
        have f0 := blk_frozen b0 0
        have g0 := (blk_cell b0 0).trans (show _ = some (.int .i64 0) from rfl)
        have b1 : ((w5).setCell ⟨gb, 0, none⟩ (.int .i64 pl)).heap[gb]? = some (.cells #[.int .i64 pl, .int .i64 0, .int .u8 0, .bool false, .bool false] 39 (0, 0)) := blk_put b0 0 _ rfl
        have f1 := blk_frozen b1 1
        have g1 := (blk_cell b1 1).trans (show _ = some (.int .i64 0) from rfl)
        have b2 : (((w5).setCell ⟨gb, 0, none⟩ (.int .i64 pl)).setCell ⟨gb, 1, none⟩ (.int .i64 n)).heap[gb]? = some (.cells #[.int .i64 pl, .int .i64 n, .int .u8 0, .bool false, .bool false] 39 (0, 0)) := blk_put b1 1 _ rfl
        have f2 := blk_frozen b2 2
        have g2 := (blk_cell b2 2).trans (show _ = some (.int .u8 0) from rfl)
        have b3 : ((((w5).setCell ⟨gb, 0, none⟩ (.int .i64 pl)).setCell ⟨gb, 1, none⟩ (.int .i64 n)).setCell ⟨gb, 2, none⟩ (.int .u8 42)).heap[gb]? = some (.cells #[.int .i64 pl, .int .i64 n, .int .u8 42, .bool false, .bool false] 39 (0, 0)) := blk_put b2 2 _ rfl
        have f3 := blk_frozen b3 3
        have g3 := (blk_cell b3 3).trans (show _ = some (.bool false) from rfl)
        have b4 : (((((w5).setCell ⟨gb, 0, none⟩ (.int .i64 pl)).setCell ⟨gb, 1, none⟩ (.int .i64 n)).setCell ⟨gb, 2, none⟩ (.int .u8 42)).setCell ⟨gb, 3, none⟩ (.bool lf)).heap[gb]? = some (.cells #[.int .i64 pl, .int .i64 n, .int .u8 42, .bool lf, .bool false] 39 (0, 0)) := blk_put b3 3 _ rfl
        have f4 := blk_frozen b4 4
        have g4 := (blk_cell b4 4).trans (show _ = some (.bool false) from rfl)
        have b5 : ((((((w5).setCell ⟨gb, 0, none⟩ (.int .i64 pl)).setCell ⟨gb, 1, none⟩ (.int .i64 n)).setCell ⟨gb, 2, none⟩ (.int .u8 42)).setCell ⟨gb, 3, none⟩ (.bool lf)).setCell ⟨gb, 4, none⟩ (.bool rg)).heap[gb]? = some (.cells #[.int .i64 pl, .int .i64 n, .int .u8 42, .bool lf, .bool rg] 39 (0, 0)) := blk_put b4 4 _ rfl
        have B5 := Aside0.mk b5
        clear b0 b1 b2 b3 b4 b5
        go_wp2
        refine bodyPost_ret (results_cell_row rfl _ _ gb 39 #[.int .i64 pl, .int .i64 n, .int .u8 42, .bool lf, .bool rg] (0, 0) _ rfl B5.out Tryd.underlying39 rfl (by kernel_rfl)) rfl ?_
        exact ⟨by rw [RF.out]; rfl, by repeat (first | exact HB2.out | refine below_set ?_ GE.out)⟩
      · have RF := Aside0.mk (show r = ⟨pl, n, 95, lf && (!rg || sa), rg && (!lf || sd)⟩ from RF2.out.trans (by rw [h95]; exact if_pos rfl))
        clear RF2
        rw [h95] at x0
        clear h95
        cases lf with
        | false =>
          cases rg with
          | false =>
            have x1 := ((below_alloc (Below.refl _ wc) (.cells #[.int .i64 pl, .int .i64 n, .int .u8 95, .bool false, .bool false] 39)).cell (World.block_lt_of_cell? wc _ x0)).trans x0
            go_upto_region 6 with (fail)
            have BX := Aside0.mk (blk_new wc (.cells #[.int .i64 pl, .int .i64 n, .int .u8 95, .bool false, .bool false] 39))
            have BK2 := Aside0.mk (blk_alloc BK.out (.cells #[.int .i64 pl, .int .i64 n, .int .u8 95, .bool false, .bool false] 39))
            have HB2 := Aside0.mk (below_alloc HB.out (.cells #[.int .i64 pl, .int .i64 n, .int .u8 95, .bool false, .bool false] 39))
            have NE : Aside0 (gb ≠ wc.heap.size) := ⟨Nat.ne_of_lt (blk_lt BK.out)⟩
            have GX : Aside0 (w.heap.size ≤ wc.heap.size) := ⟨HB.out.size⟩
            clear HB BK x0
            generalize wc.alloc (.cells #[.int .i64 pl, .int .i64 n, .int .u8 95, .bool false, .bool false] 39) = w5 at *
            generalize wc.heap.size = gx at *
            go_upto_region 7 with (fail)
            clear x1
            have fz := blk_frozen BX.out 3
            have fy := (blk_cell BX.out 3).trans (show _ = some (.bool false) from rfl)
            go_upto_region 8 with (fail)
            have BX3 := Aside0.mk (blk_put BX.out 3 (.bool false) rfl)
            have BK3 := Aside0.mk (blk_far BK2.out (p := ⟨gx, 3, none⟩) NE.out (.bool false))
            have HB3 := Aside0.mk (below_set (j := 3) (v := .bool false) HB2.out GX.out)
            clear BX BK2 HB2 fz fy
            have BX := BX3
            have BK2 := BK3
            have HB2 := HB3
            clear BX3 BK3 HB3
            generalize w5.setCell ⟨gx, 3, none⟩ (.bool false) = w7 at *
            have fz := blk_frozen BX.out 4
            have fy := (blk_cell BX.out 4).trans (show _ = some (.bool false) from rfl)
            go_upto_region 9 with (fail)
            have BX3 := Aside0.mk (blk_put BX.out 4 (.bool false) rfl)
            have BK3 := Aside0.mk (blk_far BK2.out (p := ⟨gx, 4, none⟩) NE.out (.bool false))
            have HB3 := Aside0.mk (below_set (j := 4) (v := .bool false) HB2.out GX.out)
            clear BX BK2 HB2 fz fy
            have BX := BX3
            have BK2 := BK3
            have HB2 := HB3
            clear BX3 BK3 HB3
            generalize w7.setCell ⟨gx, 4, none⟩ (.bool false) = w9 at *
            have y0 := (blk_cell BX.out 0).trans (show _ = some (.int .i64 pl) from rfl)
            have y1 := (blk_cell BX.out 1).trans (show _ = some (.int .i64 n) from rfl)
            have y2 := (blk_cell BX.out 2).trans (show _ = some (.int .u8 95) from rfl)
            have y3 := (blk_cell BX.out 3).trans (show _ = some (.bool false) from rfl)
            have y4 := (blk_cell BX.out 4).trans (show _ = some (.bool false) from rfl)
            have b0 : (w9).heap[gb]? = some (.cells #[.int .i64 0, .int .i64 0, .int .u8 0, .bool false, .bool false] 39 (0, 0)) := BK2.out
            have f0 := blk_frozen b0 0
            have g0 := (blk_cell b0 0).trans (show _ = some (.int .i64 0) from rfl)
            have b1 : ((w9).setCell ⟨gb, 0, none⟩ (.int .i64 pl)).heap[gb]? = some (.cells #[.int .i64 pl, .int .i64 0, .int .u8 0, .bool false, .bool false] 39 (0, 0)) := blk_put b0 0 _ rfl
            have f1 := blk_frozen b1 1
            have g1 := (blk_cell b1 1).trans (show _ = some (.int .i64 0) from rfl)
            have b2 : (((w9).setCell ⟨gb, 0, none⟩ (.int .i64 pl)).setCell ⟨gb, 1, none⟩ (.int .i64 n)).heap[gb]? = some (.cells #[.int .i64 pl, .int .i64 n, .int .u8 0, .bool false, .bool false] 39 (0, 0)) := blk_put b1 1 _ rfl
            have f2 := blk_frozen b2 2
            have g2 := (blk_cell b2 2).trans (show _ = some (.int .u8 0) from rfl)
            have b3 : ((((w9).setCell ⟨gb, 0, none⟩ (.int .i64 pl)).setCell ⟨gb, 1, none⟩ (.int .i64 n)).setCell ⟨gb, 2, none⟩ (.int .u8 95)).heap[gb]? = some (.cells #[.int .i64 pl, .int .i64 n, .int .u8 95, .bool false, .bool false] 39 (0, 0)) := blk_put b2 2 _ rfl
            have f3 := blk_frozen b3 3
            have g3 := (blk_cell b3 3).trans (show _ = some (.bool false) from rfl)
            have b4 : (((((w9).setCell ⟨gb, 0, none⟩ (.int .i64 pl)).setCell ⟨gb, 1, none⟩ (.int .i64 n)).setCell ⟨gb, 2, none⟩ (.int .u8 95)).setCell ⟨gb, 3, none⟩ (.bool false)).heap[gb]? = some (.cells #[.int .i64 pl, .int .i64 n, .int .u8 95, .bool false, .bool false] 39 (0, 0)) := blk_put b3 3 _ rfl
            have f4 := blk_frozen b4 4
            have g4 := (blk_cell b4 4).trans (show _ = some (.bool false) from rfl)
            have b5 : ((((((w9).setCell ⟨gb, 0, none⟩ (.int .i64 pl)).setCell ⟨gb, 1, none⟩ (.int .i64 n)).setCell ⟨gb, 2, none⟩ (.int .u8 95)).setCell ⟨gb, 3, none⟩ (.bool false)).setCell ⟨gb, 4, none⟩ (.bool false)).heap[gb]? = some (.cells #[.int .i64 pl, .int .i64 n, .int .u8 95, .bool false, .bool false] 39 (0, 0)) := blk_put b4 4 _ rfl
            have B5 := Aside0.mk b5
            clear b0 b1 b2 b3 b4 b5
            go_wp2
            refine bodyPost_ret (results_cell_row rfl _ _ gb 39 #[.int .i64 pl, .int .i64 n, .int .u8 95, .bool false, .bool false] (0, 0) _ rfl B5.out Tryd.underlying39 rfl (by kernel_rfl)) rfl ?_
            exact ⟨by rw [RF.out]; rfl, by repeat (first | exact HB2.out | refine below_set ?_ GE.out)⟩
          | true =>
            have x1 := ((below_alloc (Below.refl _ wc) (.cells #[.int .i64 pl, .int .i64 n, .int .u8 95, .bool false, .bool true] 39)).cell (World.block_lt_of_cell? wc _ x0)).trans x0
            go_upto_region 6 with (fail)
            have BX := Aside0.mk (blk_new wc (.cells #[.int .i64 pl, .int .i64 n, .int .u8 95, .bool false, .bool true] 39))
            have BK2 := Aside0.mk (blk_alloc BK.out (.cells #[.int .i64 pl, .int .i64 n, .int .u8 95, .bool false, .bool true] 39))
            have HB2 := Aside0.mk (below_alloc HB.out (.cells #[.int .i64 pl, .int .i64 n, .int .u8 95, .bool false, .bool true] 39))
            have NE : Aside0 (gb ≠ wc.heap.size) := ⟨Nat.ne_of_lt (blk_lt BK.out)⟩
            have GX : Aside0 (w.heap.size ≤ wc.heap.size) := ⟨HB.out.size⟩
            clear HB BK x0
            generalize wc.alloc (.cells #[.int .i64 pl, .int .i64 n, .int .u8 95, .bool false, .bool true] 39) = w5 at *
            generalize wc.heap.size = gx at *
            go_upto_region 7 with (fail)
            clear x1
            have fz := blk_frozen BX.out 3
            have fy := (blk_cell BX.out 3).trans (show _ = some (.bool false) from rfl)
            go_upto_region 8 with (fail)
            have BX3 := Aside0.mk (blk_put BX.out 3 (.bool false) rfl)
            have BK3 := Aside0.mk (blk_far BK2.out (p := ⟨gx, 3, none⟩) NE.out (.bool false))
            have HB3 := Aside0.mk (below_set (j := 3) (v := .bool false) HB2.out GX.out)
            clear BX BK2 HB2 fz fy
            have BX := BX3
            have BK2 := BK3
            have HB2 := HB3
            clear BX3 BK3 HB3
            generalize w5.setCell ⟨gx, 3, none⟩ (.bool false) = w7 at *
            have fz := blk_frozen BX.out 4
            have fy := (blk_cell BX.out 4).trans (show _ = some (.bool true) from rfl)
            go_upto_region 9 with (fail)
            have BX3 := Aside0.mk (blk_put BX.out 4 (.bool true) rfl)
            have BK3 := Aside0.mk (blk_far BK2.out (p := ⟨gx, 4, none⟩) NE.out (.bool true))
            have HB3 := Aside0.mk (below_set (j := 4) (v := .bool true) HB2.out GX.out)
            clear BX BK2 HB2 fz fy
            have BX := BX3
            have BK2 := BK3
            have HB2 := HB3
            clear BX3 BK3 HB3
            generalize w7.setCell ⟨gx, 4, none⟩ (.bool true) = w9 at *
            have y0 := (blk_cell BX.out 0).trans (show _ = some (.int .i64 pl) from rfl)
            have y1 := (blk_cell BX.out 1).trans (show _ = some (.int .i64 n) from rfl)
            have y2 := (blk_cell BX.out 2).trans (show _ = some (.int .u8 95) from rfl)
            have y3 := (blk_cell BX.out 3).trans (show _ = some (.bool false) from rfl)
            have y4 := (blk_cell BX.out 4).trans (show _ = some (.bool true) from rfl)
            have b0 : (w9).heap[gb]? = some (.cells #[.int .i64 0, .int .i64 0, .int .u8 0, .bool false, .bool false] 39 (0, 0)) := BK2.out
            have f0 := blk_frozen b0 0
            have g0 := (blk_cell b0 0).trans (show _ = some (.int .i64 0) from rfl)
            have b1 : ((w9).setCell ⟨gb, 0, none⟩ (.int .i64 pl)).heap[gb]? = some (.cells #[.int .i64 pl, .int .i64 0, .int .u8 0, .bool false, .bool false] 39 (0, 0)) := blk_put b0 0 _ rfl
            have f1 := blk_frozen b1 1
            have g1 := (blk_cell b1 1).trans (show _ = some (.int .i64 0) from rfl)
            have b2 : (((w9).setCell ⟨gb, 0, none⟩ (.int .i64 pl)).setCell ⟨gb, 1, none⟩ (.int .i64 n)).heap[gb]? = some (.cells #[.int .i64 pl, .int .i64 n, .int .u8 0, .bool false, .bool false] 39 (0, 0)) := blk_put b1 1 _ rfl
            have f2 := blk_frozen b2 2
            have g2 := (blk_cell b2 2).trans (show _ = some (.int .u8 0) from rfl)
            have b3 : ((((w9).setCell ⟨gb, 0, none⟩ (.int .i64 pl)).setCell ⟨gb, 1, none⟩ (.int .i64 n)).setCell ⟨gb, 2, none⟩ (.int .u8 95)).heap[gb]? = some (.cells #[.int .i64 pl, .int .i64 n, .int .u8 95, .bool false, .bool false] 39 (0, 0)) := blk_put b2 2 _ rfl
            have f3 := blk_frozen b3 3
            have g3 := (blk_cell b3 3).trans (show _ = some (.bool false) from rfl)
            have b4 : (((((w9).setCell ⟨gb, 0, none⟩ (.int .i64 pl)).setCell ⟨gb, 1, none⟩ (.int .i64 n)).setCell ⟨gb, 2, none⟩ (.int .u8 95)).setCell ⟨gb, 3, none⟩ (.bool false)).heap[gb]? = some (.cells #[.int .i64 pl, .int .i64 n, .int .u8 95, .bool false, .bool false] 39 (0, 0)) := blk_put b3 3 _ rfl
            have f4 := blk_frozen b4 4
            have g4 := (blk_cell b4 4).trans (show _ = some (.bool false) from rfl)
            have b5 : ((((((w9).setCell ⟨gb, 0, none⟩ (.int .i64 pl)).setCell ⟨gb, 1, none⟩ (.int .i64 n)).setCell ⟨gb, 2, none⟩ (.int .u8 95)).setCell ⟨gb, 3, none⟩ (.bool false)).setCell ⟨gb, 4, none⟩ (.bool true)).heap[gb]? = some (.cells #[.int .i64 pl, .int .i64 n, .int .u8 95, .bool false, .bool true] 39 (0, 0)) := blk_put b4 4 _ rfl
            have B5 := Aside0.mk b5
            clear b0 b1 b2 b3 b4 b5
            go_wp2
            refine bodyPost_ret (results_cell_row rfl _ _ gb 39 #[.int .i64 pl, .int .i64 n, .int .u8 95, .bool false, .bool true] (0, 0) _ rfl B5.out Tryd.underlying39 rfl (by kernel_rfl)) rfl ?_
            exact ⟨by rw [RF.out]; rfl, by repeat (first | exact HB2.out | refine below_set ?_ GE.out)⟩
        | true =>
          cases rg with
          | false =>
            have x1 := ((below_alloc (Below.refl _ wc) (.cells #[.int .i64 pl, .int .i64 n, .int .u8 95, .bool true, .bool false] 39)).cell (World.block_lt_of_cell? wc _ x0)).trans x0
            go_upto_region 6 with (fail)
            have BX := Aside0.mk (blk_new wc (.cells #[.int .i64 pl, .int .i64 n, .int .u8 95, .bool true, .bool false] 39))
            have BK2 := Aside0.mk (blk_alloc BK.out (.cells #[.int .i64 pl, .int .i64 n, .int .u8 95, .bool true, .bool false] 39))
            have HB2 := Aside0.mk (below_alloc HB.out (.cells #[.int .i64 pl, .int .i64 n, .int .u8 95, .bool true, .bool false] 39))
            have NE : Aside0 (gb ≠ wc.heap.size) := ⟨Nat.ne_of_lt (blk_lt BK.out)⟩
            have GX : Aside0 (w.heap.size ≤ wc.heap.size) := ⟨HB.out.size⟩
            clear HB BK x0
            generalize wc.alloc (.cells #[.int .i64 pl, .int .i64 n, .int .u8 95, .bool true, .bool false] 39) = w5 at *
            generalize wc.heap.size = gx at *
            go_upto_region 7 with (fail)
            clear x1
            have fz := blk_frozen BX.out 3
            have fy := (blk_cell BX.out 3).trans (show _ = some (.bool true) from rfl)
            go_upto_region 8 with (fail)
            have BX3 := Aside0.mk (blk_put BX.out 3 (.bool true) rfl)
            have BK3 := Aside0.mk (blk_far BK2.out (p := ⟨gx, 3, none⟩) NE.out (.bool true))
            have HB3 := Aside0.mk (below_set (j := 3) (v := .bool true) HB2.out GX.out)
            clear BX BK2 HB2 fz fy
            have BX := BX3
            have BK2 := BK3
            have HB2 := HB3
            clear BX3 BK3 HB3
            generalize w5.setCell ⟨gx, 3, none⟩ (.bool true) = w7 at *
            have fz := blk_frozen BX.out 4
            have fy := (blk_cell BX.out 4).trans (show _ = some (.bool false) from rfl)
            go_upto_region 9 with (fail)
            have BX3 := Aside0.mk (blk_put BX.out 4 (.bool false) rfl)
            have BK3 := Aside0.mk (blk_far BK2.out (p := ⟨gx, 4, none⟩) NE.out (.bool false))
            have HB3 := Aside0.mk (below_set (j := 4) (v := .bool false) HB2.out GX.out)
            clear BX BK2 HB2 fz fy
            have BX := BX3
            have BK2 := BK3
            have HB2 := HB3
            clear BX3 BK3 HB3
            generalize w7.setCell ⟨gx, 4, none⟩ (.bool false) = w9 at *
            have y0 := (blk_cell BX.out 0).trans (show _ = some (.int .i64 pl) from rfl)
            have y1 := (blk_cell BX.out 1).trans (show _ = some (.int .i64 n) from rfl)
            have y2 := (blk_cell BX.out 2).trans (show _ = some (.int .u8 95) from rfl)
            have y3 := (blk_cell BX.out 3).trans (show _ = some (.bool true) from rfl)
            have y4 := (blk_cell BX.out 4).trans (show _ = some (.bool false) from rfl)
            have b0 : (w9).heap[gb]? = some (.cells #[.int .i64 0, .int .i64 0, .int .u8 0, .bool false, .bool false] 39 (0, 0)) := BK2.out
            have f0 := blk_frozen b0 0
            have g0 := (blk_cell b0 0).trans (show _ = some (.int .i64 0) from rfl)
            have b1 : ((w9).setCell ⟨gb, 0, none⟩ (.int .i64 pl)).heap[gb]? = some (.cells #[.int .i64 pl, .int .i64 0, .int .u8 0, .bool false, .bool false] 39 (0, 0)) := blk_put b0 0 _ rfl
            have f1 := blk_frozen b1 1
            have g1 := (blk_cell b1 1).trans (show _ = some (.int .i64 0) from rfl)
            have b2 : (((w9).setCell ⟨gb, 0, none⟩ (.int .i64 pl)).setCell ⟨gb, 1, none⟩ (.int .i64 n)).heap[gb]? = some (.cells #[.int .i64 pl, .int .i64 n, .int .u8 0, .bool false, .bool false] 39 (0, 0)) := blk_put b1 1 _ rfl
            have f2 := blk_frozen b2 2
            have g2 := (blk_cell b2 2).trans (show _ = some (.int .u8 0) from rfl)
            have b3 : ((((w9).setCell ⟨gb, 0, none⟩ (.int .i64 pl)).setCell ⟨gb, 1, none⟩ (.int .i64 n)).setCell ⟨gb, 2, none⟩ (.int .u8 95)).heap[gb]? = some (.cells #[.int .i64 pl, .int .i64 n, .int .u8 95, .bool false, .bool false] 39 (0, 0)) := blk_put b2 2 _ rfl
            have f3 := blk_frozen b3 3
            have g3 := (blk_cell b3 3).trans (show _ = some (.bool false) from rfl)
            have b4 : (((((w9).setCell ⟨gb, 0, none⟩ (.int .i64 pl)).setCell ⟨gb, 1, none⟩ (.int .i64 n)).setCell ⟨gb, 2, none⟩ (.int .u8 95)).setCell ⟨gb, 3, none⟩ (.bool true)).heap[gb]? = some (.cells #[.int .i64 pl, .int .i64 n, .int .u8 95, .bool true, .bool false] 39 (0, 0)) := blk_put b3 3 _ rfl
            have f4 := blk_frozen b4 4
            have g4 := (blk_cell b4 4).trans (show _ = some (.bool false) from rfl)
            have b5 : ((((((w9).setCell ⟨gb, 0, none⟩ (.int .i64 pl)).setCell ⟨gb, 1, none⟩ (.int .i64 n)).setCell ⟨gb, 2, none⟩ (.int .u8 95)).setCell ⟨gb, 3, none⟩ (.bool true)).setCell ⟨gb, 4, none⟩ (.bool false)).heap[gb]? = some (.cells #[.int .i64 pl, .int .i64 n, .int .u8 95, .bool true, .bool false] 39 (0, 0)) := blk_put b4 4 _ rfl
            have B5 := Aside0.mk b5
            clear b0 b1 b2 b3 b4 b5
            go_wp2
            refine bodyPost_ret (results_cell_row rfl _ _ gb 39 #[.int .i64 pl, .int .i64 n, .int .u8 95, .bool true, .bool false] (0, 0) _ rfl B5.out Tryd.underlying39 rfl (by kernel_rfl)) rfl ?_
            exact ⟨by rw [RF.out]; rfl, by repeat (first | exact HB2.out | refine below_set ?_ GE.out)⟩
          | true =>
            have x1 := ((below_alloc (Below.refl _ wc) (.cells #[.int .i64 pl, .int .i64 n, .int .u8 95, .bool true, .bool true] 39)).cell (World.block_lt_of_cell? wc _ x0)).trans x0
            go_upto_region 6 with (fail)
            have BX := Aside0.mk (blk_new wc (.cells #[.int .i64 pl, .int .i64 n, .int .u8 95, .bool true, .bool true] 39))
            have BK2 := Aside0.mk (blk_alloc BK.out (.cells #[.int .i64 pl, .int .i64 n, .int .u8 95, .bool true, .bool true] 39))
            have HB2 := Aside0.mk (below_alloc HB.out (.cells #[.int .i64 pl, .int .i64 n, .int .u8 95, .bool true, .bool true] 39))
            have NE : Aside0 (gb ≠ wc.heap.size) := ⟨Nat.ne_of_lt (blk_lt BK.out)⟩
            have GX : Aside0 (w.heap.size ≤ wc.heap.size) := ⟨HB.out.size⟩
            clear HB BK x0
            generalize wc.alloc (.cells #[.int .i64 pl, .int .i64 n, .int .u8 95, .bool true, .bool true] 39) = w5 at *
            generalize wc.heap.size = gx at *
            go_upto_region 7 with (fail)
            clear x1
            go_wp2_with fail
            refine (SA.out _).mono ?_
            rintro e w6 ⟨rfl, hb⟩
            have n1 := Aside0.mk (below_step HB2.out hb)
            have n2 := Aside0.mk (blk_below BK2.out hb)
            have n3 := Aside0.mk (blk_below BX.out hb)
            clear HB2 hb BK2 BX
            have HB2 := n1
            have BK2 := n2
            have BX := n3
            clear n1 n2 n3
            have fz := blk_frozen BX.out 3
            have fy := (blk_cell BX.out 3).trans (show _ = some (.bool true) from rfl)
            go_upto_region 8 with (fail)
            have BX3 := Aside0.mk (blk_put BX.out 3 (.bool sa) rfl)
            have BK3 := Aside0.mk (blk_far BK2.out (p := ⟨gx, 3, none⟩) NE.out (.bool sa))
            have HB3 := Aside0.mk (below_set (j := 3) (v := .bool sa) HB2.out GX.out)
            clear BX BK2 HB2 fz fy
            have BX := BX3
            have BK2 := BK3
            have HB2 := HB3
            clear BX3 BK3 HB3
            generalize w6.setCell ⟨gx, 3, none⟩ (.bool sa) = w7 at *
            go_wp2_with fail
            refine (SD.out _).mono ?_
            rintro e w8 ⟨rfl, hb⟩
            have n1 := Aside0.mk (below_step HB2.out hb)
            have n2 := Aside0.mk (blk_below BK2.out hb)
            have n3 := Aside0.mk (blk_below BX.out hb)
            clear HB2 hb BK2 BX
            have HB2 := n1
            have BK2 := n2
            have BX := n3
            clear n1 n2 n3
            have fz := blk_frozen BX.out 4
            have fy := (blk_cell BX.out 4).trans (show _ = some (.bool true) from rfl)
            go_upto_region 9 with (fail)
            have BX3 := Aside0.mk (blk_put BX.out 4 (.bool sd) rfl)
            have BK3 := Aside0.mk (blk_far BK2.out (p := ⟨gx, 4, none⟩) NE.out (.bool sd))
            have HB3 := Aside0.mk (below_set (j := 4) (v := .bool sd) HB2.out GX.out)
            clear BX BK2 HB2 fz fy
            have BX := BX3
            have BK2 := BK3
            have HB2 := HB3
            clear BX3 BK3 HB3
            generalize w8.setCell ⟨gx, 4, none⟩ (.bool sd) = w9 at *
            have y0 := (blk_cell BX.out 0).trans (show _ = some (.int .i64 pl) from rfl)
            have y1 := (blk_cell BX.out 1).trans (show _ = some (.int .i64 n) from rfl)
            have y2 := (blk_cell BX.out 2).trans (show _ = some (.int .u8 95) from rfl)
            have y3 := (blk_cell BX.out 3).trans (show _ = some (.bool sa) from rfl)
            have y4 := (blk_cell BX.out 4).trans (show _ = some (.bool sd) from rfl)
            have b0 : (w9).heap[gb]? = some (.cells #[.int .i64 0, .int .i64 0, .int .u8 0, .bool false, .bool false] 39 (0, 0)) := BK2.out
            have f0 := blk_frozen b0 0
            have g0 := (blk_cell b0 0).trans (show _ = some (.int .i64 0) from rfl)
            have b1 : ((w9).setCell ⟨gb, 0, none⟩ (.int .i64 pl)).heap[gb]? = some (.cells #[.int .i64 pl, .int .i64 0, .int .u8 0, .bool false, .bool false] 39 (0, 0)) := blk_put b0 0 _ rfl
            have f1 := blk_frozen b1 1
            have g1 := (blk_cell b1 1).trans (show _ = some (.int .i64 0) from rfl)
            have b2 : (((w9).setCell ⟨gb, 0, none⟩ (.int .i64 pl)).setCell ⟨gb, 1, none⟩ (.int .i64 n)).heap[gb]? = some (.cells #[.int .i64 pl, .int .i64 n, .int .u8 0, .bool false, .bool false] 39 (0, 0)) := blk_put b1 1 _ rfl
            have f2 := blk_frozen b2 2
            have g2 := (blk_cell b2 2).trans (show _ = some (.int .u8 0) from rfl)
            have b3 : ((((w9).setCell ⟨gb, 0, none⟩ (.int .i64 pl)).setCell ⟨gb, 1, none⟩ (.int .i64 n)).setCell ⟨gb, 2, none⟩ (.int .u8 95)).heap[gb]? = some (.cells #[.int .i64 pl, .int .i64 n, .int .u8 95, .bool false, .bool false] 39 (0, 0)) := blk_put b2 2 _ rfl
            have f3 := blk_frozen b3 3
            have g3 := (blk_cell b3 3).trans (show _ = some (.bool false) from rfl)
            have b4 : (((((w9).setCell ⟨gb, 0, none⟩ (.int .i64 pl)).setCell ⟨gb, 1, none⟩ (.int .i64 n)).setCell ⟨gb, 2, none⟩ (.int .u8 95)).setCell ⟨gb, 3, none⟩ (.bool sa)).heap[gb]? = some (.cells #[.int .i64 pl, .int .i64 n, .int .u8 95, .bool sa, .bool false] 39 (0, 0)) := blk_put b3 3 _ rfl
            have f4 := blk_frozen b4 4
            have g4 := (blk_cell b4 4).trans (show _ = some (.bool false) from rfl)
            have b5 : ((((((w9).setCell ⟨gb, 0, none⟩ (.int .i64 pl)).setCell ⟨gb, 1, none⟩ (.int .i64 n)).setCell ⟨gb, 2, none⟩ (.int .u8 95)).setCell ⟨gb, 3, none⟩ (.bool sa)).setCell ⟨gb, 4, none⟩ (.bool sd)).heap[gb]? = some (.cells #[.int .i64 pl, .int .i64 n, .int .u8 95, .bool sa, .bool sd] 39 (0, 0)) := blk_put b4 4 _ rfl
            have B5 := Aside0.mk b5
            clear b0 b1 b2 b3 b4 b5
            go_wp2
            refine bodyPost_ret (results_cell_row rfl _ _ gb 39 #[.int .i64 pl, .int .i64 n, .int .u8 95, .bool sa, .bool sd] (0, 0) _ rfl B5.out Tryd.underlying39 rfl (by kernel_rfl)) rfl ?_
            exact ⟨by rw [RF.out]; rfl, by repeat (first | exact HB2.out | refine below_set ?_ GE.out)⟩

end Go.Proofs.YtfnafjohfmlniaaDoor.PCr
