/- StepLengths: a document is as much longer behind a step as its map says, and a place in no range keeps its token; for all tokens, steps and places. -/
import Derived.Test.YtlngjgcodknpiaaGStepLengths
import Derived.Test.YtlngjgcodknpiaaStepBl
import Derived.Test.YtlngjgcodknpiaaPosBl
namespace Go.Proofs.Ytlngjgcodknpiaa.Pure
open Go.RowKit Go.Proofs.YtlngjgcodknpiaaW.PrintWords Go.Proofs.YtlngjgcodknpiaaW.PrintMore
set_option linter.unusedSimpArgs false
set_option linter.unusedVariables false
open Go.Proofs.Ytlngjgcodknpiaa Go.Proofs.Ytlngjgcodknpiaa.PSl Go.Proofs.Ytlngjgcodknpiaa.StepA Go.Proofs.Ytlngjgcodknpiaa.StepB

theorem stepLengths_one {f0 f1 f2 p : Int} (h0 : 0 ≤ f0) (h1 : f0 ≤ 65536) (h2 : 0 ≤ f1) (h3 : f1 ≤ 65536) (h4 : 0 ≤ f2) (h5 : f2 ≤ 65536) (hp : 0 ≤ p ∧ p ≤ 65536) (hn : ¬ (f0 ≤ p ∧ p < f0 + f1)) (k : Nat) (hk : 6 ≤ k) :
    ∃ g a b, pos_Map.f k [(⟨f0, f1, f2⟩ : S51)] p 1 = some (if p < f0 then p else p + (f2 - f1), g, a, b, 0) := by
  rw [PosB.map_f _ (by simp) p 1 k (by simpa using by omega)]
  unfold PosB.M
  have hok : pos_Right.okB [(⟨f0, f1, f2⟩ : S51)] = true := by
    unfold pos_Right.okB
    rw [PosA.okL_good (by dsimp only; omega)]
    rfl
  rw [if_pos hok, if_neg (by omega), if_neg (by omega)]
  show ∃ g a b, some (PosB.V _ p 1 (0 + 1) 0) = _
  unfold PosB.V
  have e0 : rd_T51 [(⟨f0, f1, f2⟩ : S51)] ((0 : Nat) : Int) = ⟨f0, f1, f2⟩ := rfl
  have s0 : pos_each.sh [(⟨f0, f1, f2⟩ : S51)] 0 = 0 := rfl
  have s1 : pos_each.sh [(⟨f0, f1, f2⟩ : S51)] 1 = f2 - f1 := by simp [pos_each.sh]
  rw [e0]
  dsimp only
  by_cases c1 : p < f0
  · rw [if_pos c1, if_pos c1, s0, Int.add_zero]
    exact ⟨_, _, _, rfl⟩
  · rw [if_neg c1, if_neg c1]
    by_cases c2 : p ≤ f0 + f1
    · rw [if_pos c2]
      obtain rfl : p = f0 + f1 := by omega
      unfold PosB.S
      rw [e0, s0]
      dsimp only
      have hl : (if f1 = 0 then decide ((1 : Int) < 0) else if f0 + f1 = f0 then true else if f0 + f1 = f0 + f1 then false else decide ((1 : Int) < 0)) = false := by
        by_cases c3 : f1 = 0
        · rw [if_pos c3]; rfl
        · rw [if_neg c3, if_neg (show ¬ f0 + f1 = f0 by omega), if_pos rfl]
      have : (if (if f1 = 0 then decide ((1 : Int) < 0) else if f0 + f1 = f0 then true else if f0 + f1 = f0 + f1 then false else decide ((1 : Int) < 0)) = true then f0 + 0 else f0 + 0 + f2) = f0 + f1 + (f2 - f1) := by
        rw [hl, if_neg (by decide)]; omega
      rw [this]
      exact ⟨_, _, _, rfl⟩
    · rw [if_neg c2]
      unfold PosB.V
      rw [s1]
      exact ⟨_, _, _, rfl⟩
theorem stepLengths_two {f0 f1 f2 g0 g1 g2 p : Int} (h0 : 0 ≤ f0) (h1 : f0 ≤ 65536) (h2 : 0 ≤ f1) (h3 : f1 ≤ 65536) (h4 : 0 ≤ f2) (h5 : f2 ≤ 65536) (q0 : f0 + f1 < g0) (q1 : g0 ≤ 65536) (q2 : 0 ≤ g1) (q3 : g1 ≤ 65536) (q4 : 0 ≤ g2) (q5 : g2 ≤ 65536) (hp : 0 ≤ p ∧ p ≤ 65536) (hn : ¬ (f0 ≤ p ∧ p < f0 + f1)) (hm : ¬ (g0 ≤ p ∧ p < g0 + g1)) (k : Nat) (hk : 6 ≤ k) :
    ∃ g a b, pos_Map.f k [(⟨f0, f1, f2⟩ : S51), ⟨g0, g1, g2⟩] p 1 = some (if p < f0 then p else if p < g0 then p + (f2 - f1) else p + (f2 - f1) + (g2 - g1), g, a, b, 0) := by
  rw [PosB.map_f _ (by simp) p 1 k (by simpa using by omega)]
  unfold PosB.M
  have hok : pos_Right.okB [(⟨f0, f1, f2⟩ : S51), ⟨g0, g1, g2⟩] = true := by
    unfold pos_Right.okB
    rw [PosA.okL_good (by dsimp only; omega), PosA.okL_good (by dsimp only; omega)]
    rfl
  rw [if_pos hok, if_neg (by omega), if_neg (by omega)]
  show ∃ g a b, some (PosB.V _ p 1 (1 + 1) 0) = _
  have e0 : rd_T51 [(⟨f0, f1, f2⟩ : S51), ⟨g0, g1, g2⟩] ((0 : Nat) : Int) = ⟨f0, f1, f2⟩ := rfl
  have e1 : rd_T51 [(⟨f0, f1, f2⟩ : S51), ⟨g0, g1, g2⟩] ((1 : Nat) : Int) = ⟨g0, g1, g2⟩ := rfl
  have s0 : pos_each.sh [(⟨f0, f1, f2⟩ : S51), ⟨g0, g1, g2⟩] 0 = 0 := rfl
  have s1 : pos_each.sh [(⟨f0, f1, f2⟩ : S51), ⟨g0, g1, g2⟩] 1 = f2 - f1 := by simp [pos_each.sh]
  have s2 : pos_each.sh [(⟨f0, f1, f2⟩ : S51), ⟨g0, g1, g2⟩] 2 = f2 - f1 + (g2 - g1) := by simp [pos_each.sh]
  rw [PosB.V, e0]
  dsimp only
  by_cases c1 : p < f0
  · rw [if_pos c1, if_pos c1, s0, Int.add_zero]
    exact ⟨_, _, _, rfl⟩
  · rw [if_neg c1, if_neg c1]
    by_cases c2 : p ≤ f0 + f1
    · rw [if_pos c2, if_pos (by omega)]
      obtain rfl : p = f0 + f1 := by omega
      unfold PosB.S
      rw [e0, s0]
      dsimp only
      have hl : (if f1 = 0 then decide ((1 : Int) < 0) else if f0 + f1 = f0 then true else if f0 + f1 = f0 + f1 then false else decide ((1 : Int) < 0)) = false := by
        by_cases c3 : f1 = 0
        · rw [if_pos c3]; rfl
        · rw [if_neg c3, if_neg (show ¬ f0 + f1 = f0 by omega), if_pos rfl]
      have : (if (if f1 = 0 then decide ((1 : Int) < 0) else if f0 + f1 = f0 then true else if f0 + f1 = f0 + f1 then false else decide ((1 : Int) < 0)) = true then f0 + 0 else f0 + 0 + f2) = f0 + f1 + (f2 - f1) := by
        rw [hl, if_neg (by decide)]; omega
      rw [this]
      exact ⟨_, _, _, rfl⟩
    · rw [if_neg c2]
      show ∃ g a b, some (PosB.V _ p 1 (0 + 1) 1) = _
      rw [PosB.V, e1, s1]
      dsimp only
      by_cases d1 : p < g0
      · rw [if_pos d1, if_pos d1]
        exact ⟨_, _, _, rfl⟩
      · rw [if_neg d1, if_neg d1]
        by_cases d2 : p ≤ g0 + g1
        · rw [if_pos d2]
          obtain rfl : p = g0 + g1 := by omega
          unfold PosB.S
          rw [e1, s1]
          dsimp only
          have hl : (if g1 = 0 then decide ((1 : Int) < 0) else if g0 + g1 = g0 then true else if g0 + g1 = g0 + g1 then false else decide ((1 : Int) < 0)) = false := by
            by_cases c3 : g1 = 0
            · rw [if_pos c3]; rfl
            · rw [if_neg c3, if_neg (show ¬ g0 + g1 = g0 by omega), if_pos rfl]
          have : (if (if g1 = 0 then decide ((1 : Int) < 0) else if g0 + g1 = g0 then true else if g0 + g1 = g0 + g1 then false else decide ((1 : Int) < 0)) = true then g0 + (f2 - f1) else g0 + (f2 - f1) + g2) = g0 + g1 + (f2 - f1) + (g2 - g1) := by
            rw [hl, if_neg (by decide)]; omega
          rw [this]
          exact ⟨_, _, _, rfl⟩
        · rw [if_neg d2]
          unfold PosB.V
          rw [s2, show p + (f2 - f1 + (g2 - g1)) = p + (f2 - f1) + (g2 - g1) by omega]
          exact ⟨_, _, _, rfl⟩
theorem stepLengths_none {p : Int} (hp : 0 ≤ p ∧ p ≤ 65536) (k : Nat) (hk : 6 ≤ k) : ∃ g a b, pos_Map.f k ([] : List S51) p 1 = some (p, g, a, b, 0) := by
  rw [PosB.map_f _ (by simp) p 1 k (by simpa using by omega)]
  unfold PosB.M
  have hok : pos_Right.okB ([] : List S51) = true := rfl
  rw [if_pos hok, if_neg (by omega), if_neg (by omega)]
  show ∃ g a b, some (PosB.V _ p 1 0 0) = _
  unfold PosB.V
  have s0 : pos_each.sh ([] : List S51) 0 = 0 := rfl
  rw [s0, Int.add_zero]
  exact ⟨_, _, _, rfl⟩
theorem stepLengths_tail (k : Nat) (hk : 2200 ≤ k) (x0 x7 : List S57) (m : List S51) (p tq : Int) (g : Bool) (a b K F T GF GT N : Int) (sl : List S57) (M : Int) (hp0 : 0 ≤ p) (hp1 : p < x0.length) (ht0 : 0 ≤ tq) (ht1 : tq < x7.length)
    (hmap : ∀ k, 6 ≤ k → ∃ g a b, pos_Map.f k m p 1 = some (tq, g, a, b, 0)) (e0 : (rd_T57 x0 p).f0 = (rd_T57 x7 tq).f0) (e1 : (rd_T57 x0 p).f1 = (rd_T57 x7 tq).f1) (e2 : (rd_T57 x0 p).f2 = (rd_T57 x7 tq).f2) (e3 : K = 2 ∨ K = 3 ∨ (rd_T57 x0 p).f3 = (rd_T57 x7 tq).f3) :
    emenderlaw09_StepLengths.l1 (k + 1 + 1 + 1 + 1) x0 x7 m p (m.length : Int) K F T GF GT N sl M = some true := by
  have aw : ((emenderlaw09_awake.f k).bind fun t => some t) = some true := by rw [awake k hk]; rfl
  obtain ⟨g, a, b, hm⟩ := hmap (k + 1 + 1 + 1) (by omega)
  rw [emenderlaw09_StepLengths.l1, if_neg (by omega), hm, Option.bind_some]
  dsimp only
  rw [if_pos rfl, if_neg (by omega), decide_eq_false (by omega)]
  rw [emenderlaw09_StepLengths.j4, if_neg (by decide), if_pos hp0, if_pos hp1, if_pos ht0, if_pos ht1, e0, e1, e2]
  by_cases k2 : K = 2
  · rw [if_pos k2, emenderlaw09_StepLengths.j5, if_pos rfl, emenderlaw09_StepLengths.j6, if_pos (by simp)]
    exact aw
  · rw [if_neg k2]
    by_cases k3 : K = 3
    · rw [show (K == 3) = true by simp [k3], emenderlaw09_StepLengths.j5, if_pos rfl, emenderlaw09_StepLengths.j6, if_pos (by simp)]
      exact aw
    · rw [show (K == 3) = false by simp [k3], emenderlaw09_StepLengths.j5, if_neg (by decide), emenderlaw09_StepLengths.j6, if_pos (by simp; omega)]
      exact aw
theorem stepLengths_step (k : Nat) (hk : 2200 ≤ k) (x0 x7 : List S57) (m : List S51) (p : Int) (i : Nat) (f0 f1 f2 : Int) (K F T GF GT N : Int) (sl : List S57) (M : Int) (hi : i < m.length) (hl : m.length ≤ 2) (hr : rd_T51 m (i : Int) = ⟨f0, f1, f2⟩) (hw : -4611686018427387904 ≤ f0 + f1 ∧ f0 + f1 ≤ 4611686018427387904) :
    emenderlaw09_StepLengths.l1 (k + 1 + 1) x0 x7 m p (i : Int) K F T GF GT N sl M = if f0 ≤ p ∧ p < f0 + f1 then some true else emenderlaw09_StepLengths.l1 k x0 x7 m p ((i + 1 : Nat) : Int) K F T GF GT N sl M := by
  have aw : ((emenderlaw09_awake.f k).bind fun t => some t) = some true := by rw [awake k hk]; rfl
  have w1 : wrap64 ((i : Int) + 1) = ((i + 1 : Nat) : Int) := w64 (by omega)
  rw [emenderlaw09_StepLengths.l1, if_pos (by omega), if_pos (by omega), hr]
  dsimp only
  rw [w64 (i := f0 + f1) (by omega)]
  by_cases c1 : p ≥ f0
  · rw [if_pos c1, emenderlaw09_StepLengths.j3, w1, aw]
    by_cases c2 : p < f0 + f1
    · rw [decide_eq_true c2, if_pos rfl, if_pos ⟨c1, c2⟩]
    · rw [decide_eq_false c2, if_neg (by decide), if_neg (fun h => c2 h.2)]
  · rw [if_neg c1, emenderlaw09_StepLengths.j3, if_neg (by decide), w1, if_neg (fun h => c1 h.1)]
theorem stepLengths_at (l x : List S57) (p tq : Int) (h0 : 0 ≤ p) (h1 : p < l.length) (h2 : 0 ≤ tq) (h : x[tq.toNat]? = l[p.toNat]?) : tq < x.length ∧ rd_T57 l p = rd_T57 x tq := by
  have hp : p.toNat < l.length := by omega
  rw [List.getElem?_eq_getElem hp] at h
  obtain ⟨ht, e⟩ := List.getElem?_eq_some_iff.1 h
  refine ⟨by omega, ?_⟩
  rw [rd_get l p hp, rd_get x tq ht, e]
set_option maxHeartbeats 4000000 in
theorem StepLengths : emenderlaw09_StepLengths.Pure := by
  intro l K F T GF GT N sl M at_ hl _ hK hF hT hGF hGT hN hsl _ hM hat
  have wat : 0 ≤ at_ ∧ at_ ≤ 65535 := by
    simp [Lit.wf, IntKind.min, IntKind.max, IntKind.signed, IntKind.bits] at hat
    omega
  refine ⟨l.length + 10000 + 1 + 1 + 1 + 1 + 1 + 1 + 1 + 1 + 1 + 1 + 1 + 1, ?_⟩
  have haw : ∀ k, 2200 ≤ k → ((emenderlaw09_awake.f k).bind fun t => some t) = some true := fun k hk => by rw [awake k hk]; rfl
  generalize hn : l.length + 10000 = n
  have hn2 : 10000 ≤ n := by omega
  unfold emenderlaw09_StepLengths.f
  rw [apply_f l K F T GF GT N sl M _ (by omega), Option.bind_some]
  unfold step_Map.f
  rw [check_f K F T GF GT N sl M _ (by omega), Option.bind_some]
  by_cases c0 : (A l K F T GF GT N sl M).2 = 0
  · obtain ⟨q1, q2, q3, q4, q5⟩ := A_ok c0
    have hc : chk K F T GF GT N sl M = 0 := by
      unfold chk
      rw [if_neg (by have := q2.len; omega), if_pos]
      rw [q2.kind, q2.all, decide_eq_true ⟨q2.f0, q2.ft, q2.t⟩]
      rfl
    have ql := fc_len q1
    have qx := fc_len q4
    have b1 := q2.f0
    have b2 := q2.ft
    have b3 := q2.t
    have b4 := q2.len
    rw [if_pos hc, q5]
    have hx : (D l K F T GF GT N sl M) = D l K F T GF GT N sl M := rfl
    have wa : wrap64 at_ = at_ := w64 (by omega)
    by_cases k0 : K = 0
    · rw [if_pos k0, Option.bind_some, if_pos c0]
      have hD : D l K F T GF GT N sl M = l.take F.toNat ++ (sl ++ l.drop T.toNat) := by unfold D; rw [if_pos k0]
      have hlen : ((D l K F T GF GT N sl M).length : Int) = (l.length : Int) + ((sl.length : Int) - (T - F)) := by
        rw [hD]; simp only [List.length_append, List.length_take, List.length_drop]; omega
      dsimp only
      rw [show ((0 : Int) != 0) = false from rfl, w64 (i := T - F) (by omega)]
      generalize D l K F T GF GT N sl M = x at *
      have e0 : rd_T51 [(⟨F, T - F, (sl.length : Int)⟩ : S51)] 0 = ⟨F, T - F, (sl.length : Int)⟩ := rfl
      rw [emenderlaw09_StepLengths.j0, if_neg (by decide), emenderlaw09_StepLengths.l0, if_pos (by simp), if_pos (by decide), e0]
      dsimp only
      rw [w64 (i := 0 + (sl.length : Int)) (by omega), w64 (i := 0 + (sl.length : Int) - (T - F)) (by omega), w64 (i := 0 + 1) (by omega), emenderlaw09_StepLengths.l0, if_neg (by simp), w64 (by omega), if_pos (by omega)]
      by_cases cl : (l.length : Int) = 0
      · rw [if_pos cl]; exact haw _ (by omega)
      rw [if_neg cl, wa]
      have p0 : 0 ≤ Int.tmod at_ (l.length : Int) := Int.tmod_nonneg _ wat.1
      have p1 : Int.tmod at_ (l.length : Int) < (l.length : Int) := Int.tmod_lt_of_pos _ (by omega)
      generalize Int.tmod at_ (l.length : Int) = p at *
      have st := stepLengths_step (n + 1 + 1 + 1 + 1 + 1 + 1 + 1) (by omega) l x [(⟨F, T - F, (sl.length : Int)⟩ : S51)] p 0 F (T - F) (sl.length : Int) K F T GF GT N sl M (by simp) (by simp) e0 (by omega)
      rw [Int.natCast_zero] at st
      rw [st]
      by_cases c1 : F ≤ p ∧ p < F + (T - F)
      · rw [if_pos c1]
      rw [if_neg c1]
      have hto : 0 ≤ (if p < F then p else p + ((sl.length : Int) - (T - F))) := by split <;> omega
      have hg : x[(if p < F then p else p + ((sl.length : Int) - (T - F))).toNat]? = l[p.toNat]? := by
        rw [hD]
        simp only [List.getElem?_append, List.getElem?_take, List.getElem?_drop, List.length_take, List.length_drop]
        by_cases cc : p < F
        · rw [if_pos cc, if_pos (by omega), if_pos (by omega)]
        · rw [if_neg cc, if_neg (by omega), if_neg (by omega)]
          congr 1; omega
      obtain ⟨g1, g2⟩ := stepLengths_at l x p _ p0 p1 hto hg
      exact stepLengths_tail (n + 1 + 1 + 1) (by omega) l x _ p _ true 0 0 K F T GF GT N sl M p0 p1 hto g1 (fun k hk => stepLengths_one b1 (by omega) (by omega) (by omega) (by omega) (by omega) (by omega) c1 k hk) (by rw [g2]) (by rw [g2]) (by rw [g2]) (by rw [g2]; exact .inr (.inr rfl))
    rw [if_neg k0]
    by_cases k1 : K = 1
    · obtain ⟨a1, a2, a3, a4, a5⟩ := q2.around k1
      rw [if_pos k1, Option.bind_some, if_pos c0]
      have hD : D l K F T GF GT N sl M = l.take F.toNat ++ (sl.take N.toNat ++ ((l.take GT.toNat).drop GF.toNat ++ (sl.drop N.toNat ++ l.drop T.toNat))) := by unfold D; rw [if_neg k0, if_pos k1]
      have hlen : ((D l K F T GF GT N sl M).length : Int) = (l.length : Int) + (N - (GF - F)) + ((sl.length : Int) - N - (T - GT)) := by
        rw [hD]; simp only [List.length_append, List.length_take, List.length_drop]; omega
      dsimp only
      rw [show ((0 : Int) != 0) = false from rfl, w64 (i := GF - F) (by omega), w64 (i := T - GT) (by omega), w64 (i := (sl.length : Int) - N) (by omega)]
      generalize D l K F T GF GT N sl M = x at *
      have e0 : rd_T51 [(⟨F, GF - F, N⟩ : S51), ⟨GT, T - GT, (sl.length : Int) - N⟩] 0 = ⟨F, GF - F, N⟩ := rfl
      have e1 : rd_T51 [(⟨F, GF - F, N⟩ : S51), ⟨GT, T - GT, (sl.length : Int) - N⟩] 1 = ⟨GT, T - GT, (sl.length : Int) - N⟩ := rfl
      rw [emenderlaw09_StepLengths.j0, if_neg (by decide), emenderlaw09_StepLengths.l0, if_pos (by simp), if_pos (by decide), e0]
      dsimp only
      rw [w64 (i := 0 + N) (by omega), w64 (i := 0 + N - (GF - F)) (by omega), w64 (i := 0 + 1) (by omega)]
      rw [show (0 + 1 : Int) = 1 from rfl, emenderlaw09_StepLengths.l0, if_pos (by simp), if_pos (by decide), e1]
      dsimp only
      rw [w64 (i := 0 + N - (GF - F) + ((sl.length : Int) - N)) (by omega), w64 (i := 0 + N - (GF - F) + ((sl.length : Int) - N) - (T - GT)) (by omega), w64 (i := 1 + 1) (by omega)]
      rw [emenderlaw09_StepLengths.l0, if_neg (by simp), w64 (by omega), if_pos (by omega)]
      by_cases cl : (l.length : Int) = 0
      · rw [if_pos cl]; exact haw _ (by omega)
      rw [if_neg cl, wa]
      have p0 : 0 ≤ Int.tmod at_ (l.length : Int) := Int.tmod_nonneg _ wat.1
      have p1 : Int.tmod at_ (l.length : Int) < (l.length : Int) := Int.tmod_lt_of_pos _ (by omega)
      generalize Int.tmod at_ (l.length : Int) = p at *
      have st := stepLengths_step (n + 1 + 1 + 1 + 1 + 1 + 1) (by omega) l x [(⟨F, GF - F, N⟩ : S51), ⟨GT, T - GT, (sl.length : Int) - N⟩] p 0 F (GF - F) N K F T GF GT N sl M (by simp) (by simp) e0 (by omega)
      rw [Int.natCast_zero] at st
      rw [st]
      by_cases c1 : F ≤ p ∧ p < F + (GF - F)
      · rw [if_pos c1]
      rw [if_neg c1]
      have st2 := stepLengths_step (n + 1 + 1 + 1 + 1) (by omega) l x [(⟨F, GF - F, N⟩ : S51), ⟨GT, T - GT, (sl.length : Int) - N⟩] p 1 GT (T - GT) ((sl.length : Int) - N) K F T GF GT N sl M (by simp) (by simp) e1 (by omega)
      rw [st2]
      by_cases c2 : GT ≤ p ∧ p < GT + (T - GT)
      · rw [if_pos c2]
      rw [if_neg c2]
      have hto : 0 ≤ (if p < F then p else if p < GT then p + (N - (GF - F)) else p + (N - (GF - F)) + ((sl.length : Int) - N - (T - GT))) := by split <;> (try split) <;> omega
      have hg : x[(if p < F then p else if p < GT then p + (N - (GF - F)) else p + (N - (GF - F)) + ((sl.length : Int) - N - (T - GT))).toNat]? = l[p.toNat]? := by
        rw [hD]
        simp only [List.getElem?_append, List.getElem?_take, List.getElem?_drop, List.length_take, List.length_drop]
        by_cases cc : p < F
        · rw [if_pos cc, if_pos (by omega), if_pos (by omega)]
        · rw [if_neg cc]
          by_cases cd : p < GT
          · rw [if_pos cd, if_neg (by omega), if_neg (by omega), if_pos (by omega), if_pos (by omega)]
            congr 1; omega
          · rw [if_neg cd, if_neg (by omega), if_neg (by omega), if_neg (by omega), if_neg (by omega)]
            congr 1; omega
      obtain ⟨g1, g2⟩ := stepLengths_at l x p _ p0 p1 hto hg
      exact stepLengths_tail (n) (by omega) l x [(⟨F, GF - F, N⟩ : S51), ⟨GT, T - GT, (sl.length : Int) - N⟩] p _ true 0 0 K F T GF GT N sl M p0 p1 hto g1 (fun k hk => stepLengths_two b1 (by omega) (by omega) (by omega) (by omega) (by omega) (by omega) (by omega) (by omega) (by omega) (by omega) (by omega) (by omega) c1 c2 k hk) (by rw [g2]) (by rw [g2]) (by rw [g2]) (by rw [g2]; exact .inr (.inr rfl))
    · have k23 : K = 2 ∨ K = 3 := by have := q2.kinds; omega
      rw [if_neg k1, Option.bind_some, if_pos c0]
      obtain ⟨g, hD⟩ : ∃ g, D l K F T GF GT N sl M = marks g l F.toNat T.toNat := by
        unfold D
        rw [if_neg k0, if_neg k1]
        split
        · exact ⟨_, rfl⟩
        · exact ⟨_, rfl⟩
      have hlen : (D l K F T GF GT N sl M).length = l.length := by rw [hD, marks_length]
      dsimp only
      rw [show ((0 : Int) != 0) = false from rfl]
      generalize D l K F T GF GT N sl M = x at *
      rw [emenderlaw09_StepLengths.j0, if_neg (by decide), emenderlaw09_StepLengths.l0, if_neg (by simp), w64 (by omega), if_pos (by omega)]
      by_cases cl : (l.length : Int) = 0
      · rw [if_pos cl]; exact haw _ (by omega)
      rw [if_neg cl, wa]
      have p0 : 0 ≤ Int.tmod at_ (l.length : Int) := Int.tmod_nonneg _ wat.1
      have p1 : Int.tmod at_ (l.length : Int) < (l.length : Int) := Int.tmod_lt_of_pos _ (by omega)
      generalize Int.tmod at_ (l.length : Int) = p at *
      have hpl : p.toNat < l.length := by omega
      have hpx : p.toNat < x.length := by omega
      have hgx : rd_T57 x p = if F.toNat ≤ p.toNat ∧ p.toNat < T.toNat ∧ l[p.toNat].f0 = 0 then setM l[p.toNat] (g l[p.toNat].f3) else l[p.toNat] := by
        rw [rd_get x p hpx]
        subst hD
        exact marks_get g l _ _ _ _
      have hgl : rd_T57 l p = l[p.toNat] := rd_get l p hpl
      exact stepLengths_tail (n + 1 + 1 + 1 + 1 + 1 + 1) (by omega) l x ([] : List S51) p p true 0 0 K F T GF GT N sl M p0 p1 p0 (by omega) (fun k hk => stepLengths_none (by omega) k hk)
        (by rw [hgx, hgl]; split <;> rfl) (by rw [hgx, hgl]; split <;> rfl) (by rw [hgx, hgl]; split <;> rfl) (by omega)
  · have J : ∀ m, emenderlaw09_StepLengths.j0 (n + 1 + 1 + 1 + 1 + 1 + 1 + 1 + 1 + 1 + 1 + 1 + 1) l at_ [] m true K F T GF GT N sl M = some true := by
      intro m
      rw [emenderlaw09_StepLengths.j0, if_pos rfl, if_pos (by simp)]
      exact haw _ (by omega)
    by_cases hc : chk K F T GF GT N sl M = 0
    · rw [if_pos hc]
      by_cases k0 : K = 0
      · rw [if_pos k0, Option.bind_some, if_neg c0, A_bad c0]; exact J _
      · rw [if_neg k0]
        by_cases k1 : K = 1
        · rw [if_pos k1, Option.bind_some, if_neg c0, A_bad c0]; exact J _
        · rw [if_neg k1, Option.bind_some, if_neg c0, A_bad c0]; exact J _
    · rw [if_neg hc, Option.bind_some, if_neg c0, A_bad c0]; exact J _

end Go.Proofs.Ytlngjgcodknpiaa.Pure
