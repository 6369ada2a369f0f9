/- InlineEscapes: a code point behind a backslash is itself. -/
import Derived.Test.YtebbngeamnpgjaaDoorGInlineEscapes
import Derived.Test.YtebbngeamnpgjaaDoorInlG
import Derived.Test.YtebbngeamnpgjaaDoorInlD
import Derived.Test.YtebbngeamnpgjaaDoorPIax0
import Derived.Test.YtebbngeamnpgjaaDoorPIax13
import Derived.Test.YtebbngeamnpgjaaDoorPIax15
import Derived.Test.YtebbngeamnpgjaaDoorPIax8
namespace Go.Proofs.YtebbngeamnpgjaaDoor.Pure
open Go.RowKit Go.Proofs.YtebbngeamnpgjaaDoorW.PrintWords Go.Proofs.YtebbngeamnpgjaaDoorW.PrintMore
open Go.Proofs.YtebbngeamnpgjaaDoor Go.Proofs.YtebbngeamnpgjaaDoor.PIa Go.Proofs.YtebbngeamnpgjaaDoor.FlatA Go.Proofs.YtebbngeamnpgjaaDoor.InlA Go.Proofs.YtebbngeamnpgjaaDoor.InlB Go.Proofs.YtebbngeamnpgjaaDoor.InlC Go.Proofs.YtebbngeamnpgjaaDoor.InlD Go.Proofs.YtebbngeamnpgjaaDoor.InlG
theorem esc_j0 (n : Int) (hw : wrap64 n = n) (t : List UInt8) (b : Bool) (ht : b = false → okc n ∧ n ≠ 10 ∧ t = Lib.encodeRune n) : emenderlaw14_InlineEscapes.j0 101 n ⟨t.toArray⟩ b = some true := by
  simp only [emenderlaw14_InlineEscapes.j0]
  rw [hw]
  cases b with
  | true => rw [if_pos rfl, awake14 _ (by omega)]; rfl
  | false =>
    obtain ⟨h1, h2, rfl⟩ := ht rfl
    have hl : (Lib.encodeRune n).length ≤ 4 := encode_le n
    have es : (⟨(Lib.encodeRune n).toArray⟩ : ByteArray).size = (Lib.encodeRune n).length := by simp [ByteArray.size]
    have e : (⟨#[92]⟩ : ByteArray) ++ ⟨(Lib.encodeRune n).toArray⟩ = ⟨(encs [92, n]).toArray⟩ := by
      have := str_append [92] (Lib.encodeRune n)
      refine this.trans ?_
      have e3 : encs [92, n] = [92] ++ Lib.encodeRune n := by
        show Lib.encodeRune 92 ++ (Lib.encodeRune n ++ []) = _
        rw [List.append_nil]
        rfl
      rw [e3]
    have el : (encs [92, n]).length = (Lib.encodeRune n).length + 1 := by
      show (Lib.encodeRune 92 ++ (Lib.encodeRune n ++ [])).length = _
      rw [List.append_nil, List.length_append, Nat.add_comm]
      rfl
    have m : ∀ c ∈ [92, n], okc c ∧ c ≠ 10 := by
      intro c hc
      rcases List.mem_cons.1 hc with rfl | hc
      · exact ⟨by unfold okc; omega, by decide⟩
      · rw [List.mem_singleton.1 hc]
        exact ⟨h1, h2⟩
    rw [if_neg (by decide), es, if_pos (by omega), e, our_parse, Option.bind_some, reads_enc _ m (by omega), el]
    dsimp only
    rw [if_pos rfl, if_pos (by rw [InlC.w64' (by omega)]; omega), run_esc _ _ _ _ h1.1, run_nil, alike _ _ (by simp) _ (by simp), Option.bind_some, sameL_refl, if_pos rfl, awake14 _ (by omega)]
    rfl
theorem InlineEscapes : emenderlaw14_InlineEscapes.PureG := by
  intro n hn
  have hb : 0 ≤ n ∧ n ≤ 4294967295 := by
    simp [Lit.wf, IntKind.min, IntKind.max, IntKind.signed, IntKind.bits] at hn
    omega
  have hw : wrap64 n = n := InlC.w64' (by omega)
  refine ⟨101, ?_⟩
  unfold emenderlaw14_InlineEscapes.f
  rw [hw]
  have ht : flat_Text.f [(⟨0, 0, n, 0⟩ : S36)] = some ⟨(flat_Text.one ⟨0, 0, n, 0⟩).toArray⟩ := by
    unfold flat_Text.f
    rw [if_pos (by simp)]
    unfold flat_Text.txt
    rw [List.flatMap_cons, List.flatMap_nil, List.append_nil]
  rw [ht, Option.bind_some]
  unfold flat_Text.one
  rw [if_pos rfl]
  by_cases h : flat_Right.f 0 0 n 0 = some true
  · rw [if_pos h]
    have hr : right 0 0 n 0 = true := by unfold right; rw [h]; rfl
    by_cases h2 : (⟨(Lib.encodeRune n).toArray⟩ : ByteArray).toList = ([] : List UInt8)
    · rw [if_pos h2]
      exact esc_j0 n hw _ true (fun e => by cases e)
    · rw [if_neg h2]
      exact esc_j0 n hw _ _ (fun e => ⟨(right_all _ _ _ hr).2.1, beq_eq_false_iff_ne.1 e, rfl⟩)
  · rw [if_neg h, if_pos empty_list]
    exact esc_j0 n hw _ true (fun e => by cases e)
end Go.Proofs.YtebbngeamnpgjaaDoor.Pure
