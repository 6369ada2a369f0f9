-- Written for this claim by a program (the kit's print, with hand-made contracts for what it does not take).
import Derived.Test.YtjpmlggkhhoooaaPDqx0
namespace Go.Proofs.Ytjpmlggkhhoooaa.PDq
open Go.RowKit Go.Proofs.YtjpmlggkhhoooaaW.PrintWords Go.Proofs.YtjpmlggkhhoooaaW.PrintLast Go.Proofs.YtjpmlggkhhoooaaW.PrintMore
attribute [local go_sem] max2_int min2_int max_two min_two max_three min_three max_four min_four   -- for this text's walks alone
set_option linter.unusedVariables false
set_option linter.unusedSimpArgs false

theorem eqA2 {P : Program} {t e : TypeId} (hu : P.underlying t = some (.array 2 e)) (he : P.underlying e = some (.int .i64)) {i0 : TypeInfo} (hi : P.info? e = some i0) (hs : i0.size = 1) (d : Nat) (w : World) (x0 y0 : Int) (x1 y1 : Int) :
    (Op.equalIn (d + 2) t (.agg #[.int .i64 x0, .int .i64 x1]) (.agg #[.int .i64 y0, .int .i64 y1])).run P w = .ok (x0 == y0 && (x1 == y1)) w := by
  rw [Op.equalIn]
  simp [run_underlying hu, sizeOf, typeInfo, hi, hs]
  rw [show List.range' 0 2 = [0, 1] from rfl]
  simp [part, isAgg, run_underlying he, run_equalIn_int, he]
  by_cases h0 : x0 = y0
  · by_cases h1 : x1 = y1 <;> simp [h0, h1]
  · simp [h0]
theorem eqA76 (d : Nat) (w : World) (x0 y0 : Int) (x1 y1 : Int) :
    (Op.equalIn (d + 2) 76 (.agg #[.int .i64 x0, .int .i64 x1]) (.agg #[.int .i64 y0, .int .i64 y1])).run Try.prog w = .ok (x0 == y0 && (x1 == y1)) w := by
  obtain ⟨i0, hi, _, hs, _⟩ := info_parts info3
  exact eqA2 Try.underlying76 Try.underlying3 hi hs d w x0 y0 x1 y1
end Go.Proofs.Ytjpmlggkhhoooaa.PDq
