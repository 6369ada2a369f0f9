/- The law's awake; what the law's words say of lines. -/
import Derived.Test.YtebbngeamnpgjaaDoorInlB
import Derived.Test.YtebbngeamnpgjaaDoorInlC
import Derived.Test.YtebbngeamnpgjaaDoorPIax11
namespace Go.Proofs.YtebbngeamnpgjaaDoor.InlG
open Go.RowKit Go.Proofs.YtebbngeamnpgjaaDoorW.PrintWords Go.Proofs.YtebbngeamnpgjaaDoorW.PrintMore
open Go.Proofs.YtebbngeamnpgjaaDoor Go.Proofs.YtebbngeamnpgjaaDoor.PIa Go.Proofs.YtebbngeamnpgjaaDoor.FlatA Go.Proofs.YtebbngeamnpgjaaDoor.InlA Go.Proofs.YtebbngeamnpgjaaDoor.InlB
theorem empty_list : (⟨#[]⟩ : ByteArray).toList = ([] : List UInt8) := by first | decide +kernel | simp [ByteArray.toList, ByteArray.toList.loop] | rfl
theorem awake14 (k : Nat) (hk : 2 ≤ k) : emenderlaw14_awake.f k = some true := by
  unfold emenderlaw14_awake.f
  rw [our_print _ (by simp) k (by simp; omega), Option.bind_some]
  decide +kernel
end Go.Proofs.YtebbngeamnpgjaaDoor.InlG
