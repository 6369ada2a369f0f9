/- The two tables of unicode/utf8 that the row lists: what the condition gives the walks. -/
import Derived.Test.YtfcfomconcoimaaDoorRows
import Derived.Test.YtfcfomconcoimaaDoorShelf
import Derived.Lib.LaidU8T
import Derived.MakeChecks
import Derived.LaidMore
namespace Go.Proofs.YtfcfomconcoimaaDoor
open Go.Shelf Go.Lib
set_option maxRecDepth 100000
theorem eFirst : Rows.laid_unicode_utf8_first = Lib.firstData := by kernel_rfl
theorem eAccept : (Rows.laid_unicode_utf8_acceptRanges : DataW Unit) = Lib.acceptData := by kernel_rfl
theorem tabs_of {l : List (String × DataW Unit)} {W : World} (hp : (l.all fun x => x.2.handleName?.isNone) = true) (h3 : ("unicode/utf8.first", Rows.laid_unicode_utf8_first) ∈ l) (h4 : ("unicode/utf8.acceptRanges", Rows.laid_unicode_utf8_acceptRanges) ∈ l)
    (h : laidMetH Tryd.prog l W) : Lib.Utf8Tabs 0 1 W := by
  rw [MakeChecks.laidMetH_plain _ _ _ hp] at h
  exact utf8Tabs_of_readsT (ρ := Tryd.laysValid_ren) { Tryd.laysValid with } ⟨by kernel_rfl, by kernel_rfl, by kernel_rfl, by kernel_rfl, by kernel_rfl, by kernel_rfl, by kernel_rfl⟩
    (eFirst ▸ Lib.laidMet.reads h h3) (eAccept ▸ Lib.laidMet.reads h h4)
end Go.Proofs.YtfcfomconcoimaaDoor
