/- More of what is open in tokens: how it changes from place to place. -/
import Derived.Test.YtfcfomconcoimaaDoorFlatA
import Derived.Test.YtfcfomconcoimaaDoorPFax0
import Derived.Test.YtfcfomconcoimaaDoorPFay0
namespace Go.Proofs.YtfcfomconcoimaaDoor.FlatB
open Go.RowKit Go.Proofs.YtfcfomconcoimaaDoorW.PrintWords Go.Proofs.YtfcfomconcoimaaDoorW.PrintMore
open Go.Proofs.YtfcfomconcoimaaDoor Go.Proofs.YtfcfomconcoimaaDoor.PFa Go.Proofs.YtfcfomconcoimaaDoor.FlatA

end Go.Proofs.YtfcfomconcoimaaDoor.FlatB
