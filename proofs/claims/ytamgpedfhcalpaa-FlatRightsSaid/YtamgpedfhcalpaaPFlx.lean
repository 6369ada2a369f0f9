-- Written for this claim by a program (the kit's print, with hand-made contracts for what it does not take).
import Derived.Test.YtamgpedfhcalpaaPFlx0
import Derived.Test.YtamgpedfhcalpaaPFlx1
import Derived.Test.YtamgpedfhcalpaaPFlx2
import Derived.Test.YtamgpedfhcalpaaPFlx3
import Derived.Test.YtamgpedfhcalpaaPFlx4
import Derived.Test.YtamgpedfhcalpaaPFlx5
import Derived.Test.YtamgpedfhcalpaaPFlx6
import Derived.Test.YtamgpedfhcalpaaPFlx7
import Derived.Test.YtamgpedfhcalpaaPFlx8
import Derived.Test.YtamgpedfhcalpaaPFlx9
import Derived.Test.YtamgpedfhcalpaaPFlx10
import Derived.Test.YtamgpedfhcalpaaPFlx11
import Derived.Test.YtamgpedfhcalpaaPFlx12
import Derived.Test.YtamgpedfhcalpaaPFlx13
import Derived.Test.YtamgpedfhcalpaaPFlx14
import Derived.Test.YtamgpedfhcalpaaPFlx15
import Derived.Test.YtamgpedfhcalpaaPFlx16
import Derived.Test.YtamgpedfhcalpaaPFlx17
namespace Go.Proofs.Ytamgpedfhcalpaa.PFl
open Go.RowKit Go.Proofs.YtamgpedfhcalpaaW.PrintWords Go.Proofs.YtamgpedfhcalpaaW.PrintLast Go.Proofs.YtamgpedfhcalpaaW.PrintMore
attribute [local go_sem] max2_int min2_int max_two min_two max_three min_three max_four min_four   -- for this text's walks alone
set_option linter.unusedVariables false
set_option linter.unusedSimpArgs false

end Go.Proofs.Ytamgpedfhcalpaa.PFl
