-- written by a program of this claim (a changed copy of a tool of the kit)
import Derived.Test.YtmkpdknlkblegaaPBx0
import Derived.Test.YtmkpdknlkblegaaPBx1
import Derived.Test.YtmkpdknlkblegaaPBx2
import Derived.Test.YtmkpdknlkblegaaPBx5
namespace Go.Proofs.Ytmkpdknlkblegaa.PB
open Go.RowKit Go.Proofs.YtmkpdknlkblegaaW.PrintWords Go.Proofs.YtmkpdknlkblegaaW.PrintLast Go.Proofs.YtmkpdknlkblegaaW.PrintMore
attribute [local go_sem] max2_int min2_int max_two min_two max_three min_three max_four min_four   -- for this text's walks alone
set_option linter.unusedVariables false
set_option linter.unusedSimpArgs false

end Go.Proofs.Ytmkpdknlkblegaa.PB
