-- written by a program of this claim (a changed copy of a tool of the kit)
import Derived.Test.YtgpbfipobgbgnaaPBx0
import Derived.Test.YtgpbfipobgbgnaaPBx1
import Derived.Test.YtgpbfipobgbgnaaPBx2
namespace Go.Proofs.Ytgpbfipobgbgnaa.PB
open Go.RowKit Go.Proofs.YtgpbfipobgbgnaaW.PrintWords Go.Proofs.YtgpbfipobgbgnaaW.PrintLast Go.Proofs.YtgpbfipobgbgnaaW.PrintMore
attribute [local go_sem] max2_int min2_int max_two min_two max_three min_three max_four min_four   -- for this text's walks alone
set_option linter.unusedVariables false
set_option linter.unusedSimpArgs false

end Go.Proofs.Ytgpbfipobgbgnaa.PB
