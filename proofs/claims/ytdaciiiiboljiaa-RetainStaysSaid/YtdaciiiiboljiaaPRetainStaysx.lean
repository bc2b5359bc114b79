-- written by a program of this claim (a changed copy of a tool of the kit)
import Derived.Test.YtdaciiiiboljiaaPRetainStaysx0
import Derived.Test.YtdaciiiiboljiaaPRetainStaysx1
import Derived.Test.YtdaciiiiboljiaaPRetainStaysx2
import Derived.Test.YtdaciiiiboljiaaPRetainStaysx3
import Derived.Test.YtdaciiiiboljiaaPRetainStaysx4
import Derived.Test.YtdaciiiiboljiaaPRetainStaysx5
namespace Go.Proofs.Ytdaciiiiboljiaa.PRetainStays
open Go.RowKit Go.Proofs.YtdaciiiiboljiaaW.PrintWords Go.Proofs.YtdaciiiiboljiaaW.PrintLast Go.Proofs.YtdaciiiiboljiaaW.PrintMore
attribute [local go_sem] max2_int min2_int max_two min_two max_three min_three max_four min_four   -- for this text's walks alone
set_option linter.unusedVariables false
set_option linter.unusedSimpArgs false

end Go.Proofs.Ytdaciiiiboljiaa.PRetainStays
