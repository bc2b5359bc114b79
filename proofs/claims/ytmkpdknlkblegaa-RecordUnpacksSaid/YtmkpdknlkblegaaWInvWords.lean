-- written by a program of this claim (a changed copy of a tool of the kit)
import Derived.Test.YtmkpdknlkblegaaWInv
import Derived.Test.YtmkpdknlkblegaaWFootNe
namespace Go.Proofs.YtmkpdknlkblegaaW.PrintWords
open Go.RowKit
end Go.Proofs.YtmkpdknlkblegaaW.PrintWords
namespace Go.Proofs.YtmkpdknlkblegaaW.PrintLast
section
variable {ops : Array Oper} {a : Act} {o og : Oper} {g : Nat} {t : Tmp} {u : Bool}
end
end Go.Proofs.YtmkpdknlkblegaaW.PrintLast
