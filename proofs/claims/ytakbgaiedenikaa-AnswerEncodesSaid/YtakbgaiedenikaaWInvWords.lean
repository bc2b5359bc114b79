-- written by a program of this claim (a changed copy of a tool of the kit)
import Derived.Test.YtakbgaiedenikaaWInv
import Derived.Test.YtakbgaiedenikaaWFootNe
namespace Go.Proofs.YtakbgaiedenikaaW.PrintWords
open Go.RowKit
end Go.Proofs.YtakbgaiedenikaaW.PrintWords
namespace Go.Proofs.YtakbgaiedenikaaW.PrintLast
section
variable {ops : Array Oper} {a : Act} {o og : Oper} {g : Nat} {t : Tmp} {u : Bool}
end
end Go.Proofs.YtakbgaiedenikaaW.PrintLast
