-- written by a program of this claim (a changed copy of a tool of the kit)
import Derived.Test.YtmkipdleggkkkaaWInv
import Derived.Test.YtmkipdleggkkkaaWFootNe
namespace Go.Proofs.YtmkipdleggkkkaaW.PrintWords
open Go.RowKit
end Go.Proofs.YtmkipdleggkkkaaW.PrintWords
namespace Go.Proofs.YtmkipdleggkkkaaW.PrintLast
section
variable {ops : Array Oper} {a : Act} {o og : Oper} {g : Nat} {t : Tmp} {u : Bool}
end
end Go.Proofs.YtmkipdleggkkkaaW.PrintLast
