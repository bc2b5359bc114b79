-- written by a program of this claim (a changed copy of a tool of the kit)
import Derived.Test.YtakbgaiedenikaaWTab
/-! ### 56. Four, five, six operations that may come up next, in any order -/
namespace Go.Proofs.YtakbgaiedenikaaW.PrintLast
section
variable {P : Program} {ops : Array Oper} {Q : Exit → Act → World → Prop} {md : Region.Mode} {S : World → Prop} {ds : List Nat} {T : Bool × List (List Nat × List Nat)}
end
end Go.Proofs.YtakbgaiedenikaaW.PrintLast
