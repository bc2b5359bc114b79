/- PartNil, for every input. -/
import Derived.Test.YtmkipdleggkkkaaPC
import Derived.Test.YtmkipdleggkkkaaTypes
namespace Go.Proofs.Ytmkipdleggkkkaa.Own
open Go.RowKit
set_option linter.unusedVariables false
theorem partNil_walk (g0 : Act) (w : World) (w0 : Act.ok w g0) :
    Calls Try.prog 6 #[.agg g0.cells.toArray] w fun e w' => e = .returned (.bool true) ∧ Below w.heap.size w w' := partNil_any g0.kind g0.n g0.m g0.lA g0.lN g0.lC w
end Go.Proofs.Ytmkipdleggkkkaa.Own
