/- How a law's arguments are read: rows of elements, flat structs, arrays of numbers. -/
import Derived.Test.YtmkpdknlkblegaaBase
import Derived.ProofKit
import Derived.OpenShut
import Derived.Deep.Slices
import Derived.SizedLaws
import Derived.Lib.SmallJoins
namespace Go.Proofs.Ytmkpdknlkblegaa.Own
open Go.RowKit Go.ChangeShapes Go.WideShapes
section
variable {H : Type} {enc : TypeId × Value → H} {P : Program} {w : World} {base : Nat} {spare : Nat → Bool} {held : Bool}

end
end Go.Proofs.Ytmkpdknlkblegaa.Own
