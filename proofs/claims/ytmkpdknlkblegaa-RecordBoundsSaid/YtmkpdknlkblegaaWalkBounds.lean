/- The walk of the law RecordBounds: the printed contract and the pure law. -/
import Derived.Test.YtmkpdknlkblegaaPuBounds
import Derived.Test.YtmkpdknlkblegaaTypes
namespace Go.Proofs.Ytmkpdknlkblegaa.Own
open Go.RowKit Go.Proofs.YtmkpdknlkblegaaW.PrintWords
set_option linter.unusedVariables false
theorem recordBounds_walk (g0 : Rec) (w : World) (w0 : Rec.ok w g0) : Calls Try.prog 5 #[.agg g0.cells.toArray] w fun e w' => e = .returned (.bool true) ∧ Below w.heap.size w w' := by
  obtain ⟨k, hk⟩ := Ev.rounds (Pu.bounds_ev ⟨g0.offset, g0.tick, g0.key, g0.value, g0.gone, g0.producer, g0.seq, g0.from_⟩)
  exact PA.weighlocklaw16_RecordBounds.calls k _ _ _ _ _ _ _ _ true w hk
end Go.Proofs.Ytmkpdknlkblegaa.Own
