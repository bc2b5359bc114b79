/- The walk of the law RecordCodes: the printed contract and the pure law. -/
import Derived.Test.YtmkpdknlkblegaaPuCodes
import Derived.Test.YtmkpdknlkblegaaTypes
namespace Go.Proofs.Ytmkpdknlkblegaa.Own
open Go.RowKit Go.Proofs.YtmkpdknlkblegaaW.PrintWords
set_option linter.unusedVariables false
theorem recordCodes_walk (g0 : Rec) (a1 : ByteArray) (w : World) (w0 : Rec.ok w g0) (w1 : a1.size ≤ 140737488351232) : Calls Try.prog 3 #[.agg g0.cells.toArray, .string a1] w fun e w' => e = .returned (.bool true) ∧ Below w.heap.size w w' := by
  obtain ⟨k, hk⟩ := Ev.rounds (Pu.codes_ev ⟨g0.offset, g0.tick, g0.key, g0.value, g0.gone, g0.producer, g0.seq, g0.from_⟩ a1)
  exact PA.weighlocklaw16_RecordCodes.calls k _ _ _ _ _ _ _ _ a1 true w hk
end Go.Proofs.Ytmkpdknlkblegaa.Own
