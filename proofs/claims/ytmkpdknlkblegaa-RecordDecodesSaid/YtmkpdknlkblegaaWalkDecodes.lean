/- The walk of the law RecordDecodes: the printed contract and the pure law. -/
import Derived.Test.YtmkpdknlkblegaaPuDecodes
namespace Go.Proofs.Ytmkpdknlkblegaa.Own
open Go.RowKit Go.Proofs.YtmkpdknlkblegaaW.PrintWords
set_option linter.unusedVariables false
theorem recordDecodes_walk (a0 : ByteArray) (w : World) (w0 : a0.size ≤ 140737488351232) : Calls Try.prog 4 #[.string a0] w fun e w' => e = .returned (.bool true) ∧ Below w.heap.size w w' := by
  obtain ⟨k, hk⟩ := Ev.rounds (Pu.decodes_ev a0)
  exact PA.weighlocklaw16_RecordDecodes.calls k a0 true w hk rfl
end Go.Proofs.Ytmkpdknlkblegaa.Own
