-- written by a program of this claim (a changed copy of a tool of the kit)
import Derived.Test.YtcgmgecdlanolaaPAx0
namespace Go.Proofs.Ytcgmgecdlanolaa.PA
open Go.RowKit Go.Proofs.YtcgmgecdlanolaaW.PrintWords Go.Proofs.YtcgmgecdlanolaaW.PrintLast Go.Proofs.YtcgmgecdlanolaaW.PrintMore
attribute [local go_sem] max2_int min2_int max_two min_two max_three min_three max_four min_four   -- for this text's walks alone
set_option linter.unusedVariables false
set_option linter.unusedSimpArgs false

/-! ### weighlocklaw11_one: function 7 -/
def weighlocklaw11_one.f : Option (Bool) := some true
theorem weighlocklaw11_one.calls (r : Bool) (w : World) (h : weighlocklaw11_one.f = some r) : Calls Try.prog 7 #[] w fun e w' => e = .returned (.bool r) ∧ Below w.heap.size w w' := by
  cases h
  exact Own.one_any w


end Go.Proofs.Ytcgmgecdlanolaa.PA
