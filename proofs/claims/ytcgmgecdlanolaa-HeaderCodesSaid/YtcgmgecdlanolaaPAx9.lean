-- written by a program of this claim (a changed copy of a tool of the kit)
import Derived.Test.YtcgmgecdlanolaaPAx0
namespace Go.Proofs.Ytcgmgecdlanolaa.PA
open Go.RowKit Go.Proofs.YtcgmgecdlanolaaW.PrintWords Go.Proofs.YtcgmgecdlanolaaW.PrintLast Go.Proofs.YtcgmgecdlanolaaW.PrintMore
attribute [local go_sem] max2_int min2_int max_two min_two max_three min_three max_four min_four   -- for this text's walks alone
set_option linter.unusedVariables false
set_option linter.unusedSimpArgs false

/-! ### weighlockref01_Read: function 19 -/
def weighlockref01_Read.f (a0 : ByteArray) : Option (Int) := if a0.size ≤ 8 then some ((Own.readL a0.data.toList : Nat) : Int) else none
theorem weighlockref01_Read.calls (a0 : ByteArray) (r : Int) (w : World) (h : weighlockref01_Read.f a0 = some r) : Calls Try.prog 19 #[.string a0] w fun e w' => e = .returned (.int .u64 r) ∧ Below w.heap.size w w' := by
  unfold weighlockref01_Read.f at h
  split at h
  · cases h
    exact (Own.refread_any a0 w (by assumption)).mono (by rintro e w' ⟨he, rfl⟩; exact ⟨he, Below.refl _ _⟩)
  · cases h


end Go.Proofs.Ytcgmgecdlanolaa.PA
