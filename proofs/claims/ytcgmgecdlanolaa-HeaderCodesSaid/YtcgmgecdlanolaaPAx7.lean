-- written by a program of this claim (a changed copy of a tool of the kit)
import Derived.Test.YtcgmgecdlanolaaPAx0
namespace Go.Proofs.Ytcgmgecdlanolaa.PA
open Go.RowKit Go.Proofs.YtcgmgecdlanolaaW.PrintWords Go.Proofs.YtcgmgecdlanolaaW.PrintLast Go.Proofs.YtcgmgecdlanolaaW.PrintMore
attribute [local go_sem] max2_int min2_int max_two min_two max_three min_three max_four min_four   -- for this text's walks alone
set_option linter.unusedVariables false
set_option linter.unusedSimpArgs false

/-! ### weighlockref02_Crc: function 23 -/
def weighlockref02_Crc.f (a0 : Int) (a1 : ByteArray) : Option (Int) := if a0 = 0 ∧ a1.size ≤ maxLen then some (Own.iw (Own.crc 0#32 a1.data.toList)) else none
theorem weighlockref02_Crc.calls (a0 : Int) (a1 : ByteArray) (r : Int) (w : World) (h : weighlockref02_Crc.f a0 a1 = some r) : Calls Try.prog 23 #[.int .u32 a0, .string a1] w fun e w' => e = .returned (.int .u32 r) ∧ Below w.heap.size w w' := by
  unfold weighlockref02_Crc.f at h
  split at h
  · rename_i hc
    obtain ⟨rfl, h1⟩ := hc
    cases h
    exact (Own.refcrc_any 0#32 a1 w h1).mono (by rintro e w' ⟨he, rfl⟩; exact ⟨he, Below.refl _ _⟩)
  · cases h


end Go.Proofs.Ytcgmgecdlanolaa.PA
