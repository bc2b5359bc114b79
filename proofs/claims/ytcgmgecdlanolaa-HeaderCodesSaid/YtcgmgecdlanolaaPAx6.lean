-- written by a program of this claim (a changed copy of a tool of the kit)
import Derived.Test.YtcgmgecdlanolaaPAx0
namespace Go.Proofs.Ytcgmgecdlanolaa.PA
open Go.RowKit Go.Proofs.YtcgmgecdlanolaaW.PrintWords Go.Proofs.YtcgmgecdlanolaaW.PrintLast Go.Proofs.YtcgmgecdlanolaaW.PrintMore
attribute [local go_sem] max2_int min2_int max_two min_two max_three min_three max_four min_four   -- for this text's walks alone
set_option linter.unusedVariables false
set_option linter.unusedSimpArgs false

/-! ### weighlockref01_Fixed: function 22 -/
def weighlockref01_Fixed.f (a0 a1 : Int) : Option (ByteArray) := if 0 ≤ a0 ∧ a0 < 18446744073709551616 ∧ 0 ≤ a1 ∧ a1 ≤ 8 then some (Own.sB (Own.fixL a1.toNat a0.toNat)) else none
theorem weighlockref01_Fixed.calls (a0 a1 : Int) (r : ByteArray) (w : World) (h : weighlockref01_Fixed.f a0 a1 = some r) : Calls Try.prog 22 #[.int .u64 a0, .int .i64 a1] w fun e w' => e = .returned (.string r) ∧ Below w.heap.size w w' := by
  unfold weighlockref01_Fixed.f at h
  split at h
  · rename_i hc
    obtain ⟨h0, h1, h2, h3⟩ := hc
    cases h
    obtain ⟨n0, rfl⟩ := Int.eq_ofNat_of_zero_le h0
    obtain ⟨n1, rfl⟩ := Int.eq_ofNat_of_zero_le h2
    simp only [Int.toNat_natCast]
    exact Own.reffixed_any n0 n1 w (by omega) (by omega)
  · cases h


end Go.Proofs.Ytcgmgecdlanolaa.PA
