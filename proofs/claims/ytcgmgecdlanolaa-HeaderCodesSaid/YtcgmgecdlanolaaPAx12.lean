-- written by a program of this claim (a changed copy of a tool of the kit)
import Derived.Test.YtcgmgecdlanolaaPAx0
namespace Go.Proofs.Ytcgmgecdlanolaa.PA
open Go.RowKit Go.Proofs.YtcgmgecdlanolaaW.PrintWords Go.Proofs.YtcgmgecdlanolaaW.PrintLast Go.Proofs.YtcgmgecdlanolaaW.PrintMore
attribute [local go_sem] max2_int min2_int max_two min_two max_three min_three max_four min_four   -- for this text's walks alone
set_option linter.unusedVariables false
set_option linter.unusedSimpArgs false

/-! ### header_Encode: function 11 -/
def header_Encode.f (a0_0 a0_1 a0_2 a0_3 : Int) : Option (ByteArray × Int) := if 0 ≤ a0_1 ∧ a0_1 < 4294967296 ∧ 0 ≤ a0_2 ∧ a0_2 < 4294967296 then some (if 1 ≤ a0_0 ∧ a0_0 ≤ 65535 ∧ 0 ≤ a0_3 ∧ a0_3 ≤ 1099511627776 then (Own.sB (Own.encL a0_0.toNat a0_1.toNat a0_2.toNat a0_3.toNat), 0) else (⟨#[]⟩, 1)) else none
theorem header_Encode.calls (a0_0 a0_1 a0_2 a0_3 : Int) (r1 : ByteArray) (r2 : Int) (w : World) (h : header_Encode.f a0_0 a0_1 a0_2 a0_3 = some (r1, r2)) :
    Calls Try.prog 11 #[.agg #[.int .i64 a0_0, .int .u32 a0_1, .int .u32 a0_2, .int .i64 a0_3]] w fun e w' => e = .returned (.tuple #[.string r1, .int .i64 r2]) ∧ Below w.heap.size w w' := by
  unfold header_Encode.f at h
  split at h
  · rename_i hg
    obtain ⟨g1, g2, g3, g4⟩ := hg
    by_cases hc : 1 ≤ a0_0 ∧ a0_0 ≤ 65535 ∧ 0 ≤ a0_3 ∧ a0_3 ≤ 1099511627776
    · rw [if_pos hc] at h
      simp only [Option.some.injEq, Prod.mk.injEq] at h
      obtain ⟨rfl, rfl⟩ := h
      obtain ⟨n0, rfl⟩ := Int.eq_ofNat_of_zero_le (show 0 ≤ a0_0 by omega)
      obtain ⟨n1, rfl⟩ := Int.eq_ofNat_of_zero_le g1
      obtain ⟨n2, rfl⟩ := Int.eq_ofNat_of_zero_le g3
      obtain ⟨n3, rfl⟩ := Int.eq_ofNat_of_zero_le hc.2.2.1
      simp only [Int.toNat_natCast]
      exact Own.encode_any n0 n1 n2 n3 w (by omega) (by omega) (by omega) (by omega) (by omega)
    · rw [if_neg hc] at h
      simp only [Option.some.injEq, Prod.mk.injEq] at h
      obtain ⟨rfl, rfl⟩ := h
      exact Own.encode_bad a0_0 a0_1 a0_2 a0_3 w (by omega)
  · cases h


end Go.Proofs.Ytcgmgecdlanolaa.PA
