-- written by a program of this claim (a changed copy of a tool of the kit)
import Derived.Test.YtcgmgecdlanolaaPAx0
namespace Go.Proofs.Ytcgmgecdlanolaa.PA
open Go.RowKit Go.Proofs.YtcgmgecdlanolaaW.PrintWords Go.Proofs.YtcgmgecdlanolaaW.PrintLast Go.Proofs.YtcgmgecdlanolaaW.PrintMore
attribute [local go_sem] max2_int min2_int max_two min_two max_three min_three max_four min_four   -- for this text's walks alone
set_option linter.unusedVariables false
set_option linter.unusedSimpArgs false

/-! ### header_Decode: function 8 -/
def header_Decode.f (a0 : ByteArray) : Option (Int × Int × Int × Int × Int) := if a0.size ≤ maxLen then some (if a0.size < 32 then (0, 0, 0, 0, 3) else if Own.pt a0 12 20 ≤ 1099511627776 ∧ 1 ≤ Own.pt a0 2 4 ∧ Own.encL (Own.pt a0 2 4) (Own.pt a0 4 8) (Own.pt a0 8 12) (Own.pt a0 12 20) = a0.data.toList.take 32 then ((Own.pt a0 2 4 : Int), (Own.pt a0 4 8 : Int), (Own.pt a0 8 12 : Int), (Own.pt a0 12 20 : Int), 0) else (0, 0, 0, 0, 4)) else none
theorem header_Decode.calls (a0 : ByteArray) (r1 r2 r3 r4 r5 : Int) (w : World) (h : header_Decode.f a0 = some (r1, r2, r3, r4, r5)) :
    Calls Try.prog 8 #[.string a0] w fun e w' => e = .returned (.tuple #[.agg #[.int .i64 r1, .int .u32 r2, .int .u32 r3, .int .i64 r4], .int .i64 r5]) ∧ Below w.heap.size w w' := by
  unfold header_Decode.f at h
  split at h
  · rename_i hm
    by_cases h1 : a0.size < 32
    · rw [if_pos h1] at h
      simp only [Option.some.injEq, Prod.mk.injEq] at h
      obtain ⟨rfl, rfl, rfl, rfl, rfl⟩ := h
      exact Own.decode_short a0 w h1
    · rw [if_neg h1] at h
      by_cases h2 : Own.pt a0 12 20 ≤ 1099511627776 ∧ 1 ≤ Own.pt a0 2 4 ∧ Own.encL (Own.pt a0 2 4) (Own.pt a0 4 8) (Own.pt a0 8 12) (Own.pt a0 12 20) = a0.data.toList.take 32
      · rw [if_pos h2] at h
        simp only [Option.some.injEq, Prod.mk.injEq] at h
        obtain ⟨rfl, rfl, rfl, rfl, rfl⟩ := h
        exact Own.decode_ok a0 w (by omega) h2.1 h2.2.1 h2.2.2 hm
      · rw [if_neg h2] at h
        simp only [Option.some.injEq, Prod.mk.injEq] at h
        obtain ⟨rfl, rfl, rfl, rfl, rfl⟩ := h
        by_cases hb : Own.pt a0 12 20 ≤ 1099511627776
        · by_cases h0 : 1 ≤ Own.pt a0 2 4
          · exact Own.decode_diff a0 w (by omega) hb h0 (fun e => h2 ⟨hb, h0, e⟩) hm
          · exact Own.decode_zero a0 w (by omega) hb (by omega) hm
        · exact Own.decode_base a0 w (by omega) (by omega) hm
  · cases h


end Go.Proofs.Ytcgmgecdlanolaa.PA
