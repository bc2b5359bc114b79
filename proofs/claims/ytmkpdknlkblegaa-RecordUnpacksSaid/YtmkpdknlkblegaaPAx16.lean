-- written by a program of this claim (a changed copy of a tool of the kit)
import Derived.Test.YtmkpdknlkblegaaRefA
import Derived.Test.YtmkpdknlkblegaaPAx0
namespace Go.Proofs.Ytmkpdknlkblegaa.PA
open Go.RowKit Go.Proofs.YtmkpdknlkblegaaW.PrintWords Go.Proofs.YtmkpdknlkblegaaW.PrintLast Go.Proofs.YtmkpdknlkblegaaW.PrintMore
attribute [local go_sem] max2_int min2_int max_two min_two max_three min_three max_four min_four   -- for this text's walks alone
set_option linter.unusedVariables false
set_option linter.unusedSimpArgs false

/-! ### weighlockref16_Decode: function 16 -/
def weighlockref16_Decode.f (a0 : ByteArray) : Option (Int × Int × ByteArray × ByteArray × Bool × Int × Int × Int × Int × Bool) := if a0.size ≤ 9223372036854775807 then some (match Rd.decR a0 with | none => (0, 0, ⟨#[]⟩, ⟨#[]⟩, false, 0, 0, 0, 0, false) | some (r, c) => (r.f0, r.f1, r.f2, r.f3, r.f4, r.f5, r.f6, r.f7, (c : Int), true)) else none
theorem weighlockref16_Decode.calls (a0 : ByteArray) (r1 r2 : Int) (r3 r4 : ByteArray) (r5 : Bool) (r6 r7 r8 r9 : Int) (r10 : Bool) (w : World) (h : weighlockref16_Decode.f a0 = some (r1, r2, r3, r4, r5, r6, r7, r8, r9, r10)) :
    Calls Try.prog 16 #[.string a0] w fun e w' => e = .returned (.agg #[.int .i64 r1, .int .i64 r2, .string r3, .string r4, .bool r5, .int .i64 r6, .int .i64 r7, .int .i64 r8, .int .i64 r9, .bool r10]) ∧ Below w.heap.size w w' := by
  unfold weighlockref16_Decode.f at h
  split at h
  · rename_i hm
    cases hd : Rd.decR a0 with
    | none =>
      rw [hd] at h
      simp only [Option.some.injEq, Prod.mk.injEq] at h
      obtain ⟨rfl, rfl, rfl, rfl, rfl, rfl, rfl, rfl, rfl, rfl⟩ := h
      exact (Rd.refdec_any w hm).mono fun e w' hp => by unfold Rd.GPost at hp; rw [hd] at hp; exact hp
    | some q =>
      obtain ⟨r, c⟩ := q
      rw [hd] at h
      simp only [Option.some.injEq, Prod.mk.injEq] at h
      obtain ⟨rfl, rfl, rfl, rfl, rfl, rfl, rfl, rfl, rfl, rfl⟩ := h
      exact (Rd.refdec_any w hm).mono fun e w' hp => by unfold Rd.GPost at hp; rw [hd] at hp; exact hp
  · cases h


end Go.Proofs.Ytmkpdknlkblegaa.PA
