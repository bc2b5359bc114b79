-- written by a program of this claim (a changed copy of a tool of the kit)
import Derived.Test.YtmkpdknlkblegaaRdr
import Derived.Test.YtmkpdknlkblegaaPAx0
namespace Go.Proofs.Ytmkpdknlkblegaa.PA
open Go.RowKit Go.Proofs.YtmkpdknlkblegaaW.PrintWords Go.Proofs.YtmkpdknlkblegaaW.PrintLast Go.Proofs.YtmkpdknlkblegaaW.PrintMore
attribute [local go_sem] max2_int min2_int max_two min_two max_three min_three max_four min_four   -- for this text's walks alone
set_option linter.unusedVariables false
set_option linter.unusedSimpArgs false

/-! ### weighlockref16_May: function 11 -/
def weighlockref16_May.f (a0_0 a0_1 : Int) (a0_2 a0_3 : ByteArray) (a0_4 : Bool) (a0_5 a0_6 a0_7 : Int) : Option (Bool) := some (PuB.mayB ⟨a0_0, a0_1, a0_2, a0_3, a0_4, a0_5, a0_6, a0_7⟩)
theorem weighlockref16_May.calls (a0_0 a0_1 : Int) (a0_2 a0_3 : ByteArray) (a0_4 : Bool) (a0_5 a0_6 a0_7 : Int) (r : Bool) (w : World) (h : weighlockref16_May.f a0_0 a0_1 a0_2 a0_3 a0_4 a0_5 a0_6 a0_7 = some r) :
    Calls Try.prog 11 #[.agg #[.int .i64 a0_0, .int .i64 a0_1, .string a0_2, .string a0_3, .bool a0_4, .int .i64 a0_5, .int .i64 a0_6, .int .i64 a0_7]] w fun e w' => e = .returned (.bool r) ∧ Below w.heap.size w w' := by
  cases h
  obtain ⟨k, hk⟩ := Ev.rounds (PuB.refMay_ev ⟨a0_0, a0_1, a0_2, a0_3, a0_4, a0_5, a0_6, a0_7⟩)
  exact PB.weighlockref16_May.calls k _ _ _ _ _ _ _ _ _ w hk


end Go.Proofs.Ytmkpdknlkblegaa.PA
