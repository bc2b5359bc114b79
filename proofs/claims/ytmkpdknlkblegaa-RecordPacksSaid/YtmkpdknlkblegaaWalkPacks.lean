/- The walk of the law RecordPacks: the printed contract and the pure law. -/
import Derived.Test.YtmkpdknlkblegaaPuPacks
import Derived.Test.YtmkpdknlkblegaaKdRec
namespace Go.Proofs.Ytmkpdknlkblegaa.Own
open Go.RowKit Go.Proofs.YtmkpdknlkblegaaW.PrintWords
set_option linter.unusedVariables false
theorem recordPacks_walk (a0 : Option Addr) (len0 cap0 : Nat) (z0 : List Rec) (w : World) (w0 : Row w 8 Rec.cells a0 len0 z0) (u0 : ∀ r ∈ z0, Rec.ok w r) (c0 : len0 ≤ cap0) :
    Calls Try.prog 6 #[.slice a0 len0 cap0] w fun e w' => e = .returned (.bool true) ∧ Below w.heap.size w w' := by
  obtain ⟨k, hk⟩ := Ev.rounds (Pu.packs_ev (z0.map Pu.recS))
  have hl : (z0.map Pu.recS).length = len0 := by rw [List.length_map]; exact w0.1
  subst hl
  exact PA.weighlocklaw16_RecordPacks.calls k a0 cap0 (z0.map Pu.recS) true w (Pu.recs_read w0) c0 hk rfl
end Go.Proofs.Ytmkpdknlkblegaa.Own
