/- The walk of the law BatchRight. -/
import Derived.Test.YtgpbfipobgbgnaaPu
import Derived.Test.YtgpbfipobgbgnaaKdPair
namespace Go.Proofs.Ytgpbfipobgbgnaa.Own
open Go.RowKit Go.Proofs.YtgpbfipobgbgnaaW.PrintWords
set_option linter.unusedVariables false
theorem batchRight_walk (a0 : Option Addr) (len0 cap0 : Nat) (z0 : List Pair) (w : World) (w0 : Row w 3 Pair.cells a0 len0 z0) (u0 : ∀ r ∈ z0, Pair.ok w r) (c0 : len0 ≤ cap0) :
    Calls Try.prog 3 #[.slice a0 len0 cap0] w fun e w' => e = .returned (.bool true) ∧ Below w.heap.size w w' := by
  obtain ⟨k, hk⟩ := Ev.rounds (Pu.batchRight_ev (z0.map Pu.pairS))
  have hl : (z0.map Pu.pairS).length = len0 := by rw [List.length_map]; exact w0.1
  subst hl
  exact PA.weighlocklaw17_BatchRight.calls k a0 cap0 (z0.map Pu.pairS) true w (Pu.pairs_read w0) c0 hk
end Go.Proofs.Ytgpbfipobgbgnaa.Own
