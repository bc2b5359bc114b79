/- The walk of the law BatchParts. -/
import Derived.Test.YtgpbfipobgbgnaaPuParts
import Derived.Test.YtgpbfipobgbgnaaKdPair
namespace Go.Proofs.Ytgpbfipobgbgnaa.Own
open Go.RowKit Go.Proofs.YtgpbfipobgbgnaaW.PrintWords
set_option linter.unusedVariables false
theorem batchParts_walk (g0 : Rec) (a1 : Option Addr) (len1 cap1 : Nat) (z1 : List Pair) (a2 : Option Addr) (len2 cap2 : Nat) (z2 : List Pair) (w : World) (w0 : Rec.ok w g0) (w1 : Row w 3 Pair.cells a1 len1 z1) (u1 : ∀ r ∈ z1, Pair.ok w r) (c1 : len1 ≤ cap1) (w2 : Row w 3 Pair.cells a2 len2 z2) (u2 : ∀ r ∈ z2, Pair.ok w r) (c2 : len2 ≤ cap2) :
    Calls Try.prog 4 #[.agg g0.cells.toArray, .slice a1 len1 cap1, .slice a2 len2 cap2] w fun e w' => e = .returned (.bool true) ∧ Below w.heap.size w w' := by
  obtain ⟨k, hk⟩ := Ev.rounds (Pu.batchParts_ev g0.offset g0.tick g0.key g0.value g0.gone g0.producer g0.seq g0.from_ (z1.map Pu.pairS) (z2.map Pu.pairS))
  have h1 : (z1.map Pu.pairS).length = len1 := by rw [List.length_map]; exact w1.1
  have h2 : (z2.map Pu.pairS).length = len2 := by rw [List.length_map]; exact w2.1
  subst h1
  subst h2
  exact PA.weighlocklaw17_BatchParts.calls k g0.offset g0.tick g0.key g0.value g0.gone g0.producer g0.seq g0.from_ a1 cap1 (z1.map Pu.pairS) a2 cap2 (z2.map Pu.pairS) true w (Pu.pairs_read w1) c1 (Pu.pairs_read w2) c2 hk
end Go.Proofs.Ytgpbfipobgbgnaa.Own
