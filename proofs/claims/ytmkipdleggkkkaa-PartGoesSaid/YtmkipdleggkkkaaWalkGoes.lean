/- PartGoes, for every input. -/
import Derived.Test.YtmkipdleggkkkaaPR
import Derived.Test.YtmkipdleggkkkaaWalkActs
namespace Go.Proofs.Ytmkipdleggkkkaa.Own
open Go.RowKit Go.WideShapes Go.Proofs.YtmkipdleggkkkaaW.PrintWords
set_option linter.unusedVariables false
theorem partGoes_walk (a0 : Option Addr) (len0 cap0 : Nat) (z0 : List Act) (a1 : Int) (w : World) (w0 : Row w 4 Act.cells a0 len0 z0) (u0 : ∀ r ∈ z0, Act.ok w r) (c0 : len0 ≤ cap0) (w1 : (Lit.int .i64 a1).wf = true) :
    Calls Try.prog 5 #[.slice a0 len0 cap0, .int .i64 a1] w fun e w' => e = .returned (.bool true) ∧ Below w.heap.size w w' := by
  have hl : (z0.map actP).length = len0 := by rw [List.length_map]; exact w0.1
  have := goes_any a0 cap0 (z0.map actP) a1 w (by rw [hl]; exact acts_read w0 u0) (by rw [hl]; exact c0)
  rw [hl] at this
  exact this
end Go.Proofs.Ytmkipdleggkkkaa.Own
