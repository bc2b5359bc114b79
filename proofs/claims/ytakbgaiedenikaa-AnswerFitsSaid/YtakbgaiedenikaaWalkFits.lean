/- AnswerFits, for every input. -/
import Derived.Test.YtakbgaiedenikaaFitA
import Derived.Test.YtakbgaiedenikaaKdRec
namespace Go.Proofs.Ytakbgaiedenikaa.Own
open Go.RowKit
set_option linter.unusedVariables false
theorem answerFits_walk (a0 : Option Addr) (len0 cap0 : Nat) (z0 : List Rec) (a1 a2 : Int) (w : World) (w0 : Row w 8 Rec.cells a0 len0 z0) (u0 : ∀ r ∈ z0, Rec.ok w r) (c0 : len0 ≤ cap0) (w1 : (Lit.int .i64 a1).wf = true) (w2 : (Lit.int .i64 a2).wf = true) :
    Calls Try.prog 6 #[.slice a0 len0 cap0, .int .i64 a1, .int .i64 a2] w fun e w' => e = .returned (.bool true) ∧ Below w.heap.size w w' := by
  have hl : (z0.map Pu.recS).length = len0 := by rw [List.length_map]; exact w0.1
  have := Rd.fits_any a0 cap0 (z0.map Pu.recS) a1 a2 w (by rw [hl]; exact Pu.recs_read w0) (by rw [hl]; exact c0)
  rw [hl] at this
  exact this
end Go.Proofs.Ytakbgaiedenikaa.Own
