/- The walk of the law RetainStays: the printed contract, the pure law, and how the arguments are read. -/
import Derived.Test.YtdaciiiiboljiaaStays
import Derived.Test.YtdaciiiiboljiaaKdRec
namespace Go.Proofs.Ytdaciiiiboljiaa.Own
open Go.RowKit Go.Proofs.YtdaciiiiboljiaaW.PrintWords
set_option linter.unusedVariables false
theorem retainStays_walk (a0 : Option Addr) (len0 cap0 : Nat) (z0 : List Rec) (g1 : Lim) (a2 : Int) (w : World) (w0 : Row w 8 Rec.cells a0 len0 z0) (u0 : ∀ r ∈ z0, Rec.ok w r) (c0 : len0 ≤ cap0) (w1 : Lim.ok w g1) (w2 : (Lit.int .i64 a2).wf = true) :
    Calls Try.prog 3 #[.slice a0 len0 cap0, .agg g1.cells.toArray, .int .i64 a2] w fun e w' => e = .returned (.bool true) ∧ Below w.heap.size w w' := by
  obtain ⟨k, hk⟩ := Ev.rounds (Pu.stays_ev (z0.map Pu.recS) g1.now g1.age g1.size a2)
  have hl : (z0.map Pu.recS).length = len0 := by rw [List.length_map]; exact w0.1
  subst hl
  exact PRetainStays.weighlocklaw20_RetainStays.calls k a0 cap0 (z0.map Pu.recS) g1.now g1.age g1.size a2 true w (Pu.recs_read w0) c0 hk
end Go.Proofs.Ytdaciiiiboljiaa.Own
