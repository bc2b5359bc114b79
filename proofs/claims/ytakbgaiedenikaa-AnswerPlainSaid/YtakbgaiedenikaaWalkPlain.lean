/- AnswerPlain, for every input. -/
import Derived.Test.YtakbgaiedenikaaPlain
import Derived.Test.YtakbgaiedenikaaTypes2
namespace Go.Proofs.Ytakbgaiedenikaa.Own
open Go.RowKit
set_option linter.unusedVariables false
theorem req_size (r : Req) : r.cells.toArray.size = 20 := by simp [Req.cells, Place.cells, Spec.cells]
theorem answerPlain_walk (g0 g1 : Req) (a2 : Int) (w : World) (w0 : Req.ok w g0) (w1 : Req.ok w g1) (w2 : (Lit.int .i64 a2).wf = true) :
    Calls Try.prog 5 #[.agg g0.cells.toArray, .agg g1.cells.toArray, .int .i64 a2] w fun e w' => e = .returned (.bool true) ∧ Below w.heap.size w w' := by
  have h0 : g0.cells.toArray[0]? = some (.int .i64 g0.iD) := by simp [Req.cells]
  have h1 : g0.cells.toArray[1]? = some (.int .i64 g0.kind) := by simp [Req.cells]
  by_cases h : (0 ≤ g0.iD ∧ g0.iD ≤ 65535) ∧ (0 ≤ g0.kind ∧ g0.kind ≤ 255) ∧ 0 ≤ a2 ∧ a2 ≤ 255
  · obtain ⟨⟨b0, b1⟩, ⟨b2, b3⟩, b4, b5⟩ := h
    obtain ⟨i, hi⟩ : ∃ m : Nat, g0.iD = m := ⟨g0.iD.toNat, by omega⟩
    obtain ⟨k, hk⟩ : ∃ m : Nat, g0.kind = m := ⟨g0.kind.toNat, by omega⟩
    obtain ⟨c, rfl⟩ : ∃ m : Nat, a2 = m := ⟨a2.toNat, by omega⟩
    rw [hi] at h0
    rw [hk] at h1
    exact Rd.plainlaw_good _ _ i k c w (req_size g0) (req_size g1) h0 h1 (by omega) (by omega) (by omega)
  · exact Rd.plainlaw_bad _ _ _ _ _ w h0 h1 h
end Go.Proofs.Ytakbgaiedenikaa.Own
