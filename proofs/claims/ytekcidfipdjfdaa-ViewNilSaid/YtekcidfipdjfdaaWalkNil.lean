/- The walk of ViewNil for every input. -/
import Derived.Test.YtekcidfipdjfdaaVE
import Derived.Test.YtekcidfipdjfdaaKdAct
namespace Go.Proofs.Ytekcidfipdjfdaa
open Go.RowKit Own
theorem wf_byte {a : Int} (h : (Lit.int .u8 a).wf = true) : 0 ≤ a ∧ a ≤ 255 := Own.wf_u8 h
theorem viewNil_walk (g0 : Own.Act) (w : World) (w0 : g0.ok w) : Calls Try.prog 4 #[.agg g0.cells.toArray] w fun e w' => e = .returned (.bool true) ∧ Below w.heap.size w w' := by
  obtain ⟨_, _, _, hc, hr, _, hcap⟩ := w0
  have hm := hr.2.1
  unfold maxLen at hm
  have := viewNil_any g0.kind g0.at_ g0.n g0.c (g0.keeps.map keepS) g0.keepsA g0.keepsC w (wf_byte hc).1 (wf_byte hc).2 (by rw [List.length_map, hr.1]; exact hm)
  rw [List.length_map, hr.1] at this
  exact this
end Go.Proofs.Ytekcidfipdjfdaa
