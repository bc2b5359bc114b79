/- The walk of the law HeaderCodes: the printed contract and the pure law. -/
import Derived.Test.YtcgmgecdlanolaaPu
import Derived.Test.YtcgmgecdlanolaaTypes
namespace Go.Proofs.Ytcgmgecdlanolaa.Own
open Go.RowKit Go.Proofs.YtcgmgecdlanolaaW.PrintWords
set_option linter.unusedVariables false
theorem headerCodes_walk (g0 : Hdr) (a1 : ByteArray) (w : World) (w0 : Hdr.ok w g0) (w1 : a1.size ≤ 140737488351232) : Calls Try.prog 3 #[.agg g0.cells.toArray, .string a1] w fun e w' => e = .returned (.bool true) ∧ Below w.heap.size w w' := by
  obtain ⟨_, hg, ht, _⟩ := w0
  obtain ⟨k, hk⟩ := Ev.rounds (Pu.codes_ev g0.log g0.gen g0.stamp g0.base a1 (wf_u32 hg).1 (by have := (wf_u32 hg).2; omega) (wf_u32 ht).1 (by have := (wf_u32 ht).2; omega))
  exact PA.weighlocklaw11_HeaderCodes.calls k g0.log g0.gen g0.stamp g0.base a1 true w hk
end Go.Proofs.Ytcgmgecdlanolaa.Own
