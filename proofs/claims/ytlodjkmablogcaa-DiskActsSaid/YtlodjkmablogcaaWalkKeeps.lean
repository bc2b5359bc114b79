/- The walk of DiskKeeps for every input. -/
import Derived.Test.YtlodjkmablogcaaDV
import Derived.Test.YtlodjkmablogcaaKdAct
namespace Go.Proofs.Ytlodjkmablogcaa
open Go.RowKit Own
theorem acts_lok {w : World} {l : List Own.Act} (h : ∀ x ∈ l, Own.Act.ok w x) : LOK (l.map actS) := by
  intro y hy
  obtain ⟨x, hx, rfl⟩ := List.mem_map.1 hy
  obtain ⟨_, _, _, hc, _, hk, _⟩ := h x hx
  refine ⟨(Own.wf_u8 hc).1, (Own.wf_u8 hc).2, fun q hq => ?_⟩
  obtain ⟨z, hz, rfl⟩ := List.mem_map.1 (show q ∈ x.keeps.map keepS from hq)
  exact (hk z hz).1
theorem diskKeeps_walk (a0 : Option Addr) (len0 cap0 : Nat) (z0 : List Own.Act) (w : World) (w0 : Own.Row w 5 Own.Act.cells a0 len0 z0) (u0 : ∀ x ∈ z0, Own.Act.ok w x) (c0 : len0 ≤ cap0) :
    Calls Try.prog 6 #[.slice a0 len0 cap0] w fun e w' => e = .returned (.bool true) ∧ Below w.heap.size w w' := by
  have hl := acts_read w0 u0
  have e : (z0.map actS).length = len0 := by rw [List.length_map]; exact w0.1
  have := diskKeeps_any a0 cap0 (z0.map actS) w (by rw [e]; exact hl) (by rw [e]; exact c0) (acts_lok u0)
  rw [e] at this
  exact this
end Go.Proofs.Ytlodjkmablogcaa
