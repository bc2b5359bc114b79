/- The walk of DiskLasts for every input. -/
import Derived.Test.YtlodjkmablogcaaDX
import Derived.Test.YtlodjkmablogcaaKdAct
namespace Go.Proofs.Ytlodjkmablogcaa
open Go.RowKit Own
set_option linter.unusedVariables false
theorem acts_lok {w : World} {l : List Own.Act} (h : ∀ x ∈ l, Own.Act.ok w x) : LOK (l.map actS) := by
  intro y hy
  obtain ⟨x, hx, rfl⟩ := List.mem_map.1 hy
  obtain ⟨_, _, _, hc, _, hk, _⟩ := h x hx
  refine ⟨(Own.wf_u8 hc).1, (Own.wf_u8 hc).2, fun q hq => ?_⟩
  obtain ⟨z, hz, rfl⟩ := List.mem_map.1 (show q ∈ x.keeps.map keepS from hq)
  exact (hk z hz).1
theorem diskLasts_walk (a0 : Option Addr) (len0 cap0 : Nat) (z0 : List Own.Act) (a1 : Option Addr) (len1 cap1 : Nat) (z1 : List Own.Keep) (w : World) (w0 : Own.Row w 5 Own.Act.cells a0 len0 z0) (u0 : ∀ x ∈ z0, Own.Act.ok w x) (c0 : len0 ≤ cap0) (w1 : Own.Row w 2 Own.Keep.cells a1 len1 z1) (u1 : ∀ x ∈ z1, Own.Keep.ok w x) (c1 : len1 ≤ cap1) :
    Calls Try.prog 5 #[.slice a0 len0 cap0, .slice a1 len1 cap1] w fun e w' => e = .returned (.bool true) ∧ Below w.heap.size w w' := by
  have hl := acts_read w0 u0
  have hk := keeps_read w1
  have e : (z0.map actS).length = len0 := by rw [List.length_map]; exact w0.1
  have e1 : (z1.map keepS).length = len1 := by rw [List.length_map]; exact w1.1
  have := diskLasts_any a0 cap0 (z0.map actS) a1 cap1 (z1.map keepS) w (by rw [e]; exact hl) (by rw [e]; exact c0) (acts_lok u0) (by rw [e1]; exact hk) (by
    intro q hq
    obtain ⟨z, hz, rfl⟩ := List.mem_map.1 hq
    exact (u1 z hz).1)
  rw [e, e1] at this
  exact this
end Go.Proofs.Ytlodjkmablogcaa
