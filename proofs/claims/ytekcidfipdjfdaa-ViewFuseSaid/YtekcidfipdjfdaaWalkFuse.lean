/- The walk of ViewFuse for every input. -/
import Derived.Test.YtekcidfipdjfdaaVG
import Derived.Test.YtekcidfipdjfdaaKdAct
set_option linter.unusedVariables false
namespace Go.Proofs.Ytekcidfipdjfdaa
open Go.RowKit Own
theorem acts_lok {w : World} {l : List Own.Act} (h : ∀ x ∈ l, Own.Act.ok w x) : LOK (l.map actS) := by
  intro y hy
  obtain ⟨x, hx, rfl⟩ := List.mem_map.1 hy
  obtain ⟨_, _, _, hc, _, hk, _⟩ := h x hx
  exact ⟨(Own.wf_u8 hc).1, (Own.wf_u8 hc).2⟩
theorem viewFuse_walk (s : Int) (a1 : Option Addr) (len1 cap1 : Nat) (z1 : List Own.Act) (w : World) (hs : (Lit.int .i64 s).wf = true) (w1 : Own.Row w 5 Own.Act.cells a1 len1 z1) (u1 : ∀ x ∈ z1, Own.Act.ok w x) (c1 : len1 ≤ cap1) :
    Calls Try.prog 3 #[.int .i64 s, .slice a1 len1 cap1] w fun e w' => e = .returned (.bool true) ∧ Below w.heap.size w w' := by
  have hl := acts_read w1 u1
  have e : (z1.map actS).length = len1 := by rw [List.length_map]; exact w1.1
  have := fuse_any s hs a1 cap1 (z1.map actS) w (by rw [e]; exact hl) (by rw [e]; exact c1) (acts_lok u1)
  rw [e] at this
  exact this
end Go.Proofs.Ytekcidfipdjfdaa
