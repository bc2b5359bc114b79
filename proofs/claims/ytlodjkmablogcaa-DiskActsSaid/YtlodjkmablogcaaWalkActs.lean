/- The walk of DiskActs for every input. -/
import Derived.Test.YtlodjkmablogcaaEB
import Derived.Test.YtlodjkmablogcaaWalkKeeps
set_option linter.unusedVariables false
namespace Go.Proofs.Ytlodjkmablogcaa
open Go.RowKit Own
theorem diskActs_walk (s : Int) (a1 : Option Addr) (len1 cap1 : Nat) (z1 : List Own.Act) (w : World) (hs : (Lit.int .i64 s).wf = true) (w1 : Own.Row w 5 Own.Act.cells a1 len1 z1) (u1 : ∀ x ∈ z1, Own.Act.ok w x) (c1 : len1 ≤ cap1) :
    Calls Try.prog 4 #[.int .i64 s, .slice a1 len1 cap1] w fun e w' => e = .returned (.bool true) ∧ Below w.heap.size w w' := by
  have hl := acts_read w1 u1
  have e : (z1.map actS).length = len1 := by rw [List.length_map]; exact w1.1
  have := acts_any s hs a1 cap1 (z1.map actS) w (by rw [e]; exact hl) (by rw [e]; exact c1) (acts_lok u1)
  rw [e] at this
  exact this
end Go.Proofs.Ytlodjkmablogcaa
