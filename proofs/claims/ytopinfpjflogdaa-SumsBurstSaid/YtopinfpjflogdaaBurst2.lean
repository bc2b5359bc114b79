/- The law SumsBurst: the ways that go back early, and the walk of all. -/
import Derived.Test.YtopinfpjflogdaaBurst
namespace Go.Proofs.Ytopinfpjflogdaa
open Go.RowKit
set_option maxRecDepth 100000
set_option linter.unusedSimpArgs false
set_option linter.unusedVariables false
theorem burst_early (x : BitVec 32) (P Q : Int) (s : ByteArray) (k : Nat) (w : World) (hs : s.size ≤ 140737488351232) (p0 : 0 ≤ P) (hk : P % 1000 = k) (hk1 : (k : Int) ≤ 1000) (h : 1000 < s.size ∨ s.size < k + 4 ∨ Q = 0) :
    Calls Try.prog 6 #[.int .u32 (iw x), .string s, .agg #[.int .u32 P, .int .u32 Q]] w fun e w' => e = .returned (.bool true) ∧ Below w.heap.size w w' := by
  by_cases h1 : 1000 < s.size
  · clear h
    go_enter Try.func6, Try.ntmps6
    go_wp2_with (go_at_call 9; refine (nine_any _).mono ?_; rintro e w1 ⟨rfl, hb2⟩)
    go_ret
    exact ⟨rfl, below_two ((Below.refl _ _).alloc (Nat.le_refl _) _) hb2⟩
  · by_cases h2 : s.size < k + 4
    · clear h
      go_enter Try.func6, Try.ntmps6
      go_wp2_with (go_at_call 9; refine (nine_any _).mono ?_; rintro e w1 ⟨rfl, hb2⟩)
      go_ret
      exact ⟨rfl, below_two ((Below.refl _ _).alloc (Nat.le_refl _) _) hb2⟩
    · obtain rfl : Q = 0 := by omega
      clear h
      go_enter Try.func6, Try.ntmps6
      go_wp2_with (go_at_call 9; refine (nine_any _).mono ?_; rintro e w1 ⟨rfl, hb2⟩)
      go_ret
      exact ⟨rfl, below_two ((Below.refl _ _).alloc (Nat.le_refl _) _) hb2⟩
theorem sumsBurst_walk (b : Int) (s : ByteArray) (zs : List Int) (w : World) (hb : (Lit.int .u32 b).wf = true) (hs : s.size ≤ 140737488351232) (hl : zs.length = 2) (hw : ∀ z ∈ zs, (Lit.int .u32 z).wf = true) :
    Calls Try.prog 6 #[.int .u32 b, .string s, .agg (zs.map (Value.int .u32)).toArray] w fun e w' => e = .returned (.bool true) ∧ Below w.heap.size w w' := by
  obtain ⟨x, rfl⟩ := word_of hb
  obtain ⟨p, q, rfl⟩ := words2 hl hw
  show Calls Try.prog 6 #[.int .u32 (iw x), .string s, .agg #[.int .u32 (iw p), .int .u32 (iw q)]] w _
  have p0 := iw_lo p
  have hk : iw p % 1000 = ((iw p % 1000).toNat : Int) := by omega
  generalize (iw p % 1000).toNat = k at hk
  by_cases h : 1000 < s.size ∨ s.size < k + 4 ∨ iw q = 0
  · exact burst_early x (iw p) (iw q) s k w hs p0 hk (by omega) h
  · exact sumsBurst_main x p q s k w (by omega) hk (by omega) (by rintro rfl; exact h (.inr (.inr rfl)))
end Go.Proofs.Ytopinfpjflogdaa
