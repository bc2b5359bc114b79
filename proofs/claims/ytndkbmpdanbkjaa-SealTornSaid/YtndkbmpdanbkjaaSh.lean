/- How an argument of the laws is read: a sealed sector's seal and data. -/
import Derived.Test.YtndkbmpdanbkjaaLm
import Derived.Test.YtndkbmpdanbkjaaTypes
namespace Go.Proofs.Ytndkbmpdanbkjaa.Own
open Go.RowKit
set_option linter.unusedVariables false
theorem sealed_of {g : Sealed} {W : World} (h : g.ok W) : ∃ (S : Nat) (d : List UInt8), S < 4294967296 ∧ d.length = 52 ∧ (-9223372036854775808 ≤ g.count ∧ g.count ≤ 9223372036854775807) ∧ g.cells.toArray = sc (S : Int) g.count d := by
  obtain ⟨h1, h2, h3, h4⟩ := h
  have s1 := wf_u32 h1
  refine ⟨g.stamp.toNat, g.data.map fun z => UInt8.ofNat z.toNat, by omega, by rw [List.length_map]; exact h3, wf_i64 h2, ?_⟩
  rw [Int.toNat_of_nonneg s1.1]
  have e : (g.data.map fun z => UInt8.ofNat z.toNat).map bv = g.data.map (Value.int .u8) := by
    rw [List.map_map]
    apply List.map_congr_left
    intro z hz
    have hw := wf_u8 (h4 z hz)
    have : ((UInt8.ofNat z.toNat).toNat : Int) = z := by
      rw [UInt8.toNat_ofNat', Nat.mod_eq_of_lt (by omega)]; omega
    simp only [Function.comp, bv, this]
  unfold Sealed.cells sc
  rw [e]
  rfl
end Go.Proofs.Ytndkbmpdanbkjaa.Own
