/- The walk of SealCodes at any arguments. -/
import Derived.Test.YtndkbmpdanbkjaaSh
import Derived.Test.YtndkbmpdanbkjaaMb
namespace Go.Proofs.Ytndkbmpdanbkjaa.Own
open Go.RowKit
set_option maxRecDepth 100000
set_option linter.unusedSimpArgs false
set_option linter.unusedVariables false
theorem codes_big (st c : Int) (d : List UInt8) (less : Int) (s : ByteArray) (w : World) (hs : decide ((s.size : Int) > 200) = true) :
    Calls Try.prog 3 #[.agg (sc st c d), .int .i64 less, .string s] w fun e w' => e = .returned (.bool true) ∧ Below w.heap.size w w' := by
  go_enter Try.func3, Try.ntmps3
  go_wp2_with fail
  have T := CX.start st c d w
  generalize hW : (w.alloc (.cells (sc st c d) 25)) = W1 at *
  clear hW
  refine (two_any _).mono ?_
  rintro e w2 ⟨rfl, bel2⟩
  have hfin := below_two T.bel bel2
  clear T
  go_wp2
  go_ret
  exact ⟨rfl, hfin⟩
theorem less_of (a : Int) : ∃ m : Nat, a < 0 ∧ m = 52 ∨ a = 0 ∧ m = 52 ∨ 52 < a ∧ m = 0 ∨ a = 52 ∧ m = 0 ∨ 0 < a ∧ a < 52 ∧ 52 - a = (m : Int) ∧ (52 - a).toNat = m := by
  by_cases h1 : a < 0
  · exact ⟨52, by omega⟩
  · by_cases h2 : a = 0
    · exact ⟨52, by omega⟩
    · by_cases h3 : 52 ≤ a
      · exact ⟨0, by omega⟩
      · exact ⟨(52 - a).toNat, by omega⟩
theorem sealCodes_walk (g0 : Sealed) (a1 : Int) (a2 : ByteArray) (w : World) (w0 : g0.ok w) (w1 : (Lit.int .i64 a1).wf = true) (w2 : a2.size ≤ 140737488351232) :
    Calls Try.prog 3 #[.agg g0.cells.toArray, .int .i64 a1, .string a2] w fun e w' => e = .returned (.bool true) ∧ Below w.heap.size w w' := by
  obtain ⟨S, d, hS, hd, hc, hg⟩ := sealed_of w0
  rw [hg]
  by_cases hb : (a2.size : Int) > 200
  · exact codes_big _ _ _ _ _ _ (decide_eq_true hb)
  · obtain ⟨m, hm⟩ := less_of a1
    have hL : a2.data.toList.length ≤ 200 := by
      have : a2.data.toList.length = a2.size := by rw [Array.length_toList]; rfl
      omega
    rw [← sB_of a2]
    generalize a2.data.toList = L at hL
    by_cases hy : (1 ≤ g0.count ∧ g0.count ≤ 65535) ∧ m = 52
    · obtain ⟨⟨c1, c2⟩, m52⟩ := hy
      obtain ⟨C, hC⟩ : ∃ C : Nat, g0.count = (C : Int) := ⟨g0.count.toNat, by omega⟩
      rw [hC]
      have hm' : a1 < 0 ∧ m = 52 ∨ a1 = 0 ∧ m = 52 := by omega
      by_cases ho : okL L
      · exact codes_ok_may S m C a1 d L w hd hS hL hm' ho (by omega) (by omega)
      · exact codes_no_may S m C a1 d L w hd hS hL hm' ho (by omega) (by omega)
    · have hn : decide (1 ≤ g0.count ∧ g0.count ≤ 65535 ∧ (d.take m).length = 52) = false := by
        rw [decide_eq_false_iff_not, List.length_take]
        omega
      by_cases ho : okL L
      · exact codes_ok_no S m g0.count a1 d L w hd hS hL hm ho hn
      · exact codes_no_no S m g0.count a1 d L w hd hS hL hm ho hn
end Go.Proofs.Ytndkbmpdanbkjaa.Own
