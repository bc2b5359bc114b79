/- The walk of SealTorn at any arguments. -/
import Derived.Test.YtndkbmpdanbkjaaSh
import Derived.Test.YtndkbmpdanbkjaaLa
import Derived.Test.YtndkbmpdanbkjaaLb
import Derived.Test.YtndkbmpdanbkjaaLc
import Derived.Test.YtndkbmpdanbkjaaLd
import Derived.Test.YtndkbmpdanbkjaaLe
namespace Go.Proofs.Ytndkbmpdanbkjaa.Own
open Go.RowKit
set_option linter.unusedSimpArgs false
set_option linter.unusedVariables false
theorem zL_ends : zL.take 6 = zL.drop 58 := by decide
theorem zL_none : ¬ okL zL := fun h => h.2.2 (by decide)
theorem zL_ne {S C : Nat} {d : List UInt8} (hC1 : 1 ≤ C) (hC : C ≤ 65535) : (sealL S C d).take 6 ≠ zL.take 6 := by
  intro e
  have h : readL (((sealL S C d).take 6).drop 4) = C := by rw [← drop_take4]; exact sealL_c (by omega)
  rw [e] at h
  have z : readL ((zL.take 6).drop 4) = 0 := by decide
  omega
theorem sealTorn_walk (g0 g1 : Sealed) (a2 : Int) (w : World) (w0 : g0.ok w) (w1 : g1.ok w) (w2 : (Lit.int .i64 a2).wf = true) :
    Calls Try.prog 4 #[.agg g0.cells.toArray, .agg g1.cells.toArray, .int .i64 a2] w fun e w' => e = .returned (.bool true) ∧ Below w.heap.size w w' := by
  obtain ⟨S, d, hS, hd, hc, hg⟩ := sealed_of w0
  obtain ⟨S', d', hS', hd', hc', hg'⟩ := sealed_of w1
  rw [hg, hg']
  generalize g0.count = c at *
  generalize g1.count = c' at *
  clear hg hg' w0 w1
  by_cases hm : decide (1 ≤ c ∧ c ≤ 65535 ∧ d.length = 52) = false
  · exact torn_a _ _ _ _ _ _ _ _ hd hd' (Or.inl hm)
  have hm' : decide (1 ≤ c ∧ c ≤ 65535 ∧ d.length = 52) = true := by simpa using hm
  by_cases c1 : a2 < 0
  · exact torn_a _ _ _ _ _ _ _ _ hd hd' (Or.inr ⟨hm', Or.inl (decide_eq_true c1)⟩)
  by_cases c2 : a2 > 64
  · exact torn_a _ _ _ _ _ _ _ _ hd hd' (Or.inr ⟨hm', Or.inr ⟨decide_eq_false c1, Or.inl (decide_eq_true c2)⟩⟩)
  by_cases c3 : S = S' ∧ c = c'
  · exact torn_a _ _ _ _ _ _ _ _ hd hd' (Or.inr ⟨hm', Or.inr ⟨decide_eq_false c1, Or.inr ⟨decide_eq_false c2, by rw [c3.1]; exact beq_self_eq_true _, by rw [c3.2]; exact beq_self_eq_true _⟩⟩⟩)
  rw [decide_eq_true_iff] at hm'
  obtain ⟨C, rfl⟩ : ∃ C : Nat, c = (C : Int) := ⟨c.toNat, by omega⟩
  obtain ⟨cu, rfl⟩ : ∃ cu : Nat, a2 = (cu : Int) := ⟨a2.toNat, by omega⟩
  have hC1 : 1 ≤ C := by omega
  have hC : C ≤ 65535 := by omega
  have hK : cu ≤ 64 := by omega
  have he : ((S : Int) == (S' : Int)) = false ∨ ((S : Int) == (S' : Int)) = true ∧ ((C : Int) == c') = false := by
    by_cases e : S = S'
    · refine Or.inr ⟨by rw [e]; exact beq_self_eq_true _, ?_⟩
      rw [beq_eq_false_iff_ne]
      exact fun h => c3 ⟨e, h⟩
    · refine Or.inl ?_
      rw [beq_eq_false_iff_ne]
      omega
  have hsl := sealL_length S C hd
  have hs6 : (sealL S C d).take 6 = (sealL S C d).drop 58 := by rw [sealL_take, sealL_drop _ _ hd]
  by_cases hy : decide (1 ≤ c' ∧ c' ≤ 65535 ∧ d'.length = 52) = false
  · by_cases ho : okL ((sealL S C d).take cu ++ zL.drop cu)
    · rcases torn_or hsl zL_length hs6 zL_ends (zL_ne hC1 hC) hK ho with h | h
      · exact torn_x S C cu _ c' d d' w hd hd' hS hC1 hC hK hy he h
      · rw [h] at ho; exact absurd ho zL_none
    · exact torn_no S C cu _ c' d d' w hd hd' hS hC1 hC hK hy he ho (fun e => ho (by rw [e]; exact sealL_ok hd hC1 (by omega)))
  · have hy' : decide (1 ≤ c' ∧ c' ≤ 65535 ∧ d'.length = 52) = true := by simpa using hy
    have hz := hy'
    rw [decide_eq_true_iff] at hz
    obtain ⟨C', rfl⟩ : ∃ C' : Nat, c' = (C' : Int) := ⟨c'.toNat, by omega⟩
    have hC1' : 1 ≤ C' := by omega
    have hC' : C' ≤ 65535 := by omega
    have hne : (sealL S C d).take 6 ≠ (sealL S' C' d').take 6 := by
      rw [sealL_take, sealL_take]
      intro e
      have := markL_inj e hS hS' (by omega) (by omega)
      exact c3 ⟨this.1, by omega⟩
    by_cases ho : okL ((sealL S C d).take cu ++ (sealL S' C' d').drop cu)
    · rcases torn_or hsl (sealL_length S' C' hd') hs6 (by rw [sealL_take, sealL_drop _ _ hd']) hne hK ho with h | h
      · exact torn2_x S C S' C' cu d d' w hd hd' hS hC1 hC hK hy' hS' hC1' hC' he h
      · exact torn2_y S C S' C' cu d d' w hd hd' hS hC1 hC hK hy' hS' hC1' hC' he h
    · exact torn2_no S C S' C' cu d d' w hd hd' hS hC1 hC hK hy' hS' hC1' hC' he ho (fun e => ho (by rw [e]; exact sealL_ok hd hC1 (by omega)))
end Go.Proofs.Ytndkbmpdanbkjaa.Own
