/- Which records may be, by the document. -/
import Derived.Test.YtakbgaiedenikaaMay
import Derived.Test.YtakbgaiedenikaaPBx4
namespace Go.Proofs.Ytakbgaiedenikaa.PuB
open Go.RowKit Go.Proofs.YtakbgaiedenikaaW.PrintWords Go.Proofs.Ytakbgaiedenikaa.Pu Go.Proofs.Ytakbgaiedenikaa.PB
set_option linter.unusedSimpArgs false
set_option linter.unusedVariables false
theorem refUp_eq (a b : Int) : weighlockref16_upTo.f a b = some (upB a b) := by
  unfold weighlockref16_upTo.f upB
  by_cases h : 0 ≤ a
  · rw [if_pos h]; simp [h]
  · rw [if_neg h]; simp [h]
theorem refJ_true (k : Nat) (a b : Int) (c d : ByteArray) (e : Bool) (f g h : Int) : weighlockref16_May.j0 (k + 1) true a b c d e f g h = some false := by rw [weighlockref16_May.j0, if_pos rfl]
theorem refJ_false (k : Nat) (x : S54) : weighlockref16_May.j0 (k + 1) false x.f0 x.f1 x.f2 x.f3 x.f4 x.f5 x.f6 x.f7 = some (restB x) := by
  obtain ⟨a, b, c, d, e, f, g, h⟩ := x
  rw [weighlockref16_May.j0, if_neg (by decide)]
  unfold restB
  simp only
  generalize c.size = m
  generalize d.size = n
  have q3 : ((m : Int) > 32) = (32 < m) := by apply propext; omega
  have q4 : ((n : Int) > 200) = (200 < n) := by apply propext; omega
  have q5 : ((m : Int) > 0) = (0 < m) := by apply propext; omega
  have q6 : ((n : Int) == 0) = decide (n = 0) := by by_cases h : n = 0 <;> simp [h]
  have q7 : (32 < m) = ¬ (m ≤ 32) := by apply propext; omega
  have q8 : (200 < n) = ¬ (n ≤ 200) := by apply propext; omega
  simp only [q3, q4, q5, q6, q7, q8]
  by_cases h1 : f = 0 <;> by_cases h2 : g = 0 <;> by_cases h3 : m ≤ 32 <;> by_cases h4 : n ≤ 200 <;> by_cases h5 : 0 < m <;> cases e <;> simp [h1, h2, h3, h4, h5]
theorem refMay_ev (x : S54) : Ev (fun k => weighlockref16_May.f k x.f0 x.f1 x.f2 x.f3 x.f4 x.f5 x.f6 x.f7) (mayB x) := by
  refine ⟨1, fun k hk => ?_⟩
  obtain ⟨k, rfl⟩ : ∃ m, k = m + 1 := ⟨k - 1, by omega⟩
  unfold weighlockref16_May.f mayB
  simp only [refUp_eq, Option.bind_some]
  cases upB x.f0 1048576 <;> cases upB x.f1 1099511627776 <;> cases upB x.f5 1099511627776 <;> cases upB x.f6 1099511627776 <;> cases upB x.f7 1099511627776 <;> simp [refJ_true, refJ_false]
end Go.Proofs.Ytakbgaiedenikaa.PuB
