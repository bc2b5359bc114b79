/- Which records may be, by the program. -/
import Derived.Test.YtmkipdleggkkkaaPMay0B
namespace Go.Proofs.Ytmkipdleggkkkaa.PuB
open Go.RowKit Go.Proofs.YtmkipdleggkkkaaW.PrintWords Go.Proofs.Ytmkipdleggkkkaa.Pu Go.Proofs.Ytmkipdleggkkkaa.PB
set_option linter.unusedSimpArgs false
set_option linter.unusedVariables false
theorem recUp_eq (a b : Int) : record_upTo.f a b = some (upB a b) := by
  unfold record_upTo.f upB
  by_cases h : 0 ≤ a
  · rw [if_pos h]; simp [h]
  · rw [if_neg h]; simp [h]
theorem recJ2 (k : Nat) (b : Bool) (x : S45) (hb : b = (decide (x.f5 = 0) && !decide (x.f6 = 0))) : record_May.j2 (k + 1) b x.f0 x.f1 x.f2 x.f3 x.f4 x.f5 x.f6 x.f7 = some (restB x) := by
  obtain ⟨a, b, c, d, e, f, g, h⟩ := x
  subst hb
  rw [record_May.j2]
  unfold restB
  have q9 : (c.toList = ([] : List UInt8)) = (c.size = 0) := propext (str_nil c)
  have q10 : (d.toList == ([] : List UInt8)) = decide (d.size = 0) := by
    by_cases h : d.size = 0
    · rw [(str_nil d).2 h]; simp [h]
    · have := mt (str_nil d).1 h
      simp [h, this]
  simp only [q9, q10]
  generalize c.size = m
  generalize d.size = n
  have q3 : ((m : Int) > 32) = (32 < m) := by apply propext; omega
  have q4 : ((n : Int) > 200) = (200 < n) := by apply propext; omega
  have q7 : (32 < m) = ¬ (m ≤ 32) := by apply propext; omega
  have q8 : (200 < n) = ¬ (n ≤ 200) := by apply propext; omega
  have q11 : (0 < m) = ¬ (m = 0) := by apply propext; omega
  simp only [q3, q4, q7, q8, q11]
  by_cases h1 : f = 0 <;> by_cases h2 : g = 0 <;> by_cases h3 : m ≤ 32 <;> by_cases h4 : n ≤ 200 <;> by_cases h5 : m = 0 <;> cases e <;> simp [h1, h2, h3, h4, h5]
theorem recMay_ev (x : S45) : Ev (fun k => record_May.f k x.f0 x.f1 x.f2 x.f3 x.f4 x.f5 x.f6 x.f7) (mayB x) := by
  refine ⟨3, fun k hk => ?_⟩
  obtain ⟨k, rfl⟩ : ∃ m, k = m + 3 := ⟨k - 3, by omega⟩
  unfold record_May.f mayB
  simp only [recUp_eq, Option.bind_some]
  have j2 : ∀ b, b = (decide (x.f5 = 0) && !decide (x.f6 = 0)) → record_May.j2 (k + 1) b x.f0 x.f1 x.f2 x.f3 x.f4 x.f5 x.f6 x.f7 = some (restB x) := fun b hb => recJ2 k b x hb
  have j1t : record_May.j1 (k + 2) true x.f0 x.f1 x.f2 x.f3 x.f4 x.f5 x.f6 x.f7 = some false := by rw [record_May.j1, if_pos rfl]
  have j1f : record_May.j1 (k + 2) false x.f0 x.f1 x.f2 x.f3 x.f4 x.f5 x.f6 x.f7 = some (restB x) := by
    rw [record_May.j1, if_neg (by decide)]
    by_cases h : x.f5 = 0
    · rw [if_pos h, j2 _ (by by_cases h6 : x.f6 = 0 <;> simp [h, h6])]
    · rw [if_neg h, j2 _ (by simp [h])]
  have j0t : record_May.j0 (k + 3) true x.f0 x.f1 x.f2 x.f3 x.f4 x.f5 x.f6 x.f7 = some false := by rw [record_May.j0, if_pos rfl]
  have j0f : record_May.j0 (k + 3) false x.f0 x.f1 x.f2 x.f3 x.f4 x.f5 x.f6 x.f7 = some (upB x.f5 1099511627776 && (upB x.f6 1099511627776 && (upB x.f7 1099511627776 && restB x))) := by
    rw [record_May.j0, if_neg (by decide)]
    simp only [recUp_eq, Option.bind_some]
    cases upB x.f5 1099511627776 <;> cases upB x.f6 1099511627776 <;> cases upB x.f7 1099511627776 <;> simp [j1t, j1f]
  cases upB x.f0 1048576 <;> cases upB x.f1 1099511627776 <;> simp [j0t, j0f]
end Go.Proofs.Ytmkipdleggkkkaa.PuB
