/- Which records may be: the program's and the document's answer, as one test. -/
import Derived.Test.YtmkipdleggkkkaaEv
import Derived.Test.YtmkipdleggkkkaaPBx2
namespace Go.Proofs.Ytmkipdleggkkkaa.PuB
open Go.RowKit Go.Proofs.YtmkipdleggkkkaaW.PrintWords Go.Proofs.Ytmkipdleggkkkaa.Pu Go.Proofs.Ytmkipdleggkkkaa.PB
set_option linter.unusedSimpArgs false
set_option linter.unusedVariables false
def upB (a b : Int) : Bool := decide (0 ≤ a ∧ a ≤ b)
theorem upB_iff {a b : Int} : upB a b = true ↔ 0 ≤ a ∧ a ≤ b := by unfold upB; simp
def restB (x : S45) : Bool := (!(decide (x.f5 = 0) && !decide (x.f6 = 0))) && decide (x.f2.size ≤ 32) && decide (x.f3.size ≤ 200) && (!x.f4 || (decide (0 < x.f2.size) && decide (x.f3.size = 0)))
def mayB (x : S45) : Bool := upB x.f0 1048576 && (upB x.f1 1099511627776 && (upB x.f5 1099511627776 && (upB x.f6 1099511627776 && (upB x.f7 1099511627776 && restB x))))
theorem mayB_iff (x : S45) : mayB x = true ↔ (0 ≤ x.f0 ∧ x.f0 ≤ 1048576) ∧ (0 ≤ x.f1 ∧ x.f1 ≤ 1099511627776) ∧ (0 ≤ x.f5 ∧ x.f5 ≤ 1099511627776) ∧ (0 ≤ x.f6 ∧ x.f6 ≤ 1099511627776) ∧ (0 ≤ x.f7 ∧ x.f7 ≤ 1099511627776) ∧ restB x = true := by
  unfold mayB; simp only [Bool.and_eq_true, upB_iff]
theorem restB_iff (x : S45) : restB x = true ↔ (x.f5 = 0 → x.f6 = 0) ∧ x.f2.size ≤ 32 ∧ x.f3.size ≤ 200 ∧ (x.f4 = true → 0 < x.f2.size ∧ x.f3.size = 0) := by
  unfold restB
  by_cases h1 : x.f5 = 0 <;> by_cases h2 : x.f6 = 0 <;> by_cases h3 : x.f4 = true <;> simp [h1, h2, h3, and_assoc]
end Go.Proofs.Ytmkipdleggkkkaa.PuB
