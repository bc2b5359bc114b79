/- Several texts of this claim in one. -/
import Derived.Test.YtmkipdleggkkkaaEv
import Derived.Test.YtmkipdleggkkkaaPBx2
/- Which records may be: the program's and the document's answer, as one test. -/
namespace Go.Proofs.Ytmkipdleggkkkaa.PuB
open Go.RowKit Go.Proofs.YtmkipdleggkkkaaW.PrintWords Go.Proofs.Ytmkipdleggkkkaa.Pu Go.Proofs.Ytmkipdleggkkkaa.PB
set_option linter.unusedSimpArgs false
set_option linter.unusedVariables false
def upB (a b : Int) : Bool := decide (0 ≤ a ∧ a ≤ b)
theorem upB_iff {a b : Int} : upB a b = true ↔ 0 ≤ a ∧ a ≤ b := by unfold upB; simp
def restB (x : S45) : Bool := (!(decide (x.f5 = 0) && !decide (x.f6 = 0))) && decide (x.f2.size ≤ 32) && decide (x.f3.size ≤ 200) && (!x.f4 || (decide (0 < x.f2.size) && decide (x.f3.size = 0)))
def mayB (x : S45) : Bool := upB x.f0 1048576 && (upB x.f1 1099511627776 && (upB x.f5 1099511627776 && (upB x.f6 1099511627776 && (upB x.f7 1099511627776 && restB x))))
theorem mayB_iff (x : S45) : mayB x = true ↔ (0 ≤ x.f0 ∧ x.f0 ≤ 1048576) ∧ (0 ≤ x.f1 ∧ x.f1 ≤ 1099511627776) ∧ (0 ≤ x.f5 ∧ x.f5 ≤ 1099511627776) ∧ (0 ≤ x.f6 ∧ x.f6 ≤ 1099511627776) ∧ (0 ≤ x.f7 ∧ x.f7 ≤ 1099511627776) ∧ restB x = true := by
  unfold mayB; simp only [Bool.and_eq_true, upB_iff]
theorem restB_iff (x : S45) : restB x = true ↔ (x.f5 = 0 → x.f6 = 0) ∧ x.f2.size ≤ 32 ∧ x.f3.size ≤ 200 ∧ (x.f4 = true → 0 < x.f2.size ∧ x.f3.size = 0) := by
  unfold restB
  by_cases h1 : x.f5 = 0 <;> by_cases h2 : x.f6 = 0 <;> by_cases h3 : x.f4 = true <;> simp [h1, h2, h3, and_assoc]
end Go.Proofs.Ytmkipdleggkkkaa.PuB
/- Which records may be, by the program. -/
namespace Go.Proofs.Ytmkipdleggkkkaa.PuB
open Go.RowKit Go.Proofs.YtmkipdleggkkkaaW.PrintWords Go.Proofs.Ytmkipdleggkkkaa.Pu Go.Proofs.Ytmkipdleggkkkaa.PB
set_option linter.unusedSimpArgs false
set_option linter.unusedVariables false
theorem recUp_eq (a b : Int) : record_upTo.f a b = some (upB a b) := by
  unfold record_upTo.f upB
  by_cases h : 0 ≤ a
  · rw [if_pos h]; simp [h]
  · rw [if_neg h]; simp [h]
theorem recJ2 (k : Nat) (b : Bool) (x : S45) (hb : b = (decide (x.f5 = 0) && !decide (x.f6 = 0))) : record_May.j2 (k + 1) b x.f0 x.f1 x.f2 x.f3 x.f4 x.f5 x.f6 x.f7 = some (restB x) := by
  obtain ⟨a, b, c, d, e, f, g, h⟩ := x
  subst hb
  rw [record_May.j2]
  unfold restB
  have q9 : (c.toList = ([] : List UInt8)) = (c.size = 0) := propext (str_nil c)
  have q10 : (d.toList == ([] : List UInt8)) = decide (d.size = 0) := by
    by_cases h : d.size = 0
    · rw [(str_nil d).2 h]; simp [h]
    · have := mt (str_nil d).1 h
      simp [h, this]
  simp only [q9, q10]
  generalize c.size = m
  generalize d.size = n
  have q3 : ((m : Int) > 32) = (32 < m) := by apply propext; omega
  have q4 : ((n : Int) > 200) = (200 < n) := by apply propext; omega
  have q7 : (32 < m) = ¬ (m ≤ 32) := by apply propext; omega
  have q8 : (200 < n) = ¬ (n ≤ 200) := by apply propext; omega
  have q11 : (0 < m) = ¬ (m = 0) := by apply propext; omega
  simp only [q3, q4, q7, q8, q11]
  by_cases h1 : f = 0 <;> by_cases h2 : g = 0 <;> by_cases h3 : m ≤ 32 <;> by_cases h4 : n ≤ 200 <;> by_cases h5 : m = 0 <;> cases e <;> simp [h1, h2, h3, h4, h5]
theorem recMay_ev (x : S45) : Ev (fun k => record_May.f k x.f0 x.f1 x.f2 x.f3 x.f4 x.f5 x.f6 x.f7) (mayB x) := by
  refine ⟨3, fun k hk => ?_⟩
  obtain ⟨k, rfl⟩ : ∃ m, k = m + 3 := ⟨k - 3, by omega⟩
  unfold record_May.f mayB
  simp only [recUp_eq, Option.bind_some]
  have j2 : ∀ b, b = (decide (x.f5 = 0) && !decide (x.f6 = 0)) → record_May.j2 (k + 1) b x.f0 x.f1 x.f2 x.f3 x.f4 x.f5 x.f6 x.f7 = some (restB x) := fun b hb => recJ2 k b x hb
  have j1t : record_May.j1 (k + 2) true x.f0 x.f1 x.f2 x.f3 x.f4 x.f5 x.f6 x.f7 = some false := by rw [record_May.j1, if_pos rfl]
  have j1f : record_May.j1 (k + 2) false x.f0 x.f1 x.f2 x.f3 x.f4 x.f5 x.f6 x.f7 = some (restB x) := by
    rw [record_May.j1, if_neg (by decide)]
    by_cases h : x.f5 = 0
    · rw [if_pos h, j2 _ (by by_cases h6 : x.f6 = 0 <;> simp [h, h6])]
    · rw [if_neg h, j2 _ (by simp [h])]
  have j0t : record_May.j0 (k + 3) true x.f0 x.f1 x.f2 x.f3 x.f4 x.f5 x.f6 x.f7 = some false := by rw [record_May.j0, if_pos rfl]
  have j0f : record_May.j0 (k + 3) false x.f0 x.f1 x.f2 x.f3 x.f4 x.f5 x.f6 x.f7 = some (upB x.f5 1099511627776 && (upB x.f6 1099511627776 && (upB x.f7 1099511627776 && restB x))) := by
    rw [record_May.j0, if_neg (by decide)]
    simp only [recUp_eq, Option.bind_some]
    cases upB x.f5 1099511627776 <;> cases upB x.f6 1099511627776 <;> cases upB x.f7 1099511627776 <;> simp [j1t, j1f]
  cases upB x.f0 1048576 <;> cases upB x.f1 1099511627776 <;> simp [j0t, j0f]
end Go.Proofs.Ytmkipdleggkkkaa.PuB
/- How many bytes a record has. -/
namespace Go.Proofs.Ytmkipdleggkkkaa.PuB
open Go.RowKit Go.Proofs.YtmkipdleggkkkaaW.PrintWords Go.Proofs.Ytmkipdleggkkkaa.Pu Go.Proofs.Ytmkipdleggkkkaa.PB
set_option linter.unusedSimpArgs false
set_option linter.unusedVariables false
/-- How many bytes a record has. -/
def szR (x : S45) : Int := if mayB x = true then (((Own.recL x.f0.toNat x.f1.toNat x.f5.toNat x.f6.toNat x.f7.toNat x.f4 x.f2 x.f3).length : Nat) : Int) else 0
theorem enc_eq (x : S45) (h : mayB x = true) : record_encode.f x.f0 x.f1 x.f2 x.f3 x.f4 x.f5 x.f6 x.f7 = some (Own.sB (Own.recL x.f0.toNat x.f1.toNat x.f5.toNat x.f6.toNat x.f7.toNat x.f4 x.f2 x.f3)) := by
  rw [mayB_iff] at h
  obtain ⟨⟨a, b⟩, ⟨c, d⟩, ⟨e, f⟩, ⟨g, i⟩, ⟨j, l⟩, m⟩ := h
  rw [restB_iff] at m
  unfold record_encode.f
  rw [if_pos ⟨a, by omega, c, d, e, f, g, i, j, l, m.2.1, m.2.2.1⟩]
theorem recSize_ev (x : S45) : Ev (fun k => record_Size.f k x.f0 x.f1 x.f2 x.f3 x.f4 x.f5 x.f6 x.f7) (szR x) := by
  unfold record_Size.f
  refine Ev.bind (recMay_ev x) ?_
  by_cases h : mayB x = true
  · refine Ev.pos h (Ev.get ?_ (show _ = szR x from (if_pos h).symm))
    refine Ev.cst ?_
    rw [enc_eq x h]
    simp only [Option.bind_some, Own.sB_size]
  · exact Ev.neg h (Ev.get (Ev.now 0) (show _ = szR x from (if_neg h).symm))
end Go.Proofs.Ytmkipdleggkkkaa.PuB
/- Which records may be, by the document. -/
namespace Go.Proofs.Ytmkipdleggkkkaa.PuB
open Go.RowKit Go.Proofs.YtmkipdleggkkkaaW.PrintWords Go.Proofs.Ytmkipdleggkkkaa.Pu Go.Proofs.Ytmkipdleggkkkaa.PB
set_option linter.unusedSimpArgs false
set_option linter.unusedVariables false
theorem refUp_eq (a b : Int) : weighlockref16_upTo.f a b = some (upB a b) := by
  unfold weighlockref16_upTo.f upB
  by_cases h : 0 ≤ a
  · rw [if_pos h]; simp [h]
  · rw [if_neg h]; simp [h]
theorem refJ_true (k : Nat) (a b : Int) (c d : ByteArray) (e : Bool) (f g h : Int) : weighlockref16_May.j0 (k + 1) true a b c d e f g h = some false := by rw [weighlockref16_May.j0, if_pos rfl]
theorem refJ_false (k : Nat) (x : S45) : weighlockref16_May.j0 (k + 1) false x.f0 x.f1 x.f2 x.f3 x.f4 x.f5 x.f6 x.f7 = some (restB x) := by
  obtain ⟨a, b, c, d, e, f, g, h⟩ := x
  rw [weighlockref16_May.j0, if_neg (by decide)]
  unfold restB
  simp only
  generalize c.size = m
  generalize d.size = n
  have q3 : ((m : Int) > 32) = (32 < m) := by apply propext; omega
  have q4 : ((n : Int) > 200) = (200 < n) := by apply propext; omega
  have q5 : ((m : Int) > 0) = (0 < m) := by apply propext; omega
  have q6 : ((n : Int) == 0) = decide (n = 0) := by by_cases h : n = 0 <;> simp [h]
  have q7 : (32 < m) = ¬ (m ≤ 32) := by apply propext; omega
  have q8 : (200 < n) = ¬ (n ≤ 200) := by apply propext; omega
  simp only [q3, q4, q5, q6, q7, q8]
  by_cases h1 : f = 0 <;> by_cases h2 : g = 0 <;> by_cases h3 : m ≤ 32 <;> by_cases h4 : n ≤ 200 <;> by_cases h5 : 0 < m <;> cases e <;> simp [h1, h2, h3, h4, h5]
theorem refMay_ev (x : S45) : Ev (fun k => weighlockref16_May.f k x.f0 x.f1 x.f2 x.f3 x.f4 x.f5 x.f6 x.f7) (mayB x) := by
  refine ⟨1, fun k hk => ?_⟩
  obtain ⟨k, rfl⟩ : ∃ m, k = m + 1 := ⟨k - 1, by omega⟩
  unfold weighlockref16_May.f mayB
  simp only [refUp_eq, Option.bind_some]
  cases upB x.f0 1048576 <;> cases upB x.f1 1099511627776 <;> cases upB x.f5 1099511627776 <;> cases upB x.f6 1099511627776 <;> cases upB x.f7 1099511627776 <;> simp [refJ_true, refJ_false]
end Go.Proofs.Ytmkipdleggkkkaa.PuB
