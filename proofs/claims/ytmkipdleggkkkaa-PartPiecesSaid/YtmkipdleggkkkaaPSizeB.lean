/- How many bytes a record has. -/
import Derived.Test.YtmkipdleggkkkaaPMayRecB
namespace Go.Proofs.Ytmkipdleggkkkaa.PuB
open Go.RowKit Go.Proofs.YtmkipdleggkkkaaW.PrintWords Go.Proofs.Ytmkipdleggkkkaa.Pu Go.Proofs.Ytmkipdleggkkkaa.PB
set_option linter.unusedSimpArgs false
set_option linter.unusedVariables false
/-- How many bytes a record has. -/
def szR (x : S45) : Int := if mayB x = true then (((Own.recL x.f0.toNat x.f1.toNat x.f5.toNat x.f6.toNat x.f7.toNat x.f4 x.f2 x.f3).length : Nat) : Int) else 0
theorem enc_eq (x : S45) (h : mayB x = true) : record_encode.f x.f0 x.f1 x.f2 x.f3 x.f4 x.f5 x.f6 x.f7 = some (Own.sB (Own.recL x.f0.toNat x.f1.toNat x.f5.toNat x.f6.toNat x.f7.toNat x.f4 x.f2 x.f3)) := by
  rw [mayB_iff] at h
  obtain ⟨⟨a, b⟩, ⟨c, d⟩, ⟨e, f⟩, ⟨g, i⟩, ⟨j, l⟩, m⟩ := h
  rw [restB_iff] at m
  unfold record_encode.f
  rw [if_pos ⟨a, by omega, c, d, e, f, g, i, j, l, m.2.1, m.2.2.1⟩]
theorem recSize_ev (x : S45) : Ev (fun k => record_Size.f k x.f0 x.f1 x.f2 x.f3 x.f4 x.f5 x.f6 x.f7) (szR x) := by
  unfold record_Size.f
  refine Ev.bind (recMay_ev x) ?_
  by_cases h : mayB x = true
  · refine Ev.pos h (Ev.get ?_ (show _ = szR x from (if_pos h).symm))
    refine Ev.cst ?_
    rw [enc_eq x h]
    simp only [Option.bind_some, Own.sB_size]
  · exact Ev.neg h (Ev.get (Ev.now 0) (show _ = szR x from (if_neg h).symm))
end Go.Proofs.Ytmkipdleggkkkaa.PuB
