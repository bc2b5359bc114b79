/- RecordBounds over numbers and strings alone. -/
import Derived.Test.YtmkpdknlkblegaaPuOne
import Derived.Test.YtmkpdknlkblegaaPAx25
namespace Go.Proofs.Ytmkpdknlkblegaa.Pu
open Go.RowKit Go.Proofs.YtmkpdknlkblegaaW.PrintWords Go.Proofs.YtmkpdknlkblegaaW.PrintMore Go.Proofs.Ytmkpdknlkblegaa.PA
set_option linter.unusedSimpArgs false
set_option linter.unusedVariables false
theorem bounds_ev (x : S23) : Ev (fun k => weighlocklaw16_RecordBounds.f k x.f0 x.f1 x.f2 x.f3 x.f4 x.f5 x.f6 x.f7) true := by
  unfold weighlocklaw16_RecordBounds.f weighlocklaw16_large.f
  have hge := recA_ge x
  have hle := recA_le x
  have hmm : weighlockref16_May.f x.f0 x.f1 x.f2 x.f3 x.f4 x.f5 x.f6 x.f7 = some (mayA x) := rfl
  simp only [recSize_eq x, hmm, Option.bind_some]
  by_cases h2 : (x.f2.size : Int) > 300
  · simp only [if_pos h2, Option.bind_some]
    exact Ev.pos (by first | rfl | trivial) (Ev.bind one_ev (Ev.now _))
  · simp only [if_neg h2, Option.bind_some]
    by_cases h3 : (x.f3.size : Int) > 300
    · exact Ev.pos (by simpa using h3) (Ev.bind one_ev (Ev.now _))
    · refine Ev.neg (by simpa using h3) ?_
      have w1 : wrap64 (wrap64 (8 + (x.f2.size : Int)) + (x.f3.size : Int)) = 8 + (x.f2.size : Int) + (x.f3.size : Int) := by rw [wrap_id (a := 8 + _) (by omega) (by omega), wrap_id (by omega) (by omega)]
      have w2 : wrap64 (wrap64 (31 + (x.f2.size : Int)) + (x.f3.size : Int)) = 31 + (x.f2.size : Int) + (x.f3.size : Int) := by rw [wrap_id (a := 31 + _) (by omega) (by omega), wrap_id (by omega) (by omega)]
      rw [w1, w2]
      by_cases hm : mayA x = true
      · have := hle hm
        rw [if_pos hm]
        exact Ev.pos hm (Ev.pos (by omega) (Ev.pos (by omega) (Ev.bind one_ev (Ev.now _))))
      · rw [if_neg hm]
        exact Ev.neg hm (Ev.pos rfl (Ev.bind one_ev (Ev.now _)))
end Go.Proofs.Ytmkpdknlkblegaa.Pu
