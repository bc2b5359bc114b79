/- RecordCodes over numbers and strings alone. -/
import Derived.Test.YtmkpdknlkblegaaPuOne
import Derived.Test.YtmkpdknlkblegaaPuEnc
import Derived.Test.YtmkpdknlkblegaaPAx15
namespace Go.Proofs.Ytmkpdknlkblegaa.Pu
open Go.RowKit Go.Proofs.YtmkpdknlkblegaaW.PrintWords Go.Proofs.YtmkpdknlkblegaaW.PrintMore Go.Proofs.Ytmkpdknlkblegaa.PA
set_option linter.unusedSimpArgs false
set_option linter.unusedVariables false
theorem codes_ev (x : S23) (more : ByteArray) : Ev (fun k => weighlocklaw16_RecordCodes.f k x.f0 x.f1 x.f2 x.f3 x.f4 x.f5 x.f6 x.f7 more) true := by
  have ht : ∀ (m : ByteArray), Ev (fun k => weighlocklaw16_RecordCodes.j0 k m true x.f0 x.f1 x.f2 x.f3 x.f4 x.f5 x.f6 x.f7) true := fun m => Ev.step (fun k => weighlocklaw16_RecordCodes.j0.eq_2 ..) (Ev.pos rfl (Ev.bind one_ev (Ev.now _)))
  unfold weighlocklaw16_RecordCodes.f weighlocklaw16_large.f
  by_cases h2 : (x.f2.size : Int) > 300
  · simp only [if_pos h2, Option.bind_some]
    exact Ev.pos (by first | rfl | trivial) (ht _)
  simp only [if_neg h2, Option.bind_some]
  by_cases h3 : (x.f3.size : Int) > 300
  · exact Ev.pos (by simpa using h3) (ht _)
  refine Ev.neg (by simpa using h3) ?_
  by_cases h4 : (more.size : Int) > 300
  · rw [show decide ((more.size : Int) > 300) = true by simpa using h4]; exact ht _
  rw [show decide ((more.size : Int) > 300) = false by simpa using h4]
  have hmm : weighlockref16_May.f x.f0 x.f1 x.f2 x.f3 x.f4 x.f5 x.f6 x.f7 = some (mayA x) := rfl
  have hm2 : record_May.f x.f0 x.f1 x.f2 x.f3 x.f4 x.f5 x.f6 x.f7 = some (mayA x) := rfl
  refine Ev.step (fun k => weighlocklaw16_RecordCodes.j0.eq_2 ..) (Ev.neg (by decide) ?_)
  simp only [recEncode_eq x, recSize_eq x, hmm, hm2, Option.bind_some]
  refine Ev.neg (by simp) ?_
  by_cases hm : mayA x = true
  · have hle := recA_le x hm
    rw [if_pos hm, if_pos hm]
    refine Ev.step (fun k => weighlocklaw16_RecordCodes.j1.eq_2 ..) (Ev.neg (by simp [Own.sB_size]) (Ev.pos hm (Ev.pos (by simp only [Own.sB_size]; omega) ?_)))
    have hb : Rd.bl (Own.sB (recA x) ++ more) = recA x ++ Rd.bl more := by
      have : more = Own.sB (Rd.bl more) := (Own.sB_of more).symm
      rw [this, Own.sB_append]
      simp only [Rd.bl, Own.sB_list]
    simp only [dec_eq (Own.sB (recA x) ++ more) (by rw [ByteArray.size_append, Own.sB_size]; omega), decA_of hb hm, Option.bind_some]
    refine Ev.pos (by first | rfl | trivial) (Ev.bind (refEnc_ev x.f0 x.f1 x.f2 x.f3 x.f4 x.f5 x.f6 x.f7 hm) (Ev.pos (by first | rfl | trivial) (Ev.pos (by first | rfl | trivial) (Ev.pos (by simp) (Ev.pos (by rw [Own.sB_size]) (Ev.bind one_ev (Ev.now _)))))))
  · rw [if_neg hm, if_neg hm]
    refine Ev.step (fun k => weighlocklaw16_RecordCodes.j1.eq_2 ..) (Ev.neg (by decide) (Ev.neg hm (Ev.pos rfl (Ev.pos ((str_nil _).2 rfl) (Ev.bind one_ev (Ev.now _))))))
end Go.Proofs.Ytmkpdknlkblegaa.Pu
