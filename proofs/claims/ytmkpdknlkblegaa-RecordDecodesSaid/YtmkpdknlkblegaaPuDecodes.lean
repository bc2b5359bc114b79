/- RecordDecodes over strings alone. -/
import Derived.Test.YtmkpdknlkblegaaPuOne
import Derived.Test.YtmkpdknlkblegaaPAx17
namespace Go.Proofs.Ytmkpdknlkblegaa.Pu
open Go.RowKit Go.Proofs.YtmkpdknlkblegaaW.PrintWords Go.Proofs.YtmkpdknlkblegaaW.PrintMore Go.Proofs.Ytmkpdknlkblegaa.PA
set_option linter.unusedSimpArgs false
set_option linter.unusedVariables false
theorem rdec_eq (s : ByteArray) (hs : s.size ≤ 9223372036854775807) : weighlockref16_Decode.f s = some (match decA s with | none => (0, 0, ⟨#[]⟩, ⟨#[]⟩, false, 0, 0, 0, 0, false) | some (r, c) => (r.f0, r.f1, r.f2, r.f3, r.f4, r.f5, r.f6, r.f7, (c : Int), true)) := by
  unfold weighlockref16_Decode.f decA
  rw [if_pos hs]
  cases Rd.decR s <;> rfl
theorem decodes_ev (s : ByteArray) : Ev (fun k => weighlocklaw16_RecordDecodes.f k s) true := by
  unfold weighlocklaw16_RecordDecodes.f
  by_cases h : (s.size : Int) > 400
  · exact Ev.pos h (Ev.bind one_ev (Ev.now _))
  · refine Ev.neg h ?_
    rw [dec_eq s (by omega), rdec_eq s (by omega)]
    cases decA s with
    | none =>
      simp only [Option.bind_some]
      refine Ev.pos (by decide) (Ev.neg (by decide) (Ev.pos (by first | rfl | trivial) ?_))
      refine Ev.pos (by simp) (Ev.pos (by first | rfl | trivial) (Ev.bind one_ev (Ev.now _)))
    | some q =>
      obtain ⟨r, c⟩ := q
      simp only [Option.bind_some]
      refine Ev.pos (by decide) (Ev.pos (by first | rfl | trivial) ?_)
      exact Ev.pos (by simp) (Ev.pos (by first | rfl | trivial) (Ev.bind one_ev (Ev.now _)))
end Go.Proofs.Ytmkpdknlkblegaa.Pu
