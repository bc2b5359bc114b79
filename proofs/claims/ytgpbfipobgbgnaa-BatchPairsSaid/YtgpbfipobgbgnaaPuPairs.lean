/- The laws of the batches over lists and numbers alone. -/
import Derived.Test.YtgpbfipobgbgnaaPu
import Derived.Test.YtgpbfipobgbgnaaPAx13
namespace Go.Proofs.Ytgpbfipobgbgnaa.Pu
open Go.RowKit Go.Proofs.YtgpbfipobgbgnaaW.PrintWords Go.Proofs.YtgpbfipobgbgnaaW.PrintMore Go.Proofs.Ytgpbfipobgbgnaa.PA
set_option linter.unusedSimpArgs false
set_option linter.unusedVariables false
theorem pairs_ev (l : List S31) (h30 : l.length ≤ 30) : Ev (fun k => batch_Pairs.f k l) (l.map fun x => ⟨x.f2, x.f3, x.f4⟩) := by
  have key : ∀ (d m : Nat), l.length - m = d → m ≤ l.length → Ev (fun k => batch_Pairs.l0 k ((l.take m).map fun x => ⟨x.f2, x.f3, x.f4⟩) l (l.length : Int) (m : Int)) (l.map fun x => ⟨x.f2, x.f3, x.f4⟩) := by
    intro d
    induction d with
    | zero =>
      intro m hd hm
      obtain rfl : m = l.length := by omega
      rw [List.take_of_length_le (Nat.le_refl _)]
      exact Ev.step (fun k => batch_Pairs.l0.eq_2 ..) (Ev.neg (by omega) (Ev.now _))
    | succ d ih =>
      intro m hd hm
      have hlt : m < l.length := by omega
      have hl := List.length_take_le m l
      refine Ev.step (fun k => batch_Pairs.l0.eq_2 ..) (Ev.pos (by omega) (Ev.pos (by omega) (Ev.pos (by omega) (Ev.pos (by rw [List.length_map]; omega) ?_))))
      rw [rd31 l m hlt, wrap_id (by omega) (by omega)]
      have := ih (m + 1) (by omega) (by omega)
      rw [List.take_succ_eq_append_getElem hlt, List.map_append] at this
      exact this
  exact key l.length 0 (by omega) (by omega)
theorem batchPairs_ev (l : List S31) : Ev (fun k => weighlocklaw17_BatchPairs.f k l) true := by
  unfold weighlocklaw17_BatchPairs.f
  by_cases h : (l.length : Int) > 30
  · exact Ev.pos h (Ev.bind two_ev (Ev.now _))
  · refine Ev.neg h (Ev.bind (pairs_ev l (by omega)) (Ev.pos (by rw [List.length_map]) ?_))
    have key : ∀ (d m : Nat), l.length - m = d → m ≤ l.length → Ev (fun k => weighlocklaw17_BatchPairs.l0 k (l.map fun x => ⟨x.f2, x.f3, x.f4⟩) l (l.length : Int) (m : Int)) true := by
      intro d
      induction d with
      | zero =>
        intro m hd hm
        exact Ev.step (fun k => weighlocklaw17_BatchPairs.l0.eq_2 ..) (Ev.neg (by omega) (Ev.bind two_ev (Ev.now _)))
      | succ d ih =>
        intro m hd hm
        have hlt : m < l.length := by omega
        refine Ev.step (fun k => weighlocklaw17_BatchPairs.l0.eq_2 ..) (Ev.pos (by omega) (Ev.pos (by omega) (Ev.pos (by omega) (Ev.pos (by rw [List.length_map]; omega) ?_))))
        rw [rd31 l m hlt, rd26 _ m (by rw [List.length_map]; exact hlt), List.getElem_map, wrap_id (by omega) (by omega)]
        exact Ev.pos rfl (Ev.pos rfl (Ev.neg (by simp) (ih (m + 1) (by omega) (by omega))))
    exact key l.length 0 (by omega) (by omega)
end Go.Proofs.Ytgpbfipobgbgnaa.Pu
