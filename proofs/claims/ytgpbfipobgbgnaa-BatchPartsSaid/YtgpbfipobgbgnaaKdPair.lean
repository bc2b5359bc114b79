/- A slice of pairs that came in, as the printed contracts read it. -/
import Derived.Test.YtgpbfipobgbgnaaTypes
import Derived.Test.YtgpbfipobgbgnaaPAx0
namespace Go.Proofs.Ytgpbfipobgbgnaa.Pu
open Go.RowKit Go.WideShapes Go.Proofs.YtgpbfipobgbgnaaW.PrintWords Go.Proofs.Ytgpbfipobgbgnaa.PA
set_option linter.unusedSimpArgs false
def pairS (r : Own.Pair) : S26 := ⟨r.key, r.value, r.gone⟩
theorem pairs_read {w : World} {a : Option Addr} {n : Nat} {l : List Own.Pair} (h : Own.Row w 3 Own.Pair.cells a n l) : Kd.C k26 w a n (l.map pairS) := by
  obtain ⟨hl, hm, hr⟩ := h
  refine ⟨by simp [hl], by simpa [maxLen] using hm, fun hp => ?_⟩
  obtain ⟨b, off, ha, _, hc⟩ := hr hp
  refine ⟨⟨b, off, none⟩, ha, fun j p hj => ?_⟩
  rw [List.getElem?_map] at hj
  cases hlj : l[j]? with
  | none => rw [hlj] at hj; cases hj
  | some r =>
    rw [hlj] at hj
    cases hj
    obtain ⟨hlt, rfl⟩ := List.getElem?_eq_some_iff.1 hlj
    refine ⟨l[j].cells, rfl, k26_mk w (pairS l[j]), fun i u hi => ?_⟩
    have hil : i < l[j].cells.length := (List.getElem?_eq_some_iff.1 hi).1
    have := hc j hlt i hil
    rw [Go.WideShapes.add_plain, ← Nat.add_assoc]
    exact this.trans hi
end Go.Proofs.Ytgpbfipobgbgnaa.Pu
