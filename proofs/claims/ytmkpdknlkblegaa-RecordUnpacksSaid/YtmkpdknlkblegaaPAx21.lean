-- written by a program of this claim (a changed copy of a tool of the kit)
import Derived.Test.YtmkpdknlkblegaaSame
import Derived.Test.YtmkpdknlkblegaaPAx0
namespace Go.Proofs.Ytmkpdknlkblegaa.PA
open Go.RowKit Go.Proofs.YtmkpdknlkblegaaW.PrintWords Go.Proofs.YtmkpdknlkblegaaW.PrintLast Go.Proofs.YtmkpdknlkblegaaW.PrintMore
attribute [local go_sem] max2_int min2_int max_two min_two max_three min_three max_four min_four   -- for this text's walks alone
set_option linter.unusedVariables false
set_option linter.unusedSimpArgs false

/-! ### weighlockref16_Same: function 21 -/
def cvR (x : S23) : PB.S23 := ⟨x.f0, x.f1, x.f2, x.f3, x.f4, x.f5, x.f6, x.f7⟩
theorem cvR_reads {w : World} {A : Option Addr} {n : Nat} {l : List S23} (h : Kd.C k23 w A n l) : Kd.C PB.k23 w A n (l.map cvR) := by
  obtain ⟨hl, hm, hr⟩ := h
  refine ⟨by simp [hl], hm, fun hp => ?_⟩
  obtain ⟨ad, ha, hc⟩ := hr hp
  refine ⟨ad, ha, fun j p hj => ?_⟩
  rw [List.getElem?_map] at hj
  cases hlj : l[j]? with
  | none => rw [hlj] at hj; cases hj
  | some x =>
    rw [hlj] at hj
    cases hj
    obtain ⟨c, h1, h2, h3⟩ := hc j x hlj
    obtain rfl := k23_open h2
    exact ⟨_, h1, PB.k23_mk w (cvR x), h3⟩
def weighlockref16_Same.f (l0 : List (S23)) (l1 : List (S23)) : Option (Bool) := some (Sm.sameB (l0.map cvR) (l1.map cvR))
theorem weighlockref16_Same.calls (A0 : Option Addr) (c0 : Nat) (l0 : List (S23)) (A1 : Option Addr) (c1 : Nat) (l1 : List (S23)) (r : Bool) (w : World) (hr0 : Kd.C k23 w A0 l0.length l0) (hc0 : l0.length ≤ c0) (hr1 : Kd.C k23 w A1 l1.length l1) (hc1 : l1.length ≤ c1) (h : weighlockref16_Same.f l0 l1 = some r) :
    Calls Try.prog 21 #[.slice A0 l0.length c0, .slice A1 l1.length c1] w fun e w' => e = .returned (.bool r) ∧ Below w.heap.size w w' := by
  have e0 : (l0.map cvR).length = l0.length := List.length_map _
  have e1 : (l1.map cvR).length = l1.length := List.length_map _
  cases h
  rw [← e0, ← e1]
  exact Sm.same_any A0 c0 _ A1 c1 _ w (by rw [e0]; exact cvR_reads hr0) (by rw [e1]; exact cvR_reads hr1)


end Go.Proofs.Ytmkpdknlkblegaa.PA
