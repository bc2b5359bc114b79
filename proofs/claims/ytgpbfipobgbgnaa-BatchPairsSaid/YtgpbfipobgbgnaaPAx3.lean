-- written by a program of this claim (a changed copy of a tool of the kit)
import Derived.Test.YtgpbfipobgbgnaaPAx0
namespace Go.Proofs.Ytgpbfipobgbgnaa.PA
open Go.RowKit Go.Proofs.YtgpbfipobgbgnaaW.PrintWords Go.Proofs.YtgpbfipobgbgnaaW.PrintLast Go.Proofs.YtgpbfipobgbgnaaW.PrintMore
attribute [local go_sem] max2_int min2_int max_two min_two max_three min_three max_four min_four   -- for this text's walks alone
set_option linter.unusedVariables false
set_option linter.unusedSimpArgs false

/-! ### batch_Right: function 8 -/
def cvP (x : S26) : PB.S26 := ⟨x.f0, x.f1, x.f2⟩
theorem cvP_reads {w : World} {A : Option Addr} {n : Nat} {l : List S26} (h : Kd.C k26 w A n l) : Kd.C PB.k26 w A n (l.map cvP) := by
  obtain ⟨hl, hm, hr⟩ := h
  refine ⟨by simp [hl], hm, fun hp => ?_⟩
  obtain ⟨ad, ha, hc⟩ := hr hp
  refine ⟨ad, ha, fun j p hj => ?_⟩
  rw [List.getElem?_map] at hj
  cases hlj : l[j]? with
  | none => rw [hlj] at hj; cases hj
  | some x =>
    rw [hlj] at hj
    cases hj
    obtain ⟨c, h1, h2, h3⟩ := hc j x hlj
    obtain rfl := k26_open h2
    exact ⟨_, h1, PB.k26_mk w (cvP x), h3⟩
def batch_Right.f (l0 : List (S26)) : Option (Int) := some (Rt.rightF (l0.map cvP))
theorem batch_Right.calls (A0 : Option Addr) (c0 : Nat) (l0 : List (S26)) (r : Int) (w : World) (hr0 : Kd.C k26 w A0 l0.length l0) (hc0 : l0.length ≤ c0) (h : batch_Right.f l0 = some r) :
    Calls Try.prog 8 #[.slice A0 l0.length c0] w fun e w' => e = .returned (.int .i64 r) ∧ Below w.heap.size w w' := by
  have hl : (l0.map cvP).length = l0.length := List.length_map _
  cases h
  rw [← hl]
  exact Rt.right_all A0 c0 _ w (by rw [hl]; exact cvP_reads hr0) (by rw [hl]; exact hc0)


end Go.Proofs.Ytgpbfipobgbgnaa.PA
