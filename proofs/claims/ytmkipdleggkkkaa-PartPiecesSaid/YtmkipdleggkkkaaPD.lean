/- Plain laws of a partition's records; a partition beside another. -/
import Derived.Test.YtmkipdleggkkkaaPC
namespace Go.Proofs.Ytmkipdleggkkkaa.Own
open Go.RowKit Go.Proofs.YtmkipdleggkkkaaW.PrintWords Go.Proofs.YtmkipdleggkkkaaW.PrintLast Go.Proofs.YtmkipdleggkkkaaW.PrintMore
set_option maxRecDepth 100000
set_option linter.unusedSimpArgs false
set_option linter.unusedVariables false
theorem nxt_append (xs ys : List PB.S45) (a : Int) : nxt (xs ++ ys) a = nxt ys (nxt xs a) := by
  unfold nxt; rw [List.foldl_append]
theorem riseB_append (xs ys : List PB.S45) : ∀ a, riseB (xs ++ ys) a = (riseB xs a && riseB ys (nxt xs a)) := by
  induction xs with
  | nil => intro a; simp [riseB, nxt]
  | cons x t ih =>
    intro a
    rw [List.cons_append, riseB, riseB]
    by_cases h : x.f0 < a
    · rw [if_pos h, if_pos h]; rfl
    · rw [if_neg h, if_neg h, ih]; rfl
theorem nobad_iff (xs : List PB.S45) : decide (∃ x ∈ xs, PuB.mayB x = false) = false ↔ ∀ x ∈ xs, PuB.mayB x = true := by
  rw [decide_eq_false_iff_not]
  constructor
  · intro h x hx
    cases hm : PuB.mayB x with
    | true => rfl
    | false => exact absurd ⟨x, hx, hm⟩ h
  · rintro h ⟨x, hx, hm⟩
    rw [h x hx] at hm; cases hm
/-- A partition is not touched by what another one does. -/
theorem PS.other {B g : Nat} {v : Value} {l : List PB.S45} {st nx mk : Int} {w : World} (h : PS B g v l st nx mk w) {g2 : Nat} {v2 : Value} {w1 : World} (hf : Fr g2 v2 w w1) (n1 : g ≠ g2) (n2 : some g ≠ v2.ownBlock) (n3 : ∀ b, v.ownBlock = some b → b ≠ g2 ∧ some b ≠ v2.ownBlock) : PS B g v l st nx mk w1 := by
  refine ⟨(hf.block g (blk_lt h.blk) n1 n2).trans h.blk, h.lo, ?_⟩
  have ht := Kd.R_tight (d := PB.k45) rfl h.row
  refine Kd.R_mono (Kd.R_step ht (fun k hk hl => ?_)) (fun k hk => h.row.1 k hk.symm)
  have := n3 k hk.symm
  exact hf.block k hl this.1 this.2
theorem PS.own_lt {B g : Nat} {v : Value} {l : List PB.S45} {st nx mk : Int} {w : World} (h : PS B g v l st nx mk w) {b : Nat} (hb : v.ownBlock = some b) : b < w.heap.size := ((Kd.R_bound h.row).1 b hb).2.2.1
theorem PS.own_ne {B g : Nat} {v : Value} {l : List PB.S45} {st nx mk : Int} {w : World} (h : PS B g v l st nx mk w) {b : Nat} (hb : v.ownBlock = some b) : b ≠ g := h.row.1 b hb
theorem sep_of {A : Option Addr} {xs : List PB.S45} {w w1 : World} {g : Nat} {v : Value} (hr : Kd.C PB.k45 w A xs.length xs) (hg : w.heap.size ≤ g) (hv : ∀ b, v.ownBlock = some b → w.heap.size ≤ b) : Sep A xs.length g v := fun h0 ad e => by
  subst e
  have := Kd.C_lt hr h0 (by decide)
  exact ⟨by omega, fun e => by have := hv _ e.symm; omega⟩
end Go.Proofs.Ytmkipdleggkkkaa.Own
