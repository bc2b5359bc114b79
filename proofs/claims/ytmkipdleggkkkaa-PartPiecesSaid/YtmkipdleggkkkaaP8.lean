/- The walks of Trim. -/
import Derived.Test.YtmkipdleggkkkaaP7
namespace Go.Proofs.Ytmkipdleggkkkaa.Own
open Go.RowKit Go.Proofs.YtmkipdleggkkkaaW.PrintWords Go.Proofs.YtmkipdleggkkkaaW.PrintLast Go.Proofs.YtmkipdleggkkkaaW.PrintMore
set_option maxRecDepth 100000
set_option linter.unusedSimpArgs false
set_option linter.unusedVariables false
attribute [local go_sem] max2_int min2_int max_two min_two max_three min_three max_four min_four
/-- A row's block is the old one, or new. -/
def Nw (v v' : Value) (w : World) : Prop := ∀ b, v'.ownBlock = some b → v.ownBlock = some b ∨ w.heap.size ≤ b
theorem Nw.refl (v : Value) (w : World) : Nw v v w := fun b h => Or.inl h
theorem Nw.trans {v v1 v2 : Value} {w w1 : World} (h : Nw v v1 w) (h1 : Nw v1 v2 w1) (hs : w.heap.size ≤ w1.heap.size) : Nw v v2 w := fun b hb => by
  rcases h1 b hb with e | e
  · exact h b e
  · exact Or.inr (Nat.le_trans hs e)
theorem Nw.of {v v' : Value} {w : World} (h : v'.ownBlock = v.ownBlock ∨ ∃ b, v'.ownBlock = some b ∧ w.heap.size ≤ b) : Nw v v' w := fun b hb => by
  rcases h with e | ⟨c, e, hc⟩
  · exact Or.inl (e ▸ hb)
  · rw [e] at hb; injection hb with hb; subst hb; exact Or.inr hc
theorem Fr.trans2 {g : Nat} {v v1 : Value} {w w1 w2 : World} (h : Fr g v w w1) (h1 : Fr g v1 w1 w2) (hv : Nw v v1 w) : Fr g v w w2 :=
  ⟨h1.os.trans h.os, h1.tape.trans h.tape, h1.output.trans h.output, Nat.le_trans h.size h1.size, fun k hk hg hn => by
    rw [h1.block k (Nat.lt_of_lt_of_le hk h.size) hg ?_, h.block k hk hg hn]
    intro e
    rcases hv k e.symm with e2 | e2
    · exact hn e2.symm
    · omega⟩
theorem newRow {w : World} {n B g : Nat} {v : Value} {l : List PB.S45} (h : Kd.R PB.k45 45 w n (fun _ => True) v l) (hB : B ≤ n) (hg : g < n) : Kd.R PB.k45 45 w B (fun k => k ≠ g) v l :=
  Kd.R_lower (Kd.R_mono (Kd.R_bound h) (fun k hk => by have := hk.2.1; omega)) hB
theorem newOwn {w w0 : World} {n : Nat} {v v0 : Value} {l : List PB.S45} (h : Kd.R PB.k45 45 w n (fun _ => True) v l) (hn : w0.heap.size ≤ n) : Nw v0 v w0 := fun b hb => Or.inr (Nat.le_trans hn ((Kd.R_bound h).1 b hb).2.1)
theorem trim_off {B g : Nat} {v : Value} {l : List PB.S45} {st nx mk : Int} {w : World} (h : PS B g v l st nx mk w) (a : Int) (hb : a < st ∨ nx < a) :
    Calls Try.prog 22 #[.pointer (some ⟨g, 0, none⟩), .int .i64 a] w fun e w' => e = .returned (.int .i64 34) ∧ Below w.heap.size w w' := by
  have q1 := blk_cell h.blk 1
  have q2 := blk_cell h.blk 2
  simp at q1 q2
  by_cases h1 : a < st
  · have e1 : decide (a < st) = true := decide_eq_true h1
    clear hb
    go_enter Try.func22, Try.ntmps22
    go_wp2
    all_goals go_ret
    all_goals exact ⟨rfl, Below.refl _ _⟩
  · have e1 : decide (a < st) = false := decide_eq_false h1
    have h2 : nx < a := by omega
    have e2 : decide (a > nx) = true := decide_eq_true h2
    clear hb
    go_enter Try.func22, Try.ntmps22
    go_wp2
    all_goals go_ret
    all_goals exact ⟨rfl, Below.refl _ _⟩
set_option maxHeartbeats 4000000 in
theorem trim_ok {B g : Nat} {v : Value} {l : List PB.S45} {st nx mk : Int} {w : World} (h : PS B g v l st nx mk w) (a : Int) (h1 : ¬ a < st) (h2 : ¬ nx < a) (hl : l.length ≤ 60000) (hs : risen l) :
    Calls Try.prog 22 #[.pointer (some ⟨g, 0, none⟩), .int .i64 a] w fun e w' => e = .returned (.int .i64 0) ∧ ∃ m : Nat, cutAt l a m ∧ ∃ v' : Value, PS B g v' (l.drop m) a nx (max mk a) w' ∧ Fr g v w w' ∧ Nw v v' w := by
  obtain ⟨A, c, rfl, hc, hC⟩ := h.len
  have q0 := blk_cell h.blk 0
  have q1 := blk_cell h.blk 1
  have q2 := blk_cell h.blk 2
  simp at q0 q1 q2
  have e1 : decide (a < st) = false := decide_eq_false h1
  have e2 : decide (a > nx) = false := decide_eq_false h2
  obtain ⟨i0, hi, hz⟩ := Option.map_eq_some_iff.1 info45
  have hz8 : i0.size = 8 := by simp only [Prod.mk.injEq] at hz; exact hz.2.1
  clear hz
  have H := Lib.hid h
  go_enter Try.func22, Try.ntmps22
  go_upto_region 5 with (fail)
  have q0d : w.drew.cell? ⟨g, 0, none⟩ = some (.slice A l.length c) := q0
  clear h hC q0
  go_region_with (first
    | (go_at_call 36; refine (find_any H.out.drew a hl hs).mono ?_; rintro e w4 ⟨⟨m, rfl, hm⟩, b4⟩; have hp4 := H.out.drew.below b4; have c4 : w4.cell? ⟨g, 0, none⟩ = some (.slice A l.length c) := (blk_cell hp4.blk 0).trans rfl; have kc := cut_from (P := Try.prog) 22 45 .i64 Try.underlying22 hi 8 hz8 A l.length c (m : Int) (by omega) (by have := hm.1; omega); rw [Int.toNat_natCast] at kc; obtain ⟨A1, hA1⟩ : ∃ A1, A1 = (if c = m then A else A.map (·.add (m * 8))) := ⟨_, rfl⟩; rw [← hA1] at kc; obtain ⟨d, hd⟩ : ∃ d, d = l.drop m := ⟨_, rfl⟩; have hdl : d.length = l.length - m := (congrArg List.length hd).trans List.length_drop; rw [← hdl] at kc; have hD : RowKit.Hid (Kd.C PB.k45 w4 A1 d.length d) := Lib.hid (by (subst hd; subst hA1; exact Kd.C_drop (m := m) hp4.read hm.1 hc)); have hlc : d.length ≤ c - m := (by omega); have hl6 : d.length ≤ 60000 := (by omega); have HDD := Lib.hid hd; clear hd hdl hA1)
    | (go_at_call 28; refine (clone_any A1 (c - m) d _ hD.out hlc hl6).mono ?_; rintro e w5 ⟨u, rfl, hR, b5⟩; obtain ⟨A3, c3, rfl⟩ := Kd.R_slice hR; have hp5 := hp4.below b5; have c5 : w5.cell? ⟨g, 0, none⟩ = some (.slice A l.length c) := (blk_cell hp5.blk 0).trans rfl; have f5 := blk_free hp5.blk 0))
  all_goals
    have B5 := Lib.hid (below_two (below_two (Below.refl _ w).drew b4) b5)
    have R5 := Lib.hid hR
    have K5 := Lib.hid hp5
    have hsz := b4.size
    have HM := Lib.hid hm
    have g1 := (blk_cell hp5.blk 1).trans rfl
    have g2 := (blk_cell hp5.blk 2).trans rfl
    have g3 := (blk_cell hp5.blk 3).trans rfl
    have k1 := blk_free hp5.blk 1
    have k3 := blk_free hp5.blk 3
    clear kc hD hR b4 b5 hp4 hp5 hm q0d c4 c5
    go_wp2
    all_goals
      go_ret
      obtain rfl := HDD.out
      refine ⟨rfl, m, HM.out, .slice A3 (l.drop m).length c3, ⟨?_, H.out.lo, Kd.R_far (Kd.R_far (Kd.R_far (newRow R5.out (Nat.le_trans H.out.lo (Nat.le_trans (Nat.le_of_lt (blk_lt H.out.blk)) hsz)) (Nat.lt_of_lt_of_le (blk_lt H.out.blk) hsz)) (fun k hk => hk) _) (fun k hk => hk) _) (fun k hk => hk) _⟩, ?_, newOwn R5.out hsz⟩
      · have e := heap_set (heap_set (heap_set K5.out.blk (i := 0) (.slice A3 (l.drop m).length c3)) (i := 1) (.int .i64 a)) (i := 3) (.int .i64 (max mk a))
        first
          | exact e
          | (rw [show max mk a = mk by omega] at e ⊢; exact e)
          | (rw [show max mk a = a by omega] at e ⊢; exact e)
      · exact Fr.set (Fr.set (Fr.set ((Fr.refl g _ w).below B5.out) _ _) _ _) _ _
end Go.Proofs.Ytmkipdleggkkkaa.Own
