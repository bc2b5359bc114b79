/- Several texts of this claim in one. -/
import Derived.Test.YtmkipdleggkkkaaUb
import Derived.Test.YtmkipdleggkkkaaSm
/- The walk of gap. -/
namespace Go.Proofs.Ytmkipdleggkkkaa.Own
open Go.RowKit Go.Proofs.YtmkipdleggkkkaaW.PrintWords Go.Proofs.YtmkipdleggkkkaaW.PrintLast Go.Proofs.YtmkipdleggkkkaaW.PrintMore
set_option maxRecDepth 100000
set_option linter.unusedSimpArgs false
set_option linter.unusedVariables false
theorem Fr.toBelow {g : Nat} {v : Value} {w0 w w1 : World} (h : Fr g v w w1) (hb : Below w0.heap.size w0 w) (hg : w0.heap.size ≤ g) (hv : ∀ b, v.ownBlock = some b → w0.heap.size ≤ b) : Below w0.heap.size w0 w1 :=
  ⟨h.os.trans hb.os, h.tape.trans hb.tape, h.output.trans hb.output, Nat.le_trans hb.size h.size, fun k hk => by
    rw [h.block k (Nat.lt_of_lt_of_le hk hb.size) (by omega) ?_]
    · exact hb.block k hk
    · intro e; have := hv k e.symm; omega⟩
theorem ad0 (b n : Nat) : (⟨b, 0, none⟩ : Addr).add n = ⟨b, n, none⟩ := by unfold Addr.add; split <;> simp_all
theorem C_one {w : World} {b : Nat} {x : PB.S45} (h : w.heap[b]? = some (.cells #[.int .i64 x.f0, .int .i64 x.f1, .string x.f2, .string x.f3, .bool x.f4, .int .i64 x.f5, .int .i64 x.f6, .int .i64 x.f7] 45 (0, 0))) :
    Kd.C PB.k45 w (some ⟨b, 0, none⟩) 1 [x] := by
  refine ⟨rfl, by omega, fun _ => ⟨_, rfl, fun j p hj => ?_⟩⟩
  match j with
  | 0 =>
    cases hj
    refine ⟨_, rfl, PB.k45_mk w x, fun i u hi => ?_⟩
    have := blk_cell h i
    rw [← hi, ad0, Nat.zero_mul, Nat.zero_add]
    simpa using this
  | j + 1 => cases hj
theorem C_two {w : World} {b : Nat} {x y : PB.S45} (h : w.heap[b]? = some (.cells #[.int .i64 x.f0, .int .i64 x.f1, .string x.f2, .string x.f3, .bool x.f4, .int .i64 x.f5, .int .i64 x.f6, .int .i64 x.f7, .int .i64 y.f0, .int .i64 y.f1, .string y.f2, .string y.f3, .bool y.f4, .int .i64 y.f5, .int .i64 y.f6, .int .i64 y.f7] 45 (0, 0))) :
    Kd.C PB.k45 w (some ⟨b, 0, none⟩) 2 [x, y] := by
  refine ⟨rfl, by omega, fun _ => ⟨_, rfl, fun j p hj => ?_⟩⟩
  match j with
  | 0 =>
    cases hj
    refine ⟨_, rfl, PB.k45_mk w x, fun i u hi => ?_⟩
    have hi8 : i < 8 := by
      rcases Nat.lt_or_ge i 8 with h | h
      · exact h
      · rw [List.getElem?_eq_none (by simpa using h)] at hi; cases hi
    have := blk_cell h i
    match i with
    | 0 | 1 | 2 | 3 | 4 | 5 | 6 | 7 => rw [← hi, ad0]; simpa using this
    | i + 8 => omega
  | 1 =>
    cases hj
    refine ⟨_, rfl, PB.k45_mk w y, fun i u hi => ?_⟩
    have hi8 : i < 8 := by
      rcases Nat.lt_or_ge i 8 with h | h
      · exact h
      · rw [List.getElem?_eq_none (by simpa using h)] at hi; cases hi
    have := blk_cell h (8 + i)
    match i with
    | 0 | 1 | 2 | 3 | 4 | 5 | 6 | 7 => rw [← hi, ad0]; simpa [show PB.k45.sz = 8 from rfl] using this
    | i + 8 => omega
  | j + 2 => cases hj
def ga : PB.S45 := ⟨0, 0, ⟨#[]⟩, ⟨#[97]⟩, false, 0, 0, 0⟩
def gb : PB.S45 := ⟨2, 0, ⟨#[]⟩, ⟨#[98]⟩, false, 0, 0, 0⟩
theorem may_ga : PuB.mayB ga = true := by decide
theorem may_gb : PuB.mayB gb = true := by decide
theorem sz_ga : PuB.szR ga = 9 := by
  unfold PuB.szR
  rw [if_pos may_ga]
  simp [ga, recL, textL, chainL_lt, ByteArray.size]
theorem sz_gb : PuB.szR gb = 9 := by
  unfold PuB.szR
  rw [if_pos may_gb]
  simp [gb, recL, textL, chainL_lt, ByteArray.size]
theorem sum_g : sumS [ga, gb] 0 = 18 := by
  simp [sumS, sz_ga, sz_gb, wrap64]
theorem bad_g : decide (∃ x ∈ [ga, gb], PuB.mayB x = false) = false := by
  rw [decide_eq_false_iff_not]
  rintro ⟨x, hx, h⟩
  rcases List.mem_cons.1 hx with rfl | hx
  · rw [may_ga] at h; cases h
  · rcases List.mem_cons.1 hx with rfl | hx
    · rw [may_gb] at h; cases h
    · cases hx
theorem rise_g : riseB [ga, gb] 0 = true := by simp [riseB, ga, gb, wrap64]
theorem nxt_g : nxt [ga, gb] 0 = 3 := by simp [nxt, gb, wrap64]
theorem risen_g : risen [ga, gb] := by
  intro a b hab hb
  match a, b with
  | 0, 1 => decide
  | 0, b + 2 => exact absurd hb (by simp)
  | a + 1, b + 2 => exact absurd hb (by simp)
  | a + 1, 1 => omega
  | 0, 0 => omega
  | a + 1, 0 => omega
set_option maxHeartbeats 1000000 in
theorem gap_any (w : World) : Calls Try.prog 7 #[] w fun e w' => e = .returned (.bool true) ∧ Below w.heap.size w w' := by
  go_enter Try.func7, Try.ntmps7
  go_wp2_with fail
  refine (new_any w.heap.size _ (Nat.le_refl _)).mono ?_
  rintro e w1 ⟨g, rfl, hg, hps, b1⟩
  have HG := Lib.hid (show w.heap.size ≤ g by omega); clear hg
  have P1 := Lib.hid hps; clear hps
  have B1 := Lib.hid b1; clear b1
  go_wp2_with fail
  have bA : Below w1.heap.size w1 (w1.alloc (.cells #[.int .i64 ga.f0, .int .i64 ga.f1, .string ga.f2, .string ga.f3, .bool ga.f4, .int .i64 ga.f5, .int .i64 ga.f6, .int .i64 ga.f7, .int .i64 gb.f0, .int .i64 gb.f1, .string gb.f2, .string gb.f3, .bool gb.f4, .int .i64 gb.f5, .int .i64 gb.f6, .int .i64 gb.f7] 45)) := (Below.refl _ _).alloc (Nat.le_refl _) _
  have hgl := blk_lt P1.out.blk
  refine (append_ok w.heap.size g _ [] 0 0 0 (some ⟨w1.heap.size, 0, none⟩) 2 [ga, gb] _ (P1.out.below bA) (C_two (heap_new _ _)) (by simp) (by simp) (by simp) (by intro _ ad e; cases e; exact ⟨by show w1.heap.size ≠ g; omega, by simp [Value.ownBlock]⟩) bad_g rise_g).mono ?_
  rintro e w2 ⟨rfl, v2, hp2, hf2, ho2⟩
  have N2 := Lib.hid (show ∀ b, v2.ownBlock = some b → w.heap.size ≤ b from fun b hb => ((Kd.R_bound hp2.row).1 b hb).2.1)
  have P2 := Lib.hid (show PS w.heap.size g v2 [ga, gb] 0 3 0 w2 from by have := hp2; rw [nxt_g] at this; exact this); clear hp2
  have B2 := Lib.hid (Fr.toBelow hf2 (below_two B1.out bA) HG.out (by simp [Value.ownBlock])); clear hf2 ho2 bA hgl
  go_wp2_with fail
  refine (fetch_off P2.out 1 9 (Or.inr (by decide))).mono ?_
  rintro e w3 ⟨rfl, b3⟩
  have P3 := Lib.hid (P2.out.below b3)
  have B3 := Lib.hid (below_two B2.out b3); clear b3
  go_wp2_with fail
  refine (mark_any P3.out).mono ?_
  rintro e w4 ⟨rfl, hp4, hf4⟩
  have P4 := Lib.hid hp4; clear hp4
  have B4 := Lib.hid (hf4.toBelow B3.out HG.out N2.out); clear hf4
  go_wp2_with fail
  refine (fetch_ok P4.out 1 9 9 (by decide) (by decide) (Or.inl (by decide)) (by simp) risen_g).mono ?_
  rintro e w5 ⟨m, k, u, on, hm, hk, hk9, hlow, hstop, hon, rfl, hR, b5⟩
  obtain rfl : m = 1 := by
    have h1 := hm.1
    simp at h1
    have h2 := hm.2.1 1
    have h3 := hm.2.2 0
    have e0 : (PB.rd_T45 [ga, gb] ((0 : Nat) : Int)).f0 = 0 := rfl
    have e1 : (PB.rd_T45 [ga, gb] ((1 : Nat) : Int)).f0 = 2 := rfl
    rw [e1] at h2
    rw [e0] at h3
    simp at h3
    omega
  have hd : [ga, gb].drop 1 = [gb] := rfl
  rw [hd] at hk hlow hstop hon hR
  obtain rfl : k = 1 := by
    simp at hk hstop
    have e0 : (PB.rd_T45 [gb] ((0 : Nat) : Int)).f0 = 2 := rfl
    rcases Nat.eq_zero_or_pos k with rfl | h
    · simp at hstop
      have : (PB.rd_T45 [gb] (0 : Int)).f0 = 2 := rfl
      omega
    · omega
  obtain rfl : on = 3 := hon.trans (by rw [if_neg (by decide)]; show wrap64 (2 + 1) = 3; simp [wrap64])
  obtain ⟨A5, c5, rfl⟩ := Kd.R_slice hR
  have hr5 := Kd.R_reads' hR
  have C5 := Lib.hid hr5.2.2
  have P5 := Lib.hid (P4.out.below b5)
  have B5 := Lib.hid (below_two B4.out b5)
  clear hr5 hR b5 hm hk hk9 hlow hstop hon hd
  go_wp2_with fail
  have bC : Below w5.heap.size w5 (w5.alloc (.cells #[.int .i64 gb.f0, .int .i64 gb.f1, .string gb.f2, .string gb.f3, .bool gb.f4, .int .i64 gb.f5, .int .i64 gb.f6, .int .i64 gb.f7] 45)) := (Below.refl _ _).alloc (Nat.le_refl _) _
  refine (Sm.same_any A5 c5 [gb] (some ⟨w5.heap.size, 0, none⟩) 1 [gb] _ (Kd.C_below C5.out bC) (C_one (heap_new _ _))).mono ?_
  rintro e w6 ⟨rfl, b6⟩
  rw [Sm.sameB_refl]
  have P6 := Lib.hid ((P5.out.below bC).below b6)
  have B6 := Lib.hid (below_two (below_two B5.out bC) b6); clear b6 bC
  go_wp2_with fail
  refine (next_any P6.out).mono ?_
  rintro e w7 ⟨rfl, b7⟩
  have P7 := Lib.hid (P6.out.below b7)
  have B7 := Lib.hid (below_two B6.out b7); clear b7
  go_wp2_with fail
  refine (seen_any P7.out).mono ?_
  rintro e w8 ⟨rfl, b8⟩
  have P8 := Lib.hid (P7.out.below b8)
  have B8 := Lib.hid (below_two B7.out b8); clear b8
  go_wp2_with fail
  refine (bytes_any P8.out (by simp)).mono ?_
  rintro e w9 ⟨rfl, b9⟩
  rw [sum_g]
  have B9 := Lib.hid (below_two B8.out b9); clear b9
  go_wp2
  go_ret
  exact ⟨rfl, B9.out⟩
end Go.Proofs.Ytmkipdleggkkkaa.Own
/- Plain laws of a partition's records; a partition beside another. -/
namespace Go.Proofs.Ytmkipdleggkkkaa.Own
open Go.RowKit Go.Proofs.YtmkipdleggkkkaaW.PrintWords Go.Proofs.YtmkipdleggkkkaaW.PrintLast Go.Proofs.YtmkipdleggkkkaaW.PrintMore
set_option maxRecDepth 100000
set_option linter.unusedSimpArgs false
set_option linter.unusedVariables false
theorem nxt_append (xs ys : List PB.S45) (a : Int) : nxt (xs ++ ys) a = nxt ys (nxt xs a) := by
  unfold nxt; rw [List.foldl_append]
theorem riseB_append (xs ys : List PB.S45) : ∀ a, riseB (xs ++ ys) a = (riseB xs a && riseB ys (nxt xs a)) := by
  induction xs with
  | nil => intro a; simp [riseB, nxt]
  | cons x t ih =>
    intro a
    rw [List.cons_append, riseB, riseB]
    by_cases h : x.f0 < a
    · rw [if_pos h, if_pos h]; rfl
    · rw [if_neg h, if_neg h, ih]; rfl
theorem nobad_iff (xs : List PB.S45) : decide (∃ x ∈ xs, PuB.mayB x = false) = false ↔ ∀ x ∈ xs, PuB.mayB x = true := by
  rw [decide_eq_false_iff_not]
  constructor
  · intro h x hx
    cases hm : PuB.mayB x with
    | true => rfl
    | false => exact absurd ⟨x, hx, hm⟩ h
  · rintro h ⟨x, hx, hm⟩
    rw [h x hx] at hm; cases hm
/-- A partition is not touched by what another one does. -/
theorem PS.other {B g : Nat} {v : Value} {l : List PB.S45} {st nx mk : Int} {w : World} (h : PS B g v l st nx mk w) {g2 : Nat} {v2 : Value} {w1 : World} (hf : Fr g2 v2 w w1) (n1 : g ≠ g2) (n2 : some g ≠ v2.ownBlock) (n3 : ∀ b, v.ownBlock = some b → b ≠ g2 ∧ some b ≠ v2.ownBlock) : PS B g v l st nx mk w1 := by
  refine ⟨(hf.block g (blk_lt h.blk) n1 n2).trans h.blk, h.lo, ?_⟩
  have ht := Kd.R_tight (d := PB.k45) rfl h.row
  refine Kd.R_mono (Kd.R_step ht (fun k hk hl => ?_)) (fun k hk => h.row.1 k hk.symm)
  have := n3 k hk.symm
  exact hf.block k hl this.1 this.2
theorem PS.own_lt {B g : Nat} {v : Value} {l : List PB.S45} {st nx mk : Int} {w : World} (h : PS B g v l st nx mk w) {b : Nat} (hb : v.ownBlock = some b) : b < w.heap.size := ((Kd.R_bound h.row).1 b hb).2.2.1
theorem PS.own_ne {B g : Nat} {v : Value} {l : List PB.S45} {st nx mk : Int} {w : World} (h : PS B g v l st nx mk w) {b : Nat} (hb : v.ownBlock = some b) : b ≠ g := h.row.1 b hb
theorem sep_of {A : Option Addr} {xs : List PB.S45} {w w1 : World} {g : Nat} {v : Value} (hr : Kd.C PB.k45 w A xs.length xs) (hg : w.heap.size ≤ g) (hv : ∀ b, v.ownBlock = some b → w.heap.size ≤ b) : Sep A xs.length g v := fun h0 ad e => by
  subst e
  have := Kd.C_lt hr h0 (by decide)
  exact ⟨by omega, fun e => by have := hv _ e.symm; omega⟩
end Go.Proofs.Ytmkipdleggkkkaa.Own
