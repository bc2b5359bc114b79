/- The document's pool: Claim, Give. -/
import Derived.Test.YtfcpjnikblleaaaTook
namespace Go.Proofs.Ytfcpjnikblleaaa
open Go.RowKit
set_option maxRecDepth 100000
set_option linter.unusedSimpArgs false
set_option linter.unusedVariables false
theorem rclaim_out {b n : Nat} {L : List Int} {w : World} (h : RR b n L w) (c : Nat) (ep ct i : Int) (l : Int) (hi : i < 0 ∨ n ≤ i) : Calls Try.prog 16 #[rp b n c ep ct, .int .i64 i, .int .i64 l] w fun e w' => e = .returned (.agg #[.slice (some ⟨b, 0, none⟩) n c, .int .i64 ep, .int .i64 ct, .int .i64 20]) ∧ Below w.heap.size w w' := by
  have E := Lib.hid (show decide (0 ≤ i ∧ i < (n : Int)) = false by simp; omega)
  clear hi
  have hbl := Lib.hid h.lt
  have H := Lib.hid h
  have hn := h.n64
  clear h
  go_enter Try.func16, Try.ntmps16
  unfold rp
  go_wp2_with fail
  have T := Lib.hid (TB.start w b n c ep ct #[.slice none 0 0, .int .i64 0, .int .i64 0, .int .i64 0] 48)
  generalize hW : ((w.alloc _).alloc _) = W1 at *
  clear hW
  have H1 := Lib.hid (H.out.below T.out.bel hbl.out)
  clear H
  have q0 := blk_cell T.out.pool 0
  have q1 := blk_cell T.out.pool 1
  have q2 := blk_cell T.out.pool 2
  have r0 := blk_cell T.out.out 0
  have r1 := blk_cell T.out.out 1
  have r2 := blk_cell T.out.out 2
  have r3 := blk_cell T.out.out 3
  have f0 := blk_free T.out.out 0
  have f1 := blk_free T.out.out 1
  have f2 := blk_free T.out.out 2
  have f3 := blk_free T.out.out 3
  simp at q0 q1 q2 r0 r1 r2 r3
  have tlt := T.out.lt
  refine (ris_any b n c ep ct _ _ hn).mono ?_
  rintro e w2 ⟨rfl, b2⟩
  rw [E.out]
  clear q0 q1 q2 r0 r1 r2 r3 f0 f1 f2 f3 tlt
  have T2 := Lib.hid (T.out.below b2)
  have H2 := Lib.hid (H1.out.below b2 H1.out.lt)
  clear H1 T b2
  have q0 := blk_cell T2.out.pool 0
  have q1 := blk_cell T2.out.pool 1
  have q2 := blk_cell T2.out.pool 2
  have r0 := blk_cell T2.out.out 0
  have r1 := blk_cell T2.out.out 1
  have r2 := blk_cell T2.out.out 2
  have r3 := blk_cell T2.out.out 3
  have f0 := blk_free T2.out.out 0
  have f1 := blk_free T2.out.out 1
  have f2 := blk_free T2.out.out 2
  have f3 := blk_free T2.out.out 3
  simp at q0 q1 q2 r0 r1 r2 r3
  have tlt := T2.out.lt
  go_wp2
  refine bodyPost_ret (v := .agg #[.slice (some ⟨b, 0, none⟩) n c, .int .i64 ep, .int .i64 ct, .int .i64 20]) (by simp [results, Try.results16, go_sem, *]) rfl ?_
  refine ⟨rfl, ?_⟩
  repeat (refine Below.setCell ?_ (by simp) _)
  exact T2.out.bel
theorem rclaim_bad {b n : Nat} {L : List Int} {w : World} (h : RR b n L w) (c : Nat) (ep ct l : Int) (i : Nat) (hi : i < n) (hl : logOk l = false) : Calls Try.prog 16 #[rp b n c ep ct, .int .i64 (i : Int), .int .i64 l] w fun e w' => e = .returned (.agg #[.slice (some ⟨b, 0, none⟩) n c, .int .i64 ep, .int .i64 ct, .int .i64 1]) ∧ Below w.heap.size w w' := by
  have E := Lib.hid (show decide (0 ≤ (i : Int) ∧ (i : Int) < (n : Int)) = true by simp [hi])
  have E2 := Lib.hid hl
  clear hi hl
  have hbl := Lib.hid h.lt
  have H := Lib.hid h
  have hn := h.n64
  clear h
  go_enter Try.func16, Try.ntmps16
  unfold rp
  go_wp2_with fail
  have T := Lib.hid (TB.start w b n c ep ct #[.slice none 0 0, .int .i64 0, .int .i64 0, .int .i64 0] 48)
  generalize hW : ((w.alloc _).alloc _) = W1 at *
  clear hW
  have H1 := Lib.hid (H.out.below T.out.bel hbl.out)
  clear H
  have q0 := blk_cell T.out.pool 0
  have q1 := blk_cell T.out.pool 1
  have q2 := blk_cell T.out.pool 2
  have r0 := blk_cell T.out.out 0
  have r1 := blk_cell T.out.out 1
  have r2 := blk_cell T.out.out 2
  have r3 := blk_cell T.out.out 3
  have f0 := blk_free T.out.out 0
  have f1 := blk_free T.out.out 1
  have f2 := blk_free T.out.out 2
  have f3 := blk_free T.out.out 3
  simp at q0 q1 q2 r0 r1 r2 r3
  have tlt := T.out.lt
  refine (ris_any b n c ep ct _ _ hn).mono ?_
  rintro e w2 ⟨rfl, b2⟩
  rw [E.out]
  clear q0 q1 q2 r0 r1 r2 r3 f0 f1 f2 f3 tlt
  have T2 := Lib.hid (T.out.below b2)
  have H2 := Lib.hid (H1.out.below b2 H1.out.lt)
  clear H1 T b2
  have q0 := blk_cell T2.out.pool 0
  have q1 := blk_cell T2.out.pool 1
  have q2 := blk_cell T2.out.pool 2
  have r0 := blk_cell T2.out.out 0
  have r1 := blk_cell T2.out.out 1
  have r2 := blk_cell T2.out.out 2
  have r3 := blk_cell T2.out.out 3
  have f0 := blk_free T2.out.out 0
  have f1 := blk_free T2.out.out 1
  have f2 := blk_free T2.out.out 2
  have f3 := blk_free T2.out.out 3
  simp at q0 q1 q2 r0 r1 r2 r3
  have tlt := T2.out.lt
  go_wp2_with fail
  refine (log_any _ _).mono ?_
  rintro e w3 ⟨rfl, rfl⟩
  rw [E2.out]
  go_wp2
  refine bodyPost_ret (v := .agg #[.slice (some ⟨b, 0, none⟩) n c, .int .i64 ep, .int .i64 ct, .int .i64 1]) (by simp [results, Try.results16, go_sem, *]) rfl ?_
  refine ⟨rfl, ?_⟩
  repeat (refine Below.setCell ?_ (by simp) _)
  exact T2.out.bel
theorem rclaim_has {b n : Nat} {L : List Int} {w : World} (h : RR b n L w) (c : Nat) (ep ct : Int) (l : Int) (i : Nat) (hi : i < n) (hl : logOk l = true) (h0 : L.getD i 0 ≠ 0) : Calls Try.prog 16 #[rp b n c ep ct, .int .i64 (i : Int), .int .i64 l] w fun e w' => e = .returned (.agg #[.slice (some ⟨b, 0, none⟩) n c, .int .i64 ep, .int .i64 ct, .int .i64 8]) ∧ Below w.heap.size w w' := by
  have E := Lib.hid (show decide (0 ≤ (i : Int) ∧ (i : Int) < (n : Int)) = true by simp [hi])
  have E2 := Lib.hid hl
  clear hl
  have hbl := Lib.hid h.lt
  have H := Lib.hid h
  have hn := h.n64
  clear h
  go_enter Try.func16, Try.ntmps16
  unfold rp
  go_wp2_with fail
  have T := Lib.hid (TB.start w b n c ep ct #[.slice none 0 0, .int .i64 0, .int .i64 0, .int .i64 0] 48)
  generalize hW : ((w.alloc _).alloc _) = W1 at *
  clear hW
  have H1 := Lib.hid (H.out.below T.out.bel hbl.out)
  clear H
  have q0 := blk_cell T.out.pool 0
  have q1 := blk_cell T.out.pool 1
  have q2 := blk_cell T.out.pool 2
  have r0 := blk_cell T.out.out 0
  have r1 := blk_cell T.out.out 1
  have r2 := blk_cell T.out.out 2
  have r3 := blk_cell T.out.out 3
  have f0 := blk_free T.out.out 0
  have f1 := blk_free T.out.out 1
  have f2 := blk_free T.out.out 2
  have f3 := blk_free T.out.out 3
  simp at q0 q1 q2 r0 r1 r2 r3
  have tlt := T.out.lt
  refine (ris_any b n c ep ct _ _ hn).mono ?_
  rintro e w2 ⟨rfl, b2⟩
  rw [E.out]
  clear q0 q1 q2 r0 r1 r2 r3 f0 f1 f2 f3 tlt
  have T2 := Lib.hid (T.out.below b2)
  have H2 := Lib.hid (H1.out.below b2 H1.out.lt)
  clear H1 T b2
  have q0 := blk_cell T2.out.pool 0
  have q1 := blk_cell T2.out.pool 1
  have q2 := blk_cell T2.out.pool 2
  have r0 := blk_cell T2.out.out 0
  have r1 := blk_cell T2.out.out 1
  have r2 := blk_cell T2.out.out 2
  have r3 := blk_cell T2.out.out 3
  have f0 := blk_free T2.out.out 0
  have f1 := blk_free T2.out.out 1
  have f2 := blk_free T2.out.out 2
  have f3 := blk_free T2.out.out 3
  simp at q0 q1 q2 r0 r1 r2 r3
  have tlt := T2.out.lt
  have hc := H2.out.cell hi
  have hb : (L.getD i 0 == 0) = false := by rw [beq_eq_false_iff_ne]; exact h0
  have hb2 : (L.getD i 0 != 0) = true := by rw [bne_iff_ne]; exact h0
  clear h0
  generalize L.getD i 0 = x at *
  go_wp2_with fail
  refine (log_any _ _).mono ?_
  rintro e w3 ⟨rfl, rfl⟩
  rw [E2.out]
  go_wp2
  refine bodyPost_ret (v := .agg #[.slice (some ⟨b, 0, none⟩) n c, .int .i64 ep, .int .i64 ct, .int .i64 8]) (by simp [results, Try.results16, go_sem, *]) rfl ?_
  refine ⟨rfl, ?_⟩
  repeat (refine Below.setCell ?_ (by simp) _)
  exact T2.out.bel
theorem rclaim_ok {b n : Nat} {L : List Int} {w : World} (h : RR b n L w) (c : Nat) (ep ct : Int) (l : Int) (i : Nat) (hi : i < n) (hl : logOk l = true) (h0 : L.getD i 0 = 0) : Calls Try.prog 16 #[rp b n c ep ct, .int .i64 (i : Int), .int .i64 l] w fun e w' => ∃ b5 c5, e = .returned (.agg #[.slice (some ⟨b5, 0, none⟩) n c5, .int .i64 ep, .int .i64 ct, .int .i64 0]) ∧ w.heap.size ≤ b5 ∧ RR b5 n (L.set i l) w' ∧ Below w.heap.size w w' := by
  have E := Lib.hid (show decide (0 ≤ (i : Int) ∧ (i : Int) < (n : Int)) = true by simp [hi])
  have E2 := Lib.hid hl
  clear hl
  have hbl := Lib.hid h.lt
  have H := Lib.hid h
  have hn := h.n64
  clear h
  go_enter Try.func16, Try.ntmps16
  unfold rp
  go_wp2_with fail
  have T := Lib.hid (TB.start w b n c ep ct #[.slice none 0 0, .int .i64 0, .int .i64 0, .int .i64 0] 48)
  generalize hW : ((w.alloc _).alloc _) = W1 at *
  clear hW
  have H1 := Lib.hid (H.out.below T.out.bel hbl.out)
  clear H
  have q0 := blk_cell T.out.pool 0
  have q1 := blk_cell T.out.pool 1
  have q2 := blk_cell T.out.pool 2
  have r0 := blk_cell T.out.out 0
  have r1 := blk_cell T.out.out 1
  have r2 := blk_cell T.out.out 2
  have r3 := blk_cell T.out.out 3
  have f0 := blk_free T.out.out 0
  have f1 := blk_free T.out.out 1
  have f2 := blk_free T.out.out 2
  have f3 := blk_free T.out.out 3
  simp at q0 q1 q2 r0 r1 r2 r3
  have tlt := T.out.lt
  refine (ris_any b n c ep ct _ _ hn).mono ?_
  rintro e w2 ⟨rfl, b2⟩
  rw [E.out]
  clear q0 q1 q2 r0 r1 r2 r3 f0 f1 f2 f3 tlt
  have T2 := Lib.hid (T.out.below b2)
  have H2 := Lib.hid (H1.out.below b2 H1.out.lt)
  clear H1 T b2
  have q0 := blk_cell T2.out.pool 0
  have q1 := blk_cell T2.out.pool 1
  have q2 := blk_cell T2.out.pool 2
  have r0 := blk_cell T2.out.out 0
  have r1 := blk_cell T2.out.out 1
  have r2 := blk_cell T2.out.out 2
  have r3 := blk_cell T2.out.out 3
  have f0 := blk_free T2.out.out 0
  have f1 := blk_free T2.out.out 1
  have f2 := blk_free T2.out.out 2
  have f3 := blk_free T2.out.out 3
  simp at q0 q1 q2 r0 r1 r2 r3
  have tlt := T2.out.lt
  have hc := H2.out.cell hi
  rw [h0] at hc
  go_wp2_with fail
  refine (log_any _ _).mono ?_
  rintro e w3 ⟨rfl, rfl⟩
  rw [E2.out]
  go_wp2_with fail
  refine (set_any H2.out c ep ct i l hi).mono ?_
  rintro e w4 ⟨b5, c5, rfl, hb5, hrr, b2⟩
  unfold rp
  have T3 := Lib.hid (T2.out.below b2)
  have Hrr := Lib.hid hrr
  have hb6 : w.heap.size + 1 < b5 := by omega
  clear q0 q1 q2 r0 r1 r2 r3 f0 f1 f2 f3 tlt
  clear H2 T2 b2 hrr hc
  have q0 := blk_cell T3.out.pool 0
  have q1 := blk_cell T3.out.pool 1
  have q2 := blk_cell T3.out.pool 2
  have r0 := blk_cell T3.out.out 0
  have r1 := blk_cell T3.out.out 1
  have r2 := blk_cell T3.out.out 2
  have r3 := blk_cell T3.out.out 3
  have f0 := blk_free T3.out.out 0
  have f1 := blk_free T3.out.out 1
  have f2 := blk_free T3.out.out 2
  have f3 := blk_free T3.out.out 3
  simp at q0 q1 q2 r0 r1 r2 r3
  have tlt := T3.out.lt
  go_wp2
  refine bodyPost_ret (v := .agg #[.slice (some ⟨b5, 0, none⟩) n c5, .int .i64 ep, .int .i64 ct, .int .i64 0]) (by simp [results, Try.results16, go_sem, *]) rfl ?_
  refine ⟨b5, c5, rfl, by omega, ?_, ?_⟩
  · repeat (refine RR.far ?_ (by simp; omega))
    exact Hrr.out
  · repeat (refine Below.setCell ?_ (by simp; try omega) _)
    exact T3.out.bel
theorem rgive_out {b n : Nat} {L : List Int} {w : World} (h : RR b n L w) (c : Nat) (ep ct i : Int) (hi : i < 0 ∨ n ≤ i) : Calls Try.prog 18 #[rp b n c ep ct, .int .i64 i] w fun e w' => e = .returned (.agg #[.slice (some ⟨b, 0, none⟩) n c, .int .i64 ep, .int .i64 ct, .int .i64 20]) ∧ Below w.heap.size w w' := by
  have E := Lib.hid (show decide (0 ≤ i ∧ i < (n : Int)) = false by simp; omega)
  clear hi
  have hbl := Lib.hid h.lt
  have H := Lib.hid h
  have hn := h.n64
  clear h
  go_enter Try.func18, Try.ntmps18
  unfold rp
  go_wp2_with fail
  have T := Lib.hid (TB.start w b n c ep ct #[.slice none 0 0, .int .i64 0, .int .i64 0, .int .i64 0] 48)
  generalize hW : ((w.alloc _).alloc _) = W1 at *
  clear hW
  have H1 := Lib.hid (H.out.below T.out.bel hbl.out)
  clear H
  have q0 := blk_cell T.out.pool 0
  have q1 := blk_cell T.out.pool 1
  have q2 := blk_cell T.out.pool 2
  have r0 := blk_cell T.out.out 0
  have r1 := blk_cell T.out.out 1
  have r2 := blk_cell T.out.out 2
  have r3 := blk_cell T.out.out 3
  have f0 := blk_free T.out.out 0
  have f1 := blk_free T.out.out 1
  have f2 := blk_free T.out.out 2
  have f3 := blk_free T.out.out 3
  simp at q0 q1 q2 r0 r1 r2 r3
  have tlt := T.out.lt
  refine (ris_any b n c ep ct _ _ hn).mono ?_
  rintro e w2 ⟨rfl, b2⟩
  rw [E.out]
  clear q0 q1 q2 r0 r1 r2 r3 f0 f1 f2 f3 tlt
  have T2 := Lib.hid (T.out.below b2)
  have H2 := Lib.hid (H1.out.below b2 H1.out.lt)
  clear H1 T b2
  have q0 := blk_cell T2.out.pool 0
  have q1 := blk_cell T2.out.pool 1
  have q2 := blk_cell T2.out.pool 2
  have r0 := blk_cell T2.out.out 0
  have r1 := blk_cell T2.out.out 1
  have r2 := blk_cell T2.out.out 2
  have r3 := blk_cell T2.out.out 3
  have f0 := blk_free T2.out.out 0
  have f1 := blk_free T2.out.out 1
  have f2 := blk_free T2.out.out 2
  have f3 := blk_free T2.out.out 3
  simp at q0 q1 q2 r0 r1 r2 r3
  have tlt := T2.out.lt
  go_wp2
  refine bodyPost_ret (v := .agg #[.slice (some ⟨b, 0, none⟩) n c, .int .i64 ep, .int .i64 ct, .int .i64 20]) (by simp [results, Try.results18, go_sem, *]) rfl ?_
  refine ⟨rfl, ?_⟩
  repeat (refine Below.setCell ?_ (by simp) _)
  exact T2.out.bel
theorem rgive_has {b n : Nat} {L : List Int} {w : World} (h : RR b n L w) (c : Nat) (ep ct : Int) (i : Nat) (hi : i < n) (h0 : L.getD i 0 = 0) : Calls Try.prog 18 #[rp b n c ep ct, .int .i64 (i : Int)] w fun e w' => e = .returned (.agg #[.slice (some ⟨b, 0, none⟩) n c, .int .i64 ep, .int .i64 ct, .int .i64 6]) ∧ Below w.heap.size w w' := by
  have E := Lib.hid (show decide (0 ≤ (i : Int) ∧ (i : Int) < (n : Int)) = true by simp [hi])
  have hbl := Lib.hid h.lt
  have H := Lib.hid h
  have hn := h.n64
  clear h
  go_enter Try.func18, Try.ntmps18
  unfold rp
  go_wp2_with fail
  have T := Lib.hid (TB.start w b n c ep ct #[.slice none 0 0, .int .i64 0, .int .i64 0, .int .i64 0] 48)
  generalize hW : ((w.alloc _).alloc _) = W1 at *
  clear hW
  have H1 := Lib.hid (H.out.below T.out.bel hbl.out)
  clear H
  have q0 := blk_cell T.out.pool 0
  have q1 := blk_cell T.out.pool 1
  have q2 := blk_cell T.out.pool 2
  have r0 := blk_cell T.out.out 0
  have r1 := blk_cell T.out.out 1
  have r2 := blk_cell T.out.out 2
  have r3 := blk_cell T.out.out 3
  have f0 := blk_free T.out.out 0
  have f1 := blk_free T.out.out 1
  have f2 := blk_free T.out.out 2
  have f3 := blk_free T.out.out 3
  simp at q0 q1 q2 r0 r1 r2 r3
  have tlt := T.out.lt
  refine (ris_any b n c ep ct _ _ hn).mono ?_
  rintro e w2 ⟨rfl, b2⟩
  rw [E.out]
  clear q0 q1 q2 r0 r1 r2 r3 f0 f1 f2 f3 tlt
  have T2 := Lib.hid (T.out.below b2)
  have H2 := Lib.hid (H1.out.below b2 H1.out.lt)
  clear H1 T b2
  have q0 := blk_cell T2.out.pool 0
  have q1 := blk_cell T2.out.pool 1
  have q2 := blk_cell T2.out.pool 2
  have r0 := blk_cell T2.out.out 0
  have r1 := blk_cell T2.out.out 1
  have r2 := blk_cell T2.out.out 2
  have r3 := blk_cell T2.out.out 3
  have f0 := blk_free T2.out.out 0
  have f1 := blk_free T2.out.out 1
  have f2 := blk_free T2.out.out 2
  have f3 := blk_free T2.out.out 3
  simp at q0 q1 q2 r0 r1 r2 r3
  have tlt := T2.out.lt
  have hc := H2.out.cell hi
  rw [h0] at hc
  go_wp2
  refine bodyPost_ret (v := .agg #[.slice (some ⟨b, 0, none⟩) n c, .int .i64 ep, .int .i64 ct, .int .i64 6]) (by simp [results, Try.results18, go_sem, *]) rfl ?_
  refine ⟨rfl, ?_⟩
  repeat (refine Below.setCell ?_ (by simp) _)
  exact T2.out.bel
theorem rgive_ok {b n : Nat} {L : List Int} {w : World} (h : RR b n L w) (c : Nat) (ep ct : Int) (i : Nat) (hi : i < n) (h0 : L.getD i 0 ≠ 0) : Calls Try.prog 18 #[rp b n c ep ct, .int .i64 (i : Int)] w fun e w' => ∃ b5 c5, e = .returned (.agg #[.slice (some ⟨b5, 0, none⟩) n c5, .int .i64 ep, .int .i64 ct, .int .i64 0]) ∧ w.heap.size ≤ b5 ∧ RR b5 n (L.set i 0) w' ∧ Below w.heap.size w w' := by
  have E := Lib.hid (show decide (0 ≤ (i : Int) ∧ (i : Int) < (n : Int)) = true by simp [hi])
  have hbl := Lib.hid h.lt
  have H := Lib.hid h
  have hn := h.n64
  clear h
  go_enter Try.func18, Try.ntmps18
  unfold rp
  go_wp2_with fail
  have T := Lib.hid (TB.start w b n c ep ct #[.slice none 0 0, .int .i64 0, .int .i64 0, .int .i64 0] 48)
  generalize hW : ((w.alloc _).alloc _) = W1 at *
  clear hW
  have H1 := Lib.hid (H.out.below T.out.bel hbl.out)
  clear H
  have q0 := blk_cell T.out.pool 0
  have q1 := blk_cell T.out.pool 1
  have q2 := blk_cell T.out.pool 2
  have r0 := blk_cell T.out.out 0
  have r1 := blk_cell T.out.out 1
  have r2 := blk_cell T.out.out 2
  have r3 := blk_cell T.out.out 3
  have f0 := blk_free T.out.out 0
  have f1 := blk_free T.out.out 1
  have f2 := blk_free T.out.out 2
  have f3 := blk_free T.out.out 3
  simp at q0 q1 q2 r0 r1 r2 r3
  have tlt := T.out.lt
  refine (ris_any b n c ep ct _ _ hn).mono ?_
  rintro e w2 ⟨rfl, b2⟩
  rw [E.out]
  clear q0 q1 q2 r0 r1 r2 r3 f0 f1 f2 f3 tlt
  have T2 := Lib.hid (T.out.below b2)
  have H2 := Lib.hid (H1.out.below b2 H1.out.lt)
  clear H1 T b2
  have q0 := blk_cell T2.out.pool 0
  have q1 := blk_cell T2.out.pool 1
  have q2 := blk_cell T2.out.pool 2
  have r0 := blk_cell T2.out.out 0
  have r1 := blk_cell T2.out.out 1
  have r2 := blk_cell T2.out.out 2
  have r3 := blk_cell T2.out.out 3
  have f0 := blk_free T2.out.out 0
  have f1 := blk_free T2.out.out 1
  have f2 := blk_free T2.out.out 2
  have f3 := blk_free T2.out.out 3
  simp at q0 q1 q2 r0 r1 r2 r3
  have tlt := T2.out.lt
  have hc := H2.out.cell hi
  have hb : (L.getD i 0 == 0) = false := by rw [beq_eq_false_iff_ne]; exact h0
  clear h0
  generalize L.getD i 0 = x at *
  go_wp2_with fail
  refine (set_any H2.out c ep ct i 0 hi).mono ?_
  rintro e w4 ⟨b5, c5, rfl, hb5, hrr, b2⟩
  unfold rp
  have T3 := Lib.hid (T2.out.below b2)
  have Hrr := Lib.hid hrr
  have hb6 : w.heap.size + 1 < b5 := by omega
  clear q0 q1 q2 r0 r1 r2 r3 f0 f1 f2 f3 tlt
  clear H2 T2 b2 hrr hc
  have q0 := blk_cell T3.out.pool 0
  have q1 := blk_cell T3.out.pool 1
  have q2 := blk_cell T3.out.pool 2
  have r0 := blk_cell T3.out.out 0
  have r1 := blk_cell T3.out.out 1
  have r2 := blk_cell T3.out.out 2
  have r3 := blk_cell T3.out.out 3
  have f0 := blk_free T3.out.out 0
  have f1 := blk_free T3.out.out 1
  have f2 := blk_free T3.out.out 2
  have f3 := blk_free T3.out.out 3
  simp at q0 q1 q2 r0 r1 r2 r3
  have tlt := T3.out.lt
  go_wp2
  refine bodyPost_ret (v := .agg #[.slice (some ⟨b5, 0, none⟩) n c5, .int .i64 ep, .int .i64 ct, .int .i64 0]) (by simp [results, Try.results18, go_sem, *]) rfl ?_
  refine ⟨b5, c5, rfl, by omega, ?_, ?_⟩
  · repeat (refine RR.far ?_ (by simp; omega))
    exact Hrr.out
  · repeat (refine Below.setCell ?_ (by simp; try omega) _)
    exact T3.out.bel
end Go.Proofs.Ytfcpjnikblleaaa
