/- The document's pool: Take, Claim, Give, Of. -/
import Derived.Test.YtfcpjnikblleaaaRef
namespace Go.Proofs.Ytfcpjnikblleaaa
open Go.RowKit
set_option maxRecDepth 100000
set_option linter.unusedSimpArgs false
set_option linter.unusedVariables false
/-- A call that has its pool and its answer in two blocks. -/
structure TB (w0 : World) (b n c : Nat) (ep ct : Int) (Z : List Value) (tz : TypeId) (w : World) : Prop where
  bel : Below w0.heap.size w0 w
  pool : w.heap[w0.heap.size]? = some (.cells #[.slice (some ⟨b, 0, none⟩) n c, .int .i64 ep, .int .i64 ct] 40 (0, 0))
  out : w.heap[w0.heap.size + 1]? = some (.cells Z.toArray tz (0, 0))
theorem TB.below {w0 : World} {b n c : Nat} {ep ct : Int} {Z : List Value} {tz : TypeId} {w w1 : World} (h : TB w0 b n c ep ct Z tz w) (hb : Below w.heap.size w w1) : TB w0 b n c ep ct Z tz w1 :=
  ⟨below_two h.bel hb, blk_below h.pool hb, blk_below h.out hb⟩
theorem TB.start (w0 : World) (b n c : Nat) (ep ct : Int) (Z : Array Value) (tz : TypeId) : TB w0 b n c ep ct Z.toList tz ((w0.alloc (.cells #[.slice (some ⟨b, 0, none⟩) n c, .int .i64 ep, .int .i64 ct] 40)).alloc (.cells Z tz)) :=
  ⟨((Below.refl _ _).alloc (Nat.le_refl _) _).alloc (by simp) _, by rw [heap_old _ _ (by simp), heap_new], by simpa using heap_new (w0.alloc _) (.cells Z tz)⟩
theorem TB.lt {w0 : World} {b n c : Nat} {ep ct : Int} {Z : List Value} {tz : TypeId} {w : World} (h : TB w0 b n c ep ct Z tz w) : w0.heap.size + 1 < w.heap.size := blk_lt h.out
theorem rtake_bad {b n : Nat} {L : List Int} {w : World} (h : RR b n L w) (c : Nat) (ep ct l : Int) (hl : logOk l = false) : Calls Try.prog 15 #[rp b n c ep ct, .int .i64 l] w fun e w' => e = .returned (.agg #[.slice (some ⟨b, 0, none⟩) n c, .int .i64 ep, .int .i64 ct, .int .i64 0, .int .u32 0, .int .i64 1]) ∧ Below w.heap.size w w' := by
  have E := Lib.hid hl; clear hl
  unfold rp
  go_enter Try.func15, Try.ntmps15
  go_wp2_with fail
  refine (log_any _ _).mono ?_
  rintro e w1 ⟨rfl, rfl⟩
  rw [E.out]
  have T := Lib.hid (TB.start w b n c ep ct #[.slice none 0 0, .int .i64 0, .int .i64 0, .int .i64 0, .int .u32 0, .int .i64 0] 45)
  generalize hW : ((w.alloc _).alloc _) = W1 at *
  clear hW
  have q0 := blk_cell T.out.pool 0
  have q1 := blk_cell T.out.pool 1
  have q2 := blk_cell T.out.pool 2
  have r0 := blk_cell T.out.out 0
  have r1 := blk_cell T.out.out 1
  have r2 := blk_cell T.out.out 2
  have r3 := blk_cell T.out.out 3
  have r4 := blk_cell T.out.out 4
  have r5 := blk_cell T.out.out 5
  have f0 := blk_free T.out.out 0
  have f1 := blk_free T.out.out 1
  have f2 := blk_free T.out.out 2
  have f3 := blk_free T.out.out 3
  have f4 := blk_free T.out.out 4
  have f5 := blk_free T.out.out 5
  simp at q0 q1 q2 r0 r1 r2 r3 r4 r5
  have tlt := T.out.lt
  go_wp2
  refine bodyPost_ret (v := .agg #[.slice (some ⟨b, 0, none⟩) n c, .int .i64 ep, .int .i64 ct, .int .i64 0, .int .u32 0, .int .i64 1]) (by simp [results, Try.results15, go_sem, *]) rfl ?_
  refine ⟨rfl, ?_⟩
  repeat (refine Below.setCell ?_ (by simp) _)
  exact T.out.bel
theorem rtake_full {b n : Nat} {L : List Int} {w : World} (h : RR b n L w) (c : Nat) (ep ct l : Int) (hl : logOk l = true) (h0 : idxN isFree L n = []) : Calls Try.prog 15 #[rp b n c ep ct, .int .i64 l] w fun e w' => e = .returned (.agg #[.slice (some ⟨b, 0, none⟩) n c, .int .i64 ep, .int .i64 ct, .int .i64 0, .int .u32 0, .int .i64 32]) ∧ Below w.heap.size w w' := by
  have E := Lib.hid hl; clear hl
  have hbl := Lib.hid h.lt
  have H := Lib.hid h
  have hn := h.n64
  clear h
  go_enter Try.func15, Try.ntmps15
  unfold rp
  go_wp2_with fail
  refine (log_any _ _).mono ?_
  rintro e w1 ⟨rfl, rfl⟩
  rw [E.out]
  have T := Lib.hid (TB.start w b n c ep ct #[.slice none 0 0, .int .i64 0, .int .i64 0, .int .i64 0, .int .u32 0, .int .i64 0] 45)
  generalize hW : ((w.alloc _).alloc _) = W1 at *
  clear hW
  have H1 := Lib.hid (H.out.below T.out.bel hbl.out)
  clear H
  have q0 := blk_cell T.out.pool 0
  have q1 := blk_cell T.out.pool 1
  have q2 := blk_cell T.out.pool 2
  have r0 := blk_cell T.out.out 0
  have r1 := blk_cell T.out.out 1
  have r2 := blk_cell T.out.out 2
  have r3 := blk_cell T.out.out 3
  have r4 := blk_cell T.out.out 4
  have r5 := blk_cell T.out.out 5
  have f0 := blk_free T.out.out 0
  have f1 := blk_free T.out.out 1
  have f2 := blk_free T.out.out 2
  have f3 := blk_free T.out.out 3
  have f4 := blk_free T.out.out 4
  have f5 := blk_free T.out.out 5
  simp at q0 q1 q2 r0 r1 r2 r3 r4 r5
  have tlt := T.out.lt
  go_wp2_with fail
  refine (first_none H1.out c ep ct h0).mono ?_
  rintro e w2 ⟨rfl, b2⟩
  have T2 := Lib.hid (T.out.below b2)
  have H2 := Lib.hid (H1.out.below b2 H1.out.lt)
  clear q0 q1 q2 r0 r1 r2 r3 r4 r5 f0 f1 f2 f3 f4 f5 tlt
  clear H1 T b2
  have q0 := blk_cell T2.out.pool 0
  have q1 := blk_cell T2.out.pool 1
  have q2 := blk_cell T2.out.pool 2
  have r0 := blk_cell T2.out.out 0
  have r1 := blk_cell T2.out.out 1
  have r2 := blk_cell T2.out.out 2
  have r3 := blk_cell T2.out.out 3
  have r4 := blk_cell T2.out.out 4
  have r5 := blk_cell T2.out.out 5
  have f0 := blk_free T2.out.out 0
  have f1 := blk_free T2.out.out 1
  have f2 := blk_free T2.out.out 2
  have f3 := blk_free T2.out.out 3
  have f4 := blk_free T2.out.out 4
  have f5 := blk_free T2.out.out 5
  simp at q0 q1 q2 r0 r1 r2 r3 r4 r5
  have tlt := T2.out.lt
  go_wp2
  refine bodyPost_ret (v := .agg #[.slice (some ⟨b, 0, none⟩) n c, .int .i64 ep, .int .i64 ct, .int .i64 0, .int .u32 0, .int .i64 32]) (by simp [results, Try.results15, go_sem, *]) rfl ?_
  refine ⟨rfl, ?_⟩
  repeat (refine Below.setCell ?_ (by simp) _)
  exact T2.out.bel
theorem rtake_end {b n : Nat} {L : List Int} {w : World} (h : RR b n L w) (c : Nat) (ep ct l : Int) (hl : logOk l = true) (f : Nat) (r : List Nat) (h0 : idxN isFree L n = f :: r) (hct : 65535 < ct) : Calls Try.prog 15 #[rp b n c ep ct, .int .i64 l] w fun e w' => e = .returned (.agg #[.slice (some ⟨b, 0, none⟩) n c, .int .i64 ep, .int .i64 ct, .int .i64 0, .int .u32 0, .int .i64 32]) ∧ Below w.heap.size w w' := by
  have hf0 : ¬ (f : Int) < 0 := by omega
  have E := Lib.hid hl; clear hl
  have hbl := Lib.hid h.lt
  have H := Lib.hid h
  have hn := h.n64
  clear h
  go_enter Try.func15, Try.ntmps15
  unfold rp
  go_wp2_with fail
  refine (log_any _ _).mono ?_
  rintro e w1 ⟨rfl, rfl⟩
  rw [E.out]
  have T := Lib.hid (TB.start w b n c ep ct #[.slice none 0 0, .int .i64 0, .int .i64 0, .int .i64 0, .int .u32 0, .int .i64 0] 45)
  generalize hW : ((w.alloc _).alloc _) = W1 at *
  clear hW
  have H1 := Lib.hid (H.out.below T.out.bel hbl.out)
  clear H
  have q0 := blk_cell T.out.pool 0
  have q1 := blk_cell T.out.pool 1
  have q2 := blk_cell T.out.pool 2
  have r0 := blk_cell T.out.out 0
  have r1 := blk_cell T.out.out 1
  have r2 := blk_cell T.out.out 2
  have r3 := blk_cell T.out.out 3
  have r4 := blk_cell T.out.out 4
  have r5 := blk_cell T.out.out 5
  have f0 := blk_free T.out.out 0
  have f1 := blk_free T.out.out 1
  have f2 := blk_free T.out.out 2
  have f3 := blk_free T.out.out 3
  have f4 := blk_free T.out.out 4
  have f5 := blk_free T.out.out 5
  simp at q0 q1 q2 r0 r1 r2 r3 r4 r5
  have tlt := T.out.lt
  go_wp2_with fail
  refine (first_some H1.out c ep ct f r h0).mono ?_
  rintro e w2 ⟨rfl, b2⟩
  have T2 := Lib.hid (T.out.below b2)
  have H2 := Lib.hid (H1.out.below b2 H1.out.lt)
  clear q0 q1 q2 r0 r1 r2 r3 r4 r5 f0 f1 f2 f3 f4 f5 tlt
  clear H1 T b2
  have q0 := blk_cell T2.out.pool 0
  have q1 := blk_cell T2.out.pool 1
  have q2 := blk_cell T2.out.pool 2
  have r0 := blk_cell T2.out.out 0
  have r1 := blk_cell T2.out.out 1
  have r2 := blk_cell T2.out.out 2
  have r3 := blk_cell T2.out.out 3
  have r4 := blk_cell T2.out.out 4
  have r5 := blk_cell T2.out.out 5
  have f0 := blk_free T2.out.out 0
  have f1 := blk_free T2.out.out 1
  have f2 := blk_free T2.out.out 2
  have f3 := blk_free T2.out.out 3
  have f4 := blk_free T2.out.out 4
  have f5 := blk_free T2.out.out 5
  simp at q0 q1 q2 r0 r1 r2 r3 r4 r5
  have tlt := T2.out.lt
  go_wp2
  refine bodyPost_ret (v := .agg #[.slice (some ⟨b, 0, none⟩) n c, .int .i64 ep, .int .i64 ct, .int .i64 0, .int .u32 0, .int .i64 32]) (by simp [results, Try.results15, go_sem, *]) rfl ?_
  refine ⟨rfl, ?_⟩
  repeat (refine Below.setCell ?_ (by simp) _)
  exact T2.out.bel
set_option maxHeartbeats 1000000 in
theorem rtake_ok {b n : Nat} {L : List Int} {w : World} (h : RR b n L w) (c ep ct s : Nat) (l : Int) (hl : logOk l = true) (f : Nat) (r : List Nat) (h0 : idxN isFree L n = f :: r) (hep : ep ≤ 65535) (hct : ct ≤ 65535) (hs : 65536 * ep + ct = s) : Calls Try.prog 15 #[rp b n c ep ct, .int .i64 l] w fun e w' => ∃ b5 c5, e = .returned (.agg #[.slice (some ⟨b5, 0, none⟩) n c5, .int .i64 (ep : Int), .int .i64 ((ct : Int) + 1), .int .i64 (f : Int), .int .u32 (s : Int), .int .i64 0]) ∧ w.heap.size ≤ b5 ∧ RR b5 n (L.set f l) w' ∧ Below w.heap.size w w' := by
  have hf0 : ¬ (f : Int) < 0 := by omega
  have hct' : (ct : Int) ≤ 65535 := by omega
  have hep' : (ep : Int) ≤ 65535 := by omega
  have es : 65536 * (ep : Int) + (ct : Int) = (s : Int) := by omega

  have hfn : f < n := by
    have : f ∈ idxN isFree L n := by rw [h0]; exact List.mem_cons_self
    unfold idxN at this
    simpa using (List.mem_filter.1 this).1
  clear hs hep hct
  have E := Lib.hid hl; clear hl
  have hbl := Lib.hid h.lt
  have H := Lib.hid h
  have hn := h.n64
  clear h
  go_enter Try.func15, Try.ntmps15
  unfold rp
  go_wp2_with fail
  refine (log_any _ _).mono ?_
  rintro e w1 ⟨rfl, rfl⟩
  rw [E.out]
  have T := Lib.hid (TB.start w b n c (ep : Int) (ct : Int) #[.slice none 0 0, .int .i64 0, .int .i64 0, .int .i64 0, .int .u32 0, .int .i64 0] 45)
  generalize hW : ((w.alloc _).alloc _) = W1 at *
  clear hW
  have H1 := Lib.hid (H.out.below T.out.bel hbl.out)
  clear H
  have q0 := blk_cell T.out.pool 0
  have q1 := blk_cell T.out.pool 1
  have q2 := blk_cell T.out.pool 2
  have r0 := blk_cell T.out.out 0
  have r1 := blk_cell T.out.out 1
  have r2 := blk_cell T.out.out 2
  have r3 := blk_cell T.out.out 3
  have r4 := blk_cell T.out.out 4
  have r5 := blk_cell T.out.out 5
  have f0 := blk_free T.out.out 0
  have f1 := blk_free T.out.out 1
  have f2 := blk_free T.out.out 2
  have f3 := blk_free T.out.out 3
  have f4 := blk_free T.out.out 4
  have f5 := blk_free T.out.out 5
  simp at q0 q1 q2 r0 r1 r2 r3 r4 r5
  have tlt := T.out.lt
  go_wp2_with fail
  refine (first_some H1.out c ep ct f r h0).mono ?_
  rintro e w2 ⟨rfl, b2⟩
  have T2 := Lib.hid (T.out.below b2)
  have H2 := Lib.hid (H1.out.below b2 H1.out.lt)
  clear q0 q1 q2 r0 r1 r2 r3 r4 r5 f0 f1 f2 f3 f4 f5 tlt
  clear H1 T b2
  have q0 := blk_cell T2.out.pool 0
  have q1 := blk_cell T2.out.pool 1
  have q2 := blk_cell T2.out.pool 2
  have r0 := blk_cell T2.out.out 0
  have r1 := blk_cell T2.out.out 1
  have r2 := blk_cell T2.out.out 2
  have r3 := blk_cell T2.out.out 3
  have r4 := blk_cell T2.out.out 4
  have r5 := blk_cell T2.out.out 5
  have f0 := blk_free T2.out.out 0
  have f1 := blk_free T2.out.out 1
  have f2 := blk_free T2.out.out 2
  have f3 := blk_free T2.out.out 3
  have f4 := blk_free T2.out.out 4
  have f5 := blk_free T2.out.out 5
  simp at q0 q1 q2 r0 r1 r2 r3 r4 r5
  have tlt := T2.out.lt
  go_wp2_with fail
  refine (set_any H2.out c ep ct f l hfn).mono ?_
  rintro e w3 ⟨b5, c5, rfl, hb5, hrr, b2⟩
  unfold rp
  have T3 := Lib.hid (T2.out.below b2)
  have Hrr := Lib.hid hrr
  have hb6 : w.heap.size + 1 < b5 := by omega
  have hb7 := hrr.lt
  clear q0 q1 q2 r0 r1 r2 r3 r4 r5 f0 f1 f2 f3 f4 f5 tlt
  clear H2 T2 b2 hrr
  have q0 := blk_cell T3.out.pool 0
  have q1 := blk_cell T3.out.pool 1
  have q2 := blk_cell T3.out.pool 2
  have r0 := blk_cell T3.out.out 0
  have r1 := blk_cell T3.out.out 1
  have r2 := blk_cell T3.out.out 2
  have r3 := blk_cell T3.out.out 3
  have r4 := blk_cell T3.out.out 4
  have r5 := blk_cell T3.out.out 5
  have f0 := blk_free T3.out.out 0
  have f1 := blk_free T3.out.out 1
  have f2 := blk_free T3.out.out 2
  have f3 := blk_free T3.out.out 3
  have f4 := blk_free T3.out.out 4
  have f5 := blk_free T3.out.out 5
  simp at q0 q1 q2 r0 r1 r2 r3 r4 r5
  have tlt := T3.out.lt
  have m1 : w.heap.size < w3.heap.size := by omega
  have m2 : ¬ w.heap.size = w3.heap.size := by omega
  have m3 : ¬ w3.heap.size = w.heap.size := by omega
  have m4 : ¬ w.heap.size + 1 = w3.heap.size := by omega
  have m5 : ¬ w3.heap.size = w.heap.size + 1 := by omega
  iterate 24 (first | go_values | go_skip | go_guarded | go_step | go_upon | go_back | (simp only [Int.not_lt, Int.not_le] at *; go_simp) | (go_values <;> (try go_simp)) | (go_ite <;> go_prune <;> (try go_simp)))
  obtain ⟨w4, hw4⟩ : ∃ w4, w4 = w3.alloc (Obj.cells #[Value.slice (some ⟨b5, 0, none⟩) n c5, Value.int IntKind.i64 (ep : Int), Value.int IntKind.i64 (ct : Int)] 40) := ⟨_, rfl⟩
  rw [← hw4]
  have b4 : Below w3.heap.size w3 w4 := by rw [hw4]; exact (Below.refl _ _).alloc (Nat.le_refl _) _
  have hq : w4.heap[w3.heap.size]? = some (.cells #[Value.slice (some ⟨b5, 0, none⟩) n c5, Value.int IntKind.i64 (ep : Int), Value.int IntKind.i64 (ct : Int)] 40 (0, 0)) := by rw [hw4]; exact heap_new _ _
  have T4 := Lib.hid (T3.out.below b4)
  have Hrr4 := Lib.hid (Hrr.out.below b4 hb7)
  have t0 := blk_cell hq 0
  have t1 := blk_cell hq 1
  have t2 := blk_cell hq 2
  have u2 := blk_free hq 2
  simp at t0 t1 t2
  clear q0 q1 q2 r0 r1 r2 r3 r4 r5 f0 f1 f2 f3 f4 f5 tlt
  clear hw4 hq b4 T3 Hrr
  have q0 := blk_cell T4.out.pool 0
  have q1 := blk_cell T4.out.pool 1
  have q2 := blk_cell T4.out.pool 2
  have r0 := blk_cell T4.out.out 0
  have r1 := blk_cell T4.out.out 1
  have r2 := blk_cell T4.out.out 2
  have r3 := blk_cell T4.out.out 3
  have r4 := blk_cell T4.out.out 4
  have r5 := blk_cell T4.out.out 5
  have f0 := blk_free T4.out.out 0
  have f1 := blk_free T4.out.out 1
  have f2 := blk_free T4.out.out 2
  have f3 := blk_free T4.out.out 3
  have f4 := blk_free T4.out.out 4
  have f5 := blk_free T4.out.out 5
  simp at q0 q1 q2 r0 r1 r2 r3 r4 r5
  have tlt := T4.out.lt
  clear tlt
  go_wp2
  refine bodyPost_ret (v := .agg #[.slice (some ⟨b5, 0, none⟩) n c5, .int .i64 (ep : Int), .int .i64 ((ct : Int) + 1), .int .i64 (f : Int), .int .u32 (s : Int), .int .i64 0]) (by simp [results, Try.results15, go_sem, *]) rfl ?_
  refine ⟨b5, c5, rfl, by omega, ?_, ?_⟩
  · repeat (refine RR.far ?_ (by simp; omega))
    exact Hrr4.out
  · repeat (refine Below.setCell ?_ (by simp; try omega) _)
    exact T4.out.bel
end Go.Proofs.Ytfcpjnikblleaaa
