/- The walk of the law SumsBurst. -/
import Derived.Test.YtopinfpjflogdaaBit
namespace Go.Proofs.Ytopinfpjflogdaa
open Go.RowKit
set_option maxRecDepth 100000
set_option linter.unusedSimpArgs false
set_option linter.unusedVariables false
theorem eb_int (q : BitVec 32) (j : Nat) : ((eb q j).toNat : Int) = iw q / ((2 ^ (8 * j) : Nat) : Int) % 256 := by
  rw [eb_toNat]; unfold iw; simp
theorem xor_eb0 {q : BitVec 32} {Q : Int} (h : iw q = Q) (c : UInt8) : Go.bits .xor .u8 (c.toNat : Int) (Q % 256) = ((c ^^^ eb q 0).toNat : Int) := by
  rw [← bits_xor_u8, eb_int, h]; simp
theorem xor_eb1 {q : BitVec 32} {Q : Int} (h : iw q = Q) (c : UInt8) : Go.bits .xor .u8 (c.toNat : Int) (Q / 256 % 256) = ((c ^^^ eb q 1).toNat : Int) := by
  rw [← bits_xor_u8, eb_int, h]; rfl
theorem xor_eb2 {q : BitVec 32} {Q : Int} (h : iw q = Q) (c : UInt8) : Go.bits .xor .u8 (c.toNat : Int) (Q / 65536 % 256) = ((c ^^^ eb q 2).toNat : Int) := by
  rw [← bits_xor_u8, eb_int, h]; rfl
theorem xor_eb3 {q : BitVec 32} {Q : Int} (h : iw q = Q) (c : UInt8) : Go.bits .xor .u8 (c.toNat : Int) (Q / 16777216 % 256) = ((c ^^^ eb q 3).toNat : Int) := by
  rw [← bits_xor_u8, eb_int, h]; rfl
theorem burst_ne (x : BitVec 32) {q : BitVec 32} (hq : q ≠ 0#32) (k : Nat) {L0 L1 L2 L3 L4 : List UInt8} {c0 c1 c2 c3 : UInt8} (h0 : L0[k]? = some c0) (h1 : L1[k + 1]? = some c1) (h2 : L2[k + 2]? = some c2) (h3 : L3[k + 3]? = some c3)
    (s1 : L0.set k (c0 ^^^ eb q 0) = L1) (s2 : L1.set (k + 1) (c1 ^^^ eb q 1) = L2) (s3 : L2.set (k + 2) (c2 ^^^ eb q 2) = L3) (s4 : L3.set (k + 3) (c3 ^^^ eb q 3) = L4) : crc x L4 ≠ crc x L0 := by
  subst s1; subst s2; subst s3; subst s4
  have g1 : L0[k + 1]? = some c1 := by rw [← h1, List.getElem?_set_ne (by omega)]
  have g2 : L0[k + 2]? = some c2 := by rw [← h2, List.getElem?_set_ne (by omega), List.getElem?_set_ne (by omega)]
  have g3 : L0[k + 3]? = some c3 := by rw [← h3, List.getElem?_set_ne (by omega), List.getElem?_set_ne (by omega), List.getElem?_set_ne (by omega)]
  clear h1 h2 h3
  have hd : ∀ {i : Nat} {c : UInt8}, L0[i]? = some c → L0.drop i = c :: L0.drop (i + 1) := by
    intro i c h
    obtain ⟨hi, he⟩ := List.getElem?_eq_some_iff.1 h
    rw [List.drop_eq_getElem_cons hi, he]
  have hkl : k < L0.length := (List.getElem?_eq_some_iff.1 h0).1
  have e : L0 = L0.take k ++ c0 :: c1 :: c2 :: c3 :: L0.drop (k + 4) := by
    rw [← hd g3, ← hd g2, ← hd g1, ← hd h0, List.take_append_drop]
  have hl : (L0.take k).length = k := by rw [List.length_take]; omega
  generalize L0.take k = p at *
  generalize L0.drop (k + 4) = t at *
  subst e
  subst hl
  have e4 : (((List.set (p ++ c0 :: c1 :: c2 :: c3 :: t) p.length (c0 ^^^ eb q 0)).set (p.length + 1) (c1 ^^^ eb q 1)).set (p.length + 2) (c2 ^^^ eb q 2)).set (p.length + 3) (c3 ^^^ eb q 3) = p ++ (c0 ^^^ eb q 0) :: (c1 ^^^ eb q 1) :: (c2 ^^^ eb q 2) :: (c3 ^^^ eb q 3) :: t := by
    simp [List.set_append]
  rw [e4]
  exact crc_burst x p t c0 c1 c2 c3 hq
theorem brow_at {w : World} {b : Nat} {l : List UInt8} (h : BRow w b l) {j : Nat} (hj : j < l.length) : ∃ c, l[j]? = some c ∧ w.cell? ⟨b, j, none⟩ = some (.int .u8 (c.toNat : Int)) ∧ w.frozen? ⟨b, j, none⟩ = false :=
  ⟨l[j], List.getElem?_eq_getElem hj, h.1 j hj, h.2 j hj⟩
set_option maxHeartbeats 1000000 in
theorem sumsBurst_main (x p q : BitVec 32) (s : ByteArray) (k : Nat) (w : World) (hs : s.size ≤ 1000) (hk : iw p % 1000 = k) (hk4 : k + 4 ≤ s.size) (hq : q ≠ 0#32) :
    Calls Try.prog 6 #[.int .u32 (iw x), .string s, .agg #[.int .u32 (iw p), .int .u32 (iw q)]] w fun e w' => e = .returned (.bool true) ∧ Below w.heap.size w w' := by
  have p0 := iw_lo p
  have p1 := iw_hi p
  have q0 := iw_lo q
  have q1 := iw_hi q
  have hqb : (iw q == 0) = false := by rw [beq_eq_false_iff_ne]; intro h; exact hq (iw_inj (h.trans rfl))
  have hk1 : (k : Int) ≤ 1000 := by omega
  have kc := Lib.run_convert_string_bytes (P := Try.prog) (w.alloc (Obj.cells #[Value.int IntKind.u32 (iw p), Value.int IntKind.u32 (iw q)] 36)) 9 34 5 s Try.underlying9 Try.underlying34 Try.underlying5
  have P1 := Lib.hid p1; clear p1
  have Q1 := Lib.hid q1; clear q1
  generalize iw p = P at *
  generalize hQ : iw q = Q at *
  have HQ := Lib.hid hQ; clear hQ
  have hbr := brow_new (w.alloc (Obj.cells #[Value.int IntKind.u32 P, Value.int IntKind.u32 Q] 36)) 5 s
  have hbl := bytes_below (w.alloc (Obj.cells #[Value.int IntKind.u32 P, Value.int IntKind.u32 Q] 36)) 5 s
  have hbl0 := below_two ((Below.refl _ w).alloc (Nat.le_refl _) _) hbl
  have hcq0 := (cell_below (a := ⟨w.heap.size, 1, none⟩) (v := .int .u32 Q) (by rw [blk_cell (heap_new _ _)]; rfl) hbl (by simp))
  clear hbl
  have hsz : (w.alloc (Obj.cells #[Value.int IntKind.u32 P, Value.int IntKind.u32 Q] 36)).heap.size = w.heap.size + 1 := by simp
  rw [hsz] at hbr
  clear hsz
  generalize hW1 : Lib.bytesWorld (w.alloc (Obj.cells #[Value.int IntKind.u32 P, Value.int IntKind.u32 Q] 36)) 5 s = V0 at *
  clear hW1
  generalize hLs : s.data.toList = L0 at hbr
  have HL0 := Lib.hid (show L0.length = s.size by rw [← hLs]; simp)
  have HLs := Lib.hid hLs; clear hLs
  have HB0 := Lib.hid hbr; clear hbr
  have Bel0 := Lib.hid hbl0; clear hbl0

  obtain ⟨c0, hcc0, hc0, hf0⟩ := brow_at HB0.out (j := k) (by rw [HL0.out]; omega)
  have HC0 := Lib.hid hcc0; clear hcc0
  have hi0 : (k : Int) < (s.size : Int) := by omega
  have hj0 : 0 ≤ (k : Int) := by omega

  go_enter Try.func6, Try.ntmps6
  go_wp2_with fail
  go_still_tail 11, (by kernel_rfl)
  change wpList _ _ _ _ _ V0.drew
  go_wp2_with fail
  have HB1 := Lib.hid (show BRow ((V0.setCell { block := w.heap.size + 1, off := k } (Value.int IntKind.u8 (bits BinOp.xor IntKind.u8 (↑c0.toNat) (Q % 256)))).drew) (w.heap.size + 1) (L0.set (k) (c0 ^^^ eb q 0)) from by
    rw [xor_eb0 HQ.out c0]; exact (BRow.set HB0.out (k) (by rw [HL0.out]; omega) _).drew)
  have Bel1 := Lib.hid (show Below w.heap.size w ((V0.setCell { block := w.heap.size + 1, off := k } (Value.int IntKind.u8 (bits BinOp.xor IntKind.u8 (↑c0.toNat) (Q % 256)))).drew) from (Bel0.out.setCell (by simp) _).drew)
  have hcq1 : ((V0.setCell { block := w.heap.size + 1, off := k } (Value.int IntKind.u8 (bits BinOp.xor IntKind.u8 (↑c0.toNat) (Q % 256)))).drew).cell? ⟨w.heap.size, 1, none⟩ = some (.int .u32 Q) := by
    show (V0.setCell _ _).cell? _ = _
    rw [World.cell?_setCell_far _ _ _ _ (by simp)]; exact hcq0
  generalize (V0.setCell { block := w.heap.size + 1, off := k } (Value.int IntKind.u8 (bits BinOp.xor IntKind.u8 (↑c0.toNat) (Q % 256)))).drew = V1 at *
  generalize hL1 : L0.set (k) (c0 ^^^ eb q 0) = L1 at HB1
  have HL1 := Lib.hid (show L1.length = s.size by rw [← hL1, List.length_set]; exact HL0.out)
  have HS1 := Lib.hid hL1; clear hL1
  clear hc0 hf0 hcq0 hi0 hj0

  obtain ⟨c1, hcc1, hc1, hf1⟩ := brow_at HB1.out (j := k + 1) (by rw [HL1.out]; omega)
  have HC1 := Lib.hid hcc1; clear hcc1
  have hw1 : IntKind.i64.wrap ((k : Int) + 1) = (k : Int) + 1 := IntWalk.i64_in _ (by omega)
  have hn1 : ((k : Int) + 1).toNat = k + 1 := by omega
  have hi1 : ((k : Int) + 1) < (s.size : Int) := by omega
  have hj1 : 0 ≤ ((k : Int) + 1) := by omega
  go_still_tail 14, (by kernel_rfl)
  change wpList _ _ _ _ _ V1.drew
  go_wp2_with fail
  have HB2 := Lib.hid (show BRow ((V1.setCell { block := w.heap.size + 1, off := k + 1 } (Value.int IntKind.u8 (bits BinOp.xor IntKind.u8 (↑c1.toNat) (Q / 256 % 256)))).drew) (w.heap.size + 1) (L1.set (k + 1) (c1 ^^^ eb q 1)) from by
    rw [xor_eb1 HQ.out c1]; exact (BRow.set HB1.out (k + 1) (by rw [HL1.out]; omega) _).drew)
  have Bel2 := Lib.hid (show Below w.heap.size w ((V1.setCell { block := w.heap.size + 1, off := k + 1 } (Value.int IntKind.u8 (bits BinOp.xor IntKind.u8 (↑c1.toNat) (Q / 256 % 256)))).drew) from (Bel1.out.setCell (by simp) _).drew)
  have hcq2 : ((V1.setCell { block := w.heap.size + 1, off := k + 1 } (Value.int IntKind.u8 (bits BinOp.xor IntKind.u8 (↑c1.toNat) (Q / 256 % 256)))).drew).cell? ⟨w.heap.size, 1, none⟩ = some (.int .u32 Q) := by
    show (V1.setCell _ _).cell? _ = _
    rw [World.cell?_setCell_far _ _ _ _ (by simp)]; exact hcq1
  generalize (V1.setCell { block := w.heap.size + 1, off := k + 1 } (Value.int IntKind.u8 (bits BinOp.xor IntKind.u8 (↑c1.toNat) (Q / 256 % 256)))).drew = V2 at *
  generalize hL2 : L1.set (k + 1) (c1 ^^^ eb q 1) = L2 at HB2
  have HL2 := Lib.hid (show L2.length = s.size by rw [← hL2, List.length_set]; exact HL1.out)
  have HS2 := Lib.hid hL2; clear hL2
  clear hc1 hf1 hcq1 hi1 hj1
  clear hw1 hn1

  obtain ⟨c2, hcc2, hc2, hf2⟩ := brow_at HB2.out (j := k + 2) (by rw [HL2.out]; omega)
  have HC2 := Lib.hid hcc2; clear hcc2
  have hw2 : IntKind.i64.wrap ((k : Int) + 2) = (k : Int) + 2 := IntWalk.i64_in _ (by omega)
  have hn2 : ((k : Int) + 2).toNat = k + 2 := by omega
  have hi2 : ((k : Int) + 2) < (s.size : Int) := by omega
  have hj2 : 0 ≤ ((k : Int) + 2) := by omega
  go_still_tail 14, (by kernel_rfl)
  change wpList _ _ _ _ _ V2.drew
  go_wp2_with fail
  have HB3 := Lib.hid (show BRow ((V2.setCell { block := w.heap.size + 1, off := k + 2 } (Value.int IntKind.u8 (bits BinOp.xor IntKind.u8 (↑c2.toNat) (Q / 65536 % 256)))).drew) (w.heap.size + 1) (L2.set (k + 2) (c2 ^^^ eb q 2)) from by
    rw [xor_eb2 HQ.out c2]; exact (BRow.set HB2.out (k + 2) (by rw [HL2.out]; omega) _).drew)
  have Bel3 := Lib.hid (show Below w.heap.size w ((V2.setCell { block := w.heap.size + 1, off := k + 2 } (Value.int IntKind.u8 (bits BinOp.xor IntKind.u8 (↑c2.toNat) (Q / 65536 % 256)))).drew) from (Bel2.out.setCell (by simp) _).drew)
  have hcq3 : ((V2.setCell { block := w.heap.size + 1, off := k + 2 } (Value.int IntKind.u8 (bits BinOp.xor IntKind.u8 (↑c2.toNat) (Q / 65536 % 256)))).drew).cell? ⟨w.heap.size, 1, none⟩ = some (.int .u32 Q) := by
    show (V2.setCell _ _).cell? _ = _
    rw [World.cell?_setCell_far _ _ _ _ (by simp)]; exact hcq2
  generalize (V2.setCell { block := w.heap.size + 1, off := k + 2 } (Value.int IntKind.u8 (bits BinOp.xor IntKind.u8 (↑c2.toNat) (Q / 65536 % 256)))).drew = V3 at *
  generalize hL3 : L2.set (k + 2) (c2 ^^^ eb q 2) = L3 at HB3
  have HL3 := Lib.hid (show L3.length = s.size by rw [← hL3, List.length_set]; exact HL2.out)
  have HS3 := Lib.hid hL3; clear hL3
  clear hc2 hf2 hcq2 hi2 hj2
  clear hw2 hn2

  obtain ⟨c3, hcc3, hc3, hf3⟩ := brow_at HB3.out (j := k + 3) (by rw [HL3.out]; omega)
  have HC3 := Lib.hid hcc3; clear hcc3
  have hw3 : IntKind.i64.wrap ((k : Int) + 3) = (k : Int) + 3 := IntWalk.i64_in _ (by omega)
  have hn3 : ((k : Int) + 3).toNat = k + 3 := by omega
  have hi3 : ((k : Int) + 3) < (s.size : Int) := by omega
  have hj3 : 0 ≤ ((k : Int) + 3) := by omega
  go_still_tail 14, (by kernel_rfl)
  change wpList _ _ _ _ _ V3.drew
  go_wp2_with fail
  have HB4 := Lib.hid (show BRow ((V3.setCell { block := w.heap.size + 1, off := k + 3 } (Value.int IntKind.u8 (bits BinOp.xor IntKind.u8 (↑c3.toNat) (Q / 16777216 % 256)))).drew) (w.heap.size + 1) (L3.set (k + 3) (c3 ^^^ eb q 3)) from by
    rw [xor_eb3 HQ.out c3]; exact (BRow.set HB3.out (k + 3) (by rw [HL3.out]; omega) _).drew)
  have Bel4 := Lib.hid (show Below w.heap.size w ((V3.setCell { block := w.heap.size + 1, off := k + 3 } (Value.int IntKind.u8 (bits BinOp.xor IntKind.u8 (↑c3.toNat) (Q / 16777216 % 256)))).drew) from (Bel3.out.setCell (by simp) _).drew)
  have hcq4 : ((V3.setCell { block := w.heap.size + 1, off := k + 3 } (Value.int IntKind.u8 (bits BinOp.xor IntKind.u8 (↑c3.toNat) (Q / 16777216 % 256)))).drew).cell? ⟨w.heap.size, 1, none⟩ = some (.int .u32 Q) := by
    show (V3.setCell _ _).cell? _ = _
    rw [World.cell?_setCell_far _ _ _ _ (by simp)]; exact hcq3
  generalize (V3.setCell { block := w.heap.size + 1, off := k + 3 } (Value.int IntKind.u8 (bits BinOp.xor IntKind.u8 (↑c3.toNat) (Q / 16777216 % 256)))).drew = V4 at *
  generalize hL4 : L3.set (k + 3) (c3 ^^^ eb q 3) = L4 at HB4
  have HL4 := Lib.hid (show L4.length = s.size by rw [← hL4, List.length_set]; exact HL3.out)
  have HS4 := Lib.hid hL4; clear hL4
  clear hc3 hf3 hcq3 hi3 hj3
  clear hw3 hn3
  have kc2 := brow_string (P := Try.prog) HB4.out 34 9 5 (grownCap (w.alloc (Obj.cells #[Value.int IntKind.u32 P, Value.int IntKind.u32 Q] 36)) s.size 0 5) s.size HL4.out.symm Try.underlying34 Try.underlying5 Try.underlying9
  rw [kc2]
  clear kc2
  have Hne := Lib.hid (burst_ne x hq k HC0.out HC1.out HC2.out HC3.out HS1.out HS2.out HS3.out HS4.out)
  go_wp2_with fail
  refine (crc_any x ⟨L4.toArray⟩ _ (by have := HL4.out; unfold maxLen; simp [ByteArray.size]; omega)).mono ?_
  rintro e w3 ⟨rfl, b⟩
  have Bel5 := Lib.hid (below_two Bel4.out b); clear b
  go_wp2_with fail
  refine (crc_any x s _ (by unfold maxLen; omega)).mono ?_
  rintro e w4 ⟨rfl, b⟩
  have Bel6 := Lib.hid (below_two Bel5.out b); clear b
  have hdec : (iw (crc x L4) != iw (crc x s.data.toList)) = true := by rw [bne_iff_ne, HLs.out]; intro h; exact Hne.out (iw_inj h)
  go_wp2_with (go_at_call 9; refine (nine_any _).mono ?_; rintro e w1 ⟨rfl, hb2⟩)
  go_ret
  exact ⟨rfl, below_two Bel6.out hb2⟩
end Go.Proofs.Ytopinfpjflogdaa
