/- The walk of the law SumsBit. -/
import Derived.Test.YtopinfpjflogdaaNil
import Derived.Test.YtopinfpjflogdaaBytes
namespace Go.Proofs.Ytopinfpjflogdaa
open Go.RowKit
set_option maxRecDepth 100000
set_option linter.unusedSimpArgs false
set_option linter.unusedVariables false
theorem bits_xor_u8 (a b : UInt8) : Go.bits .xor .u8 (a.toNat : Int) (b.toNat : Int) = ((a ^^^ b).toNat : Int) := by
  have e : Go.bits .xor .u8 (a.toNat : Int) (b.toNat : Int) = IntKind.u8.wrap ((BitVec.ofInt 8 (a.toNat : Int) ^^^ BitVec.ofInt 8 (b.toNat : Int)).toNat : Int) := rfl
  rw [e, IntKind.wrap_u8, BitVec.ofInt_natCast, BitVec.ofInt_natCast, BitVec.toNat_xor, BitVec.toNat_ofNat, BitVec.toNat_ofNat, UInt8.toNat_xor]
  have ha := a.toNat_lt
  have hb := b.toNat_lt
  have hx := (a ^^^ b).toNat_lt
  rw [UInt8.toNat_xor] at hx
  rw [Nat.mod_eq_of_lt (by omega), Nat.mod_eq_of_lt (by omega)]
  omega
def bitOf (r : Nat) : UInt8 := UInt8.ofNat (2 ^ r)
theorem bitOf_toNat {r : Nat} (h : r < 8) : ((bitOf r).toNat : Int) = (2 : Int) ^ r % 256 := by
  have : r = 0 ∨ r = 1 ∨ r = 2 ∨ r = 3 ∨ r = 4 ∨ r = 5 ∨ r = 6 ∨ r = 7 := by omega
  rcases this with rfl | rfl | rfl | rfl | rfl | rfl | rfl | rfl <;> decide
theorem bitOf_ne {r : Nat} (h : r < 8) : bitOf r ≠ 0 := by
  have : r = 0 ∨ r = 1 ∨ r = 2 ∨ r = 3 ∨ r = 4 ∨ r = 5 ∨ r = 6 ∨ r = 7 := by omega
  rcases this with rfl | rfl | rfl | rfl | rfl | rfl | rfl | rfl <;> decide
theorem xor_ne {c e : UInt8} (h : e ≠ 0) : c ^^^ e ≠ c := by
  intro h2
  apply h
  have : c ^^^ (c ^^^ e) = c ^^^ c := by rw [h2]
  rw [← UInt8.xor_assoc, UInt8.xor_self, UInt8.zero_xor] at this
  exact this
theorem set_parts {α : Type} (l : List α) (j : Nat) (h : j < l.length) (c : α) : l.set j c = l.take j ++ c :: l.drop (j + 1) := by
  rw [List.set_eq_take_append_cons_drop, if_pos h]
theorem self_parts {α : Type} (l : List α) (j : Nat) (h : j < l.length) : l = l.take j ++ l[j] :: l.drop (j + 1) := by
  rw [← List.drop_eq_getElem_cons h, List.take_append_drop]
set_option maxHeartbeats 1000000 in
theorem sumsBit_main (x : BitVec 32) (s : ByteArray) (j r : Nat) (i : Int) (w : World) (hs : s.size ≤ 1000) (hj : j < s.size) (hr : r < 8) (hi : i = 8 * j + r) :
    Calls Try.prog 5 #[.int .u32 (iw x), .string s, .int .i64 i] w fun e w' => e = .returned (.bool true) ∧ Below w.heap.size w w' := by
  have kc := Lib.run_convert_string_bytes (P := Try.prog) w 9 34 5 s Try.underlying9 Try.underlying34 Try.underlying5
  have hi0 : 0 ≤ i := by omega
  have hi1 : i < 8 * (s.size : Int) := by omega
  have hq : i / 8 = j := by omega
  have hm : i % 8 = r := by omega
  have hq2 : Int.tdiv i 8 = j := by rw [Int.tdiv_eq_ediv_of_nonneg hi0]; exact hq
  have hm2 : Int.tmod i 8 = r := by rw [Int.tmod_eq_emod_of_nonneg hi0]; exact hm
  have hw : IntKind.i64.wrap (j : Int) = j := IntWalk.i64_in _ (by omega)
  clear hi
  have hbr := brow_new w 5 s
  have hbl := bytes_below w 5 s
  have hj0 : (0 : Int) ≤ (j : Int) := Int.natCast_nonneg _
  have hj1 : (j : Int) < (s.size : Int) := by omega
  have hr0 : (0 : Int) ≤ (r : Int) := Int.natCast_nonneg _
  have hr1 : (r : Int) ≤ 8 := by omega
  have hlj : j < s.data.toList.length := by simpa using hj
  have hc := hbr.1 j hlj
  have hf := hbr.2 j hlj
  generalize hW1 : Lib.bytesWorld w 5 s = W1 at *
  clear hW1
  have hne : crc x (s.data.toList.set j (s.data.toList[j] ^^^ bitOf r)) ≠ crc x s.data.toList := by
    rw [set_parts _ _ hlj]
    conv => rhs; rw [self_parts s.data.toList j hlj]
    exact crc_byte x _ _ (xor_ne (bitOf_ne hr))
  have hx : Go.bits .xor .u8 (s.data.toList[j].toNat : Int) (2 ^ r % 256) = ((s.data.toList[j] ^^^ bitOf r).toNat : Int) := by rw [← bitOf_toNat hr]; exact bits_xor_u8 _ _
  generalize s.data.toList[j] = c at *
  have Hx := Lib.hid hx; clear hx
  have Hne := Lib.hid hne; clear hne
  have Hbr := Lib.hid hbr; clear hbr
  have Hbl := Lib.hid hbl; clear hbl
  have Hlj := Lib.hid hlj; clear hlj
  go_enter Try.func5, Try.ntmps5
  go_wp2_with fail
  go_still_tail 13, (by kernel_rfl)
  change wpList _ _ _ _ _ W1.drew
  go_wp2_with fail
  have hb2 : BRow ((W1.setCell { block := w.heap.size, off := j } (Value.int IntKind.u8 (bits BinOp.xor IntKind.u8 (↑c.toNat) (2 ^ r % 256)))).drew) w.heap.size (s.data.toList.set j (c ^^^ bitOf r)) := by
    rw [Hx.out]; exact (BRow.set Hbr.out j Hlj.out _).drew
  have Bel2 := Lib.hid (show Below w.heap.size w ((W1.setCell { block := w.heap.size, off := j } (Value.int IntKind.u8 (bits BinOp.xor IntKind.u8 (↑c.toNat) (2 ^ r % 256)))).drew) from (Hbl.out.setCell (Nat.le_refl _) _).drew)
  generalize (W1.setCell { block := w.heap.size, off := j } (Value.int IntKind.u8 (bits BinOp.xor IntKind.u8 (↑c.toNat) (2 ^ r % 256)))).drew = W2 at *
  have kc2 := brow_string (P := Try.prog) hb2 34 9 5 (grownCap w s.size 0 5) s.size (by simp) Try.underlying34 Try.underlying5 Try.underlying9
  clear hb2
  generalize hL : s.data.toList.set j (c ^^^ bitOf r) = L at *
  have HL := Lib.hid (show L.length = s.size by rw [← hL]; simp); clear hL
  rw [kc2]
  go_wp2_with fail
  refine (crc_any x ⟨L.toArray⟩ _ (by have := HL.out; unfold maxLen; simp [ByteArray.size]; omega)).mono ?_
  rintro e w3 ⟨rfl, b⟩
  have Bel3 := Lib.hid (below_two Bel2.out b); clear b
  clear kc2
  go_wp2_with fail
  refine (crc_any x s _ (by unfold maxLen; omega)).mono ?_
  rintro e w4 ⟨rfl, b⟩
  have Bel4 := Lib.hid (below_two Bel3.out b); clear b
  have hdec : (iw (crc x L) != iw (crc x s.data.toList)) = true := by rw [bne_iff_ne]; intro h; exact Hne.out (iw_inj h)
  go_wp2_with (go_at_call 9; refine (nine_any _).mono ?_; rintro e w1 ⟨rfl, hb2⟩)
  go_ret
  exact ⟨rfl, below_two Bel4.out hb2⟩
theorem sumsBit_walk (b : Int) (s : ByteArray) (i : Int) (w : World) (hb : (Lit.int .u32 b).wf = true) (hs : s.size ≤ 140737488351232) (hi : (Lit.int .i64 i).wf = true) :
    Calls Try.prog 5 #[.int .u32 b, .string s, .int .i64 i] w fun e w' => e = .returned (.bool true) ∧ Below w.heap.size w w' := by
  obtain ⟨x, rfl⟩ := word_of hb
  obtain ⟨i0, i1⟩ := wf_i64 hi
  clear hi hb
  by_cases h1 : 1000 < s.size
  · go_enter Try.func5, Try.ntmps5
    go_wp2_with (go_at_call 9; refine (nine_any _).mono ?_; rintro e w1 ⟨rfl, hb2⟩)
    go_ret
    exact ⟨rfl, hb2⟩
  · by_cases h2 : i < 0
    · go_enter Try.func5, Try.ntmps5
      go_wp2_with (go_at_call 9; refine (nine_any _).mono ?_; rintro e w1 ⟨rfl, hb2⟩)
      go_ret
      exact ⟨rfl, hb2⟩
    · by_cases h3 : 8 * (s.size : Int) ≤ i
      · go_enter Try.func5, Try.ntmps5
        go_wp2_with (go_at_call 9; refine (nine_any _).mono ?_; rintro e w1 ⟨rfl, hb2⟩)
        go_ret
        exact ⟨rfl, hb2⟩
      · exact sumsBit_main x s (i / 8).toNat (i % 8).toNat i w (by omega) (by omega) (by omega) (by omega)
end Go.Proofs.Ytopinfpjflogdaa
