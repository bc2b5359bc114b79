/- The walks of the sums. -/
import Derived.Test.YtcgmgecdlanolaaKit
import Derived.Test.YtcgmgecdlanolaaSums
namespace Go.Proofs.Ytcgmgecdlanolaa.Own
open Go.RowKit
set_option maxRecDepth 100000
set_option linter.unusedSimpArgs false
set_option linter.unusedVariables false
theorem xor_byte (x : BitVec 32) (b : UInt8) : Go.bits .xor .u32 (iw x) ((b.toNat : Int)) = iw (x ^^^ BitVec.ofNat 32 b.toNat) := by
  have h : (b.toNat : Int) = iw (BitVec.ofNat 32 b.toNat) := by unfold iw; simp
  rw [h, bits_xor_iw]
theorem step_any (x : BitVec 32) (b : UInt8) (w : World) :
    Calls Try.prog 28 #[.int .u32 (iw x), .int .u8 (b.toNat : Int)] w fun e w' => e = .returned (.int .u32 (iw (byteStep x b))) ∧ w' = w := by
  have hb := b.toNat_lt
  go_enter Try.func28, Try.ntmps28
  go_wp2
  go_loop [0, 10] (fun v i => ∃ k : Nat, k ≤ 8 ∧ i = .int .i64 k ∧ v = .int .u32 (iw (shN k (x ^^^ BitVec.ofNat 32 b.toNat)))) (fun _ i => 8 - (intOf i).toNat)
  case atStart => exact ⟨0, by omega, rfl, by rw [xor_byte]; rfl⟩
  case round =>
    obtain ⟨k, hk, rfl, rfl⟩ := hrel
    generalize hy : shN k (x ^^^ BitVec.ofNat 32 b.toNat) = y
    have Hy := Lib.hid hy; clear hy
    by_cases hlt : k < 8
    · go_wp2
      go_round
      case rel => exact ⟨k + 1, by omega, by go_num, by rw [shN_succ, Hy.out, ← sh1_int]⟩
      case measure => simp [intOf]; omega
    · go_wp2
      go_ret
      obtain rfl : k = 8 := by omega
      exact ⟨by rw [← Hy.out]; rfl, rfl⟩
theorem reg_snoc (x : BitVec 32) (s : ByteArray) (k : Nat) (h : k < s.size) : reg x (s.data.toList.take (k + 1)) = byteStep (reg x (s.data.toList.take k)) s[k] := by
  rw [List.take_succ_eq_append_getElem (by simpa using h), reg, List.foldl_append]; rfl
theorem grown_to {w w1 : World} {b : Nat} (h : w.grownBy w1 (some b)) (a : Addr) (ha : a.block = b) (v : Value) : w.grownBy ((w1.setCell a v).drew) (some b) := 
  ⟨h.os, h.tape, h.output, by simpa [World.setCell] using h.size, fun k hk hn => by
    rw [← h.block k hk hn]
    show (w1.setCell a v).heap[k]? = _
    exact Below.heap_setCell _ _ _ _ (by intro e; exact hn (by rw [e, ha]))⟩
set_option maxHeartbeats 400000 in
theorem add_any (b : Nat) (x : BitVec 32) (s : ByteArray) (w : World) (hs : s.size ≤ maxLen)
    (hc : w.heap[b]? = some (.cells #[.int .u32 (iw x)] 68 (0, 0))) :
    Calls Try.prog 25 #[.pointer (some ⟨b, 0, none⟩), .string s] w fun e w' => e = .returned (.tuple #[]) ∧ w'.heap[b]? = some (.cells #[.int .u32 (iw (reg x s.data.toList))] 68 (0, 0)) ∧ w.grownBy w' (some b) := by
  unfold maxLen at hs
  go_enter Try.func25, Try.ntmps25
  go_wp2
  go_loopw [9] (fun i wr => ∃ k : Nat, k ≤ s.size ∧ i = .int .i64 k ∧ wr.heap[b]? = some (.cells #[.int .u32 (iw (reg x (s.data.toList.take k)))] 68 (0, 0)) ∧ w.grownBy wr (some b)) (fun i _ => s.size - (intOf i).toNat)
  case atStart => exact ⟨0, by omega, rfl, hc, World.grownBy.refl _ _⟩
  case round =>
    obtain ⟨k, hk, rfl, hb, hg⟩ := hrel
    have hcr := cell_of_one hb
    have hfr := free_of_one hb
    have Hb := Lib.hid hb; clear hb
    by_cases hlt : k < s.size
    · have hsn := reg_snoc x s k hlt
      generalize hy : reg x (s.data.toList.take k) = y at *
      have Hy := Lib.hid hy; clear hy
      have Hsn := Lib.hid hsn; clear hsn
      have hk0 : (0 : Int) ≤ (k : Int) := Int.natCast_nonneg _
      have hk1 : (k : Int) < (s.size : Int) := by omega
      go_wp2_with fail
      go_still_tail 11, (by kernel_rfl)
      still_call (step_any _ _ _)
      repeat still_step
      refine wpStill_nil ?_
      change wpList _ _ _ _ _ wr.drew
      go_wp2
      go_roundw
      case rel => exact ⟨k + 1, by omega, by go_num, by rw [Hsn.out]; exact one_setCell Hb.out, grown_to hg _ rfl _⟩
      case measure => simp [intOf]; omega
    · go_wp2
      go_end0
      obtain rfl : k = s.size := by omega
      have h := Hb.out
      rw [List.take_of_length_le (by simp)] at h
      exact ⟨rfl, h, hg⟩

theorem not_iw (x : BitVec 32) : Go.bits .xor .u32 IntKind.u32.max (iw x) = iw (~~~x) := by
  have h : IntKind.u32.max = iw 0xffffffff#32 := by decide
  rw [h, bits_xor_iw]
  congr 1
theorem new_any (x : BitVec 32) (w : World) :
    Calls Try.prog 24 #[.int .u32 (iw x)] w fun e w' => e = .returned (.pointer (some ⟨w.heap.size, 0, none⟩)) ∧ w' = w.alloc (.cells #[.int .u32 (iw (~~~x))] 68) := by
  go_enter Try.func24, Try.ntmps24
  go_wp2
  go_ret
  exact ⟨rfl, by rw [not_iw]⟩
theorem value_any (b : Nat) (x : BitVec 32) (w : World) (hb : w.heap[b]? = some (.cells #[.int .u32 (iw x)] 68 (0, 0))) :
    Calls Try.prog 26 #[.pointer (some ⟨b, 0, none⟩)] w fun e w' => e = .returned (.int .u32 (iw (~~~x))) ∧ w' = w := by
  have hcr := cell_of_one hb
  have Hb := Lib.hid hb; clear hb
  go_enter Try.func26, Try.ntmps26
  go_wp2
  go_ret
  exact ⟨ret_int (not_iw x), rfl⟩
theorem crc_any (x : BitVec 32) (s : ByteArray) (w : World) (hs : s.size ≤ maxLen) :
    Calls Try.prog 21 #[.int .u32 (iw x), .string s] w fun e w' => e = .returned (.int .u32 (iw (crc x s.data.toList))) ∧ Below w.heap.size w w' := by
  go_enter Try.func21, Try.ntmps21
  go_wp2_with fail
  refine (new_any _ _).mono ?_; rintro e w1 ⟨rfl, rfl⟩
  go_wp2_with fail
  refine (add_any _ (~~~x) _ _ hs (heap_new _ _)).mono ?_
  rintro e w1 ⟨rfl, hf1, hg1⟩
  have Hf := Lib.hid hf1; clear hf1
  go_wp2_with fail
  refine (value_any _ _ _ Hf.out).mono ?_; rintro e w1 ⟨rfl, rfl⟩
  go_wp2
  go_ret
  refine ⟨rfl, ?_⟩
  exact ((Below.refl _ _).alloc (Nat.le_refl _) _).grown hg1 (by simp) (by simp)
theorem sh1_odd (x : BitVec 32) (h : iw x % 2 = 1) : Go.bits .xor .u32 (iw x / (2 : Int)) 3988292384 = iw (sh1 x) := by
  rw [← sh1_int]
  have h2 : Go.bits .and .u32 (iw x) 1 = 1 := by
    have := Go.bits_mask .u32 32 (by decide) (fun n a b => by rw [IntKind.wrap_u32]; omega) 1 (by decide) (iw x) (iw_lo x) (iw_hi x)
    simpa [h] using this
  rw [h2]
  rfl
theorem sh1_even (x : BitVec 32) (h : ¬ iw x % 2 = 1) : iw x / (2 : Int) = iw (sh1 x) := by
  rw [← sh1_int]
  have h2 : Go.bits .and .u32 (iw x) 1 = 0 := by
    have := Go.bits_mask .u32 32 (by decide) (fun n a b => by rw [IntKind.wrap_u32]; omega) 1 (by decide) (iw x) (iw_lo x) (iw_hi x)
    have e : iw x % 2 = 0 := by have := iw_lo x; omega
    simpa [e] using this
  rw [h2, half_iw]
  have e3 : Go.bits .and .u32 ((-0 : Int) % 4294967296) 3988292384 = iw 0#32 := rfl
  rw [e3, bits_xor_iw]
  simp
theorem shifted_any (x : BitVec 32) (w : World) :
    Calls Try.prog 27 #[.int .u32 (iw x)] w fun e w' => e = .returned (.int .u32 (iw (sh1 x))) ∧ w' = w := by
  have h0 := iw_lo x
  have h1 := iw_hi x
  by_cases h : iw x % 2 = 1
  · have H := Lib.hid (sh1_odd x h)
    have hb : (iw x % 2 == 1) = true := by simpa using h
    clear h
    generalize iw x = y at *
    go_enter Try.func27, Try.ntmps27
    go_wp2
    go_ret
    exact ⟨ret_int H.out, rfl⟩
  · have H := Lib.hid (sh1_even x h)
    have hb : (iw x % 2 == 1) = false := by simpa using h
    clear h
    generalize iw x = y at *
    go_enter Try.func27, Try.ntmps27
    go_wp2
    go_ret
    exact ⟨ret_int H.out, rfl⟩

theorem sub_iw (x : BitVec 32) : (4294967295 - iw x) % 4294967296 = iw (~~~x) := by
  unfold iw
  rw [BitVec.toNat_not]
  have := x.isLt
  omega
theorem sub_iw' (x : BitVec 32) : (4294967295 - iw x) = iw (~~~x) := by
  rw [← sub_iw]; have := iw_lo x; have := iw_hi x; omega
set_option maxHeartbeats 400000 in
theorem refcrc_any (x : BitVec 32) (s : ByteArray) (w : World) (hs : s.size ≤ maxLen) :
    Calls Try.prog 23 #[.int .u32 (iw x), .string s] w fun e w' => e = .returned (.int .u32 (iw (crc x s.data.toList))) ∧ w' = w := by
  unfold maxLen at hs
  have h0 := iw_lo x
  have h1 := iw_hi x
  go_enter Try.func23, Try.ntmps23
  go_wp2
  go_loop [5, 11] (fun v i => ∃ k : Nat, k ≤ s.size ∧ i = .int .i64 k ∧ v = .int .u32 (iw (reg (~~~x) (s.data.toList.take k)))) (fun _ i => s.size - (intOf i).toNat)
  case atStart => exact ⟨0, by omega, rfl, by first | (rw [sub_iw]; rfl) | (rw [sub_iw']; rfl)⟩
  case round =>
    obtain ⟨k, hk, rfl, rfl⟩ := hrel
    by_cases hlt : k < s.size
    · have hsn := reg_snoc (~~~x) s k hlt
      generalize hy : reg (~~~x) (s.data.toList.take k) = y at *
      have Hy := Lib.hid hy; clear hy
      have Hsn := Lib.hid hsn; clear hsn
      have hk0 : (0 : Int) ≤ (k : Int) := Int.natCast_nonneg _
      have hk1 : (k : Int) < (s.size : Int) := by omega
      have hbyte : (s[k].toNat : Int) < 256 := by have := s[k].toNat_lt; omega
      go_wp2
      generalize s[k] = c at *
      have Hlt := Lib.hid hlt; have Hh := Lib.hid hs
      clear hk0 hk1 hbyte h0 h1 hlt hk hs
      go_loop [5, 20] (fun v j => ∃ m : Nat, m ≤ 8 ∧ j = .int .i64 m ∧ v = .int .u32 (iw (shN m (y ^^^ BitVec.ofNat 32 c.toNat)))) (fun _ j => 8 - (intOf j).toNat)
      case atStart => exact ⟨0, by omega, rfl, by rw [xor_byte]; rfl⟩
      case round =>
        obtain ⟨m, hm, rfl, rfl⟩ := hrel
        generalize hz : shN m (y ^^^ BitVec.ofNat 32 c.toNat) = z
        have Hz := Lib.hid hz; clear hz
        by_cases hm8 : m < 8
        · go_wp2_with (go_at_call 27; refine (shifted_any _ _).mono ?_; rintro e w' ⟨rfl, rfl⟩)
          go_round
          case rel => exact ⟨m + 1, by omega, by go_num, by rw [shN_succ, Hz.out]⟩
          case measure => simp [intOf]; omega
        · have hlt := Hlt.out
          have hs := Hh.out
          go_wp2
          go_round
          case rel => 
            obtain rfl : m = 8 := by omega
            exact ⟨k + 1, by omega, by go_num, by rw [Hsn.out, ← Hz.out]; rfl⟩
          case measure => simp [intOf]; omega
    · go_wp2
      go_ret
      obtain rfl : k = s.size := by omega
      rw [List.take_of_length_le (by simp)]
      exact ⟨ret_int (by first | (rw [sub_iw]; rfl) | (rw [sub_iw']; rfl)), rfl⟩

end Go.Proofs.Ytcgmgecdlanolaa.Own
