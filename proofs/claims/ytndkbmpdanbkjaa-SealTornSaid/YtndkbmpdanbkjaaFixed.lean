/- The walks of nums.Fixed, nums.Read and of the references' Fixed and Read. -/
import Derived.Test.YtndkbmpdanbkjaaBlk
namespace Go.Proofs.Ytndkbmpdanbkjaa.Own
open Go.RowKit
set_option maxRecDepth 100000
set_option linter.unusedSimpArgs false
set_option linter.unusedVariables false
/-- What lies in the array behind k rounds. -/
def fixB (v n k : Nat) : List UInt8 := (List.range 8).map fun i => if i < k ∧ i < n then UInt8.ofNat (v / 256 ^ (n - 1 - i)) else 0
theorem fixB_length (v n k : Nat) : (fixB v n k).length = 8 := by simp [fixB]
theorem fixB_zero (v n : Nat) : fixB v n 0 = [0, 0, 0, 0, 0, 0, 0, 0] := by simp [fixB]; rfl
theorem fixB_succ (v n k : Nat) (hk : k < n) (hn : n ≤ 8) : fixB v n (k + 1) = (fixB v n k).set k (UInt8.ofNat (v / 256 ^ (n - 1 - k))) := by
  apply List.ext_getElem?
  intro i
  rw [List.getElem?_set]
  by_cases hi : i < 8
  · by_cases e : k = i
    · subst e
      rw [if_pos rfl, if_pos (by rw [fixB_length]; omega)]
      simp [fixB, hi, hk]
    · rw [if_neg e]
      simp only [fixB, List.getElem?_map, List.getElem?_range hi, Option.map_some]
      have : (i < k + 1 ∧ i < n) ↔ (i < k ∧ i < n) := by omega
      simp only [this]
  · rw [List.getElem?_eq_none (by rw [fixB_length]; omega)]
    split
    · omega
    · rw [List.getElem?_eq_none (by rw [fixB_length]; omega)]
theorem fixB_take (v n : Nat) (hn : n ≤ 8) : (fixB v n n).take n = fixL n v := by
  apply List.ext_getElem?
  intro i
  by_cases hi : i < n
  · rw [List.getElem?_take_of_lt hi, fixL_get n v i hi]
    simp [fixB, hi, show i < 8 by omega]
  · rw [List.getElem?_eq_none (by rw [List.length_take, fixB_length]; omega), List.getElem?_eq_none (by rw [fixL_length]; omega)]
theorem shr_byte (v n k : Nat) : ((v : Int) / 2 ^ (8 * (n - 1 - k))) % 256 = ((UInt8.ofNat (v / 256 ^ (n - 1 - k))).toNat : Int) := by
  rw [UInt8.toNat_ofNat', show (256 : Nat) = 2 ^ 8 from rfl, ← Nat.pow_mul]
  simp
theorem shr_zero {v n : Nat} (hv : v < 256 ^ n) : ((v : Int) / 2 ^ (8 * n) != 0) = false := by
  rw [bne_eq_false_iff_eq]
  rw [show (256 : Nat) = 2 ^ 8 from rfl, ← Nat.pow_mul] at hv
  have := Nat.div_eq_of_lt hv
  exact_mod_cast this
set_option maxHeartbeats 1000000 in
theorem fixed_any (v n : Nat) (w : World) (h1 : 1 ≤ n) (h8 : n ≤ 8) (hv : v < 256 ^ n) :
    Calls Try.prog 16 #[.int .u64 (v : Int), .int .i64 (n : Int)] w fun e w' => e = .returned (.tuple #[.string (sB (fixL n v)), .int .i64 0]) ∧ Below w.heap.size w w' := by
  have hz := shr_zero hv
  have Hz := Lib.hid hz
  clear hv
  by_cases h7 : n < 8
  all_goals
    go_enter Try.func16, Try.ntmps16
    go_wp2_with fail
    clear hz
    go_loopw [26] (fun i wr => ∃ k : Nat, k ≤ n ∧ i = .int .i64 k ∧ ABlk wr w.heap.size (fixB v n k) 50 ∧ Below w.heap.size w wr) (fun i _ => n - (intOf i).toNat)
    case atStart => exact ⟨0, by omega, rfl, by rw [fixB_zero]; exact heap_new _ _, (Below.refl _ _).alloc (Nat.le_refl _) _⟩
    case round =>
      obtain ⟨k, hk, rfl, hb, bel⟩ := hrel
      have Bel := Lib.hid bel; clear bel
      have Hb := Lib.hid hb
      by_cases hlt : k < n
      · have hc := hb.row.1 k (by rw [fixB_length]; omega)
        have hf := hb.row.2 k (by rw [fixB_length]; omega)
        clear hb
        generalize (fixB v n k)[k]'(by rw [fixB_length]; omega) = c0 at hc
        have hk8 : (k : Int) < 8 := by omega
        go_wp2
        go_roundw
        case rel => exact ⟨k + 1, by omega, by go_num, by rw [shr_byte, fixB_succ v n k hlt h8]; exact Hb.out.set k _, Bel.out.setCell (Nat.le_refl _) _⟩
        case measure => simp [intOf]; omega
      · obtain rfl : k = n := by omega
        have hbr := take_BRow hb.row k
        rw [fixB_take v k h8] at hbr
        clear hb
        have kc := brow_string (P := Try.prog) hbr 39 9 5 8 k (by rw [fixL_length]) Try.underlying39 Try.underlying5 Try.underlying9
        clear hbr
        go_wp2
        go_ret2
        exact ⟨rfl, Bel.out⟩
theorem readL_take (s : ByteArray) (k : Nat) (h : k < s.size) : readL (s.data.toList.take (k + 1)) = readL (s.data.toList.take k) * 256 + s[k].toNat := by
  rw [List.take_succ_eq_append_getElem (by simpa using h), readL_snoc]; rfl
theorem readL_take_lt (s : ByteArray) (k : Nat) (h : k ≤ s.size) : readL (s.data.toList.take k) < 256 ^ k := by
  have := readL_lt (s.data.toList.take k)
  rwa [List.length_take, Nat.min_eq_left (by simpa using h)] at this
theorem or_byte (V b : Nat) (hV : V < 2 ^ 56) (hb : b < 256) : Go.bits .or .u64 ((V : Int) * 256) (b : Int) = ((V * 256 + b : Nat) : Int) := by
  rw [Go.bits_join .u64 64 (by decide) (fun n h0 h1 => by rw [IntKind.wrap_u64]; exact Int.emod_eq_of_lt h0 (by simpa using h1)) 8 ((V : Int) * 256) b (by omega) (by omega) (by omega) (by omega) (by omega) (by omega)]
  omega
theorem pow256_56 {k : Nat} (h : k ≤ 7) : (256 : Nat) ^ k ≤ 2 ^ 56 := by
  calc (256 : Nat) ^ k ≤ 256 ^ 7 := Nat.pow_le_pow_right (by decide) h
    _ = 2 ^ 56 := by decide
set_option maxHeartbeats 1000000 in
theorem read_any (s : ByteArray) (w : World) (h1 : 1 ≤ s.size) (h8 : s.size ≤ 8) :
    Calls Try.prog 12 #[.string s] w fun e w' => e = .returned (.tuple #[.int .u64 (readL s.data.toList : Nat), .int .i64 0]) ∧ w' = w := by
  obtain ⟨hne, hse⟩ := str_some h1
  go_enter Try.func12, Try.ntmps12
  go_wp2_with fail
  clear hne hse
  go_loop [4, 15] (fun v i => ∃ k : Nat, k ≤ s.size ∧ i = .int .i64 k ∧ v = .int .u64 (readL (s.data.toList.take k) : Nat)) (fun _ i => s.size - (intOf i).toNat)
  case atStart => exact ⟨0, by omega, rfl, rfl⟩
  case round =>
    obtain ⟨k, hk, rfl, rfl⟩ := hrel
    by_cases hlt : k < s.size
    · have hsn := readL_take s k hlt
      have hV := Nat.lt_of_lt_of_le (readL_take_lt s k (by omega)) (pow256_56 (by omega))
      generalize readL (s.data.toList.take k) = V at *
      have hk0 : (0 : Int) ≤ (k : Int) := Int.natCast_nonneg _
      have hk1 : (k : Int) < (s.size : Int) := by omega
      have hbyte : (s[k].toNat : Int) < 256 := by have := s[k].toNat_lt; omega
      have hor := or_byte V s[k].toNat hV (by omega)
      rw [← hsn] at hor
      have Hor := Lib.hid hor; clear hor hsn
      have hV2 : (V : Int) < 72057594037927936 := by omega
      clear hV
      go_wp2
      go_round
      case rel => exact ⟨k + 1, by omega, by go_num, by rw [← Hor.out]⟩
      case measure => simp [intOf]; omega
    · go_wp2
      go_ret2
      obtain rfl : k = s.size := by omega
      rw [List.take_of_length_le (by simp)]
      exact ⟨rfl, rfl⟩
set_option maxHeartbeats 1000000 in
theorem refread_any (s : ByteArray) (w : World) (h8 : s.size ≤ 8) :
    Calls Try.prog 13 #[.string s] w fun e w' => e = .returned (.int .u64 (readL s.data.toList : Nat)) ∧ w' = w := by
  go_enter Try.func13, Try.ntmps13
  go_wp2_with fail
  go_loop [3, 7] (fun v i => ∃ k : Nat, k ≤ s.size ∧ i = .int .i64 k ∧ v = .int .u64 (readL (s.data.toList.take k) : Nat)) (fun _ i => s.size - (intOf i).toNat)
  case atStart => exact ⟨0, by omega, rfl, rfl⟩
  case round =>
    obtain ⟨k, hk, rfl, rfl⟩ := hrel
    by_cases hlt : k < s.size
    · have hsn := readL_take s k hlt
      have hV := Nat.lt_of_lt_of_le (readL_take_lt s k (by omega)) (pow256_56 (by omega))
      generalize readL (s.data.toList.take k) = V at *
      have hk0 : (0 : Int) ≤ (k : Int) := Int.natCast_nonneg _
      have hk1 : (k : Int) < (s.size : Int) := by omega
      have hbyte : (s[k].toNat : Int) < 256 := by have := s[k].toNat_lt; omega
      have Hsn := Lib.hid hsn; clear hsn
      have hV2 : (V : Int) < 72057594037927936 := by omega
      clear hV
      go_wp2
      go_round
      case rel => exact ⟨k + 1, by omega, by go_num, by rw [Hsn.out]; congr 1; omega⟩
      case measure => simp [intOf]; omega
    · go_wp2
      go_ret
      obtain rfl : k = s.size := by omega
      rw [List.take_of_length_le (by simp)]
      exact ⟨rfl, rfl⟩
theorem fixL_cons (k : Nat) : ∀ v, fixL (k + 1) v = UInt8.ofNat (v / 256 ^ k) :: fixL k v := by
  induction k with
  | zero => intro v; simp [fixL]
  | succ k ih =>
    intro v
    rw [fixL, ih, Nat.div_div_eq_div_mul, Nat.mul_comm 256, ← Nat.pow_succ]
    rfl
theorem one_byte (w : World) (V : Nat) (t : TypeId) : BRow (w.alloc (.cells #[.int .u8 ((V : Int) % 256)] t)) w.heap.size [UInt8.ofNat V] := by
  have h : ((V : Int) % 256) = ((UInt8.ofNat V).toNat : Int) := by rw [UInt8.toNat_ofNat']; simp
  rw [h]
  exact ABlk.row (l := [UInt8.ofNat V]) (t := t) (heap_new _ _)
set_option maxHeartbeats 1000000 in
theorem reffixed_any (v n : Nat) (w : World) (h8 : n ≤ 8) (hv : v < 18446744073709551616) :
    Calls Try.prog 15 #[.int .u64 (v : Int), .int .i64 (n : Int)] w fun e w' => e = .returned (.string (sB (fixL n v))) ∧ Below w.heap.size w w' := by
  have Hv := Lib.hid hv; clear hv
  go_enter Try.func15, Try.ntmps15
  go_wp2_with fail
  go_loopw [5, 0, 7] (fun t u i wr => ∃ k : Nat, k ≤ n ∧ i = .int .i64 k ∧ t = .string (sB (fixL k v)) ∧ u = .int .u64 (v / 256 ^ k : Nat) ∧ Below w.heap.size w wr) (fun _ _ i _ => n - (intOf i).toNat)
  case atStart => exact ⟨0, by omega, rfl, rfl, by simp, Below.refl _ _⟩
  case round =>
    obtain ⟨k, hk, rfl, rfl, rfl, bel⟩ := hrel
    have Bel := Lib.hid bel; clear bel
    by_cases hlt : k < n
    · have hcons := fixL_cons k v
      have hdd : v / 256 ^ k / 256 = v / 256 ^ (k + 1) := by rw [Nat.div_div_eq_div_mul, ← Nat.pow_succ]
      have hVl : v / 256 ^ k ≤ v := Nat.div_le_self _ _
      generalize hV1 : v / 256 ^ (k + 1) = V1 at *
      have HV1 := Lib.hid hV1; clear hV1
      generalize v / 256 ^ k = V at *
      generalize hL1 : fixL (k + 1) v = L1 at *
      have hlen : (fixL k v).length = k := fixL_length k v
      generalize hL : fixL k v = L at *
      have HL := Lib.hid hL; clear hL
      have HL1 := Lib.hid hL1; clear hL1
      have Hcons := Lib.hid hcons; clear hcons
      have Hdd := Lib.hid hdd; clear hdd
      have Hlen := Lib.hid hlen; clear hlen
      have HV := Lib.hid (show V < 18446744073709551616 from Nat.lt_of_le_of_lt hVl Hv.out)
      clear hVl
      have kc := brow_string (P := Try.prog) (one_byte wr V 5) 39 9 5 1 1 rfl Try.underlying39 Try.underlying5 Try.underlying9
      obtain ⟨S, hS⟩ : ∃ S, sB L = S := ⟨_, rfl⟩
      have hSz : S.size ≤ 8 := by rw [← hS, sB_size, Hlen.out]; omega
      rw [hS]
      have HS := Lib.hid hS; clear hS
      go_wp2
      go_roundw
      case rel => exact ⟨k + 1, by omega, by go_num, by rw [HL1.out, Hcons.out, ← HS.out]; exact congrArg Value.string (sB_append [UInt8.ofNat V] L), by rw [HV1.out, ← Hdd.out]; congr 1; rw [IntKind.wrap_u64]; have := HV.out; omega, Bel.out.alloc Bel.out.size _⟩
      case measure => simp [intOf]; omega
    · obtain rfl : k = n := by omega
      go_wp2
      go_ret
      exact ⟨rfl, Bel.out⟩
end Go.Proofs.Ytndkbmpdanbkjaa.Own
