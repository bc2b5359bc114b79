/- The walk of nums.Chain. -/
import Derived.Test.YtmkipdleggkkkaaBlk
import Derived.Test.YtmkipdleggkkkaaChainP
import Derived.Laws.BitsLemmas
namespace Go.Proofs.Ytmkipdleggkkkaa.Own
open Go.RowKit
set_option maxRecDepth 100000
set_option linter.unusedSimpArgs false
set_option linter.unusedVariables false
/-- The array behind k rounds. -/
def chB (pre : List UInt8) : List UInt8 := pre ++ List.replicate (10 - pre.length) 0
theorem chB_length {pre : List UInt8} (h : pre.length ≤ 10) : (chB pre).length = 10 := by simp [chB]; omega
theorem chB_nil : chB [] = [0, 0, 0, 0, 0, 0, 0, 0, 0, 0] := by decide
theorem chB_set {pre : List UInt8} (h : pre.length < 10) (c : UInt8) : (chB pre).set pre.length c = chB (pre ++ [c]) := by
  unfold chB
  obtain ⟨n, hn⟩ : ∃ n, 10 - pre.length = n + 1 := ⟨9 - pre.length, by omega⟩
  rw [hn, List.replicate_succ, List.set_append_right _ _ (Nat.le_refl _), Nat.sub_self, List.set_cons_zero, List.length_append, List.append_assoc]
  congr 2
  simp
  omega
theorem chB_take (pre : List UInt8) (c : UInt8) : (chB (pre ++ [c])).take (pre.length + 1) = pre ++ [c] := by
  unfold chB
  rw [List.take_left' (by simp)]
theorem or128 (x : Nat) (h : x < 256) : Go.bits .or .u8 (x : Int) 128 = ((UInt8.ofNat (x % 128 + 128)).toNat : Int) := by
  have h1 := (Go.bits_nat .u8 8 (by decide) Go.wraps_u8 x 128 (by simpa using h) (by decide)).2
  rw [show ((128 : Nat) : Int) = 128 from rfl] at h1
  rw [h1, UInt8.toNat_ofNat']
  have key : ∀ y : Fin 256, (y.val ||| 128) = (y.val % 128 + 128) % 2 ^ 8 := by decide +kernel
  have := key ⟨x, h⟩
  simp only at this
  rw [this]
theorem chain_round {v x k : Nat} (hx : 128 ≤ x) (h : x * 128 ^ k ≤ v) (hv : v < 18446744073709551616) : k ≤ 8 := by
  apply Classical.byContradiction
  intro hk
  have h1 : 128 ^ 9 ≤ 128 ^ k := Nat.pow_le_pow_right (by decide) (by omega)
  have h2 : 128 * 128 ^ 9 ≤ x * 128 ^ k := Nat.mul_le_mul hx h1
  have h3 : 128 * 128 ^ 9 = 1180591620717411303424 := by decide
  omega
theorem chain_next {v x k : Nat} (h : x * 128 ^ k ≤ v) : x / 128 * 128 ^ (k + 1) ≤ v := by
  refine Nat.le_trans ?_ h
  rw [Nat.pow_succ, Nat.mul_comm (128 ^ k) 128, ← Nat.mul_assoc]
  exact Nat.mul_le_mul_right _ (Nat.div_mul_le_self _ _)
set_option maxHeartbeats 1000000 in
theorem chain_any (v : Nat) (w : World) (hv : v < 18446744073709551616) :
    Calls Try.prog 46 #[.int .u64 (v : Int)] w fun e w' => e = .returned (.string (sB (chainL v))) ∧ Below w.heap.size w w' := by
  have Hv := Lib.hid hv; clear hv
  go_enter Try.func46, Try.ntmps46
  go_wp2_with fail
  go_loopw [0, 4] (fun x n wr => ∃ (y : Nat) (pre : List UInt8), x = .int .u64 (y : Int) ∧ n = .int .i64 (pre.length : Int) ∧ pre ++ chainL y = chainL v ∧ y * 128 ^ pre.length ≤ v ∧ pre.length ≤ 9 ∧ ABlk wr w.heap.size (chB pre) 78 ∧ Below w.heap.size w wr) (fun x _ _ => (intOf x).toNat)
  case atStart => exact ⟨v, [], rfl, rfl, rfl, by simp, by simp, by rw [chB_nil]; exact heap_new _ _, (Below.refl _ _).alloc (Nat.le_refl _) _⟩
  case round =>
    obtain ⟨y, pre, rfl, rfl, heq, hle, h9, hb, bel⟩ := hrel
    have Bel := Lib.hid bel; clear bel
    have Hb := Lib.hid hb
    have Heq := Lib.hid heq; clear heq
    have Hle := Lib.hid hle; clear hle
    have hyv : y < 18446744073709551616 := by
      have h1 := Hle.out
      have h2 : 1 ≤ 128 ^ pre.length := Nat.one_le_pow _ _ (by decide)
      have h3 : y * 1 ≤ y * 128 ^ pre.length := Nat.mul_le_mul_left _ h2
      have := Hv.out
      omega
    have hc := hb.row.1 pre.length (by rw [chB_length (by omega)]; omega)
    have hf := hb.row.2 pre.length (by rw [chB_length (by omega)]; omega)
    clear hb
    generalize (chB pre)[pre.length]'(by rw [chB_length (by omega)]; omega) = c0 at hc
    have hy0 : (y : Int) < 18446744073709551616 := by omega
    have Hyv := Lib.hid hyv; clear hyv
    by_cases hlt : 128 ≤ y
    · have h8 := chain_round hlt Hle.out Hv.out
      have hor := or128 (y % 256) (by omega)
      rw [show (((y % 256 : Nat)) : Int) = (y : Int) % 256 from by omega, show y % 256 % 128 = y % 128 from by omega] at hor
      have Hor := Lib.hid hor; clear hor
      have hlt' : (128 : Int) ≤ (y : Int) := by omega
      have Hlt := Lib.hid hlt; clear hlt
      have hn := chain_next Hle.out
      have Hn := Lib.hid hn; clear hn
      have hset := Hb.out.set pre.length (UInt8.ofNat (y % 128 + 128))
      rw [chB_set (by omega)] at hset
      have Hset := Lib.hid hset; clear hset
      have hp8 : (pre.length : Int) ≤ 8 := by omega
      go_wp2
      go_roundw
      case rel => exact ⟨y / 128, pre ++ [UInt8.ofNat (y % 128 + 128)], by go_num, by simp, by rw [List.append_assoc, List.singleton_append, ← chainL_ge Hlt.out]; exact Heq.out, by simpa using Hn.out, by simp; omega, by rw [Hor.out]; exact Hset.out, Bel.out.setCell (Nat.le_refl _) _⟩
      case measure => simp [intOf]; have := Hlt.out; omega
    · have hset := Hb.out.set pre.length (UInt8.ofNat y)
      rw [chB_set (by omega)] at hset
      have hbr := take_BRow hset.row (pre.length + 1)
      rw [chB_take] at hbr
      rw [← chainL_lt (v := y) (by omega), Heq.out] at hbr
      rw [show ((UInt8.ofNat y).toNat : Int) = (y : Int) from by rw [UInt8.toNat_ofNat']; omega] at hbr
      have hlen : pre.length + 1 = (chainL v).length := by rw [← Heq.out, chainL_lt (by omega)]; simp
      have kc := brow_string (P := Try.prog) hbr 79 9 5 10 (pre.length + 1) hlen Try.underlying79 Try.underlying5 Try.underlying9
      clear hset hbr hlen
      have hlt' : ¬ (128 : Int) ≤ (y : Int) := by omega
      have hp9 : (pre.length : Int) ≤ 9 := by omega
      have hp10 : (pre.length : Int) + 1 ≤ 10 := by omega
      have hp11 : (0 : Int) ≤ (pre.length : Int) + 1 := by omega
      have hp12 : ((pre.length : Int) + 1).toNat = pre.length + 1 := by omega
      go_wp2
      go_ret
      exact ⟨rfl, Bel.out.setCell (Nat.le_refl _) _⟩
end Go.Proofs.Ytmkipdleggkkkaa.Own
