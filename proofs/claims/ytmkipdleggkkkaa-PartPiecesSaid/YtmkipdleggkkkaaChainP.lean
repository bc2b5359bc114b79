/- Numbers as chains of bytes: plain laws. -/
import Derived.Test.YtmkipdleggkkkaaNumsP
namespace Go.Proofs.Ytmkipdleggkkkaa.Own
def chainL (v : Nat) : List UInt8 := if v < 128 then [UInt8.ofNat v] else UInt8.ofNat (v % 128 + 128) :: chainL (v / 128)
termination_by v
decreasing_by omega
theorem chainL_lt {v : Nat} (h : v < 128) : chainL v = [UInt8.ofNat v] := by rw [chainL, if_pos h]
theorem chainL_ge {v : Nat} (h : 128 ≤ v) : chainL v = UInt8.ofNat (v % 128 + 128) :: chainL (v / 128) := by rw [chainL, if_neg (by omega)]
theorem chainL_pos (v : Nat) : 1 ≤ (chainL v).length := by
  by_cases h : v < 128
  · rw [chainL_lt h]; simp
  · rw [chainL_ge (by omega)]; simp
theorem chainL_len (n : Nat) : ∀ v, v < 128 ^ (n + 1) → (chainL v).length ≤ n + 1 := by
  induction n with
  | zero => intro v h; rw [chainL_lt (by simpa using h)]; simp
  | succ n ih =>
    intro v h
    by_cases h1 : v < 128
    · rw [chainL_lt h1]; simp
    · rw [chainL_ge (by omega), List.length_cons]
      have := ih (v / 128) (by rw [Nat.div_lt_iff_lt_mul (by decide)]; rw [Nat.pow_succ] at h; exact h)
      omega
theorem chainL_len10 {v : Nat} (h : v < 18446744073709551616) : (chainL v).length ≤ 10 := chainL_len 9 v (Nat.lt_trans h (by decide))
/-- What the bytes of a chain come to: the number, how many bytes it has, and an error. -/
def unch (s : List UInt8) (i : Nat) (v : Nat) : Nat → Nat × Nat × Nat
  | 0 => (0, 0, 4)
  | n + 1 => match s with
    | [] => (0, 0, 3)
    | b :: r => if (i = 9 ∧ 1 < b.toNat) ∨ (b.toNat = 0 ∧ 0 < i) then (0, 0, 4) else if b.toNat < 128 then (v + b.toNat * 128 ^ i, i + 1, 0) else unch r (i + 1) (v + (b.toNat - 128) * 128 ^ i) n
def unchain (s : List UInt8) : Nat × Nat × Nat := unch s 0 0 10
end Go.Proofs.Ytmkipdleggkkkaa.Own
