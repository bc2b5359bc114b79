/- The plain arithmetic of the CRC: registers are words of 32 bits. -/
import Derived.Laws.BitsLemmas
import Derived.WalkKit
namespace Go.Proofs.Ytcgmgecdlanolaa.Own
open Go Go.RowKit

/-- A word as the whole number that the model holds. -/
def iw (x : BitVec 32) : Int := (x.toNat : Int)
theorem iw_lo (x : BitVec 32) : 0 ≤ iw x := by unfold iw; omega
theorem iw_hi (x : BitVec 32) : iw x < 4294967296 := by unfold iw; have := x.isLt; omega
theorem iw_inj {x y : BitVec 32} (h : iw x = iw y) : x = y := by
  unfold iw at h; exact BitVec.eq_of_toNat_eq (by omega)

theorem bits_xor_iw (x y : BitVec 32) : Go.bits .xor .u32 (iw x) (iw y) = iw (x ^^^ y) := by
  have e : Go.bits .xor .u32 (iw x) (iw y) = IntKind.u32.wrap ((BitVec.ofInt 32 (iw x) ^^^ BitVec.ofInt 32 (iw y)).toNat : Int) := rfl
  rw [e, IntKind.wrap_u32]
  unfold iw
  rw [BitVec.ofInt_natCast, BitVec.ofInt_natCast, BitVec.ofNat_toNat, BitVec.ofNat_toNat, BitVec.setWidth_eq, BitVec.setWidth_eq]
  have := (x ^^^ y).isLt
  omega
theorem bits_and_iw (x y : BitVec 32) : Go.bits .and .u32 (iw x) (iw y) = iw (x &&& y) := by
  have e : Go.bits .and .u32 (iw x) (iw y) = IntKind.u32.wrap ((BitVec.ofInt 32 (iw x) &&& BitVec.ofInt 32 (iw y)).toNat : Int) := rfl
  rw [e, IntKind.wrap_u32]
  unfold iw
  rw [BitVec.ofInt_natCast, BitVec.ofInt_natCast, BitVec.ofNat_toNat, BitVec.ofNat_toNat, BitVec.setWidth_eq, BitVec.setWidth_eq]
  have := (x &&& y).isLt
  omega
theorem neg_iw (x : BitVec 32) : (-(iw x)) % 4294967296 = iw (-x) := by
  unfold iw
  rw [BitVec.toNat_neg]
  have := x.isLt
  omega
theorem half_iw (x : BitVec 32) : iw x / (2 : Int) = iw (x >>> 1) := by
  unfold iw
  rw [BitVec.toNat_ushiftRight, Nat.shiftRight_eq_div_pow]
  omega

def poly : BitVec 32 := 0xedb88320#32
/-- A register shifted by a bit. -/
def sh1 (x : BitVec 32) : BitVec 32 := (x >>> 1) ^^^ ((-(x &&& 1#32)) &&& poly)
def shN : Nat → BitVec 32 → BitVec 32
  | 0, x => x
  | n + 1, x => shN n (sh1 x)
theorem shN_succ (n : Nat) (x : BitVec 32) : shN (n + 1) x = sh1 (shN n x) := by
  induction n generalizing x with
  | zero => rfl
  | succ n ih => rw [shN, ih, shN]
/-- A register shifted by a byte. -/
def byteStep (x : BitVec 32) (b : UInt8) : BitVec 32 := shN 8 (x ^^^ BitVec.ofNat 32 b.toNat)
def reg (x : BitVec 32) (l : List UInt8) : BitVec 32 := l.foldl byteStep x
def crc (begin_ : BitVec 32) (l : List UInt8) : BitVec 32 := ~~~ (reg (~~~ begin_) l)

theorem sh1_int (x : BitVec 32) : Go.bits .xor .u32 (iw x / (2 : Int)) (Go.bits .and .u32 ((-(Go.bits .and .u32 (iw x) 1)) % 4294967296) 3988292384) = iw (sh1 x) := by
  have h1 : (1 : Int) = iw 1#32 := rfl
  have h2 : (3988292384 : Int) = iw poly := by decide
  rw [h2]
  conv => lhs; rw [h1]
  rw [bits_and_iw, neg_iw, half_iw, bits_and_iw, bits_xor_iw]
  rfl
end Go.Proofs.Ytcgmgecdlanolaa.Own
