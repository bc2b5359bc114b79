/- The CRC is linear: plain laws on words of 32 bits. -/
import Derived.Test.YtopinfpjflogdaaSums
set_option linter.unusedSimpArgs false
namespace Go.Proofs.Ytopinfpjflogdaa

theorem neg_and_one (x : BitVec 32) : -(x &&& 1#32) = if x.getLsbD 0 then BitVec.allOnes 32 else 0#32 := by
  rw [BitVec.and_one_eq_setWidth_ofBool_getLsbD]
  cases x.getLsbD 0 <;> decide
theorem sh1_eq (x : BitVec 32) : sh1 x = (x >>> 1) ^^^ (if x.getLsbD 0 then poly else 0#32) := by
  unfold sh1
  rw [neg_and_one]
  cases x.getLsbD 0
  · simp
  · have e : BitVec.allOnes 32 &&& poly = poly := by decide
    simp only [if_true, e]
theorem xor_four (a b c d : BitVec 32) : (a ^^^ b) ^^^ (c ^^^ d) = (a ^^^ c) ^^^ (b ^^^ d) := by
  rw [BitVec.xor_assoc, BitVec.xor_assoc, ← BitVec.xor_assoc b c d, BitVec.xor_comm b c, BitVec.xor_assoc c b d]
theorem sh1_xor (a b : BitVec 32) : sh1 (a ^^^ b) = sh1 a ^^^ sh1 b := by
  rw [sh1_eq, sh1_eq, sh1_eq, BitVec.ushiftRight_xor_distrib, BitVec.getLsbD_xor, xor_four]
  congr 1
  cases a.getLsbD 0 <;> cases b.getLsbD 0 <;> simp
theorem sh1_zero {x : BitVec 32} (h : sh1 x = 0#32) : x = 0#32 := by
  rw [sh1_eq] at h
  cases hx : x.getLsbD 0 with
  | true =>
    rw [hx] at h
    have h31 := congrArg (fun y => y.getLsbD 31) h
    simp [BitVec.getLsbD_xor, BitVec.getLsbD_ushiftRight, poly] at h31
  | false =>
    rw [hx] at h
    simp at h
    have h2 := congrArg BitVec.toNat h
    rw [BitVec.toNat_ushiftRight, Nat.shiftRight_eq_div_pow] at h2
    simp at h2
    have h3 : x.toNat.testBit 0 = false := hx
    rw [Nat.testBit_zero] at h3
    simp at h3
    apply BitVec.eq_of_toNat_eq
    simp
    omega
theorem shN_xor (n : Nat) : ∀ a b : BitVec 32, shN n (a ^^^ b) = shN n a ^^^ shN n b := by
  induction n with
  | zero => intro a b; rfl
  | succ n ih => intro a b; rw [shN, shN, shN, sh1_xor, ih]
theorem shN_zero (n : Nat) : ∀ x : BitVec 32, shN n x = 0#32 → x = 0#32 := by
  induction n with
  | zero => intro x h; exact h
  | succ n ih => intro x h; exact sh1_zero (ih _ h)
theorem shN_add (m n : Nat) : ∀ x : BitVec 32, shN (m + n) x = shN n (shN m x) := by
  induction m with
  | zero => intro x; rw [Nat.zero_add]; rfl
  | succ m ih => intro x; rw [Nat.succ_add, shN, ih]; rfl
theorem xor_eq_zero {a b : BitVec 32} (h : a ^^^ b = 0#32) : a = b := by
  have : (a ^^^ b) ^^^ b = 0#32 ^^^ b := by rw [h]
  rw [BitVec.xor_assoc, BitVec.xor_self, BitVec.xor_zero, BitVec.zero_xor] at this
  exact this
/-- What two registers differ in, behind the same bytes. -/
theorem reg_diff (l : List UInt8) : ∀ x y : BitVec 32, reg x l ^^^ reg y l = shN (8 * l.length) (x ^^^ y) := by
  induction l with
  | nil => intro x y; rfl
  | cons b l ih =>
    intro x y
    show reg (byteStep x b) l ^^^ reg (byteStep y b) l = _
    rw [ih, List.length_cons, show 8 * (l.length + 1) = 8 + 8 * l.length from by omega, shN_add]
    congr 1
    unfold byteStep
    rw [← shN_xor, xor_four, BitVec.xor_self, BitVec.xor_zero]
theorem reg_append (x : BitVec 32) (l m : List UInt8) : reg x (l ++ m) = reg (reg x l) m := by unfold reg; rw [List.foldl_append]
theorem not_xor_not (a b : BitVec 32) : ~~~a ^^^ ~~~b = a ^^^ b := by
  apply BitVec.eq_of_getLsbD_eq
  intro i hi
  simp [hi]
theorem crc_append (x : BitVec 32) (l m : List UInt8) : crc (crc x l) m = crc x (l ++ m) := by
  unfold crc
  rw [BitVec.not_not, reg_append]
/-- SumsBegin, in plain words. -/
theorem crc_begin (a b c d : BitVec 32) (h : a ^^^ b = c ^^^ d) (s t : List UInt8) (hl : s.length = t.length) : crc a s ^^^ crc b s = crc c t ^^^ crc d t := by
  unfold crc
  rw [not_xor_not, not_xor_not, reg_diff, reg_diff, not_xor_not, not_xor_not, h, hl]
theorem crc_ne {x : BitVec 32} {l m : List UInt8} (h : reg (~~~x) l ≠ reg (~~~x) m) : crc x l ≠ crc x m := by
  unfold crc
  intro e
  apply h
  have := congrArg (fun y => ~~~y) e
  simpa [BitVec.not_not] using this
theorem reg_ne {x y : BitVec 32} (h : x ≠ y) (l : List UInt8) : reg x l ≠ reg y l := by
  intro e
  apply h
  apply xor_eq_zero
  apply shN_zero (8 * l.length)
  rw [← reg_diff, e, BitVec.xor_self]
theorem word_byte_inj {b c : UInt8} (h : BitVec.ofNat 32 b.toNat = BitVec.ofNat 32 c.toNat) : b = c := by
  have e := congrArg BitVec.toNat h
  have hb := b.toNat_lt
  have hc := c.toNat_lt
  rw [BitVec.toNat_ofNat, BitVec.toNat_ofNat] at e
  apply UInt8.toNat_inj.1
  omega
/-- Two texts that differ in one byte. -/
theorem crc_byte (x : BitVec 32) (p t : List UInt8) {b c : UInt8} (h : b ≠ c) : crc x (p ++ b :: t) ≠ crc x (p ++ c :: t) := by
  apply crc_ne
  rw [reg_append, reg_append]
  show reg (byteStep _ b) t ≠ reg (byteStep _ c) t
  apply reg_ne
  unfold byteStep
  intro e
  apply h
  apply word_byte_inj
  have e2 := shN_zero 8 ((reg (~~~x) p ^^^ BitVec.ofNat 32 b.toNat) ^^^ (reg (~~~x) p ^^^ BitVec.ofNat 32 c.toNat)) (by rw [shN_xor, e, BitVec.xor_self])
  rw [xor_four, BitVec.xor_self, BitVec.zero_xor] at e2
  exact xor_eq_zero e2

theorem sh1_shl {y : BitVec 32} (h : y.toNat < 2 ^ 31) : sh1 (y <<< 1) = y := by
  rw [sh1_eq]
  have h0 : (y <<< 1).getLsbD 0 = false := by simp
  rw [h0]
  simp only [Bool.false_eq_true, if_false, BitVec.xor_zero]
  apply BitVec.eq_of_toNat_eq
  rw [BitVec.toNat_ushiftRight, BitVec.toNat_shiftLeft, Nat.shiftLeft_eq, Nat.shiftRight_eq_div_pow]
  omega
theorem toNat_shl {y : BitVec 32} {n : Nat} (h : y.toNat * 2 ^ n < 2 ^ 32) : (y <<< n).toNat = y.toNat * 2 ^ n := by
  rw [BitVec.toNat_shiftLeft, Nat.shiftLeft_eq, Nat.mod_eq_of_lt h]
theorem shN_shl (n : Nat) : ∀ {y : BitVec 32}, y.toNat * 2 ^ n < 2 ^ 32 → shN n (y <<< n) = y := by
  induction n with
  | zero => intro y h; simp [shN]
  | succ n ih =>
    intro y h
    have h2 : y.toNat * 2 ^ n * 2 < 2 ^ 32 := by rw [Nat.mul_assoc, ← Nat.pow_succ]; exact h
    have h1 : y.toNat * 2 ^ n < 2 ^ 32 := by omega
    rw [shN, BitVec.shiftLeft_add, sh1_shl (by rw [toNat_shl h1]; omega)]
    exact ih h1
theorem shN_join (n : Nat) (x : BitVec 32) {y : BitVec 32} (h : y.toNat * 2 ^ n < 2 ^ 32) : shN n x ^^^ y = shN n (x ^^^ (y <<< n)) := by
  rw [shN_xor, shN_shl n h]
/-- Four bytes, one behind the other. -/
theorem four_bytes (a b c d : BitVec 32) (hb : b.toNat < 256) (hc : c.toNat < 256) (hd : d.toNat < 256) :
    shN 8 (shN 8 (shN 8 (shN 8 a ^^^ b) ^^^ c) ^^^ d) = shN 32 (a ^^^ (b <<< 8) ^^^ (c <<< 16) ^^^ (d <<< 24)) := by
  have c8 : (c <<< 8).toNat = c.toNat * 2 ^ 8 := toNat_shl (by omega)
  have d8 : (d <<< 8).toNat = d.toNat * 2 ^ 8 := toNat_shl (by omega)
  have d16 : (d <<< 16).toNat = d.toNat * 2 ^ 16 := toNat_shl (by omega)
  have c16 : c <<< 16 = (c <<< 8) <<< 8 := (BitVec.shiftLeft_add c 8 8)
  have d16' : d <<< 16 = (d <<< 8) <<< 8 := (BitVec.shiftLeft_add d 8 8)
  have d24 : d <<< 24 = (d <<< 16) <<< 8 := (BitVec.shiftLeft_add d 16 8)
  have e32 : ∀ z, shN 32 z = shN 8 (shN 8 (shN 8 (shN 8 z))) := fun z => by
    rw [← shN_add, ← shN_add, ← shN_add]
  rw [e32]
  rw [shN_join 8 a (y := b) (by omega)]
  rw [shN_join 8 (shN 8 _) (y := c) (by omega), shN_join 8 _ (y := c <<< 8) (by omega), ← c16]
  rw [shN_join 8 (shN 8 (shN 8 _)) (y := d) (by omega), shN_join 8 (shN 8 _) (y := d <<< 8) (by omega), ← d16', shN_join 8 _ (y := d <<< 16) (by omega), ← d24]

/-- Byte j of a word. -/
def eb (q : BitVec 32) (j : Nat) : UInt8 := UInt8.ofNat (q.toNat / 2 ^ (8 * j) % 256)
def wb (q : BitVec 32) (j : Nat) : BitVec 32 := BitVec.ofNat 32 (eb q j).toNat
theorem eb_toNat (q : BitVec 32) (j : Nat) : (eb q j).toNat = q.toNat / 2 ^ (8 * j) % 256 := by
  unfold eb
  rw [UInt8.toNat_ofNat']
  omega
theorem wb_toNat (q : BitVec 32) (j : Nat) : (wb q j).toNat = q.toNat / 2 ^ (8 * j) % 256 := by
  unfold wb
  rw [BitVec.toNat_ofNat, eb_toNat]
  omega
theorem wb_bit (q : BitVec 32) (j i : Nat) : (wb q j).getLsbD i = (decide (i < 8) && q.getLsbD (8 * j + i)) := by
  unfold BitVec.getLsbD
  rw [wb_toNat, show (256 : Nat) = 2 ^ 8 from rfl, Nat.testBit_mod_two_pow, Nat.testBit_div_two_pow, Nat.add_comm]
theorem word_parts (q : BitVec 32) : wb q 0 ^^^ (wb q 1 <<< 8) ^^^ (wb q 2 <<< 16) ^^^ (wb q 3 <<< 24) = q := by
  apply BitVec.eq_of_getLsbD_eq
  intro i hi
  simp only [BitVec.getLsbD_xor, BitVec.getLsbD_shiftLeft, wb_bit]
  by_cases h1 : i < 8
  · simp [h1, hi, show i < 16 from by omega, show i < 24 from by omega]
  · by_cases h2 : i < 16
    · simp [h1, h2, hi, show i - 8 < 8 from by omega, show i < 24 from by omega, show 8 + (i - 8) = i from by omega]
    · by_cases h3 : i < 24
      · simp [h1, h2, h3, hi, show ¬ (i - 8 < 8) from by omega, show i - 16 < 8 from by omega, show 16 + (i - 16) = i from by omega]
      · simp [h1, h2, h3, hi, show ¬ (i - 8 < 8) from by omega, show ¬ (i - 16 < 8) from by omega, show i - 24 < 8 from by omega, show 24 + (i - 24) = i from by omega]
theorem word_xor (c e : UInt8) : BitVec.ofNat 32 (c ^^^ e).toNat = BitVec.ofNat 32 c.toNat ^^^ BitVec.ofNat 32 e.toNat := by
  apply BitVec.eq_of_toNat_eq
  have hc := c.toNat_lt
  have he := e.toNat_lt
  have hx := (c ^^^ e).toNat_lt
  rw [BitVec.toNat_xor, BitVec.toNat_ofNat, BitVec.toNat_ofNat, BitVec.toNat_ofNat, Nat.mod_eq_of_lt (by omega), Nat.mod_eq_of_lt (by omega), Nat.mod_eq_of_lt (by omega), UInt8.toNat_xor]
theorem byteStep_diff (x y : BitVec 32) (c e : UInt8) : byteStep x c ^^^ byteStep y (c ^^^ e) = shN 8 (x ^^^ y ^^^ BitVec.ofNat 32 e.toNat) := by
  unfold byteStep
  rw [← shN_xor, word_xor, xor_four, ← BitVec.xor_assoc (BitVec.ofNat 32 c.toNat), BitVec.xor_self, BitVec.zero_xor]
/-- Two texts that differ within four bytes in a row. -/
theorem crc_burst (x : BitVec 32) (p t : List UInt8) (c0 c1 c2 c3 : UInt8) {q : BitVec 32} (h : q ≠ 0#32) :
    crc x (p ++ (c0 ^^^ eb q 0) :: (c1 ^^^ eb q 1) :: (c2 ^^^ eb q 2) :: (c3 ^^^ eb q 3) :: t) ≠ crc x (p ++ c0 :: c1 :: c2 :: c3 :: t) := by
  apply Ne.symm
  apply crc_ne
  rw [reg_append, reg_append]
  generalize reg (~~~x) p = r
  show reg (byteStep (byteStep (byteStep (byteStep r c0) c1) c2) c3) t ≠ reg (byteStep (byteStep (byteStep (byteStep r (c0 ^^^ eb q 0)) (c1 ^^^ eb q 1)) (c2 ^^^ eb q 2)) (c3 ^^^ eb q 3)) t
  apply reg_ne
  intro e
  have hx : byteStep (byteStep (byteStep (byteStep r c0) c1) c2) c3 ^^^ byteStep (byteStep (byteStep (byteStep r (c0 ^^^ eb q 0)) (c1 ^^^ eb q 1)) (c2 ^^^ eb q 2)) (c3 ^^^ eb q 3) = 0#32 := by rw [e, BitVec.xor_self]
  rw [byteStep_diff, byteStep_diff, byteStep_diff, byteStep_diff, BitVec.xor_self, BitVec.zero_xor] at hx
  have h4 := four_bytes (wb q 0) (wb q 1) (wb q 2) (wb q 3) (by rw [wb_toNat]; omega) (by rw [wb_toNat]; omega) (by rw [wb_toNat]; omega)
  unfold wb at h4
  rw [h4] at hx
  have h5 := word_parts q
  unfold wb at h5
  rw [h5] at hx
  exact h (shN_zero 32 q hx)
end Go.Proofs.Ytopinfpjflogdaa
