/- Numbers as so many bytes, the greatest first: plain laws. -/
import Derived.Test.YtmkipdleggkkkaaBytes
namespace Go.Proofs.Ytmkipdleggkkkaa.Own
def fixL : Nat → Nat → List UInt8
  | 0, _ => []
  | n + 1, v => fixL n (v / 256) ++ [UInt8.ofNat v]
def readL (l : List UInt8) : Nat := l.foldl (fun v b => v * 256 + b.toNat) 0
theorem fixL_length (n : Nat) : ∀ v, (fixL n v).length = n := by
  induction n with
  | zero => intro v; rfl
  | succ n ih => intro v; simp [fixL, ih]
theorem fixL_get (n : Nat) : ∀ (v i : Nat), i < n → (fixL n v)[i]? = some (UInt8.ofNat (v / 256 ^ (n - 1 - i))) := by
  induction n with
  | zero => intro v i h; omega
  | succ n ih =>
    intro v i h
    rw [fixL]
    by_cases hi : i < n
    · rw [List.getElem?_append_left (by rw [fixL_length]; exact hi), ih _ _ hi, Nat.div_div_eq_div_mul, Nat.mul_comm 256, ← Nat.pow_succ]
      congr 5
      omega
    · obtain rfl : i = n := by omega
      rw [List.getElem?_append_right (by rw [fixL_length]; exact Nat.le_refl _), fixL_length]
      simp
theorem readL_snoc (l : List UInt8) (b : UInt8) : readL (l ++ [b]) = readL l * 256 + b.toNat := by unfold readL; rw [List.foldl_append]; rfl
theorem readL_fixL (n : Nat) : ∀ v, readL (fixL n v) = v % 256 ^ n := by
  induction n with
  | zero => intro v; simp [fixL, readL, Nat.mod_one]
  | succ n ih =>
    intro v
    rw [fixL, readL_snoc, ih, UInt8.toNat_ofNat', show 256 ^ (n + 1) = 256 * 256 ^ n from by rw [Nat.pow_succ, Nat.mul_comm], Nat.mod_mul]
    omega
theorem readL_lt (l : List UInt8) : readL l < 256 ^ l.length := by
  have : ∀ (m : List UInt8), readL m.reverse < 256 ^ m.length := by
    intro m
    induction m with
    | nil => simp [readL]
    | cons b m ih =>
      rw [List.reverse_cons, readL_snoc, List.length_cons, Nat.pow_succ]
      have := b.toNat_lt
      omega
  have h := this l.reverse
  rwa [List.reverse_reverse, List.length_reverse] at h
theorem fixL_readL (l : List UInt8) : fixL l.length (readL l) = l := by
  have : ∀ (m : List UInt8), fixL m.length (readL m.reverse) = m.reverse := by
    intro m
    induction m with
    | nil => rfl
    | cons b m ih =>
      rw [List.reverse_cons, readL_snoc, List.length_cons, fixL]
      have hb := b.toNat_lt
      have e1 : (readL m.reverse * 256 + b.toNat) / 256 = readL m.reverse := by omega
      have e2 : UInt8.ofNat (readL m.reverse * 256 + b.toNat) = b := by
        apply UInt8.toNat_inj.1
        rw [UInt8.toNat_ofNat']
        omega
      rw [e1, e2, ih]
  have h := this l.reverse
  rwa [List.reverse_reverse, List.length_reverse] at h
theorem fixL_inj {n v u : Nat} (hv : v < 256 ^ n) (hu : u < 256 ^ n) (h : fixL n v = fixL n u) : v = u := by
  have := congrArg readL h
  rw [readL_fixL, readL_fixL, Nat.mod_eq_of_lt hv, Nat.mod_eq_of_lt hu] at this
  exact this
/-- A string out of bytes. -/
def sB (l : List UInt8) : ByteArray := ⟨l.toArray⟩
theorem sB_list (l : List UInt8) : (sB l).data.toList = l := by simp [sB]
theorem sB_size (l : List UInt8) : (sB l).size = l.length := by simp [sB, ByteArray.size]
theorem sB_append (l m : List UInt8) : sB l ++ sB m = sB (l ++ m) := by
  apply ByteArray.ext
  simp [sB, ByteArray.data_append]
theorem sB_of (s : ByteArray) : sB s.data.toList = s := by
  apply ByteArray.ext
  simp [sB]
theorem sB_inj {l m : List UInt8} (h : sB l = sB m) : l = m := by
  have := congrArg (fun s : ByteArray => s.data.toList) h
  simpa [sB] using this
end Go.Proofs.Ytmkipdleggkkkaa.Own
