/- Sealed sectors over lists of bytes. -/
import Derived.Test.YtndkbmpdanbkjaaTx
namespace Go.Proofs.Ytndkbmpdanbkjaa.Own
open Go.RowKit
set_option linter.unusedSimpArgs false
set_option linter.unusedVariables false
/-- Do bytes open? -/
def okL (L : List UInt8) : Prop := L.length = 64 ∧ L.take 6 = L.drop 58 ∧ readL ((L.drop 4).take 2) ≠ 0
theorem markL_of (m : List UInt8) (h : m.length = 6) : markL (readL (m.take 4)) (readL (m.drop 4)) = m := by
  unfold markL
  have h1 := fixL_readL (m.take 4)
  have h2 := fixL_readL (m.drop 4)
  rw [List.length_take, show min 4 m.length = 4 by omega] at h1
  rw [List.length_drop, h] at h2
  rw [h1, h2, List.take_append_drop]
theorem markL_take (st c : Nat) : (markL st c).take 4 = fixL 4 st := List.take_left' (fixL_length 4 st)
theorem markL_drop (st c : Nat) : (markL st c).drop 4 = fixL 2 c := List.drop_left' (fixL_length 4 st)
theorem drop_take4 (L : List UInt8) : (L.drop 4).take 2 = (L.take 6).drop 4 := by rw [List.drop_take]
theorem take_take4 (L : List UInt8) : L.take 4 = (L.take 6).take 4 := by rw [List.take_take]; rfl
theorem split64 (L : List UInt8) : L = L.take 6 ++ (L.drop 6).take 52 ++ L.drop 58 := by
  have h : L.drop 58 = (L.drop 6).drop 52 := by rw [List.drop_drop]
  rw [h, List.append_assoc, List.take_append_drop, List.take_append_drop]
/-- A sector whose ends are alike is the sealed one. -/
theorem seal_of {L : List UInt8} (h : L.length = 64) (h6 : L.take 6 = L.drop 58) : sealL (readL (L.take 4)) (readL ((L.drop 4).take 2)) ((L.drop 6).take 52) = L := by
  unfold sealL
  rw [drop_take4, take_take4, markL_of (L.take 6) (by rw [List.length_take]; omega)]
  have e := split64 L
  rw [← h6] at e
  exact e.symm
theorem sealL_length (st c : Nat) {d : List UInt8} (hd : d.length = 52) : (sealL st c d).length = 64 := by simp [sealL, markL_length, hd]
theorem sealL_take (st c : Nat) (d : List UInt8) : (sealL st c d).take 6 = markL st c := by
  unfold sealL; rw [List.append_assoc]; exact List.take_left' (markL_length st c)
theorem sealL_drop (st c : Nat) {d : List UInt8} (hd : d.length = 52) : (sealL st c d).drop 58 = markL st c := by
  unfold sealL; exact List.drop_left' (by rw [List.length_append, markL_length, hd])
theorem sealL_data (st c : Nat) {d : List UInt8} (hd : d.length = 52) : ((sealL st c d).drop 6).take 52 = d := by
  unfold sealL; rw [List.append_assoc, List.drop_left' (markL_length st c)]; exact List.take_left' hd
theorem sealL_st {st c : Nat} {d : List UInt8} (hs : st < 4294967296) : readL ((sealL st c d).take 4) = st := by
  rw [take_take4, sealL_take, markL_take, readL_fixL]; exact Nat.mod_eq_of_lt (by simpa using hs)
theorem sealL_c {st c : Nat} {d : List UInt8} (hc : c < 65536) : readL (((sealL st c d).drop 4).take 2) = c := by
  rw [drop_take4, sealL_take, markL_drop, readL_fixL]; exact Nat.mod_eq_of_lt (by simpa using hc)
theorem sealL_ok {st c : Nat} {d : List UInt8} (hd : d.length = 52) (h1 : 1 ≤ c) (hc : c < 65536) : okL (sealL st c d) :=
  ⟨sealL_length st c hd, by rw [sealL_take, sealL_drop st c hd], by rw [sealL_c hc]; omega⟩
theorem markL_inj {st c st' c' : Nat} (h : markL st c = markL st' c') (hs : st < 4294967296) (hs' : st' < 4294967296) (hc : c < 65536) (hc' : c' < 65536) : st = st' ∧ c = c' := by
  have a := congrArg (List.take 4) h
  have b := congrArg (List.drop 4) h
  rw [markL_take, markL_take] at a
  rw [markL_drop, markL_drop] at b
  exact ⟨fixL_inj (by simpa using hs) (by simpa using hs') a, fixL_inj (by simpa using hc) (by simpa using hc') b⟩
/-- A torn sector that opens is one of the two whole. -/
theorem torn_or {S T : List UInt8} {cut : Nat} (hS : S.length = 64) (hT : T.length = 64) (s6 : S.take 6 = S.drop 58) (t6 : T.take 6 = T.drop 58) (hne : S.take 6 ≠ T.take 6) (hc : cut ≤ 64)
    (ho : okL (S.take cut ++ T.drop cut)) : S.take cut ++ T.drop cut = S ∨ S.take cut ++ T.drop cut = T := by
  obtain ⟨o1, o2, o3⟩ := ho
  have hl : (S.take cut).length = cut := by rw [List.length_take]; omega
  by_cases h1 : cut ≤ 6
  · refine Or.inr ?_
    have e1 : (S.take cut ++ T.drop cut).drop 58 = T.drop 58 := by
      rw [List.drop_append, hl, List.drop_of_length_le (by omega), List.nil_append, List.drop_drop]
      congr 1; omega
    have e2 := congrArg (List.take cut) o2
    rw [e1, ← t6, List.take_take, List.take_take, show min cut 6 = cut by omega] at e2
    rw [List.take_left' hl] at e2
    rw [e2, List.take_append_drop]
  · have e0 : (S.take cut ++ T.drop cut).take 6 = S.take 6 := by
      rw [List.take_append, hl, show 6 - cut = 0 by omega, List.take_zero, List.append_nil, List.take_take, show min 6 cut = 6 by omega]
    rw [e0] at o2
    by_cases h2 : cut ≤ 58
    · exfalso
      apply hne
      rw [o2, List.drop_append, hl, List.drop_of_length_le (by omega), List.nil_append, List.drop_drop, t6]
      congr 1; omega
    · refine Or.inl ?_
      rw [s6] at o2
      have e : (S.take cut ++ T.drop cut).take 58 = S.take 58 := by
        rw [List.take_append, hl, show 58 - cut = 0 by omega, List.take_zero, List.append_nil, List.take_take, show min 58 cut = 58 by omega]
      rw [← List.take_append_drop 58 (S.take cut ++ T.drop cut), e, ← o2, List.take_append_drop]
end Go.Proofs.Ytndkbmpdanbkjaa.Own
