/- The document's disk: is there a sector, may a span be, what is read, a new one. -/
import Derived.Test.YtlodjkmablogcaaDU
import Derived.Test.YtlodjkmablogcaaPBx1
namespace Go.Proofs.Ytlodjkmablogcaa.Own
open Go.RowKit Go.Proofs.YtlodjkmablogcaaW.PrintWords Go.Proofs.Ytlodjkmablogcaa.PB
set_option linter.unusedSimpArgs false
set_option linter.unusedVariables false
theorem DD.reads {B : Nat} {vL vW : Value} {L : List ByteArray} {W : List S79} {w : World} (h : DD B vL vW L W w) : ∃ AL cL AW cW, vL = .slice AL L.length cL ∧ vW = .slice AW W.length cW ∧ L.length ≤ cL ∧ W.length ≤ cW ∧ Kd.C Kd.string w AL L.length L ∧ Kd.C k79 w AW W.length W := by
  obtain ⟨AL, cL, e1, h1, c1⟩ := Kd.R_reads h.l
  obtain ⟨AW, cW, e2, h2, c2⟩ := Kd.R_reads h.w
  exact ⟨AL, cL, AW, cW, e1, e2, h1, h2, c1, c2⟩
theorem docIs_any {B : Nat} {vL vW : Value} {L : List ByteArray} {W : List S79} {w : World} (h : DD B vL vW L W w) (i : Int) :
    Calls Try.prog 26 #[.agg #[vL, vW], .int .i64 i] w fun e w' => e = .returned (.bool (isB L.length i)) ∧ Below w.heap.size w w' := by
  obtain ⟨AL, cL, AW, cW, rfl, rfl, h1, h2, c1, c2⟩ := h.reads
  refine weighlockref03_Disk_Is.calls AL cL L AW cW W i _ w c1 h1 c2 h2 ?_
  unfold weighlockref03_Disk_Is.f isB
  by_cases h0 : i ≥ 0
  · rw [if_pos h0]
    congr 1
    rw [decide_eq_decide]
    omega
  · rw [if_neg h0]
    congr 1
    exact (decide_eq_false (by omega)).symm
theorem docSpan_any {B : Nat} {vL vW : Value} {L : List ByteArray} {W : List S79} {w : World} (h : DD B vL vW L W w) (i j : Int) (hL : L.length ≤ 8192) :
    Calls Try.prog 28 #[.agg #[vL, vW], .int .i64 i, .int .i64 j] w fun e w' => e = .returned (.bool (spanB L.length i j)) ∧ Below w.heap.size w w' := by
  obtain ⟨AL, cL, AW, cW, rfl, rfl, h1, h2, c1, c2⟩ := h.reads
  refine weighlockref03_Disk_Span.calls AL cL L AW cW W i j _ w c1 h1 c2 h2 ?_
  unfold weighlockref03_Disk_Span.f spanB
  by_cases h0 : i ≥ 0
  · rw [if_pos h0]
    by_cases h3 : j ≥ 0
    · rw [if_pos h3]
      by_cases h4 : i ≤ (L.length : Int)
      · rw [if_pos h4, show wrap64 ((L.length : Int) - i) = (L.length : Int) - i by unfold wrap64; omega]
        congr 1
        rw [decide_eq_decide]
        omega
      · rw [if_neg h4]
        congr 1
        exact (decide_eq_false (by omega)).symm
    · rw [if_neg h3]
      congr 1
      exact (decide_eq_false (by omega)).symm
  · rw [if_neg h0]
    congr 1
    exact (decide_eq_false (by omega)).symm
theorem read_l (W : List S79) (i : Int) (hW : W.length ≤ 1000000) : ∀ d k (p : Nat) s, p + d = W.length → d < k → weighlockref03_Disk_Read.l0 k i s W (W.length : Int) (p : Int) = some (readF i s (W.drop p)) := by
  intro d
  induction d with
  | zero =>
    intro k p s hi hk
    obtain ⟨k, rfl⟩ : ∃ m, k = m + 1 := ⟨k - 1, by omega⟩
    simp only [weighlockref03_Disk_Read.l0]
    rw [if_neg (by omega), List.drop_of_length_le (by omega)]
    rfl
  | succ d ih =>
    intro k p s hi hk
    obtain ⟨k, rfl⟩ : ∃ m, k = m + 1 := ⟨k - 1, by omega⟩
    have hlt : p < W.length := by omega
    have hw : wrap64 ((p : Int) + 1) = ((p + 1 : Nat) : Int) := by unfold wrap64; omega
    have hr : rd_T79 W (p : Int) = W[p] := by unfold rd_T79; rw [Int.toNat_natCast, List.getD_eq_getElem?_getD, List.getElem?_eq_getElem hlt]; rfl
    have hd : W.drop p = W[p] :: W.drop (p + 1) := List.drop_eq_getElem_cons hlt
    simp only [weighlockref03_Disk_Read.l0]
    rw [if_pos (by omega), if_pos (by omega), if_pos (by omega), hr, hw, hd]
    show _ = some (readF i (if W[p].f0 = i then W[p].f1 else s) (W.drop (p + 1)))
    by_cases h : W[p].f0 = i
    · rw [if_pos h, if_pos h]; exact ih k (p + 1) _ (by omega) (by omega)
    · rw [if_neg h, if_neg h]; exact ih k (p + 1) _ (by omega) (by omega)
theorem docRead_any {B : Nat} {vL vW : Value} {L : List ByteArray} {W : List S79} {w : World} (h : DD B vL vW L W w) (k : Nat) (hk : k < L.length) (hW : W.length ≤ 1000000) :
    Calls Try.prog 31 #[.agg #[vL, vW], .int .i64 (k : Int)] w fun e w' => e = .returned (.string (readF (k : Int) (L.getD k ByteArray.empty) W)) ∧ Below w.heap.size w w' := by
  obtain ⟨AL, cL, AW, cW, rfl, rfl, h1, h2, c1, c2⟩ := h.reads
  refine weighlockref03_Disk_Read.calls (W.length + 1) AL cL L AW cW W (k : Int) _ w c1 h1 c2 h2 ?_
  unfold weighlockref03_Disk_Read.f
  rw [if_pos (by omega), if_pos (by omega)]
  have := read_l W (k : Int) hW W.length (W.length + 1) 0 (rdOf ByteArray.empty L (k : Int)) (by omega) (by omega)
  rw [List.drop_zero] at this
  rw [show rdOf ByteArray.empty L (k : Int) = L.getD k ByteArray.empty by unfold rdOf; rw [Int.toNat_natCast]] at this
  exact this
theorem new_l (n : Nat) (s : ByteArray) (hn : n ≤ 1000) : ∀ d k (p : Nat) (Z : List ByteArray), p + d = n → d < k → Z.length = p → weighlockref03_New.l0 k s (n : Int) (p : Int) Z = some (Z ++ List.replicate d s, []) := by
  intro d
  induction d with
  | zero =>
    intro k p Z hi hk hz
    obtain ⟨k, rfl⟩ : ∃ m, k = m + 1 := ⟨k - 1, by omega⟩
    simp only [weighlockref03_New.l0]
    rw [if_neg (by omega), List.replicate_zero, List.append_nil]
  | succ d ih =>
    intro k p Z hi hk hz
    obtain ⟨k, rfl⟩ : ∃ m, k = m + 1 := ⟨k - 1, by omega⟩
    have hw : wrap64 ((p : Int) + 1) = ((p + 1 : Nat) : Int) := by unfold wrap64; omega
    simp only [weighlockref03_New.l0]
    rw [if_pos (by omega), if_pos (by omega), hw, ih k (p + 1) (Z ++ [s]) (by omega) (by omega) (by rw [List.length_append, hz]; rfl), List.replicate_succ, List.append_assoc]
    rfl
theorem str_zero : strOfNums (List.replicate 64 0) = zeroB := by kernel_rfl
theorem docNew_any (n : Nat) (hn : n ≤ 1000) (w : World) :
    Calls Try.prog 14 #[.int .i64 (n : Int)] w fun e w' => ∃ v1 v2, e = .returned (.agg #[v1, v2]) ∧ DD w.heap.size v1 v2 (List.replicate n zeroB) [] w' ∧ Below w.heap.size w w' := by
  refine (weighlockref03_New.calls (n + 1) (n : Int) (List.replicate n zeroB) [] w ?_).mono ?_
  · unfold weighlockref03_New.f
    rw [if_pos (by decide), str_zero]
    have := new_l n zeroB hn n (n + 1) 0 [] (by omega) (by omega) rfl
    exact this
  · rintro e w' ⟨v1, v2, rfl, h1, h2, hb⟩
    exact ⟨v1, v2, rfl, ⟨h1, h2⟩, hb⟩
end Go.Proofs.Ytlodjkmablogcaa.Own
