/- Views: Write, Flush, the small case. -/
import Derived.Test.YtekcidfipdjfdaaVB
namespace Go.Proofs.Ytekcidfipdjfdaa.Own
open Go.RowKit Go.Proofs.YtekcidfipdjfdaaW.PrintWords Go.Proofs.Ytekcidfipdjfdaa.PB
set_option maxRecDepth 100000
set_option linter.unusedSimpArgs false
set_option linter.unusedVariables false
theorem boxes3 (w : World) (a b c : Value) : ∃ W1, ((w.alloc (.cells #[a] 29)).alloc (.cells #[b] 3)).alloc (.cells #[c] 9) = W1 ∧ Below w.heap.size w W1 ∧ W1.heap[w.heap.size]? = some (.cells #[a] 29 (0, 0)) ∧ W1.heap[w.heap.size + 1]? = some (.cells #[b] 3 (0, 0)) ∧ W1.heap[w.heap.size + 1 + 1]? = some (.cells #[c] 9 (0, 0)) := by
  have B1 : Below w.heap.size w (w.alloc (.cells #[a] 29)) := (Below.refl _ _).alloc (Nat.le_refl _) _
  have h1 : (w.alloc (.cells #[a] 29)).heap.size = w.heap.size + 1 := by simp
  have X1 := heap_new w (.cells #[a] 29)
  generalize w.alloc (.cells #[a] 29) = wa at *
  have B2 : Below wa.heap.size wa (wa.alloc (.cells #[b] 3)) := (Below.refl _ _).alloc (Nat.le_refl _) _
  have h2 : (wa.alloc (.cells #[b] 3)).heap.size = w.heap.size + 1 + 1 := by simp [h1]
  have X2 := heap_new wa (.cells #[b] 3)
  rw [h1] at X2
  have X1' := blk_below X1 B2
  have B12 := below_two B1 B2
  generalize wa.alloc (.cells #[b] 3) = wb at *
  have B3 : Below wb.heap.size wb (wb.alloc (.cells #[c] 9)) := (Below.refl _ _).alloc (Nat.le_refl _) _
  have X3 := heap_new wb (.cells #[c] 9)
  rw [h2] at X3
  exact ⟨_, rfl, below_two B12 B3, blk_below X1' B3, blk_below X2 B3, X3⟩
def fuN (fu : Int) : Int := if 0 < fu then fu - 1 else fu
theorem stepW_ok {B p g o : Nat} {v : Value} {L : List ByteArray} {W : List S79} {fr n fu st : Int} {w0 w : World} (h : VW B p g o v L W fr n fu st false w0 w) (hB : w0.heap.size ≤ B) (hp : w0.heap.size ≤ p) (hfu : fu ≠ 0) (hfl : -1 ≤ fu) (hfh : fu ≤ 9223372036854775807) (hst : 0 ≤ st) (hst2 : st ≤ 1000) (hW : W.length ≤ 1000000) (k : Nat) (at_ : Int) (hk : fr + at_ = (k : Int)) (hkl : k < L.length) (s : ByteArray) (hs : s.size = 64) (b3 b4 b5 : Nat) (X3 : w.heap[b3]? = some (.cells #[.pointer (some ⟨p, 0, none⟩)] 29 (0, 0))) (X4 : w.heap[b4]? = some (.cells #[.int .i64 at_] 3 (0, 0))) (X5 : w.heap[b5]? = some (.cells #[.string s] 9 (0, 0))) :
    Calls Try.prog 26 #[.pointer (some ⟨p, 0, none⟩), .func (.func 27) #[] #[.pointer (some ⟨b3, 0, none⟩), .pointer (some ⟨b4, 0, none⟩), .pointer (some ⟨b5, 0, none⟩)]] w fun e w' => e = .returned (.int .i64 0) ∧ ∃ v', VW B p g o v' L (W ++ [⟨(k : Int), s⟩]) fr n (fuN fu) (st + 1) false w0 w' := by
  by_cases h0 : 0 < fu
  · rw [show fuN fu = fu - 1 from if_pos h0]
    exact stepW_p h hB hp h0 hfl hfh hst hst2 hW k at_ hk hkl s hs b3 b4 b5 X3 X4 X5
  · rw [show fuN fu = fu from if_neg h0]
    exact stepW_n h hB hp (by omega) hfl hfh hst hst2 hW k at_ hk hkl s hs b3 b4 b5 X3 X4 X5
theorem stepF_ok {B p g o : Nat} {v : Value} {L : List ByteArray} {W : List S79} {fr n fu st : Int} {w0 w : World} (h : VW B p g o v L W fr n fu st false w0 w) (hB : w0.heap.size ≤ B) (hp : w0.heap.size ≤ p) (hfu : fu ≠ 0) (hfl : -1 ≤ fu) (hfh : fu ≤ 9223372036854775807) (hst : 0 ≤ st) (hst2 : st ≤ 1000) (hW : W.length ≤ 1000000) (hs : spanB L.length fr n = true) (b3 : Nat) (X3 : w.heap[b3]? = some (.cells #[.pointer (some ⟨p, 0, none⟩)] 29 (0, 0))) :
    Calls Try.prog 26 #[.pointer (some ⟨p, 0, none⟩), .func (.func 28) #[] #[.pointer (some ⟨b3, 0, none⟩)]] w fun e w' => e = .returned (.int .i64 0) ∧ ∃ v', VW B p g o v' (setF L (inF fr n W)) (outF fr n W) fr n (fuN fu) (st + 1) false w0 w' := by
  by_cases h0 : 0 < fu
  · rw [show fuN fu = fu - 1 from if_pos h0]
    exact stepF_p h hB hp h0 hfl hfh hst hst2 hW hs b3 X3
  · rw [show fuN fu = fu from if_neg h0]
    exact stepF_n h hB hp (by omega) hfl hfh hst hst2 hW hs b3 X3
/-- A Write that comes to a step. -/
theorem vwrite_ok {B p g o : Nat} {v : Value} {L : List ByteArray} {W : List S79} {fr n fu st : Int} {w0 w : World} (h : VW B p g o v L W fr n fu st false w0 w) (hB : w0.heap.size ≤ B) (hp : w0.heap.size ≤ p) (hfu : fu ≠ 0) (hfl : -1 ≤ fu) (hfh : fu ≤ 9223372036854775807) (hst : 0 ≤ st) (hst2 : st ≤ 1000) (hW : W.length ≤ 1000000) (k : Nat) (at_ : Int) (hin : vinB n at_ = true) (hk : fr + at_ = (k : Int)) (hkl : k < L.length) (s : ByteArray) (hs : s.size = 64) :
    Calls Try.prog 14 #[.pointer (some ⟨p, 0, none⟩), .int .i64 at_, .string s] w fun e w' => e = .returned (.int .i64 0) ∧ ∃ v', VW B p g o v' L (W ++ [⟨(k : Int), s⟩]) fr n (fuN fu) (st + 1) false w0 w' := by
  obtain ⟨W1, hW1, bel, x3, x4, x5⟩ := boxes3 w (.pointer (some ⟨p, 0, none⟩)) (.int .i64 at_) (.string s)
  have HW1 := Lib.hid hW1
  have V := Lib.hid (h.below bel)
  have X3 := Lib.hid x3; have X4 := Lib.hid x4; have X5 := Lib.hid x5
  have HIN := Lib.hid hin; have HK := Lib.hid hk; have HFU := Lib.hid hfu; have HS := Lib.hid hs
  have HKL := Lib.hid hkl; have HFL := Lib.hid hfl; have HFH := Lib.hid hfh; have HST := Lib.hid hst; have HST2 := Lib.hid hst2
  have r3 := one_0 x3
  have r4 := one_0 x4
  have r5 := one_0 x5
  have s64 : (s.size : Int) = 64 := by omega
  clear h hW1 bel x3 x4 x5 hin hk hfu hs hkl hfl hfh hst hst2
  go_enter Try.func14, Try.ntmps14
  go_upto_region 1 with (fail)
  rw [HW1.out]
  go_wp2_with fail
  refine (vis_ok V.out at_).mono ?_
  rintro e w2 ⟨rfl, rfl⟩
  rw [HIN.out]
  go_wp2_with fail
  refine (stepW_ok V.out hB hp HFU.out HFL.out HFH.out HST.out HST2.out hW k at_ HK.out HKL.out s HS.out _ _ _ X3.out X4.out X5.out).mono ?_
  rintro e w3 ⟨rfl, v', hv⟩
  have R := Lib.hid hv
  clear hv
  go_wp2
  go_ret
  exact ⟨rfl, v', R.out⟩
/-- A Write that comes to a step with the power gone. -/
theorem vwrite_dead {B p g o : Nat} {v : Value} {L : List ByteArray} {W : List S79} {fr n fu st : Int} {de : Bool} {w0 w : World} (h : VW B p g o v L W fr n fu st de w0 w) (hp : w0.heap.size ≤ p) (hd : de = true ∨ fu = 0) (at_ : Int) (hin : vinB n at_ = true) (s : ByteArray) (hs : s.size = 64) :
    Calls Try.prog 14 #[.pointer (some ⟨p, 0, none⟩), .int .i64 at_, .string s] w fun e w' => e = .returned (.int .i64 21) ∧ VW B p g o v L W fr n fu st true w0 w' := by
  obtain ⟨W1, hW1, bel, x3, x4, x5⟩ := boxes3 w (.pointer (some ⟨p, 0, none⟩)) (.int .i64 at_) (.string s)
  have HW1 := Lib.hid hW1
  have V := Lib.hid (h.below bel)
  have HIN := Lib.hid hin; have HD := Lib.hid hd
  have r3 := one_0 x3
  have r4 := one_0 x4
  have r5 := one_0 x5
  have s64 : (s.size : Int) = 64 := by omega
  clear h hW1 bel x3 x4 x5 hin hd hs
  go_enter Try.func14, Try.ntmps14
  go_upto_region 1 with (fail)
  rw [HW1.out]
  go_wp2_with fail
  refine (vis_ok V.out at_).mono ?_
  rintro e w2 ⟨rfl, rfl⟩
  rw [HIN.out]
  go_wp2_with fail
  refine (step_dead V.out hp HD.out _).mono ?_
  rintro e w3 ⟨rfl, hv⟩
  have R := Lib.hid hv
  clear hv
  go_wp2
  go_ret
  exact ⟨rfl, R.out⟩
/-- A Write that comes to no step. -/
theorem vwrite_bad {B p g o : Nat} {v : Value} {L : List ByteArray} {W : List S79} {fr n fu st : Int} {de : Bool} {w0 w : World} (h : VW B p g o v L W fr n fu st de w0 w) (at_ : Int) (s : ByteArray) (hbad : vinB n at_ = false ∨ s.size ≠ 64) :
    Calls Try.prog 14 #[.pointer (some ⟨p, 0, none⟩), .int .i64 at_, .string s] w fun e w' => (e = .returned (.int .i64 20) ∨ e = .returned (.int .i64 1)) ∧ VW B p g o v L W fr n fu st de w0 w' := by
  obtain ⟨W1, hW1, bel, x3, x4, x5⟩ := boxes3 w (.pointer (some ⟨p, 0, none⟩)) (.int .i64 at_) (.string s)
  have HW1 := Lib.hid hW1
  have V := Lib.hid (h.below bel)
  have r3 := one_0 x3
  have r4 := one_0 x4
  have r5 := one_0 x5
  clear h hW1 bel x3 x4 x5
  cases hin : vinB n at_ with
  | false =>
    have HIN := Lib.hid hin
    clear hin hbad
    go_enter Try.func14, Try.ntmps14
    go_upto_region 1 with (fail)
    rw [HW1.out]
    go_wp2_with fail
    refine (vis_ok V.out at_).mono ?_
    rintro e w2 ⟨rfl, rfl⟩
    rw [HIN.out]
    go_wp2
    go_ret
    exact ⟨Or.inl rfl, V.out⟩
  | true =>
    have HIN := Lib.hid hin
    have hs : s.size ≠ 64 := by
      rcases hbad with h1 | h1
      · rw [hin] at h1; cases h1
      · exact h1
    have s64 : ((s.size : Int) == 64) = false := by rw [beq_eq_false_iff_ne]; omega
    have s65 : ((s.size : Int) != 64) = true := by rw [bne_iff_ne]; omega
    have s66 : ¬ (s.size : Int) = 64 := by omega
    clear hin hbad hs
    go_enter Try.func14, Try.ntmps14
    go_upto_region 1 with (fail)
    rw [HW1.out]
    go_wp2_with fail
    refine (vis_ok V.out at_).mono ?_
    rintro e w2 ⟨rfl, rfl⟩
    rw [HIN.out]
    go_wp2
    go_ret
    exact ⟨Or.inr rfl, V.out⟩
theorem vflush_ok {B p g o : Nat} {v : Value} {L : List ByteArray} {W : List S79} {fr n fu st : Int} {w0 w : World} (h : VW B p g o v L W fr n fu st false w0 w) (hB : w0.heap.size ≤ B) (hp : w0.heap.size ≤ p) (hfu : fu ≠ 0) (hfl : -1 ≤ fu) (hfh : fu ≤ 9223372036854775807) (hst : 0 ≤ st) (hst2 : st ≤ 1000) (hW : W.length ≤ 1000000) (hs : spanB L.length fr n = true) :
    Calls Try.prog 16 #[.pointer (some ⟨p, 0, none⟩)] w fun e w' => e = .returned (.int .i64 0) ∧ ∃ v', VW B p g o v' (setF L (inF fr n W)) (outF fr n W) fr n (fuN fu) (st + 1) false w0 w' := by
  have BB : Below w.heap.size w (w.alloc (.cells #[.pointer (some ⟨p, 0, none⟩)] 29)) := (Below.refl _ _).alloc (Nat.le_refl _) _
  have x3 := heap_new w (.cells #[.pointer (some ⟨p, 0, none⟩)] 29)
  have V := Lib.hid (h.below BB)
  have X3 := Lib.hid x3
  have r3 := one_0 x3
  have HFU := Lib.hid hfu; have HS := Lib.hid hs
  have HFL := Lib.hid hfl; have HFH := Lib.hid hfh; have HST := Lib.hid hst; have HST2 := Lib.hid hst2
  clear h BB x3 hfu hs hfl hfh hst hst2
  go_enter Try.func16, Try.ntmps16
  go_wp2_with fail
  refine (stepF_ok V.out hB hp HFU.out HFL.out HFH.out HST.out HST2.out hW HS.out _ X3.out).mono ?_
  rintro e w3 ⟨rfl, v', hv⟩
  have R := Lib.hid hv
  clear hv
  go_wp2
  go_ret
  exact ⟨rfl, v', R.out⟩
theorem vflush_dead {B p g o : Nat} {v : Value} {L : List ByteArray} {W : List S79} {fr n fu st : Int} {de : Bool} {w0 w : World} (h : VW B p g o v L W fr n fu st de w0 w) (hp : w0.heap.size ≤ p) (hd : de = true ∨ fu = 0) :
    Calls Try.prog 16 #[.pointer (some ⟨p, 0, none⟩)] w fun e w' => e = .returned (.int .i64 21) ∧ VW B p g o v L W fr n fu st true w0 w' := by
  have BB : Below w.heap.size w (w.alloc (.cells #[.pointer (some ⟨p, 0, none⟩)] 29)) := (Below.refl _ _).alloc (Nat.le_refl _) _
  have x3 := heap_new w (.cells #[.pointer (some ⟨p, 0, none⟩)] 29)
  have V := Lib.hid (h.below BB)
  have r3 := one_0 x3
  have HD := Lib.hid hd
  clear h BB x3 hd
  go_enter Try.func16, Try.ntmps16
  go_wp2_with fail
  refine (step_dead V.out hp HD.out _).mono ?_
  rintro e w3 ⟨rfl, hv⟩
  have R := Lib.hid hv
  clear hv
  go_wp2
  go_ret
  exact ⟨rfl, R.out⟩
end Go.Proofs.Ytekcidfipdjfdaa.Own
