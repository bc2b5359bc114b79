/- The disk: how many writes wait; a write. -/
import Derived.Test.YtekcidfipdjfdaaDD
namespace Go.Proofs.Ytekcidfipdjfdaa.Own
open Go.RowKit Go.Proofs.YtekcidfipdjfdaaW.PrintWords Go.Proofs.Ytekcidfipdjfdaa.PB
set_option maxRecDepth 100000
set_option linter.unusedSimpArgs false
set_option linter.unusedVariables false
theorem spanB_yes {n : Nat} {i j : Int} (h : spanB n i j = true) : 0 ≤ i ∧ 0 ≤ j ∧ i ≤ n ∧ j ≤ n - i := by unfold spanB at h; exact of_decide_eq_true h
theorem in_all (i j : Int) (W : List S79) : (inF i j W).length ≤ W.length := List.length_filter_le _ _
theorem out_all (i j : Int) (W : List S79) : (outF i j W).length ≤ W.length := List.length_filter_le _ _
def waitN (n : Nat) (W : List S79) (i j : Int) : Int := if spanB n i j then ((inF i j W).length : Int) else 0
theorem waiting_any {B g o : Nat} {v : Value} {L : List ByteArray} {W : List S79} {w : World} (h : DS B g o v L W w) (i j : Int) (hW : W.length ≤ 1000000) :
    Calls Try.prog 30 #[.pointer (some ⟨g, 0, none⟩), .int .i64 i, .int .i64 j] w fun e w' => e = .returned (.int .i64 (waitN L.length W i j)) ∧ Below w.heap.size w w' := by
  cases hs : spanB L.length i j with
  | false =>
    have HS := Lib.hid hs; clear hs
    go_enter Try.func30, Try.ntmps30
    go_wp2_with fail
    refine (span_any h i j).mono ?_
    rintro e w7 ⟨rfl, rfl⟩
    rw [HS.out]
    go_wp2
    go_ret
    exact ⟨by unfold waitN; rw [HS.out]; rfl, Below.refl _ _⟩
  | true =>
    have hsp := spanB_yes hs
    have hf := h.few
    have HS := Lib.hid hs; clear hs
    have H := Lib.hid h; clear h
    obtain ⟨h1, h2, h3, h4⟩ := hsp
    have h3' : i ≤ 8192 := by omega
    clear h3 h4 h2 hf
    go_enter Try.func30, Try.ntmps30
    go_wp2_with fail
    refine (span_any H.out i j).mono ?_
    rintro e w7 ⟨rfl, rfl⟩
    rw [HS.out]
    go_wp2_with fail
    refine (part_any H.out i j h1 h3' hW).mono ?_
    rintro e w7 ⟨v1, u1, rfl, htwo, bel⟩
    obtain ⟨A, c, rfl⟩ := Kd.R_slice htwo.a
    clear htwo
    go_wp2
    go_ret
    exact ⟨by unfold waitN; rw [HS.out]; rfl, bel⟩
theorem write_bad {B g o : Nat} {v : Value} {L : List ByteArray} {W : List S79} {w : World} (h : DS B g o v L W w) (i : Int) (s : ByteArray) (hi : isB L.length i = false) :
    Calls Try.prog 23 #[.pointer (some ⟨g, 0, none⟩), .int .i64 i, .string s] w fun e w' => e = .returned (.int .i64 20) ∧ w = w' := by
  have HI := Lib.hid hi; clear hi
  go_enter Try.func23, Try.ntmps23
  go_wp2_with fail
  refine (is_any h i).mono ?_
  rintro e w7 ⟨rfl, rfl⟩
  rw [HI.out]
  go_wp2
  go_ret
  exact ⟨rfl, rfl⟩
theorem write_short {B g o : Nat} {v : Value} {L : List ByteArray} {W : List S79} {w : World} (h : DS B g o v L W w) (i : Int) (s : ByteArray) (hi : isB L.length i = true) (hs : s.size ≠ 64) :
    Calls Try.prog 23 #[.pointer (some ⟨g, 0, none⟩), .int .i64 i, .string s] w fun e w' => e = .returned (.int .i64 1) ∧ w = w' := by
  have HI := Lib.hid hi; clear hi
  have h1 : ((s.size : Int) != 64) = true := by rw [bne_iff_ne]; omega
  have h2 : ((s.size : Int) == 64) = false := by rw [beq_eq_false_iff_ne]; omega
  clear hs
  go_enter Try.func23, Try.ntmps23
  go_wp2_with fail
  refine (is_any h i).mono ?_
  rintro e w7 ⟨rfl, rfl⟩
  rw [HI.out]
  go_wp2
  go_ret
  exact ⟨rfl, rfl⟩
end Go.Proofs.Ytekcidfipdjfdaa.Own
