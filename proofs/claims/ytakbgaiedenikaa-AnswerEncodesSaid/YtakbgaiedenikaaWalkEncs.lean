/- AnswerEncodes, for every input. -/
import Derived.Test.YtakbgaiedenikaaEncs
import Derived.Test.YtakbgaiedenikaaKdRec3
namespace Go.Proofs.Ytakbgaiedenikaa.Own
open Go.RowKit
set_option linter.unusedVariables false
theorem encs_all (i k c a b : Int) (A5 : Option Addr) (c5 : Nat) (rs : List PB.S54) (A6 : Option Addr) (c6 : Nat) (ns : List ByteArray) (A7 : Option Addr) (c7 : Nat) (ks : List Int) (w : World) (hr : Rd.RowsA ⟨0, 0, 0, 0, 0, rs, ns, ks⟩ A5 c5 A6 c6 A7 c7 w) :
    Calls Try.prog 3 #[.agg #[.int .i64 i, .int .i64 k, .int .i64 c, .int .i64 a, .int .i64 b, .slice A5 rs.length c5, .slice A6 ns.length c6, .slice A7 ks.length c7]] w fun e w' => e = .returned (.bool true) ∧ Below w.heap.size w w' := by
  cases hL : PuB.largeB rs ns ks with
  | true => exact Rd.encs_large i k c a b A5 c5 rs A6 c6 ns A7 c7 ks w hr hL
  | false =>
    cases hM : PuB.ansB i k c a b rs ns ks with
    | false => exact Rd.encs_bad i k c a b A5 c5 rs A6 c6 ns A7 c7 ks w hr hL hM
    | true =>
      obtain ⟨_, _, _, m4, m5, m6, m7, m8⟩ := Rd.ansB_yes hM
      obtain ⟨i, rfl⟩ : ∃ m : Nat, i = m := ⟨i.toNat, by omega⟩
      obtain ⟨k, rfl⟩ : ∃ m : Nat, k = m := ⟨k.toNat, by omega⟩
      obtain ⟨c, rfl⟩ : ∃ m : Nat, c = m := ⟨c.toNat, by omega⟩
      obtain ⟨a, rfl⟩ : ∃ m : Nat, a = m := ⟨a.toNat, by omega⟩
      obtain ⟨b, rfl⟩ : ∃ m : Nat, b = m := ⟨b.toNat, by omega⟩
      by_cases hB : (bodyL a b rs ns ks).length ≤ 594
      · exact Rd.encs_good i k c a b A5 c5 rs A6 c6 ns A7 c7 ks w hr hL hM hB
      · exact Rd.encs_long i k c a b A5 c5 rs A6 c6 ns A7 c7 ks w hr hL hM (by omega)
theorem answerEncodes_walk (g0 : Ansr) (w : World) (w0 : Ansr.ok w g0) :
    Calls Try.prog 3 #[.agg g0.cells.toArray] w fun e w' => e = .returned (.bool true) ∧ Below w.heap.size w w' := by
  obtain ⟨i, k, c, a, b, A5, n5, c5, rs, A6, n6, c6, ns, A7, n7, c7, ks⟩ := g0
  obtain ⟨_, _, _, _, _, r5, _, r6, _, r7, _, l5, l6, l7⟩ := w0
  simp only at r5 r6 r7 l5 l6 l7
  have e5 : (rs.map Pu.recS).length = n5 := by rw [List.length_map]; exact r5.1
  have e6 : ns.length = n6 := r6.1
  have e7 : ks.length = n7 := r7.1
  have h5 := Pu.recs_read r5
  have h6 := Pu.strs_read r6
  have h7 := Pu.ints_read r7
  subst e5 e6 e7
  exact encs_all i k c a b A5 c5 (rs.map Pu.recS) A6 c6 ns A7 c7 ks w ⟨h5, l5, h6, l6, h7, l7⟩
end Go.Proofs.Ytakbgaiedenikaa.Own
