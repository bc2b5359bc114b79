/- Each call of the pool beside the document's: one contract for both. -/
import Derived.Test.YtfcpjnikblleaaaSame
namespace Go.Proofs.Ytfcpjnikblleaaa
open Go.RowKit
set_option maxRecDepth 100000
set_option linter.unusedSimpArgs false
set_option linter.unusedVariables false
/-- The document's pool behind a call: its row is the old one, or a new one. -/
def After (b n : Nat) (L : List Int) (w w' : World) (b5 : Nat) : Prop := RR b5 n L w' ∧ Below w.heap.size w w' ∧ (b5 = b ∨ w.heap.size ≤ b5)
theorem after_same {b n : Nat} {L : List Int} {w w' : World} (h : RR b n L w) (hb : Below w.heap.size w w') : After b n L w w' b := ⟨h.below hb h.lt, hb, .inl rfl⟩
theorem take_spec (n ep ct : Nat) (L : List Int) (l : Int) (hep : ep ≤ 65535) (hct : ct ≤ 65536) : ∃ (seg stamp err : Int) (L2 : List Int) (ct2 : Nat), ct2 ≤ 65536 ∧
    (∀ (X : List (Nat × Obj)) (W : World) (g o : Nat) (w : World), Sx X W g o n ep ct L w → Calls Try.prog 9 #[.pointer (some ⟨g, 0, none⟩), .int .i64 l] w fun e w' => e = .returned (.tuple #[.int .i64 seg, .int .u32 stamp, .int .i64 err]) ∧ Sx X W g o n ep ct2 L2 w') ∧
    (∀ (b c : Nat) (w : World), RR b n L w → Calls Try.prog 15 #[rp b n c ep ct, .int .i64 l] w fun e w' => ∃ b5 c5, e = .returned (.agg #[.slice (some ⟨b5, 0, none⟩) n c5, .int .i64 ep, .int .i64 ct2, .int .i64 seg, .int .u32 stamp, .int .i64 err]) ∧ After b n L2 w w' b5) := by
  cases hl : logOk l with
  | false =>
    refine ⟨0, 0, 1, L, ct, hct, fun X W g o w h => ?_, fun b c w h => ?_⟩
    · exact (take_bad h.toSt l hl).mono fun e w' ⟨he, hw⟩ => ⟨he, hw ▸ h⟩
    · exact (rtake_bad h c ep ct l hl).mono fun e w' ⟨he, hw⟩ => ⟨b, c, he, after_same h hw⟩
  | true =>
    cases hf : idxN isFree L n with
    | nil =>
      refine ⟨0, 0, 32, L, ct, hct, fun X W g o w h => ?_, fun b c w h => ?_⟩
      · by_cases h2 : ct ≤ 65535
        · exact take_fullX h l hl hep h2 hf
        · exact take_endX h l hl hep (by omega)
      · exact (rtake_full h c ep ct l hl hf).mono fun e w' ⟨he, hw⟩ => ⟨b, c, he, after_same h hw⟩
    | cons f r =>
      by_cases h2 : ct ≤ 65535
      · refine ⟨f, ((65536 * ep + ct : Nat) : Int), 0, L.set f l, ct + 1, by omega, fun X W g o w h => ?_, fun b c w h => ?_⟩
        · exact take_okX h l hl hep h2 f r hf
        · exact (rtake_ok h c ep ct _ l hl f r hf hep h2 rfl).mono fun e w' ⟨b5, c5, he, hb, hr, hw⟩ => ⟨b5, c5, he, hr, hw, .inr hb⟩
      · refine ⟨0, 0, 32, L, ct, hct, fun X W g o w h => ?_, fun b c w h => ?_⟩
        · exact take_endX h l hl hep (by omega)
        · exact (rtake_end h c ep ct l hl f r hf (by omega)).mono fun e w' ⟨he, hw⟩ => ⟨b, c, he, after_same h hw⟩
theorem claim_spec (n ep ct : Nat) (L : List Int) (i l : Int) : ∃ (err : Int) (L2 : List Int),
    (∀ (X : List (Nat × Obj)) (W : World) (g o : Nat) (w : World), Sx X W g o n ep ct L w → Calls Try.prog 17 #[.pointer (some ⟨g, 0, none⟩), .int .i64 i, .int .i64 l] w fun e w' => e = .returned (.int .i64 err) ∧ Sx X W g o n ep ct L2 w') ∧
    (∀ (b c : Nat) (w : World), RR b n L w → Calls Try.prog 16 #[rp b n c ep ct, .int .i64 i, .int .i64 l] w fun e w' => ∃ b5 c5, e = .returned (.agg #[.slice (some ⟨b5, 0, none⟩) n c5, .int .i64 ep, .int .i64 ct, .int .i64 err]) ∧ After b n L2 w w' b5) := by
  by_cases hi : i < 0 ∨ n ≤ i
  · refine ⟨20, L, fun X W g o w h => ?_, fun b c w h => ?_⟩
    · exact (claim_out h.toSt i l hi).mono fun e w' ⟨he, hw⟩ => ⟨he, hw ▸ h⟩
    · exact (rclaim_out h c ep ct i l hi).mono fun e w' ⟨he, hw⟩ => ⟨b, c, he, after_same h hw⟩
  · obtain ⟨k, rfl⟩ := Int.eq_ofNat_of_zero_le (show 0 ≤ i by omega)
    have hk : k < n := by omega
    cases hl : logOk l with
    | false =>
      refine ⟨1, L, fun X W g o w h => ?_, fun b c w h => ?_⟩
      · exact (claim_bad h.toSt k l hk hl).mono fun e w' ⟨he, hw⟩ => ⟨he, hw ▸ h⟩
      · exact (rclaim_bad h c ep ct l k hk hl).mono fun e w' ⟨he, hw⟩ => ⟨b, c, he, after_same h hw⟩
    | true =>
      by_cases h0 : L.getD k 0 = 0
      · refine ⟨0, L.set k l, fun X W g o w h => ?_, fun b c w h => ?_⟩
        · exact claim_okX h k l hk hl h0
        · exact (rclaim_ok h c ep ct l k hk hl h0).mono fun e w' ⟨b5, c5, he, hb, hr, hw⟩ => ⟨b5, c5, he, hr, hw, .inr hb⟩
      · refine ⟨8, L, fun X W g o w h => ?_, fun b c w h => ?_⟩
        · exact (claim_has h.toSt k l hk hl h0).mono fun e w' ⟨he, hw⟩ => ⟨he, hw ▸ h⟩
        · exact (rclaim_has h c ep ct l k hk hl h0).mono fun e w' ⟨he, hw⟩ => ⟨b, c, he, after_same h hw⟩
theorem give_spec (n ep ct : Nat) (L : List Int) (i : Int) : ∃ (err : Int) (L2 : List Int),
    (∀ (X : List (Nat × Obj)) (W : World) (g o : Nat) (w : World), Sx X W g o n ep ct L w → Calls Try.prog 10 #[.pointer (some ⟨g, 0, none⟩), .int .i64 i] w fun e w' => e = .returned (.int .i64 err) ∧ Sx X W g o n ep ct L2 w') ∧
    (∀ (b c : Nat) (w : World), RR b n L w → Calls Try.prog 18 #[rp b n c ep ct, .int .i64 i] w fun e w' => ∃ b5 c5, e = .returned (.agg #[.slice (some ⟨b5, 0, none⟩) n c5, .int .i64 ep, .int .i64 ct, .int .i64 err]) ∧ After b n L2 w w' b5) := by
  by_cases hi : i < 0 ∨ n ≤ i
  · refine ⟨20, L, fun X W g o w h => ?_, fun b c w h => ?_⟩
    · exact (give_out h.toSt i hi).mono fun e w' ⟨he, hw⟩ => ⟨he, hw ▸ h⟩
    · exact (rgive_out h c ep ct i hi).mono fun e w' ⟨he, hw⟩ => ⟨b, c, he, after_same h hw⟩
  · obtain ⟨k, rfl⟩ := Int.eq_ofNat_of_zero_le (show 0 ≤ i by omega)
    have hk : k < n := by omega
    by_cases h0 : L.getD k 0 = 0
    · refine ⟨6, L, fun X W g o w h => ?_, fun b c w h => ?_⟩
      · exact (give_none h.toSt k hk h0).mono fun e w' ⟨he, hw⟩ => ⟨he, hw ▸ h⟩
      · exact (rgive_has h c ep ct k hk h0).mono fun e w' ⟨he, hw⟩ => ⟨b, c, he, after_same h hw⟩
    · refine ⟨0, L.set k 0, fun X W g o w h => ?_, fun b c w h => ?_⟩
      · exact give_okX h k hk h0
      · exact (rgive_ok h c ep ct k hk h0).mono fun e w' ⟨b5, c5, he, hb, hr, hw⟩ => ⟨b5, c5, he, hr, hw, .inr hb⟩
end Go.Proofs.Ytfcpjnikblleaaa
