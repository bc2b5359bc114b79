/- The walks of nums.Text and record.encode. -/
import Derived.Test.YtmkipdleggkkkaaChain
namespace Go.Proofs.Ytmkipdleggkkkaa.Own
open Go.RowKit
set_option maxRecDepth 100000
set_option linter.unusedSimpArgs false
set_option linter.unusedVariables false
def textL (s : ByteArray) : List UInt8 := chainL s.size ++ s.data.toList
theorem textL_length (s : ByteArray) (h : s.size ≤ 140737488351232) : (textL s).length ≤ s.size + 10 := by
  unfold textL
  have h1 := chainL_len10 (v := s.size) (by omega)
  have h2 : s.data.toList.length = s.size := by rw [Array.length_toList]; rfl
  rw [List.length_append]
  omega
theorem text_any (s : ByteArray) (w : World) (hs : s.size ≤ 140737488351232) :
    Calls Try.prog 47 #[.string s] w fun e w' => e = .returned (.string (sB (textL s))) ∧ Below w.heap.size w w' := by
  have e1 : IntKind.u64.wrap (s.size : Int) = s.size := IntWalk.u64_in _ (by omega)
  have hc := chainL_len10 (v := s.size) (by omega)
  have hz : (sB (chainL s.size)).size ≤ 10 := by rw [sB_size]; exact hc
  have ht : sB (chainL s.size) ++ s = sB (textL s) := by
    unfold textL
    rw [← sB_append, sB_of]
  have Ht := Lib.hid ht; clear ht hc
  have Hs := Lib.hid hs
  go_enter Try.func47, Try.ntmps47
  go_wp2_with fail
  refine (chain_any s.size _ (by have := Hs.out; omega)).mono ?_
  rintro e w1 ⟨rfl, b1⟩
  generalize sB (chainL s.size) = C at *
  go_wp2
  go_ret
  exact ⟨by rw [Ht.out]; rfl, b1⟩
abbrev TW (g : Nat) (key val : ByteArray) (w w1 : World) : Prop := w1.cell? ⟨g, 2, none⟩ = some (.string key) ∧ w1.cell? ⟨g, 3, none⟩ = some (.string val) ∧ g < w.heap.size ∧ Below w.heap.size w w1
theorem TW.keep {g : Nat} {key val : ByteArray} {w w1 w2 : World} (h : TW g key val w w1) (hb : Below w1.heap.size w1 w2) : TW g key val w w2 := ⟨(hb.cell (p := ⟨g, 2, none⟩) (Nat.lt_of_lt_of_le h.2.2.1 h.2.2.2.size)).trans h.1, (hb.cell (p := ⟨g, 3, none⟩) (Nat.lt_of_lt_of_le h.2.2.1 h.2.2.2.size)).trans h.2.1, h.2.2.1, below_two h.2.2.2 hb⟩
theorem TW.drew {g : Nat} {key val : ByteArray} {w w1 : World} (h : TW g key val w w1) : TW g key val w w1.drew := ⟨h.1, h.2.1, h.2.2.1, h.2.2.2.drew⟩
/-- A record as bytes. -/
def recL (off tick prod seq from_ : Nat) (gone : Bool) (key val : ByteArray) : List UInt8 :=
  chainL off ++ chainL tick ++ chainL prod ++ chainL seq ++ chainL from_ ++ chainL (if gone then 1 else 0) ++ textL key ++ textL val
set_option maxHeartbeats 2000000 in
theorem encode_rec (off tick prod seq from_ : Nat) (gone : Bool) (key val : ByteArray) (w : World) (h1 : off ≤ 1099511627776) (h2 : tick ≤ 1099511627776) (h3 : prod ≤ 1099511627776) (h4 : seq ≤ 1099511627776) (h5 : from_ ≤ 1099511627776) (hk : key.size ≤ 32) (hv : val.size ≤ 200) :
    Calls Try.prog 39 #[.agg #[.int .i64 (off : Int), .int .i64 (tick : Int), .string key, .string val, .bool gone, .int .i64 (prod : Int), .int .i64 (seq : Int), .int .i64 (from_ : Int)]] w fun e w' => e = .returned (.string (sB (recL off tick prod seq from_ gone key val))) ∧ Below w.heap.size w w' := by
  have e1 : IntKind.u64.wrap (off : Int) = off := IntWalk.u64_in _ (by omega)
  have e2 : IntKind.u64.wrap (tick : Int) = tick := IntWalk.u64_in _ (by omega)
  have e3 : IntKind.u64.wrap (prod : Int) = prod := IntWalk.u64_in _ (by omega)
  have e4 : IntKind.u64.wrap (seq : Int) = seq := IntWalk.u64_in _ (by omega)
  have e5 : IntKind.u64.wrap (from_ : Int) = from_ := IntWalk.u64_in _ (by omega)
  have H1 := Lib.hid h1
  have H2 := Lib.hid h2
  have H3 := Lib.hid h3
  have H4 := Lib.hid h4
  have H5 := Lib.hid h5
  obtain ⟨c1, hc1⟩ : ∃ C, C = sB (chainL off) := ⟨_, rfl⟩
  obtain ⟨c2, hc2⟩ : ∃ C, C = sB (chainL tick) := ⟨_, rfl⟩
  obtain ⟨c3, hc3⟩ : ∃ C, C = sB (chainL prod) := ⟨_, rfl⟩
  obtain ⟨c4, hc4⟩ : ∃ C, C = sB (chainL seq) := ⟨_, rfl⟩
  obtain ⟨c5, hc5⟩ : ∃ C, C = sB (chainL from_) := ⟨_, rfl⟩
  obtain ⟨c6, hc6⟩ : ∃ C, C = sB (chainL (if gone then 1 else 0)) := ⟨_, rfl⟩
  obtain ⟨c7, hc7⟩ : ∃ C, C = sB (textL key) := ⟨_, rfl⟩
  obtain ⟨c8, hc8⟩ : ∃ C, C = sB (textL val) := ⟨_, rfl⟩
  have zc1 : c1.size ≤ 10 := by rw [hc1, sB_size]; exact chainL_len10 (by omega)
  have zc2 : c2.size ≤ 10 := by rw [hc2, sB_size]; exact chainL_len10 (by omega)
  have zc3 : c3.size ≤ 10 := by rw [hc3, sB_size]; exact chainL_len10 (by omega)
  have zc4 : c4.size ≤ 10 := by rw [hc4, sB_size]; exact chainL_len10 (by omega)
  have zc5 : c5.size ≤ 10 := by rw [hc5, sB_size]; exact chainL_len10 (by omega)
  have zc6 : c6.size ≤ 10 := by rw [hc6, sB_size]; exact chainL_len10 (by split <;> omega)
  have zc7 : c7.size ≤ 42 := by rw [hc7, sB_size]; have := textL_length key (by omega); omega
  have zc8 : c8.size ≤ 210 := by rw [hc8, sB_size]; have := textL_length val (by omega); omega
  obtain ⟨s1, hs1⟩ : ∃ S, ({ data := #[] } : ByteArray) ++ c1 = S := ⟨_, rfl⟩
  obtain ⟨s2, hs2⟩ : ∃ S, s1 ++ c2 = S := ⟨_, rfl⟩
  obtain ⟨s3, hs3⟩ : ∃ S, s2 ++ c3 = S := ⟨_, rfl⟩
  obtain ⟨s4, hs4⟩ : ∃ S, s3 ++ c4 = S := ⟨_, rfl⟩
  obtain ⟨s5, hs5⟩ : ∃ S, s4 ++ c5 = S := ⟨_, rfl⟩
  obtain ⟨s6, hs6⟩ : ∃ S, s5 ++ c6 = S := ⟨_, rfl⟩
  obtain ⟨s7, hs7⟩ : ∃ S, s6 ++ c7 = S := ⟨_, rfl⟩
  obtain ⟨s8, hs8⟩ : ∃ S, s7 ++ c8 = S := ⟨_, rfl⟩
  have hs9 : s8 = sB (recL off tick prod seq from_ gone key val) := by rw [← hs8, ← hs7, ← hs6, ← hs5, ← hs4, ← hs3, ← hs2, ← hs1, hc1, hc2, hc3, hc4, hc5, hc6, hc7, hc8]; simp only [show (({ data := #[] } : ByteArray)) = sB [] from rfl, sB_append]; rfl
  have zs1 : s1.size ≤ 10 := by rw [← hs1, ByteArray.size_append]; have : (({ data := #[] } : ByteArray)).size = 0 := rfl; omega
  have zs2 : s2.size ≤ 20 := by rw [← hs2]; rw [ByteArray.size_append]; omega
  have zs3 : s3.size ≤ 30 := by rw [← hs3]; rw [ByteArray.size_append]; omega
  have zs4 : s4.size ≤ 40 := by rw [← hs4]; rw [ByteArray.size_append]; omega
  have zs5 : s5.size ≤ 50 := by rw [← hs5]; rw [ByteArray.size_append]; omega
  have zs6 : s6.size ≤ 60 := by rw [← hs6]; rw [ByteArray.size_append]; omega
  have zs7 : s7.size ≤ 102 := by rw [← hs7]; rw [ByteArray.size_append]; omega
  have zs8 : s8.size ≤ 312 := by rw [← hs8]; rw [ByteArray.size_append]; omega
  have HC1 := Lib.hid hc1; clear hc1
  have HC2 := Lib.hid hc2; clear hc2
  have HC3 := Lib.hid hc3; clear hc3
  have HC4 := Lib.hid hc4; clear hc4
  have HC5 := Lib.hid hc5; clear hc5
  have HC6 := Lib.hid hc6; clear hc6
  have HC7 := Lib.hid hc7; clear hc7
  have HC8 := Lib.hid hc8; clear hc8
  have HS9 := Lib.hid hs9; clear hs9
  clear h1 h2 h3 h4 h5
  cases gone
  · go_enter Try.func39, Try.ntmps39
    go_wp2_with fail
    have i0 : ∀ w, (Instr.index 72 (.agg #[.int .i64 (off : Int), .int .i64 (tick : Int), .int .i64 (prod : Int), .int .i64 (seq : Int), .int .i64 (from_ : Int), .int .i64 (0 : Int)]) (.int .i64 0)).run Try.prog w = .ok (.int .i64 (off : Int)) w := fun _ => by kernel_rfl
    have i1 : ∀ w, (Instr.index 72 (.agg #[.int .i64 (off : Int), .int .i64 (tick : Int), .int .i64 (prod : Int), .int .i64 (seq : Int), .int .i64 (from_ : Int), .int .i64 (0 : Int)]) (.int .i64 1)).run Try.prog w = .ok (.int .i64 (tick : Int)) w := fun _ => by kernel_rfl
    have i2 : ∀ w, (Instr.index 72 (.agg #[.int .i64 (off : Int), .int .i64 (tick : Int), .int .i64 (prod : Int), .int .i64 (seq : Int), .int .i64 (from_ : Int), .int .i64 (0 : Int)]) (.int .i64 2)).run Try.prog w = .ok (.int .i64 (prod : Int)) w := fun _ => by kernel_rfl
    have i3 : ∀ w, (Instr.index 72 (.agg #[.int .i64 (off : Int), .int .i64 (tick : Int), .int .i64 (prod : Int), .int .i64 (seq : Int), .int .i64 (from_ : Int), .int .i64 (0 : Int)]) (.int .i64 3)).run Try.prog w = .ok (.int .i64 (seq : Int)) w := fun _ => by kernel_rfl
    have i4 : ∀ w, (Instr.index 72 (.agg #[.int .i64 (off : Int), .int .i64 (tick : Int), .int .i64 (prod : Int), .int .i64 (seq : Int), .int .i64 (from_ : Int), .int .i64 (0 : Int)]) (.int .i64 4)).run Try.prog w = .ok (.int .i64 (from_ : Int)) w := fun _ => by kernel_rfl
    have i5 : ∀ w, (Instr.index 72 (.agg #[.int .i64 (off : Int), .int .i64 (tick : Int), .int .i64 (prod : Int), .int .i64 (seq : Int), .int .i64 (from_ : Int), .int .i64 (0 : Int)]) (.int .i64 5)).run Try.prog w = .ok (.int .i64 (0 : Int)) w := fun _ => by kernel_rfl
    have hH := heap_new w (.cells #[.int .i64 (off : Int), .int .i64 (tick : Int), .string key, .string val, .bool false, .int .i64 (prod : Int), .int .i64 (seq : Int), .int .i64 (from_ : Int)] 45)
    have HH := Lib.hid hH; clear hH
    have B0 := Lib.hid ((Below.refl _ w).alloc (Nat.le_refl _) (.cells #[.int .i64 (off : Int), .int .i64 (tick : Int), .string key, .string val, .bool false, .int .i64 (prod : Int), .int .i64 (seq : Int), .int .i64 (from_ : Int)] 45))
    refine wp_loop_rounds 7 ?_
    rw [rounds_succ]
    go_wp2_with fail
    refine (chain_any off _ (by have := H1.out; omega)).mono ?_
    rintro e w1 ⟨rfl, b⟩
    have hH := blk_below HH.out b
    have B1 := Lib.hid (below_two B0.out b); clear b HH
    have HH := Lib.hid hH; clear hH
    rw [← HC1.out]
    go_wp2_with fail
    rw [rounds_succ]
    go_wp2_with fail
    refine (chain_any tick _ (by have := H2.out; omega)).mono ?_
    rintro e w2 ⟨rfl, b⟩
    have hH := blk_below HH.out b
    have B2 := Lib.hid (below_two B1.out b); clear b HH
    have HH := Lib.hid hH; clear hH
    rw [← HC2.out]
    go_wp2_with fail
    rw [rounds_succ]
    go_wp2_with fail
    refine (chain_any prod _ (by have := H3.out; omega)).mono ?_
    rintro e w3 ⟨rfl, b⟩
    have hH := blk_below HH.out b
    have B3 := Lib.hid (below_two B2.out b); clear b HH
    have HH := Lib.hid hH; clear hH
    rw [← HC3.out]
    go_wp2_with fail
    rw [rounds_succ]
    go_wp2_with fail
    refine (chain_any seq _ (by have := H4.out; omega)).mono ?_
    rintro e w4 ⟨rfl, b⟩
    have hH := blk_below HH.out b
    have B4 := Lib.hid (below_two B3.out b); clear b HH
    have HH := Lib.hid hH; clear hH
    rw [← HC4.out]
    go_wp2_with fail
    rw [rounds_succ]
    go_wp2_with fail
    refine (chain_any from_ _ (by have := H5.out; omega)).mono ?_
    rintro e w5 ⟨rfl, b⟩
    have hH := blk_below HH.out b
    have B5 := Lib.hid (below_two B4.out b); clear b HH
    have HH := Lib.hid hH; clear hH
    rw [← HC5.out]
    go_wp2_with fail
    rw [rounds_succ]
    go_wp2_with fail
    refine (chain_any 0 _ (by decide)).mono ?_
    rintro e w6 ⟨rfl, b⟩
    have hH := blk_below HH.out b
    have B6 := Lib.hid (below_two B5.out b); clear b HH
    have HH := Lib.hid hH; clear hH
    rw [show sB (chainL 0) = c6 from (HC6.out.trans (by simp)).symm]
    go_wp2_with fail
    rw [rounds_succ]
    go_wp2_with fail
    have tw : TW w.heap.size key val w6 w6 := ⟨by rw [blk_cell HH.out]; rfl, by rw [blk_cell HH.out]; rfl, blk_lt HH.out, Below.refl _ _⟩
    have hk7 : key.size ≤ 140737488351232 := by omega
    have hv7 : val.size ≤ 140737488351232 := by omega
    have HK := Lib.hid hk7
    have HV := Lib.hid hv7
    clear hk7 hv7
    clear HC1 HC2 HC3 HC4 HC5 HC6 B0 B1 B2 B3 B4 B5 HH
    have a7 : ¬ (9223372036854775807 < s6.size + c7.size) := by omega
    have a8 : ¬ (9223372036854775807 < s7.size + c8.size) := by omega
    go_region_held3 (fun w' => TW w.heap.size key val w6 w')
      ((first | assumption | exact TW.keep (by assumption) (by assumption) | exact TW.drew (by assumption)))
      (first
        | (go_at_call 47; refine (text_any _ _ (by first | exact HK.out | exact HV.out)).mono ?_; rintro e w7 ⟨rfl, bel⟩; first | rw [← HC7.out] | rw [← HC8.out]))
    all_goals
      have hfin : Below w6.heap.size w6 _ := (show TW w.heap.size key val w6 _ by assumption).2.2.2
      have HF := Lib.hid hfin; clear hfin
      go_wp2
      go_ret
      exact ⟨by rw [← HS9.out]; rfl, below_two B6.out HF.out⟩
  · go_enter Try.func39, Try.ntmps39
    go_wp2_with fail
    have i0 : ∀ w, (Instr.index 72 (.agg #[.int .i64 (off : Int), .int .i64 (tick : Int), .int .i64 (prod : Int), .int .i64 (seq : Int), .int .i64 (from_ : Int), .int .i64 (1 : Int)]) (.int .i64 0)).run Try.prog w = .ok (.int .i64 (off : Int)) w := fun _ => by kernel_rfl
    have i1 : ∀ w, (Instr.index 72 (.agg #[.int .i64 (off : Int), .int .i64 (tick : Int), .int .i64 (prod : Int), .int .i64 (seq : Int), .int .i64 (from_ : Int), .int .i64 (1 : Int)]) (.int .i64 1)).run Try.prog w = .ok (.int .i64 (tick : Int)) w := fun _ => by kernel_rfl
    have i2 : ∀ w, (Instr.index 72 (.agg #[.int .i64 (off : Int), .int .i64 (tick : Int), .int .i64 (prod : Int), .int .i64 (seq : Int), .int .i64 (from_ : Int), .int .i64 (1 : Int)]) (.int .i64 2)).run Try.prog w = .ok (.int .i64 (prod : Int)) w := fun _ => by kernel_rfl
    have i3 : ∀ w, (Instr.index 72 (.agg #[.int .i64 (off : Int), .int .i64 (tick : Int), .int .i64 (prod : Int), .int .i64 (seq : Int), .int .i64 (from_ : Int), .int .i64 (1 : Int)]) (.int .i64 3)).run Try.prog w = .ok (.int .i64 (seq : Int)) w := fun _ => by kernel_rfl
    have i4 : ∀ w, (Instr.index 72 (.agg #[.int .i64 (off : Int), .int .i64 (tick : Int), .int .i64 (prod : Int), .int .i64 (seq : Int), .int .i64 (from_ : Int), .int .i64 (1 : Int)]) (.int .i64 4)).run Try.prog w = .ok (.int .i64 (from_ : Int)) w := fun _ => by kernel_rfl
    have i5 : ∀ w, (Instr.index 72 (.agg #[.int .i64 (off : Int), .int .i64 (tick : Int), .int .i64 (prod : Int), .int .i64 (seq : Int), .int .i64 (from_ : Int), .int .i64 (1 : Int)]) (.int .i64 5)).run Try.prog w = .ok (.int .i64 (1 : Int)) w := fun _ => by kernel_rfl
    have hH := heap_new w (.cells #[.int .i64 (off : Int), .int .i64 (tick : Int), .string key, .string val, .bool true, .int .i64 (prod : Int), .int .i64 (seq : Int), .int .i64 (from_ : Int)] 45)
    have HH := Lib.hid hH; clear hH
    have B0 := Lib.hid ((Below.refl _ w).alloc (Nat.le_refl _) (.cells #[.int .i64 (off : Int), .int .i64 (tick : Int), .string key, .string val, .bool true, .int .i64 (prod : Int), .int .i64 (seq : Int), .int .i64 (from_ : Int)] 45))
    refine wp_loop_rounds 7 ?_
    rw [rounds_succ]
    go_wp2_with fail
    refine (chain_any off _ (by have := H1.out; omega)).mono ?_
    rintro e w1 ⟨rfl, b⟩
    have hH := blk_below HH.out b
    have B1 := Lib.hid (below_two B0.out b); clear b HH
    have HH := Lib.hid hH; clear hH
    rw [← HC1.out]
    go_wp2_with fail
    rw [rounds_succ]
    go_wp2_with fail
    refine (chain_any tick _ (by have := H2.out; omega)).mono ?_
    rintro e w2 ⟨rfl, b⟩
    have hH := blk_below HH.out b
    have B2 := Lib.hid (below_two B1.out b); clear b HH
    have HH := Lib.hid hH; clear hH
    rw [← HC2.out]
    go_wp2_with fail
    rw [rounds_succ]
    go_wp2_with fail
    refine (chain_any prod _ (by have := H3.out; omega)).mono ?_
    rintro e w3 ⟨rfl, b⟩
    have hH := blk_below HH.out b
    have B3 := Lib.hid (below_two B2.out b); clear b HH
    have HH := Lib.hid hH; clear hH
    rw [← HC3.out]
    go_wp2_with fail
    rw [rounds_succ]
    go_wp2_with fail
    refine (chain_any seq _ (by have := H4.out; omega)).mono ?_
    rintro e w4 ⟨rfl, b⟩
    have hH := blk_below HH.out b
    have B4 := Lib.hid (below_two B3.out b); clear b HH
    have HH := Lib.hid hH; clear hH
    rw [← HC4.out]
    go_wp2_with fail
    rw [rounds_succ]
    go_wp2_with fail
    refine (chain_any from_ _ (by have := H5.out; omega)).mono ?_
    rintro e w5 ⟨rfl, b⟩
    have hH := blk_below HH.out b
    have B5 := Lib.hid (below_two B4.out b); clear b HH
    have HH := Lib.hid hH; clear hH
    rw [← HC5.out]
    go_wp2_with fail
    rw [rounds_succ]
    go_wp2_with fail
    refine (chain_any 1 _ (by decide)).mono ?_
    rintro e w6 ⟨rfl, b⟩
    have hH := blk_below HH.out b
    have B6 := Lib.hid (below_two B5.out b); clear b HH
    have HH := Lib.hid hH; clear hH
    rw [show sB (chainL 1) = c6 from (HC6.out.trans (by simp)).symm]
    go_wp2_with fail
    rw [rounds_succ]
    go_wp2_with fail
    have tw : TW w.heap.size key val w6 w6 := ⟨by rw [blk_cell HH.out]; rfl, by rw [blk_cell HH.out]; rfl, blk_lt HH.out, Below.refl _ _⟩
    have hk7 : key.size ≤ 140737488351232 := by omega
    have hv7 : val.size ≤ 140737488351232 := by omega
    have HK := Lib.hid hk7
    have HV := Lib.hid hv7
    clear hk7 hv7
    clear HC1 HC2 HC3 HC4 HC5 HC6 B0 B1 B2 B3 B4 B5 HH
    have a7 : ¬ (9223372036854775807 < s6.size + c7.size) := by omega
    have a8 : ¬ (9223372036854775807 < s7.size + c8.size) := by omega
    go_region_held3 (fun w' => TW w.heap.size key val w6 w')
      ((first | assumption | exact TW.keep (by assumption) (by assumption) | exact TW.drew (by assumption)))
      (first
        | (go_at_call 47; refine (text_any _ _ (by first | exact HK.out | exact HV.out)).mono ?_; rintro e w7 ⟨rfl, bel⟩; first | rw [← HC7.out] | rw [← HC8.out]))
    all_goals
      have hfin : Below w6.heap.size w6 _ := (show TW w.heap.size key val w6 _ by assumption).2.2.2
      have HF := Lib.hid hfin; clear hfin
      go_wp2
      go_ret
      exact ⟨by rw [← HS9.out]; rfl, below_two B6.out HF.out⟩
end Go.Proofs.Ytmkipdleggkkkaa.Own
