/- The walk of SealCodes. -/
import Derived.Test.YtndkbmpdanbkjaaLm
namespace Go.Proofs.Ytndkbmpdanbkjaa.Own
open Go.RowKit Go.Proofs.YtndkbmpdanbkjaaW.PrintWords Go.Proofs.YtndkbmpdanbkjaaW.PrintLast Go.Proofs.YtndkbmpdanbkjaaW.PrintMore
set_option maxRecDepth 100000
set_option linter.unusedSimpArgs false
set_option linter.unusedVariables false
attribute [local go_sem] max2_int min2_int max_two min_two max_three min_three max_four min_four
structure CX (st c : Int) (d : List UInt8) (w0 w : World) : Prop where
  b1 : w.heap[w0.heap.size]? = some (.cells (sc st c d) 25 (0, 0))
  bel : Below w0.heap.size w0 w
theorem CX.start (st c : Int) (d : List UInt8) (w0 : World) : CX st c d w0 (w0.alloc (.cells (sc st c d) 25)) := ⟨heap_new _ _, (Below.refl _ _).alloc (Nat.le_refl _) _⟩
theorem CX.below {st c : Int} {d : List UInt8} {w0 w w1 : World} (h : CX st c d w0 w) (hb : Below w.heap.size w w1) : CX st c d w0 w1 := ⟨blk_below h.b1 hb, below_two h.bel hb⟩
theorem CX.alloc {st c : Int} {d : List UInt8} {w0 w : World} (h : CX st c d w0 w) (o : Obj) : CX st c d w0 (w.alloc o) := h.below ((Below.refl _ _).alloc (Nat.le_refl _) _)
theorem CX.q0 {st c : Int} {d : List UInt8} {w0 w : World} (h : CX st c d w0 w) : w.cell? ⟨w0.heap.size, 0, none⟩ = some (.int .u32 st) := blk_cell h.b1 0
theorem CX.q1 {st c : Int} {d : List UInt8} {w0 w : World} (h : CX st c d w0 w) : w.cell? ⟨w0.heap.size, 1, none⟩ = some (.int .i64 c) := blk_cell h.b1 1
theorem CX.range1 {st c : Int} {d : List UInt8} {w0 w : World} (hd hd' : d.length = 52) (h : CX st c d w0 w) : w.rangeAt w0.heap.size 0 (scL st c d) := range_of h.b1
theorem seal_back {L : List UInt8} (h : okL L) (w : World) : Calls Try.prog 8 #[.int .u32 ((readL (L.take 4) : Nat) : Int), .int .i64 ((readL ((L.drop 4).take 2) : Nat) : Int), .string (sB ((L.drop 6).take 52))] w fun e w' => e = .returned (.tuple #[.string (sB L), .int .i64 0]) ∧ Below w.heap.size w w' := by
  have l2 := lt2 L
  have l3 := h.2.2
  have := seal_ok (readL (L.take 4)) (readL ((L.drop 4).take 2)) ((L.drop 6).take 52) w (lt4 L) (by omega) (by omega) (by rw [List.length_take, List.length_drop, h.1]; rfl)
  rwa [seal_of h.1 h.2.1] at this
theorem no_of {c : Int} {d : List UInt8} (h : decide (1 ≤ c ∧ c ≤ 65535 ∧ d.length = 52) = false) : c < 1 ∨ 65535 < c ∨ d.length ≠ 52 := by
  rw [decide_eq_false_iff_not] at h; omega
theorem seal_none (w : World) : Calls Try.prog 8 #[.int .u32 0, .int .i64 0, .string ⟨#[]⟩] w fun e w' => e = .returned (.tuple #[.string ⟨#[]⟩, .int .i64 1]) ∧ Below w.heap.size w w' := seal_no 0 0 [] w (Or.inl (by decide)) (by decide)
set_option maxHeartbeats 8000000 in
theorem codes_ok_may (S m : Nat) (C : Nat) (less : Int) (d L : List UInt8) (w : World) (hd : d.length = 52) (hS : S < 4294967296) (hL : L.length ≤ 200) (hmm : less < 0 ∧ m = 52 ∨ less = 0 ∧ m = 52) (ho : okL L) (hC1 : 1 ≤ C) (hC : C ≤ 65535) :
    Calls Try.prog 3 #[.agg (sc (S : Int) (C : Int) d), .int .i64 less, .string (sB L)] w fun e w' => e = .returned (.bool true) ∧ Below w.heap.size w w' := by
  have zL : decide (((sB L).size : Int) > 200) = false := by rw [decide_eq_false_iff_not, sB_size]; omega
  have hm0 : m ≤ 52 := by omega
  have hext : (sB d).extract 0 m = sB (d.take m) := by rw [ext_sB, List.drop_zero, Nat.sub_zero]
  have zd : (sB d).size = 52 := by rw [sB_size, hd]
  have zm : (m : Int) ≤ ((sB d).size : Int) := by omega
  have zn : m ≤ (sB d).size := by omega
  clear zd
  rcases hmm with ⟨l1, rfl⟩ | ⟨rfl, rfl⟩
  all_goals
    go_enter Try.func3, Try.ntmps3
    go_wp2_with fail
    have T := CX.start (S : Int) (C : Int) d w
    generalize hW : (w.alloc (.cells (sc (S : Int) (C : Int) d) 25)) = W1 at *
    clear hW
    refine (open_ok ho _).mono ?_
    rintro e w2 ⟨rfl, bel2⟩
    have T2 := T.below bel2; clear T bel2
    go_wp2_with fail
    refine (ropen_ok ho _).mono ?_
    rintro e w3 ⟨rfl, bel3⟩
    have T3 := T2.below bel3; clear T2 bel3
    go_wp2_with fail
    have B3 : (w3.alloc (.cells #[.int .u32 ((readL (L.take 4) : Nat) : Int), .int .i64 ((readL ((L.drop 4).take 2) : Nat) : Int), .string (sB ((L.drop 6).take 52)), .bool true] 31)).heap[w3.heap.size]? = some (.cells #[.int .u32 ((readL (L.take 4) : Nat) : Int), .int .i64 ((readL ((L.drop 4).take 2) : Nat) : Int), .string (sB ((L.drop 6).take 52)), .bool true] 31 (0, 0)) := heap_new _ _
    have T4 := T3.alloc (.cells #[.int .u32 ((readL (L.take 4) : Nat) : Int), .int .i64 ((readL ((L.drop 4).take 2) : Nat) : Int), .string (sB ((L.drop 6).take 52)), .bool true] 31); clear T3
    generalize hW : (w3.alloc (.cells #[.int .u32 ((readL (L.take 4) : Nat) : Int), .int .i64 ((readL ((L.drop 4).take 2) : Nat) : Int), .string (sB ((L.drop 6).take 52)), .bool true] 31)) = W4 at *
    clear hW
    refine (seal_back ho _).mono ?_
    rintro e w5 ⟨rfl, bel5⟩
    have T5 := T4.below bel5
    have B5 := blk_below B3 bel5
    clear T4 B3 bel5
    have p3 : w5.cell? ⟨w3.heap.size, 3, none⟩ = some (.bool true) := (blk_cell B5 3).trans rfl
    
    go_upto_region 10 with (fail)
    clear p3 B5
    refine wp_region_lit ?_
    refine wpList_load25 (by rfl) (.tmp 3) rfl (w.heap.size) rfl (S : Int) (C : Int) d hd (CX.range1 hd hd T5) ?_
    simp only [Act.put, List.setIfInBounds_toArray, List.set_cons_zero, List.set_cons_succ]
    go_wp2_with fail
    refine (text_any (S : Int) (C : Int) d _ hd).mono ?_
    rintro e w6 ⟨rfl, bel6⟩
    have T6 := T5.below bel6; clear T5 bel6
    have q0 := T6.q0
    have q1 := T6.q1
    go_wp2_with fail
    refine (seal_ok S C (d.take 52) _ hS hC1 hC (by rw [List.length_take, hd]; rfl)).mono ?_
    rintro e w7 ⟨rfl, bel7⟩
    have T7 := T6.below bel7; clear T6 bel7 q0 q1
    have q0 := T7.q0
    have q1 := T7.q1
    go_wp2_with fail
    refine (may_yes (by rw [decide_eq_true_iff]; exact ⟨by omega, by omega, by rw [List.length_take, hd]; rfl⟩) _).mono ?_
    rintro e w8 ⟨rfl, bel8⟩
    have T8 := T7.below bel8; clear T7 bel8 q0 q1
    have q0 := T8.q0
    have q1 := T8.q1
    go_wp2_with fail
    refine (open_seal hS hC1 hC (show (d.take 52).length = 52 by rw [List.length_take, hd]; rfl) _).mono ?_
    rintro e w9 ⟨rfl, bel9⟩
    have T9 := T8.below bel9; clear T8 bel9 q0 q1
    have q0 := T9.q0
    have q1 := T9.q1
    go_wp2_with fail
    refine (rseal_ok S C (d.take 52) _ hS (Nat.lt_succ_of_le hC) (by rw [List.length_take]; omega)).mono ?_
    rintro e w10 ⟨rfl, bel10⟩
    have T10 := T9.below bel10; clear T9 bel10 q0 q1
    have q0 := T10.q0
    have q1 := T10.q1
    go_wp2_with fail
    refine (two_any _).mono ?_
    rintro e w11 ⟨rfl, bel11⟩
    have hfin := below_two T10.bel bel11
    clear T10
    go_wp2
    go_ret
    exact ⟨rfl, hfin⟩
set_option maxHeartbeats 8000000 in
theorem codes_ok_no (S m : Nat) (c : Int) (less : Int) (d L : List UInt8) (w : World) (hd : d.length = 52) (hS : S < 4294967296) (hL : L.length ≤ 200) (hmm : less < 0 ∧ m = 52 ∨ less = 0 ∧ m = 52 ∨ 52 < less ∧ m = 0 ∨ less = 52 ∧ m = 0 ∨ 0 < less ∧ less < 52 ∧ 52 - less = (m : Int) ∧ (52 - less).toNat = m) (ho : okL L) (hm : decide (1 ≤ c ∧ c ≤ 65535 ∧ (d.take m).length = 52) = false) :
    Calls Try.prog 3 #[.agg (sc (S : Int) c d), .int .i64 less, .string (sB L)] w fun e w' => e = .returned (.bool true) ∧ Below w.heap.size w w' := by
  have zL : decide (((sB L).size : Int) > 200) = false := by rw [decide_eq_false_iff_not, sB_size]; omega
  have hm0 : m ≤ 52 := by omega
  have hext : (sB d).extract 0 m = sB (d.take m) := by rw [ext_sB, List.drop_zero, Nat.sub_zero]
  have zd : (sB d).size = 52 := by rw [sB_size, hd]
  have zm : (m : Int) ≤ ((sB d).size : Int) := by omega
  have zn : m ≤ (sB d).size := by omega
  clear zd
  rcases hmm with ⟨l1, rfl⟩ | ⟨rfl, rfl⟩ | ⟨l1, rfl⟩ | ⟨rfl, rfl⟩ | ⟨l1, l2, l3, l4⟩
  all_goals
    go_enter Try.func3, Try.ntmps3
    go_wp2_with fail
    have T := CX.start (S : Int) c d w
    generalize hW : (w.alloc (.cells (sc (S : Int) c d) 25)) = W1 at *
    clear hW
    refine (open_ok ho _).mono ?_
    rintro e w2 ⟨rfl, bel2⟩
    have T2 := T.below bel2; clear T bel2
    go_wp2_with fail
    refine (ropen_ok ho _).mono ?_
    rintro e w3 ⟨rfl, bel3⟩
    have T3 := T2.below bel3; clear T2 bel3
    go_wp2_with fail
    have B3 : (w3.alloc (.cells #[.int .u32 ((readL (L.take 4) : Nat) : Int), .int .i64 ((readL ((L.drop 4).take 2) : Nat) : Int), .string (sB ((L.drop 6).take 52)), .bool true] 31)).heap[w3.heap.size]? = some (.cells #[.int .u32 ((readL (L.take 4) : Nat) : Int), .int .i64 ((readL ((L.drop 4).take 2) : Nat) : Int), .string (sB ((L.drop 6).take 52)), .bool true] 31 (0, 0)) := heap_new _ _
    have T4 := T3.alloc (.cells #[.int .u32 ((readL (L.take 4) : Nat) : Int), .int .i64 ((readL ((L.drop 4).take 2) : Nat) : Int), .string (sB ((L.drop 6).take 52)), .bool true] 31); clear T3
    generalize hW : (w3.alloc (.cells #[.int .u32 ((readL (L.take 4) : Nat) : Int), .int .i64 ((readL ((L.drop 4).take 2) : Nat) : Int), .string (sB ((L.drop 6).take 52)), .bool true] 31)) = W4 at *
    clear hW
    refine (seal_back ho _).mono ?_
    rintro e w5 ⟨rfl, bel5⟩
    have T5 := T4.below bel5
    have B5 := blk_below B3 bel5
    clear T4 B3 bel5
    have p3 : w5.cell? ⟨w3.heap.size, 3, none⟩ = some (.bool true) := (blk_cell B5 3).trans rfl
    
    go_upto_region 10 with (fail)
    clear p3 B5
    refine wp_region_lit ?_
    refine wpList_load25 (by rfl) (.tmp 3) rfl (w.heap.size) rfl (S : Int) c d hd (CX.range1 hd hd T5) ?_
    simp only [Act.put, List.setIfInBounds_toArray, List.set_cons_zero, List.set_cons_succ]
    go_wp2_with fail
    refine (text_any (S : Int) c d _ hd).mono ?_
    rintro e w6 ⟨rfl, bel6⟩
    have T6 := T5.below bel6; clear T5 bel6
    have q0 := T6.q0
    have q1 := T6.q1
    go_wp2_with fail
    refine (seal_no (S : Int) c (d.take _) _ (no_of hm) (by rw [List.length_take]; omega)).mono ?_
    rintro e w7 ⟨rfl, bel7⟩
    have T7 := T6.below bel7; clear T6 bel7 q0 q1
    have q0 := T7.q0
    have q1 := T7.q1
    go_wp2_with fail
    refine (may_no hm _).mono ?_
    rintro e w8 ⟨rfl, bel8⟩
    have T8 := T7.below bel8; clear T7 bel8 q0 q1
    have q0 := T8.q0
    have q1 := T8.q1
    go_wp2_with fail
    refine (two_any _).mono ?_
    rintro e w9 ⟨rfl, bel9⟩
    have hfin := below_two T8.bel bel9
    clear T8
    go_wp2
    go_ret
    exact ⟨rfl, hfin⟩
end Go.Proofs.Ytndkbmpdanbkjaa.Own
