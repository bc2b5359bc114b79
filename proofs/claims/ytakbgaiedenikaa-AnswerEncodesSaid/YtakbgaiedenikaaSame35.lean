/- The document's form of an answer, and two answers of the same contents. -/
import Derived.Test.YtakbgaiedenikaaOpen
import Derived.Test.YtakbgaiedenikaaSm
namespace Go.Proofs.Ytakbgaiedenikaa.Sa
open Go.RowKit Go.Proofs.YtakbgaiedenikaaW.PrintWords Go.Proofs.Ytakbgaiedenikaa.PB
set_option maxRecDepth 100000
set_option linter.unusedSimpArgs false
set_option linter.unusedVariables false
set_option maxHeartbeats 1000000 in
theorem ref_any (i k c a b : Int) (A5 : Option Addr) (n5 c5 : Nat) (A6 : Option Addr) (n6 c6 : Nat) (A7 : Option Addr) (n7 c7 : Nat) (w : World) :
    Calls Try.prog 11 #[.agg #[.int .i64 i, .int .i64 k, .int .i64 c, .int .i64 a, .int .i64 b, .slice A5 n5 c5, .slice A6 n6 c6, .slice A7 n7 c7]] w fun e w' => e = .returned (.agg #[.int .i64 i, .int .i64 k, .int .i64 c, .int .i64 a, .int .i64 b, .slice A5 n5 c5, .slice A6 n6 c6, .slice A7 n7 c7]) ∧ Below w.heap.size w w' := by
  go_enter Try.func11, Try.ntmps11
  go_wp2_with fail
  refine bodyPost_ret (v := .agg #[.int .i64 i, .int .i64 k, .int .i64 c, .int .i64 a, .int .i64 b, .slice A5 n5 c5, .slice A6 n6 c6, .slice A7 n7 c7]) (by simp [results, Try.results11, go_sem]) rfl ⟨rfl, ?_⟩
  repeat (refine Below.setCell ?_ (by simp) _)
  exact ((Below.refl _ w).alloc (Nat.le_refl _) _).alloc (by simp) _
set_option maxHeartbeats 2000000 in
theorem same35 (i k c a b : Int) (rs : List S54) (ns : List ByteArray) (ks : List Int) (A5 : Option Addr) (c5 : Nat) (A6 : Option Addr) (c6 : Nat) (A7 : Option Addr) (c7 : Nat) (B5 : Option Addr) (d5 : Nat) (B6 : Option Addr) (d6 : Nat) (B7 : Option Addr) (d7 : Nat) (w : World)
    (h5 : Kd.C k54 w A5 rs.length rs) (h6 : Kd.C Kd.string w A6 ns.length ns) (h7 : Kd.C (Kd.int .i64) w A7 ks.length ks) (g5 : Kd.C k54 w B5 rs.length rs) (g6 : Kd.C Kd.string w B6 ns.length ns) (g7 : Kd.C (Kd.int .i64) w B7 ks.length ks) (hn : ns.length ≤ 1000000) (hk : ks.length ≤ 1000000) :
    Calls Try.prog 16 #[.agg #[.int .i64 i, .int .i64 k, .int .i64 c, .int .i64 a, .int .i64 b, .slice A5 rs.length c5, .slice A6 ns.length c6, .slice A7 ks.length c7], .agg #[.int .i64 i, .int .i64 k, .int .i64 c, .int .i64 a, .int .i64 b, .slice B5 rs.length d5, .slice B6 ns.length d6, .slice B7 ks.length d7]] w fun e w' => e = .returned (.bool true) ∧ Below w.heap.size w w' := by
  have H5 := Lib.hid h5; have H6 := Lib.hid h6; have H7 := Lib.hid h7; have G5 := Lib.hid g5; have G6 := Lib.hid g6; have G7 := Lib.hid g7
  clear h5 h6 h7 g5 g6 g7
  have e1 := Own.heap_new w (.cells #[.int .i64 i, .int .i64 k, .int .i64 c, .int .i64 a, .int .i64 b, .slice A5 rs.length c5, .slice A6 ns.length c6, .slice A7 ks.length c7] 34)
  have b1 : Below w.heap.size w (w.alloc (.cells #[.int .i64 i, .int .i64 k, .int .i64 c, .int .i64 a, .int .i64 b, .slice A5 rs.length c5, .slice A6 ns.length c6, .slice A7 ks.length c7] 34)) := (Below.refl _ _).alloc (Nat.le_refl _) _
  have s1 : (w.alloc (.cells #[.int .i64 i, .int .i64 k, .int .i64 c, .int .i64 a, .int .i64 b, .slice A5 rs.length c5, .slice A6 ns.length c6, .slice A7 ks.length c7] 34)).heap.size = w.heap.size + 1 := by simp
  go_enter Try.func16, Try.ntmps16
  go_upto_region 1 with (fail)
  change Code.wp _ _ _ _ ((w.alloc (.cells #[.int .i64 i, .int .i64 k, .int .i64 c, .int .i64 a, .int .i64 b, .slice A5 rs.length c5, .slice A6 ns.length c6, .slice A7 ks.length c7] 34)).alloc (.cells #[.int .i64 i, .int .i64 k, .int .i64 c, .int .i64 a, .int .i64 b, .slice B5 rs.length d5, .slice B6 ns.length d6, .slice B7 ks.length d7] 34))
  generalize w.alloc (.cells #[.int .i64 i, .int .i64 k, .int .i64 c, .int .i64 a, .int .i64 b, .slice A5 rs.length c5, .slice A6 ns.length c6, .slice A7 ks.length c7] 34) = W1 at *
  have e2 := Own.heap_new W1 (.cells #[.int .i64 i, .int .i64 k, .int .i64 c, .int .i64 a, .int .i64 b, .slice B5 rs.length d5, .slice B6 ns.length d6, .slice B7 ks.length d7] 34)
  have b2 : Below W1.heap.size W1 (W1.alloc (.cells #[.int .i64 i, .int .i64 k, .int .i64 c, .int .i64 a, .int .i64 b, .slice B5 rs.length d5, .slice B6 ns.length d6, .slice B7 ks.length d7] 34)) := (Below.refl _ _).alloc (Nat.le_refl _) _
  rw [s1] at e2
  have e12 := Own.blk_below e1 b2
  have bel := b1.trans (b2.mono (by omega))
  generalize W1.alloc (.cells #[.int .i64 i, .int .i64 k, .int .i64 c, .int .i64 a, .int .i64 b, .slice B5 rs.length d5, .slice B6 ns.length d6, .slice B7 ks.length d7] 34) = W2 at *
  have BEL := Lib.hid bel; have X1 := Lib.hid e12; have X2 := Lib.hid e2
  clear e1 b1 e2 b2 e12 bel s1
  have S2 : Hid (w.heap.size + 2 ≤ W2.heap.size) := Lib.hid (Own.blk_lt X2.out)
  have q0 := (Own.blk_cell X1.out 0).trans rfl
  have q1 := (Own.blk_cell X1.out 1).trans rfl
  have q2 := (Own.blk_cell X1.out 2).trans rfl
  have q3 := (Own.blk_cell X1.out 3).trans rfl
  have q4 := (Own.blk_cell X1.out 4).trans rfl
  have q5 := (Own.blk_cell X1.out 5).trans rfl
  have q6 := (Own.blk_cell X1.out 6).trans rfl
  have q7 := (Own.blk_cell X1.out 7).trans rfl
  have r0 := (Own.blk_cell X2.out 0).trans rfl
  have r1 := (Own.blk_cell X2.out 1).trans rfl
  have r2 := (Own.blk_cell X2.out 2).trans rfl
  have r3 := (Own.blk_cell X2.out 3).trans rfl
  have r4 := (Own.blk_cell X2.out 4).trans rfl
  have r5 := (Own.blk_cell X2.out 5).trans rfl
  have r6 := (Own.blk_cell X2.out 6).trans rfl
  have r7 := (Own.blk_cell X2.out 7).trans rfl
  go_wp2_with fail
  go_loopw [63] (fun x wr => wr = W2 ∧ ∃ m : Nat, m ≤ ns.length ∧ x = .int .i64 (m : Int)) (fun x _ => ns.length - (intOf x).toNat)
  case atStart => exact ⟨rfl, 0, Nat.zero_le _, rfl⟩
  case round =>
    obtain ⟨rfl, m, hm, rfl⟩ := hrel
    by_cases hlt : m < ns.length
    · have p1 : (0 : Int) ≤ (m : Int) := Int.natCast_nonneg _
      have p2 : (m : Int) < (ns.length : Int) := by omega
      obtain ⟨ad, ea, x0⟩ := Kd.at_string (Kd.C_below H6.out BEL.out) (m : Int) p1 p2
      obtain ⟨ae, eb, y0⟩ := Kd.at_string (Kd.C_below G6.out BEL.out) (m : Int) p1 p2
      cases ea
      cases eb
      rw [Int.toNat_natCast] at x0 y0
      generalize rdOf ByteArray.empty ns (m : Int) = x at *
      go_wp2
      go_roundw
      case rel => exact ⟨by trivial, m + 1, hlt, by go_num⟩
      case measure => simp [intOf]; omega
    · obtain rfl : m = ns.length := by omega
      have hd : ¬ (ns.length : Int) < (ns.length : Int) := by omega
      go_wp2_with fail
      go_loopw [79] (fun x wv => wv = wr ∧ ∃ m : Nat, m ≤ ks.length ∧ x = .int .i64 (m : Int)) (fun x _ => ks.length - (intOf x).toNat)
      case atStart => exact ⟨rfl, 0, Nat.zero_le _, rfl⟩
      case round =>
        obtain ⟨rfl, m, hm2, rfl⟩ := hrel
        by_cases hlt2 : m < ks.length
        · have p1 : (0 : Int) ≤ (m : Int) := Int.natCast_nonneg _
          have p2 : (m : Int) < (ks.length : Int) := by omega
          obtain ⟨ad, ea, x0⟩ := Kd.at_int (Kd.C_below H7.out BEL.out) (m : Int) p1 p2
          obtain ⟨ae, eb, y0⟩ := Kd.at_int (Kd.C_below G7.out BEL.out) (m : Int) p1 p2
          cases ea
          cases eb
          rw [Int.toNat_natCast] at x0 y0
          generalize rd ks (m : Int) = x at *
          go_wp2
          go_roundw
          case rel => exact ⟨by trivial, m + 1, hlt2, by go_num⟩
          case measure => simp [intOf]; omega
        · obtain rfl : m = ks.length := by omega
          have hd2 : ¬ (ks.length : Int) < (ks.length : Int) := by omega
          go_wp2_with fail
          refine (Sm.same_any A5 c5 rs B5 d5 rs _ (Kd.C_below H5.out BEL.out) (Kd.C_below G5.out BEL.out)).mono ?_
          rintro e w3 ⟨rfl, b3⟩
          have B3 := Lib.hid (BEL.out.trans (b3.mono BEL.out.size)); clear b3
          rw [Sm.sameB_refl]
          go_wp2
          go_ret
          exact ⟨rfl, B3.out⟩
end Go.Proofs.Ytakbgaiedenikaa.Sa
