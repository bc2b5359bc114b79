/- The walks of the seals. -/
import Derived.Test.YtndkbmpdanbkjaaArr
namespace Go.Proofs.Ytndkbmpdanbkjaa.Own
open Go.RowKit
set_option maxRecDepth 100000
set_option linter.unusedSimpArgs false
set_option linter.unusedVariables false
theorem fixed4 (v : Nat) (w : World) (hv : v < 4294967296) : Calls Try.prog 16 #[.int .u64 (v : Int), .int .i64 4] w fun e w' => e = .returned (.tuple #[.string (sB (fixL 4 v)), .int .i64 0]) ∧ Below w.heap.size w w' := fixed_any v 4 w (by decide) (by decide) (by simpa using hv)
theorem fixed2 (v : Nat) (w : World) (hv : v < 65536) : Calls Try.prog 16 #[.int .u64 (v : Int), .int .i64 2] w fun e w' => e = .returned (.tuple #[.string (sB (fixL 2 v)), .int .i64 0]) ∧ Below w.heap.size w w' := fixed_any v 2 w (by decide) (by decide) (by simpa using hv)
theorem reffixed4 (v : Nat) (w : World) (hv : v < 4294967296) : Calls Try.prog 15 #[.int .u64 (v : Int), .int .i64 4] w fun e w' => e = .returned (.string (sB (fixL 4 v))) ∧ Below w.heap.size w w' := reffixed_any v 4 w (by decide) (by omega)
theorem reffixed2 (v : Nat) (w : World) (hv : v < 65536) : Calls Try.prog 15 #[.int .u64 (v : Int), .int .i64 2] w fun e w' => e = .returned (.string (sB (fixL 2 v))) ∧ Below w.heap.size w w' := reffixed_any v 2 w (by decide) (by omega)
def markL (st c : Nat) : List UInt8 := fixL 4 st ++ fixL 2 c
theorem markL_length (st c : Nat) : (markL st c).length = 6 := by simp [markL, fixL_length]
theorem mark_any (st c : Nat) (w : World) (hs : st < 4294967296) (hc : c < 65536) :
    Calls Try.prog 14 #[.int .u32 (st : Int), .int .i64 (c : Int)] w fun e w' => e = .returned (.string (sB (markL st c))) ∧ Below w.heap.size w w' := by
  have hw : IntKind.u64.wrap (st : Int) = st := IntWalk.u64_in _ (by omega)
  have Hs := Lib.hid hs; clear hs
  have hc' : (c : Int) < 65536 := by omega
  have Hc := Lib.hid hc; clear hc
  have e1 := sB_append (fixL 4 st) (fixL 2 c)
  have z1 : (sB (fixL 4 st)).size = 4 := by rw [sB_size, fixL_length]
  have z2 : (sB (fixL 2 c)).size = 2 := by rw [sB_size, fixL_length]
  obtain ⟨A, hA⟩ : ∃ A, sB (fixL 4 st) = A := ⟨_, rfl⟩
  obtain ⟨B, hB⟩ : ∃ B, sB (fixL 2 c) = B := ⟨_, rfl⟩
  rw [hA] at e1 z1
  rw [hB] at e1 z2
  have HA := Lib.hid hA; clear hA
  have HB := Lib.hid hB; clear hB
  have E1 := Lib.hid e1; clear e1
  have z1' : A.size ≤ 4 := by omega
  have z2' : B.size ≤ 2 := by omega
  clear z1 z2
  go_enter Try.func14, Try.ntmps14
  go_wp2_with fail
  refine (fixed4 st _ Hs.out).mono ?_
  rintro e w1 ⟨rfl, b1⟩
  rw [HA.out]
  have B1 := Lib.hid b1; clear b1
  go_wp2_with fail
  refine (fixed2 c _ Hc.out).mono ?_
  rintro e w2 ⟨rfl, b2⟩
  rw [HB.out]
  have B2 := Lib.hid (below_two B1.out b2); clear b2
  go_wp2
  go_ret
  exact ⟨by rw [E1.out]; rfl, B2.out⟩
def sealL (st c : Nat) (d : List UInt8) : List UInt8 := markL st c ++ d ++ markL st c
theorem info5 : (Try.prog.info? 5).map (·.size) = some 1 := by kernel_rfl
def zero64 : List UInt8 := List.replicate 64 0
theorem splice3 (Z M D : List UInt8) (hz : Z.length = 64) (hm : M.length = 6) (hd : D.length = 52) : spliced (spliced (spliced Z 0 M) 6 D) 58 M = M ++ D ++ M := by
  have s1 : spliced Z 0 M = M ++ Z.drop 6 := by simp [spliced, hm]
  have s2 : spliced (M ++ Z.drop 6) 6 D = M ++ D ++ Z.drop 58 := by
    unfold spliced
    rw [List.take_left' hm, hd, List.drop_append, hm]
    rw [List.drop_of_length_le (show M.length ≤ 6 + 52 by omega), List.nil_append, List.drop_drop]
  have s3 : spliced (M ++ D ++ Z.drop 58) 58 M = M ++ D ++ M := by
    unfold spliced
    rw [List.take_left' (by simp [hm, hd]), hm, List.drop_of_length_le (by simp [hm, hd, hz]), List.append_nil]
  rw [s1, s2, s3]
set_option maxHeartbeats 1000000 in
theorem seal_any (st c : Nat) (d : ByteArray) (w : World) (hs : st < 4294967296) (hc1 : 1 ≤ c) (hc : c ≤ 65535) (hd : d.size = 52) :
    Calls Try.prog 8 #[.int .u32 (st : Int), .int .i64 (c : Int), .string d] w fun e w' => e = .returned (.tuple #[.string (sB (sealL st c d.data.toList)), .int .i64 0]) ∧ Below w.heap.size w w' := by
  have Hs := Lib.hid hs; clear hs
  have hdb : ((d.size : Int) != 52) = false := by rw [bne_eq_false_iff_eq]; omega
  have Hd := Lib.hid hd; clear hd
  go_enter Try.func8, Try.ntmps8
  go_wp2_with fail
  refine (mark_any st c _ Hs.out (by omega)).mono ?_
  rintro e w1 ⟨rfl, b1⟩
  have hA0 : ABlk w1 w.heap.size zero64 45 := blk_below (heap_new _ _) b1
  have B1 := Lib.hid (below_two ((Below.refl _ w).alloc (Nat.le_refl _) _) b1); clear b1
  have hml := markL_length st c
  obtain ⟨m, hm⟩ : ∃ m, sB (markL st c) = m := ⟨_, rfl⟩
  have hmz : m.size = 6 := by rw [← hm, sB_size, hml]
  have hmd : m.data.toList = markL st c := by rw [← hm, sB_list]
  rw [hm]
  clear hm
  have z0 : zero64.length = 64 := by simp [zero64]
  obtain ⟨w2, k2, hA1, bb2⟩ := copy_arr (P := Try.prog) hA0 39 9 3 5 0 64 64 m Try.underlying39 info5 (by omega) (by omega)
  have B2 := Lib.hid (bb2 _ _ (Nat.le_refl _) B1.out); clear bb2
  have hmdl : m.data.toList.length = 6 := by rw [hmd, hml]
  have hdl : d.data.toList.length = 52 := by rw [Array.length_toList]; exact Hd.out
  have z1 := spliced_length (l := zero64) (o := 0) (s := m.data.toList) (by omega)
  obtain ⟨w3, k3, hA2, bb3⟩ := copy_arr (P := Try.prog) hA1 39 9 3 5 6 58 58 d Try.underlying39 info5 (by have := Hd.out; omega) (by have := Hd.out; omega)
  have B3 := Lib.hid (bb3 _ _ (Nat.le_refl _) B2.out); clear bb3
  have z2 := spliced_length (l := spliced zero64 0 m.data.toList) (o := 6) (s := d.data.toList) (by omega)
  obtain ⟨w4, k4, hA3, bb4⟩ := copy_arr (P := Try.prog) hA2 39 9 3 5 58 6 6 m Try.underlying39 info5 (by omega) (by omega)
  have B4 := Lib.hid (bb4 _ _ (Nat.le_refl _) B3.out); clear bb4
  have hfin : spliced (spliced (spliced zero64 0 m.data.toList) 6 d.data.toList) 58 m.data.toList = sealL st c d.data.toList := by
    unfold sealL
    rw [hmd]
    exact splice3 _ _ _ (by simp [zero64]) (markL_length st c) hdl
  rw [hfin] at hA3
  have hsl : (sealL st c d.data.toList).length = 64 := by simp [sealL, hml, hdl]
  have k5 := brow_string (P := Try.prog) hA3.row 39 9 5 64 64 hsl.symm Try.underlying39 Try.underlying5 Try.underlying9
  clear hA0 hA1 hA2 hA3 hfin z0 z1 z2 hmdl hdl hsl hml hmd
  have hmz' : m.size ≤ 6 := by omega
  clear hmz
  generalize hS : sealL st c d.data.toList = S at *
  have HS := Lib.hid hS; clear hS
  go_wp2
  go_ret2
  exact ⟨by rw [HS.out]; rfl, B4.out⟩
theorem seal_bad (st c : Int) (d : ByteArray) (w : World) (h : c < 1 ∨ 65535 < c ∨ d.size ≠ 52) (hdm : d.size ≤ maxLen) :
    Calls Try.prog 8 #[.int .u32 st, .int .i64 c, .string d] w fun e w' => e = .returned (.tuple #[.string ByteArray.empty, .int .i64 1]) ∧ w' = w := by
  unfold maxLen at hdm
  by_cases h1 : c < 1
  · clear h
    go_enter Try.func8, Try.ntmps8
    go_wp2
    go_ret2
    exact ⟨rfl, rfl⟩
  · by_cases h2 : 65535 < c
    · clear h
      go_enter Try.func8, Try.ntmps8
      go_wp2
      go_ret2
      exact ⟨rfl, rfl⟩
    · have hdb : ((d.size : Int) != 52) = true := by rw [bne_iff_ne]; omega
      clear h
      go_enter Try.func8, Try.ntmps8
      go_wp2
      go_ret2
      exact ⟨rfl, rfl⟩
end Go.Proofs.Ytndkbmpdanbkjaa.Own
