/- The walks of the headers. -/
import Derived.Test.YtcgmgecdlanolaaFixedN
import Derived.Test.YtcgmgecdlanolaaSumsW
namespace Go.Proofs.Ytcgmgecdlanolaa.Own
open Go.RowKit
set_option maxRecDepth 100000
set_option linter.unusedSimpArgs false
set_option linter.unusedVariables false
def hd (l g s b : Int) : Value := .agg #[.int .i64 l, .int .u32 g, .int .u32 s, .int .i64 b]
theorem fields_any (l g s b : Nat) (w : World) (hl : l ≤ 65535) (hb : b ≤ 1099511627776) (hg : g < 4294967296) (hs : s < 4294967296) :
    Calls Try.prog 17 #[.agg #[.int .i64 (l : Int), .int .u32 (g : Int), .int .u32 (s : Int), .int .i64 (b : Int)]] w fun e w' => e = .returned (.agg #[.int .u64 (l : Int), .int .i64 2, .int .u64 (g : Int), .int .i64 4, .int .u64 (s : Int), .int .i64 4, .int .u64 (b : Int), .int .i64 8]) ∧ Below w.heap.size w w' := by
  have e1 : IntKind.u64.wrap (l : Int) = l := IntWalk.u64_in _ (by omega)
  have e2 : IntKind.u64.wrap (g : Int) = g := IntWalk.u64_in _ (by omega)
  have e3 : IntKind.u64.wrap (s : Int) = s := IntWalk.u64_in _ (by omega)
  have e4 : IntKind.u64.wrap (b : Int) = b := IntWalk.u64_in _ (by omega)
  clear hl hb hg hs
  go_enter Try.func17, Try.ntmps17
  go_wp2
  go_returns
  refine ⟨rfl, ?_⟩
  go_grown
def bodyL (l g s b : Nat) : List UInt8 := [87, 83] ++ fixL 2 l ++ fixL 4 g ++ fixL 4 s ++ fixL 8 b
def headL (l g s b : Nat) : List UInt8 := bodyL l g s b ++ [0, 0, 0, 0, 0, 0, 0, 0]
def encL (l g s b : Nat) : List UInt8 := headL l g s b ++ fixL 4 (crc 0#32 (headL l g s b)).toNat
theorem encL_length (l g s b : Nat) : (encL l g s b).length = 32 := by simp [encL, headL, bodyL, fixL_length]
def fa (l g s b : Int) : Value := .agg #[.int .u64 l, .int .i64 2, .int .u64 g, .int .i64 4, .int .u64 s, .int .i64 4, .int .u64 b, .int .i64 8]
theorem idx0 (l g s b : Int) (w : World) : (Instr.index 50 (.agg #[.int .u64 l, .int .i64 2, .int .u64 g, .int .i64 4, .int .u64 s, .int .i64 4, .int .u64 b, .int .i64 8]) (.int .i64 0)).run Try.prog w = .ok (.agg #[.int .u64 l, .int .i64 2]) w := by kernel_rfl
theorem idx1 (l g s b : Int) (w : World) : (Instr.index 50 (.agg #[.int .u64 l, .int .i64 2, .int .u64 g, .int .i64 4, .int .u64 s, .int .i64 4, .int .u64 b, .int .i64 8]) (.int .i64 1)).run Try.prog w = .ok (.agg #[.int .u64 g, .int .i64 4]) w := by kernel_rfl
theorem idx2 (l g s b : Int) (w : World) : (Instr.index 50 (.agg #[.int .u64 l, .int .i64 2, .int .u64 g, .int .i64 4, .int .u64 s, .int .i64 4, .int .u64 b, .int .i64 8]) (.int .i64 2)).run Try.prog w = .ok (.agg #[.int .u64 s, .int .i64 4]) w := by kernel_rfl
theorem idx3 (l g s b : Int) (w : World) : (Instr.index 50 (.agg #[.int .u64 l, .int .i64 2, .int .u64 g, .int .i64 4, .int .u64 s, .int .i64 4, .int .u64 b, .int .i64 8]) (.int .i64 3)).run Try.prog w = .ok (.agg #[.int .u64 b, .int .i64 8]) w := by kernel_rfl
theorem str_cat {A B C : ByteArray} {l m : List UInt8} (hA : A = sB l) (hB : B = sB m) (hC : C = sB (l ++ m)) : A ++ B = C := by subst hA; subst hB; subst hC; exact sB_append l m
set_option maxHeartbeats 2000000 in
theorem encode_any (l g s b : Nat) (w : World) (hl1 : 1 ≤ l) (hl : l ≤ 65535) (hb : b ≤ 1099511627776) (hg : g < 4294967296) (hs : s < 4294967296) :
    Calls Try.prog 11 #[.agg #[.int .i64 (l : Int), .int .u32 (g : Int), .int .u32 (s : Int), .int .i64 (b : Int)]] w fun e w' => e = .returned (.tuple #[.string (sB (encL l g s b)), .int .i64 0]) ∧ Below w.heap.size w w' := by
  have hl1' : (1 : Int) ≤ l := by omega
  have hl' : (l : Int) ≤ 65535 := by omega
  have hb' : (b : Int) ≤ 1099511627776 := by omega
  have Hl := Lib.hid hl; clear hl hl1
  have Hb := Lib.hid hb; clear hb
  have Hg := Lib.hid hg; clear hg
  have Hs := Lib.hid hs; clear hs
  obtain ⟨A, hA⟩ : ∃ A, A = sB (fixL 2 l) := ⟨_, rfl⟩
  obtain ⟨B, hB⟩ : ∃ B, B = sB (fixL 4 g) := ⟨_, rfl⟩
  obtain ⟨C, hC⟩ : ∃ C, C = sB (fixL 4 s) := ⟨_, rfl⟩
  obtain ⟨D, hD⟩ : ∃ D, D = sB (fixL 8 b) := ⟨_, rfl⟩
  have zA : A.size ≤ 8 := by rw [hA, sB_size, fixL_length]; omega
  have zB : B.size ≤ 8 := by rw [hB, sB_size, fixL_length]; omega
  have zC : C.size ≤ 8 := by rw [hC, sB_size, fixL_length]; omega
  have zD : D.size ≤ 8 := by rw [hD, sB_size, fixL_length]; omega
  have HA := Lib.hid hA; clear hA
  have HB := Lib.hid hB; clear hB
  have HC := Lib.hid hC; clear hC
  have HD := Lib.hid hD; clear hD
  obtain ⟨S1, h1⟩ : ∃ S, ({ data := #[87, 83] } : ByteArray) ++ A = S := ⟨_, rfl⟩
  obtain ⟨S2, h2⟩ : ∃ S, S1 ++ B = S := ⟨_, rfl⟩
  obtain ⟨S3, h3⟩ : ∃ S, S2 ++ C = S := ⟨_, rfl⟩
  obtain ⟨S4, h4⟩ : ∃ S, S3 ++ D = S := ⟨_, rfl⟩
  obtain ⟨S5, h5⟩ : ∃ S, S4 ++ ({ data := #[0, 0, 0, 0, 0, 0, 0, 0] } : ByteArray) = S := ⟨_, rfl⟩
  have q1 : S1 = sB ([87, 83] ++ fixL 2 l) := by rw [← h1, HA.out]; exact sB_append [87, 83] _
  have q2 : S2 = sB ([87, 83] ++ fixL 2 l ++ fixL 4 g) := by rw [← h2, q1, HB.out]; exact sB_append _ _
  have q3 : S3 = sB ([87, 83] ++ fixL 2 l ++ fixL 4 g ++ fixL 4 s) := by rw [← h3, q2, HC.out]; exact sB_append _ _
  have q4 : S4 = sB (bodyL l g s b) := by rw [← h4, q3, HD.out]; exact sB_append _ _
  have q5 : S5 = sB (headL l g s b) := by rw [← h5, q4]; exact sB_append _ [0, 0, 0, 0, 0, 0, 0, 0]
  have z1 : S1.size ≤ 40 := by rw [q1, sB_size]; simp [fixL_length]
  have z2 : S2.size ≤ 40 := by rw [q2, sB_size]; simp [fixL_length]
  have z3 : S3.size ≤ 40 := by rw [q3, sB_size]; simp [fixL_length]
  have z4 : S4.size ≤ 40 := by rw [q4, sB_size]; simp [bodyL, fixL_length]
  have z5 : S5.size ≤ 40 := by rw [q5, sB_size]; simp [headL, bodyL, fixL_length]
  obtain ⟨R, hR⟩ : ∃ R, crc 0#32 (headL l g s b) = R := ⟨_, rfl⟩
  obtain ⟨E, hE⟩ : ∃ E, E = sB (fixL 4 R.toNat) := ⟨_, rfl⟩
  have zE : E.size ≤ 8 := by rw [hE, sB_size, fixL_length]; omega
  have HR := Lib.hid hR; clear hR
  have HE := Lib.hid hE; clear hE
  have Q5 := Lib.hid q5; clear q1 q2 q3 q4 q5
  go_enter Try.func11, Try.ntmps11
  go_wp2_with fail
  refine (fields_any l g s b _ Hl.out Hb.out Hg.out Hs.out).mono ?_
  rintro e w1 ⟨rfl, b1⟩
  have B1 := Lib.hid (below_two ((Below.refl _ w).alloc (Nat.le_refl _) _) b1); clear b1
  go_wp2_with fail
  have i0 := idx0 l g s b
  have i1 := idx1 l g s b
  have i2 := idx2 l g s b
  have i3 := idx3 l g s b
  refine wp_loop_rounds 5 ?_
  rw [rounds_succ]
  go_wp2_with fail
  refine (fixed2 l _ (by have := Hl.out; omega)).mono ?_
  rintro e w2 ⟨rfl, b2⟩
  rw [← HA.out]
  have B2 := Lib.hid (below_two (B1.out.alloc B1.out.size _) b2); clear b2
  go_wp2_with fail
  rw [rounds_succ]
  go_wp2_with fail
  refine (fixed4 g _ Hg.out).mono ?_
  rintro e w3 ⟨rfl, b3⟩
  rw [← HB.out]
  have B3 := Lib.hid (below_two (B2.out.alloc B2.out.size _) b3); clear b3
  go_wp2_with fail
  rw [rounds_succ]
  go_wp2_with fail
  refine (fixed4 s _ Hs.out).mono ?_
  rintro e w4 ⟨rfl, b4⟩
  rw [← HC.out]
  have B4 := Lib.hid (below_two (B3.out.alloc B3.out.size _) b4); clear b4
  go_wp2_with fail
  rw [rounds_succ]
  go_wp2_with fail
  refine (fixed8 b _ (by have := Hb.out; omega)).mono ?_
  rintro e w5 ⟨rfl, b5⟩
  rw [← HD.out]
  have B5 := Lib.hid (below_two (B4.out.alloc B4.out.size _) b5); clear b5
  go_wp2_with fail
  rw [rounds_succ]
  go_wp2_with fail
  refine (crc_any 0#32 S5 _ (by unfold maxLen; omega)).mono ?_
  rintro e w6 ⟨rfl, b6⟩
  have B6 := Lib.hid (below_two B5.out b6); clear b6
  rw [Q5.out, sB_list, HR.out, ← Q5.out]
  have hw : IntKind.u64.wrap (iw R) = iw R := IntWalk.u64_in _ (by have := iw_lo R; have := iw_hi R; omega)
  go_wp2_with fail
  refine (fixed4 R.toNat _ R.isLt).mono ?_
  rintro e w7 ⟨rfl, b7⟩
  rw [← HE.out]
  have B7 := Lib.hid (below_two B6.out b7); clear b7
  go_wp2
  go_ret2
  refine ⟨?_, B7.out⟩
  rw [show S5 ++ E = sB (encL l g s b) from by rw [Q5.out, HE.out, ← HR.out]; exact sB_append _ _]
  rfl
end Go.Proofs.Ytcgmgecdlanolaa.Own
