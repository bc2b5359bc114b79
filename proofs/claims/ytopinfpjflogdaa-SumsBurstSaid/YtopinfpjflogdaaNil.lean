/- The walks of the laws SumsNil and SumsBegin. -/
import Derived.Test.YtopinfpjflogdaaWalk
import Derived.Test.YtopinfpjflogdaaLin
namespace Go.Proofs.Ytopinfpjflogdaa
open Go.RowKit
set_option maxRecDepth 100000
set_option linter.unusedSimpArgs false
set_option linter.unusedVariables false
theorem add_nil (s : ByteArray) (w : World) :
    Calls Try.prog 15 #[.pointer none, .string s] w fun e w' => e = .returned (.tuple #[]) ∧ w' = w := by
  go_enter Try.func15, Try.ntmps15
  go_wp2
  go_returns
  exact ⟨rfl, rfl⟩
theorem value_nil (w : World) :
    Calls Try.prog 16 #[.pointer none] w fun e w' => e = .returned (.int .u32 0) ∧ w' = w := by
  go_enter Try.func16, Try.ntmps16
  go_wp2
  go_ret
  exact ⟨rfl, rfl⟩
theorem sumsNil_walk (s : ByteArray) (w : World) (hs : s.size ≤ 140737488351232) :
    Calls Try.prog 8 #[.string s] w fun e w' => e = .returned (.bool true) ∧ Below w.heap.size w w' := by
  go_enter Try.func8, Try.ntmps8
  go_wp2_with (first
    | (go_at_call 15; refine (add_nil _ _).mono ?_; rintro e w1 ⟨rfl, rfl⟩)
    | (go_at_call 16; refine (value_nil _).mono ?_; rintro e w1 ⟨rfl, rfl⟩)
    | (go_at_call 9; refine (nine_any _).mono ?_; rintro e w3 ⟨rfl, hb2⟩))
  go_ret
  exact ⟨rfl, hb2⟩

/-- Three words in an array. -/
theorem sumsBegin_short (x y z : BitVec 32) (s t : ByteArray) (w : World) (h1 : s.size ≠ t.size) (hs : s.size ≤ 140737488351232) (ht : t.size ≤ 140737488351232) :
    Calls Try.prog 7 #[.agg #[.int .u32 (iw x), .int .u32 (iw y), .int .u32 (iw z)], .string s, .string t] w fun e w' => e = .returned (.bool true) ∧ Below w.heap.size w w' := by
  have hb : ((s.size : Int) != (t.size : Int)) = true := by rw [bne_iff_ne]; omega
  go_enter Try.func7, Try.ntmps7
  go_wp2_with (go_at_call 9; refine (nine_any _).mono ?_; rintro e w1 ⟨rfl, hb2⟩)
  go_ret
  exact ⟨rfl, below_two ((Below.refl _ _).alloc (Nat.le_refl _) _) hb2⟩
theorem sumsBegin_long (x y z : BitVec 32) (s t : ByteArray) (w : World) (h1 : s.size = t.size) (h2 : 300 < s.size) (hs : s.size ≤ 140737488351232) (ht : t.size ≤ 140737488351232) :
    Calls Try.prog 7 #[.agg #[.int .u32 (iw x), .int .u32 (iw y), .int .u32 (iw z)], .string s, .string t] w fun e w' => e = .returned (.bool true) ∧ Below w.heap.size w w' := by
  have hb : ((s.size : Int) != (t.size : Int)) = false := by rw [bne_eq_false_iff_eq]; omega
  clear h1
  go_enter Try.func7, Try.ntmps7
  go_wp2_with (go_at_call 9; refine (nine_any _).mono ?_; rintro e w1 ⟨rfl, hb2⟩)
  go_ret
  exact ⟨rfl, below_two ((Below.refl _ _).alloc (Nat.le_refl _) _) hb2⟩
attribute [local go_sem] bits_xor_iw
set_option maxHeartbeats 400000 in
theorem sumsBegin_main (x y z : BitVec 32) (s t : ByteArray) (w : World) (h1 : s.size = t.size) (h2 : s.size ≤ 300) :
    Calls Try.prog 7 #[.agg #[.int .u32 (iw x), .int .u32 (iw y), .int .u32 (iw z)], .string s, .string t] w fun e w' => e = .returned (.bool true) ∧ Below w.heap.size w w' := by
  have hms : s.size ≤ maxLen := by unfold maxLen; omega
  have hmt : t.size ≤ maxLen := by unfold maxLen; omega
  have hb : ((s.size : Int) != (t.size : Int)) = false := by rw [bne_eq_false_iff_eq]; omega
  have hE : crc x s.data.toList ^^^ crc (x ^^^ y) s.data.toList = crc z t.data.toList ^^^ crc (z ^^^ y) t.data.toList :=
    crc_begin _ _ _ _ (by rw [← BitVec.xor_assoc, ← BitVec.xor_assoc, BitVec.xor_self, BitVec.xor_self]) _ _ (by simpa using h1)
  have Hms := Lib.hid hms; clear hms
  have Hmt := Lib.hid hmt; clear hmt
  clear h1
  go_enter Try.func7, Try.ntmps7
  go_wp2_with fail
  refine (crc_any x s _ Hms.out).mono ?_; rintro e w1 ⟨rfl, b1⟩
  have B1 := Lib.hid b1; clear b1
  go_wp2_with fail
  refine (crc_any (x ^^^ y) s _ Hms.out).mono ?_; rintro e w2 ⟨rfl, b2⟩
  have B2 := Lib.hid b2; clear b2
  go_wp2_with fail
  refine (crc_any z t _ Hmt.out).mono ?_; rintro e w3 ⟨rfl, b3⟩
  have B3 := Lib.hid b3; clear b3
  go_wp2_with fail
  refine (crc_any (z ^^^ y) t _ Hmt.out).mono ?_; rintro e w4 ⟨rfl, b4⟩
  have B4 := Lib.hid b4; clear b4
  go_wp2_with (go_at_call 9; refine (nine_any _).mono ?_; rintro e w1 ⟨rfl, hb2⟩)
  go_ret
  exact ⟨rfl, below_two (below_two (below_two (below_two (below_two ((Below.refl _ _).alloc (Nat.le_refl _) _) B1.out) B2.out) B3.out) B4.out) hb2⟩
theorem words3 {zs : List Int} (hl : zs.length = 3) (hw : ∀ z ∈ zs, (Lit.int .u32 z).wf = true) : ∃ x y z : BitVec 32, zs = [iw x, iw y, iw z] := by
  match zs, hl with
  | [a, b, c], _ =>
    obtain ⟨x, rfl⟩ := word_of (hw a (by simp))
    obtain ⟨y, rfl⟩ := word_of (hw b (by simp))
    obtain ⟨z, rfl⟩ := word_of (hw c (by simp))
    exact ⟨x, y, z, rfl⟩
theorem words2 {zs : List Int} (hl : zs.length = 2) (hw : ∀ z ∈ zs, (Lit.int .u32 z).wf = true) : ∃ x y : BitVec 32, zs = [iw x, iw y] := by
  match zs, hl with
  | [a, b], _ =>
    obtain ⟨x, rfl⟩ := word_of (hw a (by simp))
    obtain ⟨y, rfl⟩ := word_of (hw b (by simp))
    exact ⟨x, y, rfl⟩
theorem sumsBegin_walk (zs : List Int) (s t : ByteArray) (w : World) (hl : zs.length = 3) (hw : ∀ z ∈ zs, (Lit.int .u32 z).wf = true) (hs : s.size ≤ 140737488351232) (ht : t.size ≤ 140737488351232) :
    Calls Try.prog 7 #[.agg (zs.map (Value.int .u32)).toArray, .string s, .string t] w fun e w' => e = .returned (.bool true) ∧ Below w.heap.size w w' := by
  obtain ⟨x, y, z, rfl⟩ := words3 hl hw
  show Calls Try.prog 7 #[.agg #[.int .u32 (iw x), .int .u32 (iw y), .int .u32 (iw z)], .string s, .string t] w _
  by_cases h1 : s.size = t.size
  · by_cases h2 : s.size ≤ 300
    · exact sumsBegin_main x y z s t w h1 h2
    · exact sumsBegin_long x y z s t w h1 (by omega) hs ht
  · exact sumsBegin_short x y z s t w h1 hs ht
end Go.Proofs.Ytopinfpjflogdaa
