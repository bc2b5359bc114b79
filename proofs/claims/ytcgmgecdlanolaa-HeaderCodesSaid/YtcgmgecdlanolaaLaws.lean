/- The walks of the headers' laws. -/
import Derived.Test.YtcgmgecdlanolaaDec
namespace Go.Proofs.Ytcgmgecdlanolaa.Own
open Go.RowKit
set_option maxRecDepth 100000
set_option linter.unusedSimpArgs false
set_option linter.unusedVariables false
theorem or_u32 (e c : Nat) (he : e < 65536) (hc : c < 65536) : Go.bits .or .u32 ((e : Int) * 65536) (c : Int) = ((65536 * e + c : Nat) : Int) := by
  rw [Go.bits_join .u32 32 (by decide) (fun n h0 h1 => by rw [IntKind.wrap_u32]; exact Int.emod_eq_of_lt h0 (by simpa using h1)) 16 ((e : Int) * 65536) c (by omega) (by omega) (by omega) (by omega) (by omega) (by omega)]
  omega
theorem stamp_any (e c : Nat) (w : World) (he : e ≤ 65535) (hc : c ≤ 65535) :
    Calls Try.prog 15 #[.int .i64 (e : Int), .int .i64 (c : Int)] w fun r w' => r = .returned (.tuple #[.int .u32 ((65536 * e + c : Nat) : Int), .int .i64 0]) ∧ w' = w := by
  have e1 : IntKind.u32.wrap (e : Int) = e := IntWalk.u32_in _ (by omega)
  have e2 : IntKind.u32.wrap (c : Int) = c := IntWalk.u32_in _ (by omega)
  have e3 : IntKind.u32.wrap ((e : Int) * 65536) = (e : Int) * 65536 := IntWalk.u32_in _ (by omega)
  have Ho := Lib.hid (or_u32 e c (by omega) (by omega))
  have he' : (e : Int) ≤ 65535 := by omega
  have hc' : (c : Int) ≤ 65535 := by omega
  go_enter Try.func15, Try.ntmps15
  go_wp2
  go_ret2
  exact ⟨by rw [← Ho.out]; rfl, rfl⟩
theorem stamp_bad (e c : Int) (w : World) (h : e < 0 ∨ 65535 < e ∨ c < 0 ∨ 65535 < c) :
    Calls Try.prog 15 #[.int .i64 e, .int .i64 c] w fun r w' => r = .returned (.tuple #[.int .u32 0, .int .i64 1]) ∧ w' = w := by
  by_cases h1 : e < 0
  · clear h
    go_enter Try.func15, Try.ntmps15
    go_wp2
    go_ret2
    exact ⟨rfl, rfl⟩
  · by_cases h2 : 65535 < e
    · clear h
      go_enter Try.func15, Try.ntmps15
      go_wp2
      go_ret2
      exact ⟨rfl, rfl⟩
    · by_cases h3 : c < 0
      · clear h
        go_enter Try.func15, Try.ntmps15
        go_wp2
        go_ret2
        exact ⟨rfl, rfl⟩
      · have h4 : 65535 < c := by omega
        clear h
        go_enter Try.func15, Try.ntmps15
        go_wp2
        go_ret2
        exact ⟨rfl, rfl⟩
theorem parts_any (s : Nat) (w : World) (hs : s < 4294967296) :
    Calls Try.prog 14 #[.int .u32 (s : Int)] w fun r w' => r = .returned (.tuple #[.int .i64 ((s / 65536 : Nat) : Int), .int .i64 ((s % 65536 : Nat) : Int)]) ∧ w' = w := by
  have e1 : IntKind.i64.wrap ((s : Int) / 65536) = (s : Int) / 65536 := IntWalk.i64_in _ (by omega)
  have e2 : IntKind.u16.wrap (s : Int) = (s : Int) % 65536 := IntKind.wrap_u16 _
  have e3 : IntKind.i64.wrap ((s : Int) % 65536) = (s : Int) % 65536 := IntWalk.i64_in _ (by omega)
  have h4 : (s : Int) / 65536 ≤ 65535 := by omega
  clear hs
  go_enter Try.func14, Try.ntmps14
  go_wp2
  go_ret2
  exact ⟨by simp, rfl⟩
/-- What stands in the bytes of a header that was made. -/
theorem part_of (A B C : List UInt8) (s : ByteArray) (a b : Nat) (h : s.data.toList = A ++ (B ++ C)) (ha : A.length = a) (hb : B.length = b - a) : (s.data.toList.drop a).take (b - a) = B := by
  rw [h, List.drop_left' ha, List.take_left' hb]
theorem enc_parts {l g t b : Nat} {r : List UInt8} {s : ByteArray} (hs : s.data.toList = encL l g t b ++ r) (hl : l ≤ 65535) (hg : g < 4294967296) (ht : t < 4294967296) (hb : b ≤ 1099511627776) :
    pt s 2 4 = l ∧ pt s 4 8 = g ∧ pt s 8 12 = t ∧ pt s 12 20 = b ∧ 32 ≤ s.size ∧ encL l g t b = s.data.toList.take 32 := by
  have hsz : s.data.toList.length = s.size := by rw [Array.length_toList]; rfl
  have hlen := encL_length l g t b
  refine ⟨?_, ?_, ?_, ?_, ?_, ?_⟩
  · unfold pt
    rw [part_of [87, 83] (fixL 2 l) (fixL 4 g ++ (fixL 4 t ++ (fixL 8 b ++ ([0, 0, 0, 0, 0, 0, 0, 0] ++ (fixL 4 (crc 0#32 (headL l g t b)).toNat ++ r))))) s 2 4 (by rw [hs]; unfold encL headL bodyL; simp only [List.append_assoc]) rfl (fixL_length _ _), readL_fixL]
    exact Nat.mod_eq_of_lt (by omega)
  · unfold pt
    rw [part_of ([87, 83] ++ fixL 2 l) (fixL 4 g) (fixL 4 t ++ (fixL 8 b ++ ([0, 0, 0, 0, 0, 0, 0, 0] ++ (fixL 4 (crc 0#32 (headL l g t b)).toNat ++ r)))) s 4 8 (by rw [hs]; unfold encL headL bodyL; simp only [List.append_assoc]) (by simp [fixL_length]) (fixL_length _ _), readL_fixL]
    exact Nat.mod_eq_of_lt (by omega)
  · unfold pt
    rw [part_of ([87, 83] ++ fixL 2 l ++ fixL 4 g) (fixL 4 t) (fixL 8 b ++ ([0, 0, 0, 0, 0, 0, 0, 0] ++ (fixL 4 (crc 0#32 (headL l g t b)).toNat ++ r))) s 8 12 (by rw [hs]; unfold encL headL bodyL; simp only [List.append_assoc]) (by simp [fixL_length]) (fixL_length _ _), readL_fixL]
    exact Nat.mod_eq_of_lt (by omega)
  · unfold pt
    rw [part_of ([87, 83] ++ fixL 2 l ++ fixL 4 g ++ fixL 4 t) (fixL 8 b) ([0, 0, 0, 0, 0, 0, 0, 0] ++ (fixL 4 (crc 0#32 (headL l g t b)).toNat ++ r)) s 12 20 (by rw [hs]; unfold encL headL bodyL; simp only [List.append_assoc]) (by simp [fixL_length]) (fixL_length _ _), readL_fixL]
    exact Nat.mod_eq_of_lt (by omega)
  · rw [← hsz, hs, List.length_append]; omega
  · rw [hs, List.take_left' hlen]
theorem decode_enc {l g t b : Nat} {r : List UInt8} {s : ByteArray} (hs : s.data.toList = encL l g t b ++ r) (hl1 : 1 ≤ l) (hl : l ≤ 65535) (hg : g < 4294967296) (ht : t < 4294967296) (hb : b ≤ 1099511627776) (hm : s.size ≤ maxLen) (w : World) :
    Calls Try.prog 8 #[.string s] w fun e w' => e = .returned (.tuple #[.agg #[.int .i64 (l : Int), .int .u32 (g : Int), .int .u32 (t : Int), .int .i64 (b : Int)], .int .i64 0]) ∧ Below w.heap.size w w' := by
  obtain ⟨e1, e2, e3, e4, e5, e6⟩ := enc_parts hs hl hg ht hb
  have h := decode_ok s w e5 (by rw [e4]; exact hb) (by rw [e1]; exact hl1) (by rw [e1, e2, e3, e4]; exact e6) hm
  rwa [e1, e2, e3, e4] at h
set_option maxHeartbeats 1000000 in
theorem one_any (w : World) : Calls Try.prog 7 #[] w fun e w' => e = .returned (.bool true) ∧ Below w.heap.size w w' := by
  have hlen := encL_length 1 2 65538 7
  obtain ⟨S, hS⟩ : ∃ S, S = sB (encL 1 2 65538 7) := ⟨_, rfl⟩
  have hSz : (S.size : Int) = 32 := by rw [hS, sB_size, hlen]; rfl
  have hSl : S.data.toList = encL 1 2 65538 7 := by rw [hS, sB_list]
  have h4 : ((S.extract 0 4).toList == [87, 83, 0, 1]) = true := by
    rw [beq_iff_eq, Go.ByteArray.toList_eq, ext_list, hSl]
    decide +kernel
  obtain ⟨T, hT⟩ : ∃ T, S ++ ({ data := #[109, 111, 114, 101] } : ByteArray) = T := ⟨_, rfl⟩
  have hTl : T.data.toList = encL 1 2 65538 7 ++ [109, 111, 114, 101] := by rw [← hT, ByteArray.data_append, Array.toList_append, hSl]
  have hTz : T.size ≤ 40 := by
    have : T.data.toList.length = T.size := by rw [Array.length_toList]; rfl
    rw [hTl, List.length_append, hlen] at this
    simp at this; omega
  have HT := Lib.hid hTl; clear hTl
  have HS := Lib.hid hS; clear hS hSl hlen
  go_enter Try.func7, Try.ntmps7
  go_wp2_with fail
  refine (encode_any 1 2 65538 7 _ (by decide) (by decide) (by decide) (by decide) (by decide)).mono ?_
  rintro e w1 ⟨rfl, b1⟩
  rw [← HS.out]
  have hH := blk_below (heap_new w (.cells #[.int .i64 1, .int .u32 2, .int .u32 65538, .int .i64 7] 24)) b1
  have B1 := Lib.hid (below_two ((Below.refl _ w).alloc (Nat.le_refl _) _) b1); clear b1
  have HH := Lib.hid hH; clear hH
  go_wp2_with fail
  refine (decode_enc (s := T) (r := [109, 111, 114, 101]) HT.out (by decide) (by decide) (by decide) (by decide) (by decide) (by unfold maxLen; omega) _).mono ?_
  rintro e w2 ⟨rfl, b2⟩
  have hH := blk_below HH.out b2
  have B2 := Lib.hid (below_two B1.out b2); clear b2
  have c0 := blk_cell hH 0
  have c1 := blk_cell hH 1
  have c2 := blk_cell hH 2
  have c3 := blk_cell hH 3
  simp at c0 c1 c2 c3
  have hlt := blk_lt hH
  have na : ¬ w.heap.size = w2.heap.size := by omega
  have nb : ¬ w2.heap.size = w.heap.size := by omega
  clear hH
  go_wp2_with fail
  refine (stamp_any 1 2 _ (by decide) (by decide)).mono ?_
  rintro e w3 ⟨rfl, rfl⟩
  go_wp2
  go_ret
  exact ⟨rfl, by first | exact B2.out | exact B2.out.alloc B2.out.size _⟩
end Go.Proofs.Ytcgmgecdlanolaa.Own
