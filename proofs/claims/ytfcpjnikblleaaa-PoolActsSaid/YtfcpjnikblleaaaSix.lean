/- The small case of the pool's laws, and the laws PoolEnds and PoolNil. -/
import Derived.Test.YtfcpjnikblleaaaPool
namespace Go.Proofs.Ytfcpjnikblleaaa
open Go.RowKit
set_option maxRecDepth 100000
set_option linter.unusedSimpArgs false
set_option linter.unusedVariables false
theorem take_n {W : World} {g o n : Nat} {ep ct : Nat} {L L2 : List Int} {w : World} (h : St W g o n ep ct L w) (l : Int) (hl : logOk l = true) (he : ep ≤ 65535) (hct : ct ≤ 65535) (f : Nat) (r : List Nat) (hf : idxN isFree L n = f :: r) (s c2 : Nat) (hs : 65536 * ep + ct = s) (hc2 : ct + 1 = c2) (hL : L.set f l = L2) :
    Calls Try.prog 9 #[.pointer (some ⟨g, 0, none⟩), .int .i64 l] w fun e w' => e = .returned (.tuple #[.int .i64 (f : Int), .int .u32 (s : Int), .int .i64 0]) ∧ St W g o n ep c2 L2 w' := by
  subst hs; subst hc2; subst hL
  exact take_ok h l hl he hct f r hf
set_option maxHeartbeats 1000000 in
theorem six_any (w : World) : Calls Try.prog 7 #[] w fun e w' => e = .returned (.bool true) ∧ Below w.heap.size w w' := by
  go_enter Try.func7, Try.ntmps7
  go_wp2_with fail
  refine (new_ok 6 2 _ (by decide) (by decide) (by decide)).mono ?_
  rintro e w1 ⟨rfl, h⟩
  have H1 := Lib.hid h; clear h
  go_wp2_with fail
  refine (take_n (ct := 0) H1.out 4 (by decide) (by decide) (by decide) 0 [1, 2, 3, 4, 5] (by decide) 131072 1 (by decide) (by decide) (L2 := [4, 0, 0, 0, 0, 0]) (by decide)).mono ?_
  rintro e w2 ⟨rfl, h⟩
  have H2 := Lib.hid h; clear h
  go_wp2_with fail
  refine (take_n H2.out 5 (by decide) (by decide) (by decide) 1 [2, 3, 4, 5] (by decide) 131073 2 (by decide) (by decide) (L2 := [4, 5, 0, 0, 0, 0]) (by decide)).mono ?_
  rintro e w3 ⟨rfl, h⟩
  have H3 := Lib.hid h; clear h
  go_wp2_with fail
  refine (give_ok H3.out 0 (by decide) (by decide)).mono ?_
  rintro e w4 ⟨rfl, h⟩
  have H4 := Lib.hid (show St w (w.heap.size + 1) w.heap.size 6 ((2 : Nat) : Int) ((2 : Nat) : Int) [0, 5, 0, 0, 0, 0] w4 from h); clear h
  go_wp2_with fail
  refine (take_n H4.out 4 (by decide) (by decide) (by decide) 0 [2, 3, 4, 5] (by decide) 131074 3 (by decide) (by decide) (L2 := [4, 5, 0, 0, 0, 0]) (by decide)).mono ?_
  rintro e w5 ⟨rfl, h⟩
  have H5 := Lib.hid h; clear h
  go_wp2_with fail
  refine (Free_any H5.out).mono ?_
  rintro e w6 ⟨rfl, h⟩
  rw [show (idxTo isFree [4, 5, 0, 0, 0, 0] 6).length = 4 by decide]
  have H6 := Lib.hid h; clear h
  go_wp2_with fail
  refine (owner_any H6.out 1 (by decide)).mono ?_
  rintro e w7 ⟨rfl, rfl⟩
  rw [show List.getD [(4 : Int), 5, 0, 0, 0, 0] 1 0 = 5 from rfl]
  go_wp2_with fail
  refine (size_any H6.out).mono ?_
  rintro e w7 ⟨rfl, rfl⟩
  go_wp2
  go_ret
  exact ⟨rfl, H6.out.bel⟩
set_option maxHeartbeats 1000000 in
theorem ends_main (ep : Nat) (w : World) (he : ep ≤ 65535) :
    Calls Try.prog 3 #[.int .i64 (ep : Int)] w fun e w' => e = .returned (.bool true) ∧ Below w.heap.size w w' := by
  have he' : (ep : Int) ≤ 65535 := by omega
  have He := Lib.hid he; clear he
  go_enter Try.func3, Try.ntmps3
  go_wp2_with fail
  refine (new_ok 6 ep _ (by decide) (by decide) He.out).mono ?_
  rintro e w1 ⟨rfl, h⟩
  have H1 := Lib.hid (show St w (w.heap.size + 1) w.heap.size 6 (ep : Int) ((0 : Nat) : Int) [0, 0, 0, 0, 0, 0] w1 from h); clear h
  go_wp2_with fail
  go_loopw [23] (fun i wr => ∃ k : Nat, k ≤ 65536 ∧ i = .int .i64 k ∧ St w (w.heap.size + 1) w.heap.size 6 (ep : Int) (k : Int) [0, 0, 0, 0, 0, 0] wr) (fun i _ => 65536 - (intOf i).toNat)
  case atStart => exact ⟨0, by omega, rfl, H1.out⟩
  case round =>
    obtain ⟨k, hk, rfl, h⟩ := hrel
    have H := Lib.hid h; clear h
    by_cases hlt : k < 65536
    · have hlt' : (k : Int) < 65536 := by omega
      have Hlt := Lib.hid hlt
      clear hlt hk
      go_wp2_with fail
      refine (take_n H.out 9 (by decide) He.out (by have := Hlt.out; omega) 0 [1, 2, 3, 4, 5] (by decide) (65536 * ep + k) (k + 1) rfl rfl (L2 := [9, 0, 0, 0, 0, 0]) (by decide)).mono ?_
      rintro e w2 ⟨rfl, h⟩
      have H2 := Lib.hid h; clear h
      go_wp2_with fail
      refine (give_ok H2.out 0 (by decide) (by decide)).mono ?_
      rintro e w3 ⟨rfl, h⟩
      have H3 := Lib.hid (show St w (w.heap.size + 1) w.heap.size 6 (ep : Int) ((k + 1 : Nat) : Int) [0, 0, 0, 0, 0, 0] w3 from h); clear h
      go_wp2
      go_roundw
      case rel => exact ⟨k + 1, by have := Hlt.out; omega, by go_num, H3.out⟩
      case measure => have := Hlt.out; simp [intOf]; omega
    · obtain rfl : k = 65536 := by omega
      go_wp2_with fail
      refine (take_end H.out 9 (by decide) He.out (by decide)).mono ?_
      rintro e w2 ⟨rfl, h⟩
      have H2 := Lib.hid h; clear h
      go_wp2_with fail
      refine (Free_any H2.out).mono ?_
      rintro e w6 ⟨rfl, h⟩
      rw [show (idxTo isFree [0, 0, 0, 0, 0, 0] 6).length = 6 by decide]
      have H6 := Lib.hid h; clear h
      go_wp2_with (go_at_call 7; refine (six_any _).mono ?_; rintro e w7 ⟨rfl, b7⟩)
      go_ret
      exact ⟨rfl, below_two H6.out.bel b7⟩
theorem poolEnds_walk (ep : Int) (w : World) (hw : (Lit.int .i64 ep).wf = true) :
    Calls Try.prog 3 #[.int .i64 ep] w fun e w' => e = .returned (.bool true) ∧ Below w.heap.size w w' := by
  clear hw
  by_cases h1 : ep < 0
  · go_enter Try.func3, Try.ntmps3
    go_wp2_with (go_at_call 7; refine (six_any _).mono ?_; rintro e w7 ⟨rfl, b7⟩)
    go_ret
    exact ⟨rfl, b7⟩
  · by_cases h2 : 65535 < ep
    · go_enter Try.func3, Try.ntmps3
      go_wp2_with (go_at_call 7; refine (six_any _).mono ?_; rintro e w7 ⟨rfl, b7⟩)
      go_ret
      exact ⟨rfl, b7⟩
    · obtain ⟨n, rfl⟩ := Int.eq_ofNat_of_zero_le (show 0 ≤ ep by omega)
      exact ends_main n w (by omega)
theorem take_nil (l : Int) (w : World) : Calls Try.prog 9 #[.pointer none, .int .i64 l] w fun e w' => e = .returned (.tuple #[.int .i64 0, .int .u32 0, .int .i64 7]) ∧ w' = w := by
  go_enter Try.func9, Try.ntmps9
  go_wp2
  go_ret3
  exact ⟨rfl, rfl⟩
theorem claim_nil (s l : Int) (w : World) : Calls Try.prog 17 #[.pointer none, .int .i64 s, .int .i64 l] w fun e w' => e = .returned (.int .i64 7) ∧ w' = w := by
  go_enter Try.func17, Try.ntmps17
  go_wp2
  go_ret
  exact ⟨rfl, rfl⟩
theorem give_nil (s : Int) (w : World) : Calls Try.prog 10 #[.pointer none, .int .i64 s] w fun e w' => e = .returned (.int .i64 7) ∧ w' = w := by
  go_enter Try.func10, Try.ntmps10
  go_wp2
  go_ret
  exact ⟨rfl, rfl⟩
theorem size_nil (w : World) : Calls Try.prog 22 #[.pointer none] w fun e w' => e = .returned (.int .i64 0) ∧ w' = w := by
  go_enter Try.func22, Try.ntmps22
  go_wp2
  go_ret
  exact ⟨rfl, rfl⟩
theorem is_nil (s : Int) (w : World) : Calls Try.prog 27 #[.pointer none, .int .i64 s] w fun e w' => e = .returned (.bool false) ∧ w' = w := by
  by_cases h : 0 ≤ s
  · have h3 : decide (s < 0) = false := by simp; omega
    go_enter Try.func27, Try.ntmps27
    go_wp2_with (go_at_call 22; refine (size_nil _).mono ?_; rintro e w7 ⟨rfl, rfl⟩)
    go_ret
    exact ⟨rfl, rfl⟩
  · go_enter Try.func27, Try.ntmps27
    go_wp2
    go_ret
    exact ⟨rfl, rfl⟩
theorem owner_nil (s : Int) (w : World) : Calls Try.prog 23 #[.pointer none, .int .i64 s] w fun e w' => e = .returned (.int .i64 0) ∧ w' = w := by
  go_enter Try.func23, Try.ntmps23
  go_wp2_with (go_at_call 27; refine (is_nil _ _).mono ?_; rintro e w7 ⟨rfl, rfl⟩)
  go_ret
  exact ⟨rfl, rfl⟩
theorem those_nil (F : Value) (w : World) : Calls Try.prog 28 #[.pointer none, F] w fun e w' => e = .returned (.slice none 0 0) ∧ w' = w := by
  go_enter Try.func28, Try.ntmps28
  go_wp2
  go_ret
  exact ⟨rfl, rfl⟩
theorem free_nil (w : World) : Calls Try.prog 25 #[.pointer none] w fun e w' => e = .returned (.slice none 0 0) ∧ w' = w := by
  go_enter Try.func25, Try.ntmps25
  go_wp2_with (go_at_call 28; refine (those_nil _ _).mono ?_; rintro e w7 ⟨rfl, rfl⟩)
  go_ret
  exact ⟨rfl, rfl⟩
theorem Free_nil (w : World) : Calls Try.prog 11 #[.pointer none] w fun e w' => e = .returned (.int .i64 0) ∧ w' = w := by
  go_enter Try.func11, Try.ntmps11
  go_wp2_with (go_at_call 25; refine (free_nil _).mono ?_; rintro e w7 ⟨rfl, rfl⟩)
  go_ret
  exact ⟨rfl, rfl⟩
theorem Of_nil (l : Int) (w : World) : Calls Try.prog 12 #[.pointer none, .int .i64 l] w fun e w' => e = .returned (.slice none 0 0) ∧ Below w.heap.size w w' := by
  go_enter Try.func12, Try.ntmps12
  go_wp2_with (go_at_call 28; refine (those_nil _ _).mono ?_; rintro e w7 ⟨rfl, rfl⟩)
  go_ret
  exact ⟨rfl, by go_grown⟩
set_option maxHeartbeats 1000000 in
theorem poolNil_walk (s l : Int) (w : World) (hs : (Lit.int .i64 s).wf = true) (hl : (Lit.int .i64 l).wf = true) :
    Calls Try.prog 6 #[.int .i64 s, .int .i64 l] w fun e w' => e = .returned (.bool true) ∧ Below w.heap.size w w' := by
  clear hs hl
  go_enter Try.func6, Try.ntmps6
  go_wp2_with (first
    | (go_at_call 9; refine (take_nil _ _).mono ?_; rintro e w7 ⟨rfl, rfl⟩)
    | (go_at_call 17; refine (claim_nil _ _ _).mono ?_; rintro e w7 ⟨rfl, rfl⟩)
    | (go_at_call 10; refine (give_nil _ _).mono ?_; rintro e w7 ⟨rfl, rfl⟩)
    | (go_at_call 22; refine (size_nil _).mono ?_; rintro e w7 ⟨rfl, rfl⟩)
    | (go_at_call 23; refine (owner_nil _ _).mono ?_; rintro e w7 ⟨rfl, rfl⟩)
    | (go_at_call 11; refine (Free_nil _).mono ?_; rintro e w7 ⟨rfl, rfl⟩)
    | (go_at_call 12; refine (Of_nil _ _).mono ?_; rintro e w8 ⟨rfl, b8⟩)
    | (go_at_call 7; refine (six_any _).mono ?_; rintro e w9 ⟨rfl, b9⟩))
  go_ret
  exact ⟨rfl, below_two b8 b9⟩
end Go.Proofs.Ytfcpjnikblleaaa
