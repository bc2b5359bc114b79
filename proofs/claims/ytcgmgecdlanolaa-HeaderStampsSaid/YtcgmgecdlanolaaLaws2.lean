/- The law HeaderStamps. -/
import Derived.Test.YtcgmgecdlanolaaLaws
namespace Go.Proofs.Ytcgmgecdlanolaa
open Go.RowKit
set_option maxRecDepth 100000
set_option linter.unusedSimpArgs false
set_option linter.unusedVariables false
theorem parts_int (s x y : Int) (w : World) (hs0 : 0 ≤ s) (hs : s < 4294967296) (hx : s / 65536 = x) (hy : s % 65536 = y) :
    Calls Try.prog 14 #[.int .u32 s] w fun r w' => r = .returned (.tuple #[.int .i64 x, .int .i64 y]) ∧ w' = w := by
  obtain ⟨n, rfl⟩ := Int.eq_ofNat_of_zero_le hs0
  have h := parts_any n w (by omega)
  have e1 : ((n / 65536 : Nat) : Int) = x := by rw [← hx]; simp
  have e2 : ((n % 65536 : Nat) : Int) = y := by rw [← hy]; simp
  rwa [e1, e2] at h
theorem headerStamps_walk (ep ct st : Int) (w : World) (he : (Lit.int .i64 ep).wf = true) (hc : (Lit.int .i64 ct).wf = true) (hs : (Lit.int .u32 st).wf = true) :
    Calls Try.prog 4 #[.int .i64 ep, .int .i64 ct, .int .u32 st] w fun e w' => e = .returned (.bool true) ∧ Below w.heap.size w w' := by
  obtain ⟨s0, s1⟩ := wf_u32 hs
  clear hs he hc
  have hs : st < 4294967296 := by omega
  obtain ⟨x, hx⟩ : ∃ x, st / 65536 = x := ⟨_, rfl⟩
  obtain ⟨y, hy⟩ : ∃ y, st % 65536 = y := ⟨_, rfl⟩
  have S0 := Lib.hid s0
  have Hs := Lib.hid hs
  have Hx := Lib.hid hx
  have Hy := Lib.hid hy
  have x0 : 0 ≤ x := by omega
  have x1 : x ≤ 65535 := by omega
  have y0 : 0 ≤ y := by omega
  have y1 : y ≤ 65535 := by omega
  clear hs s1
  by_cases h : ep < 0 ∨ 65535 < ep ∨ ct < 0 ∨ 65535 < ct
  · have H := Lib.hid h
    by_cases h1 : ep < 0
    · clear h
      go_enter Try.func4, Try.ntmps4
      go_wp2_with (first
        | (go_at_call 14; refine (parts_int st x y _ S0.out Hs.out Hx.out Hy.out).mono ?_; rintro e w1 ⟨rfl, rfl⟩)
        | (go_at_call 15; refine (stamp_bad _ _ _ H.out).mono ?_; rintro e w1 ⟨rfl, rfl⟩)
        | (go_at_call 7; refine (one_any _).mono ?_; rintro e w1 ⟨rfl, hb⟩))
      go_ret
      exact ⟨rfl, hb⟩
    · by_cases h2 : 65535 < ep
      · clear h
        go_enter Try.func4, Try.ntmps4
        go_wp2_with (first
          | (go_at_call 14; refine (parts_int st x y _ S0.out Hs.out Hx.out Hy.out).mono ?_; rintro e w1 ⟨rfl, rfl⟩)
          | (go_at_call 15; refine (stamp_bad _ _ _ H.out).mono ?_; rintro e w1 ⟨rfl, rfl⟩)
          | (go_at_call 7; refine (one_any _).mono ?_; rintro e w1 ⟨rfl, hb⟩))
        go_ret
        exact ⟨rfl, hb⟩
      · by_cases h3 : ct < 0
        · clear h
          go_enter Try.func4, Try.ntmps4
          go_wp2_with (first
            | (go_at_call 14; refine (parts_int st x y _ S0.out Hs.out Hx.out Hy.out).mono ?_; rintro e w1 ⟨rfl, rfl⟩)
            | (go_at_call 15; refine (stamp_bad _ _ _ H.out).mono ?_; rintro e w1 ⟨rfl, rfl⟩)
            | (go_at_call 7; refine (one_any _).mono ?_; rintro e w1 ⟨rfl, hb⟩))
          go_ret
          exact ⟨rfl, hb⟩
        · have h4 : 65535 < ct := by omega
          clear h
          go_enter Try.func4, Try.ntmps4
          go_wp2_with (first
            | (go_at_call 14; refine (parts_int st x y _ S0.out Hs.out Hx.out Hy.out).mono ?_; rintro e w1 ⟨rfl, rfl⟩)
            | (go_at_call 15; refine (stamp_bad _ _ _ H.out).mono ?_; rintro e w1 ⟨rfl, rfl⟩)
            | (go_at_call 7; refine (one_any _).mono ?_; rintro e w1 ⟨rfl, hb⟩))
          go_ret
          exact ⟨rfl, hb⟩
  · obtain ⟨p, rfl⟩ := Int.eq_ofNat_of_zero_le (show 0 ≤ ep by omega)
    obtain ⟨c, rfl⟩ := Int.eq_ofNat_of_zero_le (show 0 ≤ ct by omega)
    have hp : p ≤ 65535 := by omega
    have hc : c ≤ 65535 := by omega
    clear h
    have hp' : (p : Int) ≤ 65535 := by omega
    have hc' : (c : Int) ≤ 65535 := by omega
    obtain ⟨n, hn⟩ : ∃ n, 65536 * p + c = n := ⟨_, rfl⟩
    have n1 : n < 4294967296 := by omega
    have n2 : n / 65536 = p := by omega
    have n3 : n % 65536 = c := by omega
    have n4 : IntKind.u32.wrap (65536 * (p : Int) + (c : Int)) = (n : Int) := by rw [IntKind.wrap_u32]; omega
    have n5 : (65536 * (p : Int) + (c : Int)) % 4294967296 = (n : Int) := by omega
    have Hp := Lib.hid hp; have Hc := Lib.hid hc; have Hn := Lib.hid hn; have N1 := Lib.hid n1; have N2 := Lib.hid n2; have N3 := Lib.hid n3
    clear hp hc hn n1 n2 n3
    go_enter Try.func4, Try.ntmps4
    go_wp2_with fail
    refine (parts_int st x y _ S0.out Hs.out Hx.out Hy.out).mono ?_; rintro e w1 ⟨rfl, rfl⟩
    go_wp2_with fail
    refine (stamp_any p c _ Hp.out Hc.out).mono ?_; rintro e w1 ⟨rfl, rfl⟩
    rw [Hn.out]
    go_wp2_with fail
    refine (parts_int (n : Int) p c _ (by omega) (by have := N1.out; omega) (by have := N2.out; omega) (by have := N3.out; omega)).mono ?_; rintro e w1 ⟨rfl, rfl⟩
    go_wp2_with (go_at_call 7; refine (one_any _).mono ?_; rintro e w1 ⟨rfl, hb⟩)
    go_ret
    exact ⟨rfl, hb⟩
end Go.Proofs.Ytcgmgecdlanolaa
