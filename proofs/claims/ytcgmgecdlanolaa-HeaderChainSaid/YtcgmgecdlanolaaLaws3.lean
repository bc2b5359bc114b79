/- The laws HeaderBefore and HeaderChain. -/
import Derived.Test.YtcgmgecdlanolaaLaws
import Derived.Test.YtcgmgecdlanolaaTypes
namespace Go.Proofs.Ytcgmgecdlanolaa
open Go.RowKit
set_option maxRecDepth 100000
set_option linter.unusedSimpArgs false
set_option linter.unusedVariables false
def bef (b1 s1 b2 s2 : Int) : Bool := if b1 = b2 then decide (s1 < s2) else decide (b1 < b2)
theorem before_any (l1 g1 s1 b1 l2 g2 s2 b2 : Int) (w : World) :
    Calls Try.prog 16 #[.agg #[.int .i64 l1, .int .u32 g1, .int .u32 s1, .int .i64 b1], .agg #[.int .i64 l2, .int .u32 g2, .int .u32 s2, .int .i64 b2]] w fun e w' => e = .returned (.bool (bef b1 s1 b2 s2)) ∧ w' = (w.alloc (.cells #[.int .i64 l1, .int .u32 g1, .int .u32 s1, .int .i64 b1] 24)).alloc (.cells #[.int .i64 l2, .int .u32 g2, .int .u32 s2, .int .i64 b2] 24) := by
  unfold bef
  by_cases h : b1 = b2
  · have hb : (b1 != b2) = false := by rw [bne_eq_false_iff_eq]; exact h
    rw [if_pos h]
    clear h
    go_enter Try.func16, Try.ntmps16
    go_wp2
    go_ret
    exact ⟨rfl, rfl⟩
  · have hb : (b1 != b2) = true := by rw [bne_iff_ne]; exact h
    rw [if_neg h]
    clear h
    go_enter Try.func16, Try.ntmps16
    go_wp2
    go_ret
    exact ⟨rfl, rfl⟩
theorem before_lit (l1 g1 s1 b1 l2 g2 s2 b2 : Int) (r : Bool) (hr : bef b1 s1 b2 s2 = r) (w : World) :
    Calls Try.prog 16 #[.agg #[.int .i64 l1, .int .u32 g1, .int .u32 s1, .int .i64 b1], .agg #[.int .i64 l2, .int .u32 g2, .int .u32 s2, .int .i64 b2]] w fun e w' => e = .returned (.bool r) ∧ w' = (w.alloc (.cells #[.int .i64 l1, .int .u32 g1, .int .u32 s1, .int .i64 b1] 24)).alloc (.cells #[.int .i64 l2, .int .u32 g2, .int .u32 s2, .int .i64 b2] 24) := by
  subst hr; exact before_any l1 g1 s1 b1 l2 g2 s2 b2 w
set_option maxHeartbeats 2000000 in
theorem chain_main (l1 g1 s1 b1 l2 g2 s2 b2 l3 g3 s3 b3 : Int) (P Q R : Bool) (hP : bef b1 s1 b2 s2 = P) (hQ : bef b2 s2 b3 s3 = Q) (hR : bef b1 s1 b3 s3 = R) (hS : bef b1 s1 b1 s1 = false) (hc : (P && Q && !R) = false) (w : World) :
    Calls Try.prog 6 #[.agg #[.int .i64 l1, .int .u32 g1, .int .u32 s1, .int .i64 b1], .agg #[.int .i64 l2, .int .u32 g2, .int .u32 s2, .int .i64 b2], .agg #[.int .i64 l3, .int .u32 g3, .int .u32 s3, .int .i64 b3]] w fun e w' => e = .returned (.bool true) ∧ Below w.heap.size w w' := by
  cases P
  all_goals cases Q
  all_goals cases R
  all_goals (try (exfalso; revert hc; decide))
  all_goals clear hc
  all_goals
    have HP := Lib.hid hP; clear hP
    have HQ := Lib.hid hQ; clear hQ
    have HR := Lib.hid hR; clear hR
    have HS := Lib.hid hS; clear hS
    go_enter Try.func6, Try.ntmps6
    go_wp2_with (first
      | (go_at_call 7; refine (one_any _).mono ?_; rintro e w5 ⟨rfl, b5⟩)
      | (go_at_call 16; (with_reducible refine (before_lit _ _ _ _ _ _ _ _ _ HP.out _).mono ?_); rintro e w5 ⟨rfl, rfl⟩)
      | (go_at_call 16; (with_reducible refine (before_lit _ _ _ _ _ _ _ _ _ HQ.out _).mono ?_); rintro e w5 ⟨rfl, rfl⟩)
      | (go_at_call 16; (with_reducible refine (before_lit _ _ _ _ _ _ _ _ _ HR.out _).mono ?_); rintro e w5 ⟨rfl, rfl⟩)
      | (go_at_call 16; (with_reducible refine (before_lit _ _ _ _ _ _ _ _ _ HS.out _).mono ?_); rintro e w5 ⟨rfl, rfl⟩))
    go_ret
    refine ⟨rfl, below_two ?_ b5⟩
    go_grown
theorem bef_self (b s : Int) : bef b s b s = false := by simp [bef]
theorem bef_trans {b1 s1 b2 s2 b3 s3 : Int} (h1 : bef b1 s1 b2 s2 = true) (h2 : bef b2 s2 b3 s3 = true) : bef b1 s1 b3 s3 = true := by
  unfold bef at *
  by_cases e1 : b1 = b2
  · by_cases e2 : b2 = b3
    · subst e1; subst e2; simp at *; omega
    · subst e1; simp [e2] at *; omega
  · by_cases e2 : b2 = b3
    · subst e2; simp [e1] at *; omega
    · simp [e1, e2] at h1 h2
      have e3 : ¬ b1 = b3 := by omega
      simp [e3]; omega
set_option maxHeartbeats 2000000 in
theorem before_main (l1 g1 s1 b1 l2 g2 s2 b2 : Int) (w : World) :
    Calls Try.prog 5 #[.agg #[.int .i64 l1, .int .u32 g1, .int .u32 s1, .int .i64 b1], .agg #[.int .i64 l2, .int .u32 g2, .int .u32 s2, .int .i64 b2]] w fun e w' => e = .returned (.bool true) ∧ Below w.heap.size w w' := by
  by_cases hlt : b1 < b2
  · have HP := Lib.hid (show bef b1 s1 b2 s2 = true by unfold bef; rw [if_neg (by omega)]; simpa using hlt)
    have HQ := Lib.hid (show bef b2 s2 b1 s1 = false by unfold bef; rw [if_neg (by omega)]; simp; omega)
    have h2 : (b1 != b2) = true := by rw [bne_iff_ne]; omega
    go_enter Try.func5, Try.ntmps5
    go_wp2_with (first
      | (go_at_call 7; refine (one_any _).mono ?_; rintro e w5 ⟨rfl, b5⟩)
      | (go_at_call 16; (with_reducible refine (before_lit _ _ _ _ _ _ _ _ _ HP.out _).mono ?_); rintro e w5 ⟨rfl, rfl⟩)
      | (go_at_call 16; (with_reducible refine (before_lit _ _ _ _ _ _ _ _ _ HQ.out _).mono ?_); rintro e w5 ⟨rfl, rfl⟩))
    go_ret
    refine ⟨rfl, below_two ?_ b5⟩
    go_grown
  · by_cases hgt : b2 < b1
    · have HP := Lib.hid (show bef b1 s1 b2 s2 = false by unfold bef; rw [if_neg (by omega)]; simp; omega)
      have HQ := Lib.hid (show bef b2 s2 b1 s1 = true by unfold bef; rw [if_neg (by omega)]; simpa using hgt)
      have h1 : (b1 == b2) = false := by rw [beq_eq_false_iff_ne]; omega
      have h3 : decide (b1 < b2) = false := by simp; omega
      have h2 : (b1 != b2) = true := by rw [bne_iff_ne]; omega
      go_enter Try.func5, Try.ntmps5
      go_wp2_with (first
        | (go_at_call 7; refine (one_any _).mono ?_; rintro e w5 ⟨rfl, b5⟩)
        | (go_at_call 16; (with_reducible refine (before_lit _ _ _ _ _ _ _ _ _ HP.out _).mono ?_); rintro e w5 ⟨rfl, rfl⟩)
        | (go_at_call 16; (with_reducible refine (before_lit _ _ _ _ _ _ _ _ _ HQ.out _).mono ?_); rintro e w5 ⟨rfl, rfl⟩))
      go_ret
      refine ⟨rfl, below_two ?_ b5⟩
      go_grown
    · obtain rfl : b1 = b2 := by omega
      clear hlt hgt
      by_cases hs1 : s1 < s2
      · have HP := Lib.hid (show bef b1 s1 b1 s2 = true by unfold bef; rw [if_pos rfl]; simpa using hs1)
        have HQ := Lib.hid (show bef b1 s2 b1 s1 = false by unfold bef; rw [if_pos rfl]; simp; omega)
        have h2 : (s1 != s2) = true := by rw [bne_iff_ne]; omega
        go_enter Try.func5, Try.ntmps5
        go_wp2_with (first
          | (go_at_call 7; refine (one_any _).mono ?_; rintro e w5 ⟨rfl, b5⟩)
          | (go_at_call 16; (with_reducible refine (before_lit _ _ _ _ _ _ _ _ _ HP.out _).mono ?_); rintro e w5 ⟨rfl, rfl⟩)
          | (go_at_call 16; (with_reducible refine (before_lit _ _ _ _ _ _ _ _ _ HQ.out _).mono ?_); rintro e w5 ⟨rfl, rfl⟩))
        go_ret
        refine ⟨rfl, below_two ?_ b5⟩
        go_grown
      · by_cases hs2 : s2 < s1
        · have HP := Lib.hid (show bef b1 s1 b1 s2 = false by unfold bef; rw [if_pos rfl]; simp; omega)
          have HQ := Lib.hid (show bef b1 s2 b1 s1 = true by unfold bef; rw [if_pos rfl]; simpa using hs2)
          have h3 : decide (s1 < s2) = false := by simp; omega
          have h2 : (s1 != s2) = true := by rw [bne_iff_ne]; omega
          go_enter Try.func5, Try.ntmps5
          go_wp2_with (first
            | (go_at_call 7; refine (one_any _).mono ?_; rintro e w5 ⟨rfl, b5⟩)
            | (go_at_call 16; (with_reducible refine (before_lit _ _ _ _ _ _ _ _ _ HP.out _).mono ?_); rintro e w5 ⟨rfl, rfl⟩)
            | (go_at_call 16; (with_reducible refine (before_lit _ _ _ _ _ _ _ _ _ HQ.out _).mono ?_); rintro e w5 ⟨rfl, rfl⟩))
          go_ret
          refine ⟨rfl, below_two ?_ b5⟩
          go_grown
        · obtain rfl : s1 = s2 := by omega
          clear hs1 hs2
          have HP := Lib.hid (bef_self b1 s1)
          go_enter Try.func5, Try.ntmps5
          go_wp2_with (first
            | (go_at_call 7; refine (one_any _).mono ?_; rintro e w5 ⟨rfl, b5⟩)
            | (go_at_call 16; (with_reducible refine (before_lit _ _ _ _ _ _ _ _ _ HP.out _).mono ?_); rintro e w5 ⟨rfl, rfl⟩))
          go_ret
          refine ⟨rfl, below_two ?_ b5⟩
          go_grown
theorem headerBefore_walk (r q : Hdr) (w : World) (hr : r.ok w) (hq : q.ok w) :
    Calls Try.prog 5 #[.agg r.cells.toArray, .agg q.cells.toArray] w fun e w' => e = .returned (.bool true) ∧ Below w.heap.size w w' :=
  before_main r.log r.gen r.stamp r.base q.log q.gen q.stamp q.base w
theorem headerChain_walk (r q p : Hdr) (w : World) (hr : r.ok w) (hq : q.ok w) (hp : p.ok w) :
    Calls Try.prog 6 #[.agg r.cells.toArray, .agg q.cells.toArray, .agg p.cells.toArray] w fun e w' => e = .returned (.bool true) ∧ Below w.heap.size w w' :=
  chain_main r.log r.gen r.stamp r.base q.log q.gen q.stamp q.base p.log p.gen p.stamp p.base _ _ _ rfl rfl rfl (bef_self _ _) (by
    cases h1 : bef r.base r.stamp q.base q.stamp with
    | false => rfl
    | true =>
      cases h2 : bef q.base q.stamp p.base p.stamp with
      | false => rfl
      | true => rw [bef_trans h1 h2]; rfl) w
end Go.Proofs.Ytcgmgecdlanolaa
