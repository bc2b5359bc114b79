/- The walks of the bucket. -/
import Derived.Test.YtojogloofaibjaaKit
namespace Go.Proofs.Ytojogloofaibjaa
open Go.RowKit
set_option maxRecDepth 100000
set_option linter.unusedSimpArgs false
set_option linter.unusedVariables false
/-- A bucket's block. -/
def buck (m r l : Int) : Obj := .cells #[.int .i64 m, .int .i64 r, .int .i64 l] 35 (0, 0)
def okNum (n : Int) : Bool := decide (0 ≤ n ∧ n ≤ 1048576)
theorem left_any (b : Nat) (m r l : Int) (w : World) (h : w.heap[b]? = some (buck m r l)) :
    Calls Try.prog 11 #[.pointer (some ⟨b, 0, none⟩)] w fun e w' => e = .returned (.int .i64 l) ∧ w' = w := by
  have hc := blk_cell h 2
  have Hb := Lib.hid h; clear h
  simp [buck] at hc
  go_enter Try.func11, Try.ntmps11
  go_wp2
  go_ret
  exact ⟨rfl, rfl⟩
theorem most_any (b : Nat) (m r l : Int) (w : World) (h : w.heap[b]? = some (buck m r l)) :
    Calls Try.prog 12 #[.pointer (some ⟨b, 0, none⟩)] w fun e w' => e = .returned (.int .i64 m) ∧ w' = w := by
  have hc := blk_cell h 0
  have Hb := Lib.hid h; clear h
  simp [buck] at hc
  go_enter Try.func12, Try.ntmps12
  go_wp2
  go_ret
  exact ⟨rfl, rfl⟩
theorem left_nil (w : World) : Calls Try.prog 11 #[.pointer none] w fun e w' => e = .returned (.int .i64 0) ∧ w' = w := by
  go_enter Try.func11, Try.ntmps11
  go_wp2
  go_ret
  exact ⟨rfl, rfl⟩
theorem most_nil (w : World) : Calls Try.prog 12 #[.pointer none] w fun e w' => e = .returned (.int .i64 0) ∧ w' = w := by
  go_enter Try.func12, Try.ntmps12
  go_wp2
  go_ret
  exact ⟨rfl, rfl⟩
theorem take_nil (n : Int) (w : World) : Calls Try.prog 10 #[.pointer none, .int .i64 n] w fun e w' => e = .returned (.int .i64 7) ∧ w' = w := by
  go_enter Try.func10, Try.ntmps10
  go_wp2
  go_ret
  exact ⟨rfl, rfl⟩
theorem fill_nil (w : World) : Calls Try.prog 9 #[.pointer none] w fun e w' => e = .returned (.tuple #[]) ∧ w' = w := by
  go_enter Try.func9, Try.ntmps9
  go_wp2
  go_end0
  exact ⟨rfl, rfl⟩
/-- What a take tells. -/
def tookE (l n : Int) : Int := if n < 0 then 1 else if l < n then 30 else 0
def tookL (l n : Int) : Int := if n < 0 then l else if l < n then l else l - n
theorem take_any (b : Nat) (m r l n : Int) (w : World) (h : w.heap[b]? = some (buck m r l)) (h0 : 0 ≤ l) (h1 : l ≤ 1048576) :
    Calls Try.prog 10 #[.pointer (some ⟨b, 0, none⟩), .int .i64 n] w fun e w' => e = .returned (.int .i64 (tookE l n)) ∧ w'.heap[b]? = some (buck m r (tookL l n)) ∧ w.grownBy w' (some b) := by
  have hc := blk_cell h 2
  have hf := blk_free h 2
  have Hb := Lib.hid h; clear h
  simp [buck] at hc
  unfold tookE tookL
  by_cases hn : n < 0
  · rw [if_pos hn, if_pos hn]
    go_enter Try.func10, Try.ntmps10
    go_wp2
    go_ret
    exact ⟨rfl, Hb.out, World.grownBy.refl _ _⟩
  · rw [if_neg hn, if_neg hn]
    by_cases hl : l < n
    · rw [if_pos hl, if_pos hl]
      go_enter Try.func10, Try.ntmps10
      go_wp2
      go_ret
      exact ⟨rfl, Hb.out, World.grownBy.refl _ _⟩
    · rw [if_neg hl, if_neg hl]
      go_enter Try.func10, Try.ntmps10
      go_wp2
      go_ret
      exact ⟨rfl, heap_set Hb.out _, grown_set (World.grownBy.refl _ _) _ _⟩
theorem fill_any (b : Nat) (m r l : Int) (w : World) (h : w.heap[b]? = some (buck m r l)) (h0 : 0 ≤ l) (h1 : l ≤ 1048576) (r0 : 0 ≤ r) (r1 : r ≤ 1048576) (m0 : 0 ≤ m) (m1 : m ≤ 1048576) :
    Calls Try.prog 9 #[.pointer (some ⟨b, 0, none⟩)] w fun e w' => e = .returned (.tuple #[]) ∧ w'.heap[b]? = some (buck m r (min (l + r) m)) ∧ w.grownBy w' (some b) := by
  have hc0 := blk_cell h 0
  have hc1 := blk_cell h 1
  have hc2 := blk_cell h 2
  have hf := blk_free h 2
  have Hb := Lib.hid h; clear h
  simp [buck] at hc0 hc1 hc2
  have hs : IntKind.i64.wrap (l + r) = l + r := IntWalk.i64_in _ (by omega)
  by_cases hlm : l + r ≤ m
  · rw [Int.min_eq_left hlm]
    go_enter Try.func9, Try.ntmps9
    go_wp2_with fail
    go_still_tail 17, (by kernel_rfl)
    change wpList _ _ _ _ _ w.drew
    clear hs
    go_wp2
    go_returns
    exact ⟨rfl, heap_set Hb.out _, grown_drew (grown_set (World.grownBy.refl _ _) _ _)⟩
  · rw [Int.min_eq_right (by omega)]
    go_enter Try.func9, Try.ntmps9
    go_wp2_with fail
    go_still_tail 17, (by kernel_rfl)
    change wpList _ _ _ _ _ w.drew
    clear hs
    go_wp2
    go_returns
    exact ⟨rfl, heap_set Hb.out _, grown_drew (grown_set (World.grownBy.refl _ _) _ _)⟩
theorem may_two (g : Nat) (x y : Int) (w : World) (h : w.heap[g]? = some (.cells #[.int .i64 x, .int .i64 y] 3 (0, 0))) :
    Calls Try.prog 14 #[.slice (some ⟨g, 0, none⟩) 2 2] w fun e w' => e = .returned (.bool (okNum x && okNum y)) ∧ w' = w := by
  have hc0 := blk_cell h 0
  have hc1 := blk_cell h 1
  have Hb := Lib.hid h; clear h
  simp at hc0 hc1
  by_cases hx : 0 ≤ x ∧ x ≤ 1048576
  · have ex : okNum x = true := by simp [okNum, hx]
    obtain ⟨x0, x1⟩ := hx
    by_cases hy : 0 ≤ y ∧ y ≤ 1048576
    · have ey : okNum y = true := by simp [okNum, hy]
      rw [ex, ey]
      obtain ⟨y0, y1⟩ := hy
      clear ex ey
      go_enter Try.func14, Try.ntmps14
      go_wp2
      go_rounds 3
      all_goals go_ret
      all_goals exact ⟨rfl, rfl⟩
    · have ey : okNum y = false := by simp [okNum]; omega
      rw [ex, ey]
      clear ex ey
      by_cases hy0 : y < 0
      all_goals
        go_enter Try.func14, Try.ntmps14
        go_wp2
        go_rounds 3
        all_goals go_ret
        all_goals exact ⟨rfl, rfl⟩
  · have ex : okNum x = false := by simp [okNum]; omega
    rw [ex]
    clear ex
    by_cases hx0 : x < 0
    all_goals
      go_enter Try.func14, Try.ntmps14
      go_wp2
      go_rounds 3
      all_goals go_ret
      all_goals exact ⟨rfl, rfl⟩
theorem new_any (m r : Int) (w : World) (hm : okNum m = true) (hr : okNum r = true) :
    Calls Try.prog 8 #[.int .i64 m, .int .i64 r] w fun e w' => e = .returned (.tuple #[.pointer (some ⟨w.heap.size + 1, 0, none⟩), .int .i64 0]) ∧ w'.heap[w.heap.size + 1]? = some (buck m r m) ∧ Below w.heap.size w w' := by
  have e0 : (okNum m && okNum r) = true := by rw [hm, hr]; rfl
  have E := Lib.hid e0
  clear e0 hm hr
  go_enter Try.func8, Try.ntmps8
  go_wp2_with fail
  refine (may_two _ _ _ _ (heap_new _ _)).mono ?_
  rintro e w1 ⟨rfl, rfl⟩
  rw [E.out]
  go_wp2
  go_ret2
  exact ⟨rfl, by have := heap_new (w.alloc (.cells #[.int .i64 m, .int .i64 r] 3)) (buck m r m); simpa [buck] using this, (((Below.refl _ _).alloc (Nat.le_refl _) _).alloc (by simp) _)⟩
theorem new_bad (m r : Int) (w : World) (h : (okNum m && okNum r) = false) :
    Calls Try.prog 8 #[.int .i64 m, .int .i64 r] w fun e w' => e = .returned (.tuple #[.pointer none, .int .i64 1]) ∧ Below w.heap.size w w' := by
  have E := Lib.hid h
  clear h
  go_enter Try.func8, Try.ntmps8
  go_wp2_with fail
  refine (may_two _ _ _ _ (heap_new _ _)).mono ?_
  rintro e w1 ⟨rfl, rfl⟩
  rw [E.out]
  go_wp2
  go_ret2
  exact ⟨rfl, ((Below.refl _ _).alloc (Nat.le_refl _) _)⟩
def costOf (n : Int) : Int := 1 + (max n 0) / 64
theorem cost_any (n : Int) (w : World) (h : n ≤ 4611686018427387904) : Calls Try.prog 13 #[.int .i64 n] w fun e w' => e = .returned (.int .i64 (costOf n)) ∧ w' = w := by
  by_cases h0 : 0 ≤ n
  · have hm : max n 0 = n := Int.max_eq_left h0
    have e : costOf n = 1 + n / 64 := by unfold costOf; rw [hm]
    rw [e]
    clear e hm
    go_enter Try.func13, Try.ntmps13
    go_wp2
    all_goals go_ret
    all_goals exact ⟨rfl, rfl⟩
  · have hm : max n 0 = 0 := Int.max_eq_right (by omega)
    have e : costOf n = 1 := by unfold costOf; rw [hm]; rfl
    rw [e]
    clear e hm
    go_enter Try.func13, Try.ntmps13
    go_wp2
    all_goals go_ret
    all_goals exact ⟨rfl, rfl⟩
theorem three_any (w : World) : Calls Try.prog 7 #[] w fun e w' => e = .returned (.bool true) ∧ Below w.heap.size w w' := by
  go_enter Try.func7, Try.ntmps7
  go_wp2_with fail
  refine (new_any 3 2 _ rfl rfl).mono ?_
  rintro e w1 ⟨rfl, hb, bel⟩
  have Hb := Lib.hid hb; clear hb
  have Bel := Lib.hid bel; clear bel
  go_wp2_with fail
  refine (take_any _ _ _ _ 3 _ Hb.out (by omega) (by omega)).mono ?_
  rintro e w2 ⟨rfl, hb, hg⟩
  rw [show tookE 3 3 = 0 from rfl]
  rw [show tookL 3 3 = 0 from rfl] at hb
  have Hb2 := Lib.hid hb; clear hb
  have Bel2 := Lib.hid (below_grown Bel.out hg (by omega)); clear hg
  go_wp2_with fail
  refine (take_any _ _ _ _ 1 _ Hb2.out (by decide) (by decide)).mono ?_
  rintro e w3 ⟨rfl, hb, hg⟩
  rw [show tookE 0 1 = 30 from rfl]
  rw [show tookL 0 1 = 0 from rfl] at hb
  have Hb3 := Lib.hid hb; clear hb
  have Bel3 := Lib.hid (below_grown Bel2.out hg (by omega)); clear hg
  go_wp2_with fail
  refine (fill_any _ _ _ _ _ Hb3.out (by decide) (by decide) (by decide) (by decide) (by decide) (by decide)).mono ?_
  rintro e w4 ⟨rfl, hb, hg⟩
  rw [show min ((0 : Int) + 2) 3 = 2 from rfl] at hb
  have Hb4 := Lib.hid hb; clear hb
  have Bel4 := Lib.hid (below_grown Bel3.out hg (by omega)); clear hg
  go_wp2_with fail
  refine (take_any _ _ _ _ 2 _ Hb4.out (by decide) (by decide)).mono ?_
  rintro e w5 ⟨rfl, hb, hg⟩
  rw [show tookE 2 2 = 0 from rfl]
  rw [show tookL 2 2 = 0 from rfl] at hb
  have Hb5 := Lib.hid hb; clear hb
  have Bel5 := Lib.hid (below_grown Bel4.out hg (by omega)); clear hg
  go_wp2_with fail
  refine (left_any _ _ _ _ _ Hb5.out).mono ?_
  rintro e w6 ⟨rfl, rfl⟩
  go_wp2_with fail
  refine (most_any _ _ _ _ _ Hb5.out).mono ?_
  rintro e w6 ⟨rfl, rfl⟩
  go_wp2_with fail
  refine (cost_any 64 _ (by decide)).mono ?_
  rintro e w6 ⟨rfl, rfl⟩
  rw [show costOf 64 = 2 from rfl]
  go_wp2
  go_ret
  exact ⟨rfl, Bel5.out⟩
theorem bucketNil_walk (n : Int) (w : World) (hn : (Lit.int .i64 n).wf = true) : Calls Try.prog 6 #[.int .i64 n] w fun e w' => e = .returned (.bool true) ∧ Below w.heap.size w w' := by
  clear hn
  go_enter Try.func6, Try.ntmps6
  go_wp2_with (first
    | (go_at_call 9; refine (fill_nil _).mono ?_; rintro e w1 ⟨rfl, rfl⟩)
    | (go_at_call 10; refine (take_nil _ _).mono ?_; rintro e w1 ⟨rfl, rfl⟩)
    | (go_at_call 11; refine (left_nil _).mono ?_; rintro e w1 ⟨rfl, rfl⟩)
    | (go_at_call 12; refine (most_nil _).mono ?_; rintro e w1 ⟨rfl, rfl⟩)
    | (go_at_call 7; refine (three_any _).mono ?_; rintro e w3 ⟨rfl, hb2⟩))
  go_ret
  exact ⟨rfl, hb2⟩
theorem bucketCosts_walk (n : Int) (w : World) (hn : (Lit.int .i64 n).wf = true) : Calls Try.prog 5 #[.int .i64 n] w fun e w' => e = .returned (.bool true) ∧ Below w.heap.size w w' := by
  obtain ⟨n0, n1⟩ := wf_i64 hn
  clear hn
  by_cases hbig : 1099511627776 < n
  · go_enter Try.func5, Try.ntmps5
    go_wp2_with (go_at_call 7; refine (three_any _).mono ?_; rintro e w3 ⟨rfl, hb2⟩)
    go_ret
    exact ⟨rfl, hb2⟩
  · by_cases hneg : n < 0
    · have e1 : costOf n = 1 := by unfold costOf; rw [Int.max_eq_right (by omega)]; rfl
      have E1 := Lib.hid e1; clear e1
      go_enter Try.func5, Try.ntmps5
      go_wp2_with (first
        | (go_at_call 13; refine (cost_any _ _ (by omega)).mono ?_; rintro e w3 ⟨rfl, rfl⟩; rw [E1.out])
        | (go_at_call 7; refine (three_any _).mono ?_; rintro e w3 ⟨rfl, hb2⟩))
      go_ret
      exact ⟨rfl, hb2⟩
    · have e1 : costOf n = 1 + n / 64 := by unfold costOf; rw [Int.max_eq_left (by omega)]
      have e2 : costOf (n + 64) = 1 + n / 64 + 1 := by unfold costOf; rw [Int.max_eq_left (by omega)]; omega
      have e3 : costOf (n + 1) = 1 + (n + 1) / 64 := by unfold costOf; rw [Int.max_eq_left (by omega)]
      have a1 : 64 * (n / 64) ≤ n := by omega
      have a2 : n < 64 * (n / 64) + 64 := by omega
      have a3 : n / 64 ≤ (n + 1) / 64 := by omega
      have a4 : 0 ≤ n / 64 := by omega
      have a5 : (n + 1) / 64 ≤ n / 64 + 1 := by omega
      generalize n / 64 = c at *
      generalize (n + 1) / 64 = d at *
      have E1 := Lib.hid e1; clear e1
      have E2 := Lib.hid e2; clear e2
      have E3 := Lib.hid e3; clear e3
      go_enter Try.func5, Try.ntmps5
      go_wp2_with fail
      refine (cost_any _ _ (by omega)).mono ?_; rintro e w3 ⟨rfl, rfl⟩; rw [E1.out]
      go_wp2_with fail
      refine (cost_any _ _ (by omega)).mono ?_; rintro e w3 ⟨rfl, rfl⟩; rw [E2.out]
      go_wp2_with fail
      refine (cost_any _ _ (by omega)).mono ?_; rintro e w3 ⟨rfl, rfl⟩; rw [E3.out]
      go_wp2_with (go_at_call 7; refine (three_any _).mono ?_; rintro e w3 ⟨rfl, hb2⟩)
      go_ret
      exact ⟨rfl, hb2⟩
end Go.Proofs.Ytojogloofaibjaa
