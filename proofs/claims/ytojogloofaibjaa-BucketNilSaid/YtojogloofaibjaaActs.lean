/- The walks of the bucket's laws over lists. -/
import Derived.Test.YtojogloofaibjaaWalk
namespace Go.Proofs.Ytojogloofaibjaa
open Go.RowKit
set_option maxRecDepth 100000
set_option linter.unusedSimpArgs false
set_option linter.unusedVariables false
def lstep (m r L n : Int) : Int := if n = -1 then min (L + r) m else tookL L n
def lft (m r : Int) (l : List Int) : Int := l.foldl (lstep m r) m
theorem lstep_bd {m r L n : Int} (hr : 0 ≤ r) (h0 : 0 ≤ L) (h1 : L ≤ m) : 0 ≤ lstep m r L n ∧ lstep m r L n ≤ m := by
  unfold lstep tookL
  split
  · omega
  · split
    · omega
    · split <;> omega
theorem lft_bd {m r : Int} (hm : 0 ≤ m) (hr : 0 ≤ r) (l : List Int) : 0 ≤ lft m r l ∧ lft m r l ≤ m := by
  unfold lft
  have : ∀ L, 0 ≤ L → L ≤ m → 0 ≤ l.foldl (lstep m r) L ∧ l.foldl (lstep m r) L ≤ m := by
    induction l with
    | nil => intro L h0 h1; exact ⟨h0, h1⟩
    | cons n l ih => intro L h0 h1; have := lstep_bd (n := n) hr h0 h1; exact ih _ this.1 this.2
  exact this m hm (Int.le_refl _)
theorem lft_snoc (m r : Int) (zs : List Int) {k : Nat} (h : k < zs.length) : lft m r (zs.take (k + 1)) = lstep m r (lft m r (zs.take k)) (zs.getD k 0) := by
  rw [take_getD zs 0 h, lft, List.foldl_append]; rfl
set_option maxHeartbeats 1000000 in
theorem acts_main (m r : Int) (a : Option Addr) (len cap : Nat) (zs : List Int) (w : World) (hz : IRow .i64 w a len zs) (hl : len ≤ 100) (m0 : 0 ≤ m) (m1 : m ≤ 1048576) (r0 : 0 ≤ r) (r1 : r ≤ 1048576) :
    Calls Try.prog 3 #[.int .i64 m, .int .i64 r, .slice a len cap] w fun e w' => e = .returned (.bool true) ∧ Below w.heap.size w w' := by
  obtain ⟨hzl, hmx, hwf, hcell⟩ := hz
  have Hz := Lib.hid hcell; clear hcell
  have Hwf := Lib.hid hwf; clear hwf
  have Hzl := Lib.hid hzl; clear hzl
  clear hmx
  go_enter Try.func3, Try.ntmps3
  go_wp2_with fail
  refine (new_any m r _ (by simp [okNum]; omega) (by simp [okNum]; omega)).mono ?_
  rintro e w1 ⟨rfl, hb, bel⟩
  have Hb := Lib.hid hb; clear hb
  have Bel := Lib.hid bel; clear bel
  go_wp2_with fail
  go_loopw [9, 49] (fun v i wr => ∃ k : Nat, k ≤ len ∧ i = .int .i64 k ∧ v = .int .i64 (lft m r (zs.take k)) ∧ wr.heap[w.heap.size + 1]? = some (buck m r (lft m r (zs.take k))) ∧ Below w.heap.size w wr) (fun _ i _ => len - (intOf i).toNat)
  case atStart => exact ⟨0, by omega, rfl, rfl, Hb.out, Bel.out⟩
  case round =>
    obtain ⟨k, hk, rfl, rfl, hbk, belk⟩ := hrel
    have hL := lft_bd (m := m) (r := r) m0 r0 (zs.take k)
    by_cases hlt : k < len
    · have hsn := lft_snoc m r zs (k := k) (by rw [Hzl.out]; omega)
      have hx := wf_i64 (Hwf.out k hlt)
      obtain ⟨bz, off, rfl, hbz, hcz⟩ := Hz.out (by omega)
      have hc := cell_below (hcz k hlt) belk hbz
      clear hcz
      generalize zs.getD k 0 = x at *
      generalize hy : lft m r (zs.take k) = L at *
      have Hy := Lib.hid hy; clear hy
      have Hsn := Lib.hid hsn; clear hsn
      have Hbk := Lib.hid hbk; clear hbk
      have Belk := Lib.hid belk; clear belk
      obtain ⟨L0, L1⟩ := hL
      obtain ⟨x0, x1⟩ := hx
      by_cases hx1 : x = -1
      · subst hx1
        have hst : lstep m r L (-1) = min (L + r) m := rfl
        have Hst := Lib.hid hst; clear hst
        by_cases hlm : L + r ≤ m
        · have hmin : min (L + r) m = L + r := Int.min_eq_left hlm
          have Hmin := Lib.hid hmin; clear hmin
          go_wp2_with fail
          refine (fill_any _ _ _ _ _ Hbk.out (by omega) (by omega) (by omega) (by omega) (by omega) (by omega)).mono ?_
          rintro e w2 ⟨rfl, hb, hg⟩
          rw [Hmin.out] at hb
          have Hb2 := Lib.hid hb; clear hb
          have Bel2 := Lib.hid (below_grown Belk.out hg (by omega)); clear hg
          go_wp2_with fail
          refine (left_any _ _ _ _ _ Hb2.out).mono ?_
          rintro e w3 ⟨rfl, rfl⟩
          go_wp2
          go_roundw
          case rel => exact ⟨k + 1, by omega, by go_num, by rw [Hsn.out, Hst.out, Hmin.out], by rw [Hsn.out, Hst.out, Hmin.out]; exact Hb2.out, Bel2.out⟩
          case measure => simp [intOf]; omega
        · have hmin : min (L + r) m = m := Int.min_eq_right (by omega)
          have Hmin := Lib.hid hmin; clear hmin
          go_wp2_with fail
          refine (fill_any _ _ _ _ _ Hbk.out (by omega) (by omega) (by omega) (by omega) (by omega) (by omega)).mono ?_
          rintro e w2 ⟨rfl, hb, hg⟩
          rw [Hmin.out] at hb
          have Hb2 := Lib.hid hb; clear hb
          have Bel2 := Lib.hid (below_grown Belk.out hg (by omega)); clear hg
          go_wp2_with fail
          refine (left_any _ _ _ _ _ Hb2.out).mono ?_
          rintro e w3 ⟨rfl, rfl⟩
          go_wp2
          go_roundw
          case rel => exact ⟨k + 1, by omega, by go_num, by rw [Hsn.out, Hst.out, Hmin.out], by rw [Hsn.out, Hst.out, Hmin.out]; exact Hb2.out, Bel2.out⟩
          case measure => simp [intOf]; omega
      · have hst : lstep m r L x = tookL L x := by unfold lstep; rw [if_neg hx1]
        have Hst := Lib.hid hst; clear hst
        have hxb : (x == -1) = false := by simpa using hx1
        obtain ⟨E, hE⟩ : ∃ E, tookE L x = E := ⟨_, rfl⟩
        obtain ⟨T, hT⟩ : ∃ T, tookL L x = T := ⟨_, rfl⟩
        have hcases : (x < 0 ∧ E = 1 ∧ T = L) ∨ (¬ x < 0 ∧ L < x ∧ E = 30 ∧ T = L) ∨ (¬ x < 0 ∧ ¬ L < x ∧ E = 0 ∧ T = L - x) := by
          subst hE hT
          unfold tookE tookL
          by_cases h1 : x < 0
          · simp [h1]
          · by_cases h2 : L < x
            · simp [h1, h2]
            · simp [h1, h2]
        have HE := Lib.hid hE; clear hE
        have HT := Lib.hid hT; clear hT
        rcases hcases with ⟨c1, rfl, rfl⟩ | ⟨c1, c2, rfl, rfl⟩ | ⟨c1, c2, rfl, rfl⟩
        all_goals
          go_wp2_with fail
          refine (take_any _ _ _ _ x _ Hbk.out (by omega) (by omega)).mono ?_
          rintro e w2 ⟨rfl, hb, hg⟩
          rw [HE.out]
          rw [HT.out] at hb
          have Hb2 := Lib.hid hb; clear hb
          have Bel2 := Lib.hid (below_grown Belk.out hg (by omega)); clear hg
          go_wp2_with fail
          refine (left_any _ _ _ _ _ Hb2.out).mono ?_
          rintro e w3 ⟨rfl, rfl⟩
          go_wp2
          go_roundw
          case rel => exact ⟨k + 1, by omega, by go_num, by rw [Hsn.out, Hst.out, HT.out], by rw [Hsn.out, Hst.out, HT.out]; exact Hb2.out, Bel2.out⟩
          case measure => simp [intOf]; omega
    · generalize hy : lft m r (zs.take k) = L at *
      have Hy := Lib.hid hy; clear hy
      have Hbk := Lib.hid hbk; clear hbk
      have Belk := Lib.hid belk; clear belk
      go_wp2_with fail
      refine (left_any _ _ _ _ _ Hbk.out).mono ?_
      rintro e w3 ⟨rfl, rfl⟩
      go_wp2_with fail
      refine (most_any _ _ _ _ _ Hbk.out).mono ?_
      rintro e w3 ⟨rfl, rfl⟩
      go_wp2_with (go_at_call 7; refine (three_any _).mono ?_; rintro e w3 ⟨rfl, hb2⟩)
      go_ret
      exact ⟨rfl, below_two Belk.out hb2⟩
theorem okNum_false {x : Int} (h : x < 0 ∨ 1048576 < x) : okNum x = false := by
  unfold okNum; simp; omega
theorem bucketActs_walk (m r : Int) (a : Option Addr) (len cap : Nat) (zs : List Int) (w : World) (hm : (Lit.int .i64 m).wf = true) (hr : (Lit.int .i64 r).wf = true) (hz : IRow .i64 w a len zs) :
    Calls Try.prog 3 #[.int .i64 m, .int .i64 r, .slice a len cap] w fun e w' => e = .returned (.bool true) ∧ Below w.heap.size w w' := by
  have m01 := wf_i64 hm
  have r01 := wf_i64 hr
  clear hm hr
  have hlen := hz.2.1
  unfold maxLen at hlen
  by_cases hl : 100 < len
  · clear hz
    go_enter Try.func3, Try.ntmps3
    go_wp2_with (go_at_call 7; refine (three_any _).mono ?_; rintro e w3 ⟨rfl, hb2⟩)
    go_ret
    exact ⟨rfl, hb2⟩
  · by_cases h1 : m < 0
    · have E := Lib.hid (show (okNum m && okNum r) = false by rw [okNum_false (.inl h1)]; rfl)
      clear hz
      go_enter Try.func3, Try.ntmps3
      go_wp2_with (first
        | (go_at_call 8; refine (new_bad m r _ E.out).mono ?_; rintro e w1 ⟨rfl, bel⟩)
        | (go_at_call 7; refine (three_any _).mono ?_; rintro e w3 ⟨rfl, hb2⟩))
      go_ret
      exact ⟨rfl, below_two bel hb2⟩
    · by_cases h2 : 1048576 < m
      · have E := Lib.hid (show (okNum m && okNum r) = false by rw [okNum_false (.inr h2)]; rfl)
        clear hz
        go_enter Try.func3, Try.ntmps3
        go_wp2_with (first
          | (go_at_call 8; refine (new_bad m r _ E.out).mono ?_; rintro e w1 ⟨rfl, bel⟩)
          | (go_at_call 7; refine (three_any _).mono ?_; rintro e w3 ⟨rfl, hb2⟩))
        go_ret
        exact ⟨rfl, below_two bel hb2⟩
      · by_cases h3 : r < 0
        · have E := Lib.hid (show (okNum m && okNum r) = false by rw [okNum_false (x := r) (.inl h3), Bool.and_false])
          clear hz
          go_enter Try.func3, Try.ntmps3
          go_wp2_with (first
            | (go_at_call 8; refine (new_bad m r _ E.out).mono ?_; rintro e w1 ⟨rfl, bel⟩)
            | (go_at_call 7; refine (three_any _).mono ?_; rintro e w3 ⟨rfl, hb2⟩))
          go_ret
          exact ⟨rfl, below_two bel hb2⟩
        · by_cases h4 : 1048576 < r
          · have E := Lib.hid (show (okNum m && okNum r) = false by rw [okNum_false (x := r) (.inr h4), Bool.and_false])
            clear hz
            go_enter Try.func3, Try.ntmps3
            go_wp2_with (first
              | (go_at_call 8; refine (new_bad m r _ E.out).mono ?_; rintro e w1 ⟨rfl, bel⟩)
              | (go_at_call 7; refine (three_any _).mono ?_; rintro e w3 ⟨rfl, hb2⟩))
            go_ret
            exact ⟨rfl, below_two bel hb2⟩
          · exact acts_main m r a len cap zs w hz (by omega) (by omega) (by omega) (by omega) (by omega)
set_option maxHeartbeats 1000000 in
theorem bound_main (m r : Int) (a : Option Addr) (len cap : Nat) (zs : List Int) (w : World) (hz : IRow .i64 w a len zs) (hl : len ≤ 100) (m0 : 0 ≤ m) (m1 : m ≤ 1048576) (r0 : 0 ≤ r) (r1 : r ≤ 1048576) :
    Calls Try.prog 4 #[.int .i64 m, .int .i64 r, .slice a len cap] w fun e w' => e = .returned (.bool true) ∧ Below w.heap.size w w' := by
  obtain ⟨hzl, hmx, hwf, hcell⟩ := hz
  have Hz := Lib.hid hcell; clear hcell
  have Hwf := Lib.hid hwf; clear hwf
  have Hzl := Lib.hid hzl; clear hzl
  clear hmx
  go_enter Try.func4, Try.ntmps4
  go_wp2_with fail
  refine (new_any m r _ (by simp [okNum]; omega) (by simp [okNum]; omega)).mono ?_
  rintro e w1 ⟨rfl, hb, bel⟩
  have Hb := Lib.hid hb; clear hb
  have Bel := Lib.hid bel; clear bel
  go_wp2_with fail
  go_loopw [9, 10, 42] (fun t f i wr => ∃ (k : Nat) (T F L P : Int), k ≤ len ∧ i = .int .i64 k ∧ t = .int .i64 T ∧ f = .int .i64 F ∧ 0 ≤ F ∧ F ≤ k ∧ 0 ≤ T ∧ 0 ≤ L ∧ L ≤ m ∧ Hid (F * r = P) ∧ 0 ≤ P ∧ P ≤ k * 1048576 ∧ T + L ≤ m + P ∧ wr.heap[w.heap.size + 1]? = some (buck m r L) ∧ Below w.heap.size w wr) (fun _ _ i _ => len - (intOf i).toNat)
  case atStart => exact ⟨0, 0, 0, m, 0, by omega, rfl, rfl, rfl, by omega, by omega, by omega, by omega, by omega, Int.zero_mul r, by omega, by omega, by omega, Hb.out, Bel.out⟩
  case round =>
    obtain ⟨k, T, F, L, P, hk, rfl, rfl, rfl, F0, F1, T0, L0, L1, HP, P0, P1, hTL, hbk, belk⟩ := hrel
    have Hbk := Lib.hid hbk; clear hbk
    have Belk := Lib.hid belk; clear belk
    by_cases hlt : k < len
    · have hx := wf_i64 (Hwf.out k hlt)
      obtain ⟨bz, off, rfl, hbz, hcz⟩ := Hz.out (by omega)
      have hc := cell_below (hcz k hlt) Belk.out hbz
      clear hcz
      generalize zs.getD k 0 = x at *
      obtain ⟨x0, x1⟩ := hx
      by_cases hx1 : x = -1
      · subst hx1
        have HP1 : Hid ((F + 1) * r = P + r) := by have := HP.out; unfold Hid; rw [Int.add_mul, this, Int.one_mul]
        obtain ⟨M, hM⟩ : ∃ M, min (L + r) m = M := ⟨_, rfl⟩
        have M0 : 0 ≤ M := by omega
        have M1 : M ≤ m := by omega
        have M2 : M ≤ L + r := by omega
        have HM := Lib.hid hM; clear hM
        go_wp2_with fail
        refine (left_any _ _ _ _ _ Hbk.out).mono ?_
        rintro e w3 ⟨rfl, rfl⟩
        go_wp2_with fail
        refine (fill_any _ _ _ _ _ Hbk.out (by omega) (by omega) (by omega) (by omega) (by omega) (by omega)).mono ?_
        rintro e w2 ⟨rfl, hb, hg⟩
        rw [HM.out] at hb
        have Hb2 := Lib.hid hb; clear hb
        have Bel2 := Lib.hid (below_grown Belk.out hg (by omega)); clear hg
        have hp1 := HP1.out
        go_wp2_with (go_at_call 11; refine (left_any _ _ _ _ _ Hb2.out).mono ?_; rintro e w3 ⟨rfl, rfl⟩)
        go_roundw
        case rel => exact ⟨k + 1, T, F + 1, M, P + r, by omega, by go_num, rfl, by first | rfl | go_num, by omega, by omega, by omega, by omega, by omega, HP1, by omega, by omega, by omega, Hb2.out, Bel2.out⟩
        case measure => simp [intOf]; omega
      · have hxb : (x == -1) = false := by simpa using hx1
        obtain ⟨E, hE⟩ : ∃ E, tookE L x = E := ⟨_, rfl⟩
        obtain ⟨U, hU⟩ : ∃ U, tookL L x = U := ⟨_, rfl⟩
        have hcases : (E = 1 ∧ U = L) ∨ (E = 30 ∧ U = L) ∨ (¬ x < 0 ∧ ¬ L < x ∧ E = 0 ∧ U = L - x) := by
          subst hE hU
          unfold tookE tookL
          by_cases h1 : x < 0
          · simp [h1]
          · by_cases h2 : L < x
            · simp [h1, h2]
            · simp [h1, h2]
        have HE := Lib.hid hE; clear hE
        have HU := Lib.hid hU; clear hU
        rcases hcases with ⟨rfl, rfl⟩ | ⟨rfl, rfl⟩ | ⟨c1, c2, rfl, rfl⟩
        · go_wp2_with fail
          refine (left_any _ _ _ _ _ Hbk.out).mono ?_
          rintro e w3 ⟨rfl, rfl⟩
          go_wp2_with fail
          refine (take_any _ _ _ _ x _ Hbk.out (by omega) (by omega)).mono ?_
          rintro e w2 ⟨rfl, hb, hg⟩
          rw [HE.out]
          rw [HU.out] at hb
          have Hb2 := Lib.hid hb; clear hb
          have Bel2 := Lib.hid (below_grown Belk.out hg (by omega)); clear hg
          have hp := HP.out
          go_wp2_with (go_at_call 11; refine (left_any _ _ _ _ _ Hb2.out).mono ?_; rintro e w3 ⟨rfl, rfl⟩)
          go_roundw
          case rel => exact ⟨k + 1, T, F, _, P, by omega, by go_num, rfl, rfl, by omega, by omega, by omega, by omega, by omega, HP, by omega, by omega, by omega, Hb2.out, Bel2.out⟩
          case measure => simp [intOf]; omega
        · go_wp2_with fail
          refine (left_any _ _ _ _ _ Hbk.out).mono ?_
          rintro e w3 ⟨rfl, rfl⟩
          go_wp2_with fail
          refine (take_any _ _ _ _ x _ Hbk.out (by omega) (by omega)).mono ?_
          rintro e w2 ⟨rfl, hb, hg⟩
          rw [HE.out]
          rw [HU.out] at hb
          have Hb2 := Lib.hid hb; clear hb
          have Bel2 := Lib.hid (below_grown Belk.out hg (by omega)); clear hg
          have hp := HP.out
          go_wp2_with (go_at_call 11; refine (left_any _ _ _ _ _ Hb2.out).mono ?_; rintro e w3 ⟨rfl, rfl⟩)
          go_roundw
          case rel => exact ⟨k + 1, T, F, _, P, by omega, by go_num, rfl, rfl, by omega, by omega, by omega, by omega, by omega, HP, by omega, by omega, by omega, Hb2.out, Bel2.out⟩
          case measure => simp [intOf]; omega
        · go_wp2_with fail
          refine (left_any _ _ _ _ _ Hbk.out).mono ?_
          rintro e w3 ⟨rfl, rfl⟩
          go_wp2_with fail
          refine (take_any _ _ _ _ x _ Hbk.out (by omega) (by omega)).mono ?_
          rintro e w2 ⟨rfl, hb, hg⟩
          rw [HE.out]
          rw [HU.out] at hb
          have Hb2 := Lib.hid hb; clear hb
          have Bel2 := Lib.hid (below_grown Belk.out hg (by omega)); clear hg
          have hp := HP.out
          go_wp2_with (go_at_call 11; refine (left_any _ _ _ _ _ Hb2.out).mono ?_; rintro e w3 ⟨rfl, rfl⟩)
          go_roundw
          case rel => exact ⟨k + 1, T + x, F, L - x, P, by omega, by go_num, rfl, rfl, by omega, by omega, by omega, by omega, by omega, HP, by omega, by omega, by omega, Hb2.out, Bel2.out⟩
          case measure => simp [intOf]; omega
    · go_wp2_with (go_at_call 7; refine (three_any _).mono ?_; rintro e w3 ⟨rfl, hb2⟩)
      go_ret
      exact ⟨rfl, below_two Belk.out hb2⟩
theorem bucketBound_walk (m r : Int) (a : Option Addr) (len cap : Nat) (zs : List Int) (w : World) (hm : (Lit.int .i64 m).wf = true) (hr : (Lit.int .i64 r).wf = true) (hz : IRow .i64 w a len zs) :
    Calls Try.prog 4 #[.int .i64 m, .int .i64 r, .slice a len cap] w fun e w' => e = .returned (.bool true) ∧ Below w.heap.size w w' := by
  have m01 := wf_i64 hm
  have r01 := wf_i64 hr
  clear hm hr
  have hlen := hz.2.1
  unfold maxLen at hlen
  by_cases hl : 100 < len
  · clear hz
    go_enter Try.func4, Try.ntmps4
    go_wp2_with (go_at_call 7; refine (three_any _).mono ?_; rintro e w3 ⟨rfl, hb2⟩)
    go_ret
    exact ⟨rfl, hb2⟩
  · by_cases h1 : m < 0
    · clear hz
      go_enter Try.func4, Try.ntmps4
      go_wp2_with (go_at_call 7; refine (three_any _).mono ?_; rintro e w3 ⟨rfl, hb2⟩)
      go_ret
      exact ⟨rfl, hb2⟩
    · by_cases h2 : 1048576 < m
      · clear hz
        go_enter Try.func4, Try.ntmps4
        go_wp2_with (go_at_call 7; refine (three_any _).mono ?_; rintro e w3 ⟨rfl, hb2⟩)
        go_ret
        exact ⟨rfl, hb2⟩
      · by_cases h3 : r < 0
        · clear hz
          go_enter Try.func4, Try.ntmps4
          go_wp2_with (go_at_call 7; refine (three_any _).mono ?_; rintro e w3 ⟨rfl, hb2⟩)
          go_ret
          exact ⟨rfl, hb2⟩
        · by_cases h4 : 1048576 < r
          · clear hz
            go_enter Try.func4, Try.ntmps4
            go_wp2_with (go_at_call 7; refine (three_any _).mono ?_; rintro e w3 ⟨rfl, hb2⟩)
            go_ret
            exact ⟨rfl, hb2⟩
          · exact bound_main m r a len cap zs w hz (by omega) (by omega) (by omega) (by omega) (by omega)
end Go.Proofs.Ytojogloofaibjaa
