/- Views: ViewFuse. -/
import Derived.Test.YtekcidfipdjfdaaVF
namespace Go.Proofs.Ytekcidfipdjfdaa.Own
open Go.RowKit Go.Proofs.YtekcidfipdjfdaaW.PrintWords Go.Proofs.Ytekcidfipdjfdaa.PB
set_option maxRecDepth 100000
set_option linter.unusedSimpArgs false
set_option linter.unusedVariables false
/-- What a law asks of calls that come in. -/
def LOK (l : List S35) : Prop := ∀ x ∈ l, 0 ≤ x.f3 ∧ x.f3 ≤ 255
theorem LOK.at {l : List S35} (h : LOK l) {k : Nat} (hk : k < l.length) : 0 ≤ (l.getD k z35).f3 ∧ (l.getD k z35).f3 ≤ 255 := by
  have hm : l.getD k z35 ∈ l := by rw [List.getD_eq_getElem?_getD, List.getElem?_eq_getElem hk]; exact List.getElem_mem hk
  exact h _ hm
theorem told_20 {N t t' : Nat} {c : Int} (h : Told N t c t') (hne : c ≠ 0 ∧ c ≠ 21) : t' = t := by
  rcases h with ⟨_, h⟩ | ⟨h, _⟩
  · exact h
  · split at h
    · exact absurd h hne.2
    · exact absurd h hne.1
set_option maxHeartbeats 8000000 in
theorem fuse_mid (N : Nat) (hN : N ≤ 9223372036854775807) (A : Option Addr) (c : Nat) (l : List S35) (w : World) (hl : Kd.C k35 w A l.length l) (hc : l.length ≤ c) (hok : LOK l) (hlg : largeB l = false) :
    Calls Try.prog 3 #[.int .i64 (N : Int), .slice A l.length c] w fun e w' => e = .returned (.bool true) ∧ Below w.heap.size w w' := by
  have HL := Lib.hid hl
  have HG := Lib.hid hlg
  have hl40 : (l.length : Int) ≤ 40 := by have := (small_of hlg).1; omega
  have HOK := Lib.hid hok
  have HMAX := Lib.hid (Kd.C_max hl)
  have HN := Lib.hid hN
  have n1 : decide ((N : Int) < 0) = false := by simp
  have n2 : (0 : Int) ≤ (N : Int) := Int.natCast_nonneg _
  clear hlg hok hl hN
  go_enter Try.func3, Try.ntmps3
  go_wp2_with fail
  refine (large_any A c l _ HL.out hc).mono ?_
  rintro e wl ⟨rfl, b1⟩
  rw [HG.out]
  have B1 := Lib.hid b1
  clear b1
  go_wp2_with fail
  refine (new_ok 9 wl (by decide) (by decide)).mono ?_
  rintro e wm ⟨rfl, hd, hb⟩
  have D1 := Lib.hid (show DS wl.heap.size (wl.heap.size + 1) wl.heap.size (.slice none 0 0) (List.replicate 9 zeroB) [] wm from hd)
  have BM := Lib.hid (below_two B1.out hb)
  have HWO := Lib.hid (show w.heap.size ≤ wl.heap.size from B1.out.size)
  clear hd hb
  generalize wl.heap.size + 1 = g at *
  generalize wl.heap.size = o at *
  go_wp2_with fail
  refine (vnew_ok D1.out BM.out 3 4 (by decide) (by decide)).mono ?_
  rintro e wn ⟨rfl, hv, hsz⟩
  have V2 := Lib.hid (show VW o wm.heap.size g o (.slice none 0 0) (List.replicate 9 zeroB) [] 3 4 (-1) 0 false w wn from hv)
  have HP := Lib.hid BM.out.size
  clear hv hsz
  generalize wm.heap.size = p at *
  go_wp2_with fail
  refine (fuse_ok V2.out HP.out (N : Int) (by omega)).mono ?_
  rintro e wo ⟨rfl, hv, _⟩
  have F3 := Lib.hid (show FV o p g o N 0 w wo from ⟨_, _, _, by
    rw [show N - 0 = N by omega, show min 0 N = 0 by omega, show decide (N < 0) = false from decide_eq_false (by omega)]
    exact hv, rfl, Nat.le_refl _⟩)
  clear hv
  go_upto_region 7 with (fail)
  go_wp2_with fail
  go_loopw [9, 34] (fun v9 q wr => ∃ (k t : Nat), k ≤ l.length ∧ t ≤ k ∧ q = .int .i64 k ∧ v9 = .int .i64 t ∧ FV o p g o N t w wr) (fun _ q _ => l.length - (intOf q).toNat)
  case atStart => exact ⟨0, 0, by omega, by omega, rfl, rfl, F3.out⟩
  case round =>
    obtain ⟨k, t, hk, htk, rfl, rfl, hf⟩ := hrel
    have F := Lib.hid hf
    clear hf
    have q1 : (0 : Int) ≤ (k : Int) := Int.natCast_nonneg _
    have q3 : (0 : Int) ≤ (t : Int) := Int.natCast_nonneg _
    have q4 : (t : Int) ≤ 40 := by omega
    by_cases hlt : k < l.length
    · have q2 : (k : Int) < (l.length : Int) := by omega
      obtain ⟨b, off, KA, kc, rfl, x0, x1, x2, x3, x4, _, _⟩ := at25 (Kd.C_below HL.out F.out.b) k hlt
      have HY := Lib.hid (LOK.at HOK.out hlt)
      generalize l.getD k z35 = y at *
      have YB := Lib.hid (heap_new wr (.cells (ac y KA kc) 35))
      obtain ⟨z0, z1, z2, z3, z4⟩ := AB.of YB.out
      unfold ac at z0 z1 z2 z3 z4
      have F4 := Lib.hid (F.out.below (show Below wr.heap.size wr (wr.alloc (.cells (ac y KA kc) 35)) from (Below.refl _ _).alloc (Nat.le_refl _) _))
      unfold ac at F4
      have HT := Lib.hid (show t ≤ 100 by omega)
      by_cases k0 : y.f0 = 0
      · have HK := Lib.hid (show y.f0 = 0 ∨ y.f0 = 1 from Or.inl k0)
        have t0 : (y.f0 != 0) = false := by rw [k0]; rfl
        have t1 : (y.f0 == 0) = true := by rw [k0]; rfl
        clear k0
        · go_wp2_with fail
          clear z0 z1 z2 z3 z4 x0 x1 x2 x3 x4
          refine (done_fuse F4.out (Nat.le_trans HWO.out (Nat.le_refl _)) HP.out HN.out HT.out y HY.out.1 HY.out.2 HK.out KA kc).mono ?_
          rintro e w5 ⟨c5, t5, rfl, hv, htold⟩
          have F5 := Lib.hid hv
          have T5 := Lib.hid htold
          clear hv
          unfold Told at htold
          by_cases hbad : c5 = 20 ∨ c5 = 1
          · have ht5 : t5 = t := told_20 T5.out (by rcases hbad with h | h <;> rw [h] <;> decide)
            subst ht5
            clear htold
            have d1 : (c5 == 21) = false := by rcases hbad with h | h <;> rw [h] <;> rfl
            have d0 : (c5 == 0) = false := by rcases hbad with h | h <;> rw [h] <;> rfl
            clear hbad
            cases htn : decide ((N : Int) < (t5 : Int)) with
            | true =>
              have htn2 : decide (N < t5) = true := by simpa using htn
              go_wp2_with fail
              go_roundw
              case rel => exact ⟨k + 1, t5, by omega, by omega, by go_num, rfl, F5.out⟩
              case measure => simp [intOf]; omega
            | false =>
              have htn2 : decide (N < t5) = false := by simpa using htn
              go_wp2_with fail
              go_roundw
              case rel => exact ⟨k + 1, t5, by omega, by omega, by go_num, rfl, F5.out⟩
              case measure => simp [intOf]; omega
          · have hgo : c5 = (if N < t + 1 then 21 else 0) ∧ t5 = t + 1 := by
              rcases htold with ⟨h, _⟩ | h
              · exact absurd h hbad
              · exact h
            clear htold hbad
            obtain ⟨hc5, rfl⟩ := hgo
            by_cases hdd : N < t + 1
            · rw [if_pos hdd] at hc5
              subst hc5
              have e1 : decide ((N : Int) < (t : Int) + 1) = true := decide_eq_true (by omega)
              have e2 : decide (N < t + 1) = true := decide_eq_true hdd
              clear hdd
              go_wp2_with fail
              go_roundw
              case rel => exact ⟨k + 1, t + 1, by omega, by omega, by go_num, by go_num, F5.out⟩
              case measure => simp [intOf]; omega
            · rw [if_neg hdd] at hc5
              subst hc5
              have e1 : decide ((N : Int) < (t : Int) + 1) = false := decide_eq_false (by omega)
              have e2 : decide (N < t + 1) = false := decide_eq_false hdd
              clear hdd
              go_wp2_with fail
              go_roundw
              case rel => exact ⟨k + 1, t + 1, by omega, by omega, by go_num, by go_num, F5.out⟩
              case measure => simp [intOf]; omega
      · by_cases k1 : y.f0 = 1
        · have HK := Lib.hid (show y.f0 = 0 ∨ y.f0 = 1 from Or.inr k1)
          have t0 : (y.f0 != 1) = false := by rw [k1]; rfl
          have t1 : (y.f0 == 1) = true := by rw [k1]; rfl
          have t2 : (y.f0 != 0) = true := by rw [k1]; rfl
          have t3 : (y.f0 == 0) = false := by rw [k1]; rfl
          clear k0 k1
          go_wp2_with fail
          clear z0 z1 z2 z3 z4 x0 x1 x2 x3 x4
          refine (done_fuse F4.out (Nat.le_trans HWO.out (Nat.le_refl _)) HP.out HN.out HT.out y HY.out.1 HY.out.2 HK.out KA kc).mono ?_
          rintro e w5 ⟨c5, t5, rfl, hv, htold⟩
          have F5 := Lib.hid hv
          have T5 := Lib.hid htold
          clear hv
          unfold Told at htold
          by_cases hbad : c5 = 20 ∨ c5 = 1
          · have ht5 : t5 = t := told_20 T5.out (by rcases hbad with h | h <;> rw [h] <;> decide)
            subst ht5
            clear htold
            have d1 : (c5 == 21) = false := by rcases hbad with h | h <;> rw [h] <;> rfl
            have d0 : (c5 == 0) = false := by rcases hbad with h | h <;> rw [h] <;> rfl
            clear hbad
            cases htn : decide ((N : Int) < (t5 : Int)) with
            | true =>
              have htn2 : decide (N < t5) = true := by simpa using htn
              go_wp2_with fail
              go_roundw
              case rel => exact ⟨k + 1, t5, by omega, by omega, by go_num, rfl, F5.out⟩
              case measure => simp [intOf]; omega
            | false =>
              have htn2 : decide (N < t5) = false := by simpa using htn
              go_wp2_with fail
              go_roundw
              case rel => exact ⟨k + 1, t5, by omega, by omega, by go_num, rfl, F5.out⟩
              case measure => simp [intOf]; omega
          · have hgo : c5 = (if N < t + 1 then 21 else 0) ∧ t5 = t + 1 := by
              rcases htold with ⟨h, _⟩ | h
              · exact absurd h hbad
              · exact h
            clear htold hbad
            obtain ⟨hc5, rfl⟩ := hgo
            by_cases hdd : N < t + 1
            · rw [if_pos hdd] at hc5
              subst hc5
              have e1 : decide ((N : Int) < (t : Int) + 1) = true := decide_eq_true (by omega)
              have e2 : decide (N < t + 1) = true := decide_eq_true hdd
              clear hdd
              go_wp2_with fail
              go_roundw
              case rel => exact ⟨k + 1, t + 1, by omega, by omega, by go_num, by go_num, F5.out⟩
              case measure => simp [intOf]; omega
            · rw [if_neg hdd] at hc5
              subst hc5
              have e1 : decide ((N : Int) < (t : Int) + 1) = false := decide_eq_false (by omega)
              have e2 : decide (N < t + 1) = false := decide_eq_false hdd
              clear hdd
              go_wp2_with fail
              go_roundw
              case rel => exact ⟨k + 1, t + 1, by omega, by omega, by go_num, by go_num, F5.out⟩
              case measure => simp [intOf]; omega
        · have t0 : (y.f0 == 1) = false := by rw [beq_eq_false_iff_ne]; exact k1
          have t1 : (y.f0 != 1) = true := by rw [bne_iff_ne]; exact k1
          have t2 : (y.f0 == 0) = false := by rw [beq_eq_false_iff_ne]; exact k0
          have t3 : (y.f0 != 0) = true := by rw [bne_iff_ne]; exact k0
          clear k0 k1
          go_wp2_with fail
          go_roundw
          case rel => exact ⟨k + 1, t, by omega, by omega, by go_num, rfl, F4.out⟩
          case measure => simp [intOf]; omega
    · obtain rfl : k = l.length := by omega
      clear hlt hk
      obtain ⟨v, L, W, hv, _, _⟩ := F.out
      have V := Lib.hid hv
      have BB := Lib.hid F.out.b
      have emin : min (N : Int) (t : Int) = ((min t N : Nat) : Int) := by omega
      have ed : decide ((N : Int) < (t : Int)) = decide (N < t) := by
        by_cases h : N < t
        · rw [decide_eq_true h, decide_eq_true (by omega)]
        · rw [decide_eq_false h, decide_eq_false (by omega)]
      have HED := Lib.hid ed
      clear hv ed
      go_wp2_with fail
      refine (steps_ok V.out).mono ?_
      rintro e w5 ⟨rfl, rfl⟩
      obtain ⟨m, hm⟩ : ∃ m : Int, ((min t N : Nat) : Int) = m := ⟨_, rfl⟩
      rw [hm] at emin ⊢
      go_wp2_with fail
      refine (dead_ok V.out).mono ?_
      rintro e w5 ⟨rfl, rfl⟩
      cases hdd : decide (N < t) with
      | true =>
        have h1 := HED.out
        rw [hdd] at h1
        go_wp2_with fail
        refine (eight_any _).mono ?_
        rintro e w7 ⟨rfl, b7⟩
        have BF := Lib.hid (below_two BB.out b7)
        clear b7
        go_wp2
        go_ret
        exact ⟨rfl, BF.out⟩
      | false =>
        have h1 := HED.out
        rw [hdd] at h1
        go_wp2_with fail
        refine (eight_any _).mono ?_
        rintro e w7 ⟨rfl, b7⟩
        have BF := Lib.hid (below_two BB.out b7)
        clear b7
        go_wp2
        go_ret
        exact ⟨rfl, BF.out⟩
set_option maxHeartbeats 4000000 in
theorem fuse_any (m : Int) (hm : (Lit.int .i64 m).wf = true) (A : Option Addr) (c : Nat) (l : List S35) (w : World) (hl : Kd.C k35 w A l.length l) (hc : l.length ≤ c) (hok : LOK l) :
    Calls Try.prog 3 #[.int .i64 m, .slice A l.length c] w fun e w' => e = .returned (.bool true) ∧ Below w.heap.size w w' := by
  have HL := Lib.hid hl
  have small : ∀ b : Bool, largeB l = b → (b = true ∨ m < 0) → Calls Try.prog 3 #[.int .i64 m, .slice A l.length c] w fun e w' => e = .returned (.bool true) ∧ Below w.heap.size w w' := by
    intro b hb hor
    have HG := Lib.hid hb
    cases b with
    | true =>
      clear hb hor hl hok
      go_enter Try.func3, Try.ntmps3
      go_wp2_with fail
      refine (large_any A c l w HL.out hc).mono ?_
      rintro e w1 ⟨rfl, b1⟩
      rw [HG.out]
      have B1 := Lib.hid b1; clear b1
      go_wp2_with fail
      refine (eight_any w1).mono ?_
      rintro e w2 ⟨rfl, b2⟩
      have B2 := Lib.hid (below_two B1.out b2); clear b2
      go_wp2
      go_ret
      exact ⟨rfl, B2.out⟩
    | false =>
      have hm0 : m < 0 := by
        rcases hor with h | h
        · cases h
        · exact h
      have k1 : decide (m < 0) = true := decide_eq_true hm0
      clear hb hor hl hok hm0
      go_enter Try.func3, Try.ntmps3
      go_wp2_with fail
      refine (large_any A c l w HL.out hc).mono ?_
      rintro e w1 ⟨rfl, b1⟩
      rw [HG.out]
      have B1 := Lib.hid b1; clear b1
      go_wp2_with fail
      refine (eight_any w1).mono ?_
      rintro e w2 ⟨rfl, b2⟩
      have B2 := Lib.hid (below_two B1.out b2); clear b2
      go_wp2
      go_ret
      exact ⟨rfl, B2.out⟩
  cases hlg : largeB l with
  | true => exact small true hlg (Or.inl rfl)
  | false =>
    by_cases hm0 : m < 0
    · exact small false hlg (Or.inr hm0)
    · obtain ⟨n, rfl⟩ : ∃ n : Nat, m = (n : Int) := ⟨m.toNat, by omega⟩
      exact fuse_mid n (by simp [Lit.wf] at hm; omega) A c l w hl hc hok hlg
end Go.Proofs.Ytekcidfipdjfdaa.Own
