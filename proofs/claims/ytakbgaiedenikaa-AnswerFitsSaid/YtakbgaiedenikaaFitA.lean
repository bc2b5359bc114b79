/- Several texts of this claim in one. -/
import Derived.Test.YtakbgaiedenikaaMay
import Derived.Test.YtakbgaiedenikaaPuEnc
import Derived.Test.YtakbgaiedenikaaPBx4
import Derived.Test.YtakbgaiedenikaaPBx12
import Derived.Test.YtakbgaiedenikaaEncA
import Derived.Test.YtakbgaiedenikaaDecB
import Derived.Test.YtakbgaiedenikaaPMayRefB
/- How many records fit. -/
namespace Go.Proofs.Ytakbgaiedenikaa.PuB
open Go.RowKit Go.Proofs.YtakbgaiedenikaaW.PrintWords Go.Proofs.Ytakbgaiedenikaa.Pu Go.Proofs.Ytakbgaiedenikaa.PB
set_option linter.unusedSimpArgs false
set_option linter.unusedVariables false
theorem recSize_ev (x : S54) (h : mayB x = true) : Ev (fun k => record_Size.f k x.f0 x.f1 x.f2 x.f3 x.f4 x.f5 x.f6 x.f7) ((Own.recB x).length : Int) := by
  unfold record_Size.f
  refine Ev.bind (recMay_ev x) ?_
  refine Ev.pos h ?_
  refine Ev.cst ?_
  rw [enc_eq x h]
  simp only [Option.bind_some, Own.sB_size]
  rfl
/-- How many records fit, from so many bytes on. -/
def fitN : List S54 → Nat → Nat
  | [], _ => 0
  | x :: l, n => if 575 < n + (Own.recB x).length then 0 else fitN l (n + (Own.recB x).length) + 1
theorem fitN_le : ∀ (l : List S54) (n : Nat), fitN l n ≤ l.length
  | [], _ => Nat.le_refl _
  | x :: l, n => by
    rw [fitN]
    split
    · exact Nat.zero_le _
    · have := fitN_le l (n + (Own.recB x).length)
      rw [List.length_cons]; omega
theorem fitN_bytes : ∀ (l : List S54) (n : Nat), n ≤ 575 → n + ((l.take (fitN l n)).flatMap Own.recB).length ≤ 575
  | [], n, h => by simpa [fitN] using h
  | x :: l, n, h => by
    rw [fitN]
    split
    · simpa using h
    · next hc =>
      have := fitN_bytes l (n + (Own.recB x).length) (by omega)
      rw [List.take_succ_cons, List.flatMap_cons, List.length_append]; omega
theorem fit_l0 (l : List S54) (hl : l.length ≤ 1000) (hm : ∀ x ∈ l, mayB x = true) : ∀ (d j n : Nat), j + d = l.length → n ≤ 575 → Ev (fun k => answer_Fit.l0 k l (n : Int) l (l.length : Int) (j : Int)) ((j + fitN (l.drop j) n : Nat) : Int) := by
  intro d
  induction d with
  | zero =>
    intro j n hj hn
    refine Ev.step (fun k => answer_Fit.l0.eq_2 ..) (Ev.neg (by omega) (Ev.get (Ev.now _) ?_))
    rw [List.drop_of_length_le (by omega), fitN]; simp; omega
  | succ d ih =>
    intro j n hj hn
    have hlt : j < l.length := by omega
    have hx := hm _ (List.getElem_mem hlt)
    have hb := Own.recB_len _ hx
    refine Ev.step (fun k => answer_Fit.l0.eq_2 ..) (Ev.pos (by omega) (Ev.pos (by omega) (Ev.pos (by omega) ?_)))
    rw [rd54 l j hlt, List.drop_eq_getElem_cons hlt]
    refine Ev.bind (recSize_ev _ hx) ?_
    have hw : wrap64 ((n : Int) + ((Own.recB l[j]).length : Int)) = ((n + (Own.recB l[j]).length : Nat) : Int) := by rw [wrap_id (by omega) (by omega)]; omega
    rw [hw, fitN]
    by_cases hc : 575 < n + (Own.recB l[j]).length
    · exact Ev.pos (by omega) (Ev.get (Ev.now _) (by rw [if_pos hc]; simp))
    · refine Ev.neg (by omega) ?_
      rw [if_neg hc, wrap_succ (by omega)]
      exact Ev.get (ih (j + 1) _ (by omega) (by omega)) (by omega)
theorem fit_ev (l : List S54) (hl : l.length ≤ 1000) (hm : ∀ x ∈ l, mayB x = true) : Ev (fun k => answer_Fit.f k l) ((fitN l 0 : Nat) : Int) :=
  Ev.get (fit_l0 l hl hm l.length 0 0 (by omega) (by omega)) (by rw [List.drop_zero, Nat.zero_add])
theorem rfit_l0 (l : List S54) (hl : l.length ≤ 1000) (hm : ∀ x ∈ l, mayB x = true) : ∀ (d j n : Nat), j + d = l.length → n ≤ 575 → Ev (fun k => weighlockref35_Fit.l0 k l (n : Int) l (l.length : Int) (j : Int)) ((j + fitN (l.drop j) n : Nat) : Int) := by
  intro d
  induction d with
  | zero =>
    intro j n hj hn
    refine Ev.step (fun k => weighlockref35_Fit.l0.eq_2 ..) (Ev.neg (by omega) (Ev.get (Ev.now _) ?_))
    rw [List.drop_of_length_le (by omega), fitN]; simp; omega
  | succ d ih =>
    intro j n hj hn
    have hlt : j < l.length := by omega
    have hx := hm _ (List.getElem_mem hlt)
    have hb := Own.recB_len _ hx
    refine Ev.step (fun k => weighlockref35_Fit.l0.eq_2 ..) (Ev.pos (by omega) (Ev.pos (by omega) (Ev.pos (by omega) ?_)))
    rw [rd54 l j hlt, List.drop_eq_getElem_cons hlt]
    refine Ev.bind (refEnc_ev _ _ _ _ _ _ _ _ hx) ?_
    have hz : (Own.sB (Own.recL l[j].f0.toNat l[j].f1.toNat l[j].f5.toNat l[j].f6.toNat l[j].f7.toNat l[j].f4 l[j].f2 l[j].f3)).size = (Own.recB l[j]).length := Own.sB_size _
    rw [hz]
    have hw : wrap64 ((n : Int) + ((Own.recB l[j]).length : Int)) = ((n + (Own.recB l[j]).length : Nat) : Int) := by rw [wrap_id (by omega) (by omega)]; omega
    rw [hw, fitN]
    by_cases hc : 575 < n + (Own.recB l[j]).length
    · exact Ev.pos (by omega) (Ev.get (Ev.now _) (by rw [if_pos hc]; simp))
    · refine Ev.neg (by omega) ?_
      rw [if_neg hc, wrap_succ (by omega)]
      exact Ev.get (ih (j + 1) _ (by omega) (by omega)) (by omega)
theorem rfit_ev (l : List S54) (hl : l.length ≤ 1000) (hm : ∀ x ∈ l, mayB x = true) : Ev (fun k => weighlockref35_Fit.f k l) ((fitN l 0 : Nat) : Int) :=
  Ev.get (rfit_l0 l hl hm l.length 0 0 (by omega) (by omega)) (by rw [List.drop_zero, Nat.zero_add])
end Go.Proofs.Ytakbgaiedenikaa.PuB
/- AnswerFits, by hand. -/
namespace Go.Proofs.Ytakbgaiedenikaa.Rd
open Go.RowKit Go.Proofs.YtakbgaiedenikaaW.PrintWords Go.Proofs.Ytakbgaiedenikaa.PB
set_option maxRecDepth 100000
set_option linter.unusedSimpArgs false
set_option linter.unusedVariables false
theorem chainL_len6 {v : Nat} (h : v ≤ 1099511627776) : (Own.chainL v).length ≤ 6 := by
  have key : ∀ k v, v < 128 ^ (k + 1) → (Own.chainL v).length ≤ k + 1 := by
    intro k
    induction k with
    | zero => intro v hv; rw [Own.chainL_lt (by simpa using hv)]; simp
    | succ k ih =>
      intro v hv
      by_cases h : v < 128
      · rw [Own.chainL_lt h]; simp
      · rw [Own.chainL_ge (by omega), List.length_cons]
        have := ih (v / 128) (by rw [Nat.div_lt_iff_lt_mul (by decide)]; rw [Nat.pow_succ] at hv; exact hv)
        omega
  exact key 5 v (by have : (128 : Nat) ^ (5 + 1) = 4398046511104 := by decide
                    omega)
theorem chainL_len1 {v : Nat} (h : v < 128) : (Own.chainL v).length = 1 := by rw [Own.chainL_lt h]; rfl
theorem fits_body (a b : Nat) (l : List S54) (ha : a ≤ 1099511627776) (hb : b ≤ 1099511627776) (hl : l.length ≤ 100) (hf : (l.flatMap Own.recB).length ≤ 575) : (Own.bodyL a b l [] []).length ≤ 594 := by
  have h1 := chainL_len6 ha
  have h2 := chainL_len6 hb
  have h3 := chainL_len1 (v := l.length) (by omega)
  have h4 := chainL_len1 (v := 0) (by omega)
  have h5 : (l.flatMap recB).length ≤ 575 := hf
  rw [bodyL_eq]
  simp only [List.length_append, List.length_nil, List.flatMap_nil]
  omega
theorem encode_fit (a b : Nat) (A : Option Addr) (c : Nat) (l : List S54) (w : World) (hr : Kd.C k54 w A l.length l) (hc : l.length ≤ c) (hl : l.length ≤ 100) (hm : ∀ x ∈ l, PuB.mayB x = true) (ha : a ≤ 1099511627776) (hb : b ≤ 1099511627776) (hf : (l.flatMap Own.recB).length ≤ 575) :
    Calls Try.prog 9 #[.agg #[.int .i64 0, .int .i64 0, .int .i64 0, .int .i64 (a : Int), .int .i64 (b : Int), .slice A l.length c, .slice none 0 0, .slice none 0 0]] w fun e w' => (∃ s, e = .returned (.tuple #[.string s, .int .i64 0])) ∧ Below w.heap.size w w' := by
  have hF : Fits ⟨0, 0, 0, a, b, l, [], []⟩ := ⟨Nat.zero_le _, Nat.zero_le _, Nat.zero_le _, ha, hb, hm, by simp, hl, by simp, by simp, fits_body a b l ha hb hl hf⟩
  refine (encode_raw ⟨0, 0, 0, a, b, l, [], []⟩ A c none 0 none 0 w hF ⟨hr, hc, C_none _ _, Nat.le_refl _, C_none _ _, Nat.le_refl _⟩).mono ?_
  rintro e w' ⟨rfl, h⟩
  exact ⟨⟨_, rfl⟩, h⟩
theorem mayRef_any (x : S54) (w : World) : Calls Try.prog 19 #[.agg #[.int .i64 x.f0, .int .i64 x.f1, .string x.f2, .string x.f3, .bool x.f4, .int .i64 x.f5, .int .i64 x.f6, .int .i64 x.f7]] w fun e w' => e = .returned (.bool (PuB.mayB x)) ∧ Below w.heap.size w w' := by
  obtain ⟨k, hk⟩ := Ev.rounds (PuB.refMay_ev x)
  exact weighlockref16_May.calls k _ _ _ _ _ _ _ _ _ w hk
theorem fit_any (A : Option Addr) (c : Nat) (l : List S54) (w : World) (hr : Kd.C k54 w A l.length l) (hc : l.length ≤ c) (hl : l.length ≤ 100) (hm : ∀ x ∈ l, PuB.mayB x = true) : Calls Try.prog 20 #[.slice A l.length c] w fun e w' => e = .returned (.int .i64 (PuB.fitN l 0 : Int)) ∧ Below w.heap.size w w' := by
  obtain ⟨k, hk⟩ := Ev.rounds (PuB.fit_ev l (by omega) hm)
  exact answer_Fit.calls k A c l _ w hr hc hk
theorem rfit_any (A : Option Addr) (c : Nat) (l : List S54) (w : World) (hr : Kd.C k54 w A l.length l) (hc : l.length ≤ c) (hl : l.length ≤ 100) (hm : ∀ x ∈ l, PuB.mayB x = true) : Calls Try.prog 21 #[.slice A l.length c] w fun e w' => e = .returned (.int .i64 (PuB.fitN l 0 : Int)) ∧ Below w.heap.size w w' := by
  obtain ⟨k, hk⟩ := Ev.rounds (PuB.rfit_ev l (by omega) hm)
  exact weighlockref35_Fit.calls k A c l _ w hr hc hk
set_option maxHeartbeats 1000000 in
theorem fits_any (A : Option Addr) (c : Nat) (l : List S54) (a b : Int) (w : World) (hr : Kd.C k54 w A l.length l) (hc : l.length ≤ c) :
    Calls Try.prog 6 #[.slice A l.length c, .int .i64 a, .int .i64 b] w fun e w' => e = .returned (.bool true) ∧ Below w.heap.size w w' := by
  by_cases hl : l.length ≤ 100
  · have g0 : ¬ (100 : Int) < (l.length : Int) := by omega
    have HR := Lib.hid hr; clear hr
    go_enter Try.func6, Try.ntmps6
    go_wp2_with fail
    go_loopw [18] (fun i wr => ∃ k : Nat, k ≤ l.length ∧ i = .int .i64 (k : Int) ∧ (∀ j (h : j < l.length), j < k → PuB.mayB l[j] = true) ∧ Below w.heap.size w wr) (fun i _ => l.length - (intOf i).toNat)
    case atStart => exact ⟨0, Nat.zero_le _, rfl, fun _ _ h => absurd h (Nat.not_lt_zero _), Below.refl _ _⟩
    case round =>
      obtain ⟨k, hk, rfl, hall, hbel⟩ := hrel
      have HA := Lib.hid hall; clear hall
      have HB := Lib.hid hbel; clear hbel
      by_cases hlt : k < l.length
      · have p1 : (0 : Int) ≤ (k : Int) := Int.natCast_nonneg _
        have p2 : (k : Int) < (l.length : Int) := by omega
        obtain ⟨ad, e1, x0, x1, x2, x3, x4, x5, x6, x7⟩ := at_T54 (Kd.C_below HR.out HB.out) (k : Int) p1 p2
        cases e1
        rw [Int.toNat_natCast] at x0 x1 x2 x3 x4 x5 x6 x7
        have hx : rd_T54 l (k : Int) = l[k] := PuB.rd54 l k hlt
        rw [hx] at x0 x1 x2 x3 x4 x5 x6 x7
        have HX := Lib.hid hx; clear hx
        have HK := Lib.hid (fun (h : PuB.mayB l[k] = true) => (show ∀ j (hj : j < l.length), j < k + 1 → PuB.mayB l[j] = true from fun j hj h2 => by
          rcases Nat.lt_succ_iff_lt_or_eq.1 h2 with h3 | rfl
          · exact HA.out j hj h3
          · exact h))
        generalize l[k] = x at *
        go_wp2_with fail
        have b1 := HB.out.alloc (o := .cells #[.int .i64 x.f0, .int .i64 x.f1, .string x.f2, .string x.f3, .bool x.f4, .int .i64 x.f5, .int .i64 x.f6, .int .i64 x.f7] 54) HB.out.size
        clear x0 x1 x2 x3 x4 x5 x6 x7
        generalize wr.alloc _ = W1 at *
        refine (mayRef_any x W1).mono ?_
        rintro e w2 ⟨rfl, b2⟩
        have B2 := Lib.hid (b1.trans (b2.mono b1.size)); clear b1 b2
        cases hm : PuB.mayB x with
        | true =>
          have HK2 := Lib.hid (HK.out hm)
          go_wp2
          go_roundw
          case rel => exact ⟨k + 1, hlt, by go_num, HK2.out, B2.out⟩
          case measure => simp [intOf]; omega
        | false =>
          go_wp2_with fail
          refine (plain_true w2).mono ?_
          rintro e w3 ⟨rfl, b3⟩
          have B3 := Lib.hid (B2.out.trans (b3.mono B2.out.size)); clear b3
          go_wp2
          go_ret
          exact ⟨rfl, B3.out⟩
      · obtain rfl : k = l.length := by omega
        have hd : decide ((l.length : Int) < (l.length : Int)) = false := by simp
        have hM : ∀ x ∈ l, PuB.mayB x = true := fun x hx => by
          obtain ⟨j, hj, rfl⟩ := List.mem_iff_getElem.1 hx
          exact HA.out j hj hj
        have HM := Lib.hid hM; clear hM HA
        have HRr := Lib.hid (Kd.C_below HR.out HB.out)
        go_wp2_with fail
        refine (fit_any A c l wr HRr.out hc hl HM.out).mono ?_
        rintro e w2 ⟨rfl, b2⟩
        have B2 := Lib.hid (HB.out.trans (b2.mono HB.out.size))
        have HR2 := Lib.hid (Kd.C_below HRr.out b2); clear b2
        go_wp2_with fail
        refine (rfit_any A c l w2 HR2.out hc hl HM.out).mono ?_
        rintro e w3 ⟨rfl, b3⟩
        have B3 := Lib.hid (B2.out.trans (b3.mono B2.out.size))
        have HR3 := Lib.hid (Kd.C_below HR2.out b3); clear b3
        have hn := PuB.fitN_le l 0
        have hby := PuB.fitN_bytes l 0 (by decide)
        rw [Nat.zero_add] at hby
        have HBY := Lib.hid hby; clear hby
        generalize PuB.fitN l 0 = n at *
        by_cases hab : (0 ≤ a ∧ a ≤ 1099511627776) ∧ 0 ≤ b ∧ b ≤ 1099511627776
        · obtain ⟨⟨a0, a1⟩, b0, b1⟩ := hab
          obtain ⟨na, rfl⟩ : ∃ m : Nat, a = m := ⟨a.toNat, by omega⟩
          obtain ⟨nb, rfl⟩ : ∃ m : Nat, b = m := ⟨b.toNat, by omega⟩
          have c1 : ¬ (na : Int) < 0 := by omega
          have c2 : ¬ (1099511627776 : Int) < (na : Int) := by omega
          have c3 : ¬ (nb : Int) < 0 := by omega
          have c4 : ¬ (1099511627776 : Int) < (nb : Int) := by omega
          obtain ⟨i0, hi, hz⟩ := Option.map_eq_some_iff.1 info54
          have kc := cut_to (P := Try.prog) 23 54 .i64 Try.underlying23 hi A l.length c (n : Int) (by omega) (by omega) hc
          rw [Int.toNat_natCast] at kc
          have hC : Kd.C k54 w3 A (l.take n).length (l.take n) := Kd.C_take HR3.out hn
          have hlt : (l.take n).length = n := by rw [List.length_take]; omega
          have HC := Lib.hid hC; clear hC
          have HM2 := Lib.hid (fun x (hx : x ∈ l.take n) => HM.out x (List.mem_of_mem_take hx))
          generalize l.take n = t at *
          subst hlt
          go_wp2_with fail
          refine (encode_fit na nb A c t w3 HC.out (by omega) (by omega) HM2.out (by omega) (by omega) HBY.out).mono ?_
          rintro e w4 ⟨⟨s, rfl⟩, b4⟩
          have B4 := Lib.hid (B3.out.trans (b4.mono B3.out.size)); clear b4
          go_wp2_with fail
          refine (plain_true w4).mono ?_
          rintro e w5 ⟨rfl, b5⟩
          have B5 := Lib.hid (B4.out.trans (b5.mono B4.out.size)); clear b5
          go_wp2
          go_ret
          exact ⟨rfl, B5.out⟩
        · have hor : a < 0 ∨ (¬ a < 0 ∧ 1099511627776 < a) ∨ (¬ a < 0 ∧ ¬ 1099511627776 < a ∧ b < 0) ∨ (¬ a < 0 ∧ ¬ 1099511627776 < a ∧ ¬ b < 0 ∧ 1099511627776 < b) := by omega
          clear hab hn
          rcases hor with c1 | ⟨c1, c2⟩ | ⟨c1, c2, c3⟩ | ⟨c1, c2, c3, c4⟩
          all_goals
            go_wp2_with fail
            refine (plain_true w3).mono ?_
            rintro e w5 ⟨rfl, b5⟩
            have B5 := Lib.hid (B3.out.trans (b5.mono B3.out.size)); clear b5
            go_wp2
            go_ret
            exact ⟨rfl, B5.out⟩
  · have g0 : (100 : Int) < (l.length : Int) := by omega
    clear hr
    go_enter Try.func6, Try.ntmps6
    go_wp2_with fail
    refine (plain_true w).mono ?_
    rintro e w2 ⟨rfl, b2⟩
    go_wp2
    go_ret
    exact ⟨rfl, b2⟩
end Go.Proofs.Ytakbgaiedenikaa.Rd
