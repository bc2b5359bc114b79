/- AnswerEncodes, by hand. -/
import Derived.Test.YtakbgaiedenikaaDecB
import Derived.Test.YtakbgaiedenikaaSame35
import Derived.Test.YtakbgaiedenikaaPuEncR
namespace Go.Proofs.Ytakbgaiedenikaa.Rd
open Go.RowKit Go.Proofs.YtakbgaiedenikaaW.PrintWords Go.Proofs.Ytakbgaiedenikaa.PB
set_option maxRecDepth 100000
set_option linter.unusedSimpArgs false
set_option linter.unusedVariables false
theorem any_take {α : Type} (f : α → Bool) (l : List α) (m : Nat) (h : m < l.length) (h0 : (l.take m).any f = false) (h1 : f l[m] = false) : (l.take (m + 1)).any f = false := by
  rw [List.take_succ_eq_append_getElem h, List.any_append, h0]; simp [h1]
set_option maxHeartbeats 1000000 in
theorem large_any (i k c a b : Int) (A5 : Option Addr) (c5 : Nat) (rs : List S54) (A6 : Option Addr) (c6 : Nat) (ns : List ByteArray) (A7 : Option Addr) (c7 : Nat) (ks : List Int) (w : World) (hr : RowsA ⟨0, 0, 0, 0, 0, rs, ns, ks⟩ A5 c5 A6 c6 A7 c7 w) : Calls Try.prog 7 #[.agg #[.int .i64 i, .int .i64 k, .int .i64 c, .int .i64 a, .int .i64 b, .slice A5 rs.length c5, .slice A6 ns.length c6, .slice A7 ks.length c7]] w fun e w' => e = .returned (.bool (PuB.largeB rs ns ks)) ∧ Below w.heap.size w w' := by
  have e0 := Own.heap_new w (.cells #[.int .i64 i, .int .i64 k, .int .i64 c, .int .i64 a, .int .i64 b, .slice A5 rs.length c5, .slice A6 ns.length c6, .slice A7 ks.length c7] 27)
  have b0 : Below w.heap.size w (w.alloc (.cells #[.int .i64 i, .int .i64 k, .int .i64 c, .int .i64 a, .int .i64 b, .slice A5 rs.length c5, .slice A6 ns.length c6, .slice A7 ks.length c7] 27)) := (Below.refl _ _).alloc (Nat.le_refl _) _
  have HX := Lib.hid e0; have HW := Lib.hid (hr.below b0); have HB := Lib.hid b0
  clear e0 b0 hr
  have k5 := HW.out.h5.2.1
  have k6 := HW.out.h6.2.1
  have k7 := HW.out.h7.2.1
  simp only at k5 k6 k7
  go_enter Try.func7, Try.ntmps7
  go_upto_region 1 with (fail)
  change Code.wp _ _ _ _ (w.alloc (.cells #[.int .i64 i, .int .i64 k, .int .i64 c, .int .i64 a, .int .i64 b, .slice A5 rs.length c5, .slice A6 ns.length c6, .slice A7 ks.length c7] 27))
  generalize w.alloc (.cells #[.int .i64 i, .int .i64 k, .int .i64 c, .int .i64 a, .int .i64 b, .slice A5 rs.length c5, .slice A6 ns.length c6, .slice A7 ks.length c7] 27) = W0 at *
  obtain ⟨q0, q1, q2, q3, q4, q5, q6, q7⟩ := ocells HX.out
  go_wp2_with fail
  clear q0 q1 q2 q3 q4 q5 q6 q7
  go_loopw [10] (fun v wr => ∃ m : Nat, m ≤ rs.length ∧ v = .int .i64 (m : Int) ∧ (rs.take m).any PuB.largeR = false ∧ Below W0.heap.size W0 wr) (fun v _ => rs.length - (intOf v).toNat)
  case atStart => exact ⟨0, Nat.zero_le _, rfl, rfl, Below.refl _ _⟩
  case round =>
    obtain ⟨m, hm, rfl, hany, bel⟩ := hrel
    have HANY := Lib.hid hany; clear hany
    have BEL := Lib.hid bel; clear bel
    by_cases hlt : m < rs.length
    · have p1 : (0 : Int) ≤ (m : Int) := Int.natCast_nonneg _
      have p2 : (m : Int) < (rs.length : Int) := by omega
      obtain ⟨ad, e1, x0, x1, x2, x3, x4, x5, x6, x7⟩ := at_T54 (Kd.C_below HW.out.h5 BEL.out) (m : Int) p1 p2
      cases e1
      rw [Int.toNat_natCast] at x0 x1 x2 x3 x4 x5 x6 x7
      have hx : rd_T54 rs (m : Int) = rs[m] := PuB.rd54 rs m hlt
      rw [hx] at x0 x1 x2 x3 x4 x5 x6 x7
      have HA1 := Lib.hid (fun h => any_take PuB.largeR rs m hlt HANY.out h)
      have HA2 := Lib.hid (fun (h : PuB.largeR rs[m] = true) => (show PuB.largeB rs ns ks = true by rw [PuB.largeB, List.any_eq_true.2 ⟨_, List.getElem_mem hlt, h⟩, Bool.true_or]))
      clear hx
      generalize rs[m] = x at *
      have BW : Hid (Below w.heap.size w (wr.alloc (.cells #[.int .i64 x.f0, .int .i64 x.f1, .string x.f2, .string x.f3, .bool x.f4, .int .i64 x.f5, .int .i64 x.f6, .int .i64 x.f7] 54))) := Lib.hid ((HB.out.trans (BEL.out.mono HB.out.size)).alloc (Nat.le_trans HB.out.size BEL.out.size) _)
      have BV : Hid (Below W0.heap.size W0 (wr.alloc (.cells #[.int .i64 x.f0, .int .i64 x.f1, .string x.f2, .string x.f3, .bool x.f4, .int .i64 x.f5, .int .i64 x.f6, .int .i64 x.f7] 54))) := Lib.hid (BEL.out.alloc BEL.out.size _)
      by_cases h1 : 300 < x.f2.size
      · have h1' : (300 : Int) < (x.f2.size : Int) := by omega
        have hres := HA2.out (by simp [PuB.largeR, h1])
        have HR := Lib.hid hres; clear hres
        go_wp2
        go_ret
        exact ⟨by rw [HR.out]; rfl, BW.out⟩
      · have h1' : ¬ (300 : Int) < (x.f2.size : Int) := by omega
        by_cases h2 : 300 < x.f3.size
        · have h2' : (300 : Int) < (x.f3.size : Int) := by omega
          have hres := HA2.out (by simp [PuB.largeR, h2])
          have HR := Lib.hid hres; clear hres
          go_wp2
          go_ret
          exact ⟨by rw [HR.out]; rfl, BW.out⟩
        · have h2' : ¬ (300 : Int) < (x.f3.size : Int) := by omega
          have hres := HA1.out (by simp only [PuB.largeR, decide_eq_false h1, decide_eq_false h2, Bool.or_self])
          have HR := Lib.hid hres; clear hres
          go_wp2
          go_roundw
          case rel => exact ⟨m + 1, hlt, by go_num, HR.out, BV.out⟩
          case measure => simp [intOf]; omega
    · obtain rfl : m = rs.length := by omega
      have hd : ¬ (rs.length : Int) < (rs.length : Int) := by omega
      have hany := HANY.out
      rw [List.take_length] at hany
      have HAN := Lib.hid hany; clear hany HANY
      have HX2 := Lib.hid (Own.blk_below HX.out BEL.out)
      have HW2 := Lib.hid (HW.out.below BEL.out)
      have HB2 := Lib.hid (HB.out.trans (BEL.out.mono HB.out.size))
      clear HX HW HB BEL
      generalize wr = W1 at *
      obtain ⟨q0, q1, q2, q3, q4, q5, q6, q7⟩ := ocells HX2.out
      go_wp2_with fail
      go_loopw [28] (fun v wr => wr = W1 ∧ ∃ m : Nat, m ≤ ns.length ∧ v = .int .i64 (m : Int) ∧ (ns.take m).any (fun n => decide (300 < n.size)) = false) (fun v _ => ns.length - (intOf v).toNat)
      case atStart => exact ⟨rfl, 0, Nat.zero_le _, rfl, rfl⟩
      case round =>
        obtain ⟨rfl, m, hm2, rfl, hany⟩ := hrel
        have HANY := Lib.hid hany; clear hany
        by_cases hlt2 : m < ns.length
        · have p1 : (0 : Int) ≤ (m : Int) := Int.natCast_nonneg _
          have p2 : (m : Int) < (ns.length : Int) := by omega
          obtain ⟨ad, ea, x0⟩ := Kd.at_string HW2.out.h6 (m : Int) p1 p2
          cases ea
          rw [Int.toNat_natCast] at x0
          have hx : rdOf ByteArray.empty ns (m : Int) = ns[m] := PuB.rdS ns m hlt2
          rw [hx] at x0
          have HA1 := Lib.hid (fun h => any_take (fun n : ByteArray => decide (300 < n.size)) ns m hlt2 HANY.out h)
          have HA2 := Lib.hid (fun (h : decide (300 < ns[m].size) = true) => (show PuB.largeB rs ns ks = true by rw [PuB.largeB, List.any_eq_true.2 ⟨_, List.getElem_mem hlt2, h⟩, Bool.true_or, Bool.or_true]))
          clear hx
          generalize ns[m] = x at *
          by_cases h1 : 300 < x.size
          · have h1' : (300 : Int) < (x.size : Int) := by omega
            have HR := Lib.hid (HA2.out (decide_eq_true h1))
            go_wp2
            go_ret
            exact ⟨by rw [HR.out]; rfl, HB2.out⟩
          · have h1' : ¬ (300 : Int) < (x.size : Int) := by omega
            have HR := Lib.hid (HA1.out (decide_eq_false h1))
            go_wp2
            go_roundw
            case rel => exact ⟨by trivial, m + 1, hlt2, by go_num, HR.out⟩
            case measure => simp [intOf]; omega
        · obtain rfl : m = ns.length := by omega
          have hd2 : ¬ (ns.length : Int) < (ns.length : Int) := by omega
          have hany := HANY.out
          rw [List.take_length] at hany
          have HRES : Hid (PuB.largeB rs ns ks = (decide (60 < rs.length) || (decide (60 < ns.length) || decide (300 < ks.length)))) := Lib.hid (by rw [PuB.largeB, HAN.out, hany, PuB.largeE, Bool.false_or, Bool.false_or])
          clear hany HANY
          by_cases h1 : 60 < rs.length
          · have h1' : (60 : Int) < (rs.length : Int) := by omega
            go_wp2
            go_ret
            exact ⟨by rw [HRES.out, decide_eq_true h1, Bool.true_or]; rfl, HB2.out⟩
          · have h1' : ¬ (60 : Int) < (rs.length : Int) := by omega
            by_cases h2 : 60 < ns.length
            · have h2' : (60 : Int) < (ns.length : Int) := by omega
              go_wp2
              go_ret
              exact ⟨by rw [HRES.out, decide_eq_true h2, Bool.true_or, Bool.or_true]; rfl, HB2.out⟩
            · have h2' : ¬ (60 : Int) < (ns.length : Int) := by omega
              by_cases h3 : 300 < ks.length
              · have h3' : (300 : Int) < (ks.length : Int) := by omega
                go_wp2
                go_ret
                exact ⟨by rw [HRES.out, decide_eq_true h3, Bool.or_true, Bool.or_true]; rfl, HB2.out⟩
              · have h3' : ¬ (300 : Int) < (ks.length : Int) := by omega
                go_wp2
                go_ret
                exact ⟨by rw [HRES.out, decide_eq_false h1, decide_eq_false h2, decide_eq_false h3]; rfl, HB2.out⟩
theorem rmay_any (i k c a b : Int) (A5 : Option Addr) (c5 : Nat) (rs : List S54) (A6 : Option Addr) (c6 : Nat) (ns : List ByteArray) (A7 : Option Addr) (c7 : Nat) (ks : List Int) (w : World) (hr : RowsA ⟨0, 0, 0, 0, 0, rs, ns, ks⟩ A5 c5 A6 c6 A7 c7 w) (h5 : rs.length ≤ 1000) (h6 : ns.length ≤ 1000) (h7 : ks.length ≤ 1000) : Calls Try.prog 10 #[.agg #[.int .i64 i, .int .i64 k, .int .i64 c, .int .i64 a, .int .i64 b, .slice A5 rs.length c5, .slice A6 ns.length c6, .slice A7 ks.length c7]] w fun e w' => e = .returned (.bool (PuB.ansB i k c a b rs ns ks)) ∧ Below w.heap.size w w' := by
  obtain ⟨q, hq⟩ := Ev.rounds (PuB.ransMay_ev i k c a b rs ns ks (by omega) (by omega) (by omega))
  exact weighlockref35_May.calls q _ _ _ _ _ A5 c5 rs A6 c6 ns A7 c7 ks _ w hr.h5 hr.l5 hr.h6 hr.l6 hr.h7 hr.l7 hq
theorem amay_any (i k c a b : Int) (A5 : Option Addr) (c5 : Nat) (rs : List S54) (A6 : Option Addr) (c6 : Nat) (ns : List ByteArray) (A7 : Option Addr) (c7 : Nat) (ks : List Int) (w : World) (hr : RowsA ⟨0, 0, 0, 0, 0, rs, ns, ks⟩ A5 c5 A6 c6 A7 c7 w) (h5 : rs.length ≤ 1000) (h6 : ns.length ≤ 1000) (h7 : ks.length ≤ 1000) : Calls Try.prog 12 #[.agg #[.int .i64 i, .int .i64 k, .int .i64 c, .int .i64 a, .int .i64 b, .slice A5 rs.length c5, .slice A6 ns.length c6, .slice A7 ks.length c7]] w fun e w' => e = .returned (.bool (PuB.ansB i k c a b rs ns ks)) ∧ Below w.heap.size w w' := by
  obtain ⟨q, hq⟩ := Ev.rounds (PuB.ansMay_ev i k c a b rs ns ks (by omega) (by omega) (by omega))
  exact answer_May.calls q _ _ _ _ _ A5 c5 rs A6 c6 ns A7 c7 ks _ w hr.h5 hr.l5 hr.h6 hr.l6 hr.h7 hr.l7 hq
theorem rbody_any (i k c : Int) (a b : Nat) (A5 : Option Addr) (c5 : Nat) (rs : List S54) (A6 : Option Addr) (c6 : Nat) (ns : List ByteArray) (A7 : Option Addr) (c7 : Nat) (ks : List Int) (w : World) (hr : RowsA ⟨0, 0, 0, 0, 0, rs, ns, ks⟩ A5 c5 A6 c6 A7 c7 w) (ha : a ≤ 1099511627776) (hb : b ≤ 1099511627776) (hm : ∀ x ∈ rs, PuB.mayB x = true) (hs : ∀ x ∈ ns, x.size ≤ 300) (hk : ∀ x ∈ ks, 0 ≤ x ∧ x ≤ 1099511627776) (h5 : rs.length ≤ 100) (h6 : ns.length ≤ 600) (h7 : ks.length ≤ 600) : Calls Try.prog 13 #[.agg #[.int .i64 i, .int .i64 k, .int .i64 c, .int .i64 (a : Int), .int .i64 (b : Int), .slice A5 rs.length c5, .slice A6 ns.length c6, .slice A7 ks.length c7]] w fun e w' => e = .returned (.string (Own.sB (Own.bodyL a b rs ns ks))) ∧ Below w.heap.size w w' := by
  obtain ⟨q, hq⟩ := Ev.rounds (PuB.body_ev i k c a b rs ns ks ha hb hm hs hk h5 h6 h7)
  exact weighlockref35_Body.calls q _ _ _ _ _ A5 c5 rs A6 c6 ns A7 c7 ks _ w hr.h5 hr.l5 hr.h6 hr.l6 hr.h7 hr.l7 hq
theorem renc_any (i k c a b : Nat) (A5 : Option Addr) (c5 : Nat) (rs : List S54) (A6 : Option Addr) (c6 : Nat) (ns : List ByteArray) (A7 : Option Addr) (c7 : Nat) (ks : List Int) (w : World) (hr : RowsA ⟨0, 0, 0, 0, 0, rs, ns, ks⟩ A5 c5 A6 c6 A7 c7 w) (hf : Fits ⟨i, k, c, a, b, rs, ns, ks⟩) (hs : ∀ x ∈ ns, x.size ≤ 300) : Calls Try.prog 15 #[.agg #[.int .i64 (i : Int), .int .i64 (k : Int), .int .i64 (c : Int), .int .i64 (a : Int), .int .i64 (b : Int), .slice A5 rs.length c5, .slice A6 ns.length c6, .slice A7 ks.length c7]] w fun e w' => e = .returned (.string (Own.sB (outA ⟨i, k, c, a, b, rs, ns, ks⟩))) ∧ Below w.heap.size w w' := by
  obtain ⟨q, hq⟩ := Ev.rounds (PuB.renc_ev ⟨i, k, c, a, b, rs, ns, ks⟩ hf hs)
  exact weighlockref35_Encode.calls q _ _ _ _ _ A5 c5 rs A6 c6 ns A7 c7 ks _ w hr.h5 hr.l5 hr.h6 hr.l6 hr.h7 hr.l7 hq
theorem large_no {rs : List S54} {ns : List ByteArray} {ks : List Int} (h : PuB.largeB rs ns ks = false) : rs.length ≤ 60 ∧ ns.length ≤ 60 ∧ ks.length ≤ 300 ∧ ∀ x ∈ ns, x.size ≤ 300 := by
  unfold PuB.largeB PuB.largeE at h
  simp only [Bool.or_eq_false_iff, decide_eq_false_iff_not, List.any_eq_false] at h
  obtain ⟨_, h2, h3, h4, h5⟩ := h
  exact ⟨by omega, by omega, by omega, fun x hx => by have := h2 x hx; simp at this; omega⟩
theorem ansB_yes {i k c a b : Int} {rs : List S54} {ns : List ByteArray} {ks : List Int} (h : PuB.ansB i k c a b rs ns ks = true) : (∀ x ∈ rs, PuB.mayB x = true) ∧ (∀ x ∈ ns, x.size ≤ 64) ∧ (∀ x ∈ ks, 0 ≤ x ∧ x ≤ 1099511627776) ∧ (0 ≤ i ∧ i ≤ 65535) ∧ (0 ≤ k ∧ k ≤ 255) ∧ (0 ≤ c ∧ c ≤ 255) ∧ (0 ≤ a ∧ a ≤ 1099511627776) ∧ (0 ≤ b ∧ b ≤ 1099511627776) := by
  unfold PuB.ansB PuB.endB at h
  simp only [Bool.and_eq_true, PuB.upB_iff, List.all_eq_true, decide_eq_true_eq] at h
  exact ⟨h.1, h.2.1, h.2.2.1, h.2.2.2⟩
set_option maxHeartbeats 1000000 in
theorem encs_large (i k c a b : Int) (A5 : Option Addr) (c5 : Nat) (rs : List S54) (A6 : Option Addr) (c6 : Nat) (ns : List ByteArray) (A7 : Option Addr) (c7 : Nat) (ks : List Int) (w : World) (hr : RowsA ⟨0, 0, 0, 0, 0, rs, ns, ks⟩ A5 c5 A6 c6 A7 c7 w) (hL : PuB.largeB rs ns ks = true) : Calls Try.prog 3 #[.agg #[.int .i64 i, .int .i64 k, .int .i64 c, .int .i64 a, .int .i64 b, .slice A5 rs.length c5, .slice A6 ns.length c6, .slice A7 ks.length c7]] w fun e w' => e = .returned (.bool true) ∧ Below w.heap.size w w' := by
  have e0 := Own.heap_new w (.cells #[.int .i64 i, .int .i64 k, .int .i64 c, .int .i64 a, .int .i64 b, .slice A5 rs.length c5, .slice A6 ns.length c6, .slice A7 ks.length c7] 27)
  have b0 : Below w.heap.size w (w.alloc (.cells #[.int .i64 i, .int .i64 k, .int .i64 c, .int .i64 a, .int .i64 b, .slice A5 rs.length c5, .slice A6 ns.length c6, .slice A7 ks.length c7] 27)) := (Below.refl _ _).alloc (Nat.le_refl _) _
  have HX := Lib.hid e0; have HW := Lib.hid (hr.below b0); have HB := Lib.hid b0
  clear e0 b0 hr
  go_enter Try.func3, Try.ntmps3
  go_upto_region 1 with (fail)
  change Code.wp _ _ _ _ (w.alloc (.cells #[.int .i64 i, .int .i64 k, .int .i64 c, .int .i64 a, .int .i64 b, .slice A5 rs.length c5, .slice A6 ns.length c6, .slice A7 ks.length c7] 27))
  generalize w.alloc (.cells #[.int .i64 i, .int .i64 k, .int .i64 c, .int .i64 a, .int .i64 b, .slice A5 rs.length c5, .slice A6 ns.length c6, .slice A7 ks.length c7] 27) = W0 at *
  obtain ⟨q0, q1, q2, q3, q4, q5, q6, q7⟩ := ocells HX.out
  go_wp2_with fail
  refine (large_any i k c a b A5 c5 rs A6 c6 ns A7 c7 ks W0 HW.out).mono ?_
  rintro e w1 ⟨rfl, b1⟩
  rw [hL]
  have HX := Lib.hid (Own.blk_below HX.out b1); have HW := Lib.hid (HW.out.below b1); have HB := Lib.hid (HB.out.trans (b1.mono HB.out.size)); clear b1 q0 q1 q2 q3 q4 q5 q6 q7
  go_wp2_with fail
  refine (plain_true _).mono ?_
  rintro e w9 ⟨rfl, b9⟩
  have HB := Lib.hid (HB.out.trans (b9.mono HB.out.size)); clear b9
  go_wp2
  go_ret
  exact ⟨rfl, HB.out⟩
set_option maxHeartbeats 1000000 in
theorem encs_bad (i k c a b : Int) (A5 : Option Addr) (c5 : Nat) (rs : List S54) (A6 : Option Addr) (c6 : Nat) (ns : List ByteArray) (A7 : Option Addr) (c7 : Nat) (ks : List Int) (w : World) (hr : RowsA ⟨0, 0, 0, 0, 0, rs, ns, ks⟩ A5 c5 A6 c6 A7 c7 w) (hL : PuB.largeB rs ns ks = false) (hM : PuB.ansB i k c a b rs ns ks = false) : Calls Try.prog 3 #[.agg #[.int .i64 i, .int .i64 k, .int .i64 c, .int .i64 a, .int .i64 b, .slice A5 rs.length c5, .slice A6 ns.length c6, .slice A7 ks.length c7]] w fun e w' => e = .returned (.bool true) ∧ Below w.heap.size w w' := by
  obtain ⟨l5, l6, l7, _⟩ := large_no hL
  have hev := PuB.ansMay_ev i k c a b rs ns ks (by omega) (by omega) (by omega)
  rw [hM] at hev
  have e0 := Own.heap_new w (.cells #[.int .i64 i, .int .i64 k, .int .i64 c, .int .i64 a, .int .i64 b, .slice A5 rs.length c5, .slice A6 ns.length c6, .slice A7 ks.length c7] 27)
  have b0 : Below w.heap.size w (w.alloc (.cells #[.int .i64 i, .int .i64 k, .int .i64 c, .int .i64 a, .int .i64 b, .slice A5 rs.length c5, .slice A6 ns.length c6, .slice A7 ks.length c7] 27)) := (Below.refl _ _).alloc (Nat.le_refl _) _
  have HX := Lib.hid e0; have HW := Lib.hid (hr.below b0); have HB := Lib.hid b0
  clear e0 b0 hr
  go_enter Try.func3, Try.ntmps3
  go_upto_region 1 with (fail)
  change Code.wp _ _ _ _ (w.alloc (.cells #[.int .i64 i, .int .i64 k, .int .i64 c, .int .i64 a, .int .i64 b, .slice A5 rs.length c5, .slice A6 ns.length c6, .slice A7 ks.length c7] 27))
  generalize w.alloc (.cells #[.int .i64 i, .int .i64 k, .int .i64 c, .int .i64 a, .int .i64 b, .slice A5 rs.length c5, .slice A6 ns.length c6, .slice A7 ks.length c7] 27) = W0 at *
  obtain ⟨q0, q1, q2, q3, q4, q5, q6, q7⟩ := ocells HX.out
  go_wp2_with fail
  refine (large_any i k c a b A5 c5 rs A6 c6 ns A7 c7 ks W0 HW.out).mono ?_
  rintro e w1 ⟨rfl, b1⟩
  rw [hL]
  have HX := Lib.hid (Own.blk_below HX.out b1); have HW := Lib.hid (HW.out.below b1); have HB := Lib.hid (HB.out.trans (b1.mono HB.out.size)); clear b1 q0 q1 q2 q3 q4 q5 q6 q7
  obtain ⟨q0, q1, q2, q3, q4, q5, q6, q7⟩ := ocells HX.out
  go_wp2_with fail
  refine (Own.encode_bad i k c a b A5 c5 rs A6 c6 ns A7 c7 ks w1 HW.out.h5 HW.out.h6 HW.out.h7 HW.out.l5 HW.out.l6 HW.out.l7 hev).mono ?_
  rintro e w2 ⟨rfl, b2⟩
  have HX := Lib.hid (Own.blk_below HX.out b2); have HW := Lib.hid (HW.out.below b2); have HB := Lib.hid (HB.out.trans (b2.mono HB.out.size)); clear b2 q0 q1 q2 q3 q4 q5 q6 q7
  obtain ⟨q0, q1, q2, q3, q4, q5, q6, q7⟩ := ocells HX.out
  go_wp2_with fail
  refine (Sa.ref_any _ _ _ _ _ _ _ _ _ _ _ _ _ _ _).mono ?_
  rintro e w3 ⟨rfl, b3⟩
  have HX := Lib.hid (Own.blk_below HX.out b3); have HW := Lib.hid (HW.out.below b3); have HB := Lib.hid (HB.out.trans (b3.mono HB.out.size)); clear b3 q0 q1 q2 q3 q4 q5 q6 q7
  go_wp2_with fail
  refine (rmay_any i k c a b A5 c5 rs A6 c6 ns A7 c7 ks w3 HW.out (by omega) (by omega) (by omega)).mono ?_
  rintro e w4 ⟨rfl, b4⟩
  rw [hM]
  have HX := Lib.hid (Own.blk_below HX.out b4); have HW := Lib.hid (HW.out.below b4); have HB := Lib.hid (HB.out.trans (b4.mono HB.out.size)); clear b4
  obtain ⟨q0, q1, q2, q3, q4, q5, q6, q7⟩ := ocells HX.out
  go_wp2_with fail
  refine (amay_any i k c a b A5 c5 rs A6 c6 ns A7 c7 ks w4 HW.out (by omega) (by omega) (by omega)).mono ?_
  rintro e w5 ⟨rfl, b5⟩
  rw [hM]
  have HX := Lib.hid (Own.blk_below HX.out b5); have HW := Lib.hid (HW.out.below b5); have HB := Lib.hid (HB.out.trans (b5.mono HB.out.size)); clear b5 q0 q1 q2 q3 q4 q5 q6 q7
  go_wp2_with fail
  refine (plain_true _).mono ?_
  rintro e w9 ⟨rfl, b9⟩
  have HB := Lib.hid (HB.out.trans (b9.mono HB.out.size)); clear b9
  go_wp2
  go_ret
  exact ⟨rfl, HB.out⟩
set_option maxHeartbeats 1000000 in
theorem encs_long (i k c a b : Nat) (A5 : Option Addr) (c5 : Nat) (rs : List S54) (A6 : Option Addr) (c6 : Nat) (ns : List ByteArray) (A7 : Option Addr) (c7 : Nat) (ks : List Int) (w : World) (hr : RowsA ⟨0, 0, 0, 0, 0, rs, ns, ks⟩ A5 c5 A6 c6 A7 c7 w) (hL : PuB.largeB rs ns ks = false) (hM : PuB.ansB (i : Int) (k : Int) (c : Int) (a : Int) (b : Int) rs ns ks = true) (hB : 594 < (Own.bodyL a b rs ns ks).length) : Calls Try.prog 3 #[.agg #[.int .i64 (i : Int), .int .i64 (k : Int), .int .i64 (c : Int), .int .i64 (a : Int), .int .i64 (b : Int), .slice A5 rs.length c5, .slice A6 ns.length c6, .slice A7 ks.length c7]] w fun e w' => e = .returned (.bool true) ∧ Below w.heap.size w w' := by
  obtain ⟨l5, l6, l7, hs3⟩ := large_no hL
  obtain ⟨m1, m2, m3, m4, m5, m6, m7, m8⟩ := ansB_yes hM
  have hev := PuB.ansMay_ev (i : Int) (k : Int) (c : Int) (a : Int) (b : Int) rs ns ks (by omega) (by omega) (by omega)
  rw [hM] at hev
  have e0 := Own.heap_new w (.cells #[.int .i64 (i : Int), .int .i64 (k : Int), .int .i64 (c : Int), .int .i64 (a : Int), .int .i64 (b : Int), .slice A5 rs.length c5, .slice A6 ns.length c6, .slice A7 ks.length c7] 27)
  have b0 : Below w.heap.size w (w.alloc (.cells #[.int .i64 (i : Int), .int .i64 (k : Int), .int .i64 (c : Int), .int .i64 (a : Int), .int .i64 (b : Int), .slice A5 rs.length c5, .slice A6 ns.length c6, .slice A7 ks.length c7] 27)) := (Below.refl _ _).alloc (Nat.le_refl _) _
  have HX := Lib.hid e0; have HW := Lib.hid (hr.below b0); have HB := Lib.hid b0
  clear e0 b0 hr
  go_enter Try.func3, Try.ntmps3
  go_upto_region 1 with (fail)
  change Code.wp _ _ _ _ (w.alloc (.cells #[.int .i64 (i : Int), .int .i64 (k : Int), .int .i64 (c : Int), .int .i64 (a : Int), .int .i64 (b : Int), .slice A5 rs.length c5, .slice A6 ns.length c6, .slice A7 ks.length c7] 27))
  generalize w.alloc (.cells #[.int .i64 (i : Int), .int .i64 (k : Int), .int .i64 (c : Int), .int .i64 (a : Int), .int .i64 (b : Int), .slice A5 rs.length c5, .slice A6 ns.length c6, .slice A7 ks.length c7] 27) = W0 at *
  obtain ⟨q0, q1, q2, q3, q4, q5, q6, q7⟩ := ocells HX.out
  go_wp2_with fail
  refine (large_any (i : Int) (k : Int) (c : Int) (a : Int) (b : Int) A5 c5 rs A6 c6 ns A7 c7 ks W0 HW.out).mono ?_
  rintro e w1 ⟨rfl, b1⟩
  rw [hL]
  have HX := Lib.hid (Own.blk_below HX.out b1); have HW := Lib.hid (HW.out.below b1); have HB := Lib.hid (HB.out.trans (b1.mono HB.out.size)); clear b1 q0 q1 q2 q3 q4 q5 q6 q7
  obtain ⟨q0, q1, q2, q3, q4, q5, q6, q7⟩ := ocells HX.out
  go_wp2_with fail
  refine (Own.encode_long i k c a b A5 c5 rs A6 c6 ns A7 c7 ks w1 HW.out.h5 HW.out.h6 HW.out.h7 HW.out.l5 HW.out.l6 HW.out.l7 (by omega) (by omega) (by omega) (by omega) (by omega) m1 m2 m3 hev hB).mono ?_
  rintro e w2 ⟨rfl, b2⟩
  have HX := Lib.hid (Own.blk_below HX.out b2); have HW := Lib.hid (HW.out.below b2); have HB := Lib.hid (HB.out.trans (b2.mono HB.out.size)); clear b2 q0 q1 q2 q3 q4 q5 q6 q7
  obtain ⟨q0, q1, q2, q3, q4, q5, q6, q7⟩ := ocells HX.out
  go_wp2_with fail
  refine (Sa.ref_any _ _ _ _ _ _ _ _ _ _ _ _ _ _ _).mono ?_
  rintro e w3 ⟨rfl, b3⟩
  have HX := Lib.hid (Own.blk_below HX.out b3); have HW := Lib.hid (HW.out.below b3); have HB := Lib.hid (HB.out.trans (b3.mono HB.out.size)); clear b3 q0 q1 q2 q3 q4 q5 q6 q7
  go_wp2_with fail
  refine (rmay_any (i : Int) (k : Int) (c : Int) (a : Int) (b : Int) A5 c5 rs A6 c6 ns A7 c7 ks w3 HW.out (by omega) (by omega) (by omega)).mono ?_
  rintro e w4 ⟨rfl, b4⟩
  rw [hM]
  have HX := Lib.hid (Own.blk_below HX.out b4); have HW := Lib.hid (HW.out.below b4); have HB := Lib.hid (HB.out.trans (b4.mono HB.out.size)); clear b4
  obtain ⟨q0, q1, q2, q3, q4, q5, q6, q7⟩ := ocells HX.out
  go_wp2_with fail
  refine (amay_any (i : Int) (k : Int) (c : Int) (a : Int) (b : Int) A5 c5 rs A6 c6 ns A7 c7 ks w4 HW.out (by omega) (by omega) (by omega)).mono ?_
  rintro e w5 ⟨rfl, b5⟩
  rw [hM]
  have HX := Lib.hid (Own.blk_below HX.out b5); have HW := Lib.hid (HW.out.below b5); have HB := Lib.hid (HB.out.trans (b5.mono HB.out.size)); clear b5 q0 q1 q2 q3 q4 q5 q6 q7
  obtain ⟨q0, q1, q2, q3, q4, q5, q6, q7⟩ := ocells HX.out
  go_wp2_with fail
  refine (Sa.ref_any _ _ _ _ _ _ _ _ _ _ _ _ _ _ _).mono ?_
  rintro e w6 ⟨rfl, b6⟩
  have HX := Lib.hid (Own.blk_below HX.out b6); have HW := Lib.hid (HW.out.below b6); have HB := Lib.hid (HB.out.trans (b6.mono HB.out.size)); clear b6 q0 q1 q2 q3 q4 q5 q6 q7
  go_wp2_with fail
  refine (rbody_any (i : Int) (k : Int) (c : Int) a b A5 c5 rs A6 c6 ns A7 c7 ks w6 HW.out (by omega) (by omega) m1 hs3 m3 (by omega) (by omega) (by omega)).mono ?_
  rintro e w7 ⟨rfl, b7⟩
  have HX := Lib.hid (Own.blk_below HX.out b7); have HW := Lib.hid (HW.out.below b7); have HB := Lib.hid (HB.out.trans (b7.mono HB.out.size)); clear b7
  have hz : (594 : Int) < ((Own.sB (Own.bodyL a b rs ns ks)).size : Int) := by rw [Own.sB_size]; omega
  generalize Own.sB (Own.bodyL a b rs ns ks) = S at *
  go_wp2_with fail
  refine (plain_true _).mono ?_
  rintro e w9 ⟨rfl, b9⟩
  have HB := Lib.hid (HB.out.trans (b9.mono HB.out.size)); clear b9
  go_wp2
  go_ret
  exact ⟨rfl, HB.out⟩
structure EP (g o : Nat) (i k c a b : Nat) (A5 : Option Addr) (c5 : Nat) (rs : List S54) (A6 : Option Addr) (c6 : Nat) (ns : List ByteArray) (A7 : Option Addr) (c7 : Nat) (ks : List Int) (B5 : Option Addr) (d5 : Nat) (B6 : Option Addr) (d6 : Nat) (B7 : Option Addr) (d7 : Nat) (w : World) : Prop where
  h : w.heap[g]? = some (.cells #[.int .i64 (i : Int), .int .i64 (k : Int), .int .i64 (c : Int), .int .i64 (a : Int), .int .i64 (b : Int), .slice B5 rs.length d5, .slice B6 ns.length d6, .slice B7 ks.length d7] 27 (0, 0))
  o : w.heap[o]? = some (.cells #[.int .i64 (i : Int), .int .i64 (k : Int), .int .i64 (c : Int), .int .i64 (a : Int), .int .i64 (b : Int), .slice A5 rs.length c5, .slice A6 ns.length c6, .slice A7 ks.length c7] 27 (0, 0))
theorem EP.below {g o i k c a b : Nat} {A5 : Option Addr} {c5 : Nat} {rs : List S54} {A6 : Option Addr} {c6 : Nat} {ns : List ByteArray} {A7 : Option Addr} {c7 : Nat} {ks : List Int} {B5 : Option Addr} {d5 : Nat} {B6 : Option Addr} {d6 : Nat} {B7 : Option Addr} {d7 : Nat} {w w1 : World} (h : EP g o i k c a b A5 c5 rs A6 c6 ns A7 c7 ks B5 d5 B6 d6 B7 d7 w) (hb : Below w.heap.size w w1) : EP g o i k c a b A5 c5 rs A6 c6 ns A7 c7 ks B5 d5 B6 d6 B7 d7 w1 := ⟨Own.blk_below h.h hb, Own.blk_below h.o hb⟩
set_option maxHeartbeats 2000000 in
theorem encs_good (i k c a b : Nat) (A5 : Option Addr) (c5 : Nat) (rs : List S54) (A6 : Option Addr) (c6 : Nat) (ns : List ByteArray) (A7 : Option Addr) (c7 : Nat) (ks : List Int) (w : World) (hr : RowsA ⟨0, 0, 0, 0, 0, rs, ns, ks⟩ A5 c5 A6 c6 A7 c7 w) (hL : PuB.largeB rs ns ks = false) (hM : PuB.ansB (i : Int) (k : Int) (c : Int) (a : Int) (b : Int) rs ns ks = true) (hB : (Own.bodyL a b rs ns ks).length ≤ 594) : Calls Try.prog 3 #[.agg #[.int .i64 (i : Int), .int .i64 (k : Int), .int .i64 (c : Int), .int .i64 (a : Int), .int .i64 (b : Int), .slice A5 rs.length c5, .slice A6 ns.length c6, .slice A7 ks.length c7]] w fun e w' => e = .returned (.bool true) ∧ Below w.heap.size w w' := by
  obtain ⟨l5, l6, l7, hs3⟩ := large_no hL
  obtain ⟨m1, m2, m3, m4, m5, m6, m7, m8⟩ := ansB_yes hM
  have hF : Fits ⟨i, k, c, a, b, rs, ns, ks⟩ := ⟨by show i ≤ 65535; omega, by show k ≤ 255; omega, by show c ≤ 255; omega, by show a ≤ 1099511627776; omega, by show b ≤ 1099511627776; omega, m1, m3, by show rs.length ≤ 100; omega, by show ns.length ≤ 600; omega, by show ks.length ≤ 600; omega, hB⟩
  have hSh : shortN ns = true := List.all_eq_true.2 fun x hx => decide_eq_true (m2 x hx)
  have hdec := decA_enc hF hSh
  have hsz : (Own.sB (outA ⟨i, k, c, a, b, rs, ns, ks⟩)).size = 600 := by rw [Own.sB_size, outA_length hF]
  have HF := Lib.hid hF; clear hF m2 m4 m5 m6
  have e0 := Own.heap_new w (.cells #[.int .i64 (i : Int), .int .i64 (k : Int), .int .i64 (c : Int), .int .i64 (a : Int), .int .i64 (b : Int), .slice A5 rs.length c5, .slice A6 ns.length c6, .slice A7 ks.length c7] 27)
  have b0 : Below w.heap.size w (w.alloc (.cells #[.int .i64 (i : Int), .int .i64 (k : Int), .int .i64 (c : Int), .int .i64 (a : Int), .int .i64 (b : Int), .slice A5 rs.length c5, .slice A6 ns.length c6, .slice A7 ks.length c7] 27)) := (Below.refl _ _).alloc (Nat.le_refl _) _
  have HX := Lib.hid e0; have HW := Lib.hid (hr.below b0); have HB := Lib.hid b0
  clear e0 b0 hr
  go_enter Try.func3, Try.ntmps3
  go_upto_region 1 with (fail)
  change Code.wp _ _ _ _ (w.alloc (.cells #[.int .i64 (i : Int), .int .i64 (k : Int), .int .i64 (c : Int), .int .i64 (a : Int), .int .i64 (b : Int), .slice A5 rs.length c5, .slice A6 ns.length c6, .slice A7 ks.length c7] 27))
  generalize w.alloc (.cells #[.int .i64 (i : Int), .int .i64 (k : Int), .int .i64 (c : Int), .int .i64 (a : Int), .int .i64 (b : Int), .slice A5 rs.length c5, .slice A6 ns.length c6, .slice A7 ks.length c7] 27) = W0 at *
  obtain ⟨q0, q1, q2, q3, q4, q5, q6, q7⟩ := ocells HX.out
  go_wp2_with fail
  refine (large_any (i : Int) (k : Int) (c : Int) (a : Int) (b : Int) A5 c5 rs A6 c6 ns A7 c7 ks W0 HW.out).mono ?_
  rintro e w1 ⟨rfl, b1⟩
  rw [hL]
  have HX := Lib.hid (Own.blk_below HX.out b1); have HW := Lib.hid (HW.out.below b1); have HB := Lib.hid (HB.out.trans (b1.mono HB.out.size)); clear b1 q0 q1 q2 q3 q4 q5 q6 q7
  obtain ⟨q0, q1, q2, q3, q4, q5, q6, q7⟩ := ocells HX.out
  go_wp2_with fail
  refine (encode_raw ⟨i, k, c, a, b, rs, ns, ks⟩ A5 c5 A6 c6 A7 c7 w1 HF.out ⟨HW.out.h5, HW.out.l5, HW.out.h6, HW.out.l6, HW.out.h7, HW.out.l7⟩).mono ?_
  have hes : encS ⟨i, k, c, a, b, rs, ns, ks⟩ = (Own.sB (outA ⟨i, k, c, a, b, rs, ns, ks⟩), 0) := by rw [encS, if_pos hSh]
  rw [hes]
  rintro e w2 ⟨rfl, b2⟩
  have HX := Lib.hid (Own.blk_below HX.out b2); have HW := Lib.hid (HW.out.below b2); have HB := Lib.hid (HB.out.trans (b2.mono HB.out.size)); clear b2 q0 q1 q2 q3 q4 q5 q6 q7
  obtain ⟨q0, q1, q2, q3, q4, q5, q6, q7⟩ := ocells HX.out
  go_wp2_with fail
  refine (Sa.ref_any _ _ _ _ _ _ _ _ _ _ _ _ _ _ _).mono ?_
  rintro e w3 ⟨rfl, b3⟩
  have HX := Lib.hid (Own.blk_below HX.out b3); have HW := Lib.hid (HW.out.below b3); have HB := Lib.hid (HB.out.trans (b3.mono HB.out.size)); clear b3 q0 q1 q2 q3 q4 q5 q6 q7
  go_wp2_with fail
  refine (rmay_any (i : Int) (k : Int) (c : Int) (a : Int) (b : Int) A5 c5 rs A6 c6 ns A7 c7 ks w3 HW.out (by omega) (by omega) (by omega)).mono ?_
  rintro e w4 ⟨rfl, b4⟩
  rw [hM]
  have HX := Lib.hid (Own.blk_below HX.out b4); have HW := Lib.hid (HW.out.below b4); have HB := Lib.hid (HB.out.trans (b4.mono HB.out.size)); clear b4
  obtain ⟨q0, q1, q2, q3, q4, q5, q6, q7⟩ := ocells HX.out
  go_wp2_with fail
  refine (amay_any (i : Int) (k : Int) (c : Int) (a : Int) (b : Int) A5 c5 rs A6 c6 ns A7 c7 ks w4 HW.out (by omega) (by omega) (by omega)).mono ?_
  rintro e w5 ⟨rfl, b5⟩
  rw [hM]
  have HX := Lib.hid (Own.blk_below HX.out b5); have HW := Lib.hid (HW.out.below b5); have HB := Lib.hid (HB.out.trans (b5.mono HB.out.size)); clear b5 q0 q1 q2 q3 q4 q5 q6 q7
  obtain ⟨q0, q1, q2, q3, q4, q5, q6, q7⟩ := ocells HX.out
  go_wp2_with fail
  refine (Sa.ref_any _ _ _ _ _ _ _ _ _ _ _ _ _ _ _).mono ?_
  rintro e w6 ⟨rfl, b6⟩
  have HX := Lib.hid (Own.blk_below HX.out b6); have HW := Lib.hid (HW.out.below b6); have HB := Lib.hid (HB.out.trans (b6.mono HB.out.size)); clear b6 q0 q1 q2 q3 q4 q5 q6 q7
  go_wp2_with fail
  refine (rbody_any (i : Int) (k : Int) (c : Int) a b A5 c5 rs A6 c6 ns A7 c7 ks w6 HW.out (by omega) (by omega) m1 hs3 m3 (by omega) (by omega) (by omega)).mono ?_
  rintro e w7 ⟨rfl, b7⟩
  have HX := Lib.hid (Own.blk_below HX.out b7); have HW := Lib.hid (HW.out.below b7); have HB := Lib.hid (HB.out.trans (b7.mono HB.out.size)); clear b7
  have hz : ¬ (594 : Int) < ((Own.sB (Own.bodyL a b rs ns ks)).size : Int) := by rw [Own.sB_size]; omega
  generalize Own.sB (Own.bodyL a b rs ns ks) = SB0 at *
  have hm6 : (Own.sB (outA ⟨i, k, c, a, b, rs, ns, ks⟩)).size ≤ 1000000 := by omega
  have hdc := decode_any (Own.sB (outA ⟨i, k, c, a, b, rs, ns, ks⟩)) w7 hm6
  have hdc2 : Calls Try.prog 14 #[.string (Own.sB (outA ⟨i, k, c, a, b, rs, ns, ks⟩))] w7 fun e w' => Below w7.heap.size w7 w' ∧ ∃ B5 d5 B6 d6 B7 d7, e = .returned (.tuple #[.agg #[.int .i64 (i : Int), .int .i64 (k : Int), .int .i64 (c : Int), .int .i64 (a : Int), .int .i64 (b : Int), .slice B5 rs.length d5, .slice B6 ns.length d6, .slice B7 ks.length d7], .int .i64 0]) ∧ RowsA ⟨0, 0, 0, 0, 0, rs, ns, ks⟩ B5 d5 B6 d6 B7 d7 w' := by
    refine hdc.mono ?_
    rintro e w' ⟨h1, h2⟩
    rw [hdec] at h2
    obtain ⟨B5, d5, B6, d6, B7, d7, he, hrw⟩ := h2
    exact ⟨h1, B5, d5, B6, d6, B7, d7, he, ⟨hrw.h5, hrw.l5, hrw.h6, hrw.l6, hrw.h7, hrw.l7⟩⟩
  clear hdc hdec hm6
  have hren : Hid (∀ (W : World), RowsA ⟨0, 0, 0, 0, 0, rs, ns, ks⟩ A5 c5 A6 c6 A7 c7 W → Calls Try.prog 15 #[.agg #[.int .i64 (i : Int), .int .i64 (k : Int), .int .i64 (c : Int), .int .i64 (a : Int), .int .i64 (b : Int), .slice A5 rs.length c5, .slice A6 ns.length c6, .slice A7 ks.length c7]] W fun e w' => e = .returned (.string (Own.sB (outA ⟨i, k, c, a, b, rs, ns, ks⟩))) ∧ Below W.heap.size W w') := Lib.hid (fun W hW => renc_any i k c a b A5 c5 rs A6 c6 ns A7 c7 ks W hW HF.out hs3)
  generalize Own.sB (outA ⟨i, k, c, a, b, rs, ns, ks⟩) = S at *
  go_wp2_with fail
  refine hdc2.mono ?_
  rintro e w8 ⟨b8, B5, d5, B6, d6, B7, d7, rfl, hV⟩
  have HV := Lib.hid hV; clear hV hdc2
  have HX := Lib.hid (Own.blk_below HX.out b8); have HW := Lib.hid (HW.out.below b8); have HB := Lib.hid (HB.out.trans (b8.mono HB.out.size)); clear b8
  have hz6 : (S.size : Int) = 600 := by omega
  go_upto_region 12 with (fail)
  have e10 := Own.heap_new w8 (.cells #[.int .i64 (i : Int), .int .i64 (k : Int), .int .i64 (c : Int), .int .i64 (a : Int), .int .i64 (b : Int), .slice B5 rs.length d5, .slice B6 ns.length d6, .slice B7 ks.length d7] 27)
  have b10 : Below w8.heap.size w8 (w8.alloc (.cells #[.int .i64 (i : Int), .int .i64 (k : Int), .int .i64 (c : Int), .int .i64 (a : Int), .int .i64 (b : Int), .slice B5 rs.length d5, .slice B6 ns.length d6, .slice B7 ks.length d7] 27)) := (Below.refl _ _).alloc (Nat.le_refl _) _
  have HX := Lib.hid (Own.blk_below HX.out b10); have HW := Lib.hid (HW.out.below b10); have HB := Lib.hid (HB.out.trans (b10.mono HB.out.size))
  have HV := Lib.hid (HV.out.below b10); clear b10
  generalize w8.alloc _ = W10 at *
  generalize w8.heap.size = gx at *
  have hEP : EP gx w.heap.size i k c a b A5 c5 rs A6 c6 ns A7 c7 ks B5 d5 B6 d6 B7 d7 W10.drew := ⟨e10, HX.out⟩
  have HB := Lib.hid HB.out.drew
  have HW : Hid (RowsA ⟨0, 0, 0, 0, 0, rs, ns, ks⟩ A5 c5 A6 c6 A7 c7 W10.drew) := Lib.hid (HW.out.below (Below.refl _ _).drew)
  have HV : Hid (RowsA ⟨0, 0, 0, 0, 0, rs, ns, ks⟩ B5 d5 B6 d6 B7 d7 W10.drew) := Lib.hid (HV.out.below (Below.refl _ _).drew)
  refine wp_region_held_drew (S := EP gx w.heap.size i k c a b A5 c5 rs A6 c6 ns A7 c7 ks B5 d5 B6 d6 B7 d7) (by kernel_rfl) (hEP) (fun hHeld => ?_)
  refine wpAnyH_take (i := 0) (oi := { dst := some 53, op := Op.move (Operand.tmp 4), type := 22, pos := "law.go:55", after := #[], guard := none }) (v := ?_) rfl (by kernel_rfl) (by kernel_rfl) (by kernel_rfl) (fun _ _ _ h => h) (Or.inl ⟨by rfl, ?_⟩) hHeld ?_; rotate_left 1; (intro w9 hSw; obtain ⟨h9, o9⟩ := hSw; go_simp; first | done | with_reducible rfl); (try simp only [Act.put, List.setIfInBounds_toArray, List.set_cons_zero, List.set_cons_succ])
  refine wpAnyH_take (i := 1) (oi := { dst := some 54, op := Op.binOp BinOp.eql 22 (Operand.tmp 53) (Operand.const (Value.int IntKind.i64 0)) 22, type := 4, pos := "law.go:55", after := #[{ on := 0, ground := Ground.data }], guard := none }) (v := ?_) rfl (by kernel_rfl) (by kernel_rfl) (by kernel_rfl) (fun _ _ _ h => h) (Or.inl ⟨by rfl, ?_⟩) hHeld ?_; rotate_left 1; (intro w9 hSw; obtain ⟨h9, o9⟩ := hSw; go_simp; first | done | with_reducible rfl); (try simp only [Act.put, List.setIfInBounds_toArray, List.set_cons_zero, List.set_cons_succ])
  refine wpAnyH_take (i := 2) (oi := { dst := some 55, op := Op.move (Operand.tmp 54), type := 4, pos := "law.go:55", after := #[{ on := 1, ground := Ground.data }], guard := none }) (v := ?_) rfl (by kernel_rfl) (by kernel_rfl) (by kernel_rfl) (fun _ _ _ h => h) (Or.inl ⟨by rfl, ?_⟩) hHeld ?_; rotate_left 1; (intro w9 hSw; obtain ⟨h9, o9⟩ := hSw; go_simp; first | done | with_reducible rfl); (try simp only [Act.put, List.setIfInBounds_toArray, List.set_cons_zero, List.set_cons_succ])
  refine wpAnyH_take (i := 3) (oi := { dst := some 56, op := Op.move (Operand.tmp 3), type := 9, pos := "law.go:55", after := #[{ on := 2, ground := Ground.guard }], guard := some (2, true) }) (v := ?_) rfl (by kernel_rfl) (by kernel_rfl) (by kernel_rfl) (fun _ _ _ h => h) (Or.inl ⟨by rfl, ?_⟩) hHeld ?_; rotate_left 1; (intro w9 hSw; obtain ⟨h9, o9⟩ := hSw; go_simp; first | done | with_reducible rfl); (try simp only [Act.put, List.setIfInBounds_toArray, List.set_cons_zero, List.set_cons_succ])
  refine wpAnyH_take (i := 4) (oi := { dst := some 57, op := Op.load 27 (Operand.tmp 1), type := 27, pos := "law.go:55", after := #[{ on := 2, ground := Ground.guard }], guard := some (2, true) }) (v := ?_) rfl (by kernel_rfl) (by kernel_rfl) (by kernel_rfl) (fun _ _ _ h => h) (Or.inl ⟨by rfl, ?_⟩) hHeld ?_; rotate_left 1; (intro w9 hSw; obtain ⟨h9, o9⟩ := hSw; obtain ⟨q0, q1, q2, q3, q4, q5, q6, q7⟩ := ocells o9; go_simp; first | done | with_reducible rfl); (try simp only [Act.put, List.setIfInBounds_toArray, List.set_cons_zero, List.set_cons_succ])
  refine wpAnyH_ready (rs := [5]) (by kernel_rfl) (by simp) ?_; refine AllReadyH.cons (o := { dst := some 58, op := Op.call { callee := Callee.value (Operand.func 11), args := #[Operand.tmp 57], argTypes := #[27] }, type := 34, pos := "law.go:55", after := #[{ on := 4, ground := Ground.data }, { on := 2, ground := Ground.chain }, { on := 2, ground := Ground.guard }], guard := some (2, true) }) rfl (fun K hK => ?_) AllReadyH.nil; go_simp; refine (Sa.ref_any _ _ _ _ _ _ _ _ _ _ _ _ _ _ _).mono ?_; rintro e w4 ⟨rfl, bel⟩; have HB := Lib.hid (HB.out.trans (bel.mono HB.out.size)); have HW := Lib.hid (HW.out.below bel); have HV := Lib.hid (HV.out.below bel); (try go_wp2_with fail); refine hK.out _ _ (hHeld.below bel) (fun hHeld => ?_); clear hK; (try simp only [Act.put, List.setIfInBounds_toArray, List.set_cons_zero, List.set_cons_succ])
  refine wpAnyH_ready (rs := [6]) (by kernel_rfl) (by simp) ?_; refine AllReadyH.cons (o := { dst := some 59, op := Op.call { callee := Callee.value (Operand.func 15), args := #[Operand.tmp 58], argTypes := #[34] }, type := 9, pos := "law.go:55", after := #[{ on := 5, ground := Ground.data }, { on := 5, ground := Ground.chain }, { on := 2, ground := Ground.guard }], guard := some (2, true) }) rfl (fun K hK => ?_) AllReadyH.nil; go_simp; refine (hren.out _ HW.out).mono ?_; rintro e w4 ⟨rfl, bel⟩; have HB := Lib.hid (HB.out.trans (bel.mono HB.out.size)); have HW := Lib.hid (HW.out.below bel); have HV := Lib.hid (HV.out.below bel); (try go_wp2_with fail); refine hK.out _ _ (hHeld.below bel) (fun hHeld => ?_); clear hK; (try simp only [Act.put, List.setIfInBounds_toArray, List.set_cons_zero, List.set_cons_succ])
  refine wpAnyH_take (i := 7) (oi := { dst := some 60, op := Op.binOp BinOp.eql 9 (Operand.tmp 56) (Operand.tmp 59) 9, type := 4, pos := "law.go:55", after := #[{ on := 3, ground := Ground.data }, { on := 6, ground := Ground.data }, { on := 2, ground := Ground.guard }], guard := some (2, true) }) (v := ?_) rfl (by kernel_rfl) (by kernel_rfl) (by kernel_rfl) (fun _ _ _ h => h) (Or.inl ⟨by rfl, ?_⟩) hHeld ?_; rotate_left 1; (intro w9 hSw; obtain ⟨h9, o9⟩ := hSw; go_simp; first | done | with_reducible rfl); (try simp only [Act.put, List.setIfInBounds_toArray, List.set_cons_zero, List.set_cons_succ])
  refine wpAnyH_take (i := 8) (oi := { dst := some 61, op := Op.pick (Operand.tmp 55) (Operand.tmp 60) (Operand.const (Value.bool false)), type := 4, pos := "law.go:55", after := #[{ on := 2, ground := Ground.data }, { on := 7, ground := Ground.data }], guard := none }) (v := ?_) rfl (by kernel_rfl) (by kernel_rfl) (by kernel_rfl) (fun _ _ _ h => h) (Or.inl ⟨by rfl, ?_⟩) hHeld ?_; rotate_left 1; (intro w9 hSw; obtain ⟨h9, o9⟩ := hSw; go_simp; first | done | with_reducible rfl); (try simp only [Act.put, List.setIfInBounds_toArray, List.set_cons_zero, List.set_cons_succ])
  refine wpAnyH_take (i := 9) (oi := { dst := some 62, op := Op.move (Operand.tmp 61), type := 4, pos := "law.go:55", after := #[{ on := 8, ground := Ground.data }, { on := 6, ground := Ground.chain }], guard := none }) (v := ?_) rfl (by kernel_rfl) (by kernel_rfl) (by kernel_rfl) (fun _ _ _ h => h) (Or.inl ⟨by rfl, ?_⟩) hHeld ?_; rotate_left 1; (intro w9 hSw; obtain ⟨h9, o9⟩ := hSw; go_simp; first | done | with_reducible rfl); (try simp only [Act.put, List.setIfInBounds_toArray, List.set_cons_zero, List.set_cons_succ])
  refine wpAnyH_take (i := 10) (oi := { dst := some 63, op := Op.move (Operand.tmp 3), type := 9, pos := "law.go:55", after := #[{ on := 9, ground := Ground.guard }], guard := some (9, true) }) (v := ?_) rfl (by kernel_rfl) (by kernel_rfl) (by kernel_rfl) (fun _ _ _ h => h) (Or.inl ⟨by rfl, ?_⟩) hHeld ?_; rotate_left 1; (intro w9 hSw; obtain ⟨h9, o9⟩ := hSw; go_simp; first | done | with_reducible rfl); (try simp only [Act.put, List.setIfInBounds_toArray, List.set_cons_zero, List.set_cons_succ])
  refine wpAnyH_take (i := 11) (oi := { dst := some 64, op := Op.call { callee := Callee.builtin Builtin.len, args := #[Operand.tmp 63], argTypes := #[9] }, type := 3, pos := "law.go:55", after := #[{ on := 10, ground := Ground.data }, { on := 9, ground := Ground.guard }], guard := some (9, true) }) (v := ?_) rfl (by kernel_rfl) (by kernel_rfl) (by kernel_rfl) (fun _ _ _ h => h) (Or.inl ⟨by rfl, ?_⟩) hHeld ?_; rotate_left 1; (intro w9 hSw; obtain ⟨h9, o9⟩ := hSw; go_simp; first | done | with_reducible rfl); (try simp only [Act.put, List.setIfInBounds_toArray, List.set_cons_zero, List.set_cons_succ])
  refine wpAnyH_take (i := 12) (oi := { dst := some 65, op := Op.binOp BinOp.eql 3 (Operand.tmp 64) (Operand.const (Value.int IntKind.i64 600)) 3, type := 4, pos := "law.go:55", after := #[{ on := 11, ground := Ground.data }, { on := 9, ground := Ground.guard }], guard := some (9, true) }) (v := ?_) rfl (by kernel_rfl) (by kernel_rfl) (by kernel_rfl) (fun _ _ _ h => h) (Or.inl ⟨by rfl, ?_⟩) hHeld ?_; rotate_left 1; (intro w9 hSw; obtain ⟨h9, o9⟩ := hSw; go_simp; first | done | with_reducible rfl); (try simp only [Act.put, List.setIfInBounds_toArray, List.set_cons_zero, List.set_cons_succ])
  refine wpAnyH_take (i := 13) (oi := { dst := some 66, op := Op.pick (Operand.tmp 62) (Operand.tmp 65) (Operand.const (Value.bool false)), type := 4, pos := "law.go:55", after := #[{ on := 9, ground := Ground.data }, { on := 12, ground := Ground.data }], guard := none }) (v := ?_) rfl (by kernel_rfl) (by kernel_rfl) (by kernel_rfl) (fun _ _ _ h => h) (Or.inl ⟨by rfl, ?_⟩) hHeld ?_; rotate_left 1; (intro w9 hSw; obtain ⟨h9, o9⟩ := hSw; go_simp; first | done | with_reducible rfl); (try simp only [Act.put, List.setIfInBounds_toArray, List.set_cons_zero, List.set_cons_succ])
  refine wpAnyH_take (i := 14) (oi := { dst := some 67, op := Op.move (Operand.tmp 66), type := 4, pos := "law.go:55", after := #[{ on := 13, ground := Ground.data }, { on := 9, ground := Ground.chain }], guard := none }) (v := ?_) rfl (by kernel_rfl) (by kernel_rfl) (by kernel_rfl) (fun _ _ _ h => h) (Or.inl ⟨by rfl, ?_⟩) hHeld ?_; rotate_left 1; (intro w9 hSw; obtain ⟨h9, o9⟩ := hSw; go_simp; first | done | with_reducible rfl); (try simp only [Act.put, List.setIfInBounds_toArray, List.set_cons_zero, List.set_cons_succ])
  refine wpAnyH_take (i := 15) (oi := { dst := some 68, op := Op.move (Operand.tmp 7), type := 22, pos := "law.go:55", after := #[{ on := 14, ground := Ground.guard }], guard := some (14, true) }) (v := ?_) rfl (by kernel_rfl) (by kernel_rfl) (by kernel_rfl) (fun _ _ _ h => h) (Or.inl ⟨by rfl, ?_⟩) hHeld ?_; rotate_left 1; (intro w9 hSw; obtain ⟨h9, o9⟩ := hSw; go_simp; first | done | with_reducible rfl); (try simp only [Act.put, List.setIfInBounds_toArray, List.set_cons_zero, List.set_cons_succ])
  refine wpAnyH_take (i := 16) (oi := { dst := some 69, op := Op.binOp BinOp.eql 22 (Operand.tmp 68) (Operand.const (Value.int IntKind.i64 0)) 22, type := 4, pos := "law.go:55", after := #[{ on := 15, ground := Ground.data }, { on := 14, ground := Ground.guard }], guard := some (14, true) }) (v := ?_) rfl (by kernel_rfl) (by kernel_rfl) (by kernel_rfl) (fun _ _ _ h => h) (Or.inl ⟨by rfl, ?_⟩) hHeld ?_; rotate_left 1; (intro w9 hSw; obtain ⟨h9, o9⟩ := hSw; go_simp; first | done | with_reducible rfl); (try simp only [Act.put, List.setIfInBounds_toArray, List.set_cons_zero, List.set_cons_succ])
  refine wpAnyH_take (i := 17) (oi := { dst := some 70, op := Op.pick (Operand.tmp 67) (Operand.tmp 69) (Operand.const (Value.bool false)), type := 4, pos := "law.go:55", after := #[{ on := 14, ground := Ground.data }, { on := 16, ground := Ground.data }], guard := none }) (v := ?_) rfl (by kernel_rfl) (by kernel_rfl) (by kernel_rfl) (fun _ _ _ h => h) (Or.inl ⟨by rfl, ?_⟩) hHeld ?_; rotate_left 1; (intro w9 hSw; obtain ⟨h9, o9⟩ := hSw; go_simp; first | done | with_reducible rfl); (try simp only [Act.put, List.setIfInBounds_toArray, List.set_cons_zero, List.set_cons_succ])
  refine wpAnyH_take (i := 18) (oi := { dst := some 71, op := Op.move (Operand.tmp 70), type := 4, pos := "law.go:55", after := #[{ on := 17, ground := Ground.data }, { on := 14, ground := Ground.chain }], guard := none }) (v := ?_) rfl (by kernel_rfl) (by kernel_rfl) (by kernel_rfl) (fun _ _ _ h => h) (Or.inl ⟨by rfl, ?_⟩) hHeld ?_; rotate_left 1; (intro w9 hSw; obtain ⟨h9, o9⟩ := hSw; go_simp; first | done | with_reducible rfl); (try simp only [Act.put, List.setIfInBounds_toArray, List.set_cons_zero, List.set_cons_succ])
  refine wpAnyH_take (i := 19) (oi := { dst := some 72, op := Op.load 27 (Operand.tmp 1), type := 27, pos := "law.go:55", after := #[{ on := 18, ground := Ground.guard }], guard := some (18, true) }) (v := ?_) rfl (by kernel_rfl) (by kernel_rfl) (by kernel_rfl) (fun _ _ _ h => h) (Or.inl ⟨by rfl, ?_⟩) hHeld ?_; rotate_left 1; (intro w9 hSw; obtain ⟨h9, o9⟩ := hSw; obtain ⟨q0, q1, q2, q3, q4, q5, q6, q7⟩ := ocells o9; go_simp; first | done | with_reducible rfl); (try simp only [Act.put, List.setIfInBounds_toArray, List.set_cons_zero, List.set_cons_succ])
  refine wpAnyH_take (i := 21) (oi := { dst := some 74, op := Op.load 27 (Operand.tmp 6), type := 27, pos := "law.go:55", after := #[{ on := 18, ground := Ground.guard }], guard := some (18, true) }) (v := ?_) rfl (by kernel_rfl) (by kernel_rfl) (by kernel_rfl) (fun _ _ _ h => h) (Or.inl ⟨by rfl, ?_⟩) hHeld ?_; rotate_left 1; (intro w9 hSw; obtain ⟨h9, o9⟩ := hSw; obtain ⟨q0, q1, q2, q3, q4, q5, q6, q7⟩ := ocells h9; go_simp; first | done | with_reducible rfl); (try simp only [Act.put, List.setIfInBounds_toArray, List.set_cons_zero, List.set_cons_succ])
  refine wpAnyH_ready (rs := [20]) (by kernel_rfl) (by simp) ?_; refine AllReadyH.cons (o := { dst := some 73, op := Op.call { callee := Callee.value (Operand.func 11), args := #[Operand.tmp 72], argTypes := #[27] }, type := 34, pos := "law.go:55", after := #[{ on := 19, ground := Ground.data }, { on := 18, ground := Ground.chain }, { on := 18, ground := Ground.guard }], guard := some (18, true) }) rfl (fun K hK => ?_) AllReadyH.nil; go_simp; refine (Sa.ref_any _ _ _ _ _ _ _ _ _ _ _ _ _ _ _).mono ?_; rintro e w4 ⟨rfl, bel⟩; have HB := Lib.hid (HB.out.trans (bel.mono HB.out.size)); have HW := Lib.hid (HW.out.below bel); have HV := Lib.hid (HV.out.below bel); (try go_wp2_with fail); refine hK.out _ _ (hHeld.below bel) (fun hHeld => ?_); clear hK; (try simp only [Act.put, List.setIfInBounds_toArray, List.set_cons_zero, List.set_cons_succ])
  refine wpAnyH_ready (rs := [22]) (by kernel_rfl) (by simp) ?_; refine AllReadyH.cons (o := { dst := some 75, op := Op.call { callee := Callee.value (Operand.func 11), args := #[Operand.tmp 74], argTypes := #[27] }, type := 34, pos := "law.go:55", after := #[{ on := 21, ground := Ground.data }, { on := 20, ground := Ground.chain }, { on := 18, ground := Ground.guard }], guard := some (18, true) }) rfl (fun K hK => ?_) AllReadyH.nil; go_simp; refine (Sa.ref_any _ _ _ _ _ _ _ _ _ _ _ _ _ _ _).mono ?_; rintro e w4 ⟨rfl, bel⟩; have HB := Lib.hid (HB.out.trans (bel.mono HB.out.size)); have HW := Lib.hid (HW.out.below bel); have HV := Lib.hid (HV.out.below bel); (try go_wp2_with fail); refine hK.out _ _ (hHeld.below bel) (fun hHeld => ?_); clear hK; (try simp only [Act.put, List.setIfInBounds_toArray, List.set_cons_zero, List.set_cons_succ])
  refine wpAnyH_ready (rs := [23]) (by kernel_rfl) (by simp) ?_; refine AllReadyH.cons (o := { dst := some 76, op := Op.call { callee := Callee.value (Operand.func 16), args := #[Operand.tmp 73, Operand.tmp 75], argTypes := #[34, 34] }, type := 4, pos := "law.go:55", after := #[{ on := 20, ground := Ground.data }, { on := 22, ground := Ground.data }, { on := 22, ground := Ground.chain }, { on := 18, ground := Ground.guard }], guard := some (18, true) }) rfl (fun K hK => ?_) AllReadyH.nil; go_simp; refine (Sa.same35 (i : Int) (k : Int) (c : Int) (a : Int) (b : Int) rs ns ks A5 c5 A6 c6 A7 c7 B5 d5 B6 d6 B7 d7 _ HW.out.h5 HW.out.h6 HW.out.h7 HV.out.h5 HV.out.h6 HV.out.h7 (by omega) (by omega)).mono ?_; rintro e w4 ⟨rfl, bel⟩; have HB := Lib.hid (HB.out.trans (bel.mono HB.out.size)); have HW := Lib.hid (HW.out.below bel); have HV := Lib.hid (HV.out.below bel); (try go_wp2_with fail); refine hK.out _ _ (hHeld.below bel) (fun hHeld => ?_); clear hK; (try simp only [Act.put, List.setIfInBounds_toArray, List.set_cons_zero, List.set_cons_succ])
  refine wpAnyH_take (i := 24) (oi := { dst := some 77, op := Op.pick (Operand.tmp 71) (Operand.tmp 76) (Operand.const (Value.bool false)), type := 4, pos := "law.go:55", after := #[{ on := 18, ground := Ground.data }, { on := 23, ground := Ground.data }], guard := none }) (v := ?_) rfl (by kernel_rfl) (by kernel_rfl) (by kernel_rfl) (fun _ _ _ h => h) (Or.inl ⟨by rfl, ?_⟩) hHeld ?_; rotate_left 1; (intro w9 hSw; obtain ⟨h9, o9⟩ := hSw; go_simp; first | done | with_reducible rfl); (try simp only [Act.put, List.setIfInBounds_toArray, List.set_cons_zero, List.set_cons_succ])
  refine wpAnyH_take (i := 25) (oi := { dst := some 78, op := Op.move (Operand.tmp 77), type := 4, pos := "law.go:55", after := #[{ on := 24, ground := Ground.data }, { on := 23, ground := Ground.chain }], guard := none }) (v := ?_) rfl (by kernel_rfl) (by kernel_rfl) (by kernel_rfl) (fun _ _ _ h => h) (Or.inl ⟨by rfl, ?_⟩) hHeld ?_; rotate_left 1; (intro w9 hSw; obtain ⟨h9, o9⟩ := hSw; go_simp; first | done | with_reducible rfl); (try simp only [Act.put, List.setIfInBounds_toArray, List.set_cons_zero, List.set_cons_succ])
  refine wpAnyH_ready (rs := [26]) (by kernel_rfl) (by simp) ?_; refine AllReadyH.cons (o := { dst := some 79, op := Op.call { callee := Callee.value (Operand.func 8), args := #[], argTypes := #[] }, type := 4, pos := "law.go:55", after := #[{ on := 25, ground := Ground.chain }, { on := 25, ground := Ground.guard }], guard := some (25, true) }) rfl (fun K hK => ?_) AllReadyH.nil; go_simp; refine (plain_true _).mono ?_; rintro e w4 ⟨rfl, bel⟩; have HB := Lib.hid (HB.out.trans (bel.mono HB.out.size)); have HW := Lib.hid (HW.out.below bel); have HV := Lib.hid (HV.out.below bel); (try go_wp2_with fail); refine hK.out _ _ (hHeld.below bel) (fun hHeld => ?_); clear hK; (try simp only [Act.put, List.setIfInBounds_toArray, List.set_cons_zero, List.set_cons_succ])
  refine wpAnyH_take (i := 27) (oi := { dst := some 80, op := Op.pick (Operand.tmp 78) (Operand.tmp 79) (Operand.const (Value.bool false)), type := 4, pos := "law.go:55", after := #[{ on := 25, ground := Ground.data }, { on := 26, ground := Ground.data }], guard := none }) (v := ?_) rfl (by kernel_rfl) (by kernel_rfl) (by kernel_rfl) (fun _ _ _ h => h) (Or.inl ⟨by rfl, ?_⟩) hHeld ?_; rotate_left 1; (intro w9 hSw; obtain ⟨h9, o9⟩ := hSw; go_simp; first | done | with_reducible rfl); (try simp only [Act.put, List.setIfInBounds_toArray, List.set_cons_zero, List.set_cons_succ])
  refine wpAnyH_take (i := 28) (oi := { dst := some 2, op := Op.assign (Operand.tmp 80), type := 4, pos := "law.go:55", after := #[{ on := 27, ground := Ground.data }, { on := 26, ground := Ground.chain }, { on := 0, ground := Ground.phase }, { on := 1, ground := Ground.phase }, { on := 2, ground := Ground.phase }, { on := 3, ground := Ground.phase }, { on := 4, ground := Ground.phase }, { on := 5, ground := Ground.phase }, { on := 6, ground := Ground.phase }, { on := 7, ground := Ground.phase }, { on := 8, ground := Ground.phase }, { on := 9, ground := Ground.phase }, { on := 10, ground := Ground.phase }, { on := 11, ground := Ground.phase }, { on := 12, ground := Ground.phase }, { on := 13, ground := Ground.phase }, { on := 14, ground := Ground.phase }, { on := 15, ground := Ground.phase }, { on := 16, ground := Ground.phase }, { on := 17, ground := Ground.phase }, { on := 18, ground := Ground.phase }, { on := 19, ground := Ground.phase }, { on := 20, ground := Ground.phase }, { on := 21, ground := Ground.phase }, { on := 22, ground := Ground.phase }, { on := 23, ground := Ground.phase }, { on := 24, ground := Ground.phase }, { on := 25, ground := Ground.phase }, { on := 26, ground := Ground.phase }, { on := 27, ground := Ground.phase }], guard := none }) (v := ?_) rfl (by kernel_rfl) (by kernel_rfl) (by kernel_rfl) (fun _ _ _ h => h) (Or.inl ⟨by rfl, ?_⟩) hHeld ?_; rotate_left 1; (intro w9 hSw; obtain ⟨h9, o9⟩ := hSw; go_simp; first | done | with_reducible rfl); (try simp only [Act.put, List.setIfInBounds_toArray, List.set_cons_zero, List.set_cons_succ])
  refine wpAnyH_done (by kernel_rfl) ?_ _
  go_wp2
  go_ret
  exact ⟨rfl, HB.out⟩
end Go.Proofs.Ytakbgaiedenikaa.Rd
