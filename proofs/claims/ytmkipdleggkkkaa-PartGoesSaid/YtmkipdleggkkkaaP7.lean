/- The walk of Fetch. -/
import Derived.Test.YtmkipdleggkkkaaUa
namespace Go.Proofs.Ytmkipdleggkkkaa.Own
open Go.RowKit Go.Proofs.YtmkipdleggkkkaaW.PrintWords Go.Proofs.YtmkipdleggkkkaaW.PrintLast Go.Proofs.YtmkipdleggkkkaaW.PrintMore
set_option maxRecDepth 100000
set_option linter.unusedSimpArgs false
set_option linter.unusedVariables false
attribute [local go_sem] max2_int min2_int max_two min_two max_three min_three max_four min_four
theorem fetch_off {B g : Nat} {v : Value} {l : List PB.S45} {st nx mk : Int} {w : World} (h : PS B g v l st nx mk w) (a most : Int) (hb : a < st ∨ mk < a) :
    Calls Try.prog 21 #[.pointer (some ⟨g, 0, none⟩), .int .i64 a, .int .i64 most] w fun e w' => e = .returned (.tuple #[.slice none 0 0, .int .i64 0, .int .i64 34]) ∧ Below w.heap.size w w' := by
  have q1 := blk_cell h.blk 1
  have q3 := blk_cell h.blk 3
  simp at q1 q3
  by_cases h1 : a < st
  · have e1 : decide (a < st) = true := decide_eq_true h1
    clear hb
    go_enter Try.func21, Try.ntmps21
    go_wp2
    all_goals go_ret3
    all_goals exact ⟨rfl, Below.refl _ _⟩
  · have e1 : decide (a < st) = false := decide_eq_false h1
    have h2 : mk < a := by omega
    have e2 : decide (a > mk) = true := decide_eq_true h2
    clear hb
    go_enter Try.func21, Try.ntmps21
    go_wp2
    all_goals go_ret3
    all_goals exact ⟨rfl, Below.refl _ _⟩
theorem fetch_none {B g : Nat} {v : Value} {l : List PB.S45} {st nx mk : Int} {w : World} (h : PS B g v l st nx mk w) (a most : Int) (h1 : ¬ a < st) (h2 : ¬ mk < a) (hm : most < 1) :
    Calls Try.prog 21 #[.pointer (some ⟨g, 0, none⟩), .int .i64 a, .int .i64 most] w fun e w' => e = .returned (.tuple #[.slice none 0 0, .int .i64 a, .int .i64 0]) ∧ Below w.heap.size w w' := by
  have q1 := blk_cell h.blk 1
  have q3 := blk_cell h.blk 3
  simp at q1 q3
  have e1 : decide (a < st) = false := decide_eq_false h1
  have e2 : decide (a > mk) = false := decide_eq_false h2
  have e3 : decide (most < 1) = true := decide_eq_true hm
  go_enter Try.func21, Try.ntmps21
  go_wp2
  all_goals go_ret3
  all_goals exact ⟨rfl, Below.refl _ _⟩
theorem PS.drew {B g : Nat} {v : Value} {l : List PB.S45} {st nx mk : Int} {w : World} (h : PS B g v l st nx mk w) : PS B g v l st nx mk w.drew := ⟨h.blk, h.lo, Kd.R_drew h.row⟩
theorem PS.read {B g : Nat} {A : Option Addr} {n c : Nat} {l : List PB.S45} {st nx mk : Int} {w : World} (h : PS B g (.slice A n c) l st nx mk w) : Kd.C PB.k45 w A l.length l := (Kd.R_reads' h.row).2.2
theorem sf_below {B g : Nat} {A : Option Addr} {n c : Nat} {l : List PB.S45} {st nx mk : Int} {w0 w w1 : World} (h : PS B g (.slice A n c) l st nx mk w ∧ w.cell? ⟨g, 0, none⟩ = some (.slice A n c) ∧ Below w0.heap.size w0 w) (hb : Below w.heap.size w w1) : PS B g (.slice A n c) l st nx mk w1 ∧ w1.cell? ⟨g, 0, none⟩ = some (.slice A n c) ∧ Below w0.heap.size w0 w1 := by
  have hp := h.1.below hb
  exact ⟨hp, (blk_cell hp.blk 0).trans rfl, below_two h.2.2 hb⟩
theorem sf_drew {B g : Nat} {A : Option Addr} {n c : Nat} {l : List PB.S45} {st nx mk : Int} {w0 w : World} (h : PS B g (.slice A n c) l st nx mk w ∧ w.cell? ⟨g, 0, none⟩ = some (.slice A n c) ∧ Below w0.heap.size w0 w) : PS B g (.slice A n c) l st nx mk w.drew ∧ w.drew.cell? ⟨g, 0, none⟩ = some (.slice A n c) ∧ Below w0.heap.size w0 w.drew := ⟨h.1.drew, h.2.1, h.2.2.drew⟩
set_option maxHeartbeats 4000000 in
theorem fetch_ok {B g : Nat} {v : Value} {l : List PB.S45} {st nx mk : Int} {w : World} (h : PS B g v l st nx mk w) (a most : Int) (N : Nat) (h1 : ¬ a < st) (h2 : ¬ mk < a) (hN : most = (N : Int) ∧ 1 ≤ N ∧ N < 16 ∨ most = 16 ∧ N = 16 ∨ 16 < most ∧ N = 16) (hl : l.length ≤ 60000) (hs : risen l) :
    Calls Try.prog 21 #[.pointer (some ⟨g, 0, none⟩), .int .i64 a, .int .i64 most] w fun e w' => ∃ (m k : Nat) (u : Value) (on : Int), cutAt l a m ∧ k ≤ (l.drop m).length ∧ k ≤ N ∧ (∀ t, t < k → (PB.rd_T45 (l.drop m) (t : Int)).f0 < mk) ∧ (k = (l.drop m).length ∨ k = N ∨ mk ≤ (PB.rd_T45 (l.drop m) (k : Int)).f0) ∧
      on = (if k = 0 then mk else wrap64 ((PB.rd_T45 (l.drop m) ((k - 1 : Nat) : Int)).f0 + 1)) ∧ e = .returned (.tuple #[u, .int .i64 on, .int .i64 0]) ∧ Kd.R PB.k45 45 w' w.heap.size (fun _ => True) u ((l.drop m).take k) ∧ Below w.heap.size w w' := by
  obtain ⟨A, c, rfl, hc, hC⟩ := h.len
  have q0 := blk_cell h.blk 0
  have q1 := blk_cell h.blk 1
  have q3 := blk_cell h.blk 3
  simp at q0 q1 q3
  have e1 : decide (a < st) = false := decide_eq_false h1
  have e2 : decide (a > mk) = false := decide_eq_false h2
  have e3 : decide (most < 1) = false := by rw [decide_eq_false_iff_not]; omega
  obtain ⟨i0, hi, hz⟩ := Option.map_eq_some_iff.1 info45
  have hz8 : i0.size = 8 := by simp only [Prod.mk.injEq] at hz; exact hz.2.1
  clear hz
  go_enter Try.func21, Try.ntmps21
  go_upto_region 8 with (fail)
  have hsf : PS B g (.slice A l.length c) l st nx mk w ∧ w.cell? ⟨g, 0, none⟩ = some (.slice A l.length c) ∧ Below w.heap.size w w := ⟨h, q0, Below.refl _ _⟩
  clear q0 h
  go_region_held3 (fun w' => PS B g (.slice A l.length c) l st nx mk w' ∧ w'.cell? ⟨g, 0, none⟩ = some (.slice A l.length c) ∧ Below w.heap.size w w')
    ((first | assumption | exact sf_drew (by assumption)))
    (first
      | (go_at_call 36; refine (find_any (And.left (by assumption)) a hl hs).mono ?_; rintro e w4 ⟨⟨m, rfl, hm⟩, b4⟩; have hsf4 := sf_below (by assumption) b4; have kc := cut_from (P := Try.prog) 22 45 .i64 Try.underlying22 hi 8 hz8 A l.length c (m : Int) (by omega) (by have := hm.1; omega); rw [Int.toNat_natCast] at kc; obtain ⟨A1, hA1⟩ : ∃ A1, A1 = (if c = m then A else A.map (·.add (m * 8))) := ⟨_, rfl⟩; rw [← hA1] at kc; have KC := kc))
  have hx : PS B g (.slice A l.length c) l st nx mk w4 ∧ w4.cell? ⟨g, 0, none⟩ = some (.slice A l.length c) ∧ Below w.heap.size w w4 := by assumption
  have hD := Kd.C_drop (m := m) hx.1.read hm.1 hc
  obtain ⟨d, hd⟩ : ∃ d, d = l.drop m := ⟨_, rfl⟩
  have hdl : d.length = l.length - m := by rw [hd, List.length_drop]
  rw [← hd] at hD
  rw [← hdl]
  have hdc : d.length ≤ c - m := by omega
  have hd6 : d.length ≤ 60000 := by omega
  generalize c - m = c1 at *
  have hA2 : (if c = m then A else A.map (·.add (m * 8))) = (if c = m then A else A.map (·.add (m * PB.k45.sz))) := rfl
  rw [← hA2] at hD
  clear hA2 kc KC hsf hsf4 hA1 q1 q3 hC e1 e2 e3 hi hz8
  generalize (if c = m then A else A.map (·.add (m * 8))) = A2 at *
  have HD := Lib.hid hD
  have HX := Lib.hid hx
  have HM := Lib.hid hm
  have HDD := Lib.hid hd
  have HSS := Lib.hid hs
  clear hD hx hm hd hdl hs
  go_wp2_with fail
  go_loopw [43, 9] (fun i o wr => ∃ k : Nat, k ≤ d.length ∧ k ≤ N ∧ i = .int .i64 (k : Int) ∧ (∀ t, t < k → (PB.rd_T45 d (t : Int)).f0 < mk) ∧ Kd.R PB.k45 45 wr w4.heap.size (fun _ => True) o (d.take k) ∧ Below w4.heap.size w4 wr) (fun i _ _ => d.length - (intOf i).toNat)
  case atStart => exact ⟨0, Nat.zero_le _, Nat.zero_le _, rfl, by intro t ht; omega, by rw [List.take_zero]; exact Kd.R_nil _ _ _ _ _, Below.refl _ _⟩
  case round =>
    obtain ⟨k, hk, hkN, rfl, hlow, hR, bel⟩ := hrel
    have HL := Lib.hid hlow; clear hlow
    have HR := Lib.hid hR
    have Bel := Lib.hid bel; clear bel
    obtain ⟨Ao, co, rfl⟩ := Kd.R_slice hR
    have hRc := (Kd.R_reads' hR).2.1
    clear hR
    have htk : (d.take k).length = k := by rw [List.length_take]; omega
    rw [htk] at HR hRc
    rw [htk]
    clear htk
    have g3 := blk_cell (HX.out.1.below Bel.out).blk 3
    simp at g3
    by_cases hlt : k < d.length
    · have p1 : (0 : Int) ≤ (k : Int) := Int.natCast_nonneg _
      have p2 : (k : Int) < (d.length : Int) := by omega
      have hw : wrap64 ((k : Int) + 1) = ((k + 1 : Nat) : Int) := by unfold wrap64; omega
      obtain ⟨ad, ea, x0, x1, x2, x3, x4, x5, x6, x7⟩ := PB.at_T45 (Kd.C_below HD.out Bel.out) (k : Int) p1 p2
      cases ea
      rw [Int.toNat_natCast] at x0 x1 x2 x3 x4 x5 x6 x7
      obtain ⟨x, hx⟩ : ∃ x, x = PB.rd_T45 d (k : Int) := ⟨_, rfl⟩
      rw [← hx] at x0 x1 x2 x3 x4 x5 x6 x7
      have HXX := Lib.hid hx; clear hx
      go_upto_region 11 with (fail)
      have bA : Below wr.heap.size wr (wr.alloc (.cells #[.int .i64 x.f0, .int .i64 x.f1, .string x.f2, .string x.f3, .bool x.f4, .int .i64 x.f5, .int .i64 x.f6, .int .i64 x.f7] 45)) := (Below.refl _ _).alloc (Nat.le_refl _) _
      have hbx := heap_new wr (.cells #[.int .i64 x.f0, .int .i64 x.f1, .string x.f2, .string x.f3, .bool x.f4, .int .i64 x.f5, .int .i64 x.f6, .int .i64 x.f7] 45)
      have BE0 := Lib.hid (below_two Bel.out bA)
      have RE0 := Lib.hid (Kd.R_below HR.out bA)
      clear x0 x1 x2 x3 x4 x5 x6 x7 g3
      generalize hW : wr.alloc (.cells #[.int .i64 x.f0, .int .i64 x.f1, .string x.f2, .string x.f3, .bool x.f4, .int .i64 x.f5, .int .i64 x.f6, .int .i64 x.f7] 45) = W0 at *
      clear hW bA
      generalize hbb : wr.heap.size = bx at *
      have g3 := blk_cell (HX.out.1.below BE0.out).blk 3
      have y0 := blk_cell hbx 0
      simp at g3 y0
      have HBX := Lib.hid hbx; clear hbx
      by_cases hge : x.f0 ≥ mk
      · have c1 : decide (x.f0 ≥ mk) = true := decide_eq_true hge
        have hst : mk ≤ (PB.rd_T45 d (k : Int)).f0 := by rw [← HXX.out]; exact hge
        have HST := Lib.hid hst; clear hst
        clear hge
        go_quiet (fail)
        have BE := Lib.hid (pw_below_drewN BE0.out nq)
        have RE := Lib.hid (Kd.R_drewN RE0.out nq)
        clear g3 y0 HBX hw p1 p2
        generalize W0.drewN nq = W1 at *
        have g3 := blk_cell (HX.out.1.below BE.out).blk 3
        simp at g3
        by_cases hk0 : k = 0
        · have z1 : (((k : Nat) : Int) == 0) = true := by rw [beq_iff_eq]; omega
          have z2 : ((k : Nat) : Int) = 0 := by omega
          go_wp2_with fail
          go_quiet (fail)
          go_wp2
          go_ret3
          exact ⟨m, k, .slice none 0 0, mk, HM.out, by rw [← HDD.out]; omega, hkN, by rw [← HDD.out]; exact HL.out, by rw [← HDD.out]; exact Or.inr (Or.inr HST.out), by rw [if_pos hk0], rfl, by rw [← HDD.out, hk0]; exact Kd.R_nil _ _ _ _ _, pw_below_drewN (below_two HX.out.2.2 BE.out) _⟩
        · have z1 : (((k : Nat) : Int) == 0) = false := by rw [beq_eq_false_iff_ne]; omega
          have z2 : ¬ ((k : Nat) : Int) = 0 := by omega
          have z3 : wrap64 (((k : Nat) : Int) - 1) = ((k - 1 : Nat) : Int) := by unfold wrap64; omega
          have z4 : ((k : Nat) : Int) - 1 = ((k - 1 : Nat) : Int) := by omega
          have hCo := (Kd.R_reads' RE.out).2.2
          have htk2 : (d.take k).length = k := by rw [List.length_take]; omega
          obtain ⟨ad2, ea2, y0, _⟩ := PB.at_T45 hCo ((k - 1 : Nat) : Int) (Int.natCast_nonneg _) (by rw [htk2]; omega)
          cases ea2
          have hrd : PB.rd_T45 (d.take k) ((k - 1 : Nat) : Int) = PB.rd_T45 d ((k - 1 : Nat) : Int) := by
            rw [rd_get _ _ (show k - 1 < (d.take k).length by rw [htk2]; omega), rd_get _ _ (show k - 1 < d.length by omega), List.getElem_take]
          rw [Int.toNat_natCast, hrd] at y0
          clear hCo htk2 hrd
          have z5 : ((k - 1 : Nat) : Int) < ((k : Nat) : Int) := by omega
          have z6 : (0 : Int) ≤ ((k - 1 : Nat) : Int) := Int.natCast_nonneg _
          go_wp2_with fail
          go_quiet (fail)
          go_wp2
          go_ret3
          exact ⟨m, k, .slice (some ad2) k co, _, HM.out, by rw [← HDD.out]; omega, hkN, by rw [← HDD.out]; exact HL.out, by rw [← HDD.out]; exact Or.inr (Or.inr HST.out), by rw [if_neg hk0, ← HDD.out], rfl, by rw [← HDD.out]; exact Kd.R_lower (Kd.R_drewN RE.out _) HX.out.2.2.size, pw_below_drewN (below_two HX.out.2.2 BE.out) _⟩
      · have c1 : decide (x.f0 ≥ mk) = false := decide_eq_false hge
        have hlt3 : (PB.rd_T45 d (k : Int)).f0 < mk := by rw [← HXX.out]; omega
        have HL3 := Lib.hid hlt3; clear hlt3
        clear hge
        by_cases hkn : k = N
        · subst hkn
          have c2 : ((k : Int) == (k : Int)) = true := beq_self_eq_true _
          rcases hN with ⟨rfl, n1, n2⟩ | ⟨rfl, hk16⟩ | ⟨n1, hk16⟩
          · have n3 : (k : Int) < 16 := by omega
            go_quiet (fail)
            have BE := Lib.hid (pw_below_drewN BE0.out nq)
            have RE := Lib.hid (Kd.R_drewN RE0.out nq)
            clear g3 y0 HBX hw p1 p2
            generalize W0.drewN nq = W1 at *
            have g3 := blk_cell (HX.out.1.below BE.out).blk 3
            simp at g3
            by_cases hk0 : k = 0
            · have z1 : (((k : Nat) : Int) == 0) = true := by rw [beq_iff_eq]; omega
              have z2 : ((k : Nat) : Int) = 0 := by omega
              go_wp2_with fail
              go_quiet (fail)
              go_wp2
              go_ret3
              exact ⟨m, k, .slice none 0 0, mk, HM.out, by rw [← HDD.out]; omega, hkN, by rw [← HDD.out]; exact HL.out, by rw [← HDD.out]; exact Or.inr (Or.inl rfl), by rw [if_pos hk0], rfl, by rw [← HDD.out, hk0]; exact Kd.R_nil _ _ _ _ _, pw_below_drewN (below_two HX.out.2.2 BE.out) _⟩
            · have z1 : (((k : Nat) : Int) == 0) = false := by rw [beq_eq_false_iff_ne]; omega
              have z2 : ¬ ((k : Nat) : Int) = 0 := by omega
              have z3 : wrap64 (((k : Nat) : Int) - 1) = ((k - 1 : Nat) : Int) := by unfold wrap64; omega
              have z4 : ((k : Nat) : Int) - 1 = ((k - 1 : Nat) : Int) := by omega
              have hCo := (Kd.R_reads' RE.out).2.2
              have htk2 : (d.take k).length = k := by rw [List.length_take]; omega
              obtain ⟨ad2, ea2, y0, _⟩ := PB.at_T45 hCo ((k - 1 : Nat) : Int) (Int.natCast_nonneg _) (by rw [htk2]; omega)
              cases ea2
              have hrd : PB.rd_T45 (d.take k) ((k - 1 : Nat) : Int) = PB.rd_T45 d ((k - 1 : Nat) : Int) := by
                rw [rd_get _ _ (show k - 1 < (d.take k).length by rw [htk2]; omega), rd_get _ _ (show k - 1 < d.length by omega), List.getElem_take]
              rw [Int.toNat_natCast, hrd] at y0
              clear hCo htk2 hrd
              have z5 : ((k - 1 : Nat) : Int) < ((k : Nat) : Int) := by omega
              have z6 : (0 : Int) ≤ ((k - 1 : Nat) : Int) := Int.natCast_nonneg _
              go_wp2_with fail
              go_quiet (fail)
              go_wp2
              go_ret3
              exact ⟨m, k, .slice (some ad2) k co, _, HM.out, by rw [← HDD.out]; omega, hkN, by rw [← HDD.out]; exact HL.out, by rw [← HDD.out]; exact Or.inr (Or.inl rfl), by rw [if_neg hk0, ← HDD.out], rfl, by rw [← HDD.out]; exact Kd.R_lower (Kd.R_drewN RE.out _) HX.out.2.2.size, pw_below_drewN (below_two HX.out.2.2 BE.out) _⟩
          · have c3 : ((k : Int) == 16) = true := by rw [hk16]; rfl
            have HK16 := Lib.hid hk16; clear hk16
            go_quiet (fail)
            have BE := Lib.hid (pw_below_drewN BE0.out nq)
            have RE := Lib.hid (Kd.R_drewN RE0.out nq)
            clear g3 y0 HBX hw p1 p2
            generalize W0.drewN nq = W1 at *
            have g3 := blk_cell (HX.out.1.below BE.out).blk 3
            simp at g3
            by_cases hk0 : k = 0
            · have z1 : (((k : Nat) : Int) == 0) = true := by rw [beq_iff_eq]; omega
              have z2 : ((k : Nat) : Int) = 0 := by omega
              go_wp2_with fail
              go_quiet (fail)
              go_wp2
              go_ret3
              exact ⟨m, k, .slice none 0 0, mk, HM.out, by rw [← HDD.out]; omega, hkN, by rw [← HDD.out]; exact HL.out, by rw [← HDD.out]; exact Or.inr (Or.inl rfl), by rw [if_pos hk0], rfl, by rw [← HDD.out, hk0]; exact Kd.R_nil _ _ _ _ _, pw_below_drewN (below_two HX.out.2.2 BE.out) _⟩
            · have z1 : (((k : Nat) : Int) == 0) = false := by rw [beq_eq_false_iff_ne]; omega
              have z2 : ¬ ((k : Nat) : Int) = 0 := by omega
              have z3 : wrap64 (((k : Nat) : Int) - 1) = ((k - 1 : Nat) : Int) := by unfold wrap64; omega
              have z4 : ((k : Nat) : Int) - 1 = ((k - 1 : Nat) : Int) := by omega
              have hCo := (Kd.R_reads' RE.out).2.2
              have htk2 : (d.take k).length = k := by rw [List.length_take]; omega
              obtain ⟨ad2, ea2, y0, _⟩ := PB.at_T45 hCo ((k - 1 : Nat) : Int) (Int.natCast_nonneg _) (by rw [htk2]; omega)
              cases ea2
              have hrd : PB.rd_T45 (d.take k) ((k - 1 : Nat) : Int) = PB.rd_T45 d ((k - 1 : Nat) : Int) := by
                rw [rd_get _ _ (show k - 1 < (d.take k).length by rw [htk2]; omega), rd_get _ _ (show k - 1 < d.length by omega), List.getElem_take]
              rw [Int.toNat_natCast, hrd] at y0
              clear hCo htk2 hrd
              have z5 : ((k - 1 : Nat) : Int) < ((k : Nat) : Int) := by omega
              have z6 : (0 : Int) ≤ ((k - 1 : Nat) : Int) := Int.natCast_nonneg _
              go_wp2_with fail
              go_quiet (fail)
              go_wp2
              go_ret3
              exact ⟨m, k, .slice (some ad2) k co, _, HM.out, by rw [← HDD.out]; omega, hkN, by rw [← HDD.out]; exact HL.out, by rw [← HDD.out]; exact Or.inr (Or.inl rfl), by rw [if_neg hk0, ← HDD.out], rfl, by rw [← HDD.out]; exact Kd.R_lower (Kd.R_drewN RE.out _) HX.out.2.2.size, pw_below_drewN (below_two HX.out.2.2 BE.out) _⟩
          · have c3 : ((k : Int) == 16) = true := by rw [hk16]; rfl
            have HK16 := Lib.hid hk16; clear hk16
            go_quiet (fail)
            have BE := Lib.hid (pw_below_drewN BE0.out nq)
            have RE := Lib.hid (Kd.R_drewN RE0.out nq)
            clear g3 y0 HBX hw p1 p2
            generalize W0.drewN nq = W1 at *
            have g3 := blk_cell (HX.out.1.below BE.out).blk 3
            simp at g3
            by_cases hk0 : k = 0
            · have z1 : (((k : Nat) : Int) == 0) = true := by rw [beq_iff_eq]; omega
              have z2 : ((k : Nat) : Int) = 0 := by omega
              go_wp2_with fail
              go_quiet (fail)
              go_wp2
              go_ret3
              exact ⟨m, k, .slice none 0 0, mk, HM.out, by rw [← HDD.out]; omega, hkN, by rw [← HDD.out]; exact HL.out, by rw [← HDD.out]; exact Or.inr (Or.inl rfl), by rw [if_pos hk0], rfl, by rw [← HDD.out, hk0]; exact Kd.R_nil _ _ _ _ _, pw_below_drewN (below_two HX.out.2.2 BE.out) _⟩
            · have z1 : (((k : Nat) : Int) == 0) = false := by rw [beq_eq_false_iff_ne]; omega
              have z2 : ¬ ((k : Nat) : Int) = 0 := by omega
              have z3 : wrap64 (((k : Nat) : Int) - 1) = ((k - 1 : Nat) : Int) := by unfold wrap64; omega
              have z4 : ((k : Nat) : Int) - 1 = ((k - 1 : Nat) : Int) := by omega
              have hCo := (Kd.R_reads' RE.out).2.2
              have htk2 : (d.take k).length = k := by rw [List.length_take]; omega
              obtain ⟨ad2, ea2, y0, _⟩ := PB.at_T45 hCo ((k - 1 : Nat) : Int) (Int.natCast_nonneg _) (by rw [htk2]; omega)
              cases ea2
              have hrd : PB.rd_T45 (d.take k) ((k - 1 : Nat) : Int) = PB.rd_T45 d ((k - 1 : Nat) : Int) := by
                rw [rd_get _ _ (show k - 1 < (d.take k).length by rw [htk2]; omega), rd_get _ _ (show k - 1 < d.length by omega), List.getElem_take]
              rw [Int.toNat_natCast, hrd] at y0
              clear hCo htk2 hrd
              have z5 : ((k - 1 : Nat) : Int) < ((k : Nat) : Int) := by omega
              have z6 : (0 : Int) ≤ ((k - 1 : Nat) : Int) := Int.natCast_nonneg _
              go_wp2_with fail
              go_quiet (fail)
              go_wp2
              go_ret3
              exact ⟨m, k, .slice (some ad2) k co, _, HM.out, by rw [← HDD.out]; omega, hkN, by rw [← HDD.out]; exact HL.out, by rw [← HDD.out]; exact Or.inr (Or.inl rfl), by rw [if_neg hk0, ← HDD.out], rfl, by rw [← HDD.out]; exact Kd.R_lower (Kd.R_drewN RE.out _) HX.out.2.2.size, pw_below_drewN (below_two HX.out.2.2 BE.out) _⟩
        · rcases hN with ⟨rfl, n1, n2⟩ | ⟨rfl, rfl⟩ | ⟨n1, rfl⟩
          · have HW := Lib.hid hw; clear hw p1 p2
            have n3 : (N : Int) < 16 := by omega
            have c2 : ((k : Int) == (N : Int)) = false := by rw [beq_eq_false_iff_ne]; omega
            go_quiet (fail)
            have BE := Lib.hid (pw_below_drewN BE0.out nq)
            have RE := Lib.hid (Kd.R_drewN RE0.out nq)
            have hb1 : (W0.drewN nq).heap[bx]? = some (.cells #[.int .i64 x.f0, .int .i64 x.f1, .string x.f2, .string x.f3, .bool x.f4, .int .i64 x.f5, .int .i64 x.f6, .int .i64 x.f7] 45 (0, 0)) := HBX.out
            clear g3 y0 HBX
            generalize W0.drewN nq = W1 at *
            have y0 := blk_cell hb1 0
            have y1 := blk_cell hb1 1
            have y2 := blk_cell hb1 2
            have y3 := blk_cell hb1 3
            have y4 := blk_cell hb1 4
            have y5 := blk_cell hb1 5
            have y6 := blk_cell hb1 6
            have y7 := blk_cell hb1 7
            simp at y0 y1 y2 y3 y4 y5 y6 y7
            clear hb1
            go_wp2_with (at_builtin; refine Kd.R_append PB.k45 (w0 := w4) w4.heap.size rfl (.tmp 61) (.tmp 63) 22 45 z0 80 rfl Try.underlying22 info45 rfl (by decide) (by omega) (.slice Ao k co) (d.take k) x [.int .i64 x.f0, .int .i64 x.f1, .string x.f2, .string x.f3, .bool x.f4, .int .i64 x.f5, .int .i64 x.f6, .int .i64 x.f7] (fun _ => True) (fun _ => False) rfl rfl (PB.k45_mkM _ _ _ x) (fun q hq => hq.elim) (fun _ _ => trivial) RE.out BE.out BE.out.size (by rw [List.length_take]; omega) ?_)
            intro v1 w1 hR1 hB1 hg1 ha1
            obtain ⟨A1, c3, rfl⟩ := Kd.R_slice hR1
            have hlen : (d.take k ++ [x]).length = k + 1 := by rw [List.length_append, List.length_take, List.length_singleton]; omega
            have ht : d.take (k + 1) = d.take k ++ [x] := by rw [List.take_succ_eq_append_getElem hlt, HXX.out, rd_get d k hlt]
            rw [hlen] at hR1
            rw [hlen]
            rw [← ht] at hR1
            have HR1 := Lib.hid hR1; clear hR1
            have HB1 := Lib.hid hB1; clear hB1
            clear hg1 ha1 hlen ht
            obtain ⟨K1, hK1⟩ : ∃ K1 : Int, K1 = ((k + 1 : Nat) : Int) := ⟨_, rfl⟩
            have hw := HW.out
            rw [← hK1] at hw
            have HK1 := Lib.hid hK1; clear hK1
            go_wp2
            go_roundw
            case rel =>
              refine ⟨k + 1, by omega, by omega, by first | go_num | rw [HK1.out], fun q hq => ?_, HR1.out, HB1.out⟩
              rcases Nat.lt_or_ge q k with h | h
              · exact HL.out q h
              · obtain rfl : q = k := by omega
                exact HL3.out
            case measure => first | (simp [intOf]; omega) | (simp [intOf, HK1.out]; omega)
          · have HW := Lib.hid hw; clear hw p1 p2
            have c2 : ((k : Int) == 16) = false := by rw [beq_eq_false_iff_ne]; omega
            go_quiet (fail)
            have BE := Lib.hid (pw_below_drewN BE0.out nq)
            have RE := Lib.hid (Kd.R_drewN RE0.out nq)
            have hb1 : (W0.drewN nq).heap[bx]? = some (.cells #[.int .i64 x.f0, .int .i64 x.f1, .string x.f2, .string x.f3, .bool x.f4, .int .i64 x.f5, .int .i64 x.f6, .int .i64 x.f7] 45 (0, 0)) := HBX.out
            clear g3 y0 HBX
            generalize W0.drewN nq = W1 at *
            have y0 := blk_cell hb1 0
            have y1 := blk_cell hb1 1
            have y2 := blk_cell hb1 2
            have y3 := blk_cell hb1 3
            have y4 := blk_cell hb1 4
            have y5 := blk_cell hb1 5
            have y6 := blk_cell hb1 6
            have y7 := blk_cell hb1 7
            simp at y0 y1 y2 y3 y4 y5 y6 y7
            clear hb1
            go_wp2_with (at_builtin; refine Kd.R_append PB.k45 (w0 := w4) w4.heap.size rfl (.tmp 61) (.tmp 63) 22 45 z0 80 rfl Try.underlying22 info45 rfl (by decide) (by omega) (.slice Ao k co) (d.take k) x [.int .i64 x.f0, .int .i64 x.f1, .string x.f2, .string x.f3, .bool x.f4, .int .i64 x.f5, .int .i64 x.f6, .int .i64 x.f7] (fun _ => True) (fun _ => False) rfl rfl (PB.k45_mkM _ _ _ x) (fun q hq => hq.elim) (fun _ _ => trivial) RE.out BE.out BE.out.size (by rw [List.length_take]; omega) ?_)
            intro v1 w1 hR1 hB1 hg1 ha1
            obtain ⟨A1, c3, rfl⟩ := Kd.R_slice hR1
            have hlen : (d.take k ++ [x]).length = k + 1 := by rw [List.length_append, List.length_take, List.length_singleton]; omega
            have ht : d.take (k + 1) = d.take k ++ [x] := by rw [List.take_succ_eq_append_getElem hlt, HXX.out, rd_get d k hlt]
            rw [hlen] at hR1
            rw [hlen]
            rw [← ht] at hR1
            have HR1 := Lib.hid hR1; clear hR1
            have HB1 := Lib.hid hB1; clear hB1
            clear hg1 ha1 hlen ht
            obtain ⟨K1, hK1⟩ : ∃ K1 : Int, K1 = ((k + 1 : Nat) : Int) := ⟨_, rfl⟩
            have hw := HW.out
            rw [← hK1] at hw
            have HK1 := Lib.hid hK1; clear hK1
            go_wp2
            go_roundw
            case rel =>
              refine ⟨k + 1, by omega, by omega, by first | go_num | rw [HK1.out], fun q hq => ?_, HR1.out, HB1.out⟩
              rcases Nat.lt_or_ge q k with h | h
              · exact HL.out q h
              · obtain rfl : q = k := by omega
                exact HL3.out
            case measure => first | (simp [intOf]; omega) | (simp [intOf, HK1.out]; omega)
          · have HW := Lib.hid hw; clear hw p1 p2
            have c2 : ((k : Int) == 16) = false := by rw [beq_eq_false_iff_ne]; omega
            go_quiet (fail)
            have BE := Lib.hid (pw_below_drewN BE0.out nq)
            have RE := Lib.hid (Kd.R_drewN RE0.out nq)
            have hb1 : (W0.drewN nq).heap[bx]? = some (.cells #[.int .i64 x.f0, .int .i64 x.f1, .string x.f2, .string x.f3, .bool x.f4, .int .i64 x.f5, .int .i64 x.f6, .int .i64 x.f7] 45 (0, 0)) := HBX.out
            clear g3 y0 HBX
            generalize W0.drewN nq = W1 at *
            have y0 := blk_cell hb1 0
            have y1 := blk_cell hb1 1
            have y2 := blk_cell hb1 2
            have y3 := blk_cell hb1 3
            have y4 := blk_cell hb1 4
            have y5 := blk_cell hb1 5
            have y6 := blk_cell hb1 6
            have y7 := blk_cell hb1 7
            simp at y0 y1 y2 y3 y4 y5 y6 y7
            clear hb1
            go_wp2_with (at_builtin; refine Kd.R_append PB.k45 (w0 := w4) w4.heap.size rfl (.tmp 61) (.tmp 63) 22 45 z0 80 rfl Try.underlying22 info45 rfl (by decide) (by omega) (.slice Ao k co) (d.take k) x [.int .i64 x.f0, .int .i64 x.f1, .string x.f2, .string x.f3, .bool x.f4, .int .i64 x.f5, .int .i64 x.f6, .int .i64 x.f7] (fun _ => True) (fun _ => False) rfl rfl (PB.k45_mkM _ _ _ x) (fun q hq => hq.elim) (fun _ _ => trivial) RE.out BE.out BE.out.size (by rw [List.length_take]; omega) ?_)
            intro v1 w1 hR1 hB1 hg1 ha1
            obtain ⟨A1, c3, rfl⟩ := Kd.R_slice hR1
            have hlen : (d.take k ++ [x]).length = k + 1 := by rw [List.length_append, List.length_take, List.length_singleton]; omega
            have ht : d.take (k + 1) = d.take k ++ [x] := by rw [List.take_succ_eq_append_getElem hlt, HXX.out, rd_get d k hlt]
            rw [hlen] at hR1
            rw [hlen]
            rw [← ht] at hR1
            have HR1 := Lib.hid hR1; clear hR1
            have HB1 := Lib.hid hB1; clear hB1
            clear hg1 ha1 hlen ht
            obtain ⟨K1, hK1⟩ : ∃ K1 : Int, K1 = ((k + 1 : Nat) : Int) := ⟨_, rfl⟩
            have hw := HW.out
            rw [← hK1] at hw
            have HK1 := Lib.hid hK1; clear hK1
            go_wp2
            go_roundw
            case rel =>
              refine ⟨k + 1, by omega, by omega, by first | go_num | rw [HK1.out], fun q hq => ?_, HR1.out, HB1.out⟩
              rcases Nat.lt_or_ge q k with h | h
              · exact HL.out q h
              · obtain rfl : q = k := by omega
                exact HL3.out
            case measure => first | (simp [intOf]; omega) | (simp [intOf, HK1.out]; omega)
    · obtain rfl : k = d.length := by omega
      have p2 : ¬ (d.length : Int) < (d.length : Int) := by omega
      -- LASTEXIT
      have BE := Bel
      have RE := HR
      clear g3
      have g3 := blk_cell (HX.out.1.below BE.out).blk 3
      simp at g3
      by_cases hk0 : d.length = 0
      · have z1 : (((d.length : Nat) : Int) == 0) = true := by rw [beq_iff_eq]; omega
        have z2 : ((d.length : Nat) : Int) = 0 := by omega
        go_wp2_with fail
        go_quiet (fail)
        go_wp2
        go_ret3
        exact ⟨m, d.length, .slice none 0 0, mk, HM.out, by rw [← HDD.out]; omega, hkN, by rw [← HDD.out]; exact HL.out, by rw [← HDD.out]; exact Or.inl rfl, by rw [if_pos hk0], rfl, by rw [← HDD.out, hk0]; exact Kd.R_nil _ _ _ _ _, pw_below_drewN (below_two HX.out.2.2 BE.out) _⟩
      · have z1 : (((d.length : Nat) : Int) == 0) = false := by rw [beq_eq_false_iff_ne]; omega
        have z2 : ¬ ((d.length : Nat) : Int) = 0 := by omega
        have z3 : wrap64 (((d.length : Nat) : Int) - 1) = ((d.length - 1 : Nat) : Int) := by unfold wrap64; omega
        have z4 : ((d.length : Nat) : Int) - 1 = ((d.length - 1 : Nat) : Int) := by omega
        have hCo := (Kd.R_reads' RE.out).2.2
        have htk2 : (d.take d.length).length = d.length := by rw [List.length_take]; omega
        obtain ⟨ad2, ea2, y0, _⟩ := PB.at_T45 hCo ((d.length - 1 : Nat) : Int) (Int.natCast_nonneg _) (by rw [htk2]; omega)
        cases ea2
        have hrd : PB.rd_T45 (d.take d.length) ((d.length - 1 : Nat) : Int) = PB.rd_T45 d ((d.length - 1 : Nat) : Int) := by
          rw [rd_get _ _ (show d.length - 1 < (d.take d.length).length by rw [htk2]; omega), rd_get _ _ (show d.length - 1 < d.length by omega), List.getElem_take]
        rw [Int.toNat_natCast, hrd] at y0
        clear hCo htk2 hrd
        have z5 : ((d.length - 1 : Nat) : Int) < ((d.length : Nat) : Int) := by omega
        have z6 : (0 : Int) ≤ ((d.length - 1 : Nat) : Int) := Int.natCast_nonneg _
        go_wp2_with fail
        go_quiet (fail)
        go_wp2
        go_ret3
        exact ⟨m, d.length, .slice (some ad2) d.length co, _, HM.out, by rw [← HDD.out]; omega, hkN, by rw [← HDD.out]; exact HL.out, by rw [← HDD.out]; exact Or.inl rfl, by rw [if_neg hk0, ← HDD.out], rfl, by rw [← HDD.out]; exact Kd.R_lower (Kd.R_drewN RE.out _) HX.out.2.2.size, pw_below_drewN (below_two HX.out.2.2 BE.out) _⟩
end Go.Proofs.Ytmkipdleggkkkaa.Own
