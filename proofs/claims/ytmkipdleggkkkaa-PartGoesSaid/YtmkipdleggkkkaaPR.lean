/- The walk of PartGoes. -/
import Derived.Test.YtmkipdleggkkkaaPQ
import Derived.Test.YtmkipdleggkkkaaPP
namespace Go.Proofs.Ytmkipdleggkkkaa.Own
open Go.RowKit Go.Proofs.YtmkipdleggkkkaaW.PrintWords Go.Proofs.YtmkipdleggkkkaaW.PrintLast Go.Proofs.YtmkipdleggkkkaaW.PrintMore Go.Proofs.Ytmkipdleggkkkaa.Pu
set_option maxRecDepth 100000
set_option linter.unusedSimpArgs false
set_option linter.unusedVariables false
/-- Where who fetches has come to. -/
structure GX (W : World) (s : DSt) (WT : List PB.S45) (n : Nat) (a : Int) (G : List PB.S45) (gv : Value) (w : World) : Prop where
  st : s.st ≤ a
  mr : a ≤ s.mr
  cnt : n + (restD s.l a s.mr).length + (if a = s.mr then 0 else 1) ≤ 1201
  glue : G ++ restD s.l a s.mr = WT
  row : Kd.R PB.k45 45 w W.heap.size (fun _ => True) gv G
  bel : Below W.heap.size W w
theorem go_count {s : DSt} {a most on : Int} {F : List PB.S45} {n : Nat} (h : GoStep s a most F on) (hne : ¬ a = s.mr) (hm : n + (restD s.l a s.mr).length + (if a = s.mr then 0 else 1) ≤ 1201) : n + 1 + (restD s.l on s.mr).length + (if on = s.mr then 0 else 1) ≤ 1201 := by
  obtain ⟨h1, h2, h3, h4, h5, h6⟩ := h
  rw [if_neg hne] at hm
  have e := congrArg List.length h5
  rw [List.length_append] at e
  by_cases h0 : F.length = 0
  · rw [if_pos (h6 h0)]; omega
  · split <;> omega
theorem GX.n_lt {W : World} {s : DSt} {WT : List PB.S45} {n : Nat} {a : Int} {G : List PB.S45} {gv : Value} {w : World} (h : GX W s WT n a G gv w) : n ≤ 1201 := by have := h.cnt; omega
theorem GX.len {W : World} {s : DSt} {WT : List PB.S45} {n : Nat} {a : Int} {G : List PB.S45} {gv : Value} {w : World} (h : GX W s WT n a G gv w) : G.length ≤ WT.length := by
  have e := congrArg List.length h.glue
  rw [List.length_append] at e; omega
theorem GX.next {W : World} {s : DSt} {WT : List PB.S45} {n : Nat} {a most on : Int} {G F : List PB.S45} {gv gv2 : Value} {w w2 : World} (h : GX W s WT n a G gv w) (hs : GoStep s a most F on) (hne : ¬ a = s.mr) (hR : Kd.R PB.k45 45 w2 W.heap.size (fun _ => True) gv2 (G ++ F)) (hb : Below W.heap.size W w2) : GX W s WT (n + 1) on (G ++ F) gv2 w2 :=
  ⟨by have := h.st; have := hs.1; omega, hs.2.1, go_count hs hne h.cnt, by rw [List.append_assoc, hs.2.2.2.2.1]; exact h.glue, hR, hb⟩
theorem GX.all {W : World} {s : DSt} {WT : List PB.S45} {n : Nat} {a : Int} {G : List PB.S45} {gv : Value} {w : World} (h : GX W s WT n a G gv w) (he : a = s.mr) : G = WT := by
  have := h.glue
  rwa [he, restD_end, List.append_nil] at this
theorem meas_go {n : Nat} (h : n ≤ 1201) : 2000 - (intOf (.int .i64 ((n + 1 : Nat) : Int))).toNat < 2000 - (intOf (.int .i64 (n : Int))).toNat := by
  simp [intOf]; omega
theorem meas_go2 {n : Nat} (h : n ≤ 1201) : 2000 - (intOf (.int .i64 ((n : Int) + 1))).toNat < 2000 - (intOf (.int .i64 (n : Int))).toNat := by
  simp [intOf]; omega
theorem belowD_all (l : List PB.S45) (mk : Int) : (belowD l mk).length ≤ l.length := List.length_filter_le _ _
theorem meas_next2 {n k : Nat} (h : k < n) : n - (intOf (.int .i64 ((k : Int) + 1))).toNat < n - (intOf (.int .i64 (k : Int))).toNat := by
  simp [intOf]; omega
theorem field_P (W : World) (v0 v1 v2 v3 v4 : Value) : (Instr.field 41 (.agg #[v0, v1, v2, v3, v4]) 0).run Try.prog W = .ok (.agg #[v0, v1, v2, v3]) W := by kernel_rfl
set_option maxHeartbeats 8000000 in
theorem goes_any (A0 : Option Addr) (c0 : Nat) (L : List PB.S37) (most : Int) (w : World) (hr : Kd.C PB.k37 w A0 L.length L) (hc0 : L.length ≤ c0) :
    Calls Try.prog 5 #[.slice A0 L.length c0, .int .i64 most] w fun e w' => e = .returned (.bool true) ∧ Below w.heap.size w w' := by
  have HL := Lib.hid hr
  go_enter Try.func5, Try.ntmps5
  go_wp2_with fail
  refine (large_any A0 c0 L _ hr hc0).mono ?_
  clear hr
  rintro e w1 ⟨rfl, b1⟩
  have B1 := Lib.hid b1; clear b1
  cases hlg : largeB L with
  | true =>
    clear hlg
    go_wp2_with fail
    refine (gap_any _).mono ?_
    rintro e w2 ⟨rfl, b2⟩
    have B2 := Lib.hid (below_two B1.out b2); clear b2
    go_wp2
    go_ret
    exact ⟨rfl, B2.out⟩
  | false =>
    have hno := large_no hlg
    have HNO := Lib.hid hno; clear hno hlg
    by_cases hm1 : most < 1
    · have e1 : decide (most < 1) = true := decide_eq_true hm1
      go_wp2_with fail
      refine (gap_any _).mono ?_
      rintro e w2 ⟨rfl, b2⟩
      have B2 := Lib.hid (below_two B1.out b2); clear b2
      go_wp2
      go_ret
      exact ⟨rfl, B2.out⟩
    have e1 : decide (most < 1) = false := decide_eq_false hm1
    have HM := Lib.hid (show 1 ≤ most by omega)
    go_wp2_with fail
    refine (new_any w.heap.size _ B1.out.size).mono ?_
    rintro e w2 ⟨g, rfl, hg, hps, b2⟩
    have hax : AX w g w2.heap.size 0 ⟨[], 0, 0, 0⟩ (.slice none 0 0) none 0 (w2.alloc (.cells #[.slice none 0 0, .int .i64 0, .int .i64 0, .int .i64 0] 35)) := by
      have bA : Below w2.heap.size w2 (w2.alloc (.cells #[.slice none 0 0, .int .i64 0, .int .i64 0, .int .i64 0] 35)) := (Below.refl _ _).alloc (Nat.le_refl _) _
      have hgl := blk_lt hps.blk
      have hs1 := B1.out.size
      have hs2 := b2.size
      exact ⟨hps.below bA, ⟨(by intro x hx; cases hx), (by intro x y _ hy; simp at hy), (by intro x hx; cases hx)⟩, heap_new _ _, ⟨rfl, by simp, fun hp => by simp at hp⟩, by simp, fun hp => by simp at hp, by simp, below_two (below_two B1.out b2) bA, by omega, by omega, by omega, by simp [Value.ownBlock]⟩
    have AX0 := Lib.hid hax
    clear hax hps b2 hg
    go_wp2_with fail
    generalize hW : w2.alloc (.cells #[.slice none 0 0, .int .i64 0, .int .i64 0, .int .i64 0] 35) = W3 at *
    clear hW
    generalize w2.heap.size = b at *
    clear e1 hm1
    go_loopw [28] (fun i wr => ∃ (k : Nat) (s : DSt) (v : Value) (A : Option Addr) (c : Nat), k ≤ L.length ∧ i = .int .i64 (k : Int) ∧ AX w g b k s v A c wr ∧ IV2 s) (fun i _ => L.length - (intOf i).toNat)
    case atStart => exact ⟨0, ⟨[], 0, 0, 0⟩, .slice none 0 0, none, 0, Nat.zero_le _, rfl, AX0.out, ⟨Int.le_refl _, Int.le_refl _, (by intro x hx; cases hx)⟩⟩
    case round =>
      obtain ⟨k, s, v, A, c, hk, rfl, hax, hiv⟩ := hrel
      have AXk := Lib.hid hax; clear hax
      have IVk := Lib.hid hiv; clear hiv
      by_cases hlt : k < L.length
      · have p1 : (0 : Int) ≤ (k : Int) := Int.natCast_nonneg _
        have p2 : (k : Int) < (L.length : Int) := by omega
        have hw : wrap64 ((k : Int) + 1) = ((k + 1 : Nat) : Int) := by have := HNO.out.1; unfold wrap64; omega
        have hcL := Kd.C_below HL.out AXk.out.bel
        obtain ⟨ad, A2, c2, e0, x0, x1, x2, x3, hc2, hC2⟩ := PB.at_T37 hcL (k : Int) p1 p2
        cases e0
        rw [Int.toNat_natCast] at x0 x1 x2 x3
        obtain ⟨ad0, A20, c20, e0', y0, y1, y2, y3, hc20, hC20⟩ := PB.at_T37 HL.out (k : Int) p1 p2
        have hx30 : (PB.rd_T37 L (k : Int)).f3.length ≤ 30 := by
          rw [rd_get37 L k hlt]; exact HNO.out.2 _ (List.getElem_mem _)
        cases e0'
        rw [Int.toNat_natCast] at y3
        have hsame : A20 = A2 := by
          have := (AXk.out.bel.cell (World.block_lt_of_cell? _ _ y3)).trans y3
          rw [x3] at this
          cases this; rfl
        subst hsame
        clear y0 y1 y2 y3 hc20 hcL
        generalize PB.rd_T37 L (k : Int) = x at *
        have HC2 := Lib.hid hC20; clear hC20 hC2
        have hll : s.l.length ≤ 60000 := by have := AXk.out.ln; have := HNO.out.1; omega
        have hlx : x.f3.length ≤ 60000 := by omega
        go_upto_region 8 with (fail)
        have hbx := heap_new wr (.cells #[.int .i64 x.f0, .int .i64 x.f1, .int .i64 x.f2, .slice A20 x.f3.length c2] 37)
        have AX1 := Lib.hid (AXk.out.below ((Below.refl _ wr).alloc (Nat.le_refl _) (.cells #[.int .i64 x.f0, .int .i64 x.f1, .int .i64 x.f2, .slice A20 x.f3.length c2] 37)))
        have HLT := Lib.hid (show ∀ q, (q = g ∨ some q = v.ownBlock ∨ q = b) → q < wr.heap.size from by
          rintro q (rfl | h | rfl)
          · exact blk_lt AXk.out.ps.blk
          · exact AXk.out.ps.own_lt h.symm
          · exact blk_lt AXk.out.bx)
        clear x0 x1 x2 x3
        generalize hW0 : wr.alloc (.cells #[.int .i64 x.f0, .int .i64 x.f1, .int .i64 x.f2, .slice A20 x.f3.length c2] 37) = W0 at *
        clear hW0
        generalize wr.heap.size = ba at *
        have HBX := Lib.hid hbx; clear hbx
        have q0 := blk_cell AX1.out.bx 0
        have q1 := blk_cell AX1.out.bx 1
        have q2 := blk_cell AX1.out.bx 2
        have q3 := blk_cell AX1.out.bx 3
        have r0 := blk_cell HBX.out 0
        have r1 := blk_cell HBX.out 1
        have r2 := blk_cell HBX.out 2
        have r3 := blk_cell HBX.out 3
        simp at q0 q1 q2 q3 r0 r1 r2 r3
        go_wp2_with fail
        refine (done_any AX1.out.ps AX1.out.iv AX1.out.cc AX1.out.hc hll x.f0 x.f1 x.f2 A20 c2 x.f3 (Kd.C_below HC2.out AX1.out.bel) hc2 hlx (sep_of (w := w) (w1 := w) HC2.out AX1.out.gw (fun q hq => AX1.out.own hq))).mono ?_
        have hlen := actS_len s x.f0 x.f1 x.f2 x.f3
        have hiv2 := IVk.out.act x.f0 x.f1 x.f2 x.f3
        generalize hrr : actS s x.f0 x.f1 x.f2 x.f3 = r at hlen hiv2 ⊢
        obtain ⟨r, er⟩ := r
        have HRR := Lib.hid hrr; clear hrr
        rintro e w4 ⟨rfl, v', hp4, hi4, hf4, hn4⟩
        dsimp only at hp4 hi4 hlen hiv2 ⊢
        have IVn := Lib.hid hiv2; clear hiv2
        have AY4 := Lib.hid (AX1.out.done hp4 hi4 hf4 hn4)
        have HBX4 := Lib.hid ((hf4.block ba (blk_lt HBX.out) (fun e => by have := HLT.out ba (Or.inl e); omega) (fun e => by have := HLT.out ba (Or.inr (Or.inl e)); omega)).trans HBX.out)
        clear hp4 hi4 hf4 hn4 q0 q1 q2 q3 r0 r1 r2 r3
        have q0 := blk_cell AY4.out.bx 0
        have q1 := blk_cell AY4.out.bx 1
        have q2 := blk_cell AY4.out.bx 2
        have q3 := blk_cell AY4.out.bx 3
        have r0 := blk_cell HBX4.out 0
        have r1 := blk_cell HBX4.out 1
        have r2 := blk_cell HBX4.out 2
        have r3 := blk_cell HBX4.out 3
        simp at q0 q1 q2 q3 r0 r1 r2 r3
        go_wp2_with fail
        refine (act_any (S := fun q => q ≠ g ∧ some q ≠ v'.ownBlock ∧ q ≠ b) AY4.out.cc AY4.out.hc hll AY4.out.sr (fun q hq => ⟨fun e => by have := blk_lt AY4.out.ps.blk; omega, fun e => by have := AY4.out.ps.own_lt e.symm; omega, fun e => by have := blk_lt AY4.out.bx; omega⟩) x.f0 x.f1 x.f2 A20 c2 x.f3 (Kd.C_below HC2.out AY4.out.bel) hc2 hlx ?_).mono ?_
        · exact (src_old HC2.out).mono (fun q hq => ⟨fun e => by have := AY4.out.gw; omega, fun e => by have := ((Kd.R_bound AY4.out.ps.row).1 q e.symm).2.1; omega, fun e => by have := AY4.out.bw; omega⟩)
        rw [HRR.out]
        rintro e w5 ⟨A', c', rfl, h1, h2, h3, h4⟩
        dsimp only at h1 h2 h3 ⊢
        have AY5 := Lib.hid (AY4.out.below h4)
        have C5 := Lib.hid h2
        have S5 := Lib.hid h3
        have L5 := Lib.hid (show r.l.length ≤ 30 * (k + 1) by have := AXk.out.ln; omega)
        clear h2 h3 h4 q0 q1 q2 q3 r0 r1 r2 r3 hlen
        unfold dv
        have AX7 := Lib.hid (AY5.out.store C5.out h1 S5.out L5.out)
        have q0 := blk_cell AY5.out.bx 0
        have q1 := blk_cell AY5.out.bx 1
        have q2 := blk_cell AY5.out.bx 2
        have q3 := blk_cell AY5.out.bx 3
        have f0 := blk_free AY5.out.bx 0
        have f1 := blk_free AY5.out.bx 1
        have f2 := blk_free AY5.out.bx 2
        have f3 := blk_free AY5.out.bx 3
        simp at q0 q1 q2 q3
        clear AX1 AY4
        have hfld := fun W => field_P W (.slice A' r.l.length c') (.int .i64 r.st) (.int .i64 r.nx) (.int .i64 r.mr) (.int .i64 er)
        go_wp2
        go_roundw
        case rel => exact ⟨k + 1, r, v', A', c', by omega, by go_num, AX7.out, IVn.out⟩
        case measure => rw [hw]; exact meas_next hlt
      · obtain rfl : k = L.length := by omega
        have p2 : ¬ (L.length : Int) < (L.length : Int) := by omega
        have hll : s.l.length ≤ 60000 := by have := AXk.out.ln; have := HNO.out.1; omega
        have HLL := Lib.hid (show s.l.length ≤ 1200 by have := AXk.out.ln; have := HNO.out.1; omega)
        have q0 := blk_cell AXk.out.bx 0
        simp at q0
        go_wp2_with fail
        clear hk hlt p2
        generalize wr = W7 at *
        go_loopw [44, 9] (fun i o w8 => ∃ t : Nat, t ≤ s.l.length ∧ i = .int .i64 (t : Int) ∧ Kd.R PB.k45 45 w8 W7.heap.size (fun _ => True) o (belowD (s.l.take t) s.mr) ∧ Below W7.heap.size W7 w8) (fun i _ _ => s.l.length - (intOf i).toNat)
        case atStart => exact ⟨0, Nat.zero_le _, rfl, by rw [List.take_zero]; exact Kd.R_nil _ _ _ _ _, Below.refl _ _⟩
        case round =>
          obtain ⟨t, hk, rfl, hR, bel⟩ := hrel
          have Bel := Lib.hid bel; clear bel
          have HRk := Lib.hid hR
          obtain ⟨Ao, co, rfl⟩ := Kd.R_slice hR
          have hRc := (Kd.R_reads' hR).2.1
          clear hR q0
          have AX8 := Lib.hid (AXk.out.below Bel.out)
          have q3 := blk_cell AX8.out.bx 3
          simp at q3
          by_cases hlt : t < s.l.length
          · have p1 : (0 : Int) ≤ (t : Int) := Int.natCast_nonneg _
            have p2 : (t : Int) < (s.l.length : Int) := by omega
            have hw : wrap64 ((t : Int) + 1) = ((t + 1 : Nat) : Int) := by unfold wrap64; omega
            obtain ⟨ad, ea, x0, x1, x2, x3, x4, x5, x6, x7⟩ := PB.at_T45 AX8.out.cc (t : Int) p1 p2
            cases ea
            rw [Int.toNat_natCast] at x0 x1 x2 x3 x4 x5 x6 x7
            have ht := belowD_take s.l s.mr t hlt
            have hfl := belowD_len s.l s.mr t
            generalize PB.rd_T45 s.l (t : Int) = x at *
            generalize hF : belowD (s.l.take t) s.mr = F at *
            clear hF q3
            have HW := Lib.hid hw; clear hw
            have HLT := Lib.hid hlt
            have HF6 := Lib.hid (show F.length ≤ 60000 by omega)
            go_upto_region 15 with (fail)
            have hbx := heap_new wr (.cells #[.int .i64 x.f0, .int .i64 x.f1, .string x.f2, .string x.f3, .bool x.f4, .int .i64 x.f5, .int .i64 x.f6, .int .i64 x.f7] 45)
            have bA : Below wr.heap.size wr (wr.alloc (.cells #[.int .i64 x.f0, .int .i64 x.f1, .string x.f2, .string x.f3, .bool x.f4, .int .i64 x.f5, .int .i64 x.f6, .int .i64 x.f7] 45)) := (Below.refl _ _).alloc (Nat.le_refl _) _
            have AXA := Lib.hid (AX8.out.below bA)
            have BE := Lib.hid (below_two Bel.out bA)
            have RE := Lib.hid (Kd.R_below HRk.out bA)
            clear x0 x1 x2 x3 x4 x5 x6 x7 bA
            generalize hW0 : wr.alloc (.cells #[.int .i64 x.f0, .int .i64 x.f1, .string x.f2, .string x.f3, .bool x.f4, .int .i64 x.f5, .int .i64 x.f6, .int .i64 x.f7] 45) = W0 at *
            clear hW0
            generalize wr.heap.size = bx at *
            have HBX := Lib.hid hbx; clear hbx
            clear hlt p1 p2 hfl hll hRc AX8 HRk Bel
            have y0 := blk_cell HBX.out 0
            have y1 := blk_cell HBX.out 1
            have y2 := blk_cell HBX.out 2
            have y3 := blk_cell HBX.out 3
            have y4 := blk_cell HBX.out 4
            have y5 := blk_cell HBX.out 5
            have y6 := blk_cell HBX.out 6
            have y7 := blk_cell HBX.out 7
            have q3 := blk_cell AXA.out.bx 3
            simp at y0 y1 y2 y3 y4 y5 y6 y7 q3
            by_cases hx : x.f0 < s.mr
            · have hx1 : decide (x.f0 < s.mr) = true := decide_eq_true hx
              rw [if_pos hx] at ht
              have HT := Lib.hid ht; clear ht
              go_wp2_with (at_builtin; refine Kd.R_append PB.k45 (w0 := W7) W7.heap.size rfl (.tmp 53) (.tmp 55) 22 45 z0 80 rfl Try.underlying22 info45 rfl (by decide) (by have := HF6.out; omega) (.slice Ao F.length co) F x [.int .i64 x.f0, .int .i64 x.f1, .string x.f2, .string x.f3, .bool x.f4, .int .i64 x.f5, .int .i64 x.f6, .int .i64 x.f7] (fun _ => True) (fun _ => False) rfl rfl (PB.k45_mkM _ _ _ x) (fun q hq => hq.elim) (fun _ _ => trivial) RE.out BE.out BE.out.size (by have := HF6.out; omega) ?_)
              intro v1 w9 hR1 hB1 hg1 ha1
              obtain ⟨A1, c1, rfl⟩ := Kd.R_slice hR1
              have HR1 := Lib.hid hR1; clear hR1
              have HB1' := Lib.hid hB1; clear hB1
              clear hg1 ha1
              have hw := HW.out
              go_wp2
              go_roundw
              case rel => exact ⟨t + 1, HLT.out, by go_num, by rw [HT.out]; exact HR1.out, HB1'.out⟩
              case measure => first | exact meas_next2 HLT.out | exact meas_next HLT.out | (rw [hw]; exact meas_next HLT.out)
            · have hx1 : decide (x.f0 < s.mr) = false := decide_eq_false hx
              rw [if_neg hx] at ht
              have HT := Lib.hid ht; clear ht
              have hw := HW.out
              go_wp2
              go_roundw
              case rel => exact ⟨t + 1, HLT.out, by go_num, by rw [HT.out]; exact RE.out, BE.out⟩
              case measure => first | exact meas_next2 HLT.out | exact meas_next HLT.out | (rw [hw]; exact meas_next HLT.out)
          · obtain rfl : t = s.l.length := by omega
            have p2 : ¬ (s.l.length : Int) < (s.l.length : Int) := by omega
            have HRL := HRk.out
            rw [List.take_length] at HRL hRc
            rw [List.take_length]
            have HWT := Lib.hid (Kd.R_reads' HRL).2.2
            clear HRL HRk hRc q3
            go_wp2_with fail
            refine (start_any AX8.out.ps).mono ?_
            rintro e w9 ⟨rfl, b9⟩
            have AX9 := Lib.hid (AX8.out.below b9)
            have HW9 := Lib.hid (Kd.C_below HWT.out b9)
            clear b9 AX8 HWT Bel
            have IVs := Lib.hid (restD_start IVk.out)
            generalize hwt : belowD s.l s.mr = WT at *
            have HWTE := Lib.hid hwt; clear hwt
            go_wp2_with fail
            have HIV := Lib.hid (show s.st ≤ s.mr from IVk.out.sm)
            have HWL := Lib.hid (show WT.length ≤ 1200 from by rw [← HWTE.out]; exact Nat.le_trans (belowD_all _ _) HLL.out)
            have HL6 := Lib.hid (show s.l.length ≤ 60000 by have := HLL.out; omega)
            have HRL := Lib.hid (restD_len s.l s.st s.mr)
            clear p2 hlt hk hll
            generalize wr = W8 at *
            go_loopw [60, 13, 12] (fun j at' gv wx => ∃ (n : Nat) (a : Int) (G : List PB.S45), j = .int .i64 (n : Int) ∧ at' = .int .i64 a ∧ GX w9 s WT n a G gv wx) (fun j _ _ _ => 2000 - (intOf j).toNat)
            case atStart =>
              refine ⟨0, s.st, [], rfl, rfl, Int.le_refl _, HIV.out, ?_, by rw [List.nil_append]; exact IVs.out, Kd.R_nil _ _ _ _ _, Below.refl _ _⟩
              have h1 := HRL.out
              have h2 := HLL.out
              split <;> omega
            case round =>
              obtain ⟨n, a, G, rfl, rfl, hgx⟩ := hrel
              have HGX := Lib.hid hgx
              obtain ⟨Ag, cg, rfl⟩ := Kd.R_slice hgx.row
              clear hgx
              have p1 : (n : Int) < 2000 := by have := HGX.out.n_lt; omega
              have hw : wrap64 ((n : Int) + 1) = ((n + 1 : Nat) : Int) := by have := HGX.out.n_lt; unfold wrap64; omega
              have HN := Lib.hid HGX.out.n_lt
              have AXr := Lib.hid (AX9.out.below HGX.out.bel)
              go_wp2_with fail
              refine (seen_any AXr.out.ps).mono ?_
              rintro e w10 ⟨rfl, b10⟩
              have AX10 := Lib.hid (AXr.out.below b10)
              have HG10 := Lib.hid (Kd.R_below HGX.out.row b10)
              have B10 := Lib.hid (below_two HGX.out.bel b10)
              clear b10 AXr
              by_cases he : a = s.mr
              · have he1 : (a == s.mr) = true := by rw [beq_iff_eq]; exact he
                have hall := HGX.out.all he
                have HALL := Lib.hid hall; clear hall
                have HE := Lib.hid he; clear he
                have q3 := blk_cell AX10.out.bx 3
                simp at q3
                have hgC := Lib.hid (Kd.R_reads' HG10.out).2.2
                have hwC := Lib.hid (Kd.C_below HW9.out B10.out)
                clear hw p1
                go_wp2_with fail
                refine (Sm.same_any Ag cg G Ao co WT _ hgC.out hwC.out).mono ?_
                rintro e w11 ⟨rfl, b11⟩
                rw [HALL.out, Sm.sameB_refl]
                have B11 := Lib.hid (below_two AX10.out.bel b11); clear b11
                go_wp2_with fail
                refine (gap_any _).mono ?_
                rintro e w12 ⟨rfl, b12⟩
                have B12 := Lib.hid (below_two B11.out b12); clear b12
                go_wp2
                go_ret
                exact ⟨rfl, B12.out⟩
              · have he1 : (a == s.mr) = false := by rw [beq_eq_false_iff_ne]; exact he
                have HE := Lib.hid he
                have hlt : a < s.mr := by have := HGX.out.mr; omega
                have HLT := Lib.hid hlt; clear hlt
                go_wp2_with fail
                refine (pgoC AX10.out.ps AX10.out.iv HL6.out a most HGX.out.st HLT.out HM.out).mono ?_
                rintro e w11 ⟨u, F, on, rfl, hR11, b11, hstep⟩
                obtain ⟨Af, cf, rfl⟩ := Kd.R_slice hR11
                have HF := Lib.hid (Kd.R_reads' hR11).2.2
                have HST := Lib.hid hstep
                have AX11 := Lib.hid (AX10.out.below b11)
                have HG11 := Lib.hid (Kd.R_below HG10.out b11)
                have B11 := Lib.hid (below_two B10.out b11)
                clear b11 hR11
                have t1 : decide (on ≤ a) = false := by rw [decide_eq_false_iff_not]; have := hstep.1; omega
                have t1b : ¬ on ≤ a := by have := hstep.1; omega
                have t2 : decide ((F.length : Int) > most) = false := by rw [decide_eq_false_iff_not]; have := hstep.2.2.1; omega
                have t2b : ¬ most < (F.length : Int) := by have := hstep.2.2.1; omega
                have t3 : decide ((F.length : Int) > 16) = false := by rw [decide_eq_false_iff_not]; have := hstep.2.2.2.1; omega
                have t3b : ¬ (16 : Int) < (F.length : Int) := by have := hstep.2.2.2.1; omega
                have t3c : ¬ 16 < F.length := by have := hstep.2.2.2.1; omega
                have HW0 := Lib.hid hw
                clear hstep he hw p1
                go_upto_region 26 with (fail)
                clear t1 t1b t2 t2b t3 t3b t3c he1
                go_wp2_with (at_builtin; refine Kd.R_append_rows PB.k45 (w0 := w9) w9.heap.size rfl (.tmp 92) (.tmp 93) 22 45 z0 80 rfl Try.underlying22 info45 rfl (by decide) (by have := HGX.out.len; have := HWL.out; omega) (.slice Ag G.length cg) G F Af F.length cf (fun _ => True) (fun _ => False) rfl rfl HG11.out HF.out (fun x cs h => KM45 h) (fun k hk => hk.elim) (fun _ _ => trivial) B11.out B11.out.size (by have := HGX.out.len; have := HWL.out; have := HST.out.2.2.2.1; omega) ?_)
                intro v12 w12 hR12 hB12 hg12 ha12
                have HR12 := Lib.hid hR12
                obtain ⟨A12, c12, rfl⟩ := Kd.R_slice hR12
                have B12 := Lib.hid hB12
                clear hR12 hB12 hg12 ha12
                have hw := HW0.out
                go_wp2
                go_roundw
                case rel => exact ⟨n + 1, on, G ++ F, by go_num, rfl, HGX.out.next HST.out HE.out HR12.out B12.out⟩
                case measure => first | exact meas_go2 HN.out | exact meas_go HN.out | (rw [hw]; exact meas_go HN.out)
end Go.Proofs.Ytmkipdleggkkkaa.Own
