/- The walk of PartActs. -/
import Derived.Test.YtmkipdleggkkkaaPO
namespace Go.Proofs.Ytmkipdleggkkkaa.Own
open Go.RowKit Go.Proofs.YtmkipdleggkkkaaW.PrintWords Go.Proofs.YtmkipdleggkkkaaW.PrintLast Go.Proofs.YtmkipdleggkkkaaW.PrintMore Go.Proofs.Ytmkipdleggkkkaa.Pu
set_option maxRecDepth 100000
set_option linter.unusedSimpArgs false
set_option linter.unusedVariables false
theorem meas_next {n k : Nat} (h : k < n) : n - (intOf (.int .i64 ((k + 1 : Nat) : Int))).toNat < n - (intOf (.int .i64 (k : Int))).toNat := by
  simp [intOf]; omega
set_option maxHeartbeats 4000000 in
theorem acts_any (A0 : Option Addr) (c0 : Nat) (L : List PB.S37) (w : World) (hr : Kd.C PB.k37 w A0 L.length L) (hc0 : L.length ≤ c0) :
    Calls Try.prog 4 #[.slice A0 L.length c0] w fun e w' => e = .returned (.bool true) ∧ Below w.heap.size w w' := by
  have HL := Lib.hid hr
  go_enter Try.func4, Try.ntmps4
  go_wp2_with fail
  refine (large_any A0 c0 L _ hr hc0).mono ?_
  clear hr
  rintro e w1 ⟨rfl, b1⟩
  have B1 := Lib.hid b1; clear b1
  cases hlg : largeB L with
  | true =>
    clear hlg
    go_wp2_with fail
    refine (gap_any _).mono ?_
    rintro e w2 ⟨rfl, b2⟩
    have B2 := Lib.hid (below_two B1.out b2); clear b2
    go_wp2
    go_ret
    exact ⟨rfl, B2.out⟩
  | false =>
    have hno := large_no hlg
    have HNO := Lib.hid hno; clear hno hlg
    go_wp2_with fail
    refine (new_any w.heap.size _ B1.out.size).mono ?_
    rintro e w2 ⟨g, rfl, hg, hps, b2⟩
    have hax : AX w g w2.heap.size 0 ⟨[], 0, 0, 0⟩ (.slice none 0 0) none 0 (w2.alloc (.cells #[.slice none 0 0, .int .i64 0, .int .i64 0, .int .i64 0] 35)) := by
      have bA : Below w2.heap.size w2 (w2.alloc (.cells #[.slice none 0 0, .int .i64 0, .int .i64 0, .int .i64 0] 35)) := (Below.refl _ _).alloc (Nat.le_refl _) _
      have hgl := blk_lt hps.blk
      have hs1 := B1.out.size
      have hs2 := b2.size
      exact ⟨hps.below bA, ⟨(by intro x hx; cases hx), (by intro x y _ hy; simp at hy), (by intro x hx; cases hx)⟩, heap_new _ _, ⟨rfl, by simp, fun hp => by simp at hp⟩, by simp, fun hp => by simp at hp, by simp, below_two (below_two B1.out b2) bA, by omega, by omega, by omega, by simp [Value.ownBlock]⟩
    have AX0 := Lib.hid hax
    clear hax hps b2 hg
    go_wp2_with fail
    generalize hW : w2.alloc (.cells #[.slice none 0 0, .int .i64 0, .int .i64 0, .int .i64 0] 35) = W3 at *
    clear hW
    generalize w2.heap.size = b at *
    go_loopw [17] (fun i wr => ∃ (k : Nat) (s : DSt) (v : Value) (A : Option Addr) (c : Nat), k ≤ L.length ∧ i = .int .i64 (k : Int) ∧ AX w g b k s v A c wr) (fun i _ => L.length - (intOf i).toNat)
    case atStart => exact ⟨0, ⟨[], 0, 0, 0⟩, .slice none 0 0, none, 0, Nat.zero_le _, rfl, AX0.out⟩
    case round =>
      obtain ⟨k, s, v, A, c, hk, rfl, hax⟩ := hrel
      have AXk := Lib.hid hax; clear hax
      by_cases hlt : k < L.length
      · have p1 : (0 : Int) ≤ (k : Int) := Int.natCast_nonneg _
        have p2 : (k : Int) < (L.length : Int) := by omega
        have hw : wrap64 ((k : Int) + 1) = ((k + 1 : Nat) : Int) := by have := HNO.out.1; unfold wrap64; omega
        have hcL := Kd.C_below HL.out AXk.out.bel
        obtain ⟨ad, A2, c2, e0, x0, x1, x2, x3, hc2, hC2⟩ := PB.at_T37 hcL (k : Int) p1 p2
        cases e0
        rw [Int.toNat_natCast] at x0 x1 x2 x3
        obtain ⟨ad0, A20, c20, e0', y0, y1, y2, y3, hc20, hC20⟩ := PB.at_T37 HL.out (k : Int) p1 p2
        have hx30 : (PB.rd_T37 L (k : Int)).f3.length ≤ 30 := by
          rw [rd_get37 L k hlt]; exact HNO.out.2 _ (List.getElem_mem _)
        cases e0'
        rw [Int.toNat_natCast] at y3
        have hsame : A20 = A2 := by
          have := (AXk.out.bel.cell (World.block_lt_of_cell? _ _ y3)).trans y3
          rw [x3] at this
          cases this; rfl
        subst hsame
        clear y0 y1 y2 y3 hc20 hcL
        generalize PB.rd_T37 L (k : Int) = x at *
        have HC2 := Lib.hid hC20; clear hC20 hC2
        have hll : s.l.length ≤ 60000 := by have := AXk.out.ln; have := HNO.out.1; omega
        have hlx : x.f3.length ≤ 60000 := by omega
        go_upto_region 8 with (fail)
        have hbx := heap_new wr (.cells #[.int .i64 x.f0, .int .i64 x.f1, .int .i64 x.f2, .slice A20 x.f3.length c2] 37)
        have AX1 := Lib.hid (AXk.out.below ((Below.refl _ wr).alloc (Nat.le_refl _) (.cells #[.int .i64 x.f0, .int .i64 x.f1, .int .i64 x.f2, .slice A20 x.f3.length c2] 37)))
        have HLT := Lib.hid (show ∀ q, (q = g ∨ some q = v.ownBlock ∨ q = b) → q < wr.heap.size from by
          rintro q (rfl | h | rfl)
          · exact blk_lt AXk.out.ps.blk
          · exact AXk.out.ps.own_lt h.symm
          · exact blk_lt AXk.out.bx)
        clear x0 x1 x2 x3
        generalize hW0 : wr.alloc (.cells #[.int .i64 x.f0, .int .i64 x.f1, .int .i64 x.f2, .slice A20 x.f3.length c2] 37) = W0 at *
        clear hW0
        generalize wr.heap.size = ba at *
        have HBX := Lib.hid hbx; clear hbx
        have q0 := blk_cell AX1.out.bx 0
        have q1 := blk_cell AX1.out.bx 1
        have q2 := blk_cell AX1.out.bx 2
        have q3 := blk_cell AX1.out.bx 3
        have r0 := blk_cell HBX.out 0
        have r1 := blk_cell HBX.out 1
        have r2 := blk_cell HBX.out 2
        have r3 := blk_cell HBX.out 3
        simp at q0 q1 q2 q3 r0 r1 r2 r3
        go_wp2_with fail
        refine (done_any AX1.out.ps AX1.out.iv AX1.out.cc AX1.out.hc hll x.f0 x.f1 x.f2 A20 c2 x.f3 (Kd.C_below HC2.out AX1.out.bel) hc2 hlx (sep_of (w := w) (w1 := w) HC2.out AX1.out.gw (fun q hq => AX1.out.own hq))).mono ?_
        have hlen := actS_len s x.f0 x.f1 x.f2 x.f3
        generalize hrr : actS s x.f0 x.f1 x.f2 x.f3 = r at hlen ⊢
        obtain ⟨r, er⟩ := r
        have HRR := Lib.hid hrr; clear hrr
        rintro e w4 ⟨rfl, v', hp4, hi4, hf4, hn4⟩
        dsimp only at hp4 hi4 hlen ⊢
        have AY4 := Lib.hid (AX1.out.done hp4 hi4 hf4 hn4)
        have HBX4 := Lib.hid ((hf4.block ba (blk_lt HBX.out) (fun e => by have := HLT.out ba (Or.inl e); omega) (fun e => by have := HLT.out ba (Or.inr (Or.inl e)); omega)).trans HBX.out)
        clear hp4 hi4 hf4 hn4 q0 q1 q2 q3 r0 r1 r2 r3
        have q0 := blk_cell AY4.out.bx 0
        have q1 := blk_cell AY4.out.bx 1
        have q2 := blk_cell AY4.out.bx 2
        have q3 := blk_cell AY4.out.bx 3
        have r0 := blk_cell HBX4.out 0
        have r1 := blk_cell HBX4.out 1
        have r2 := blk_cell HBX4.out 2
        have r3 := blk_cell HBX4.out 3
        simp at q0 q1 q2 q3 r0 r1 r2 r3
        go_wp2_with fail
        refine (act_any (S := fun q => q ≠ g ∧ some q ≠ v'.ownBlock ∧ q ≠ b) AY4.out.cc AY4.out.hc hll AY4.out.sr (fun q hq => ⟨fun e => by have := blk_lt AY4.out.ps.blk; omega, fun e => by have := AY4.out.ps.own_lt e.symm; omega, fun e => by have := blk_lt AY4.out.bx; omega⟩) x.f0 x.f1 x.f2 A20 c2 x.f3 (Kd.C_below HC2.out AY4.out.bel) hc2 hlx ?_).mono ?_
        · exact (src_old HC2.out).mono (fun q hq => ⟨fun e => by have := AY4.out.gw; omega, fun e => by have := ((Kd.R_bound AY4.out.ps.row).1 q e.symm).2.1; omega, fun e => by have := AY4.out.bw; omega⟩)
        rw [HRR.out]
        rintro e w5 ⟨A', c', rfl, h1, h2, h3, h4⟩
        dsimp only at h1 h2 h3 ⊢
        have AY5 := Lib.hid (AY4.out.below h4)
        have C5 := Lib.hid h2
        have S5 := Lib.hid h3
        have L5 := Lib.hid (show r.l.length ≤ 30 * (k + 1) by have := AXk.out.ln; omega)
        clear h2 h3 h4 q0 q1 q2 q3 r0 r1 r2 r3 hlen
        unfold dv
        go_upto_region 12 with (fail)
        have bA : Below w5.heap.size w5 (w5.alloc (.cells #[.slice A' r.l.length c', .int .i64 r.st, .int .i64 r.nx, .int .i64 r.mr, .int .i64 er] 41)) := (Below.refl _ _).alloc (Nat.le_refl _) _
        have hbd := heap_new w5 (.cells #[.slice A' r.l.length c', .int .i64 r.st, .int .i64 r.nx, .int .i64 r.mr, .int .i64 er] 41)
        have AY6 := Lib.hid (AY5.out.below bA)
        have C6 := Lib.hid (Kd.C_below C5.out bA)
        clear bA
        generalize hW6 : w5.alloc (.cells #[.slice A' r.l.length c', .int .i64 r.st, .int .i64 r.nx, .int .i64 r.mr, .int .i64 er] 41) = W6 at *
        clear hW6
        generalize w5.heap.size = bd at *
        have AX7 := Lib.hid (AY6.out.store C6.out h1 S5.out L5.out)
        have d0 := blk_cell hbd 0
        have d1 := blk_cell hbd 1
        have d2 := blk_cell hbd 2
        have d3 := blk_cell hbd 3
        have d4 := blk_cell hbd 4
        have q0 := blk_cell AY6.out.bx 0
        have q1 := blk_cell AY6.out.bx 1
        have q2 := blk_cell AY6.out.bx 2
        have q3 := blk_cell AY6.out.bx 3
        have f0 := blk_free AY6.out.bx 0
        have f1 := blk_free AY6.out.bx 1
        have f2 := blk_free AY6.out.bx 2
        have f3 := blk_free AY6.out.bx 3
        simp at d0 d1 d2 d3 d4 q0 q1 q2 q3
        clear hbd AY5 C5 AX1 AY4
        have hrl : r.l.length ≤ 60000 := by have := AX7.out.ln; have := HNO.out.1; omega
        go_wp2_with fail
        refine (same_st AX7.out.ps AX7.out.iv AX7.out.cc AX7.out.hc hrl).mono ?_
        rintro e w8 ⟨rfl, b8⟩
        have AX8 := Lib.hid (AX7.out.below b8)
        clear b8 d0 d1 d2 d3 d4 q0 q1 q2 q3 f0 f1 f2 f3
        go_wp2
        go_roundw
        case rel => exact ⟨k + 1, r, v', A', c', by omega, by go_num, AX8.out⟩
        case measure => rw [hw]; exact meas_next hlt
      · obtain rfl : k = L.length := by omega
        have p2 : ¬ (L.length : Int) < (L.length : Int) := by omega
        have hll : s.l.length ≤ 60000 := by have := AXk.out.ln; have := HNO.out.1; omega
        have q0 := blk_cell AXk.out.bx 0
        have q1 := blk_cell AXk.out.bx 1
        have q2 := blk_cell AXk.out.bx 2
        have q3 := blk_cell AXk.out.bx 3
        simp at q0 q1 q2 q3
        go_wp2_with fail
        refine (same_st AXk.out.ps AXk.out.iv AXk.out.cc AXk.out.hc hll).mono ?_
        rintro e w4 ⟨rfl, b4⟩
        have B4 := Lib.hid (below_two AXk.out.bel b4); clear b4
        go_wp2_with fail
        refine (gap_any _).mono ?_
        rintro e w5 ⟨rfl, b5⟩
        have B5 := Lib.hid (below_two B4.out b5); clear b5
        go_wp2
        go_ret
        exact ⟨rfl, B5.out⟩
end Go.Proofs.Ytmkipdleggkkkaa.Own
