/- The walk of Append where it puts records. -/
import Derived.Test.YtmkipdleggkkkaaP3
import Derived.Deep.RegionLaw
namespace Go.Proofs.Ytmkipdleggkkkaa.Own
open Go.RowKit Go.Proofs.YtmkipdleggkkkaaW.PrintWords
set_option maxRecDepth 100000
set_option linter.unusedSimpArgs false
set_option linter.unusedVariables false
/-- The next offset behind records. -/
def nxt (xs : List PB.S45) (nx : Int) : Int := xs.foldl (fun _ x => wrap64 (x.f0 + 1)) nx
theorem nxt_take (xs : List PB.S45) (nx : Int) (k : Nat) (hk : k < xs.length) : nxt (xs.take (k + 1)) nx = wrap64 ((PB.rd_T45 xs (k : Int)).f0 + 1) := by
  rw [List.take_succ_eq_append_getElem hk, nxt, List.foldl_append, rd_get xs k hk]
  rfl
theorem take_rd (xs l : List PB.S45) (k : Nat) (hk : k < xs.length) : l ++ xs.take (k + 1) = (l ++ xs.take k) ++ [PB.rd_T45 xs (k : Int)] := by
  rw [List.take_succ_eq_append_getElem hk, rd_get xs k hk, List.append_assoc]
theorem Fr.cell {g : Nat} {v : Value} {w w1 : World} (h : Fr g v w w1) {a : Addr} {u : Value} (hc : w.cell? a = some u) (hg : a.block ≠ g) (hv : some a.block ≠ v.ownBlock) : w1.cell? a = some u := by
  have hb := h.block a.block (World.block_lt_of_cell? w _ hc) hg hv
  rw [← hc]
  simp only [World.cell?, hb]
def Sep (A : Option Addr) (n : Nat) (g : Nat) (v : Value) : Prop := 0 < n → ∀ ad, A = some ad → ad.block ≠ g ∧ some ad.block ≠ v.ownBlock
theorem grown_of_drew {w w1 : World} {r : Option Nat} (h : w.drew.grownBy w1 r) : w.grownBy w1 r := ⟨h.os, h.tape, h.output, h.size, h.block⟩
theorem append_ok (B g : Nat) (v : Value) (l : List PB.S45) (st nx mk : Int) (A : Option Addr) (c : Nat) (xs : List PB.S45) (w : World) (h : PS B g v l st nx mk w) (hr : Kd.C PB.k45 w A xs.length xs) (hc : xs.length ≤ c) (hl : xs.length ≤ 60000) (hll : l.length ≤ 60000)
    (hs : Sep A xs.length g v) (hb : decide (∃ x ∈ xs, PuB.mayB x = false) = false) (hi : riseB xs nx = true) :
    Calls Try.prog 9 #[.pointer (some ⟨g, 0, none⟩), .slice A xs.length c] w fun e w' => e = .returned (.int .i64 0) ∧ ∃ v', PS B g v' (l ++ xs) st (nxt xs nx) mk w' ∧ Fr g v w w' ∧ (v'.ownBlock = v.ownBlock ∨ ∃ b, v'.ownBlock = some b ∧ w.heap.size ≤ b) := by
  go_enter Try.func9, Try.ntmps9
  go_wp2_with fail
  refine (contains_any A c xs _ hr hc hl).mono ?_
  rintro e w2 ⟨rfl, b2⟩
  rw [hb]
  have q2 := blk_cell (h.below b2).blk 2
  simp at q2
  go_wp2_with fail
  refine (rise_any A c xs nx _ (Kd.C_below hr b2) hc hl).mono ?_
  rintro e w3 ⟨rfl, b3⟩
  rw [hi]
  have P3 := Lib.hid ((h.below b2).below b3)
  have F3 := Lib.hid ((Fr.refl g v w).below b2 |>.below b3)
  have HR := Lib.hid hr
  have HS := Lib.hid hs
  clear h hr hs b2 b3 q2
  go_wp2_with fail
  go_loopw [23] (fun i wr => ∃ (k : Nat) (v' : Value), k ≤ xs.length ∧ i = .int .i64 k ∧ PS B g v' (l ++ xs.take k) st (nxt (xs.take k) nx) mk wr ∧ Fr g v w wr ∧ (v'.ownBlock = v.ownBlock ∨ ∃ b, v'.ownBlock = some b ∧ w.heap.size ≤ b)) (fun i _ => xs.length - (intOf i).toNat)
  case atStart => exact ⟨0, v, Nat.zero_le _, rfl, by rw [List.take_zero, List.append_nil]; exact P3.out, F3.out, Or.inl rfl⟩
  case round =>
    obtain ⟨k, v', hk, rfl, hps, hfr, hown⟩ := hrel
    have PSk := Lib.hid hps; clear hps
    have FRk := Lib.hid hfr; clear hfr
    have OWk := Lib.hid hown; clear hown
    by_cases hlt : k < xs.length
    · have p1 : (0 : Int) ≤ (k : Int) := Int.natCast_nonneg _
      have p2 : (k : Int) < (xs.length : Int) := by omega
      have hw : wrap64 ((k : Int) + 1) = ((k + 1 : Nat) : Int) := by unfold wrap64; omega
      have hn := nxt_take xs nx k hlt
      have ht := take_rd xs l k hlt
      obtain ⟨ad, e1, x0, x1, x2, x3, x4, x5, x6, x7⟩ := PB.at_T45 HR.out (k : Int) p1 p2
      have hsep := HS.out (by omega) ad e1
      cases e1
      rw [Int.toNat_natCast] at x0 x1 x2 x3 x4 x5 x6 x7
      have hab : (ad.add (k * 8)).block = ad.block := by unfold Addr.add; split <;> rfl
      replace x0 := FRk.out.cell x0 (by rw [hab]; exact hsep.1) (by rw [hab]; exact hsep.2)
      replace x1 := FRk.out.cell x1 (by rw [hab]; exact hsep.1) (by rw [hab]; exact hsep.2)
      replace x2 := FRk.out.cell x2 (by rw [hab]; exact hsep.1) (by rw [hab]; exact hsep.2)
      replace x3 := FRk.out.cell x3 (by rw [hab]; exact hsep.1) (by rw [hab]; exact hsep.2)
      replace x4 := FRk.out.cell x4 (by rw [hab]; exact hsep.1) (by rw [hab]; exact hsep.2)
      replace x5 := FRk.out.cell x5 (by rw [hab]; exact hsep.1) (by rw [hab]; exact hsep.2)
      replace x6 := FRk.out.cell x6 (by rw [hab]; exact hsep.1) (by rw [hab]; exact hsep.2)
      replace x7 := FRk.out.cell x7 (by rw [hab]; exact hsep.1) (by rw [hab]; exact hsep.2)
      generalize PB.rd_T45 xs (k : Int) = x at *
      have Hn := Lib.hid hn; clear hn
      have Ht := Lib.hid ht; clear ht
      clear hab hsep
      go_upto_region 10 with (fail)
      have hPS := PSk.out.below ((Below.refl _ wr).alloc (Nat.le_refl _) (.cells #[.int .i64 x.f0, .int .i64 x.f1, .string x.f2, .string x.f3, .bool x.f4, .int .i64 x.f5, .int .i64 x.f6, .int .i64 x.f7] 45))
      have hFR := FRk.out.below ((Below.refl _ wr).alloc (Nat.le_refl _) (.cells #[.int .i64 x.f0, .int .i64 x.f1, .string x.f2, .string x.f3, .bool x.f4, .int .i64 x.f5, .int .i64 x.f6, .int .i64 x.f7] 45))
      have hbx := heap_new wr (.cells #[.int .i64 x.f0, .int .i64 x.f1, .string x.f2, .string x.f3, .bool x.f4, .int .i64 x.f5, .int .i64 x.f6, .int .i64 x.f7] 45)
      have hbo : ∀ b, v'.ownBlock = some b → b < wr.heap.size := fun b hb => (Kd.R_bound PSk.out.row).1 b hb |>.2.2.1
      have hgl := blk_lt PSk.out.blk
      clear x0 x1 x2 x3 x4 x5 x6 x7
      generalize hW : wr.alloc (.cells #[.int .i64 x.f0, .int .i64 x.f1, .string x.f2, .string x.f3, .bool x.f4, .int .i64 x.f5, .int .i64 x.f6, .int .i64 x.f7] 45) = W0 at *
      clear hW
      have HPS := Lib.hid hPS; clear hPS
      have HFR := Lib.hid hFR; clear hFR
      have HBX := Lib.hid hbx; clear hbx
      have HBO := Lib.hid hbo; clear hbo
      have HGL := Lib.hid hgl; clear hgl
      generalize hbb : wr.heap.size = bx at *
      have y0 := blk_cell HBX.out 0
      have y1 := blk_cell HBX.out 1
      have y2 := blk_cell HBX.out 2
      have y3 := blk_cell HBX.out 3
      have y4 := blk_cell HBX.out 4
      have y5 := blk_cell HBX.out 5
      have y6 := blk_cell HBX.out 6
      have y7 := blk_cell HBX.out 7
      have g0 := blk_cell HPS.out.blk 0
      simp at y0 y1 y2 y3 y4 y5 y6 y7 g0
      have hne : some g ≠ v'.ownBlock := fun e => PSk.out.row.1 g e.symm rfl
      have hne2 : some bx ≠ v'.ownBlock := fun e => by have := HBO.out bx e.symm; omega
      have hgx : ¬ bx = g := by have := HGL.out; omega
      have hgx2 : ¬ g = bx := by have := HGL.out; omega
      have gl0 := blk_lt HPS.out.blk
      have gn1 : ¬ g = W0.heap.size := by omega
      have gn2 : ¬ W0.heap.size = g := by omega
      have gz : (W0.alloc (.cells #[.int .i64 x.f0, .int .i64 x.f1, .string x.f2, .string x.f3, .bool x.f4, .int .i64 x.f5, .int .i64 x.f6, .int .i64 x.f7] 45)).cell? ⟨g, 0, none⟩ = some v' := (blk_cell ((heap_old W0 _ gl0).trans HPS.out.blk) 0).trans rfl
      go_region_law (refine Kd.R_append_step PB.k45 (w0 := W0.drew) (W := W0.drew) B (by rfl) (.tmp 31) (.tmp 33) 22 45 z0 80 rfl Try.underlying22 info45 rfl (by decide) (by omega) v' (l ++ xs.take k) x [.int .i64 x.f0, .int .i64 x.f1, .string x.f2, .string x.f3, .bool x.f4, .int .i64 x.f5, .int .i64 x.f6, .int .i64 x.f7] (fun k => k ≠ g) (fun _ => False) (by simp [Act.eval, Act.put]) (by simp [Act.eval, Act.put]) (PB.k45_mkM _ _ _ x) (fun k hk => hk.elim) (fun q hq => by have := blk_lt HPS.out.blk; have hq' : W0.heap.size ≤ q := hq; omega) (Kd.R_drew HPS.out.row) (Below.refl _ _) (by have := HPS.out.lo; have := blk_lt HPS.out.blk; show B ≤ W0.heap.size; omega) (by rw [List.length_append, List.length_take]; omega) ?_; intro v1 w1 hR1 hB1 hg1 ha1; obtain ⟨A1, c1, rfl⟩ := Kd.R_slice hR1; have hK1 := (hg1.block g (blk_lt HPS.out.blk) hne).trans HPS.out.blk; have hX1 := (hg1.block bx (blk_lt HBX.out) hne2).trans HBX.out; have c0 : w1.cell? ⟨g, 0, none⟩ = some v' := (blk_cell hK1 0).trans rfl; have c2 : w1.cell? ⟨g, 2, none⟩ = some (.int .i64 (nxt (xs.take k) nx)) := (blk_cell hK1 2).trans rfl; have f0 := blk_free hK1 0; have f2 := blk_free hK1 2; have cx : w1.cell? ⟨bx, 0, none⟩ = some (.int .i64 x.f0) := (blk_cell hX1 0).trans rfl)
      all_goals
        have hlen : (l ++ xs.take k ++ [x]).length = l.length + (k + 1) := by rw [List.length_append, List.length_append, List.length_take, List.length_singleton]; omega
        rw [hlen] at hR1 ha1
        have HR1 := Lib.hid hR1; clear hR1
        clear hlen
        have HG1 := Lib.hid hg1; clear hg1
        have HA1 := Lib.hid ha1; clear ha1
        have HK1 := Lib.hid hK1; clear hK1
        clear hX1 hB1
        go_wp2
        go_roundw
        case rel =>
          refine ⟨k + 1, .slice A1 (l.length + (k + 1)) c1, by omega, by go_num, ⟨?_, PSk.out.lo, ?_⟩, ?_, ?_⟩
          · have e1 := heap_set (heap_set HK1.out (i := 0) (.slice A1 (l.length + (k + 1)) c1)) (i := 2) (.int .i64 (wrap64 (x.f0 + 1)))
            rw [Hn.out]
            exact e1
          · rw [Ht.out]
            exact Kd.R_far (Kd.R_far HR1.out (fun k hk => hk) _) (fun k hk => hk) _
          · refine Fr.set (Fr.set (HFR.out.grown (grown_of_drew HG1.out) ?_) _ _) _ _
            intro q hq e
            rcases OWk.out with o | ⟨b, o, hb⟩
            · exact e.trans o
            · rw [o] at e; injection e with e; omega
          · rcases HA1.out with o | ⟨b, o, hb⟩
            · rw [o]; exact OWk.out
            · exact Or.inr ⟨b, o, Nat.le_trans HFR.out.size hb⟩
        case measure => simp [intOf]; omega
    · obtain rfl : k = xs.length := by omega
      have p2 : ¬ (xs.length : Int) < (xs.length : Int) := by omega
      go_wp2
      go_ret
      have hps := PSk.out
      rw [List.take_length] at hps
      exact ⟨rfl, v', hps, FRk.out, OWk.out⟩
end Go.Proofs.Ytmkipdleggkkkaa.Own
