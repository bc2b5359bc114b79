/- The document's disk: a flush. -/
import Derived.Test.YtlodjkmablogcaaDN
namespace Go.Proofs.Ytlodjkmablogcaa.Own
open Go.RowKit Go.Proofs.YtlodjkmablogcaaW.PrintWords Go.Proofs.Ytlodjkmablogcaa.PB
set_option maxRecDepth 100000
set_option linter.unusedSimpArgs false
set_option linter.unusedVariables false
/-- The document's disk: two rows that were made. -/
structure DD (B : Nat) (vL vW : Value) (L : List ByteArray) (W : List S79) (w : World) : Prop where
  l : Kd.R Kd.string 9 w B (fun _ => True) vL L
  w : Kd.R k79 79 w B (fun _ => True) vW W
theorem DD.below {B : Nat} {vL vW : Value} {L : List ByteArray} {W : List S79} {w w1 : World} (h : DD B vL vW L W w) (hb : Below w.heap.size w w1) : DD B vL vW L W w1 := ⟨Kd.R_below h.l hb, Kd.R_below h.w hb⟩
/-- Three boxes of the document's disk. -/
theorem three39 (w : World) (a b : Value) : ∃ W1, ((w.alloc (.cells #[a, b] 39)).alloc (.cells #[.slice none 0 0, .slice none 0 0] 39)).alloc (.cells #[a, b] 39) = W1 ∧ Below w.heap.size w W1 ∧ W1.heap[w.heap.size]? = some (.cells #[a, b] 39 (0, 0)) ∧ W1.heap[w.heap.size + 1]? = some (.cells #[.slice none 0 0, .slice none 0 0] 39 (0, 0)) ∧ W1.heap[w.heap.size + 2]? = some (.cells #[a, b] 39 (0, 0)) ∧ W1.heap.size = w.heap.size + 3 := by
  obtain ⟨W0, h0, b0, z0, z1, hs⟩ := two39 w a b
  rw [h0]
  have B2 : Below W0.heap.size W0 (W0.alloc (.cells #[a, b] 39)) := (Below.refl _ _).alloc (Nat.le_refl _) _
  refine ⟨_, rfl, b0.trans (B2.mono b0.size), blk_below z0 B2, blk_below z1 B2, ?_, by simp [hs]⟩
  have X1 := heap_new W0 (.cells #[a, b] 39)
  rw [hs] at X1
  exact X1
theorem DD.box {B g : Nat} {vL vW : Value} {L : List ByteArray} {W : List S79} {w : World} {cells : Array Value} (h : DD B vL vW L W w) (hb : w.heap[g]? = some (.cells cells 39 (0, 0))) (j : Nat) (u : Value) : DD B vL vW L W (w.setCell ⟨g, j, none⟩ u) :=
  ⟨Kd.R_set h.l hb (by intro q hq; simp [Kd.string, Kd.scalar] at hq; omega) j u, Kd.R_set h.w hb (by intro q hq; simp [k79, Kd.iso, Kd.pair, Kd.int, Kd.string, Kd.scalar] at hq; omega) j u⟩
theorem DD.put2 {B g : Nat} {vL vW a b u v : Value} {L : List ByteArray} {W : List S79} {w : World} (h : DD B vL vW L W w) (hb : w.heap[g]? = some (.cells #[a, b] 39 (0, 0))) : DD B vL vW L W ((w.setCell ⟨g, 0, none⟩ u).setCell ⟨g, 1, none⟩ v) :=
  (h.box hb 0 u).box (heap_set hb (i := 0) u) 1 v
theorem put2_heap {w : World} {g : Nat} {a b u v : Value} {t : TypeId} (hb : w.heap[g]? = some (.cells #[a, b] t (0, 0))) : ((w.setCell ⟨g, 0, none⟩ u).setCell ⟨g, 1, none⟩ v).heap[g]? = some (.cells #[u, v] t (0, 0)) := (heap_set (heap_set hb (i := 0) _) (i := 1) _).trans rfl
theorem put2_far {w : World} {g k : Nat} {u v : Value} (hk : k ≠ g) : ((w.setCell ⟨g, 0, none⟩ u).setCell ⟨g, 1, none⟩ v).heap[k]? = w.heap[k]? := (heap_far _ _ _ hk).trans (heap_far _ _ _ hk)
theorem below_put2 {B g : Nat} {w0 w : World} {u v : Value} (h : Below B w0 w) (hg : B ≤ g) : Below B w0 ((w.setCell ⟨g, 0, none⟩ u).setCell ⟨g, 1, none⟩ v) := (h.setCell (p := ⟨g, 0, none⟩) hg u).setCell (p := ⟨g, 1, none⟩) hg v
set_option maxHeartbeats 4000000 in
theorem docFlush_any {B : Nat} {vL vW : Value} {L : List ByteArray} {W : List S79} {w : World} (h : DD B vL vW L W w) (i j : Int) (hB : B ≤ w.heap.size) (hL : L.length ≤ 8192) (hW : W.length ≤ 1000000) (hw : ∀ x ∈ W, 0 ≤ x.f0 ∧ x.f0 < 8192) (h1 : 0 ≤ i) (h2 : i ≤ 8192) (h3 : 0 ≤ j) (h4 : j ≤ 8192) :
    Calls Try.prog 29 #[.agg #[vL, vW], .int .i64 i, .int .i64 j] w fun e w' => ∃ v1 v2, e = .returned (.agg #[v1, v2]) ∧ DD B v1 v2 (setF L (inF i j W)) (outF i j W) w' ∧ Below w.heap.size w w' := by
  obtain ⟨AL, cL, rfl, _, _⟩ := Kd.R_reads h.l
  obtain ⟨AW, cW, rfl, _, hCW⟩ := Kd.R_reads h.w
  obtain ⟨W1, hW1, bb, z0, z1, z2, hsz⟩ := three39 w (.slice AL L.length cL) (.slice AW W.length cW)
  have HD := Lib.hid (h.below bb)
  have CW := Lib.hid (Kd.C_below hCW bb)
  have BB := Lib.hid bb
  have HWB := Lib.hid hw; clear hw
  have H12 := Lib.hid (And.intro h1 (And.intro h2 (And.intro h3 h4)))
  have c0 := (blk_cell z0 0).trans rfl
  have c1 := (blk_cell z0 1).trans rfl
  have Y0 := Lib.hid z0; have Y1 := Lib.hid z1; have Y2 := Lib.hid z2; have SZ := Lib.hid hsz; have HW1 := Lib.hid hW1
  clear z0 z1 z2 hsz bb hW1 h hCW h1 h2 h3 h4
  have b0 := (blk_cell (heap_new w (.cells #[.slice AL L.length cL, .slice AW W.length cW] 39)) 0).trans rfl
  have b1 := (blk_cell (heap_new w (.cells #[.slice AL L.length cL, .slice AW W.length cW] 39)) 1).trans rfl
  go_enter Try.func29, Try.ntmps29
  go_upto_region 2 with (fail)
  rw [HW1.out]
  clear b0 b1
  go_wp2_with fail
  refine (docIn_any AW cW W (.slice AL L.length cL) i j W1 CW.out ⟨_, _, _, rfl⟩ hW HWB.out H12.out.1 H12.out.2.1 H12.out.2.2.1 H12.out.2.2.2).mono ?_
  rintro e w2 ⟨vX, rfl, hX, b2⟩
  have HX := Lib.hid (show Kd.R k79 79 w2 w.heap.size (fun q => q ≠ w.heap.size + 2) vX (inF i j W) from Kd.R_lower (ok_off hX (by have := SZ.out; omega)) (by have := SZ.out; omega))
  have HXW := Lib.hid (show ∀ x ∈ inF i j W, x ∈ W from fun x hx => (List.mem_filter.1 hx).1)
  obtain ⟨AX, cX, rfl, _, _⟩ := Kd.R_reads hX
  have D2 := Lib.hid (HD.out.below b2)
  have BB2 := Lib.hid (BB.out.trans (b2.mono BB.out.size))
  have Z1 := Lib.hid (blk_below Y1.out b2)
  have Z2 := Lib.hid (blk_below Y2.out b2)
  have hxl : ((inF i j W).length : Int) ≤ 1000000 := by have := in_all i j W; omega
  generalize hXe : inF i j W = X at *
  have EX := Lib.hid hXe; clear hXe hX b2 c0 c1 CW HD BB Y1 Y2
  have HSZ2 := Lib.hid (show w.heap.size + 3 ≤ w2.heap.size from by have := Z2.out; have h := BB2.out.size; have := SZ.out; have hh := blk_lt Z2.out; omega)
  go_wp2_with fail
  go_loopw [16] (fun q wr => ∃ (k : Nat) (v : Value), k ≤ X.length ∧ q = .int .i64 k ∧ wr.heap[w.heap.size + 2]? = some (.cells #[v, .slice AW W.length cW] 39 (0, 0)) ∧ wr.heap[w.heap.size + 1]? = some (.cells #[.slice none 0 0, .slice none 0 0] 39 (0, 0)) ∧ DD B v (.slice AW W.length cW) (setF L (X.take k)) W wr ∧ Kd.R k79 79 wr w.heap.size (fun q => q ≠ w.heap.size + 2) (.slice AX X.length cX) X ∧ Below w.heap.size w wr) (fun q _ => X.length - (intOf q).toNat)
  case atStart => exact ⟨0, _, by omega, rfl, Z2.out, Z1.out, D2.out, HX.out, BB2.out⟩
  case round =>
    obtain ⟨k, v, hk, rfl, hb2, hb1, hdd, hx, bel⟩ := hrel
    have HB2 := Lib.hid hb2; have HB1 := Lib.hid hb1; have DR := Lib.hid hdd; have XR := Lib.hid hx; have Bel := Lib.hid bel
    clear hb2 hb1 hdd hx bel
    by_cases hlt : k < X.length
    · have q1 : (0 : Int) ≤ (k : Int) := Int.natCast_nonneg _
      have q2 : (k : Int) < (X.length : Int) := by omega
      obtain ⟨_, _, hCX⟩ := Kd.R_reads' XR.out
      obtain ⟨b, off, rfl, x0, x1⟩ := at79 hCX k hlt
      clear hCX
      have hxb := HWB.out (X.getD k z79) (HXW.out _ (by rw [List.getD_eq_getElem?_getD, List.getElem?_eq_getElem hlt]; exact List.getElem_mem hlt))
      have HN := Lib.hid (setF_take (L := L) hlt)
      have hml := setF_len (X.take k) L
      generalize X.getD k z79 = x at *
      generalize setF L (X.take k) = M at *
      have HML := Lib.hid hml; clear hml
      obtain ⟨xa, s⟩ := x
      simp only at x0 x1 hxb
      obtain ⟨p, rfl⟩ := Int.eq_ofNat_of_zero_le hxb.1
      clear hxb
      have y0 := (blk_cell (heap_new wr (.cells #[.int .i64 (p : Int), .string s] 79)) 0).trans rfl
      have y1 := (blk_cell (heap_new wr (.cells #[.int .i64 (p : Int), .string s] 79)) 1).trans rfl
      have bx : Below wr.heap.size wr (wr.alloc (.cells #[.int .i64 (p : Int), .string s] 79)) := (Below.refl _ _).alloc (Nat.le_refl _) _
      have c2 := (blk_cell (blk_below HB2.out bx) 0).trans rfl
      have c3 := (blk_cell (blk_below HB2.out bx) 1).trans rfl
      have BX := Lib.hid bx; clear bx
      obtain ⟨AM, cM, rfl, _, hCM⟩ := Kd.R_reads DR.out.l
      have CM := Lib.hid (Kd.C_below hCM BX.out); clear hCM
      go_wp2_with fail
      refine (set_any AM cM M (.slice AW W.length cW) p s _ CM.out ⟨_, _, _, rfl⟩ (by have := HML.out; omega)).mono ?_
      rintro e w4 ⟨v', rfl, hR, b4⟩
      have D4 := Lib.hid ((DR.out.below BX.out).below b4)
      have X4 := Lib.hid (Kd.R_below (Kd.R_below XR.out BX.out) b4)
      have B24 := Lib.hid (blk_below (blk_below HB2.out BX.out) b4)
      have B14 := Lib.hid (blk_below (blk_below HB1.out BX.out) b4)
      have Bel4 := Lib.hid (Bel.out.trans ((BX.out.trans (b4.mono BX.out.size)).mono Bel.out.size))
      have HR4 := Lib.hid (ok_off hR (show w.heap.size + 2 < (wr.alloc (.cells #[.int .i64 (p : Int), .string s] 79)).heap.size by have := blk_lt HB2.out; simp; omega))
      have HBW := Lib.hid (show B ≤ (wr.alloc (.cells #[.int .i64 (p : Int), .string s] 79)).heap.size by have := blk_lt HB2.out; simp; omega)
      obtain ⟨A5, c5, e5⟩ := Kd.R_slice hR
      clear hR b4 c2 c3 y0 y1 x0 x1
      generalize hn5 : (M.set p s).length = n5 at e5
      subst e5
      have N5 := Lib.hid hn5; clear hn5
      have e0 := (blk_cell B24.out 0).trans rfl
      have e1 := (blk_cell B24.out 1).trans rfl
      have f0 := blk_free B24.out 0
      have f1 := blk_free B24.out 1
      go_wp2
      go_roundw
      case rel =>
        refine ⟨k + 1, .slice A5 n5 c5, by omega, by go_num, put2_heap B24.out, (put2_far (by omega)).trans B14.out, ?_, ?_, below_put2 Bel4.out (by omega)⟩
        · have D5 := D4.out.put2 B24.out (u := .slice A5 n5 c5) (v := .slice AW W.length cW)
          rw [HN.out]
          refine ⟨?_, D5.w⟩
          have r1 := Kd.R_far HR4.out (p := ⟨w.heap.size + 2, 0, none⟩) (fun q hq => hq) (.slice A5 n5 c5)
          have r2 := Kd.R_far r1 (p := ⟨w.heap.size + 2, 1, none⟩) (fun q hq => hq) (.slice AW W.length cW)
          exact ok_all (Kd.R_lower r2 HBW.out)
        · have r1 := Kd.R_far X4.out (p := ⟨w.heap.size + 2, 0, none⟩) (fun q hq => hq) (.slice A5 n5 c5)
          exact Kd.R_far r1 (p := ⟨w.heap.size + 2, 1, none⟩) (fun q hq => hq) (.slice AW W.length cW)
      case measure => simp [intOf]; omega
    · obtain rfl : k = X.length := by omega
      rw [List.take_length] at DR
      clear hlt hk
      have HML := Lib.hid (setF_len X L)
      obtain ⟨AM, cM, rfl, hcm, hCM⟩ := Kd.R_reads DR.out.l
      have c2 := (blk_cell HB2.out 0).trans rfl
      have c3 := (blk_cell HB2.out 1).trans rfl
      have CM := Lib.hid hCM; clear hCM
      have BWR := Lib.hid (show B ≤ wr.heap.size by have := Bel.out.size; omega)
      go_wp2_with fail
      have ex := EX.out
      subst ex
      refine (without_any AW cW W (.slice AM _ cM) i j wr (Kd.R_reads' DR.out.w).2.2 ⟨_, _, _, rfl⟩ hW HWB.out H12.out.1 H12.out.2.1 H12.out.2.2.1 H12.out.2.2.2).mono ?_
      rintro e w4 ⟨v', rfl, hR, b4⟩
      have D4 := Lib.hid (DR.out.below b4)
      have B14 := Lib.hid (blk_below HB1.out b4)
      have Bel4 := Lib.hid (Bel.out.trans (b4.mono Bel.out.size))
      have HR4 := Lib.hid (ok_off hR (show w.heap.size + 1 < wr.heap.size from blk_lt HB1.out))
      obtain ⟨A5, c5, e5⟩ := Kd.R_slice hR
      clear hR b4 c2 c3
      generalize hn5 : (outF i j W).length = n5 at e5
      subst e5
      have N5 := Lib.hid hn5; clear hn5
      have e0 := (blk_cell B14.out 0).trans rfl
      have e1 := (blk_cell B14.out 1).trans rfl
      have f0 := blk_free B14.out 0
      have f1 := blk_free B14.out 1
      generalize hlm : (setF L (inF i j W)).length = lm at *
      have HLM := Lib.hid hlm; clear hlm
      go_wp2
      refine bodyPost_ret (v := .agg #[.slice AM lm cM, .slice A5 n5 c5]) (results_cell_row Try.results29 _ _ (w.heap.size + 1) 39 _ (0, 0) _ rfl (put2_heap B14.out) Try.underlying39 rfl (by kernel_rfl)) rfl ⟨_, _, rfl, ⟨?_, ?_⟩, ?_⟩
      · exact (D4.out.put2 B14.out).l
      · have r1 := Kd.R_far HR4.out (p := ⟨w.heap.size + 1, 0, none⟩) (fun q hq => hq) (.slice AM lm cM)
        have r2 := Kd.R_far r1 (p := ⟨w.heap.size + 1, 1, none⟩) (fun q hq => hq) (.slice A5 n5 c5)
        exact ok_all (Kd.R_lower r2 BWR.out)
      · exact below_put2 Bel4.out (by omega)
end Go.Proofs.Ytlodjkmablogcaa.Own
