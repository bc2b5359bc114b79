/- The document's disk: a span's writes, all others, a write. -/
import Derived.Test.YtlodjkmablogcaaDL
namespace Go.Proofs.Ytlodjkmablogcaa.Own
open Go.RowKit Go.Proofs.YtlodjkmablogcaaW.PrintWords Go.Proofs.Ytlodjkmablogcaa.PB
set_option maxRecDepth 100000
set_option linter.unusedSimpArgs false
set_option linter.unusedVariables false
theorem info79' : (Try.prog.info? 79).map (fun i => (i.zero, i.size, i.bytes)) = some (some (.agg #[(.int .i64 0), (.string ⟨#[]⟩)]), 2, 24) := by kernel_rfl
set_option maxHeartbeats 2000000 in
theorem docIn_any (A : Option Addr) (c : Nat) (W : List S79) (vL : Value) (i j : Int) (w : World) (hC : Kd.C k79 w A W.length W) (h1L : ∃ A' n' c', vL = .slice A' n' c') (hW : W.length ≤ 1000000) (hw : ∀ x ∈ W, 0 ≤ x.f0 ∧ x.f0 < 8192) (h1 : 0 ≤ i) (h2 : i ≤ 8192) (h3 : 0 ≤ j) (h4 : j ≤ 8192) :
    Calls Try.prog 34 #[.agg #[vL, .slice A W.length c], .int .i64 i, .int .i64 j] w fun e w' => ∃ v', e = .returned v' ∧ Kd.R k79 79 w' w.heap.size (fun _ => True) v' (inF i j W) ∧ Below w.heap.size w w' := by
  obtain ⟨A', n', c', rfl⟩ := h1L
  have HC := Lib.hid hC; clear hC
  have HWB := Lib.hid hw; clear hw
  have hl' : (W.length : Int) ≤ 1000000 := by omega
  have hij : IntKind.i64.wrap (i + j) = i + j := IntWalk.i64_in _ (by omega)
  have B1 : Below w.heap.size w (w.alloc (.cells #[.slice A' n' c', .slice A W.length c] 39)) := (Below.refl _ _).alloc (Nat.le_refl _) _
  have X0 := heap_new w (.cells #[.slice A' n' c', .slice A W.length c] 39)
  have BB := Lib.hid B1
  have Y0 := Lib.hid X0
  have d1 := (blk_cell X0 1).trans rfl
  clear B1 X0
  go_enter Try.func34, Try.ntmps34
  go_wp2_with fail
  generalize hW1 : w.alloc (.cells #[.slice A' n' c', .slice A W.length c] 39) = W1 at *
  clear hW1 d1
  go_loopw [7, 13] (fun v q wr => ∃ k : Nat, k ≤ W.length ∧ q = .int .i64 k ∧ Kd.R k79 79 wr W1.heap.size (fun _ => True) v (inF i j (W.take k)) ∧ Below W1.heap.size W1 wr) (fun _ q _ => W.length - (intOf q).toNat)
  case atStart => exact ⟨0, by omega, rfl, Kd.R_nil _ _ _ _ _, Below.refl _ _⟩
  case round =>
    obtain ⟨k, hk, rfl, hR, bel⟩ := hrel
    have HR := Lib.hid hR; clear hR
    have Bel := Lib.hid bel; clear bel
    by_cases hlt : k < W.length
    · have q1 : (0 : Int) ≤ (k : Int) := Int.natCast_nonneg _
      have q2 : (k : Int) < (W.length : Int) := by omega
      obtain ⟨b, off, rfl, x0, x1⟩ := at79 (Kd.C_below HC.out (BB.out.trans (Bel.out.mono BB.out.size))) k hlt
      have hxb := HWB.out (W.getD k z79) (by rw [List.getD_eq_getElem?_getD, List.getElem?_eq_getElem hlt]; exact List.getElem_mem hlt)
      have HY := Lib.hid (fun hh => in_yes (i := i) (j := j) hlt hh)
      have HN := Lib.hid (fun hh => in_no (i := i) (j := j) hlt hh)
      have HL := Lib.hid (in_le i j W k)
      generalize W.getD k z79 = x at *
      generalize inF i j (W.take k) = Z at *
      obtain ⟨xa, xb⟩ := x
      simp only at x0 x1 hxb
      obtain ⟨hxa, hxb⟩ := hxb
      have y0 := (blk_cell (heap_new wr (.cells #[.int .i64 xa, .string xb] 79)) 0).trans rfl
      have y1 := (blk_cell (heap_new wr (.cells #[.int .i64 xa, .string xb] 79)) 1).trans rfl
      have BX := Lib.hid (show Below wr.heap.size wr (wr.alloc (.cells #[.int .i64 xa, .string xb] 79)) from (Below.refl _ _).alloc (Nat.le_refl _) _)
      have Bel1 := Lib.hid (Bel.out.trans (BX.out.mono Bel.out.size))
      have HR1 := Lib.hid (Kd.R_below HR.out BX.out)
      by_cases h5 : i ≤ xa
      · by_cases h6 : xa < i + j
        · have HS := Lib.hid (HY.out (by unfold inB; exact decide_eq_true ⟨h5, by show xa - i < j; omega⟩)).1
          go_wp2_with (at_builtin; refine Kd.R_append k79 (w0 := W1) (W := wr.alloc (.cells #[.int .i64 xa, .string xb] 79)) W1.heap.size rfl (.tmp 29) (.tmp 31) 37 79 (.agg #[(.int .i64 0), (.string ⟨#[]⟩)]) 24 rfl Try.underlying37 info79' rfl (by decide) (by omega) u7 Z ⟨xa, xb⟩ [.int .i64 xa, .string xb] (fun _ => True) (fun _ => False) rfl (by simp [Act.eval]) (k79_mkM _ _ _ ⟨xa, xb⟩) (fun _ h => h.elim) (fun _ _ => trivial) HR1.out Bel1.out Bel1.out.size (by have := HL.out; omega) ?_; intro v2 w2 hR2 hB2 hg2 ha2; have HR2 := Lib.hid hR2; have HB2 := Lib.hid hB2; clear hR2 hB2 hg2 ha2)
          try go_wp2
          go_roundw
          case rel => exact ⟨k + 1, by omega, by go_num, by rw [HS.out]; exact HR2.out, HB2.out⟩
          case measure => simp [intOf]; omega
        · have h6' : decide (xa < i + j) = false := by simpa using h6
          have HS := Lib.hid (HN.out (by unfold inB; exact decide_eq_false (fun h => h6 (by have := h.2; simp only at this; omega)))).1
          go_wp2
          go_roundw
          case rel => exact ⟨k + 1, by omega, by go_num, by rw [HS.out]; exact HR1.out, Bel1.out⟩
          case measure => simp [intOf]; omega
      · have h5' : decide (i ≤ xa) = false := by simpa using h5
        have HS := Lib.hid (HN.out (by unfold inB; exact decide_eq_false (fun h => h5 h.1))).1
        go_wp2
        go_roundw
        case rel => exact ⟨k + 1, by omega, by go_num, by rw [HS.out]; exact HR1.out, Bel1.out⟩
        case measure => simp [intOf]; omega
    · obtain rfl : k = W.length := by omega
      have R := HR.out
      rw [List.take_length] at R
      go_wp2
      go_ret
      exact ⟨_, rfl, Kd.R_lower R BB.out.size, BB.out.trans (Bel.out.mono BB.out.size)⟩
set_option maxHeartbeats 2000000 in
theorem without_any (A : Option Addr) (c : Nat) (W : List S79) (vL : Value) (i j : Int) (w : World) (hC : Kd.C k79 w A W.length W) (h1L : ∃ A' n' c', vL = .slice A' n' c') (hW : W.length ≤ 1000000) (hw : ∀ x ∈ W, 0 ≤ x.f0 ∧ x.f0 < 8192) (h1 : 0 ≤ i) (h2 : i ≤ 8192) (h3 : 0 ≤ j) (h4 : j ≤ 8192) :
    Calls Try.prog 37 #[.agg #[vL, .slice A W.length c], .int .i64 i, .int .i64 j] w fun e w' => ∃ v', e = .returned (.agg #[vL, v']) ∧ Kd.R k79 79 w' w.heap.size (fun _ => True) v' (outF i j W) ∧ Below w.heap.size w w' := by
  obtain ⟨A', n', c', rfl⟩ := h1L
  have HC := Lib.hid hC; clear hC
  have HWB := Lib.hid hw; clear hw
  have hl' : (W.length : Int) ≤ 1000000 := by omega
  have hij : IntKind.i64.wrap (i + j) = i + j := IntWalk.i64_in _ (by omega)
  have B1 : Below w.heap.size w (w.alloc (.cells #[.slice A' n' c', .slice A W.length c] 39)) := (Below.refl _ _).alloc (Nat.le_refl _) _
  have B2 : Below (w.alloc (.cells #[.slice A' n' c', .slice A W.length c] 39)).heap.size (w.alloc (.cells #[.slice A' n' c', .slice A W.length c] 39)) ((w.alloc (.cells #[.slice A' n' c', .slice A W.length c] 39)).alloc (.cells #[.slice none 0 0, .slice none 0 0] 39)) := (Below.refl _ _).alloc (Nat.le_refl _) _
  have X0 := heap_new w (.cells #[.slice A' n' c', .slice A W.length c] 39)
  have X1 := heap_new (w.alloc (.cells #[.slice A' n' c', .slice A W.length c] 39)) (.cells #[.slice none 0 0, .slice none 0 0] 39)
  have Z0 := blk_below X0 B2
  rw [show (w.alloc (.cells #[.slice A' n' c', .slice A W.length c] 39)).heap.size = w.heap.size + 1 by simp] at X1
  have BB := Lib.hid (B1.trans (B2.mono B1.size))
  have d0 := (blk_cell Z0 0).trans rfl
  have d1 := (blk_cell Z0 1).trans rfl
  have Y0 := Lib.hid Z0; have Y1 := Lib.hid X1
  clear X0 B1 B2 Z0 X1
  go_enter Try.func37, Try.ntmps37
  go_wp2_with fail
  generalize hW1 : (w.alloc (.cells #[.slice A' n' c', .slice A W.length c] 39)).alloc (.cells #[.slice none 0 0, .slice none 0 0] 39) = W1 at *
  clear hW1 d1
  go_loopw [7, 13] (fun v q wr => ∃ k : Nat, k ≤ W.length ∧ q = .int .i64 k ∧ Kd.R k79 79 wr W1.heap.size (fun _ => True) v (outF i j (W.take k)) ∧ Below W1.heap.size W1 wr) (fun _ q _ => W.length - (intOf q).toNat)
  case atStart => exact ⟨0, by omega, rfl, Kd.R_nil _ _ _ _ _, Below.refl _ _⟩
  case round =>
    obtain ⟨k, hk, rfl, hR, bel⟩ := hrel
    have HR := Lib.hid hR; clear hR
    have Bel := Lib.hid bel; clear bel
    by_cases hlt : k < W.length
    · have q1 : (0 : Int) ≤ (k : Int) := Int.natCast_nonneg _
      have q2 : (k : Int) < (W.length : Int) := by omega
      obtain ⟨b, off, rfl, x0, x1⟩ := at79 (Kd.C_below HC.out (BB.out.trans (Bel.out.mono BB.out.size))) k hlt
      have hxb := HWB.out (W.getD k z79) (by rw [List.getD_eq_getElem?_getD, List.getElem?_eq_getElem hlt]; exact List.getElem_mem hlt)
      have HY := Lib.hid (fun hh => in_yes (i := i) (j := j) hlt hh)
      have HN := Lib.hid (fun hh => in_no (i := i) (j := j) hlt hh)
      have HL := Lib.hid (out_le i j W k)
      generalize W.getD k z79 = x at *
      generalize outF i j (W.take k) = Z at *
      obtain ⟨xa, xb⟩ := x
      simp only at x0 x1 hxb
      obtain ⟨hxa, hxb⟩ := hxb
      have y0 := (blk_cell (heap_new wr (.cells #[.int .i64 xa, .string xb] 79)) 0).trans rfl
      have y1 := (blk_cell (heap_new wr (.cells #[.int .i64 xa, .string xb] 79)) 1).trans rfl
      have BX := Lib.hid (show Below wr.heap.size wr (wr.alloc (.cells #[.int .i64 xa, .string xb] 79)) from (Below.refl _ _).alloc (Nat.le_refl _) _)
      have Bel1 := Lib.hid (Bel.out.trans (BX.out.mono Bel.out.size))
      have HR1 := Lib.hid (Kd.R_below HR.out BX.out)
      by_cases h5 : xa < i
      · have HS := Lib.hid (HN.out (by unfold inB; exact decide_eq_false (fun h => by have := h.1; simp only at this; omega))).2
        go_wp2_with (at_builtin; refine Kd.R_append k79 (w0 := W1) (W := wr.alloc (.cells #[.int .i64 xa, .string xb] 79)) W1.heap.size rfl (.tmp 29) (.tmp 31) 37 79 (.agg #[(.int .i64 0), (.string ⟨#[]⟩)]) 24 rfl Try.underlying37 info79' rfl (by decide) (by omega) u7 Z ⟨xa, xb⟩ [.int .i64 xa, .string xb] (fun _ => True) (fun _ => False) rfl (by simp [Act.eval]) (k79_mkM _ _ _ ⟨xa, xb⟩) (fun _ h => h.elim) (fun _ _ => trivial) HR1.out Bel1.out Bel1.out.size (by have := HL.out; omega) ?_; intro v2 w2 hR2 hB2 hg2 ha2; have HR2 := Lib.hid hR2; have HB2 := Lib.hid hB2; clear hR2 hB2 hg2 ha2)
        try go_wp2
        go_roundw
        case rel => exact ⟨k + 1, by omega, by go_num, by rw [HS.out]; exact HR2.out, HB2.out⟩
        case measure => simp [intOf]; omega
      · have h5' : decide (xa < i) = false := by simpa using h5
        by_cases h6 : i + j ≤ xa
        · have HS := Lib.hid (HN.out (by unfold inB; exact decide_eq_false (fun h => by have := h.2; simp only at this; omega))).2
          go_wp2_with (at_builtin; refine Kd.R_append k79 (w0 := W1) (W := wr.alloc (.cells #[.int .i64 xa, .string xb] 79)) W1.heap.size rfl (.tmp 29) (.tmp 31) 37 79 (.agg #[(.int .i64 0), (.string ⟨#[]⟩)]) 24 rfl Try.underlying37 info79' rfl (by decide) (by omega) u7 Z ⟨xa, xb⟩ [.int .i64 xa, .string xb] (fun _ => True) (fun _ => False) rfl (by simp [Act.eval]) (k79_mkM _ _ _ ⟨xa, xb⟩) (fun _ h => h.elim) (fun _ _ => trivial) HR1.out Bel1.out Bel1.out.size (by have := HL.out; omega) ?_; intro v2 w2 hR2 hB2 hg2 ha2; have HR2 := Lib.hid hR2; have HB2 := Lib.hid hB2; clear hR2 hB2 hg2 ha2)
          try go_wp2
          go_roundw
          case rel => exact ⟨k + 1, by omega, by go_num, by rw [HS.out]; exact HR2.out, HB2.out⟩
          case measure => simp [intOf]; omega
        · have h6' : decide (i + j ≤ xa) = false := by simpa using h6
          have HS := Lib.hid (HY.out (by unfold inB; exact decide_eq_true ⟨by show i ≤ xa; omega, by show xa - i < j; omega⟩)).2
          go_wp2
          go_roundw
          case rel => exact ⟨k + 1, by omega, by go_num, by rw [HS.out]; exact HR1.out, Bel1.out⟩
          case measure => simp [intOf]; omega
    · obtain rfl : k = W.length := by omega
      have R := HR.out
      rw [List.take_length] at R
      have z0 := blk_below Y0.out Bel.out
      have z1 := blk_below Y1.out Bel.out
      have d0' := (blk_cell z0 0).trans rfl
      have e0 := (blk_cell z1 0).trans rfl
      have e1 := (blk_cell z1 1).trans rfl
      have f0 := blk_free z1 0
      have f1 := blk_free z1 1
      obtain ⟨A2, c2, rfl⟩ := Kd.R_slice R
      generalize hn2 : (outF i j W).length = n2 at *
      have R2 := Lib.hid R; have Z1 := Lib.hid z1; have N2 := Lib.hid hn2
      clear R z0 z1 hn2 d0
      go_wp2
      have HZ : ((wr.setCell ⟨w.heap.size + 1, 0, none⟩ (.slice A' n' c')).setCell ⟨w.heap.size + 1, 1, none⟩ (.slice A2 n2 c2)).heap[w.heap.size + 1]? = some (.cells #[.slice A' n' c', .slice A2 n2 c2] 39 (0, 0)) := (heap_set (heap_set Z1.out (i := 0) _) (i := 1) _).trans rfl
      refine bodyPost_ret (v := .agg #[.slice A' n' c', .slice A2 n2 c2]) (results_cell_row Try.results37 _ _ (w.heap.size + 1) 39 _ (0, 0) _ rfl HZ Try.underlying39 rfl (by kernel_rfl)) rfl ⟨_, rfl, ?_, ?_⟩
      · have hlt : w.heap.size + 1 < W1.heap.size := blk_lt Y1.out
        exact Kd.R_far (Kd.R_far (Kd.R_lower (Kd.R_mono (Kd.R_bound R2.out) (ok' := fun q => q ≠ w.heap.size + 1) (fun q hq => by have := hq.2.1; omega)) (by omega)) (fun q hq => hq) _) (fun q hq => hq) _ |> fun h => Kd.R_mono h (fun _ _ => trivial)
      · exact ((BB.out.trans (Bel.out.mono BB.out.size)).setCell (by simp) _).setCell (by simp) _
end Go.Proofs.Ytlodjkmablogcaa.Own
