/- The disk: a span's writes and all others; how many wait. -/
import Derived.Test.YtekcidfipdjfdaaDC
import Derived.Great.BuildSlice
import Derived.Great.FillDense
namespace Go.Proofs.Ytekcidfipdjfdaa.Own
open Go.RowKit Go.Proofs.YtekcidfipdjfdaaW.PrintWords Go.Proofs.Ytekcidfipdjfdaa.PB
set_option maxRecDepth 100000
set_option linter.unusedSimpArgs false
set_option linter.unusedVariables false
theorem info65z : (Try.prog.info? 62).map (fun i => (i.zero, i.size, i.bytes)) = some (some (.agg Z65), 65, 72) := by kernel_rfl
theorem fill65 (x : S79) (h6 : x.f1.size = 64) (cells : Array Value) (hc : cells.size = 65) : Instr.fill (fun i => some (i * 65, 65)) cells [(0, Value.agg (wc x).toArray)] = some (wc x).toArray := by
  have := Great.fill_whole (s := 65) (by omega) [Value.agg (wc x).toArray] cells (by simp [Value.cells, wc_length h6]) (by simp [hc])
  simpa [Value.cells] using this
theorem slice65_wp {o : Oper} {a : Act} {w : World} {K : Act → World → Prop} {Q : Exit → Act → World → Prop} (y : Operand) (ho : o.op = .buildSlice 48 1 #[(0, y)]) (x : S79) (hy : a.eval y = .agg (wc x).toArray) (h6 : x.f1.size = 64)
    (h : K (a.put o.dst (.slice (some ⟨w.heap.size, 0, none⟩) 1 1)) (w.alloc (.cells (wc x).toArray 62))) : o.wp Try.prog a w K Q := by
  obtain ⟨i0, hi, hz0, hz1, hz2⟩ := info_parts info65z
  refine wp_buildSlice 48 62 1 #[(0, y)] ho (wc x).toArray i0 (.agg Z65) Try.underlying48 hi hz0 (by rw [hz1]; omega) (by rw [hz1]; omega) ?_ h
  rw [hz1]
  simp only [List.map_toArray, List.map_cons, List.map_nil, hy]
  exact fill65 x h6 _ (by simp)
theorem wpList_slice65 {ops : Array Oper} {rest : List Oper} {o : Oper} {a : Act} {w : World} {Q : Exit → Act → World → Prop} (hg : o.guard = none) (y : Operand) (ho : o.op = .buildSlice 48 1 #[(0, y)]) (x : S79) (hy : a.eval y = .agg (wc x).toArray) (h6 : x.f1.size = 64)
    (h : wpList Try.prog ops Q rest (a.put o.dst (.slice (some ⟨w.heap.size, 0, none⟩) 1 1)) (w.alloc (.cells (wc x).toArray 62))) : wpList Try.prog ops Q (o :: rest) a w :=
  wpList_plain hg fun _ hK => slice65_wp y ho x hy h6 (hK _ _ h)
def inB (i j : Int) (x : S79) : Bool := decide (i ≤ x.f0 ∧ x.f0 - i < j)
def inF (i j : Int) (W : List S79) : List S79 := W.filter (inB i j)
def outF (i j : Int) (W : List S79) : List S79 := W.filter (fun x => !inB i j x)
theorem in_yes {i j : Int} {W : List S79} {k : Nat} (hk : k < W.length) (h : inB i j (W.getD k z79) = true) : inF i j (W.take (k + 1)) = inF i j (W.take k) ++ [W.getD k z79] ∧ outF i j (W.take (k + 1)) = outF i j (W.take k) := by
  unfold inF outF
  rw [take_getD W z79 hk, List.filter_append, List.filter_append]
  simp only [List.filter_cons, h, List.filter_nil]
  simp
theorem in_no {i j : Int} {W : List S79} {k : Nat} (hk : k < W.length) (h : inB i j (W.getD k z79) = false) : inF i j (W.take (k + 1)) = inF i j (W.take k) ∧ outF i j (W.take (k + 1)) = outF i j (W.take k) ++ [W.getD k z79] := by
  unfold inF outF
  rw [take_getD W z79 hk, List.filter_append, List.filter_append]
  simp only [List.filter_cons, h, List.filter_nil]
  simp
theorem in_le (i j : Int) (W : List S79) (k : Nat) : (inF i j (W.take k)).length ≤ W.length := by
  unfold inF
  have := List.length_filter_le (inB i j) (W.take k)
  have h2 := List.length_take_le k W
  have h3 : (W.take k).length ≤ W.length := by rw [List.length_take]; omega
  omega
theorem out_le (i j : Int) (W : List S79) (k : Nat) : (outF i j (W.take k)).length ≤ W.length := by
  unfold outF
  have := List.length_filter_le (fun x => !inB i j x) (W.take k)
  have h3 : (W.take k).length ≤ W.length := by rw [List.length_take]; omega
  omega
/-- Two rows that were made, apart from each other. -/
structure Two (B : Nat) (v u : Value) (X Y : List S79) (w : World) : Prop where
  a : Kd.R k65 62 w B (fun k => some k ≠ u.ownBlock) v X
  b : Kd.R k65 62 w B (fun k => some k ≠ v.ownBlock) u Y
theorem Two.below {B : Nat} {v u : Value} {X Y : List S79} {w w1 : World} (h : Two B v u X Y w) (hb : Below w.heap.size w w1) : Two B v u X Y w1 := ⟨Kd.R_below h.a hb, Kd.R_below h.b hb⟩
theorem Two.left {B : Nat} {v u v1 : Value} {X Y X1 : List S79} {w w1 : World} (h : Two B v u X Y w) (h1 : Kd.R k65 62 w1 B (fun k => some k ≠ u.ownBlock) v1 X1) (hg : w.grownBy w1 v.ownBlock) (hv : v1.ownBlock = v.ownBlock ∨ ∃ b, v1.ownBlock = some b ∧ w.heap.size ≤ b) : Two B v1 u X1 Y w1 :=
  ⟨h1, Kd.R_mono (Kd.R_bound (Kd.R_grown (Kd.R_bound h.b) hg (fun k hk => hk.1))) (fun k hk e => by
    rcases hv with e1 | ⟨b, e1, hb⟩
    · exact hk.1.1 (e.trans e1)
    · rw [e1] at e; injection e with e; have := hk.1.2.2.1; omega)⟩
theorem Two.flip {B : Nat} {v u : Value} {X Y : List S79} {w : World} (h : Two B v u X Y w) : Two B u v Y X w := ⟨h.b, h.a⟩
theorem Two.right {B : Nat} {v u u1 : Value} {X Y Y1 : List S79} {w w1 : World} (h : Two B v u X Y w) (h1 : Kd.R k65 62 w1 B (fun k => some k ≠ v.ownBlock) u1 Y1) (hg : w.grownBy w1 u.ownBlock) (hv : u1.ownBlock = u.ownBlock ∨ ∃ b, u1.ownBlock = some b ∧ w.heap.size ≤ b) : Two B v u1 X Y1 w1 :=
  (h.flip.left h1 hg hv).flip
set_option maxHeartbeats 2000000 in
theorem part_any {B g o : Nat} {v : Value} {L : List ByteArray} {W : List S79} {w : World} (h : DS B g o v L W w) (i j : Int) (hi : 0 ≤ i) (hi2 : i ≤ 8192) (hW : W.length ≤ 1000000) :
    Calls Try.prog 34 #[.pointer (some ⟨g, 0, none⟩), .int .i64 i, .int .i64 j] w fun e w' => ∃ v1 u1, e = .returned (.tuple #[v1, u1]) ∧ Two w.heap.size v1 u1 (inF i j W) (outF i j W) w' ∧ Below w.heap.size w w' := by
  have c1 := blk_cell h.blk 1
  simp at c1
  have hw64 := h.w64
  have hf := h.few
  obtain ⟨A, c, rfl, hlc, hC⟩ := Kd.R_reads h.row
  have hmax := Kd.C_max hC
  have HC := Lib.hid hC; clear hC
  have HW := Lib.hid hW; clear hW
  have HW64 := Lib.hid hw64; clear hw64
  clear h
  go_enter Try.func34, Try.ntmps34
  go_wp2_with fail
  clear c1
  go_loopw [8, 9, 17] (fun v1 u1 q wr => ∃ k : Nat, k ≤ W.length ∧ q = .int .i64 k ∧ Two w.heap.size v1 u1 (inF i j (W.take k)) (outF i j (W.take k)) wr ∧ Below w.heap.size w wr) (fun _ _ q _ => W.length - (intOf q).toNat)
  case atStart => exact ⟨0, by omega, rfl, ⟨Kd.R_nil _ _ _ _ _, Kd.R_nil _ _ _ _ _⟩, Below.refl _ _⟩
  case round =>
    obtain ⟨k, hk, rfl, htwo, bel⟩ := hrel
    have Bel := Lib.hid bel; clear bel
    have HT := Lib.hid htwo; clear htwo
    by_cases hlt : k < W.length
    · have q1 : (0 : Int) ≤ (k : Int) := Int.natCast_nonneg _
      have q2 : (k : Int) < (W.length : Int) := by omega
      obtain ⟨ad, rfl, h6, hR, hsp⟩ := at65 (Kd.C_below HC.out Bel.out) k hlt
      obtain ⟨b, off, sp⟩ := ad
      subst hsp
      have hx0 := HW64.out (W.getD k z79) (by rw [List.getD_eq_getElem?_getD, List.getElem?_eq_getElem hlt]; exact List.getElem_mem hlt)
      have HY := Lib.hid (fun hh => in_yes (i := i) (j := j) hlt hh)
      have HN := Lib.hid (fun hh => in_no (i := i) (j := j) hlt hh)
      have HL := Lib.hid (in_le i j W k)
      have HL2 := Lib.hid (out_le i j W k)
      have HR := Lib.hid hR; clear hR
      have H6 := Lib.hid h6; clear h6
      generalize W.getD k z79 = x at *
      have hxa : 0 ≤ x.f0 := hx0.2.1
      have hxb : x.f0 < 8192 := by have := hx0.2.2; omega
      have hd : IntKind.i64.wrap (x.f0 - i) = x.f0 - i := IntWalk.i64_in _ (by omega)
      generalize inF i j (W.take k) = X at *
      generalize outF i j (W.take k) = Y at *
      clear hx0
      have kb := box65_at wr x
      have KW := Lib.hid (box65_whole wr x)
      have BBox : Below wr.heap.size wr (wr.alloc (.cells (wc x).toArray 62)) := (Below.refl _ _).alloc (Nat.le_refl _) _
      have HT1 := Lib.hid (HT.out.below BBox)
      have Bel1 := Lib.hid (Bel.out.trans (BBox.mono Bel.out.size))
      clear BBox
      cases hin : inB i j x with
      | true =>
        have HYY := Lib.hid (HY.out hin); clear HY HN
        have h1 : i ≤ x.f0 := by unfold inB at hin; exact (of_decide_eq_true hin).1
        have h2 : x.f0 - i < j := by unfold inB at hin; exact (of_decide_eq_true hin).2
        clear hin
        go_wp2_with (first | (refine wpList_load65 rfl (.tmp 19) rfl b (off + k * 65) x rfl HR.out H6.out ?_) | (refine wpList_box65 rfl rfl rfl 11 (.tmp 20) rfl rfl rfl x rfl rfl H6.out ?_) | (refine wpList_load65 rfl (.tmp 11) rfl wr.heap.size 0 x rfl KW.out H6.out ?_) | (refine wpList_slice65 rfl (.tmp 34) rfl x rfl H6.out ?_) | (at_builtin; refine Kd.R_append k65 (w0 := w) (W := wr.alloc (.cells (wc x).toArray 62)) w.heap.size rfl (.tmp 33) (.tmp 35) 48 62 (.agg Z65) 72 rfl Try.underlying48 info65z (by simp [Value.cells, Z65_size, k65]) (by decide) (by omega) u8 X x (wc x) (fun k => some k ≠ u9.ownBlock) (fun _ => False) rfl rfl ⟨rfl, H6.out⟩ (fun _ h => h.elim) (fun q hq e => by have := Kd.R_lt HT1.out.b q e.symm; omega) HT1.out.a Bel1.out (Bel1.out.size) (by have := HL.out; have := HW.out; omega) ?_; intro v2 w2 hR2 hB2 hg2 ha2))
        have HTN := Lib.hid (HT1.out.left hR2 hg2 ha2)
        have BN := Lib.hid hB2
        clear hR2 hB2 hg2 ha2
        try go_wp2
        go_roundw
        case rel => exact ⟨k + 1, by omega, by go_num, by rw [HYY.out.1, HYY.out.2]; exact HTN.out, BN.out⟩
        case measure => simp [intOf]; omega
      | false =>
        have HYY := Lib.hid (HN.out hin); clear HY HN
        have h1 : decide (i ≤ x.f0) = false ∨ (i ≤ x.f0 ∧ decide (x.f0 - i < j) = false) := by
          unfold inB at hin
          have := of_decide_eq_false hin
          by_cases h : i ≤ x.f0
          · right; exact ⟨h, by simp; omega⟩
          · left; simp; omega
        clear hin
        rcases h1 with h1 | ⟨h1, h2⟩
        all_goals
          go_wp2_with (first | (refine wpList_load65 rfl (.tmp 19) rfl b (off + k * 65) x rfl HR.out H6.out ?_) | (refine wpList_box65 rfl rfl rfl 11 (.tmp 20) rfl rfl rfl x rfl rfl H6.out ?_) | (refine wpList_load65 rfl (.tmp 11) rfl wr.heap.size 0 x rfl KW.out H6.out ?_) | (refine wpList_slice65 rfl (.tmp 38) rfl x rfl H6.out ?_) | (at_builtin; refine Kd.R_append k65 (w0 := w) (W := wr.alloc (.cells (wc x).toArray 62)) w.heap.size rfl (.tmp 37) (.tmp 39) 48 62 (.agg Z65) 72 rfl Try.underlying48 info65z (by simp [Value.cells, Z65_size, k65]) (by decide) (by omega) u9 Y x (wc x) (fun k => some k ≠ u8.ownBlock) (fun _ => False) rfl rfl ⟨rfl, H6.out⟩ (fun _ h => h.elim) (fun q hq e => by have := Kd.R_lt HT1.out.a q e.symm; omega) HT1.out.b Bel1.out (Bel1.out.size) (by have := HL2.out; have := HW.out; omega) ?_; intro v2 w2 hR2 hB2 hg2 ha2))
          have HTN := Lib.hid (HT1.out.right hR2 hg2 ha2)
          have BN := Lib.hid hB2
          clear hR2 hB2 hg2 ha2
          try go_wp2
          go_roundw
          case rel => exact ⟨k + 1, by omega, by go_num, by rw [HYY.out.1, HYY.out.2]; exact HTN.out, BN.out⟩
          case measure => simp [intOf]; omega
    · obtain rfl : k = W.length := by omega
      go_wp2
      go_ret2
      have := HT.out
      rw [List.take_length] at this
      exact ⟨_, _, rfl, this, Bel.out⟩
end Go.Proofs.Ytekcidfipdjfdaa.Own
