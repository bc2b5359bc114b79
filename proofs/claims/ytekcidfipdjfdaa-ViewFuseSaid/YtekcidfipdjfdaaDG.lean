/- The disk: a flush. -/
import Derived.Test.YtekcidfipdjfdaaDF
import Derived.StillTailTactics
namespace Go.Proofs.Ytekcidfipdjfdaa.Own
open Go.RowKit Go.Proofs.YtekcidfipdjfdaaW.PrintWords Go.Proofs.Ytekcidfipdjfdaa.PB
set_option maxRecDepth 100000
set_option linter.unusedSimpArgs false
set_option linter.unusedVariables false
theorem wpStill_val {ops : Array Oper} {w : World} {Q : Act → Prop} {a : Act} {o : Oper} {rest : List Oper} {v : Value} (hw : Region.wanted o (yielded ops a.tmps) = true) (hv : (execOp a.eval o).run Try.prog w = .ok (.value v) w)
    (h : wpStill Try.prog ops w Q rest (a.put o.dst v)) : wpStill Try.prog ops w Q (o :: rest) a :=
  wpStill_step fun K hK => by
    rw [if_pos hw]
    unfold Oper.still
    rw [hv, Oper.stillUpon_value]
    exact hK _ h
theorem exec_load63 {a : Act} {o : Oper} {w : World} (x : Operand) (ho : o.op = .load 60 x) (b off : Nat) (s : ByteArray) (hx : a.eval x = .pointer (some ⟨b, off, none⟩)) (hr : w.rangeAt b off (sc s)) (h6 : s.size = 64) :
    (execOp a.eval o).run Try.prog w = .ok (.value (.agg (sc s).toArray)) w := by
  have := run_loadAt_mid (P := Try.prog) w b off 60 (sc s) _ hr Try.underlying60 rfl (by rw [size63, sc_length, h6])
  unfold execOp
  simp only [ho, hx, Sem.run_bind, this, Result.andThen_ok]
  rfl
theorem wpList_store63 {ops : Array Oper} {rest : List Oper} {o : Oper} {a : Act} {w : World} {Q : Exit → Act → World → Prop} (hgd : o.guard = none) (x y : Operand) (ho : o.op = .store 60 x y) (hds : o.dst = none)
    (b off : Nat) (s : ByteArray) (hx : a.eval x = .pointer (some ⟨b, off, none⟩)) (hy : a.eval y = .agg (sc s).toArray) (ht : w.there b off 64) (h6 : s.size = 64)
    (h : wpList Try.prog ops Q rest a (w.setCells b off (sc s))) : wpList Try.prog ops Q (o :: rest) a w := by
  refine wpList_store_mid hgd 60 x y ho b off (sc s).toArray hx hy (by simpa [sc_length, h6] using ht) (by rw [size63]; simp [sc_length, h6]) (toArray_one (Lib.strCells_oneCell s)) ?_
  rw [hds]
  exact h
theorem DS.there {B g o : Nat} {v : Value} {L : List ByteArray} {W : List S79} {w : World} (h : DS B g o v L W w) (i : Nat) (hi : i < L.length) : w.there o (i * 64) 64 := by
  have hl := flatL_length h.l64
  intro j hj
  refine ⟨?_, blk_free h.lie _⟩
  rw [blk_cell h.lie, List.getElem?_toArray, List.getElem?_eq_getElem (by rw [hl]; omega)]
  rfl
/-- Something else lies in a sector. -/
theorem DS.put {B g o : Nat} {v : Value} {L : List ByteArray} {W : List S79} {w : World} (h : DS B g o v L W w) (i : Nat) (hi : i < L.length) (s : ByteArray) (hs : s.size = 64) : DS B g o v (L.set i s) W (w.setCells o (i * 64) (sc s)) := by
  have hl := flatL_length h.l64
  obtain ⟨e1, e2, e3, e4, e5⟩ := setCells_heap o (sc s) (i * 64) w
  have hno : v.ownBlock ≠ some o := fun e => (h.row.1 o e).2 rfl
  refine ⟨?_, ?_, ?_, h.log, h.loo, h.ne, ?_, ?_, by rw [List.length_set]; exact h.few⟩
  · rw [e5 g h.ne.symm, h.blk, List.length_set]
  · rw [heap_setCells o (sc s) (i * 64) w (flatL L) 60 (0, 0) h.lie (by rw [sc_length, hs, hl]; omega), flatL_set h.l64 i hi hs, sc_length, hs]
  · exact Kd.R_step h.row (fun k hk _ => e5 k hk.2)
  · intro x hx
    rcases List.mem_or_eq_of_mem_set hx with hx | rfl
    · exact h.l64 x hx
    · exact hs
  · intro x hx
    rw [List.length_set]
    exact h.w64 x hx
def setF (L : List ByteArray) (X : List S79) : List ByteArray := X.foldl (fun l x => l.set x.f0.toNat x.f1) L
theorem setF_len (X : List S79) : ∀ L : List ByteArray, (setF L X).length = L.length := by
  induction X with
  | nil => intro L; rfl
  | cons x X ih => intro L; show (setF (L.set _ _) X).length = _; rw [ih, List.length_set]
theorem setF_take {L : List ByteArray} {X : List S79} {k : Nat} (hk : k < X.length) : setF L (X.take (k + 1)) = (setF L (X.take k)).set (X.getD k z79).f0.toNat (X.getD k z79).f1 := by
  unfold setF
  rw [take_getD X z79 hk, List.foldl_append]
  rfl
theorem Two.fr {B : Nat} {v u : Value} {X Y : List S79} {w w1 : World} {S : Nat → Prop} (h : Two B v u X Y w) (hf : Fr S w w1) (hs : ∀ k, B ≤ k → ¬ S k) : Two B v u X Y w1 :=
  ⟨Kd.R_mono (Kd.R_move (Kd.R_bound h.a) (fun k hk => hf.block k hk.2.2.1 (hs k hk.2.1))) (fun _ hk => hk.1), Kd.R_mono (Kd.R_move (Kd.R_bound h.b) (fun k hk => hf.block k hk.2.2.1 (hs k hk.2.1))) (fun _ hk => hk.1)⟩
theorem fs_lt {B g o : Nat} {v : Value} {L : List ByteArray} {W : List S79} {w : World} (h : DS B g o v L W w) : ∀ k, FS g o v k → k < w.heap.size := by
  rintro k (rfl | rfl | hk)
  · exact blk_lt h.blk
  · exact blk_lt h.lie
  · exact Kd.R_lt h.row k hk
theorem flush_bad {B g o : Nat} {v : Value} {L : List ByteArray} {W : List S79} {w : World} (h : DS B g o v L W w) (i j : Int) (hs : spanB L.length i j = false) :
    Calls Try.prog 24 #[.pointer (some ⟨g, 0, none⟩), .int .i64 i, .int .i64 j] w fun e w' => e = .returned (.int .i64 20) ∧ w = w' := by
  have HS := Lib.hid hs; clear hs
  go_enter Try.func24, Try.ntmps24
  go_wp2_with fail
  refine (span_any h i j).mono ?_
  rintro e w7 ⟨rfl, rfl⟩
  rw [HS.out]
  go_wp2
  go_ret
  exact ⟨rfl, rfl⟩
set_option maxHeartbeats 2000000 in
theorem flush_ok {B g o : Nat} {v : Value} {L : List ByteArray} {W : List S79} {w : World} (h : DS B g o v L W w) (i j : Int) (hs : spanB L.length i j = true) (hW : W.length ≤ 1000000) :
    Calls Try.prog 24 #[.pointer (some ⟨g, 0, none⟩), .int .i64 i, .int .i64 j] w fun e w' => e = .returned (.int .i64 0) ∧ ∃ v', DS B g o v' (setF L (inF i j W)) (outF i j W) w' ∧ Fr (FS g o v) w w' ∧ NV v v' w := by
  have hsp := spanB_yes hs
  have hf := h.few
  have HS := Lib.hid hs; clear hs
  have H := Lib.hid h; clear h
  obtain ⟨h1, h2, h3, h4⟩ := hsp
  have h3' : i ≤ 8192 := by omega
  clear h3 h4 h2 hf
  go_enter Try.func24, Try.ntmps24
  go_wp2_with fail
  refine (span_any H.out i j).mono ?_
  rintro e w7 ⟨rfl, rfl⟩
  rw [HS.out]
  go_wp2_with fail
  refine (part_any H.out i j h1 h3' hW).mono ?_
  rintro e w1 ⟨v1, u1, rfl, htwo, bel⟩
  obtain ⟨A, c, rfl, hlc, hC⟩ := Kd.R_reads htwo.a
  have hmax := Kd.C_max hC
  have HT := Lib.hid htwo
  have HB := Lib.hid bel
  have HD := Lib.hid (H.out.below bel)
  have HX := Lib.hid (show ∀ x ∈ inF i j W, x ∈ W from fun x hx => (List.mem_filter.1 hx).1)
  have HLT := Lib.hid (fs_lt H.out)
  have HY := Lib.hid (show ∀ x ∈ outF i j W, x ∈ W from fun x hx => (List.mem_filter.1 hx).1)
  clear htwo bel hC h1 h3' hW
  generalize hX : inF i j W = X at *
  generalize hY : outF i j W = Y at *
  have EX := Lib.hid hX; have EY := Lib.hid hY; clear hX hY
  go_wp2_with fail
  go_loopw [29] (fun q wr => ∃ k : Nat, k ≤ X.length ∧ q = .int .i64 k ∧ DS B g o v (setF L (X.take k)) W wr ∧ Two w.heap.size (.slice A X.length c) u1 X Y wr ∧ Fr (FS g o v) w wr) (fun q _ => X.length - (intOf q).toNat)
  case atStart => exact ⟨0, by omega, rfl, HD.out, HT.out, Fr.of_below HB.out⟩
  case round =>
    obtain ⟨k, hk, rfl, hds, htw, hfr⟩ := hrel
    have D := Lib.hid hds; clear hds
    have T := Lib.hid htw; clear htw
    have F := Lib.hid hfr; clear hfr
    by_cases hlt : k < X.length
    · have q1 : (0 : Int) ≤ (k : Int) := Int.natCast_nonneg _
      have q2 : (k : Int) < (X.length : Int) := by omega
      obtain ⟨_, _, hC⟩ := Kd.R_reads' T.out.a
      obtain ⟨ad, rfl, h6, hR, hsp⟩ := at65 hC k hlt
      clear hC
      obtain ⟨b, off, sp⟩ := ad
      subst hsp
      have hx0 := H.out.w64 (X.getD k z79) (HX.out _ (by rw [List.getD_eq_getElem?_getD, List.getElem?_eq_getElem hlt]; exact List.getElem_mem hlt))
      have HN := Lib.hid (setF_take (L := L) hlt)
      have HR := Lib.hid hR; clear hR
      have H6 := Lib.hid h6; clear h6
      generalize X.getD k z79 = x at *
      obtain ⟨at_, hat⟩ := Int.eq_ofNat_of_zero_le hx0.2.1
      have hlen := setF_len (X.take k) L
      generalize setF L (X.take k) = M at *
      have hxM : at_ < M.length := by have := hx0.2.2; omega
      have p1 : (0 : Int) ≤ (at_ : Int) := Int.natCast_nonneg _
      have p2 : (at_ : Int) < (M.length : Int) := by omega
      have HM := Lib.hid hlen; clear hlen
      obtain ⟨f0, f1⟩ := x
      simp only at hat
      subst hat
      clear hx0
      have BBox : Below wr.heap.size wr (wr.alloc (.cells (wc ⟨(at_ : Int), f1⟩).toArray 62)) := (Below.refl _ _).alloc (Nat.le_refl _) _
      have kb := box65_at wr ⟨(at_ : Int), f1⟩
      have KR := Lib.hid (box65_range wr ⟨(at_ : Int), f1⟩)
      have D1 := Lib.hid (D.out.below BBox)
      have T1 := Lib.hid (T.out.below BBox)
      have F1 := Lib.hid (F.out.below BBox)
      have gx := (blk_cell D1.out.blk 0).trans rfl
      clear BBox
      go_upto_region 9 with (first | (refine wpList_load65 rfl (.tmp 31) rfl b (off + k * 65) ⟨(at_ : Int), f1⟩ rfl HR.out H6.out ?_) | (refine wpList_box65 rfl rfl rfl 10 (.tmp 32) rfl rfl rfl ⟨(at_ : Int), f1⟩ rfl rfl H6.out ?_))
      generalize wr.alloc (.cells (wc ⟨(at_ : Int), f1⟩).toArray 62) = W1 at *
      refine wp_region_still_tail 8 (by kernel_rfl) (by kernel_rfl) ?_
      simp only [List.take_succ_cons, List.take_zero, List.drop_succ_cons, List.drop_zero]
      still_step
      still_step
      still_step
      still_step
      still_step
      still_step
      still_step
      refine wpStill_val (by rfl) (exec_load63 (.tmp 39) rfl wr.heap.size 1 f1 rfl KR.out H6.out) ?_
      refine wpStill_nil ?_
      change wpList _ _ _ _ _ W1.drew
      have T64 := Lib.hid (D1.out.drew.there at_ hxM)
      go_wp2_with (refine wpList_store63 rfl (.tmp 41) (.tmp 40) rfl rfl o (at_ * 64) f1 rfl rfl T64.out H6.out ?_)
      go_roundw
      case rel =>
        refine ⟨k + 1, by omega, by go_num, ?_, T1.out.fr ((Fr.refl (FS g o v) W1).drew.cells o _ _ (Or.inl (Or.inr (Or.inl rfl)))) (fun q hq hS => by have := HLT.out q hS; omega), F1.out.drew.cells o _ _ (Or.inl (Or.inr (Or.inl rfl)))⟩
        rw [HN.out]
        exact D1.out.drew.put at_ hxM f1 H6.out
      case measure => simp [intOf]; omega
    · obtain rfl : k = X.length := by omega
      rw [List.take_length] at D
      clear hlt hk
      have c0 := (blk_cell D.out.blk 0).trans rfl
      have c1 := (blk_cell D.out.blk 1).trans rfl
      have f1 := blk_free D.out.blk 1
      obtain ⟨A2, c2, e2⟩ := Kd.R_slice T.out.b
      generalize hn2 : Y.length = n2 at e2
      subst e2
      go_wp2
      go_ret
      have ex := EX.out
      have ey := EY.out
      subst ex ey
      refine ⟨rfl, .slice A2 n2 c2, ⟨?_, ?_, ?_, D.out.log, D.out.loo, D.out.ne, D.out.l64, ?_, D.out.few⟩, ?_, ?_⟩
      · exact (heap_set D.out.blk (i := 1) _).trans rfl
      · exact (heap_far _ _ _ D.out.ne).trans D.out.lie
      · have hR : Kd.R k65 62 wr w.heap.size (fun q => q ≠ g ∧ q ≠ o) (.slice A2 n2 c2) (outF i j W) := Kd.R_mono (Kd.R_bound T.out.b) (fun q hq => ⟨fun e => by have := HLT.out g (Or.inl rfl); have := hq.2.1; omega, fun e => by have := HLT.out o (Or.inr (Or.inl rfl)); have := hq.2.1; omega⟩)
        exact Kd.R_far (Kd.R_lower hR (by have := H.out.log; have := HLT.out g (Or.inl rfl); omega)) (fun q hq => hq.1) _
      · intro x hx
        rw [setF_len]
        exact H.out.w64 x (HY.out x hx)
      · exact F.out.set _ _ (Or.inl (Or.inl rfl))
      · intro q hq
        exact Or.inr (Kd.R_base T.out.b q hq)
end Go.Proofs.Ytekcidfipdjfdaa.Own
