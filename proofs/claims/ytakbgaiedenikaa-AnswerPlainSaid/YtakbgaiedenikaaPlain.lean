/- AnswerPlain, by hand. -/
import Derived.Test.YtakbgaiedenikaaDecB
import Derived.Test.YtakbgaiedenikaaSame35
import Derived.Deep.MidRow
namespace Go.Proofs.Ytakbgaiedenikaa.Rd
open Go.RowKit Go.Proofs.YtakbgaiedenikaaW.PrintWords Go.Proofs.Ytakbgaiedenikaa.PB
set_option maxRecDepth 100000
set_option linter.unusedSimpArgs false
set_option linter.unusedVariables false
structure SP (g o : Nat) (i k c : Nat) (cs : Array Value) (w : World) : Prop where
  h : w.heap[g]? = some (.cells #[.int .i64 (i : Int), .int .i64 (k : Int), .int .i64 (c : Int), .int .i64 0, .int .i64 0, .slice none 0 0, .slice none 0 0, .slice none 0 0] 27 (0, 0))
  o : w.heap[o]? = some (.cells cs 50 (0, 0))
theorem SP.below {g o i k c : Nat} {cs : Array Value} {w w1 : World} (h : SP g o i k c cs w) (hb : Below w.heap.size w w1) : SP g o i k c cs w1 := ⟨Own.blk_below h.h hb, Own.blk_below h.o hb⟩
theorem SP.drew {g o i k c : Nat} {cs : Array Value} {w : World} (h : SP g o i k c cs w) : SP g o i k c cs w.drew := ⟨h.h, h.o⟩
theorem info50 : (Try.prog.info? 50).map (·.size) = some 20 := by kernel_rfl
theorem range50 {w : World} {b : Nat} {cs : Array Value} {t : TypeId} {fr : Nat × Nat} (h : w.heap[b]? = some (.cells cs t fr)) : w.rangeAt b 0 cs.toList := by
  intro j v hj
  rw [Nat.zero_add, Own.blk_cell h j]
  simpa using hj
section
variable {ops : Array Oper} {rest : List Oper} {o : Oper} {a : Act} {w : World} {Q : Exit → Act → World → Prop}
theorem wpList_load50 (hw : Region.wanted o (yielded ops a.tmps) = true) (x : Operand) (ho : o.op = .load 50 x) (b : Nat) (hx : a.eval x = .pointer (some ⟨b, 0, none⟩)) (cs : Array Value) (hs : cs.size = 20)
    (hr : w.rangeAt b 0 cs.toList) (h : wpList Try.prog ops Q rest (a.put o.dst (.agg cs)) w) : wpList Try.prog ops Q (o :: rest) a w :=
  wpList_step fun K hK => by
    rw [if_pos hw]
    refine wp_load_mid 50 x ho b 0 hx cs.toList _ hr Try.underlying50 rfl (by rw [info50]; simp [hs]) ?_
    rw [Array.toArray_toList]
    exact hK _ _ h
end
set_option maxHeartbeats 1000000 in
theorem plainlaw_bad (cs ds : Array Value) (id kd cd : Int) (w : World) (h0 : cs[0]? = some (.int .i64 id)) (h1 : cs[1]? = some (.int .i64 kd)) (hor : ¬ ((0 ≤ id ∧ id ≤ 65535) ∧ (0 ≤ kd ∧ kd ≤ 255) ∧ 0 ≤ cd ∧ cd ≤ 255)) :
    Calls Try.prog 5 #[.agg cs, .agg ds, .int .i64 cd] w fun e w' => e = .returned (.bool true) ∧ Below w.heap.size w w' := by
  have hor : id < 0 ∨ (¬ id < 0 ∧ 65535 < id) ∨ (¬ id < 0 ∧ ¬ 65535 < id ∧ kd < 0) ∨ (¬ id < 0 ∧ ¬ 65535 < id ∧ ¬ kd < 0 ∧ 255 < kd) ∨ (¬ id < 0 ∧ ¬ 65535 < id ∧ ¬ kd < 0 ∧ ¬ 255 < kd ∧ cd < 0) ∨ (¬ id < 0 ∧ ¬ 65535 < id ∧ ¬ kd < 0 ∧ ¬ 255 < kd ∧ ¬ cd < 0 ∧ 255 < cd) := by omega
  have e1 := Own.heap_new w (.cells cs 50)
  have b1 : Below w.heap.size w (w.alloc (.cells cs 50)) := (Below.refl _ _).alloc (Nat.le_refl _) _
  have b2 : Below (w.alloc (.cells cs 50)).heap.size (w.alloc (.cells cs 50)) ((w.alloc (.cells cs 50)).alloc (.cells ds 50)) := (Below.refl _ _).alloc (Nat.le_refl _) _
  have e12 := Own.blk_below e1 b2
  have bel := b1.trans (b2.mono b1.size)
  have BEL := Lib.hid bel
  go_enter Try.func5, Try.ntmps5
  go_upto_region 1 with (fail)
  change Code.wp _ _ _ _ ((w.alloc (.cells cs 50)).alloc (.cells ds 50))
  generalize (w.alloc (.cells cs 50)).alloc (.cells ds 50) = W2 at *
  have q0 := (Own.blk_cell e12 0).trans h0
  have q1 := (Own.blk_cell e12 1).trans h1
  clear e1 b1 b2 e12 bel h0 h1
  rcases hor with c1 | ⟨c1, c2⟩ | ⟨c1, c2, c3⟩ | ⟨c1, c2, c3, c4⟩ | ⟨c1, c2, c3, c4, c5⟩ | ⟨c1, c2, c3, c4, c5, c6⟩
  all_goals
    go_wp2_with fail
    refine (plain_true W2).mono ?_
    rintro e w5 ⟨rfl, b5⟩
    have B5 := Lib.hid (BEL.out.trans (b5.mono BEL.out.size)); clear b5
    go_wp2
    go_ret
    exact ⟨rfl, B5.out⟩
set_option maxHeartbeats 1000000 in
theorem plainlaw_good (cs ds : Array Value) (i k c : Nat) (w : World) (hcs : cs.size = 20) (hds : ds.size = 20) (h0 : cs[0]? = some (.int .i64 (i : Int))) (h1 : cs[1]? = some (.int .i64 (k : Int))) (hi : i ≤ 65535) (hk : k ≤ 255) (hc : c ≤ 255) :
    Calls Try.prog 5 #[.agg cs, .agg ds, .int .i64 (c : Int)] w fun e w' => e = .returned (.bool true) ∧ Below w.heap.size w w' := by
    have c1 : ¬ (i : Int) < 0 := by omega
    have c2 : ¬ (65535 : Int) < (i : Int) := by omega
    have c3 : ¬ (k : Int) < 0 := by omega
    have c4 : ¬ (255 : Int) < (k : Int) := by omega
    have c5 : ¬ (c : Int) < 0 := by omega
    have c6 : ¬ (255 : Int) < (c : Int) := by omega
    have H0 := Lib.hid h0; have H1 := Lib.hid h1
    have e1 := Own.heap_new w (.cells cs 50)
    have b1 : Below w.heap.size w (w.alloc (.cells cs 50)) := (Below.refl _ _).alloc (Nat.le_refl _) _
    have s1 : (w.alloc (.cells cs 50)).heap.size = w.heap.size + 1 := by simp
    have e2 := Own.heap_new (w.alloc (.cells cs 50)) (.cells ds 50)
    rw [s1] at e2
    have b2 : Below (w.alloc (.cells cs 50)).heap.size (w.alloc (.cells cs 50)) ((w.alloc (.cells cs 50)).alloc (.cells ds 50)) := (Below.refl _ _).alloc (Nat.le_refl _) _
    have e12 := Own.blk_below e1 b2
    have bel := b1.trans (b2.mono b1.size)
    go_enter Try.func5, Try.ntmps5
    go_upto_region 1 with (fail)
    change Code.wp _ _ _ _ ((w.alloc (.cells cs 50)).alloc (.cells ds 50))
    generalize (w.alloc (.cells cs 50)).alloc (.cells ds 50) = W2 at *
    have q0 := (Own.blk_cell e12 0).trans h0
    have q1 := (Own.blk_cell e12 1).trans h1
    have r0 := (Own.blk_cell e2 0).trans (Array.getElem?_eq_getElem (show 0 < ds.size by omega))
    have r1 := (Own.blk_cell e2 1).trans (Array.getElem?_eq_getElem (show 1 < ds.size by omega))
    have f0 := Own.blk_free e2 0
    have f1 := Own.blk_free e2 1
    generalize ds[0] = d0 at r0
    generalize ds[1] = d1 at r1
    have X1 := Lib.hid e12; have X2 := Lib.hid e2; have BEL := Lib.hid bel
    have HCS := Lib.hid hcs; have HDS := Lib.hid hds
    clear e1 b1 b2 e12 bel e2 s1 h0 h1 hcs hds
    go_upto_region 5 with (fail)
    have y1 := (Own.heap_far _ ⟨w.heap.size + 1, 1, none⟩ (.int .i64 (k : Int)) (k := w.heap.size) (by simp)).trans ((Own.heap_far W2 ⟨w.heap.size + 1, 0, none⟩ (.int .i64 (i : Int)) (k := w.heap.size) (by simp)).trans X1.out)
    have y2 := Own.heap_set (Own.heap_set X2.out (i := 0) (.int .i64 (i : Int))) (i := 1) (.int .i64 (k : Int))
    have yb := (BEL.out.setCell (p := ⟨w.heap.size + 1, 0, none⟩) (by simp) (.int .i64 (i : Int))).setCell (p := ⟨w.heap.size + 1, 1, none⟩) (by simp) (.int .i64 (k : Int))
    clear q0 q1 r0 r1 f0 f1 X1 X2 BEL c1 c2 c3 c4 c5 c6
    generalize (W2.setCell ⟨w.heap.size + 1, 0, none⟩ (.int .i64 (i : Int))).setCell ⟨w.heap.size + 1, 1, none⟩ (.int .i64 (k : Int)) = W3 at *
    obtain ⟨es, hes⟩ : ∃ es, es = (ds.setIfInBounds 0 (.int .i64 (i : Int))).setIfInBounds 1 (.int .i64 (k : Int)) := ⟨_, rfl⟩
    rw [← hes] at y2
    have g0 : es[0]? = some (.int .i64 (i : Int)) := by rw [hes]; simp [HDS.out]
    have g1 : es[1]? = some (.int .i64 (k : Int)) := by rw [hes]; simp [HDS.out]
    have g2 : es.size = 20 := by rw [hes]; simp [HDS.out]
    have G0 := Lib.hid g0; have G1 := Lib.hid g1; have G2 := Lib.hid g2
    have Y1 := Lib.hid y1; have Y2 := Lib.hid y2; have YB := Lib.hid yb
    clear y1 y2 yb hes g0 g1 g2 HDS
    refine wp_region_lit ?_
    refine wpList_load50 (by rfl) (.tmp 3) rfl w.heap.size rfl cs HCS.out (range50 Y1.out) ?_
    (try simp only [Act.put, List.setIfInBounds_toArray, List.set_cons_zero, List.set_cons_succ])
    go_wp2_with fail
    refine (plain_any cs (i : Int) (k : Int) (c : Int) W3 H0.out H1.out).mono ?_
    rintro e w4 ⟨rfl, b4⟩
    have Y14 := Lib.hid (Own.blk_below Y1.out b4); have Y24 := Lib.hid (Own.blk_below Y2.out b4); have B4 := Lib.hid (YB.out.trans (b4.mono YB.out.size))
    clear b4 Y1 Y2 YB
    go_upto_region 6 with (fail)
    have e5 := Own.heap_new w4 (.cells #[.int .i64 (i : Int), .int .i64 (k : Int), .int .i64 (c : Int), .int .i64 0, .int .i64 0, .slice none 0 0, .slice none 0 0, .slice none 0 0] 27)
    have b5 : Below w4.heap.size w4 (w4.alloc (.cells #[.int .i64 (i : Int), .int .i64 (k : Int), .int .i64 (c : Int), .int .i64 0, .int .i64 0, .slice none 0 0, .slice none 0 0, .slice none 0 0] 27)) := (Below.refl _ _).alloc (Nat.le_refl _) _
    have Y15 := Lib.hid (Own.blk_below Y14.out b5); have Y25 := Lib.hid (Own.blk_below Y24.out b5); have B5 := Lib.hid (B4.out.trans (b5.mono B4.out.size))
    clear Y14 Y24 B4 b5
    generalize w4.alloc _ = W5 at *
    generalize w4.heap.size = gx at *
    have E5 := Lib.hid e5
    obtain ⟨q0, q1, q2, q3, q4, q5, q6, q7⟩ := ocells e5
    clear e5
    go_wp2_with fail
    refine (encode_pl i k c W5 hi hk hc).mono ?_
    rintro e w6 ⟨rfl, b6⟩
    have Y16 := Lib.hid (Own.blk_below Y15.out b6); have Y26 := Lib.hid (Own.blk_below Y25.out b6); have B6 := Lib.hid (B5.out.trans (b6.mono B5.out.size)); have E6 := Lib.hid (Own.blk_below E5.out b6)
    clear q0 q1 q2 q3 q4 q5 q6 q7 b6 Y15 Y25 B5 E5
    go_upto_region 7 with (fail)
    refine wp_region_lit ?_
    refine wpList_load50 (by rfl) (.tmp 4) rfl (w.heap.size + 1) rfl es G2.out (range50 Y26.out) ?_
    (try simp only [Act.put, List.setIfInBounds_toArray, List.set_cons_zero, List.set_cons_succ])
    go_wp2_with fail
    refine (plain_any es (i : Int) (k : Int) (c : Int) w6 G0.out G1.out).mono ?_
    rintro e w7 ⟨rfl, b7⟩
    have Y17 := Lib.hid (Own.blk_below Y16.out b7); have B7 := Lib.hid (B6.out.trans (b7.mono B6.out.size)); have E7 := Lib.hid (Own.blk_below E6.out b7)
    clear b7 Y16 Y26 B6 E6
    go_wp2_with fail
    refine (encode_pl i k c w7 hi hk hc).mono ?_
    rintro e w8 ⟨rfl, b8⟩
    have Y18 := Lib.hid (Own.blk_below Y17.out b8); have HB := Lib.hid (B7.out.trans (b8.mono B7.out.size)).drew; have E8 := Lib.hid (Own.blk_below E7.out b8)
    clear b8 Y17 B7 E7
    generalize plS i k c = S at *
    go_upto_region 8 with (fail)
    have hSP : SP gx w.heap.size i k c cs w8.drew := ⟨E8.out, Y18.out⟩
    refine wp_region_held_drew (S := SP gx w.heap.size i k c cs) (by kernel_rfl) (hSP) (fun hHeld => ?_)
    refine wpAnyH_take (i := 0) (oi := { dst := some 60, op := Op.load 27 (Operand.tmp 7), type := 27, pos := "law.go:99", after := #[], guard := none }) (v := ?_) rfl (by kernel_rfl) (by kernel_rfl) (by kernel_rfl) (fun _ _ _ h => h) (Or.inl ⟨by rfl, ?_⟩) hHeld ?_; rotate_left 1; (intro w9 hSw; obtain ⟨h9, o9⟩ := hSw; obtain ⟨q0, q1, q2, q3, q4, q5, q6, q7⟩ := ocells h9; go_simp; first | done | with_reducible rfl); (try simp only [Act.put, List.setIfInBounds_toArray, List.set_cons_zero, List.set_cons_succ])
    refine wpAnyH_take (i := 2) (oi := { dst := some 62, op := Op.fieldAddr 50 (Operand.tmp 3) 0, type := 0, pos := "law.go:99", after := #[], guard := none }) (v := ?_) rfl (by kernel_rfl) (by kernel_rfl) (by kernel_rfl) (fun _ _ _ h => h) (Or.inl ⟨by rfl, ?_⟩) hHeld ?_; rotate_left 1; (intro w9 hSw; obtain ⟨h9, o9⟩ := hSw; go_simp; first | done | with_reducible rfl); (try simp only [Act.put, List.setIfInBounds_toArray, List.set_cons_zero, List.set_cons_succ])
    refine wpAnyH_take (i := 3) (oi := { dst := some 63, op := Op.load 3 (Operand.tmp 62), type := 3, pos := "law.go:99", after := #[{ on := 2, ground := Ground.data }], guard := none }) (v := ?_) rfl (by kernel_rfl) (by kernel_rfl) (by kernel_rfl) (fun _ _ _ h => h) (Or.inl ⟨by rfl, ?_⟩) hHeld ?_; rotate_left 1; (intro w9 hSw; obtain ⟨h9, o9⟩ := hSw; have q9 := (Own.blk_cell o9 0).trans H0.out; go_simp; first | done | with_reducible rfl); (try simp only [Act.put, List.setIfInBounds_toArray, List.set_cons_zero, List.set_cons_succ])
    refine wpAnyH_take (i := 4) (oi := { dst := some 64, op := Op.fieldAddr 50 (Operand.tmp 3) 1, type := 0, pos := "law.go:99", after := #[], guard := none }) (v := ?_) rfl (by kernel_rfl) (by kernel_rfl) (by kernel_rfl) (fun _ _ _ h => h) (Or.inl ⟨by rfl, ?_⟩) hHeld ?_; rotate_left 1; (intro w9 hSw; obtain ⟨h9, o9⟩ := hSw; go_simp; first | done | with_reducible rfl); (try simp only [Act.put, List.setIfInBounds_toArray, List.set_cons_zero, List.set_cons_succ])
    refine wpAnyH_take (i := 5) (oi := { dst := some 65, op := Op.load 3 (Operand.tmp 64), type := 3, pos := "law.go:99", after := #[{ on := 4, ground := Ground.data }], guard := none }) (v := ?_) rfl (by kernel_rfl) (by kernel_rfl) (by kernel_rfl) (fun _ _ _ h => h) (Or.inl ⟨by rfl, ?_⟩) hHeld ?_; rotate_left 1; (intro w9 hSw; obtain ⟨h9, o9⟩ := hSw; have q9 := (Own.blk_cell o9 1).trans H1.out; go_simp; first | done | with_reducible rfl); (try simp only [Act.put, List.setIfInBounds_toArray, List.set_cons_zero, List.set_cons_succ])
    refine wpAnyH_take (i := 6) (oi := { dst := some 66, op := Op.move (Operand.tmp 2), type := 3, pos := "law.go:99", after := #[], guard := none }) (v := ?_) rfl (by kernel_rfl) (by kernel_rfl) (by kernel_rfl) (fun _ _ _ h => h) (Or.inl ⟨by rfl, ?_⟩) hHeld ?_; rotate_left 1; (intro w9 hSw; obtain ⟨h9, o9⟩ := hSw; go_simp; first | done | with_reducible rfl); (try simp only [Act.put, List.setIfInBounds_toArray, List.set_cons_zero, List.set_cons_succ])
    refine wpAnyH_take (i := 7) (oi := { dst := some 67, op := Op.build 34 #[(0, Operand.tmp 63), (1, Operand.tmp 65), (2, Operand.tmp 66)], type := 34, pos := "law.go:99", after := #[{ on := 3, ground := Ground.data }, { on := 5, ground := Ground.data }, { on := 6, ground := Ground.data }], guard := none }) (v := ?_) rfl (by kernel_rfl) (by kernel_rfl) (by kernel_rfl) (fun _ _ _ h => h) (Or.inl ⟨by rfl, ?_⟩) hHeld ?_; rotate_left 1; (intro w9 hSw; obtain ⟨h9, o9⟩ := hSw; go_simp; first | done | with_reducible rfl); (try simp only [Act.put, List.setIfInBounds_toArray, List.set_cons_zero, List.set_cons_succ])
    refine wpAnyH_ready (rs := [1]) (by kernel_rfl) (by simp) ?_; refine AllReadyH.cons (o := { dst := some 61, op := Op.call { callee := Callee.value (Operand.func 11), args := #[Operand.tmp 60], argTypes := #[27] }, type := 34, pos := "law.go:99", after := #[{ on := 0, ground := Ground.data }], guard := none }) rfl (fun K hK => ?_) AllReadyH.nil; go_simp; refine (Sa.ref_any _ _ _ _ _ _ _ _ _ _ _ _ _ _ _).mono ?_; rintro e w4 ⟨rfl, bel⟩; have HB := Lib.hid (HB.out.trans (bel.mono HB.out.size)); (try go_wp2_with fail); refine hK.out _ _ (hHeld.below bel) (fun hHeld => ?_); clear hK; (try simp only [Act.put, List.setIfInBounds_toArray, List.set_cons_zero, List.set_cons_succ])
    refine wpAnyH_ready (rs := [8]) (by kernel_rfl) (by simp) ?_; refine AllReadyH.cons (o := { dst := some 68, op := Op.call { callee := Callee.value (Operand.func 16), args := #[Operand.tmp 61, Operand.tmp 67], argTypes := #[34, 34] }, type := 4, pos := "law.go:99", after := #[{ on := 1, ground := Ground.data }, { on := 7, ground := Ground.data }, { on := 1, ground := Ground.chain }], guard := none }) rfl (fun K hK => ?_) AllReadyH.nil; go_simp; refine (Sa.same35 (i : Int) (k : Int) (c : Int) 0 0 [] [] [] none 0 none 0 none 0 none 0 none 0 none 0 _ (C_none _ _) (C_none _ _) (C_none _ _) (C_none _ _) (C_none _ _) (C_none _ _) (by decide) (by decide)).mono ?_; rintro e w4 ⟨rfl, bel⟩; have HB := Lib.hid (HB.out.trans (bel.mono HB.out.size)); (try go_wp2_with fail); refine hK.out _ _ (hHeld.below bel) (fun hHeld => ?_); clear hK; (try simp only [Act.put, List.setIfInBounds_toArray, List.set_cons_zero, List.set_cons_succ])
    refine wpAnyH_take (i := 9) (oi := { dst := some 69, op := Op.move (Operand.tmp 68), type := 4, pos := "law.go:99", after := #[{ on := 8, ground := Ground.data }, { on := 8, ground := Ground.chain }], guard := none }) (v := ?_) rfl (by kernel_rfl) (by kernel_rfl) (by kernel_rfl) (fun _ _ _ h => h) (Or.inl ⟨by rfl, ?_⟩) hHeld ?_; rotate_left 1; (intro w9 hSw; obtain ⟨h9, o9⟩ := hSw; go_simp; first | done | with_reducible rfl); (try simp only [Act.put, List.setIfInBounds_toArray, List.set_cons_zero, List.set_cons_succ])
    refine wpAnyH_take (i := 10) (oi := { dst := some 70, op := Op.move (Operand.tmp 9), type := 22, pos := "law.go:99", after := #[{ on := 9, ground := Ground.guard }], guard := some (9, true) }) (v := ?_) rfl (by kernel_rfl) (by kernel_rfl) (by kernel_rfl) (fun _ _ _ h => h) (Or.inl ⟨by rfl, ?_⟩) hHeld ?_; rotate_left 1; (intro w9 hSw; obtain ⟨h9, o9⟩ := hSw; go_simp; first | done | with_reducible rfl); (try simp only [Act.put, List.setIfInBounds_toArray, List.set_cons_zero, List.set_cons_succ])
    refine wpAnyH_take (i := 11) (oi := { dst := some 71, op := Op.binOp BinOp.eql 22 (Operand.tmp 70) (Operand.const (Value.int IntKind.i64 0)) 22, type := 4, pos := "law.go:99", after := #[{ on := 10, ground := Ground.data }, { on := 9, ground := Ground.guard }], guard := some (9, true) }) (v := ?_) rfl (by kernel_rfl) (by kernel_rfl) (by kernel_rfl) (fun _ _ _ h => h) (Or.inl ⟨by rfl, ?_⟩) hHeld ?_; rotate_left 1; (intro w9 hSw; obtain ⟨h9, o9⟩ := hSw; go_simp; first | done | with_reducible rfl); (try simp only [Act.put, List.setIfInBounds_toArray, List.set_cons_zero, List.set_cons_succ])
    refine wpAnyH_take (i := 12) (oi := { dst := some 72, op := Op.pick (Operand.tmp 69) (Operand.tmp 71) (Operand.const (Value.bool false)), type := 4, pos := "law.go:99", after := #[{ on := 9, ground := Ground.data }, { on := 11, ground := Ground.data }], guard := none }) (v := ?_) rfl (by kernel_rfl) (by kernel_rfl) (by kernel_rfl) (fun _ _ _ h => h) (Or.inl ⟨by rfl, ?_⟩) hHeld ?_; rotate_left 1; (intro w9 hSw; obtain ⟨h9, o9⟩ := hSw; go_simp; first | done | with_reducible rfl); (try simp only [Act.put, List.setIfInBounds_toArray, List.set_cons_zero, List.set_cons_succ])
    refine wpAnyH_take (i := 13) (oi := { dst := some 73, op := Op.move (Operand.tmp 72), type := 4, pos := "law.go:99", after := #[{ on := 12, ground := Ground.data }, { on := 9, ground := Ground.chain }], guard := none }) (v := ?_) rfl (by kernel_rfl) (by kernel_rfl) (by kernel_rfl) (fun _ _ _ h => h) (Or.inl ⟨by rfl, ?_⟩) hHeld ?_; rotate_left 1; (intro w9 hSw; obtain ⟨h9, o9⟩ := hSw; go_simp; first | done | with_reducible rfl); (try simp only [Act.put, List.setIfInBounds_toArray, List.set_cons_zero, List.set_cons_succ])
    refine wpAnyH_take (i := 14) (oi := { dst := some 74, op := Op.move (Operand.tmp 11), type := 22, pos := "law.go:99", after := #[{ on := 13, ground := Ground.guard }], guard := some (13, true) }) (v := ?_) rfl (by kernel_rfl) (by kernel_rfl) (by kernel_rfl) (fun _ _ _ h => h) (Or.inl ⟨by rfl, ?_⟩) hHeld ?_; rotate_left 1; (intro w9 hSw; obtain ⟨h9, o9⟩ := hSw; go_simp; first | done | with_reducible rfl); (try simp only [Act.put, List.setIfInBounds_toArray, List.set_cons_zero, List.set_cons_succ])
    refine wpAnyH_take (i := 15) (oi := { dst := some 75, op := Op.binOp BinOp.eql 22 (Operand.tmp 74) (Operand.const (Value.int IntKind.i64 0)) 22, type := 4, pos := "law.go:99", after := #[{ on := 14, ground := Ground.data }, { on := 13, ground := Ground.guard }], guard := some (13, true) }) (v := ?_) rfl (by kernel_rfl) (by kernel_rfl) (by kernel_rfl) (fun _ _ _ h => h) (Or.inl ⟨by rfl, ?_⟩) hHeld ?_; rotate_left 1; (intro w9 hSw; obtain ⟨h9, o9⟩ := hSw; go_simp; first | done | with_reducible rfl); (try simp only [Act.put, List.setIfInBounds_toArray, List.set_cons_zero, List.set_cons_succ])
    refine wpAnyH_take (i := 16) (oi := { dst := some 76, op := Op.pick (Operand.tmp 73) (Operand.tmp 75) (Operand.const (Value.bool false)), type := 4, pos := "law.go:99", after := #[{ on := 13, ground := Ground.data }, { on := 15, ground := Ground.data }], guard := none }) (v := ?_) rfl (by kernel_rfl) (by kernel_rfl) (by kernel_rfl) (fun _ _ _ h => h) (Or.inl ⟨by rfl, ?_⟩) hHeld ?_; rotate_left 1; (intro w9 hSw; obtain ⟨h9, o9⟩ := hSw; go_simp; first | done | with_reducible rfl); (try simp only [Act.put, List.setIfInBounds_toArray, List.set_cons_zero, List.set_cons_succ])
    refine wpAnyH_take (i := 17) (oi := { dst := some 77, op := Op.move (Operand.tmp 76), type := 4, pos := "law.go:99", after := #[{ on := 16, ground := Ground.data }, { on := 13, ground := Ground.chain }], guard := none }) (v := ?_) rfl (by kernel_rfl) (by kernel_rfl) (by kernel_rfl) (fun _ _ _ h => h) (Or.inl ⟨by rfl, ?_⟩) hHeld ?_; rotate_left 1; (intro w9 hSw; obtain ⟨h9, o9⟩ := hSw; go_simp; first | done | with_reducible rfl); (try simp only [Act.put, List.setIfInBounds_toArray, List.set_cons_zero, List.set_cons_succ])
    refine wpAnyH_take (i := 18) (oi := { dst := some 78, op := Op.move (Operand.tmp 8), type := 9, pos := "law.go:99", after := #[{ on := 17, ground := Ground.guard }], guard := some (17, true) }) (v := ?_) rfl (by kernel_rfl) (by kernel_rfl) (by kernel_rfl) (fun _ _ _ h => h) (Or.inl ⟨by rfl, ?_⟩) hHeld ?_; rotate_left 1; (intro w9 hSw; obtain ⟨h9, o9⟩ := hSw; go_simp; first | done | with_reducible rfl); (try simp only [Act.put, List.setIfInBounds_toArray, List.set_cons_zero, List.set_cons_succ])
    refine wpAnyH_take (i := 19) (oi := { dst := some 79, op := Op.move (Operand.tmp 10), type := 9, pos := "law.go:99", after := #[{ on := 17, ground := Ground.guard }], guard := some (17, true) }) (v := ?_) rfl (by kernel_rfl) (by kernel_rfl) (by kernel_rfl) (fun _ _ _ h => h) (Or.inl ⟨by rfl, ?_⟩) hHeld ?_; rotate_left 1; (intro w9 hSw; obtain ⟨h9, o9⟩ := hSw; go_simp; first | done | with_reducible rfl); (try simp only [Act.put, List.setIfInBounds_toArray, List.set_cons_zero, List.set_cons_succ])
    refine wpAnyH_take (i := 20) (oi := { dst := some 80, op := Op.binOp BinOp.eql 9 (Operand.tmp 78) (Operand.tmp 79) 9, type := 4, pos := "law.go:99", after := #[{ on := 18, ground := Ground.data }, { on := 19, ground := Ground.data }, { on := 17, ground := Ground.guard }], guard := some (17, true) }) (v := ?_) rfl (by kernel_rfl) (by kernel_rfl) (by kernel_rfl) (fun _ _ _ h => h) (Or.inl ⟨by rfl, ?_⟩) hHeld ?_; rotate_left 1; (intro w9 hSw; obtain ⟨h9, o9⟩ := hSw; go_simp; first | done | with_reducible rfl); (try simp only [Act.put, List.setIfInBounds_toArray, List.set_cons_zero, List.set_cons_succ])
    refine wpAnyH_take (i := 21) (oi := { dst := some 81, op := Op.pick (Operand.tmp 77) (Operand.tmp 80) (Operand.const (Value.bool false)), type := 4, pos := "law.go:99", after := #[{ on := 17, ground := Ground.data }, { on := 20, ground := Ground.data }], guard := none }) (v := ?_) rfl (by kernel_rfl) (by kernel_rfl) (by kernel_rfl) (fun _ _ _ h => h) (Or.inl ⟨by rfl, ?_⟩) hHeld ?_; rotate_left 1; (intro w9 hSw; obtain ⟨h9, o9⟩ := hSw; go_simp; first | done | with_reducible rfl); (try simp only [Act.put, List.setIfInBounds_toArray, List.set_cons_zero, List.set_cons_succ])
    refine wpAnyH_take (i := 22) (oi := { dst := some 82, op := Op.move (Operand.tmp 81), type := 4, pos := "law.go:99", after := #[{ on := 21, ground := Ground.data }, { on := 17, ground := Ground.chain }], guard := none }) (v := ?_) rfl (by kernel_rfl) (by kernel_rfl) (by kernel_rfl) (fun _ _ _ h => h) (Or.inl ⟨by rfl, ?_⟩) hHeld ?_; rotate_left 1; (intro w9 hSw; obtain ⟨h9, o9⟩ := hSw; go_simp; first | done | with_reducible rfl); (try simp only [Act.put, List.setIfInBounds_toArray, List.set_cons_zero, List.set_cons_succ])
    refine wpAnyH_ready (rs := [23]) (by kernel_rfl) (by simp) ?_; refine AllReadyH.cons (o := { dst := some 83, op := Op.call { callee := Callee.value (Operand.func 8), args := #[], argTypes := #[] }, type := 4, pos := "law.go:99", after := #[{ on := 22, ground := Ground.chain }, { on := 22, ground := Ground.guard }], guard := some (22, true) }) rfl (fun K hK => ?_) AllReadyH.nil; go_simp; refine (plain_true _).mono ?_; rintro e w4 ⟨rfl, bel⟩; have HB := Lib.hid (HB.out.trans (bel.mono HB.out.size)); (try go_wp2_with fail); refine hK.out _ _ (hHeld.below bel) (fun hHeld => ?_); clear hK; (try simp only [Act.put, List.setIfInBounds_toArray, List.set_cons_zero, List.set_cons_succ])
    refine wpAnyH_take (i := 24) (oi := { dst := some 84, op := Op.pick (Operand.tmp 82) (Operand.tmp 83) (Operand.const (Value.bool false)), type := 4, pos := "law.go:99", after := #[{ on := 22, ground := Ground.data }, { on := 23, ground := Ground.data }], guard := none }) (v := ?_) rfl (by kernel_rfl) (by kernel_rfl) (by kernel_rfl) (fun _ _ _ h => h) (Or.inl ⟨by rfl, ?_⟩) hHeld ?_; rotate_left 1; (intro w9 hSw; obtain ⟨h9, o9⟩ := hSw; go_simp; first | done | with_reducible rfl); (try simp only [Act.put, List.setIfInBounds_toArray, List.set_cons_zero, List.set_cons_succ])
    refine wpAnyH_take (i := 25) (oi := { dst := some 6, op := Op.assign (Operand.tmp 84), type := 4, pos := "law.go:99", after := #[{ on := 24, ground := Ground.data }, { on := 23, ground := Ground.chain }, { on := 0, ground := Ground.phase }, { on := 1, ground := Ground.phase }, { on := 2, ground := Ground.phase }, { on := 3, ground := Ground.phase }, { on := 4, ground := Ground.phase }, { on := 5, ground := Ground.phase }, { on := 6, ground := Ground.phase }, { on := 7, ground := Ground.phase }, { on := 8, ground := Ground.phase }, { on := 9, ground := Ground.phase }, { on := 10, ground := Ground.phase }, { on := 11, ground := Ground.phase }, { on := 12, ground := Ground.phase }, { on := 13, ground := Ground.phase }, { on := 14, ground := Ground.phase }, { on := 15, ground := Ground.phase }, { on := 16, ground := Ground.phase }, { on := 17, ground := Ground.phase }, { on := 18, ground := Ground.phase }, { on := 19, ground := Ground.phase }, { on := 20, ground := Ground.phase }, { on := 21, ground := Ground.phase }, { on := 22, ground := Ground.phase }, { on := 23, ground := Ground.phase }, { on := 24, ground := Ground.phase }], guard := none }) (v := ?_) rfl (by kernel_rfl) (by kernel_rfl) (by kernel_rfl) (fun _ _ _ h => h) (Or.inl ⟨by rfl, ?_⟩) hHeld ?_; rotate_left 1; (intro w9 hSw; obtain ⟨h9, o9⟩ := hSw; go_simp; first | done | with_reducible rfl); (try simp only [Act.put, List.setIfInBounds_toArray, List.set_cons_zero, List.set_cons_succ])
    refine wpAnyH_done (by kernel_rfl) ?_ _
    go_wp2
    go_ret
    exact ⟨rfl, HB.out⟩
end Go.Proofs.Ytakbgaiedenikaa.Rd
