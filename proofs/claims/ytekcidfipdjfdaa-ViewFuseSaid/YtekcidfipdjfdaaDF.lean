/- The disk: a write that is let wait. -/
import Derived.Test.YtekcidfipdjfdaaDE
import Derived.Lib.BufferWrite
namespace Go.Proofs.Ytekcidfipdjfdaa.Own
open Go.RowKit Go.Proofs.YtekcidfipdjfdaaW.PrintWords Go.Proofs.Ytekcidfipdjfdaa.PB
set_option maxRecDepth 100000
set_option linter.unusedSimpArgs false
set_option linter.unusedVariables false
/-- The row of a disk's writes is the old one, or new. -/
def NV (v v' : Value) (w : World) : Prop := ∀ k, v'.ownBlock = some k → v.ownBlock = some k ∨ w.heap.size ≤ k
theorem NV.refl (v : Value) (w : World) : NV v v w := fun _ h => Or.inl h
theorem copy65_run (W : World) (x : S79) (t : ByteArray) (h6 : t.size = 64) (hx6 : x.f1.size = 64) (c : Nat) (ty : TypeId) :
    (Builtin.copy_ #[58, 9] ty #[.slice (some ⟨W.heap.size, 1, none⟩) 64 c, .string t]).run Try.prog (W.alloc (.cells (wc x).toArray 62)) = .ok (goInt 64) (W.alloc (.cells (wc ⟨x.f0, t⟩).toArray 62)) := by
  have h := Lib.run_copy_row_string (P := Try.prog) (W.alloc (.cells (wc x).toArray 62)) 58 9 ty 5 W.heap.size 1 64 c t (wc x).toArray 62 Try.underlying58 (by kernel_rfl) (heap_new _ _) (by omega) (by simp [wc_length hx6]; omega)
  rw [h, h6, setRow_alloc]
  congr 3
  rw [List.toList_toArray, List.drop_of_length_le (by rw [wc_length hx6]; omega), List.append_nil]
  rfl
theorem wpList_copy65 {ops : Array Oper} {rest : List Oper} {o : Oper} {a : Act} {W : World} {Q : Exit → Act → World → Prop} (hgd : o.guard = none) (d s : Operand) (ho : o.op = .call { callee := .builtin .copy, args := #[d, s], argTypes := #[58, 9] })
    (x : S79) (t : ByteArray) (h6 : t.size = 64) (hx6 : x.f1.size = 64) (c : Nat) (hd : a.eval d = .slice (some ⟨W.heap.size, 1, none⟩) 64 c) (hs : a.eval s = .string t)
    (h : wpList Try.prog ops Q rest (a.put o.dst (goInt 64)) (W.alloc (.cells (wc ⟨x.f0, t⟩).toArray 62))) : wpList Try.prog ops Q (o :: rest) a (W.alloc (.cells (wc x).toArray 62)) := by
  refine wpList_plain hgd fun K hK => ?_
  unfold Oper.wp
  simp [execOp, ho, resolve, invoke, builtin, hd, hs, copy65_run W x t h6 hx6, Result.andThen]
  exact hK _ _ h
theorem built65 (i : Int) : Try.prog.built 62 [(0, .int .i64 i)] = some (wc ⟨i, zeroB⟩).toArray := by kernel_rfl
theorem wpList_build65 {ops : Array Oper} {rest : List Oper} {o : Oper} {a : Act} {w : World} {Q : Exit → Act → World → Prop} (hg : o.guard = none) (y : Operand) (ho : o.op = .build 62 #[(0, y)]) (i : Int) (hy : a.eval y = .int .i64 i)
    (h : wpList Try.prog ops Q rest (a.put o.dst (.agg (wc ⟨i, zeroB⟩).toArray)) w) : wpList Try.prog ops Q (o :: rest) a w := by
  have e : Try.prog.built 62 ((#[(0, y)] : Array (Nat × Operand)).map fun (i, x) => (i, a.eval x)).toList = some (wc ⟨i, zeroB⟩).toArray := by
    simp only [List.map_toArray, List.map_cons, List.map_nil, hy]
    exact built65 i
  refine wpList_build hg 62 _ ho (by rw [e]; rfl) ?_
  rw [e]
  exact h
theorem slice65_run (w : World) (x : S79) (h6 : x.f1.size = 64) : (Instr.buildSlice 48 1 #[(0, .agg (wc x).toArray)]).run Try.prog w = .ok (.slice (some ⟨w.heap.size, 0, none⟩) 1 1) (w.alloc (.cells (wc x).toArray 62)) := by
  obtain ⟨i0, hi, hz0, hz1, hz2⟩ := info_parts info65z
  refine run_buildSlice w 48 62 1 _ (wc x).toArray i0 (.agg Z65) Try.underlying48 hi hz0 (by rw [hz1]; omega) (by rw [hz1]; omega) ?_
  rw [hz1]
  exact fill65 x h6 _ (by simp)
theorem load65_run (w : World) (b off : Nat) (x : S79) (h : w.rangeAt b off (wc x)) (h6 : x.f1.size = 64) : (Instr.loadAt 62 (.pointer (some ⟨b, off, none⟩))).run Try.prog w = .ok (.agg (wc x).toArray) w :=
  run_loadAt_mid w b off 62 (wc x) _ h Try.underlying62 rfl (by rw [size65, wc_length h6])
theorem cell_al {w : World} {a : Addr} {v : Value} (h : w.cell? a = some v) (o : Obj) : (w.alloc o).cell? a = some v := (World.cell?_alloc_lt _ _ _ (World.block_lt_of_cell? w _ h)).trans h
theorem range_grown {w w1 : World} {b o : Nat} {cs : List Value} {r : Option Nat} (h : w.rangeAt b o cs) (hg : w.grownBy w1 r) (hb : some b ≠ r) : w1.rangeAt b o cs := by
  intro j v hj
  have := h j v hj
  have hl := World.block_lt_of_cell? w _ this
  rw [← this]
  unfold World.cell?
  rw [hg.block b hl hb]
theorem range_set {w : World} {b o : Nat} {cs : List Value} (h : w.rangeAt b o cs) {p : Addr} (hp : p.block ≠ b) {v : Value} : (w.setCell p v).rangeAt b o cs := by
  intro j u hj
  rw [World.cell?_setCell_other _ _ _ _ (fun e => hp (by rw [e]))]
  exact h j u hj
set_option maxHeartbeats 2000000 in
theorem write_ok {B g o : Nat} {v : Value} {L : List ByteArray} {W : List S79} {w : World} (h : DS B g o v L W w) (k : Nat) (hk : k < L.length) (s : ByteArray) (hs : s.size = 64) (hW : W.length ≤ 1000000) :
    Calls Try.prog 23 #[.pointer (some ⟨g, 0, none⟩), .int .i64 (k : Int), .string s] w fun e w' => e = .returned (.int .i64 0) ∧ ∃ v', DS B g o v' L (W ++ [⟨(k : Int), s⟩]) w' ∧ Fr (FS g o v) w w' ∧ NV v v' w := by
  have hi : isB L.length (k : Int) = true := by simp [isB, hk]
  have HI := Lib.hid hi; clear hi
  have H6 := Lib.hid hs; clear hs
  have hs' : (s.size : Int) = 64 := by have := H6.out; omega
  have HW := Lib.hid hW; clear hW
  have HK := Lib.hid hk; clear hk
  go_enter Try.func23, Try.ntmps23
  go_wp2_with fail
  refine (is_any h (k : Int)).mono ?_
  rintro e w7 ⟨rfl, rfl⟩
  rw [HI.out]
  have H := Lib.hid h; clear h
  go_upto_region 9 with (first | (refine wpList_build65 rfl (.tmp 20) rfl (k : Int) rfl ?_) | (refine wpList_box65 rfl rfl rfl 7 (.tmp 21) rfl rfl rfl ⟨(k : Int), zeroB⟩ rfl rfl zeroB_size ?_) | (refine wpList_copy65 rfl (.tmp 23) (.tmp 24) rfl ⟨(k : Int), zeroB⟩ s H6.out zeroB_size 64 rfl rfl ?_))
  have BBox : Below w.heap.size w (w.alloc (.cells (wc ⟨(k : Int), s⟩).toArray 62)) := (Below.refl _ _).alloc (Nat.le_refl _) _
  have hD := H.out.below BBox
  have HX := Lib.hid (box65_whole w ⟨(k : Int), s⟩)
  have HF2 := Lib.hid (Fr.of_below (S := FS g o v) BBox)
  have hgl := blk_lt hD.blk
  have hol := blk_lt hD.lie
  have hlow : ∀ q, v.ownBlock = some q → q < w.heap.size := Kd.R_lt H.out.row
  have hsz : w.heap.size < (w.alloc (.cells (wc ⟨(k : Int), s⟩).toArray 62)).heap.size := by simp
  have HNx := Lib.hid (show some w.heap.size ≠ v.ownBlock from fun e => by have := hlow _ e.symm; omega)
  have HNg := Lib.hid (show some g ≠ v.ownBlock from fun e => (hD.row.1 g e.symm).1 rfl)
  have hBl : B ≤ (w.alloc (.cells (wc ⟨(k : Int), s⟩).toArray 62)).heap.size := by have := hD.log; omega
  have hgx : ¬ w.heap.size = g := by have := blk_lt H.out.blk; omega
  generalize hWB : w.alloc (.cells (wc ⟨(k : Int), s⟩).toArray 62) = WB at *
  clear hWB
  have HF := Lib.hid (show ∀ q, WB.heap.size ≤ q → q ≠ g ∧ q ≠ o from fun q hq => ⟨by omega, by omega⟩)
  have HG := Lib.hid (show WB.cell? ⟨g, 1, none⟩ = some v from (blk_cell hD.blk 1).trans rfl)
  have HGX := Lib.hid (show g ≠ w.heap.size from fun e => hgx e.symm)
  have HGl := Lib.hid hgl; have HOl := Lib.hid hol; have HBl := Lib.hid hBl; have HSZ := Lib.hid hsz
  have BB := Lib.hid (show Below B w WB from BBox.mono (by have := blk_lt H.out.blk; have := H.out.log; omega))
  have HD := Lib.hid hD; clear hD hgl hol hBl hsz BBox hlow hs'
  have g1 := HG.out
  have g2 := cell_al (w := WB) HG.out (.cells (wc ⟨(k : Int), s⟩).toArray 62)
  refine wp_region_held_drew (S := fun w' => w'.rangeAt w.heap.size 0 (wc ⟨(k : Int), s⟩)) (by kernel_rfl) (HX.out) (fun hHeld => ?_)
  refine wpAnyH_take (i := 0) (oi := { dst := some 26, op := Op.move (Operand.tmp 0), type := 25, pos := "disk.go:60", after := #[], guard := none }) (v := ?_) rfl (by kernel_rfl) (by kernel_rfl) (by kernel_rfl) (fun _ _ _ h => h) (Or.inl ⟨by rfl, ?_⟩) hHeld ?_; rotate_left 1; (intro w9 hSw; obtain _ := hSw; go_simp; first | done | with_reducible rfl); (try simp only [Act.put, List.setIfInBounds_toArray, List.set_cons_zero, List.set_cons_succ])
  refine wpAnyH_take (i := 1) (oi := { dst := some 27, op := Op.move (Operand.tmp 0), type := 25, pos := "disk.go:60", after := #[], guard := none }) (v := ?_) rfl (by kernel_rfl) (by kernel_rfl) (by kernel_rfl) (fun _ _ _ h => h) (Or.inl ⟨by rfl, ?_⟩) hHeld ?_; rotate_left 1; (intro w9 hSw; obtain _ := hSw; go_simp; first | done | with_reducible rfl); (try simp only [Act.put, List.setIfInBounds_toArray, List.set_cons_zero, List.set_cons_succ])
  refine wpAnyH_take (i := 2) (oi := { dst := some 28, op := Op.nilCheck (Operand.tmp 27), type := 0, pos := "disk.go:60", after := #[{ on := 1, ground := Ground.data }], guard := none }) (v := ?_) rfl (by kernel_rfl) (by kernel_rfl) (by kernel_rfl) (fun _ _ _ h => h) (Or.inl ⟨by rfl, ?_⟩) hHeld ?_; rotate_left 1; (intro w9 hSw; obtain _ := hSw; go_simp; first | done | with_reducible rfl); (try simp only [Act.put, List.setIfInBounds_toArray, List.set_cons_zero, List.set_cons_succ])
  refine wpAnyH_take (i := 3) (oi := { dst := some 29, op := Op.fieldAddr 50 (Operand.tmp 28) 1, type := 0, pos := "disk.go:60", after := #[{ on := 2, ground := Ground.data }], guard := none }) (v := ?_) rfl (by kernel_rfl) (by kernel_rfl) (by kernel_rfl) (fun _ _ _ h => h) (Or.inl ⟨by rfl, ?_⟩) hHeld ?_; rotate_left 1; (intro w9 hSw; obtain _ := hSw; go_simp; first | done | with_reducible rfl); (try simp only [Act.put, List.setIfInBounds_toArray, List.set_cons_zero, List.set_cons_succ])
  refine wpAnyH_take (i := 5) (oi := { dst := some 31, op := Op.load 62 (Operand.tmp 7), type := 62, pos := "disk.go:60", after := #[], guard := none }) (v := .agg (wc ⟨(k : Int), s⟩).toArray) rfl (by kernel_rfl) (by kernel_rfl) (by kernel_rfl) (fun _ _ _ h => h) (yieldsIf_load_mid (by kernel_rfl) 62 (.tmp 7) rfl w.heap.size 0 rfl (wc ⟨(k : Int), s⟩) _ (fun w9 hSw => hSw) Try.underlying62 rfl (by rw [size65, wc_length H6.out])) hHeld ?_; (try simp only [Act.put, List.setIfInBounds_toArray, List.set_cons_zero, List.set_cons_succ])
  refine wpAnyH_ready (rs := [4, 6]) (by kernel_rfl) (by simp) ?_; refine AllReadyH.cons (o := { dst := some 30, op := Op.load 48 (Operand.tmp 29), type := 48, pos := "disk.go:60", after := #[{ on := 3, ground := Ground.data }], guard := none }) rfl (fun K hK => ?_) (AllReadyH.cons (o := { dst := some 32, op := Op.buildSlice 48 1 #[(0, Operand.tmp 31)], type := 48, pos := "disk.go:60", after := #[{ on := 5, ground := Ground.data }], guard := none }) rfl (fun K hK => ?_) AllReadyH.nil)
  go_simp; refine hK.out _ _ hHeld (fun hHeld => ?_); clear hK; (try simp only [Act.put, List.setIfInBounds_toArray, List.set_cons_zero, List.set_cons_succ]); refine wpAnyH_ready (rs := [6]) (by kernel_rfl) (by simp) ?_; refine AllReadyH.cons (o := { dst := some 32, op := Op.buildSlice 48 1 #[(0, Operand.tmp 31)], type := 48, pos := "disk.go:60", after := #[{ on := 5, ground := Ground.data }], guard := none }) rfl (fun K hK => ?_) AllReadyH.nil; rw [if_pos (by rfl)]; refine slice65_wp (.tmp 31) rfl ⟨(k : Int), s⟩ rfl H6.out ?_; refine hK.out _ _ (World.rangeAt_alloc HX.out _) (fun hHeld => ?_); clear hK; (try simp only [Act.put, List.setIfInBounds_toArray, List.set_cons_zero, List.set_cons_succ])
  rotate_left 1
  rw [if_pos (by rfl)]; refine slice65_wp (.tmp 31) rfl ⟨(k : Int), s⟩ rfl H6.out ?_; refine hK.out _ _ (World.rangeAt_alloc HX.out _) (fun hHeld => ?_); clear hK; (try simp only [Act.put, List.setIfInBounds_toArray, List.set_cons_zero, List.set_cons_succ]); refine wpAnyH_ready (rs := [4]) (by kernel_rfl) (by simp) ?_; refine AllReadyH.cons (o := { dst := some 30, op := Op.load 48 (Operand.tmp 29), type := 48, pos := "disk.go:60", after := #[{ on := 3, ground := Ground.data }], guard := none }) rfl (fun K hK => ?_) AllReadyH.nil; go_simp; refine hK.out _ _ hHeld (fun hHeld => ?_); clear hK; (try simp only [Act.put, List.setIfInBounds_toArray, List.set_cons_zero, List.set_cons_succ])
  all_goals
   refine wpAnyH_ready (rs := [7]) (by kernel_rfl) (by simp) ?_; refine AllReadyH.cons (o := { dst := some 33, op := Op.call { callee := Callee.builtin Builtin.append, args := #[Operand.tmp 30, Operand.tmp 32], argTypes := #[48, 48] }, type := 48, pos := "disk.go:60", after := #[{ on := 4, ground := Ground.data }, { on := 6, ground := Ground.data }], guard := none }) rfl (fun K hK => ?_) AllReadyH.nil; refine Kd.R_append_step k65 (w0 := w) (W := WB.drew) B (by rfl) (.tmp 30) (.tmp 32) 48 62 (.agg Z65) 72 rfl Try.underlying48 info65z (by simp [Value.cells, Z65_size, k65]) (by decide) (by omega) v W ⟨(k : Int), s⟩ (wc ⟨(k : Int), s⟩) (fun q => q ≠ g ∧ q ≠ o) (fun _ => False) rfl rfl ⟨rfl, H6.out⟩ (fun _ h => h.elim) (fun q hq => HF.out q hq) HD.out.drew.row (BB.out.drew) (HBl.out) (by have := HW.out; omega) ?_; intro v2 w2 hR2 hB2 hg2 ha2; obtain ⟨A2, c2, e2⟩ := Kd.R_slice hR2; generalize hn2 : (W ++ [(⟨(k : Int), s⟩ : S79)]).length = n2 at e2; subst e2; have HN2 := Lib.hid hn2; clear hn2; have hg3 := Lib.hid hg2; have hR3 := Lib.hid hR2; have ha3 := Lib.hid ha2; clear hR2 hB2 hg2 ha2; have k1 := (hg3.out.block g HGl.out HNg.out).trans HD.out.drew.blk; have k2 := (blk_cell k1 1).trans rfl; have k3 := blk_free k1 1; have KK1 := Lib.hid k1; clear k1; refine hK.out _ _ (range_grown (w := WB.drew) HX.out hg3.out HNx.out) (fun hHeld => ?_); clear hK
   (try simp only [Act.put, List.setIfInBounds_toArray, List.set_cons_zero, List.set_cons_succ])
   refine wpAnyH_take (i := 8) (oi := { dst := some 34, op := Op.nilCheck (Operand.tmp 26), type := 0, pos := "disk.go:60", after := #[{ on := 0, ground := Ground.data }, { on := 0, ground := Ground.phase }, { on := 1, ground := Ground.phase }, { on := 2, ground := Ground.phase }, { on := 3, ground := Ground.phase }, { on := 4, ground := Ground.phase }, { on := 5, ground := Ground.phase }, { on := 6, ground := Ground.phase }, { on := 7, ground := Ground.phase }], guard := none }) (v := ?_) rfl (by kernel_rfl) (by kernel_rfl) (by kernel_rfl) (fun _ _ _ h => h) (Or.inl ⟨by rfl, ?_⟩) hHeld ?_; rotate_left 1; (intro w9 hSw; obtain _ := hSw; go_simp; first | done | with_reducible rfl); (try simp only [Act.put, List.setIfInBounds_toArray, List.set_cons_zero, List.set_cons_succ])
   refine wpAnyH_take (i := 9) (oi := { dst := some 35, op := Op.fieldAddr 50 (Operand.tmp 34) 1, type := 0, pos := "disk.go:60", after := #[{ on := 8, ground := Ground.data }, { on := 0, ground := Ground.phase }, { on := 1, ground := Ground.phase }, { on := 2, ground := Ground.phase }, { on := 3, ground := Ground.phase }, { on := 4, ground := Ground.phase }, { on := 5, ground := Ground.phase }, { on := 6, ground := Ground.phase }, { on := 7, ground := Ground.phase }], guard := none }) (v := ?_) rfl (by kernel_rfl) (by kernel_rfl) (by kernel_rfl) (fun _ _ _ h => h) (Or.inl ⟨by rfl, ?_⟩) hHeld ?_; rotate_left 1; (intro w9 hSw; obtain _ := hSw; go_simp; first | done | with_reducible rfl); (try simp only [Act.put, List.setIfInBounds_toArray, List.set_cons_zero, List.set_cons_succ])
   refine wpAnyH_ready (rs := [10]) (by kernel_rfl) (by simp) ?_; refine AllReadyH.cons (o := { dst := none, op := Op.store 48 (Operand.tmp 35) (Operand.tmp 33), type := 0, pos := "disk.go:60", after := #[{ on := 9, ground := Ground.data }, { on := 7, ground := Ground.data }, { on := 7, ground := Ground.chain }, { on := 0, ground := Ground.phase }, { on := 1, ground := Ground.phase }, { on := 2, ground := Ground.phase }, { on := 3, ground := Ground.phase }, { on := 4, ground := Ground.phase }, { on := 5, ground := Ground.phase }, { on := 6, ground := Ground.phase }, { on := 7, ground := Ground.phase }], guard := none }) rfl (fun K hK => ?_) AllReadyH.nil; rw [if_pos (by rfl)]; go_simp; refine hK.out _ _ ?_ (fun hHeld => ?_); (case' refine_1 => exact range_set (range_grown (w := WB.drew) HX.out hg3.out HNx.out) HGX.out); clear hK; (try simp only [Act.put, List.setIfInBounds_toArray, List.set_cons_zero, List.set_cons_succ])
   refine wpAnyH_done (by kernel_rfl) ?_ _
   go_wp2
   go_ret
   refine ⟨rfl, .slice A2 n2 c2, ⟨?_, ?_, ?_, HD.out.log, HD.out.loo, HD.out.ne, HD.out.l64, ?_, HD.out.few⟩, ?_, ?_⟩
   · exact (heap_set KK1.out (i := 1) _).trans rfl
   · exact (heap_far _ _ _ HD.out.ne).trans ((hg3.out.block o HOl.out (fun e => (HD.out.row.1 o e.symm).2 rfl)).trans HD.out.drew.lie)
   · exact Kd.R_far hR3.out (fun q hq => hq.1) _
   · intro x hx
     rcases List.mem_append.1 hx with hx | hx
     · exact HD.out.w64 x hx
     · rw [List.mem_singleton.1 hx]
       exact ⟨H6.out, by show (0 : Int) ≤ (k : Int); omega, by show (k : Int) < _; have := HK.out; omega⟩
   · refine Fr.set ((HF2.out.drew).grown hg3.out (fun q hq => Or.inl (Or.inr (Or.inr hq)))) _ _ (Or.inl (Or.inl rfl))
   · intro q hq
     rcases ha3.out with e | ⟨b, e, hb⟩
     · rw [e] at hq; exact Or.inl hq
     · rw [e] at hq; injection hq with hq; subst hq
       exact Or.inr (Nat.le_trans (Nat.le_of_lt HSZ.out) hb)
end Go.Proofs.Ytekcidfipdjfdaa.Own
