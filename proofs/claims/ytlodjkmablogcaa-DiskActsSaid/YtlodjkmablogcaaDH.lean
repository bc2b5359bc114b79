/- The disk: some bytes of a write are kept. -/
import Derived.Test.YtlodjkmablogcaaDG
import Derived.Laws.CopyOwn
namespace Go.Proofs.Ytlodjkmablogcaa.Own
open Go.RowKit Go.Proofs.YtlodjkmablogcaaW.PrintWords Go.Proofs.YtlodjkmablogcaaW.PrintMore Go.Proofs.Ytlodjkmablogcaa.PB
set_option maxRecDepth 100000
set_option linter.unusedSimpArgs false
set_option linter.unusedVariables false
def keepB (d s : ByteArray) (m : Nat) : ByteArray := ⟨(d.data.toList.take m ++ s.data.toList.drop m).toArray⟩
theorem toList_len (s : ByteArray) : s.data.toList.length = s.size := by rw [Array.length_toList]; rfl
theorem keepB_size {d s : ByteArray} {m : Nat} (hd : d.size = 64) (hs : s.size = 64) (hm : m ≤ 64) : (keepB d s m).size = 64 := by
  have h1 := toList_len d
  have h2 := toList_len s
  show (d.data.toList.take m ++ s.data.toList.drop m).toArray.size = 64
  rw [List.size_toArray, List.length_append, List.length_take, List.length_drop]
  omega
theorem keepB_sc (d s : ByteArray) (m : Nat) : sc (keepB d s m) = (sc d).take m ++ (sc s).drop m := by
  simp [sc, Lib.strCells, keepB, List.map_take, List.map_drop]
/-- How many bytes are kept. -/
def clampN (n : Int) : Nat := (min (max n 0) 64).toNat
theorem clampN_le (n : Int) : clampN n ≤ 64 := by unfold clampN; omega
theorem clampN_eq (n : Int) : min (max n 0) 64 = (clampN n : Int) := by unfold clampN; omega
theorem alloc63_wp {o : Oper} {a : Act} {w : World} {K : Act → World → Prop} {Q : Exit → Act → World → Prop} (ho : o.op = .alloc 63)
    (h : K (a.put o.dst (.pointer (some ⟨w.heap.size, 0, none⟩))) (w.alloc (.cells Z63 63))) : o.wp Try.prog a w K Q := by
  have e : (execOp a.eval o).run Try.prog w = .ok (.value (.pointer (some ⟨w.heap.size, 0, none⟩))) (w.alloc (.cells Z63 63)) := by
    unfold execOp
    simp only [ho, Sem.run_bind, alloc63_run, Result.andThen_ok]
    rfl
  unfold Oper.wp
  rw [e, Oper.upon_value]
  exact h
set_option maxHeartbeats 2000000 in
theorem keep_ok {B g o : Nat} {v : Value} {L : List ByteArray} {W : List S79} {w : World} (h : DS B g o v L W w) (k : Nat) (hk : k < L.length) (d : ByteArray) (hd : d.size = 64) (n : Int) :
    Calls Try.prog 35 #[.pointer (some ⟨g, 0, none⟩), .agg (wc ⟨(k : Int), d⟩).toArray, .int .i64 n] w fun e w' => e = .returned (.tuple #[]) ∧ DS B g o v (L.set k (keepB d (L.getD k ByteArray.empty) (clampN n))) W w' ∧ Fr (FS g o v) w w' := by
  have hs6' : (L.getD k ByteArray.empty).size = 64 := h.l64 _ (by rw [List.getD_eq_getElem?_getD, List.getElem?_eq_getElem hk]; exact List.getElem_mem hk)
  obtain ⟨s, hsx⟩ : ∃ s, s = L.getD k ByteArray.empty := ⟨_, rfl⟩
  have hs6 : s.size = 64 := by rw [hsx]; exact hs6'
  rw [← hsx]
  have SX := Lib.hid hsx; clear hsx hs6'
  have e2 := clampN_eq n
  have hm := clampN_le n
  generalize hmm : clampN n = m at *
  have HM := Lib.hid hm
  have S6 := Lib.hid hs6; have D6 := Lib.hid hd; have HK := Lib.hid hk
  have hf := h.few
  have p1 : (0 : Int) ≤ (k : Int) := Int.natCast_nonneg _
  have p2 : (k : Int) < (L.length : Int) := by omega
  have m1 : (0 : Int) ≤ (m : Int) := Int.natCast_nonneg _
  have m2 : (m : Int) ≤ 64 := by omega
  clear hmm hm hs6 hd hk hf
  have H := Lib.hid h; clear h
  go_enter Try.func35, Try.ntmps35
  have BBox : Below w.heap.size w (w.alloc (.cells (wc ⟨(k : Int), d⟩).toArray 65)) := (Below.refl _ _).alloc (Nat.le_refl _) _
  have kb := box65_at w ⟨(k : Int), d⟩
  have KR := Lib.hid (box65_range w ⟨(k : Int), d⟩)
  have D1 := Lib.hid (H.out.below BBox)
  have F1 := Lib.hid (Fr.of_below (S := FS g o v) BBox)
  have HBX := Lib.hid (show w.heap.size < (w.alloc (.cells (wc ⟨(k : Int), d⟩).toArray 65)).heap.size by simp)
  clear BBox
  go_upto_region 2 with (fail)
  clear e2
  generalize w.alloc (.cells (wc ⟨(k : Int), d⟩).toArray 65) = W1 at *
  have GC := Lib.hid (show W1.cell? ⟨g, 0, none⟩ = some (.slice (some ⟨o, 0, none⟩) L.length L.length) from (blk_cell D1.out.blk 0).trans rfl)
  have KB := Lib.hid kb; clear kb
  have SR := Lib.hid (show W1.rangeAt o (k * 64) (sc s) from by have := D1.out.sector k HK.out; rw [← SX.out] at this; exact this)
  refine wp_region_held_drew (S := fun w' => w'.cell? ⟨g, 0, none⟩ = some (.slice (some ⟨o, 0, none⟩) L.length L.length) ∧ w'.cell? ⟨w.heap.size, 0, none⟩ = some (.int .i64 (k : Int)) ∧ w'.rangeAt o (k * 64) (sc s)) (by kernel_rfl) (⟨GC.out, KB.out, SR.out⟩) (fun hHeld => ?_)
  refine wpAnyH_take (i := 0) (oi := { dst := some 10, op := Op.move (Operand.tmp 0), type := 28, pos := "disk.go:130", after := #[], guard := none }) (v := ?_) rfl (by kernel_rfl) (by kernel_rfl) (by kernel_rfl) (fun _ _ _ h => h) (Or.inl ⟨by rfl, ?_⟩) hHeld ?_; rotate_left 1; (intro w9 hSw; obtain ⟨q1, q2, q3⟩ := hSw; clear q3; go_simp; first | done | with_reducible rfl); (try simp only [Act.put, List.setIfInBounds_toArray, List.set_cons_zero, List.set_cons_succ])
  refine wpAnyH_take (i := 1) (oi := { dst := some 11, op := Op.nilCheck (Operand.tmp 10), type := 0, pos := "disk.go:130", after := #[{ on := 0, ground := Ground.data }], guard := none }) (v := ?_) rfl (by kernel_rfl) (by kernel_rfl) (by kernel_rfl) (fun _ _ _ h => h) (Or.inl ⟨by rfl, ?_⟩) hHeld ?_; rotate_left 1; (intro w9 hSw; obtain ⟨q1, q2, q3⟩ := hSw; clear q3; go_simp; first | done | with_reducible rfl); (try simp only [Act.put, List.setIfInBounds_toArray, List.set_cons_zero, List.set_cons_succ])
  refine wpAnyH_take (i := 2) (oi := { dst := some 12, op := Op.fieldAddr 61 (Operand.tmp 11) 0, type := 0, pos := "disk.go:130", after := #[{ on := 1, ground := Ground.data }], guard := none }) (v := ?_) rfl (by kernel_rfl) (by kernel_rfl) (by kernel_rfl) (fun _ _ _ h => h) (Or.inl ⟨by rfl, ?_⟩) hHeld ?_; rotate_left 1; (intro w9 hSw; obtain ⟨q1, q2, q3⟩ := hSw; clear q3; go_simp; first | done | with_reducible rfl); (try simp only [Act.put, List.setIfInBounds_toArray, List.set_cons_zero, List.set_cons_succ])
  refine wpAnyH_take (i := 3) (oi := { dst := some 13, op := Op.load 58 (Operand.tmp 12), type := 58, pos := "disk.go:130", after := #[{ on := 2, ground := Ground.data }], guard := none }) (v := ?_) rfl (by kernel_rfl) (by kernel_rfl) (by kernel_rfl) (fun _ _ _ h => h) (Or.inl ⟨by rfl, ?_⟩) hHeld ?_; rotate_left 1; (intro w9 hSw; obtain ⟨q1, q2, q3⟩ := hSw; clear q3; go_simp; first | done | with_reducible rfl); (try simp only [Act.put, List.setIfInBounds_toArray, List.set_cons_zero, List.set_cons_succ])
  refine wpAnyH_take (i := 4) (oi := { dst := some 14, op := Op.fieldAddr 65 (Operand.tmp 4) 0, type := 0, pos := "disk.go:130", after := #[], guard := none }) (v := ?_) rfl (by kernel_rfl) (by kernel_rfl) (by kernel_rfl) (fun _ _ _ h => h) (Or.inl ⟨by rfl, ?_⟩) hHeld ?_; rotate_left 1; (intro w9 hSw; obtain ⟨q1, q2, q3⟩ := hSw; clear q3; go_simp; first | done | with_reducible rfl); (try simp only [Act.put, List.setIfInBounds_toArray, List.set_cons_zero, List.set_cons_succ])
  refine wpAnyH_take (i := 5) (oi := { dst := some 15, op := Op.load 3 (Operand.tmp 14), type := 3, pos := "disk.go:130", after := #[{ on := 4, ground := Ground.data }], guard := none }) (v := ?_) rfl (by kernel_rfl) (by kernel_rfl) (by kernel_rfl) (fun _ _ _ h => h) (Or.inl ⟨by rfl, ?_⟩) hHeld ?_; rotate_left 1; (intro w9 hSw; obtain ⟨q1, q2, q3⟩ := hSw; clear q3; go_simp; first | done | with_reducible rfl); (try simp only [Act.put, List.setIfInBounds_toArray, List.set_cons_zero, List.set_cons_succ])
  refine wpAnyH_take (i := 6) (oi := { dst := some 16, op := Op.indexAddr 58 (Operand.tmp 13) (Operand.tmp 15), type := 0, pos := "disk.go:130", after := #[{ on := 3, ground := Ground.data }, { on := 5, ground := Ground.data }], guard := none }) (v := ?_) rfl (by kernel_rfl) (by kernel_rfl) (by kernel_rfl) (fun _ _ _ h => h) (Or.inl ⟨by rfl, ?_⟩) hHeld ?_; rotate_left 1; (intro w9 hSw; obtain ⟨q1, q2, q3⟩ := hSw; clear q3; go_simp; first | done | with_reducible rfl); (try simp only [Act.put, List.setIfInBounds_toArray, List.set_cons_zero, List.set_cons_succ])
  refine wpAnyH_take (i := 7) (oi := { dst := some 17, op := Op.load 63 (Operand.tmp 16), type := 63, pos := "disk.go:130", after := #[{ on := 6, ground := Ground.data }], guard := none }) (v := .agg (sc s).toArray) rfl (by kernel_rfl) (by kernel_rfl) (by kernel_rfl) (fun _ _ _ h => h) (yieldsIf_load_mid (by kernel_rfl) 63 (.tmp 16) rfl o (k * 64) rfl (sc s) _ (fun w9 hSw => hSw.2.2) Try.underlying63 rfl (by rw [size63, sc_length, S6.out])) hHeld ?_; (try simp only [Act.put, List.setIfInBounds_toArray, List.set_cons_zero, List.set_cons_succ])
  refine wpAnyH_ready (rs := [8]) (by kernel_rfl) (by simp) ?_; refine AllReadyH.cons (o := { dst := some 6, op := Op.alloc 63, type := 0, pos := "disk.go:130", after := #[], guard := none }) rfl (fun K hK => ?_) AllReadyH.nil; rw [if_pos (by rfl)]; refine alloc63_wp rfl ?_; refine hK.out _ _ ⟨cell_al GC.out _, cell_al KB.out _, World.rangeAt_alloc SR.out _⟩ (fun hHeld => ?_); clear hK; (try simp only [Act.put, List.setIfInBounds_toArray, List.set_cons_zero, List.set_cons_succ])
  refine wpAnyH_ready (rs := [9]) (by kernel_rfl) (by simp) ?_; refine AllReadyH.cons (o := { dst := none, op := Op.store 63 (Operand.tmp 6) (Operand.tmp 17), type := 0, pos := "disk.go:130", after := #[{ on := 8, ground := Ground.data }, { on := 7, ground := Ground.data }, { on := 0, ground := Ground.phase }, { on := 1, ground := Ground.phase }, { on := 2, ground := Ground.phase }, { on := 3, ground := Ground.phase }, { on := 4, ground := Ground.phase }, { on := 5, ground := Ground.phase }, { on := 6, ground := Ground.phase }, { on := 7, ground := Ground.phase }, { on := 8, ground := Ground.phase }], guard := none }) rfl (fun K hK => ?_) AllReadyH.nil; rw [if_pos (by rfl)]; refine wp_store_row 63 (.tmp 6) (.tmp 17) rfl W1.heap.size (sc s).toArray rfl rfl 63 Z63 (heap_new W1.drew _) (by rw [size63]; simp [sc_length, S6.out]) (by rw [Z63_size]; simp [sc_length, S6.out]) (toArray_one (Lib.strCells_oneCell _)) ?_; rw [show (W1.drew.alloc (.cells Z63 63)).setRow W1.heap.size (sc s).toArray = W1.drew.alloc (.cells (sc s).toArray 63) from setRow_alloc W1.drew _ _ _]; refine hK.out _ _ ⟨cell_al GC.out _, cell_al KB.out _, World.rangeAt_alloc SR.out _⟩ (fun hHeld => ?_); clear hK; (try simp only [Act.put, List.setIfInBounds_toArray, List.set_cons_zero, List.set_cons_succ])
  refine wpAnyH_done (by kernel_rfl) ?_ _
  go_upto_region 3 with (fail)
  have BX : Below W1.heap.size W1 (W1.drew.alloc (.cells (sc s).toArray 63)) := ((Below.refl _ _).drew).alloc (Nat.le_refl _) _
  have D2 := Lib.hid (D1.out.below BX)
  have F2 := Lib.hid (F1.out.below BX)
  have KR2 := Lib.hid (show (W1.drew.alloc (.cells (sc s).toArray 63)).rangeAt w.heap.size 1 (sc d) from World.rangeAt_alloc KR.out _)
  have KB2 := Lib.hid (show (W1.drew.alloc (.cells (sc s).toArray 63)).cell? ⟨w.heap.size, 0, none⟩ = some (.int .i64 (k : Int)) from cell_al (w := W1.drew) KB.out _)
  have XB := Lib.hid (show (W1.drew.alloc (.cells (sc s).toArray 63)).heap[W1.heap.size]? = some (.cells (sc s).toArray 63 (0, 0)) from heap_new W1.drew _)
  have HX2 := Lib.hid (show W1.heap.size < (W1.drew.alloc (.cells (sc s).toArray 63)).heap.size by simp)
  have HLT := Lib.hid (fs_lt D1.out)
  clear BX hHeld
  generalize W1.drew.alloc (.cells (sc s).toArray 63) = W2 at *
  refine wp_region_still_tail 5 (by kernel_rfl) (by kernel_rfl) ?_
  simp only [List.take_succ_cons, List.take_zero, List.drop_succ_cons, List.drop_zero]
  still_step
  still_step
  still_step
  still_step
  still_step
  refine wpStill_nil ?_
  change wpList _ _ _ _ _ W2.drew
  refine wpList_copy_splice rfl (.tmp 19) (.tmp 22) 66 66 rfl 5 Try.underlying66 (by kernel_rfl) (some ⟨W1.heap.size, 0, none⟩) (some ⟨w.heap.size, 1, none⟩) m 64 m 64 rfl rfl W1.heap.size 0 (sc s) 63 XB.out ((sc d).take m) (by rw [List.length_take, sc_length, D6.out]; simp [HM.out]) (fun _ => ⟨rfl, _, rfl, fun j u hj => by rw [Go.WideShapes.add_plain]; exact KR2.out j u (by rw [List.getElem?_take] at hj; split at hj; exact hj; cases hj)⟩) (by rw [List.length_take, sc_length, sc_length, D6.out, S6.out]; have := HM.out; omega) (fun u hu => Lib.strCells_oneCell d u (List.mem_of_mem_take hu)) W1.heap.size W2 (show Below W1.heap.size W2 W2.drew from (Below.refl _ _).drew) (Nat.le_refl _) ?_
  intro W3 HG3 HB3
  have BX3 : Below W1.heap.size W2 W3 := HB3
  have D3 := Lib.hid (D2.out.fr (S := fun q => W1.heap.size ≤ q) ⟨HB3.os, HB3.tape, HB3.output, HB3.size, fun q _ hn => HB3.block q (by omega)⟩ (fun q hq hn => by have := HLT.out q hq; omega))
  have F3 := Lib.hid (F2.out.trans (S1 := fun q => W1.heap.size ≤ q) (S2 := FS g o v) ⟨HB3.os, HB3.tape, HB3.output, HB3.size, fun q _ hn => HB3.block q (by omega)⟩ (fun q hq => hq) (fun q hq => Or.inr (by have := HBX.out; omega)))
  have KB3 := (HB3.cell (p := ⟨w.heap.size, 0, none⟩) HBX.out).trans KB2.out
  have GC3 := (blk_cell D3.out.blk 0).trans rfl
  have hsp : splice (sc s) 0 ((sc d).take m) = sc (keepB d s m) := by
    rw [keepB_sc]
    unfold splice
    rw [List.take_zero, List.nil_append, Nat.zero_add, List.length_take, sc_length, D6.out, show min m 64 = m by have := HM.out; omega]
  have SR3 := Lib.hid (show W3.rangeAt W1.heap.size 0 (sc (keepB d s m)) from by
    intro j u hj
    rw [blk_cell HG3.out, hsp, List.getElem?_toArray, Nat.zero_add]
    exact hj)
  have KS := Lib.hid (keepB_size D6.out S6.out HM.out)
  clear BX3 HB3 hsp
  go_upto_region 4 with (fail)
  refine wp_region_still_tail 7 (by kernel_rfl) (by kernel_rfl) ?_
  simp only [List.take_succ_cons, List.take_zero, List.drop_succ_cons, List.drop_zero]
  still_step
  still_step
  still_step
  still_step
  still_step
  still_step
  refine wpStill_val (by rfl) (exec_load63 (.tmp 6) rfl W1.heap.size 0 (keepB d s m) rfl SR3.out KS.out) ?_
  refine wpStill_nil ?_
  change wpList _ _ _ _ _ W3.drew
  have T64 := Lib.hid (D3.out.drew.there k HK.out)
  go_wp2_with (refine wpList_store63 rfl (.tmp 31) (.tmp 30) rfl rfl o (k * 64) (keepB d s m) rfl rfl T64.out KS.out ?_)
  refine bodyPost_end (v := .tuple #[]) (by simp [results, Try.results35, go_sem]) rfl ?_
  exact ⟨rfl, D3.out.drew.put k HK.out _ KS.out, F3.out.drew.cells o _ _ (Or.inl (Or.inr (Or.inl rfl)))⟩
end Go.Proofs.Ytlodjkmablogcaa.Own
