/- The law's sectors and calls: fill, text; a nil disk. -/
import Derived.Test.YtekcidfipdjfdaaDG
namespace Go.Proofs.Ytekcidfipdjfdaa.Own
open Go.RowKit Go.Proofs.YtekcidfipdjfdaaW.PrintWords Go.Proofs.Ytekcidfipdjfdaa.PB
def clampN (n : Int) : Nat := (min (max n 0) 64).toNat
theorem clampN_le (n : Int) : clampN n ≤ 64 := by unfold clampN; omega
theorem clampN_eq (n : Int) : min (max n 0) 64 = (clampN n : Int) := by unfold clampN; omega
set_option maxRecDepth 100000
set_option linter.unusedSimpArgs false
set_option linter.unusedVariables false
def u8 (c : UInt8) : Value := .int .u8 (c.toNat : Int)
def fillB (c : UInt8) : ByteArray := ⟨(List.replicate 64 c).toArray⟩
theorem fillB_size (c : UInt8) : (fillB c).size = 64 := by simp [fillB, ByteArray.size]
def fillC (c : UInt8) (k : Nat) : List Value := List.replicate k (u8 c) ++ List.replicate (64 - k) (u8 0)
theorem fillC_set (c : UInt8) (k : Nat) (hk : k < 64) : (fillC c k).toArray.setIfInBounds k (u8 c) = (fillC c (k + 1)).toArray := by
  rw [List.setIfInBounds_toArray]
  congr 1
  unfold fillC
  rw [List.set_append_right _ _ (by simp), List.length_replicate, Nat.sub_self, show 64 - k = (64 - (k + 1)) + 1 by omega, List.replicate_succ, List.set_cons_zero, List.replicate_succ' (n := k), List.append_assoc, List.singleton_append]
theorem fillC_length (c : UInt8) (k : Nat) (hk : k ≤ 64) : (fillC c k).length = 64 := by simp [fillC]; omega
theorem info5 : (Try.prog.info? 5).map (fun i => (i.zero, i.size, i.bytes)) = some (some (.int .u8 0), 1, 1) := by kernel_rfl
set_option maxHeartbeats 1000000 in
theorem fill_any (c : UInt8) (w : World) : Calls Try.prog 20 #[.int .u8 (c.toNat : Int)] w fun e w' => e = .returned (.string (fillB c)) ∧ Below w.heap.size w w' := by
  obtain ⟨i0, hi, hz0, hz1, hz2⟩ := info_parts info5
  have km := run_makeSlice (P := Try.prog) (w := w) 58 5 i0 (.int .u8 0) Try.underlying58 hi hz0 .i64 .i64 64 64 (by omega) (by omega) (by rw [hz1]; simp) (by rw [hz2]; omega) (by omega)
  have e : madeCells (Value.int .u8 0).cells ((64 : Int).toNat * i0.size) = (fillC c 0).toArray := by rw [hz1]; exact made_rep 1 64 _ (by omega)
  rw [e] at km
  simp only [show (64 : Int).toNat = 64 from rfl] at km
  clear e hi hz0 hz1 hz2
  obtain ⟨F, hF⟩ : ∃ F, F = fillC c 0 := ⟨_, rfl⟩
  rw [← hF] at km
  have HF := Lib.hid hF; clear hF
  go_enter Try.func20, Try.ntmps20
  go_wp2_with fail
  clear km
  go_loopw [8] (fun i wr => ∃ k : Nat, k ≤ 64 ∧ i = .int .i64 k ∧ wr.heap[w.heap.size]? = some (.cells (fillC c k).toArray 5 (0, 0)) ∧ Below w.heap.size w wr) (fun i _ => 64 - (intOf i).toNat)
  case atStart => exact ⟨0, by omega, rfl, by rw [heap_new, HF.out], (Below.refl _ _).alloc (Nat.le_refl _) _⟩
  case round =>
    obtain ⟨k, hk, rfl, hb, bel⟩ := hrel
    have Bel := Lib.hid bel; clear bel
    have HB := Lib.hid hb
    by_cases hlt : k < 64
    · have q1 : (0 : Int) ≤ (k : Int) := Int.natCast_nonneg _
      have q2 : (k : Int) < 64 := by omega
      have c0 : wr.cell? ⟨w.heap.size, k, none⟩ = some ((fillC c k).getD k (u8 0)) := by
        rw [blk_cell hb, List.getElem?_toArray, List.getD_eq_getElem?_getD, List.getElem?_eq_getElem (by rw [fillC_length _ _ hk]; exact hlt)]
        rfl
      have f0 := blk_free hb k
      clear hb
      go_wp2
      go_roundw
      case rel => exact ⟨k + 1, by omega, by go_num, by rw [← fillC_set c k hlt]; exact heap_set HB.out (u8 c), Bel.out.setCell (Nat.le_refl _) _⟩
      case measure => simp [intOf]; omega
    · obtain rfl : k = 64 := by omega
      have kc := conv63 (w := wr) (b := w.heap.size) (off := 0) (s := fillB c) (by
        intro j v hj
        rw [blk_cell hb, List.getElem?_toArray, Nat.zero_add]
        rw [show fillC c 64 = sc (fillB c) by simp only [fillC, sc, Lib.strCells, fillB, Nat.sub_self, List.replicate_zero, List.append_nil, List.map_replicate]; rfl]
        exact hj) 64 64 (fillB_size c).symm
      clear hb HB
      go_wp2
      go_ret
      exact ⟨rfl, Bel.out⟩
/-- The text of a call. -/
def textB (c : UInt8) (n : Int) : ByteArray := (fillB c).extract 0 (64 - clampN n)
theorem textB_size (c : UInt8) (n : Int) : (textB c n).size = 64 - clampN n := by
  unfold textB
  have := fillB_size c
  rw [ByteArray.size_extract, this]
  omega
theorem textB_full {c : UInt8} {n : Int} (h : n ≤ 0) : textB c n = fillB c := by
  have : clampN n = 0 := by unfold clampN; omega
  unfold textB
  rw [this]
  have := fillB_size c
  exact ByteArray.ext (by simp [fillB])
theorem textB_short {c : UInt8} {n : Int} (h : 0 < n) : (textB c n).size ≠ 64 := by
  rw [textB_size]
  have : 0 < clampN n := by unfold clampN; omega
  omega
set_option maxHeartbeats 1000000 in
theorem text_any (kd at_ n : Int) (c : UInt8) (ks : Value) (w : World) (hks : ∃ A l p, ks = .slice A l p) : Calls Try.prog 15 #[.agg #[.int .i64 kd, .int .i64 at_, .int .i64 n, .int .u8 (c.toNat : Int), ks]] w fun e w' => e = .returned (.string (textB c n)) ∧ Below w.heap.size w w' := by
  obtain ⟨A, l, p, rfl⟩ := hks
  have e2 := clampN_eq n
  have hm := clampN_le n
  obtain ⟨m, hmm⟩ : ∃ m, m = clampN n := ⟨_, rfl⟩
  rw [← hmm] at e2 hm
  have E2 := Lib.hid e2; clear e2
  have e3 : IntKind.i64.wrap (64 - (m : Int)) = ((64 - m : Nat) : Int) := by rw [IntWalk.i64_in _ (by omega)]; omega
  have hsz := fillB_size c
  have n1 : (0 : Int) ≤ ((64 - m : Nat) : Int) := Int.natCast_nonneg _
  have n2 : ((64 - m : Nat) : Int) ≤ (64 : Int) := by omega
  have HM := Lib.hid hmm; clear hmm
  have e4 : textB c n = (fillB c).extract 0 (64 - m) := by rw [HM.out]; rfl
  rw [e4]
  clear e4
  generalize hq : 64 - m = q at *
  have HQ := Lib.hid hq; clear hq hm
  go_enter Try.func15, Try.ntmps15
  go_upto_region 1 with (fail)
  have BX : Below w.heap.size w (w.alloc (.cells #[.int .i64 kd, .int .i64 at_, .int .i64 n, .int .u8 (c.toNat : Int), .slice A l p] 35)) := (Below.refl _ _).alloc (Nat.le_refl _) _
  have X := Lib.hid (heap_new w (.cells #[.int .i64 kd, .int .i64 at_, .int .i64 n, .int .u8 (c.toNat : Int), .slice A l p] 35))
  generalize w.alloc (.cells #[.int .i64 kd, .int .i64 at_, .int .i64 n, .int .u8 (c.toNat : Int), .slice A l p] 35) = W1 at *
  have BX2 := Lib.hid BX; clear BX
  refine wp_region_held_drew (S := fun w' => w'.cell? ⟨w.heap.size, 2, none⟩ = some (.int .i64 n) ∧ w'.cell? ⟨w.heap.size, 3, none⟩ = some (.int .u8 (c.toNat : Int)) ∧ W1.heap.size ≤ w'.heap.size ∧ Below w.heap.size w w') (by kernel_rfl) (⟨(blk_cell X.out 2).trans rfl, (blk_cell X.out 3).trans rfl, Nat.le_refl _, BX2.out.drew⟩) (fun hHeld => ?_)
  refine wpAnyH_take (i := 0) (oi := { dst := some 3, op := Op.fieldAddr 35 (Operand.tmp 1) 3, type := 0, pos := "law.go:39", after := #[], guard := none }) (v := ?_) rfl (by kernel_rfl) (by kernel_rfl) (by kernel_rfl) (fun _ _ _ h => h) (Or.inl ⟨by rfl, ?_⟩) hHeld ?_; rotate_left 1; (intro w9 hSw; obtain ⟨q1, q2, q3, q4⟩ := hSw; clear q3 q4; go_simp; first | done | with_reducible rfl); (try simp only [Act.put, List.setIfInBounds_toArray, List.set_cons_zero, List.set_cons_succ])
  refine wpAnyH_take (i := 1) (oi := { dst := some 4, op := Op.load 5 (Operand.tmp 3), type := 5, pos := "law.go:39", after := #[{ on := 0, ground := Ground.data }], guard := none }) (v := ?_) rfl (by kernel_rfl) (by kernel_rfl) (by kernel_rfl) (fun _ _ _ h => h) (Or.inl ⟨by rfl, ?_⟩) hHeld ?_; rotate_left 1; (intro w9 hSw; obtain ⟨q1, q2, q3, q4⟩ := hSw; clear q3 q4; go_simp; first | done | with_reducible rfl); (try simp only [Act.put, List.setIfInBounds_toArray, List.set_cons_zero, List.set_cons_succ])
  refine wpAnyH_take (i := 3) (oi := { dst := some 6, op := Op.fieldAddr 35 (Operand.tmp 1) 2, type := 0, pos := "law.go:39", after := #[], guard := none }) (v := ?_) rfl (by kernel_rfl) (by kernel_rfl) (by kernel_rfl) (fun _ _ _ h => h) (Or.inl ⟨by rfl, ?_⟩) hHeld ?_; rotate_left 1; (intro w9 hSw; obtain ⟨q1, q2, q3, q4⟩ := hSw; clear q3 q4; go_simp; first | done | with_reducible rfl); (try simp only [Act.put, List.setIfInBounds_toArray, List.set_cons_zero, List.set_cons_succ])
  refine wpAnyH_take (i := 4) (oi := { dst := some 7, op := Op.load 3 (Operand.tmp 6), type := 3, pos := "law.go:39", after := #[{ on := 3, ground := Ground.data }], guard := none }) (v := ?_) rfl (by kernel_rfl) (by kernel_rfl) (by kernel_rfl) (fun _ _ _ h => h) (Or.inl ⟨by rfl, ?_⟩) hHeld ?_; rotate_left 1; (intro w9 hSw; obtain ⟨q1, q2, q3, q4⟩ := hSw; clear q3 q4; go_simp; first | done | with_reducible rfl); (try simp only [Act.put, List.setIfInBounds_toArray, List.set_cons_zero, List.set_cons_succ])
  refine wpAnyH_take (i := 5) (oi := { dst := some 8, op := Op.call { callee := Callee.builtin Builtin.max, args := #[Operand.tmp 7, Operand.const (Value.int IntKind.i64 0)], argTypes := #[3, 3] }, type := 3, pos := "law.go:39", after := #[{ on := 4, ground := Ground.data }], guard := none }) (v := ?_) rfl (by kernel_rfl) (by kernel_rfl) (by kernel_rfl) (fun _ _ _ h => h) (Or.inl ⟨by rfl, ?_⟩) hHeld ?_; rotate_left 1; (intro w9 hSw; obtain ⟨q1, q2, q3, q4⟩ := hSw; clear q3 q4; go_simp; first | done | with_reducible rfl); (try simp only [Act.put, List.setIfInBounds_toArray, List.set_cons_zero, List.set_cons_succ])
  refine wpAnyH_take (i := 6) (oi := { dst := some 9, op := Op.call { callee := Callee.builtin Builtin.min, args := #[Operand.tmp 8, Operand.const (Value.int IntKind.i64 64)], argTypes := #[3, 3] }, type := 3, pos := "law.go:39", after := #[{ on := 5, ground := Ground.data }], guard := none }) (v := ?_) rfl (by kernel_rfl) (by kernel_rfl) (by kernel_rfl) (fun _ _ _ h => h) (Or.inl ⟨by rfl, ?_⟩) hHeld ?_; rotate_left 1; (intro w9 hSw; obtain ⟨q1, q2, q3, q4⟩ := hSw; clear q3 q4; have e2 := E2.out; go_simp; first | done | with_reducible rfl); (try simp only [Act.put, List.setIfInBounds_toArray, List.set_cons_zero, List.set_cons_succ])
  refine wpAnyH_take (i := 7) (oi := { dst := some 10, op := Op.binOp BinOp.sub 3 (Operand.const (Value.int IntKind.i64 64)) (Operand.tmp 9) 3, type := 3, pos := "law.go:39", after := #[{ on := 6, ground := Ground.data }], guard := none }) (v := ?_) rfl (by kernel_rfl) (by kernel_rfl) (by kernel_rfl) (fun _ _ _ h => h) (Or.inl ⟨by rfl, ?_⟩) hHeld ?_; rotate_left 1; (intro w9 hSw; obtain ⟨q1, q2, q3, q4⟩ := hSw; clear q3 q4; go_simp; first | done | with_reducible rfl); (try simp only [Act.put, List.setIfInBounds_toArray, List.set_cons_zero, List.set_cons_succ])
  refine wpAnyH_ready (rs := [2]) (by kernel_rfl) (by simp) ?_; refine AllReadyH.cons (o := { dst := some 5, op := Op.call { callee := Callee.value (Operand.func 20), args := #[Operand.tmp 4], argTypes := #[5] }, type := 9, pos := "law.go:39", after := #[{ on := 1, ground := Ground.data }], guard := none }) rfl (fun K hK => ?_) AllReadyH.nil; go_simp; refine (fill_any c _).mono ?_; rintro e w4 ⟨rfl, bel⟩; (try go_wp2_with fail); refine hK.out _ _ ⟨(bel.cell (p := ⟨w.heap.size, 2, none⟩) (blk_lt X.out)).trans hHeld.1, (bel.cell (p := ⟨w.heap.size, 3, none⟩) (blk_lt X.out)).trans hHeld.2.1, Nat.le_trans hHeld.2.2.1 bel.size, hHeld.2.2.2.trans (bel.mono hHeld.2.2.2.size)⟩ (fun hHeld => ?_); clear hK; (try simp only [Act.put, List.setIfInBounds_toArray, List.set_cons_zero, List.set_cons_succ])
  refine wpAnyH_take (i := 8) (oi := { dst := some 11, op := Op.slice 9 (Operand.tmp 5) none (some (Operand.tmp 10)) none, type := 9, pos := "law.go:39", after := #[{ on := 2, ground := Ground.data }, { on := 7, ground := Ground.data }], guard := none }) (v := ?_) rfl (by kernel_rfl) (by kernel_rfl) (by kernel_rfl) (fun _ _ _ h => h) (Or.inl ⟨by rfl, ?_⟩) hHeld ?_; rotate_left 1; (intro w9 hSw; obtain ⟨q1, q2, q3, q4⟩ := hSw; clear q3 q4; go_simp; first | done | with_reducible rfl); (try simp only [Act.put, List.setIfInBounds_toArray, List.set_cons_zero, List.set_cons_succ])
  refine wpAnyH_take (i := 9) (oi := { dst := some 2, op := Op.assign (Operand.tmp 11), type := 9, pos := "law.go:39", after := #[{ on := 8, ground := Ground.data }, { on := 2, ground := Ground.chain }, { on := 0, ground := Ground.phase }, { on := 1, ground := Ground.phase }, { on := 2, ground := Ground.phase }, { on := 3, ground := Ground.phase }, { on := 4, ground := Ground.phase }, { on := 5, ground := Ground.phase }, { on := 6, ground := Ground.phase }, { on := 7, ground := Ground.phase }, { on := 8, ground := Ground.phase }], guard := none }) (v := ?_) rfl (by kernel_rfl) (by kernel_rfl) (by kernel_rfl) (fun _ _ _ h => h) (Or.inl ⟨by rfl, ?_⟩) hHeld ?_; rotate_left 1; (intro w9 hSw; obtain ⟨q1, q2, q3, q4⟩ := hSw; clear q3 q4; go_simp; first | done | with_reducible rfl); (try simp only [Act.put, List.setIfInBounds_toArray, List.set_cons_zero, List.set_cons_succ])
  refine wpAnyH_done (by kernel_rfl) ?_ _
  have HB := Lib.hid hHeld.2.2.2
  clear hHeld
  go_wp2
  go_ret
  exact ⟨rfl, HB.out⟩
end Go.Proofs.Ytekcidfipdjfdaa.Own
