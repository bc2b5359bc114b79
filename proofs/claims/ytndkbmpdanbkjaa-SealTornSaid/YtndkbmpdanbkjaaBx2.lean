/- The two structs of a law in their boxes: what a load of a whole struct gives. -/
import Derived.Test.YtndkbmpdanbkjaaCo
import Derived.Deep.MidRow
namespace Go.Proofs.Ytndkbmpdanbkjaa.Own
open Go.RowKit
set_option linter.unusedVariables false
def scL (st c : Int) (d : List UInt8) : List Value := Value.int .u32 st :: Value.int .i64 c :: d.map bv
theorem info25 : (Try.prog.info? 25).map (·.size) = some 54 := by kernel_rfl
theorem scL_info (st c : Int) {d : List UInt8} (hd : d.length = 52) : (Try.prog.info? 25).map (·.size) = some (scL st c d).length := by
  rw [info25]; simp [scL, hd]
theorem range_of {w : World} {b : Nat} {st c : Int} {d : List UInt8} {t : TypeId} {fr : Nat × Nat} (h : w.heap[b]? = some (.cells (sc st c d) t fr)) : w.rangeAt b 0 (scL st c d) := by
  intro j v hj
  rw [Nat.zero_add, blk_cell h j]
  have e : (sc st c d) = (scL st c d).toArray := rfl
  rw [e, List.getElem?_toArray]; exact hj
theorem LX.range1 {st c st' c' : Int} {d d' : List UInt8} {w0 w : World} (hd : d.length = 52) (hd' : d'.length = 52) (h : LX st c st' c' d d' w0 w) : w.rangeAt w0.heap.size 0 (scL st c d) := range_of h.1.b1
theorem LX.range2 {st c st' c' : Int} {d d' : List UInt8} {w0 w : World} (hd : d.length = 52) (hd' : d'.length = 52) (h : LX st c st' c' d d' w0 w) : w.rangeAt (w0.heap.size + 1) 0 (scL st' c' d') := range_of h.1.b2
theorem may_no {c : Int} {d : List UInt8} (h : decide (1 ≤ c ∧ c ≤ 65535 ∧ d.length = 52) = false) (w : World) : Calls Try.prog 10 #[.int .i64 c, .string (sB d)] w fun e w' => e = .returned (.bool false) ∧ Below w.heap.size w w' := by
  have := may_any c d w
  rwa [h] at this
theorem may_yes {c : Int} {d : List UInt8} (h : decide (1 ≤ c ∧ c ≤ 65535 ∧ d.length = 52) = true) (w : World) : Calls Try.prog 10 #[.int .i64 c, .string (sB d)] w fun e w' => e = .returned (.bool true) ∧ Below w.heap.size w w' := by
  have := may_any c d w
  rwa [h] at this
theorem made_bytes (m : Nat) : madeCells (Value.int .u8 0).cells m = ((List.replicate m (0 : UInt8)).map bv).toArray := by
  apply Array.ext
  · simp [madeCells]
  · intro i h1 h2
    simp [madeCells, Value.cells, bv, Nat.mod_one]
section
variable {ops : Array Oper} {rest : List Oper} {o : Oper} {a : Act} {w : World} {Q : Exit → Act → World → Prop}
theorem wpList_load25 (hw : Region.wanted o (yielded ops a.tmps) = true) (x : Operand) (ho : o.op = .load 25 x) (b : Nat) (hx : a.eval x = .pointer (some ⟨b, 0, none⟩)) (st c : Int) (d : List UInt8) (hd : d.length = 52)
    (hr : w.rangeAt b 0 (scL st c d)) (h : wpList Try.prog ops Q rest (a.put o.dst (.agg (sc st c d))) w) : wpList Try.prog ops Q (o :: rest) a w :=
  wpList_step fun K hK => by rw [if_pos hw]; exact wp_load_mid 25 x ho b 0 hx (scL st c d) _ hr Try.underlying25 rfl (scL_info st c hd) (hK _ _ h)
theorem wpList_val {v : Value} (hw : Region.wanted o (yielded ops a.tmps) = true) (hv : (execOp a.eval o).run Try.prog w = .ok (.value v) w) (h : wpList Try.prog ops Q rest (a.put o.dst v) w) : wpList Try.prog ops Q (o :: rest) a w :=
  wpList_step fun K hK => by
    rw [if_pos hw]
    simp only [Oper.wp, hv, Oper.upon]
    exact hK _ _ h
theorem wpList_skip (hw : Region.wanted o (yielded ops a.tmps) = false) (h : wpList Try.prog ops Q rest (a.put o.dst undef) w) : wpList Try.prog ops Q (o :: rest) a w :=
  wpList_step fun K hK => by rw [if_neg (by rw [hw]; decide)]; exact hK _ _ h
end
def zL : List UInt8 := List.replicate 64 0
theorem zL_length : zL.length = 64 := by simp [zL]
theorem info_parts5 : ∃ i, Try.prog.info? 5 = some i ∧ i.zero = some (.int .u8 0) ∧ i.size = 1 ∧ i.bytes = 1 := by
  refine ⟨_, rfl, ?_, ?_, ?_⟩ <;> kernel_rfl
/-- A text of bytes 0. -/
theorem zeros64 (w : World) : ∃ w', (Instr.makeSlice 39 (.int .i64 64) (.int .i64 64)).run Try.prog w = .ok (.slice (some ⟨w.heap.size, 0, none⟩) 64 64) w' ∧
    (convert 39 9 (.slice (some ⟨w.heap.size, 0, none⟩) 64 64)).run Try.prog w' = .ok (.string (sB zL)) w' ∧ Below w.heap.size w w' := by
  obtain ⟨i0, hi, hz0, hz1, hz2⟩ := info_parts5
  have km := run_makeSlice (P := Try.prog) (w := w) 39 5 i0 (.int .u8 0) Try.underlying39 hi hz0 .i64 .i64 64 64 (by omega) (by omega) (by rw [hz1]; simp) (by rw [hz2]; omega) (by omega)
  refine ⟨_, km, ?_, (Below.refl _ _).alloc (Nat.le_refl _) _⟩
  have e : madeCells (Value.int .u8 0).cells ((64 : Int).toNat * i0.size) = ((List.replicate 64 (0 : UInt8)).map bv).toArray := by rw [hz1]; exact made_bytes 64
  rw [e]
  exact brow_string (P := Try.prog) (ABlk.row (l := List.replicate 64 0) (t := 5) (heap_new _ _)) 39 9 5 64 64 (by simp) Try.underlying39 Try.underlying5 Try.underlying9
end Go.Proofs.Ytndkbmpdanbkjaa.Own
