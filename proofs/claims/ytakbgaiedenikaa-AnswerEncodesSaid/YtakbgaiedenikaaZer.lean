/- A text of bytes 0. -/
import Derived.Test.YtakbgaiedenikaaOpen
import Derived.Test.YtakbgaiedenikaaBase
namespace Go.Proofs.Ytakbgaiedenikaa.Own
open Go.RowKit
set_option linter.unusedVariables false
set_option maxRecDepth 100000
theorem made_bytes (m : Nat) : madeCells (Value.int .u8 0).cells m = ((List.replicate m (0 : UInt8)).map bv).toArray := by
  apply Array.ext
  · simp [madeCells]
  · intro i h1 h2
    simp [madeCells, Value.cells, bv, Nat.mod_one]
theorem info_parts5 : ∃ i, Try.prog.info? 5 = some i ∧ i.zero = some (.int .u8 0) ∧ i.size = 1 ∧ i.bytes = 1 := by
  refine ⟨_, rfl, ?_, ?_, ?_⟩ <;> kernel_rfl
theorem zerosN (n : Nat) (w : World) (hn : n ≤ 600) : ∃ w', (Instr.makeSlice 74 (.int .i64 (n : Int)) (.int .i64 (n : Int))).run Try.prog w = .ok (.slice (some ⟨w.heap.size, 0, none⟩) n n) w' ∧
    (convert 74 9 (.slice (some ⟨w.heap.size, 0, none⟩) n n)).run Try.prog w' = .ok (.string (sB (List.replicate n 0))) w' ∧ Below w.heap.size w w' := by
  obtain ⟨i0, hi, hz0, hz1, hz2⟩ := info_parts5
  have km := run_makeSlice (P := Try.prog) (w := w) 74 5 i0 (.int .u8 0) Try.underlying74 hi hz0 .i64 .i64 (n : Int) (n : Int) (by omega) (by omega) (by rw [hz1]; simp; omega) (by rw [hz2]; omega) (by omega)
  refine ⟨_, km, ?_, (Below.refl _ _).alloc (Nat.le_refl _) _⟩
  have e : madeCells (Value.int .u8 0).cells ((n : Int).toNat * i0.size) = ((List.replicate n (0 : UInt8)).map bv).toArray := by rw [hz1, Nat.mul_one, Int.toNat_natCast]; exact made_bytes n
  rw [e]
  exact brow_string (P := Try.prog) (ABlk.row (l := List.replicate n 0) (t := 5) (heap_new _ _)) 74 9 5 n n (by simp) Try.underlying74 Try.underlying5 Try.underlying9
end Go.Proofs.Ytakbgaiedenikaa.Own
