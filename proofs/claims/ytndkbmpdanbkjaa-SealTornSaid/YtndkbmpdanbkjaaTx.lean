/- The data of a sealed sector. -/
import Derived.Test.YtndkbmpdanbkjaaWalk
namespace Go.Proofs.Ytndkbmpdanbkjaa.Own
open Go.RowKit
set_option maxRecDepth 100000
set_option linter.unusedSimpArgs false
set_option linter.unusedVariables false
/-- A sealed sector's cells. -/
def sc (st c : Int) (d : List UInt8) : Array Value := ⟨Value.int .u32 st :: Value.int .i64 c :: d.map bv⟩
theorem sc_get (st c : Int) (d : List UInt8) (j : Nat) (hj : j < d.length) : (sc st c d)[2 + j]? = some (bv d[j]) := by
  have e : 2 + j = j + 1 + 1 := by omega
  unfold sc
  rw [e]
  simp [hj]
theorem sc_text {w : World} {b : Nat} {st c : Int} {d : List UInt8} {t : TypeId} {fr : Nat × Nat} (hd : d.length = 52) (h : w.heap[b]? = some (.cells (sc st c d) t fr)) :
    (convert 39 9 (.slice (some ⟨b, 2, none⟩) 52 52)).run Try.prog w = .ok (.string (sB d)) w := by
  have := Go.run_convert_bytes_back (P := Try.prog) w 39 9 5 ⟨b, 2, none⟩ 52 d Try.underlying39 Try.underlying5 Try.underlying9 (fun j hj => by
    have e := blk_cell h (2 + j)
    rw [sc_get st c d j hj] at e
    simpa [Go.WideShapes.add_plain, bv] using e)
  rw [hd] at this
  exact this
theorem text_any (st c : Int) (d : List UInt8) (w : World) (hd : d.length = 52) :
    Calls Try.prog 9 #[.agg (sc st c d)] w fun e w' => e = .returned (.string (sB d)) ∧ Below w.heap.size w w' := by
  go_enter Try.func9, Try.ntmps9
  have k := sc_text (w := w.alloc (.cells (sc st c d) 25)) (b := w.heap.size) hd (heap_new _ _)
  go_wp2
  go_ret
  exact ⟨rfl, (Below.refl _ _).alloc (Nat.le_refl _) _⟩
end Go.Proofs.Ytndkbmpdanbkjaa.Own
