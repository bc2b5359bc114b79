/- The two structs of a law in their boxes. -/
import Derived.Test.YtndkbmpdanbkjaaPu
namespace Go.Proofs.Ytndkbmpdanbkjaa.Own
open Go.RowKit
set_option maxRecDepth 100000
set_option linter.unusedSimpArgs false
set_option linter.unusedVariables false
def gc (d : List UInt8) (j : Nat) : Value := (d.map bv).getD (j - 2) undef
theorem sc_lit (st c : Int) {d : List UInt8} (hd : d.length = 52) : (#[.int .u32 st, .int .i64 c, gc d 2, gc d 3, gc d 4, gc d 5, gc d 6, gc d 7, gc d 8, gc d 9, gc d 10, gc d 11, gc d 12, gc d 13, gc d 14, gc d 15, gc d 16, gc d 17, gc d 18, gc d 19, gc d 20, gc d 21, gc d 22, gc d 23, gc d 24, gc d 25, gc d 26, gc d 27, gc d 28, gc d 29, gc d 30, gc d 31, gc d 32, gc d 33, gc d 34, gc d 35, gc d 36, gc d 37, gc d 38, gc d 39, gc d 40, gc d 41, gc d 42, gc d 43, gc d 44, gc d 45, gc d 46, gc d 47, gc d 48, gc d 49, gc d 50, gc d 51, gc d 52, gc d 53] : Array Value) = sc st c d := by
  have h : d.map bv = (List.range 52).map fun j => gc d (j + 2) := by
    apply List.ext_getElem
    · simp [hd]
    · intro i h1 h2
      simp only [List.length_map] at h1
      simp [gc, h1, List.getD_eq_getElem?_getD]
  unfold sc
  rw [h]
  rfl
theorem gc_cell {w : World} {b : Nat} {st c : Int} {d : List UInt8} {t : TypeId} {fr : Nat × Nat} (hd : d.length = 52) (h : w.heap[b]? = some (.cells (sc st c d) t fr)) : ∀ j, 2 ≤ j → j < 54 → w.cell? ⟨b, j, none⟩ = some (gc d j) := by
  intro j h2 h5
  rw [blk_cell h j]
  obtain ⟨i, rfl⟩ : ∃ i, j = 2 + i := ⟨j - 2, by omega⟩
  rw [sc_get st c d i (by omega)]
  simp [gc, List.getD_eq_getElem?_getD, show i < d.length by omega]
structure BX (st c st' c' : Int) (d d' : List UInt8) (w0 w : World) : Prop where
  b1 : w.heap[w0.heap.size]? = some (.cells (sc st c d) 25 (0, 0))
  b2 : w.heap[w0.heap.size + 1]? = some (.cells (sc st' c' d') 25 (0, 0))
  bel : Below w0.heap.size w0 w
theorem BX.start (st c st' c' : Int) (d d' : List UInt8) (w0 : World) : BX st c st' c' d d' w0 ((w0.alloc (.cells (sc st c d) 25)).alloc (.cells (sc st' c' d') 25)) :=
  ⟨by rw [heap_old _ _ (by simp), heap_new], by simpa using heap_new (w0.alloc _) (.cells (sc st' c' d') 25), ((Below.refl _ _).alloc (Nat.le_refl _) _).alloc (by simp) _⟩
theorem BX.below {st c st' c' : Int} {d d' : List UInt8} {w0 w w1 : World} (h : BX st c st' c' d d' w0 w) (hb : Below w.heap.size w w1) : BX st c st' c' d d' w0 w1 :=
  ⟨blk_below h.b1 hb, blk_below h.b2 hb, below_two h.bel hb⟩
theorem BX.drew {st c st' c' : Int} {d d' : List UInt8} {w0 w : World} (h : BX st c st' c' d d' w0 w) : BX st c st' c' d d' w0 w.drew := ⟨h.b1, h.b2, h.bel.drew⟩
def LX (st c st' c' : Int) (d d' : List UInt8) (w0 w : World) : Prop :=
  BX st c st' c' d d' w0 w ∧ w.cell? ⟨w0.heap.size, 0, none⟩ = some (.int .u32 st) ∧ w.cell? ⟨w0.heap.size, 1, none⟩ = some (.int .i64 c) ∧ w.cell? ⟨w0.heap.size + 1, 0, none⟩ = some (.int .u32 st') ∧ w.cell? ⟨w0.heap.size + 1, 1, none⟩ = some (.int .i64 c') ∧
  (∀ j, 2 ≤ j → j < 54 → w.cell? ⟨w0.heap.size, j, none⟩ = some (gc d j)) ∧ (∀ j, 2 ≤ j → j < 54 → w.cell? ⟨w0.heap.size + 1, j, none⟩ = some (gc d' j))
theorem BX.lx {st c st' c' : Int} {d d' : List UInt8} {w0 w : World} (hd : d.length = 52) (hd' : d'.length = 52) (h : BX st c st' c' d d' w0 w) : LX st c st' c' d d' w0 w :=
  ⟨h, blk_cell h.b1 0, blk_cell h.b1 1, blk_cell h.b2 0, blk_cell h.b2 1, gc_cell hd h.b1, gc_cell hd' h.b2⟩
theorem LX.drew {st c st' c' : Int} {d d' : List UInt8} {w0 w : World} (hd : d.length = 52) (hd' : d'.length = 52) (h : LX st c st' c' d d' w0 w) : LX st c st' c' d d' w0 w.drew := h.1.drew.lx hd hd'
theorem LX.below {st c st' c' : Int} {d d' : List UInt8} {w0 w w1 : World} (hd : d.length = 52) (hd' : d'.length = 52) (h : LX st c st' c' d d' w0 w) (hb : Below w.heap.size w w1) : LX st c st' c' d d' w0 w1 := (h.1.below hb).lx hd hd'
end Go.Proofs.Ytndkbmpdanbkjaa.Own
