/- Rows of bytes that the call made: '[]byte(s)', and back. -/
import Derived.Test.YtekcidfipdjfdaaKit
import Derived.Lib.ConvBytes
import Derived.Laws.IdiomStrings
namespace Go.Proofs.Ytekcidfipdjfdaa.Own
open Go.RowKit
/-- A row of bytes at the head of a block, that may be written. -/
def BRow (w : World) (b : Nat) (l : List UInt8) : Prop :=
  (∀ (j : Nat) (h : j < l.length), w.cell? ⟨b, j, none⟩ = some (.int .u8 (l[j].toNat : Int))) ∧ ∀ j, j < l.length → w.frozen? ⟨b, j, none⟩ = false
theorem BRow.drew {w : World} {b : Nat} {l : List UInt8} (h : BRow w b l) : BRow w.drew b l := h
theorem BRow.below {w w1 : World} {b : Nat} {l : List UInt8} (h : BRow w b l) (hb : Below w.heap.size w w1) (hl : b < w.heap.size) : BRow w1 b l :=
  ⟨fun j hj => (hb.cell (p := ⟨b, j, none⟩) hl).trans (h.1 j hj), fun j hj => (hb.frozen (p := ⟨b, j, none⟩) hl).trans (h.2 j hj)⟩
theorem brow_new (w : World) (e : TypeId) (s : ByteArray) : BRow (Lib.bytesWorld w e s) w.heap.size s.data.toList := by
  refine ⟨fun j hj => ?_, fun j hj => ?_⟩
  · have hj' : j < s.size := by simpa using hj
    rw [Lib.bytesWorld_cell w e s j hj', List.getD_eq_getElem?_getD, List.getElem?_eq_getElem hj]
    rfl
  · have hj' : j < s.size := by simpa using hj
    have hsz : s.size ≤ (Lib.bytesCells w e s).size := by unfold Lib.bytesCells; simp
    unfold World.frozen?
    rw [Lib.bytesWorld_at_new]
    simp
    omega
theorem bytes_below (w : World) (e : TypeId) (s : ByteArray) : Below w.heap.size w (Lib.bytesWorld w e s) :=
  ⟨by simp [Lib.bytesWorld, World.freeze, World.alloc, World.drew, -World.alloc_eq, -World.drew_eq], by simp [Lib.bytesWorld, World.freeze, World.alloc, World.drew, -World.alloc_eq, -World.drew_eq], by simp [Lib.bytesWorld, World.freeze, World.alloc, World.drew, -World.alloc_eq, -World.drew_eq],
    by rw [Lib.bytesWorld_size]; omega, fun k hk => Lib.bytesWorld_at_old w e s k hk⟩
theorem BRow.set {w : World} {b : Nat} {l : List UInt8} (h : BRow w b l) (j : Nat) (hj : j < l.length) (c : UInt8) : BRow (w.setCell ⟨b, j, none⟩ (.int .u8 (c.toNat : Int))) b (l.set j c) := by
  refine ⟨fun i hi => ?_, fun i hi => ?_⟩
  · have hi' : i < l.length := by simpa using hi
    rw [List.getElem_set]
    by_cases e : j = i
    · subst e
      rw [if_pos rfl]
      exact World.cell?_setCell_same _ _ _ (h.1 j hj)
    · rw [if_neg e]
      rw [World.cell?_setCell_other _ _ _ _ (by first | (simp; done) | (simp; omega))]
      exact h.1 i hi'
  · have hi' : i < l.length := by simpa using hi
    rw [World.frozen?_setCell]
    exact h.2 i hi'
theorem brow_string {P : Program} {w : World} {b : Nat} {l : List UInt8} (h : BRow w b l) (src dst e : TypeId) (cap n : Nat) (hn : n = l.length) (hs : P.underlying src = some (.slice e)) (he : P.underlying e = some (.int .u8)) (hd : P.underlying dst = some .string) :
    (convert src dst (.slice (some ⟨b, 0, none⟩) n cap)).run P w = .ok (.string ⟨l.toArray⟩) w := by
  subst hn
  exact Go.run_convert_bytes_back w src dst e ⟨b, 0, none⟩ cap l hs he hd (fun j hj => by
    have := h.1 j hj
    simpa [Go.WideShapes.add_plain] using this)
end Go.Proofs.Ytekcidfipdjfdaa.Own
