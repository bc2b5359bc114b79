/- Arrays of bytes that fill a block. -/
import Derived.Test.YtmkipdleggkkkaaNumsP
namespace Go.Proofs.Ytmkipdleggkkkaa.Own
open Go.RowKit
def bv (b : UInt8) : Value := .int .u8 (b.toNat : Int)
/-- An array of bytes that fills a block. -/
def ABlk (w : World) (b : Nat) (l : List UInt8) (t : TypeId) : Prop := w.heap[b]? = some (.cells (l.map bv).toArray t (0, 0))
theorem ABlk.row {w : World} {b : Nat} {l : List UInt8} {t : TypeId} (h : ABlk w b l t) : BRow w b l :=
  ⟨fun j hj => by rw [blk_cell h]; simp [hj, bv], fun j _ => blk_free h j⟩
theorem ABlk.set {w : World} {b : Nat} {l : List UInt8} {t : TypeId} (h : ABlk w b l t) (i : Nat) (c : UInt8) : ABlk (w.setCell ⟨b, i, none⟩ (.int .u8 (c.toNat : Int))) b (l.set i c) t := by
  unfold ABlk
  rw [heap_set h]
  simp [List.map_set, bv]
theorem take_BRow {w : World} {b : Nat} {l : List UInt8} (h : BRow w b l) (n : Nat) : BRow w b (l.take n) :=
  ⟨fun j hj => by
    have hj' : j < l.length := by rw [List.length_take] at hj; omega
    rw [List.getElem_take]; exact h.1 j hj', fun j hj => h.2 j (by rw [List.length_take] at hj; omega)⟩
theorem str_some {s : ByteArray} (h : 1 ≤ s.size) : (¬ s.toList = []) ∧ s.toList.isEmpty = false := by
  have hne : ¬ s.toList = [] := by
    rw [Go.ByteArray.toList_eq]
    intro e
    have e2 : s.data.toList.length = 0 := by rw [e]; rfl
    have e3 : s.data.toList.length = s.size := by rw [Array.length_toList]; rfl
    omega
  exact ⟨hne, by simpa using hne⟩
end Go.Proofs.Ytmkipdleggkkkaa.Own
