/- Arrays of bytes: copied into, and read as a string. -/
import Derived.Test.YtndkbmpdanbkjaaFixed
import Derived.Lib.BufferWrite
import Derived.Lib.SlBuf
namespace Go.Proofs.Ytndkbmpdanbkjaa.Own
open Go.RowKit
theorem byteCells_bv (l : List UInt8) : Lib.byteCells l = l.map bv := rfl
theorem heap_setRow {w : World} {b : Nat} {c c' : Array Value} {t : TypeId} {fr : Nat × Nat} (h : w.heap[b]? = some (.cells c t fr)) : (w.setRow b c').heap[b]? = some (.cells c' t fr) := by
  unfold World.setRow
  simp only [Array.getElem?_modify, if_pos]
  rw [h]
  rfl
theorem below_setRow {B : Nat} {w w1 : World} (h : Below B w w1) {b : Nat} (hb : B ≤ b) (c : Array Value) : Below B w (w1.setRow b c) :=
  h.trans ⟨rfl, rfl, rfl, by simp [World.setRow], fun k hk => by
    unfold World.setRow
    simp only [Array.getElem?_modify]
    rw [if_neg (by omega)]⟩
def spliced (l : List UInt8) (o : Nat) (s : List UInt8) : List UInt8 := l.take o ++ s ++ l.drop (o + s.length)
theorem spliced_length {l : List UInt8} {o : Nat} {s : List UInt8} (h : o + s.length ≤ l.length) : (spliced l o s).length = l.length := by
  unfold spliced
  simp
  omega
theorem copy_arr {P : Program} {w : World} {b : Nat} {l : List UInt8} {t : TypeId} (h : ABlk w b l t) (dT sT ty elem : TypeId) (o dLen dCap : Nat) (s : ByteArray)
    (hu : P.underlying dT = some (.slice elem)) (hs : (P.info? elem).map (·.size) = some 1) (hle : s.size ≤ dLen) (hfit : o + s.size ≤ l.length) :
    ∃ w', (Builtin.copy_ #[dT, sT] ty #[.slice (some ⟨b, o, none⟩) dLen dCap, .string s]).run P w = .ok (goInt s.size) w' ∧ ABlk w' b (spliced l o s.data.toList) t ∧ ∀ B W, B ≤ b → Below B W w → Below B W w' := by
  refine ⟨_, Lib.run_copy_row_string w dT sT ty elem b o dLen dCap s (l.map bv).toArray t hu hs h hle (by simpa using hfit), ?_, fun B W hB hbel => below_setRow hbel hB _⟩
  unfold ABlk
  rw [heap_setRow h]
  congr 3
  have e : s.data.toList.length = s.size := by rw [Array.length_toList]; rfl
  simp [spliced, byteCells_bv, e, List.map_take, List.map_drop]
end Go.Proofs.Ytndkbmpdanbkjaa.Own
