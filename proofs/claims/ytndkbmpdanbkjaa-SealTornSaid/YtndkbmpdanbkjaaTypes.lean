/- The Go structs that this seat's arguments hold, as Lean structures: written by a program of this claim. -/
import Derived.Test.YtndkbmpdanbkjaaOpen
namespace Go.Proofs.Ytndkbmpdanbkjaa.Own
open Go.RowKit Go.ChangeShapes Go.WideShapes
set_option linter.unusedVariables false
set_option linter.unusedSimpArgs false

theorem cells_25 : Try.prog.cellsOf 25 = 54 := by kernel_rfl
theorem cells_22 : Try.prog.cellsOf 22 = 1 := by kernel_rfl
theorem cells_3 : Try.prog.cellsOf 3 = 1 := by kernel_rfl
theorem cells_23 : Try.prog.cellsOf 23 = 52 := by kernel_rfl
theorem cells_5 : Try.prog.cellsOf 5 = 1 := by kernel_rfl
structure Sealed where
  stamp : Int
  count : Int
  data : List Int
def Sealed.cells (r : Sealed) : List Value := [.int .u32 r.stamp] ++ [.int .i64 r.count] ++ r.data.map (Value.int .u8)
def Sealed.ok (w : World) (r : Sealed) : Prop := (Lit.int .u32 r.stamp).wf = true ∧ (Lit.int .i64 r.count).wf = true ∧ r.data.length = 52 ∧ (∀ z ∈ r.data, (Lit.int .u8 z).wf = true)
theorem parse_Sealed {H : Type} {enc : TypeId × Value → H} {w : World} {base : Nat} {spare : Nat → Bool} {held : Bool} {n : Nat} {cs : List Value} {x : DataW H × List MemPlace}
    (h : DataW.trod enc Try.prog w base spare held n 25 cs = some x) (hl : cs.length = 54) : ∃ r : Sealed, cs = r.cells ∧ r.ok w := by
  obtain ⟨xs, m, _, rfl, hlen, hxl, hf⟩ := DataW.trod_struct Try.underlying25 h
  clear hlen
  have hlen := hl
  have g0 : DataW.trod enc Try.prog w base spare held m 22 ((cs.drop 0).take (Try.prog.cellsOf 22)) = xs[0]? := hf 0 _ rfl
  rw [cells_22, List.getElem?_eq_getElem (show 0 < xs.length by rw [hxl]; decide)] at g0
  obtain ⟨z0, e0, _, w0⟩ := DataW.trod_int Try.underlying22 g0
  have g1 : DataW.trod enc Try.prog w base spare held m 3 ((cs.drop 1).take (Try.prog.cellsOf 3)) = xs[1]? := hf 1 _ rfl
  rw [cells_3, List.getElem?_eq_getElem (show 1 < xs.length by rw [hxl]; decide)] at g1
  obtain ⟨z1, e1, _, w1⟩ := DataW.trod_int Try.underlying3 g1
  have g2 : DataW.trod enc Try.prog w base spare held m 23 ((cs.drop 2).take (Try.prog.cellsOf 23)) = xs[2]? := hf 2 _ rfl
  rw [cells_23, List.getElem?_eq_getElem (show 2 < xs.length by rw [hxl]; decide)] at g2
  obtain ⟨z2, l2, e2, w2⟩ := open_arr Try.underlying23 Try.underlying5 cells_5 cells_23 g2
  refine ⟨⟨z0, z1, z2⟩, ?_, ⟨w0, w1, l2, w2⟩⟩
  show cs = [_] ++ [_] ++ _
  have step : ∀ (o c : Nat), cs.drop o = (cs.drop o).take c ++ cs.drop (o + c) := fun o c => by rw [← List.drop_drop, List.take_append_drop]
  have h0 : cs = cs.drop 0 := rfl
  rw [h0]
  rw [step 0 1, e0]
  rw [step 1 1, e1]
  rw [step 2 52, e2]
  rw [List.drop_of_length_le (show cs.length ≤ _ by rw [hl]; decide), List.append_nil]
  simp only [Sealed.cells, List.append_assoc]

end Go.Proofs.Ytndkbmpdanbkjaa.Own
