/- The Go structs that this seat's arguments hold, as Lean structures: written by a program of this claim. -/
import Derived.Test.YtakbgaiedenikaaOpen
namespace Go.Proofs.Ytakbgaiedenikaa.Own
open Go.RowKit Go.ChangeShapes Go.WideShapes
set_option linter.unusedVariables false
set_option linter.unusedSimpArgs false

theorem cells_54 : Try.prog.cellsOf 54 = 8 := by kernel_rfl
theorem cells_3 : Try.prog.cellsOf 3 = 1 := by kernel_rfl
theorem cells_9 : Try.prog.cellsOf 9 = 1 := by kernel_rfl
theorem cells_4 : Try.prog.cellsOf 4 = 1 := by kernel_rfl
structure Rec where
  offset : Int
  tick : Int
  key : ByteArray
  value : ByteArray
  gone : Bool
  producer : Int
  seq : Int
  from_ : Int
def Rec.cells (r : Rec) : List Value := [.int .i64 r.offset] ++ [.int .i64 r.tick] ++ [.string r.key] ++ [.string r.value] ++ [.bool r.gone] ++ [.int .i64 r.producer] ++ [.int .i64 r.seq] ++ [.int .i64 r.from_]
def Rec.ok (w : World) (r : Rec) : Prop := (Lit.int .i64 r.offset).wf = true ∧ (Lit.int .i64 r.tick).wf = true ∧ r.key.size ≤ maxLen ∧ r.value.size ≤ maxLen ∧ (Lit.int .i64 r.producer).wf = true ∧ (Lit.int .i64 r.seq).wf = true ∧ (Lit.int .i64 r.from_).wf = true
theorem parse_Rec {H : Type} {enc : TypeId × Value → H} {w : World} {base : Nat} {spare : Nat → Bool} {held : Bool} {n : Nat} {cs : List Value} {x : DataW H × List MemPlace}
    (h : DataW.trod enc Try.prog w base spare held n 54 cs = some x) (hl : cs.length = 8) : ∃ r : Rec, cs = r.cells ∧ r.ok w := by
  obtain ⟨xs, m, _, rfl, hlen, hxl, hf⟩ := DataW.trod_struct Try.underlying54 h
  clear hlen
  have hlen := hl
  have g0 : DataW.trod enc Try.prog w base spare held m 3 ((cs.drop 0).take (Try.prog.cellsOf 3)) = xs[0]? := hf 0 _ rfl
  rw [cells_3, List.getElem?_eq_getElem (show 0 < xs.length by rw [hxl]; decide)] at g0
  obtain ⟨z0, e0, _, w0⟩ := DataW.trod_int Try.underlying3 g0
  have g1 : DataW.trod enc Try.prog w base spare held m 3 ((cs.drop 1).take (Try.prog.cellsOf 3)) = xs[1]? := hf 1 _ rfl
  rw [cells_3, List.getElem?_eq_getElem (show 1 < xs.length by rw [hxl]; decide)] at g1
  obtain ⟨z1, e1, _, w1⟩ := DataW.trod_int Try.underlying3 g1
  have g2 : DataW.trod enc Try.prog w base spare held m 9 ((cs.drop 2).take (Try.prog.cellsOf 9)) = xs[2]? := hf 2 _ rfl
  rw [cells_9, List.getElem?_eq_getElem (show 2 < xs.length by rw [hxl]; decide)] at g2
  obtain ⟨z2, e2, _, w2⟩ := DataW.trod_string Try.underlying9 g2
  have g3 : DataW.trod enc Try.prog w base spare held m 9 ((cs.drop 3).take (Try.prog.cellsOf 9)) = xs[3]? := hf 3 _ rfl
  rw [cells_9, List.getElem?_eq_getElem (show 3 < xs.length by rw [hxl]; decide)] at g3
  obtain ⟨z3, e3, _, w3⟩ := DataW.trod_string Try.underlying9 g3
  have g4 : DataW.trod enc Try.prog w base spare held m 4 ((cs.drop 4).take (Try.prog.cellsOf 4)) = xs[4]? := hf 4 _ rfl
  rw [cells_4, List.getElem?_eq_getElem (show 4 < xs.length by rw [hxl]; decide)] at g4
  obtain ⟨z4, e4, _⟩ := DataW.trod_bool Try.underlying4 g4
  have g5 : DataW.trod enc Try.prog w base spare held m 3 ((cs.drop 5).take (Try.prog.cellsOf 3)) = xs[5]? := hf 5 _ rfl
  rw [cells_3, List.getElem?_eq_getElem (show 5 < xs.length by rw [hxl]; decide)] at g5
  obtain ⟨z5, e5, _, w5⟩ := DataW.trod_int Try.underlying3 g5
  have g6 : DataW.trod enc Try.prog w base spare held m 3 ((cs.drop 6).take (Try.prog.cellsOf 3)) = xs[6]? := hf 6 _ rfl
  rw [cells_3, List.getElem?_eq_getElem (show 6 < xs.length by rw [hxl]; decide)] at g6
  obtain ⟨z6, e6, _, w6⟩ := DataW.trod_int Try.underlying3 g6
  have g7 : DataW.trod enc Try.prog w base spare held m 3 ((cs.drop 7).take (Try.prog.cellsOf 3)) = xs[7]? := hf 7 _ rfl
  rw [cells_3, List.getElem?_eq_getElem (show 7 < xs.length by rw [hxl]; decide)] at g7
  obtain ⟨z7, e7, _, w7⟩ := DataW.trod_int Try.underlying3 g7
  refine ⟨⟨z0, z1, z2, z3, z4, z5, z6, z7⟩, ?_, ⟨w0, w1, w2, w3, w5, w6, w7⟩⟩
  show cs = [_] ++ [_] ++ [_] ++ [_] ++ [_] ++ [_] ++ [_] ++ [_]
  have step : ∀ (o c : Nat), cs.drop o = (cs.drop o).take c ++ cs.drop (o + c) := fun o c => by rw [← List.drop_drop, List.take_append_drop]
  have h0 : cs = cs.drop 0 := rfl
  rw [h0]
  rw [step 0 1, e0]
  rw [step 1 1, e1]
  rw [step 2 1, e2]
  rw [step 3 1, e3]
  rw [step 4 1, e4]
  rw [step 5 1, e5]
  rw [step 6 1, e6]
  rw [step 7 1, e7]
  rw [List.drop_of_length_le (show cs.length ≤ _ by rw [hl]; decide), List.append_nil]
  simp only [Rec.cells, List.append_assoc]

end Go.Proofs.Ytakbgaiedenikaa.Own
