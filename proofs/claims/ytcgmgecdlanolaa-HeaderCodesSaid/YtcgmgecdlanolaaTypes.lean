/- The Go structs that this seat's arguments hold, as Lean structures: written by a program of this claim. -/
import Derived.Test.YtcgmgecdlanolaaOpen
namespace Go.Proofs.Ytcgmgecdlanolaa.Own
open Go.RowKit Go.ChangeShapes Go.WideShapes
set_option linter.unusedVariables false
set_option linter.unusedSimpArgs false

theorem cells_24 : Try.prog.cellsOf 24 = 4 := by kernel_rfl
theorem cells_3 : Try.prog.cellsOf 3 = 1 := by kernel_rfl
theorem cells_22 : Try.prog.cellsOf 22 = 1 := by kernel_rfl
structure Hdr where
  log : Int
  gen : Int
  stamp : Int
  base : Int
def Hdr.cells (r : Hdr) : List Value := [.int .i64 r.log] ++ [.int .u32 r.gen] ++ [.int .u32 r.stamp] ++ [.int .i64 r.base]
def Hdr.ok (w : World) (r : Hdr) : Prop := (Lit.int .i64 r.log).wf = true ∧ (Lit.int .u32 r.gen).wf = true ∧ (Lit.int .u32 r.stamp).wf = true ∧ (Lit.int .i64 r.base).wf = true
theorem parse_Hdr {H : Type} {enc : TypeId × Value → H} {w : World} {base : Nat} {spare : Nat → Bool} {held : Bool} {n : Nat} {cs : List Value} {x : DataW H × List MemPlace}
    (h : DataW.trod enc Try.prog w base spare held n 24 cs = some x) (hl : cs.length = 4) : ∃ r : Hdr, cs = r.cells ∧ r.ok w := by
  obtain ⟨xs, m, _, rfl, hlen, hxl, hf⟩ := DataW.trod_struct Try.underlying24 h
  clear hlen
  have hlen := hl
  have g0 : DataW.trod enc Try.prog w base spare held m 3 ((cs.drop 0).take (Try.prog.cellsOf 3)) = xs[0]? := hf 0 _ rfl
  rw [cells_3, List.getElem?_eq_getElem (show 0 < xs.length by rw [hxl]; decide)] at g0
  obtain ⟨z0, e0, _, w0⟩ := DataW.trod_int Try.underlying3 g0
  have g1 : DataW.trod enc Try.prog w base spare held m 22 ((cs.drop 1).take (Try.prog.cellsOf 22)) = xs[1]? := hf 1 _ rfl
  rw [cells_22, List.getElem?_eq_getElem (show 1 < xs.length by rw [hxl]; decide)] at g1
  obtain ⟨z1, e1, _, w1⟩ := DataW.trod_int Try.underlying22 g1
  have g2 : DataW.trod enc Try.prog w base spare held m 22 ((cs.drop 2).take (Try.prog.cellsOf 22)) = xs[2]? := hf 2 _ rfl
  rw [cells_22, List.getElem?_eq_getElem (show 2 < xs.length by rw [hxl]; decide)] at g2
  obtain ⟨z2, e2, _, w2⟩ := DataW.trod_int Try.underlying22 g2
  have g3 : DataW.trod enc Try.prog w base spare held m 3 ((cs.drop 3).take (Try.prog.cellsOf 3)) = xs[3]? := hf 3 _ rfl
  rw [cells_3, List.getElem?_eq_getElem (show 3 < xs.length by rw [hxl]; decide)] at g3
  obtain ⟨z3, e3, _, w3⟩ := DataW.trod_int Try.underlying3 g3
  refine ⟨⟨z0, z1, z2, z3⟩, ?_, ⟨w0, w1, w2, w3⟩⟩
  show cs = [_] ++ [_] ++ [_] ++ [_]
  have step : ∀ (o c : Nat), cs.drop o = (cs.drop o).take c ++ cs.drop (o + c) := fun o c => by rw [← List.drop_drop, List.take_append_drop]
  have h0 : cs = cs.drop 0 := rfl
  rw [h0]
  rw [step 0 1, e0]
  rw [step 1 1, e1]
  rw [step 2 1, e2]
  rw [step 3 1, e3]
  rw [List.drop_of_length_le (show cs.length ≤ _ by rw [hl]; decide), List.append_nil]
  simp only [Hdr.cells, List.append_assoc]

end Go.Proofs.Ytcgmgecdlanolaa.Own
