/- The Go structs that this seat's arguments hold, as Lean structures: written by a program of this claim. -/
import Derived.Test.YtekcidfipdjfdaaOpen
namespace Go.Proofs.Ytekcidfipdjfdaa.Own
open Go.RowKit Go.ChangeShapes Go.WideShapes
set_option linter.unusedVariables false
set_option linter.unusedSimpArgs false

theorem cells_68 : Try.prog.cellsOf 68 = 2 := by kernel_rfl
theorem cells_3 : Try.prog.cellsOf 3 = 1 := by kernel_rfl
structure Keep where
  index : Int
  bytes : Int
def Keep.cells (r : Keep) : List Value := [.int .i64 r.index] ++ [.int .i64 r.bytes]
def Keep.ok (w : World) (r : Keep) : Prop := (Lit.int .i64 r.index).wf = true ∧ (Lit.int .i64 r.bytes).wf = true
theorem parse_Keep {H : Type} {enc : TypeId × Value → H} {w : World} {base : Nat} {spare : Nat → Bool} {held : Bool} {n : Nat} {cs : List Value} {x : DataW H × List MemPlace}
    (h : DataW.trod enc Try.prog w base spare held n 68 cs = some x) (hl : cs.length = 2) : ∃ r : Keep, cs = r.cells ∧ r.ok w := by
  obtain ⟨xs, m, _, rfl, hlen, hxl, hf⟩ := DataW.trod_struct Try.underlying68 h
  clear hlen
  have hlen := hl
  have g0 : DataW.trod enc Try.prog w base spare held m 3 ((cs.drop 0).take (Try.prog.cellsOf 3)) = xs[0]? := hf 0 _ rfl
  rw [cells_3, List.getElem?_eq_getElem (show 0 < xs.length by rw [hxl]; decide)] at g0
  obtain ⟨z0, e0, _, w0⟩ := DataW.trod_int Try.underlying3 g0
  have g1 : DataW.trod enc Try.prog w base spare held m 3 ((cs.drop 1).take (Try.prog.cellsOf 3)) = xs[1]? := hf 1 _ rfl
  rw [cells_3, List.getElem?_eq_getElem (show 1 < xs.length by rw [hxl]; decide)] at g1
  obtain ⟨z1, e1, _, w1⟩ := DataW.trod_int Try.underlying3 g1
  refine ⟨⟨z0, z1⟩, ?_, ⟨w0, w1⟩⟩
  show cs = [_] ++ [_]
  have step : ∀ (o c : Nat), cs.drop o = (cs.drop o).take c ++ cs.drop (o + c) := fun o c => by rw [← List.drop_drop, List.take_append_drop]
  have h0 : cs = cs.drop 0 := rfl
  rw [h0]
  rw [step 0 1, e0]
  rw [step 1 1, e1]
  rw [List.drop_of_length_le (show cs.length ≤ _ by rw [hl]; decide), List.append_nil]
  try simp only [Keep.cells, List.append_assoc]

theorem cells_35 : Try.prog.cellsOf 35 = 5 := by kernel_rfl
theorem cells_5 : Try.prog.cellsOf 5 = 1 := by kernel_rfl
theorem cells_33 : Try.prog.cellsOf 33 = 1 := by kernel_rfl
structure Act where
  kind : Int
  at_ : Int
  n : Int
  c : Int
  keepsA : Option Addr
  keepsN : Nat
  keepsC : Nat
  keeps : List Keep
def Act.cells (r : Act) : List Value := [.int .i64 r.kind] ++ [.int .i64 r.at_] ++ [.int .i64 r.n] ++ [.int .u8 r.c] ++ [.slice r.keepsA r.keepsN r.keepsC]
def Act.ok (w : World) (r : Act) : Prop := (Lit.int .i64 r.kind).wf = true ∧ (Lit.int .i64 r.at_).wf = true ∧ (Lit.int .i64 r.n).wf = true ∧ (Lit.int .u8 r.c).wf = true ∧ Row w 2 Keep.cells r.keepsA r.keepsN r.keeps ∧ (∀ x ∈ r.keeps, Keep.ok w x) ∧ r.keepsN ≤ r.keepsC
theorem parse_Act {H : Type} {enc : TypeId × Value → H} {w : World} {base : Nat} {spare : Nat → Bool} {held : Bool} {n : Nat} {cs : List Value} {x : DataW H × List MemPlace}
    (h : DataW.trod enc Try.prog w base spare held n 35 cs = some x) (hl : cs.length = 5) : ∃ r : Act, cs = r.cells ∧ r.ok w := by
  obtain ⟨xs, m, _, rfl, hlen, hxl, hf⟩ := DataW.trod_struct Try.underlying35 h
  clear hlen
  have hlen := hl
  have g0 : DataW.trod enc Try.prog w base spare held m 3 ((cs.drop 0).take (Try.prog.cellsOf 3)) = xs[0]? := hf 0 _ rfl
  rw [cells_3, List.getElem?_eq_getElem (show 0 < xs.length by rw [hxl]; decide)] at g0
  obtain ⟨z0, e0, _, w0⟩ := DataW.trod_int Try.underlying3 g0
  have g1 : DataW.trod enc Try.prog w base spare held m 3 ((cs.drop 1).take (Try.prog.cellsOf 3)) = xs[1]? := hf 1 _ rfl
  rw [cells_3, List.getElem?_eq_getElem (show 1 < xs.length by rw [hxl]; decide)] at g1
  obtain ⟨z1, e1, _, w1⟩ := DataW.trod_int Try.underlying3 g1
  have g2 : DataW.trod enc Try.prog w base spare held m 3 ((cs.drop 2).take (Try.prog.cellsOf 3)) = xs[2]? := hf 2 _ rfl
  rw [cells_3, List.getElem?_eq_getElem (show 2 < xs.length by rw [hxl]; decide)] at g2
  obtain ⟨z2, e2, _, w2⟩ := DataW.trod_int Try.underlying3 g2
  have g3 : DataW.trod enc Try.prog w base spare held m 5 ((cs.drop 3).take (Try.prog.cellsOf 5)) = xs[3]? := hf 3 _ rfl
  rw [cells_5, List.getElem?_eq_getElem (show 3 < xs.length by rw [hxl]; decide)] at g3
  obtain ⟨z3, e3, _, w3⟩ := DataW.trod_int Try.underlying5 g3
  have g4 : DataW.trod enc Try.prog w base spare held m 33 ((cs.drop 4).take (Try.prog.cellsOf 33)) = xs[4]? := hf 4 _ rfl
  rw [cells_33, List.getElem?_eq_getElem (show 4 < xs.length by rw [hxl]; decide)] at g4
  obtain ⟨y4, n4, c4, e4⟩ := Go.Joins.slice_form Try.underlying33 g4
  rw [e4] at g4
  obtain ⟨z4, k4, w4⟩ := open_row (w := w) (cells := Keep.cells) (okk := Keep.ok w) Try.underlying33 cells_68 (by decide) (fun h1 h2 => parse_Keep h1 h2) (show DataW.Trod enc Try.prog w base spare held 33 (.slice y4 n4 c4) _ _ from ⟨m, g4⟩)
  refine ⟨⟨z0, z1, z2, z3, y4, n4, c4, z4⟩, ?_, ⟨w0, w1, w2, w3, k4, w4, open_cap Try.underlying33 (show DataW.Trod enc Try.prog w base spare held 33 (.slice y4 n4 c4) _ _ from ⟨m, g4⟩)⟩⟩
  show cs = [_] ++ [_] ++ [_] ++ [_] ++ [_]
  have step : ∀ (o c : Nat), cs.drop o = (cs.drop o).take c ++ cs.drop (o + c) := fun o c => by rw [← List.drop_drop, List.take_append_drop]
  have h0 : cs = cs.drop 0 := rfl
  rw [h0]
  rw [step 0 1, e0]
  rw [step 1 1, e1]
  rw [step 2 1, e2]
  rw [step 3 1, e3]
  rw [step 4 1, e4]
  rw [List.drop_of_length_le (show cs.length ≤ _ by rw [hl]; decide), List.append_nil]
  try simp only [Act.cells, List.append_assoc]

end Go.Proofs.Ytekcidfipdjfdaa.Own
