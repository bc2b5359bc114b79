/- The Go structs that this seat's arguments hold, as Lean structures: written by a program of this claim. -/
import Derived.Test.YtakbgaiedenikaaOpen
namespace Go.Proofs.Ytakbgaiedenikaa.Own
open Go.RowKit Go.ChangeShapes Go.WideShapes
set_option linter.unusedVariables false
set_option linter.unusedSimpArgs false

theorem cells_54 : Try.prog.cellsOf 54 = 8 := by kernel_rfl
theorem cells_3 : Try.prog.cellsOf 3 = 1 := by kernel_rfl
theorem cells_9 : Try.prog.cellsOf 9 = 1 := by kernel_rfl
theorem cells_4 : Try.prog.cellsOf 4 = 1 := by kernel_rfl
structure Rec where
  offset : Int
  tick : Int
  key : ByteArray
  value : ByteArray
  gone : Bool
  producer : Int
  seq : Int
  from_ : Int
def Rec.cells (r : Rec) : List Value := [.int .i64 r.offset] ++ [.int .i64 r.tick] ++ [.string r.key] ++ [.string r.value] ++ [.bool r.gone] ++ [.int .i64 r.producer] ++ [.int .i64 r.seq] ++ [.int .i64 r.from_]
def Rec.ok (w : World) (r : Rec) : Prop := (Lit.int .i64 r.offset).wf = true ∧ (Lit.int .i64 r.tick).wf = true ∧ r.key.size ≤ maxLen ∧ r.value.size ≤ maxLen ∧ (Lit.int .i64 r.producer).wf = true ∧ (Lit.int .i64 r.seq).wf = true ∧ (Lit.int .i64 r.from_).wf = true
theorem parse_Rec {H : Type} {enc : TypeId × Value → H} {w : World} {base : Nat} {spare : Nat → Bool} {held : Bool} {n : Nat} {cs : List Value} {x : DataW H × List MemPlace}
    (h : DataW.trod enc Try.prog w base spare held n 54 cs = some x) (hl : cs.length = 8) : ∃ r : Rec, cs = r.cells ∧ r.ok w := by
  obtain ⟨xs, m, _, rfl, hlen, hxl, hf⟩ := DataW.trod_struct Try.underlying54 h
  clear hlen
  have hlen := hl
  have g0 : DataW.trod enc Try.prog w base spare held m 3 ((cs.drop 0).take (Try.prog.cellsOf 3)) = xs[0]? := hf 0 _ rfl
  rw [cells_3, List.getElem?_eq_getElem (show 0 < xs.length by rw [hxl]; decide)] at g0
  obtain ⟨z0, e0, _, w0⟩ := DataW.trod_int Try.underlying3 g0
  have g1 : DataW.trod enc Try.prog w base spare held m 3 ((cs.drop 1).take (Try.prog.cellsOf 3)) = xs[1]? := hf 1 _ rfl
  rw [cells_3, List.getElem?_eq_getElem (show 1 < xs.length by rw [hxl]; decide)] at g1
  obtain ⟨z1, e1, _, w1⟩ := DataW.trod_int Try.underlying3 g1
  have g2 : DataW.trod enc Try.prog w base spare held m 9 ((cs.drop 2).take (Try.prog.cellsOf 9)) = xs[2]? := hf 2 _ rfl
  rw [cells_9, List.getElem?_eq_getElem (show 2 < xs.length by rw [hxl]; decide)] at g2
  obtain ⟨z2, e2, _, w2⟩ := DataW.trod_string Try.underlying9 g2
  have g3 : DataW.trod enc Try.prog w base spare held m 9 ((cs.drop 3).take (Try.prog.cellsOf 9)) = xs[3]? := hf 3 _ rfl
  rw [cells_9, List.getElem?_eq_getElem (show 3 < xs.length by rw [hxl]; decide)] at g3
  obtain ⟨z3, e3, _, w3⟩ := DataW.trod_string Try.underlying9 g3
  have g4 : DataW.trod enc Try.prog w base spare held m 4 ((cs.drop 4).take (Try.prog.cellsOf 4)) = xs[4]? := hf 4 _ rfl
  rw [cells_4, List.getElem?_eq_getElem (show 4 < xs.length by rw [hxl]; decide)] at g4
  obtain ⟨z4, e4, _⟩ := DataW.trod_bool Try.underlying4 g4
  have g5 : DataW.trod enc Try.prog w base spare held m 3 ((cs.drop 5).take (Try.prog.cellsOf 3)) = xs[5]? := hf 5 _ rfl
  rw [cells_3, List.getElem?_eq_getElem (show 5 < xs.length by rw [hxl]; decide)] at g5
  obtain ⟨z5, e5, _, w5⟩ := DataW.trod_int Try.underlying3 g5
  have g6 : DataW.trod enc Try.prog w base spare held m 3 ((cs.drop 6).take (Try.prog.cellsOf 3)) = xs[6]? := hf 6 _ rfl
  rw [cells_3, List.getElem?_eq_getElem (show 6 < xs.length by rw [hxl]; decide)] at g6
  obtain ⟨z6, e6, _, w6⟩ := DataW.trod_int Try.underlying3 g6
  have g7 : DataW.trod enc Try.prog w base spare held m 3 ((cs.drop 7).take (Try.prog.cellsOf 3)) = xs[7]? := hf 7 _ rfl
  rw [cells_3, List.getElem?_eq_getElem (show 7 < xs.length by rw [hxl]; decide)] at g7
  obtain ⟨z7, e7, _, w7⟩ := DataW.trod_int Try.underlying3 g7
  refine ⟨⟨z0, z1, z2, z3, z4, z5, z6, z7⟩, ?_, ⟨w0, w1, w2, w3, w5, w6, w7⟩⟩
  show cs = [_] ++ [_] ++ [_] ++ [_] ++ [_] ++ [_] ++ [_] ++ [_]
  have step : ∀ (o c : Nat), cs.drop o = (cs.drop o).take c ++ cs.drop (o + c) := fun o c => by rw [← List.drop_drop, List.take_append_drop]
  have h0 : cs = cs.drop 0 := rfl
  rw [h0]
  rw [step 0 1, e0]
  rw [step 1 1, e1]
  rw [step 2 1, e2]
  rw [step 3 1, e3]
  rw [step 4 1, e4]
  rw [step 5 1, e5]
  rw [step 6 1, e6]
  rw [step 7 1, e7]
  rw [List.drop_of_length_le (show cs.length ≤ _ by rw [hl]; decide), List.append_nil]
  simp only [Rec.cells, List.append_assoc]

theorem cells_27 : Try.prog.cellsOf 27 = 8 := by kernel_rfl
theorem cells_22 : Try.prog.cellsOf 22 = 1 := by kernel_rfl
theorem cells_23 : Try.prog.cellsOf 23 = 1 := by kernel_rfl
theorem cells_24 : Try.prog.cellsOf 24 = 1 := by kernel_rfl
theorem cells_25 : Try.prog.cellsOf 25 = 1 := by kernel_rfl
structure Ansr where
  iD : Int
  kind : Int
  code : Int
  a : Int
  b : Int
  recordsA : Option Addr
  recordsN : Nat
  recordsC : Nat
  records : List Rec
  namesA : Option Addr
  namesN : Nat
  namesC : Nat
  names : List ByteArray
  numbersA : Option Addr
  numbersN : Nat
  numbersC : Nat
  numbers : List Int
def Ansr.cells (r : Ansr) : List Value := [.int .i64 r.iD] ++ [.int .i64 r.kind] ++ [.int .i64 r.code] ++ [.int .i64 r.a] ++ [.int .i64 r.b] ++ [.slice r.recordsA r.recordsN r.recordsC] ++ [.slice r.namesA r.namesN r.namesC] ++ [.slice r.numbersA r.numbersN r.numbersC]
def Ansr.ok (w : World) (r : Ansr) : Prop := (Lit.int .i64 r.iD).wf = true ∧ (Lit.int .i64 r.kind).wf = true ∧ (Lit.int .i64 r.code).wf = true ∧ (Lit.int .i64 r.a).wf = true ∧ (Lit.int .i64 r.b).wf = true ∧ Row w 8 Rec.cells r.recordsA r.recordsN r.records ∧ (∀ x ∈ r.records, Rec.ok w x) ∧ Row w 1 (fun s => [Value.string s]) r.namesA r.namesN r.names ∧ (∀ x ∈ r.names, (fun s => s.size ≤ maxLen) x) ∧ Row w 1 (fun z => [Value.int .i64 z]) r.numbersA r.numbersN r.numbers ∧ (∀ x ∈ r.numbers, (fun z => (Lit.int .i64 z).wf = true) x) ∧ r.recordsN ≤ r.recordsC ∧ r.namesN ≤ r.namesC ∧ r.numbersN ≤ r.numbersC
theorem parse_Ansr {H : Type} {enc : TypeId × Value → H} {w : World} {base : Nat} {spare : Nat → Bool} {held : Bool} {n : Nat} {cs : List Value} {x : DataW H × List MemPlace}
    (h : DataW.trod enc Try.prog w base spare held n 27 cs = some x) (hl : cs.length = 8) : ∃ r : Ansr, cs = r.cells ∧ r.ok w := by
  obtain ⟨xs, m, _, rfl, hlen, hxl, hf⟩ := DataW.trod_struct Try.underlying27 h
  clear hlen
  have hlen := hl
  have g0 : DataW.trod enc Try.prog w base spare held m 3 ((cs.drop 0).take (Try.prog.cellsOf 3)) = xs[0]? := hf 0 _ rfl
  rw [cells_3, List.getElem?_eq_getElem (show 0 < xs.length by rw [hxl]; decide)] at g0
  obtain ⟨z0, e0, _, w0⟩ := DataW.trod_int Try.underlying3 g0
  have g1 : DataW.trod enc Try.prog w base spare held m 3 ((cs.drop 1).take (Try.prog.cellsOf 3)) = xs[1]? := hf 1 _ rfl
  rw [cells_3, List.getElem?_eq_getElem (show 1 < xs.length by rw [hxl]; decide)] at g1
  obtain ⟨z1, e1, _, w1⟩ := DataW.trod_int Try.underlying3 g1
  have g2 : DataW.trod enc Try.prog w base spare held m 22 ((cs.drop 2).take (Try.prog.cellsOf 22)) = xs[2]? := hf 2 _ rfl
  rw [cells_22, List.getElem?_eq_getElem (show 2 < xs.length by rw [hxl]; decide)] at g2
  obtain ⟨z2, e2, _, w2⟩ := DataW.trod_int Try.underlying22 g2
  have g3 : DataW.trod enc Try.prog w base spare held m 3 ((cs.drop 3).take (Try.prog.cellsOf 3)) = xs[3]? := hf 3 _ rfl
  rw [cells_3, List.getElem?_eq_getElem (show 3 < xs.length by rw [hxl]; decide)] at g3
  obtain ⟨z3, e3, _, w3⟩ := DataW.trod_int Try.underlying3 g3
  have g4 : DataW.trod enc Try.prog w base spare held m 3 ((cs.drop 4).take (Try.prog.cellsOf 3)) = xs[4]? := hf 4 _ rfl
  rw [cells_3, List.getElem?_eq_getElem (show 4 < xs.length by rw [hxl]; decide)] at g4
  obtain ⟨z4, e4, _, w4⟩ := DataW.trod_int Try.underlying3 g4
  have g5 : DataW.trod enc Try.prog w base spare held m 23 ((cs.drop 5).take (Try.prog.cellsOf 23)) = xs[5]? := hf 5 _ rfl
  rw [cells_23, List.getElem?_eq_getElem (show 5 < xs.length by rw [hxl]; decide)] at g5
  obtain ⟨y5, n5, c5, e5⟩ := Go.Joins.slice_form Try.underlying23 g5
  rw [e5] at g5
  obtain ⟨z5, k5, w5⟩ := open_row (w := w) (cells := Rec.cells) (okk := Rec.ok w) Try.underlying23 cells_54 (by decide) (fun h1 h2 => parse_Rec h1 h2) (show DataW.Trod enc Try.prog w base spare held 23 (.slice y5 n5 c5) _ _ from ⟨m, g5⟩)
  have g6 : DataW.trod enc Try.prog w base spare held m 24 ((cs.drop 6).take (Try.prog.cellsOf 24)) = xs[6]? := hf 6 _ rfl
  rw [cells_24, List.getElem?_eq_getElem (show 6 < xs.length by rw [hxl]; decide)] at g6
  obtain ⟨y6, n6, c6, e6⟩ := Go.Joins.slice_form Try.underlying24 g6
  rw [e6] at g6
  obtain ⟨z6, k6, w6⟩ := open_row (w := w) (cells := (fun s => [Value.string s])) (okk := (fun s => s.size ≤ maxLen)) Try.underlying24 cells_9 (by decide) (fun h1 _ => by obtain ⟨z, h, _, hz⟩ := DataW.trod_string Try.underlying9 h1; exact ⟨z, h, hz⟩) (show DataW.Trod enc Try.prog w base spare held 24 (.slice y6 n6 c6) _ _ from ⟨m, g6⟩)
  have g7 : DataW.trod enc Try.prog w base spare held m 25 ((cs.drop 7).take (Try.prog.cellsOf 25)) = xs[7]? := hf 7 _ rfl
  rw [cells_25, List.getElem?_eq_getElem (show 7 < xs.length by rw [hxl]; decide)] at g7
  obtain ⟨y7, n7, c7, e7⟩ := Go.Joins.slice_form Try.underlying25 g7
  rw [e7] at g7
  obtain ⟨z7, k7, w7⟩ := open_row (w := w) (cells := (fun z => [Value.int .i64 z])) (okk := (fun z => (Lit.int .i64 z).wf = true)) Try.underlying25 cells_3 (by decide) (fun h1 _ => by obtain ⟨z, h, _, hz⟩ := DataW.trod_int Try.underlying3 h1; exact ⟨z, h, hz⟩) (show DataW.Trod enc Try.prog w base spare held 25 (.slice y7 n7 c7) _ _ from ⟨m, g7⟩)
  refine ⟨⟨z0, z1, z2, z3, z4, y5, n5, c5, z5, y6, n6, c6, z6, y7, n7, c7, z7⟩, ?_, ⟨w0, w1, w2, w3, w4, k5, w5, k6, w6, k7, w7, open_cap Try.underlying23 (show DataW.Trod enc Try.prog w base spare held 23 (.slice y5 n5 c5) _ _ from ⟨m, g5⟩), open_cap Try.underlying24 (show DataW.Trod enc Try.prog w base spare held 24 (.slice y6 n6 c6) _ _ from ⟨m, g6⟩), open_cap Try.underlying25 (show DataW.Trod enc Try.prog w base spare held 25 (.slice y7 n7 c7) _ _ from ⟨m, g7⟩)⟩⟩
  show cs = [_] ++ [_] ++ [_] ++ [_] ++ [_] ++ [_] ++ [_] ++ [_]
  have step : ∀ (o c : Nat), cs.drop o = (cs.drop o).take c ++ cs.drop (o + c) := fun o c => by rw [← List.drop_drop, List.take_append_drop]
  have h0 : cs = cs.drop 0 := rfl
  rw [h0]
  rw [step 0 1, e0]
  rw [step 1 1, e1]
  rw [step 2 1, e2]
  rw [step 3 1, e3]
  rw [step 4 1, e4]
  rw [step 5 1, e5]
  rw [step 6 1, e6]
  rw [step 7 1, e7]
  rw [List.drop_of_length_le (show cs.length ≤ _ by rw [hl]; decide), List.append_nil]
  simp only [Ansr.cells, List.append_assoc]

end Go.Proofs.Ytakbgaiedenikaa.Own
