/- The Go structs that this seat's arguments hold, as Lean structures: written by a program of this claim. -/
import Derived.Test.YtakbgaiedenikaaOpen
namespace Go.Proofs.Ytakbgaiedenikaa.Own
open Go.RowKit Go.ChangeShapes Go.WideShapes
set_option linter.unusedVariables false
set_option linter.unusedSimpArgs false

theorem cells_45 : Try.prog.cellsOf 45 = 2 := by kernel_rfl
theorem cells_9 : Try.prog.cellsOf 9 = 1 := by kernel_rfl
theorem cells_3 : Try.prog.cellsOf 3 = 1 := by kernel_rfl
structure Place where
  topic : ByteArray
  part_ : Int
def Place.cells (r : Place) : List Value := [.string r.topic] ++ [.int .i64 r.part_]
def Place.ok (w : World) (r : Place) : Prop := r.topic.size ≤ maxLen ∧ (Lit.int .i64 r.part_).wf = true
theorem parse_Place {H : Type} {enc : TypeId × Value → H} {w : World} {base : Nat} {spare : Nat → Bool} {held : Bool} {n : Nat} {cs : List Value} {x : DataW H × List MemPlace}
    (h : DataW.trod enc Try.prog w base spare held n 45 cs = some x) (hl : cs.length = 2) : ∃ r : Place, cs = r.cells ∧ r.ok w := by
  obtain ⟨xs, m, _, rfl, hlen, hxl, hf⟩ := DataW.trod_struct Try.underlying45 h
  clear hlen
  have hlen := hl
  have g0 : DataW.trod enc Try.prog w base spare held m 9 ((cs.drop 0).take (Try.prog.cellsOf 9)) = xs[0]? := hf 0 _ rfl
  rw [cells_9, List.getElem?_eq_getElem (show 0 < xs.length by rw [hxl]; decide)] at g0
  obtain ⟨z0, e0, _, w0⟩ := DataW.trod_string Try.underlying9 g0
  have g1 : DataW.trod enc Try.prog w base spare held m 3 ((cs.drop 1).take (Try.prog.cellsOf 3)) = xs[1]? := hf 1 _ rfl
  rw [cells_3, List.getElem?_eq_getElem (show 1 < xs.length by rw [hxl]; decide)] at g1
  obtain ⟨z1, e1, _, w1⟩ := DataW.trod_int Try.underlying3 g1
  refine ⟨⟨z0, z1⟩, ?_, ⟨w0, w1⟩⟩
  show cs = [_] ++ [_]
  have step : ∀ (o c : Nat), cs.drop o = (cs.drop o).take c ++ cs.drop (o + c) := fun o c => by rw [← List.drop_drop, List.take_append_drop]
  have h0 : cs = cs.drop 0 := rfl
  rw [h0]
  rw [step 0 1, e0]
  rw [step 1 1, e1]
  rw [List.drop_of_length_le (show cs.length ≤ _ by rw [hl]; decide), List.append_nil]
  try simp only [Place.cells, List.append_assoc]

theorem cells_47 : Try.prog.cellsOf 47 = 5 := by kernel_rfl
theorem cells_4 : Try.prog.cellsOf 4 = 1 := by kernel_rfl
structure Spec where
  name : ByteArray
  parts : Int
  age : Int
  size : Int
  compact : Bool
def Spec.cells (r : Spec) : List Value := [.string r.name] ++ [.int .i64 r.parts] ++ [.int .i64 r.age] ++ [.int .i64 r.size] ++ [.bool r.compact]
def Spec.ok (w : World) (r : Spec) : Prop := r.name.size ≤ maxLen ∧ (Lit.int .i64 r.parts).wf = true ∧ (Lit.int .i64 r.age).wf = true ∧ (Lit.int .i64 r.size).wf = true
theorem parse_Spec {H : Type} {enc : TypeId × Value → H} {w : World} {base : Nat} {spare : Nat → Bool} {held : Bool} {n : Nat} {cs : List Value} {x : DataW H × List MemPlace}
    (h : DataW.trod enc Try.prog w base spare held n 47 cs = some x) (hl : cs.length = 5) : ∃ r : Spec, cs = r.cells ∧ r.ok w := by
  obtain ⟨xs, m, _, rfl, hlen, hxl, hf⟩ := DataW.trod_struct Try.underlying47 h
  clear hlen
  have hlen := hl
  have g0 : DataW.trod enc Try.prog w base spare held m 9 ((cs.drop 0).take (Try.prog.cellsOf 9)) = xs[0]? := hf 0 _ rfl
  rw [cells_9, List.getElem?_eq_getElem (show 0 < xs.length by rw [hxl]; decide)] at g0
  obtain ⟨z0, e0, _, w0⟩ := DataW.trod_string Try.underlying9 g0
  have g1 : DataW.trod enc Try.prog w base spare held m 3 ((cs.drop 1).take (Try.prog.cellsOf 3)) = xs[1]? := hf 1 _ rfl
  rw [cells_3, List.getElem?_eq_getElem (show 1 < xs.length by rw [hxl]; decide)] at g1
  obtain ⟨z1, e1, _, w1⟩ := DataW.trod_int Try.underlying3 g1
  have g2 : DataW.trod enc Try.prog w base spare held m 3 ((cs.drop 2).take (Try.prog.cellsOf 3)) = xs[2]? := hf 2 _ rfl
  rw [cells_3, List.getElem?_eq_getElem (show 2 < xs.length by rw [hxl]; decide)] at g2
  obtain ⟨z2, e2, _, w2⟩ := DataW.trod_int Try.underlying3 g2
  have g3 : DataW.trod enc Try.prog w base spare held m 3 ((cs.drop 3).take (Try.prog.cellsOf 3)) = xs[3]? := hf 3 _ rfl
  rw [cells_3, List.getElem?_eq_getElem (show 3 < xs.length by rw [hxl]; decide)] at g3
  obtain ⟨z3, e3, _, w3⟩ := DataW.trod_int Try.underlying3 g3
  have g4 : DataW.trod enc Try.prog w base spare held m 4 ((cs.drop 4).take (Try.prog.cellsOf 4)) = xs[4]? := hf 4 _ rfl
  rw [cells_4, List.getElem?_eq_getElem (show 4 < xs.length by rw [hxl]; decide)] at g4
  obtain ⟨z4, e4, _⟩ := DataW.trod_bool Try.underlying4 g4
  refine ⟨⟨z0, z1, z2, z3, z4⟩, ?_, ⟨w0, w1, w2, w3⟩⟩
  show cs = [_] ++ [_] ++ [_] ++ [_] ++ [_]
  have step : ∀ (o c : Nat), cs.drop o = (cs.drop o).take c ++ cs.drop (o + c) := fun o c => by rw [← List.drop_drop, List.take_append_drop]
  have h0 : cs = cs.drop 0 := rfl
  rw [h0]
  rw [step 0 1, e0]
  rw [step 1 1, e1]
  rw [step 2 1, e2]
  rw [step 3 1, e3]
  rw [step 4 1, e4]
  rw [List.drop_of_length_le (show cs.length ≤ _ by rw [hl]; decide), List.append_nil]
  simp only [Spec.cells, List.append_assoc]

theorem cells_152 : Try.prog.cellsOf 152 = 3 := by kernel_rfl
structure Pair where
  key : ByteArray
  value : ByteArray
  gone : Bool
def Pair.cells (r : Pair) : List Value := [.string r.key] ++ [.string r.value] ++ [.bool r.gone]
def Pair.ok (w : World) (r : Pair) : Prop := r.key.size ≤ maxLen ∧ r.value.size ≤ maxLen
theorem parse_Pair {H : Type} {enc : TypeId × Value → H} {w : World} {base : Nat} {spare : Nat → Bool} {held : Bool} {n : Nat} {cs : List Value} {x : DataW H × List MemPlace}
    (h : DataW.trod enc Try.prog w base spare held n 152 cs = some x) (hl : cs.length = 3) : ∃ r : Pair, cs = r.cells ∧ r.ok w := by
  obtain ⟨xs, m, _, rfl, hlen, hxl, hf⟩ := DataW.trod_struct Try.underlying152 h
  clear hlen
  have hlen := hl
  have g0 : DataW.trod enc Try.prog w base spare held m 9 ((cs.drop 0).take (Try.prog.cellsOf 9)) = xs[0]? := hf 0 _ rfl
  rw [cells_9, List.getElem?_eq_getElem (show 0 < xs.length by rw [hxl]; decide)] at g0
  obtain ⟨z0, e0, _, w0⟩ := DataW.trod_string Try.underlying9 g0
  have g1 : DataW.trod enc Try.prog w base spare held m 9 ((cs.drop 1).take (Try.prog.cellsOf 9)) = xs[1]? := hf 1 _ rfl
  rw [cells_9, List.getElem?_eq_getElem (show 1 < xs.length by rw [hxl]; decide)] at g1
  obtain ⟨z1, e1, _, w1⟩ := DataW.trod_string Try.underlying9 g1
  have g2 : DataW.trod enc Try.prog w base spare held m 4 ((cs.drop 2).take (Try.prog.cellsOf 4)) = xs[2]? := hf 2 _ rfl
  rw [cells_4, List.getElem?_eq_getElem (show 2 < xs.length by rw [hxl]; decide)] at g2
  obtain ⟨z2, e2, _⟩ := DataW.trod_bool Try.underlying4 g2
  refine ⟨⟨z0, z1, z2⟩, ?_, ⟨w0, w1⟩⟩
  show cs = [_] ++ [_] ++ [_]
  have step : ∀ (o c : Nat), cs.drop o = (cs.drop o).take c ++ cs.drop (o + c) := fun o c => by rw [← List.drop_drop, List.take_append_drop]
  have h0 : cs = cs.drop 0 := rfl
  rw [h0]
  rw [step 0 1, e0]
  rw [step 1 1, e1]
  rw [step 2 1, e2]
  rw [List.drop_of_length_le (show cs.length ≤ _ by rw [hl]; decide), List.append_nil]
  simp only [Pair.cells, List.append_assoc]

theorem cells_50 : Try.prog.cellsOf 50 = 20 := by kernel_rfl
theorem cells_48 : Try.prog.cellsOf 48 = 1 := by kernel_rfl
structure Req where
  iD : Int
  kind : Int
  label : Int
  place : Place
  to_ : Place
  spec : Spec
  group : ByteArray
  member : ByteArray
  gen : Int
  offset : Int
  most : Int
  producer : Int
  seq : Int
  pairsA : Option Addr
  pairsN : Nat
  pairsC : Nat
  pairs : List Pair
def Req.cells (r : Req) : List Value := [.int .i64 r.iD] ++ [.int .i64 r.kind] ++ [.int .i64 r.label] ++ r.place.cells ++ r.to_.cells ++ r.spec.cells ++ [.string r.group] ++ [.string r.member] ++ [.int .i64 r.gen] ++ [.int .i64 r.offset] ++ [.int .i64 r.most] ++ [.int .i64 r.producer] ++ [.int .i64 r.seq] ++ [.slice r.pairsA r.pairsN r.pairsC]
def Req.ok (w : World) (r : Req) : Prop := (Lit.int .i64 r.iD).wf = true ∧ (Lit.int .i64 r.kind).wf = true ∧ (Lit.int .i64 r.label).wf = true ∧ r.place.ok w ∧ r.to_.ok w ∧ r.spec.ok w ∧ r.group.size ≤ maxLen ∧ r.member.size ≤ maxLen ∧ (Lit.int .i64 r.gen).wf = true ∧ (Lit.int .i64 r.offset).wf = true ∧ (Lit.int .i64 r.most).wf = true ∧ (Lit.int .i64 r.producer).wf = true ∧ (Lit.int .i64 r.seq).wf = true ∧ Row w 3 Pair.cells r.pairsA r.pairsN r.pairs ∧ (∀ x ∈ r.pairs, Pair.ok w x)
theorem parse_Req {H : Type} {enc : TypeId × Value → H} {w : World} {base : Nat} {spare : Nat → Bool} {held : Bool} {n : Nat} {cs : List Value} {x : DataW H × List MemPlace}
    (h : DataW.trod enc Try.prog w base spare held n 50 cs = some x) (hl : cs.length = 20) : ∃ r : Req, cs = r.cells ∧ r.ok w := by
  obtain ⟨xs, m, _, rfl, hlen, hxl, hf⟩ := DataW.trod_struct Try.underlying50 h
  clear hlen
  have hlen := hl
  have g0 : DataW.trod enc Try.prog w base spare held m 3 ((cs.drop 0).take (Try.prog.cellsOf 3)) = xs[0]? := hf 0 _ rfl
  rw [cells_3, List.getElem?_eq_getElem (show 0 < xs.length by rw [hxl]; decide)] at g0
  obtain ⟨z0, e0, _, w0⟩ := DataW.trod_int Try.underlying3 g0
  have g1 : DataW.trod enc Try.prog w base spare held m 3 ((cs.drop 1).take (Try.prog.cellsOf 3)) = xs[1]? := hf 1 _ rfl
  rw [cells_3, List.getElem?_eq_getElem (show 1 < xs.length by rw [hxl]; decide)] at g1
  obtain ⟨z1, e1, _, w1⟩ := DataW.trod_int Try.underlying3 g1
  have g2 : DataW.trod enc Try.prog w base spare held m 3 ((cs.drop 2).take (Try.prog.cellsOf 3)) = xs[2]? := hf 2 _ rfl
  rw [cells_3, List.getElem?_eq_getElem (show 2 < xs.length by rw [hxl]; decide)] at g2
  obtain ⟨z2, e2, _, w2⟩ := DataW.trod_int Try.underlying3 g2
  have g3 : DataW.trod enc Try.prog w base spare held m 45 ((cs.drop 3).take (Try.prog.cellsOf 45)) = xs[3]? := hf 3 _ rfl
  rw [cells_45, List.getElem?_eq_getElem (show 3 < xs.length by rw [hxl]; decide)] at g3
  obtain ⟨z3, e3, w3⟩ := parse_Place g3 (by simp [hlen]; try omega)
  have g4 : DataW.trod enc Try.prog w base spare held m 45 ((cs.drop 5).take (Try.prog.cellsOf 45)) = xs[4]? := hf 4 _ rfl
  rw [cells_45, List.getElem?_eq_getElem (show 4 < xs.length by rw [hxl]; decide)] at g4
  obtain ⟨z4, e4, w4⟩ := parse_Place g4 (by simp [hlen]; try omega)
  have g5 : DataW.trod enc Try.prog w base spare held m 47 ((cs.drop 7).take (Try.prog.cellsOf 47)) = xs[5]? := hf 5 _ rfl
  rw [cells_47, List.getElem?_eq_getElem (show 5 < xs.length by rw [hxl]; decide)] at g5
  obtain ⟨z5, e5, w5⟩ := parse_Spec g5 (by simp [hlen]; try omega)
  have g6 : DataW.trod enc Try.prog w base spare held m 9 ((cs.drop 12).take (Try.prog.cellsOf 9)) = xs[6]? := hf 6 _ rfl
  rw [cells_9, List.getElem?_eq_getElem (show 6 < xs.length by rw [hxl]; decide)] at g6
  obtain ⟨z6, e6, _, w6⟩ := DataW.trod_string Try.underlying9 g6
  have g7 : DataW.trod enc Try.prog w base spare held m 9 ((cs.drop 13).take (Try.prog.cellsOf 9)) = xs[7]? := hf 7 _ rfl
  rw [cells_9, List.getElem?_eq_getElem (show 7 < xs.length by rw [hxl]; decide)] at g7
  obtain ⟨z7, e7, _, w7⟩ := DataW.trod_string Try.underlying9 g7
  have g8 : DataW.trod enc Try.prog w base spare held m 3 ((cs.drop 14).take (Try.prog.cellsOf 3)) = xs[8]? := hf 8 _ rfl
  rw [cells_3, List.getElem?_eq_getElem (show 8 < xs.length by rw [hxl]; decide)] at g8
  obtain ⟨z8, e8, _, w8⟩ := DataW.trod_int Try.underlying3 g8
  have g9 : DataW.trod enc Try.prog w base spare held m 3 ((cs.drop 15).take (Try.prog.cellsOf 3)) = xs[9]? := hf 9 _ rfl
  rw [cells_3, List.getElem?_eq_getElem (show 9 < xs.length by rw [hxl]; decide)] at g9
  obtain ⟨z9, e9, _, w9⟩ := DataW.trod_int Try.underlying3 g9
  have g10 : DataW.trod enc Try.prog w base spare held m 3 ((cs.drop 16).take (Try.prog.cellsOf 3)) = xs[10]? := hf 10 _ rfl
  rw [cells_3, List.getElem?_eq_getElem (show 10 < xs.length by rw [hxl]; decide)] at g10
  obtain ⟨z10, e10, _, w10⟩ := DataW.trod_int Try.underlying3 g10
  have g11 : DataW.trod enc Try.prog w base spare held m 3 ((cs.drop 17).take (Try.prog.cellsOf 3)) = xs[11]? := hf 11 _ rfl
  rw [cells_3, List.getElem?_eq_getElem (show 11 < xs.length by rw [hxl]; decide)] at g11
  obtain ⟨z11, e11, _, w11⟩ := DataW.trod_int Try.underlying3 g11
  have g12 : DataW.trod enc Try.prog w base spare held m 3 ((cs.drop 18).take (Try.prog.cellsOf 3)) = xs[12]? := hf 12 _ rfl
  rw [cells_3, List.getElem?_eq_getElem (show 12 < xs.length by rw [hxl]; decide)] at g12
  obtain ⟨z12, e12, _, w12⟩ := DataW.trod_int Try.underlying3 g12
  have g13 : DataW.trod enc Try.prog w base spare held m 48 ((cs.drop 19).take (Try.prog.cellsOf 48)) = xs[13]? := hf 13 _ rfl
  rw [cells_48, List.getElem?_eq_getElem (show 13 < xs.length by rw [hxl]; decide)] at g13
  obtain ⟨y13, n13, c13, e13⟩ := Go.Joins.slice_form Try.underlying48 g13
  rw [e13] at g13
  obtain ⟨z13, k13, w13⟩ := open_row (w := w) (cells := Pair.cells) (okk := Pair.ok w) Try.underlying48 cells_152 (by decide) (fun h1 h2 => parse_Pair h1 h2) (show DataW.Trod enc Try.prog w base spare held 48 (.slice y13 n13 c13) _ _ from ⟨m, g13⟩)
  refine ⟨⟨z0, z1, z2, z3, z4, z5, z6, z7, z8, z9, z10, z11, z12, y13, n13, c13, z13⟩, ?_, ⟨w0, w1, w2, w3, w4, w5, w6, w7, w8, w9, w10, w11, w12, k13, w13⟩⟩
  show cs = [_] ++ [_] ++ [_] ++ _ ++ _ ++ _ ++ [_] ++ [_] ++ [_] ++ [_] ++ [_] ++ [_] ++ [_] ++ [_]
  have step : ∀ (o c : Nat), cs.drop o = (cs.drop o).take c ++ cs.drop (o + c) := fun o c => by rw [← List.drop_drop, List.take_append_drop]
  have h0 : cs = cs.drop 0 := rfl
  rw [h0]
  rw [step 0 1, e0]
  rw [step 1 1, e1]
  rw [step 2 1, e2]
  rw [step 3 2, e3]
  rw [step 5 2, e4]
  rw [step 7 5, e5]
  rw [step 12 1, e6]
  rw [step 13 1, e7]
  rw [step 14 1, e8]
  rw [step 15 1, e9]
  rw [step 16 1, e10]
  rw [step 17 1, e11]
  rw [step 18 1, e12]
  rw [step 19 1, e13]
  rw [List.drop_of_length_le (show cs.length ≤ _ by rw [hl]; decide), List.append_nil]
  simp only [Req.cells, List.append_assoc]

end Go.Proofs.Ytakbgaiedenikaa.Own
