/- Several texts of this claim in one. -/
import Derived.Shelf.Strings.Builder1
import Derived.Test.YtakbgaiedenikaaProg
import Derived.Shelf.Strings.Builder2
import Derived.Shelf.Strings.BuilderF
import Derived.Shelf.Strings.Prefix
import Derived.Shelf.Bits.Mul64
import Derived.Shelf.Strings.Repeat
import Derived.Test.YtakbgaiedenikaaOpen
import Derived.Test.YtakbgaiedenikaaBase
import Derived.Test.YtakbgaiedenikaaMay
import Derived.Test.YtakbgaiedenikaaPBx3
/- (*strings.Builder).WriteString, out of the library's shelf: laid by a program of this claim. -/
namespace Go.Proofs
open Go.Shelf
def Try.bwRen : Go.Shelf.Ren := ⟨fun | 166 => 40 | 240 => 60 | 276 => 70 | n => n, fun | 0 => 0 | 3 => 3 | 4 => 4 | 5 => 5 | 9 => 9 | 20 => 20 | 37 => 74 | 70 => 87 | 72 => 89 | 75 => 91 | 80 => 95 | 164 => 128 | n => n, fun | n => n⟩
theorem Try.bwLays : Go.Proofs.Lays.n166 Try.prog Try.bwRen := {
  mixed := by kernel_rfl
  f166 := Try.func40.trans (congrArg some (by kernel_rfl))
  f240 := Try.func60.trans (congrArg some (by kernel_rfl))
  f276 := Try.func70.trans (congrArg some (by kernel_rfl))
  t0 := Try.underlying0
  a0 := Try.isAgg0
  z0 := Try.sizeOf0
  v0 := Try.zeroValue0
  t3 := Try.underlying3
  a3 := Try.isAgg3
  z3 := Try.sizeOf3
  v3 := Try.zeroValue3
  t4 := Try.underlying4
  a4 := Try.isAgg4
  z4 := Try.sizeOf4
  v4 := Try.zeroValue4
  t9 := Try.underlying9
  a9 := Try.isAgg9
  z9 := Try.sizeOf9
  v9 := Try.zeroValue9
  t20 := Try.underlying20
  a20 := Try.isAgg20
  z20 := Try.sizeOf20
  v20 := Try.zeroValue20
  t37 := Try.underlying74
  a37 := Try.isAgg74
  z37 := Try.sizeOf74
  v37 := Try.zeroValue74
  t70 := Try.underlying87
  a70 := Try.isAgg87
  z70 := Try.sizeOf87
  v70 := Try.zeroValue87
  t72 := Try.underlying89
  a72 := Try.isAgg89
  z72 := Try.sizeOf89
  v72 := Try.zeroValue89
  t75 := Try.underlying91
  a75 := Try.isAgg91
  z75 := Try.sizeOf91
  v75 := Try.zeroValue91
  t164 := Try.underlying128
  a164 := Try.isAgg128
  z164 := Try.sizeOf128
  v164 := Try.zeroValue128 }
theorem Try.bwExtra : Builder.Extra Try.prog Try.bwRen where
  sizeBuilder := by kernel_rfl
  liesBuilder := by kernel_rfl
  t5 := Try.underlying5
  a5 := Try.isAgg5
  z5 := Try.sizeOf5
  v5 := Try.zeroValue5
  infoByte := by kernel_rfl
  cellsByte := by kernel_rfl
  sizeByte := by kernel_rfl
  neB5 := by decide
open Go.RowKit in
theorem Try.Builder_WriteString (B b : Nat) (bs : List Value) (s : ByteArray) (w : World) (h : Lib.IsBuilder 89 5 B b bs w) (hlen : bs.length + s.size ≤ 140737488355328) (hBw : B ≤ w.heap.size) :
    Calls Try.prog 40 #[.pointer (some ⟨b, 0, none⟩), .string s] w fun e w' => e = .returned (.tuple #[.int .i64 s.size, .nilIface]) ∧ (Lib.BuilderAt 89 5 B b (.pointer (some ⟨b, 0, none⟩)) (bs ++ Lib.strCells s) w' ∧ Below B w w') := Any.Builder_WriteString Try.bwLays Try.bwExtra B b bs s w h hlen hBw
end Go.Proofs
/-
  DERIVED: THE SHELF's CONTRACTS AT THIS DUMP, IN PLAIN WORDS (tools/lay-plain.mjs out of 'YtakbgaiedenikaaSh.lean', which tools/lay-shelf.mjs wrote): THE SAME DECLARATIONS UNDER THE SAME NAMES: 'import', 'namespace', 'open', 'def', 'theorem' AND NOTHING ELSE: no command of the shelf's: FOR A HAND-IN. Each laying: the table of numbers ('.._ren') and one theorem, a field a fact of the dump's own or the kernel's comparison; each contract: ONE APPLICATION.
-/
namespace Go.Proofs
open Go.Shelf
def Try.lays170_ren : Go.Shelf.Ren := ⟨fun | 170 => 49 | n => n, fun | 70 => 87 | 3 => 3 | 0 => 0 | 72 => 89 | 37 => 74 | 5 => 5 | n => n, fun | n => n⟩
theorem Try.lays170 : Go.Proofs.Lays.n170 Try.prog Try.lays170_ren := {
  mixed := by kernel_rfl
  f170 := Try.func49.trans (congrArg some (by kernel_rfl))
  t0 := Try.underlying0
  a0 := Try.isAgg0
  z0 := Try.sizeOf0
  v0 := Try.zeroValue0
  t3 := Try.underlying3
  a3 := Try.isAgg3
  z3 := Try.sizeOf3
  v3 := Try.zeroValue3
  t37 := Try.underlying74
  a37 := Try.isAgg74
  z37 := Try.sizeOf74
  v37 := Try.zeroValue74
  t70 := Try.underlying87
  a70 := Try.isAgg87
  z70 := Try.sizeOf87
  v70 := Try.zeroValue87
  t72 := Try.underlying89
  a72 := Try.isAgg89
  z72 := Try.sizeOf89
  v72 := Try.zeroValue89 }
open Go.RowKit in
/-- (*strings.Builder).Len: "Len returns the number of accumulated bytes; b.Len() == len(b.String()).": the world is as it was. (LAID: no walk: one application.) -/
theorem Try.Builder_Len (B b : Nat) (bs : List Value) (w : World) (h : Lib.IsBuilder 89 5 B b bs w) :
    Calls Try.prog 49 #[.pointer (some ⟨b, 0, none⟩)] w fun e w' => e = .returned (.int .i64 bs.length) ∧ w' = w := Any.Builder_Len Try.lays170 B b bs w h
def Try.lays169_ren : Go.Shelf.Ren := ⟨fun | 169 => 44 | n => n, fun | 70 => 87 | 9 => 9 | 0 => 0 | 72 => 89 | 37 => 74 | 127 => 114 | 3 => 3 | 5 => 5 | n => n, fun | n => n⟩
theorem Try.lays169 : Go.Proofs.Lays.n169 Try.prog Try.lays169_ren := {
  mixed := by kernel_rfl
  f169 := Try.func44.trans (congrArg some (by kernel_rfl))
  t0 := Try.underlying0
  a0 := Try.isAgg0
  z0 := Try.sizeOf0
  v0 := Try.zeroValue0
  t3 := Try.underlying3
  a3 := Try.isAgg3
  z3 := Try.sizeOf3
  v3 := Try.zeroValue3
  t9 := Try.underlying9
  a9 := Try.isAgg9
  z9 := Try.sizeOf9
  v9 := Try.zeroValue9
  t37 := Try.underlying74
  a37 := Try.isAgg74
  z37 := Try.sizeOf74
  v37 := Try.zeroValue74
  t70 := Try.underlying87
  a70 := Try.isAgg87
  z70 := Try.sizeOf87
  v70 := Try.zeroValue87
  t72 := Try.underlying89
  a72 := Try.isAgg89
  z72 := Try.sizeOf89
  v72 := Try.zeroValue89
  t127 := Try.underlying114
  a127 := Try.isAgg114
  z127 := Try.sizeOf114
  v127 := Try.zeroValue114 }
theorem Try.Builder_Extra_169 : Builder.Extra Try.prog Try.lays169_ren := {
  sizeBuilder := by kernel_rfl
  liesBuilder := by kernel_rfl
  t5 := Try.underlying5
  a5 := Try.isAgg5
  z5 := Try.sizeOf5
  v5 := Try.zeroValue5
  infoByte := by kernel_rfl
  cellsByte := by kernel_rfl
  sizeByte := by kernel_rfl
  neB5 := by decide }
open Go.RowKit in
/-- (*strings.Builder).String: "String returns the accumulated string.": OF A BUILDER THAT HOLDS AT LEAST ONE BYTE. ✋ THE MODEL FREEZES THOSE BYTES IN THE BUFFER (unsafe.String): a later write INTO them ends the model's run without an answer; a later append BEHIND them goes on. The statement's order of evaluation is drawn: one draw. (LAID: no walk: one application.) -/
theorem Try.Builder_String (B b : Nat) (l : List UInt8) (w : World) (h : Lib.IsBuilder 89 5 B b (Lib.byteCells l) w) (h0 : l ≠ []) :
    Calls Try.prog 44 #[.pointer (some ⟨b, 0, none⟩)] w fun e w' => e = .returned (.string ⟨l.toArray⟩) ∧ Below B w w' := Any.Builder_String Try.lays169 Try.Builder_Extra_169 B b l w h h0
open Go.RowKit in
/-- (*strings.Builder).String OF A BUILDER THAT HOLDS NO BYTE: the empty string. (Its buffer is nil, or a row of which it has taken nothing yet; where that row has NO capacity the model lays one new block for unsafe.SliceData's 'some address'.) One draw. (LAID: no walk: one application.) -/
theorem Try.Builder_String_empty (B b : Nat) (w : World) (h : Lib.IsBuilder 89 5 B b [] w) (hBw : B ≤ w.heap.size) :
    Calls Try.prog 44 #[.pointer (some ⟨b, 0, none⟩)] w fun e w' => e = .returned (.string ⟨#[]⟩) ∧ Below B w w' := Any.Builder_String_empty Try.lays169 Try.Builder_Extra_169 B b w h hBw
open Go.RowKit in
/-- (*strings.Builder).String: "String returns the accumulated string.": WHATEVER THE BUILDER HOLDS. (LAID: no walk: one application.) -/
theorem Try.Builder_String_any (B b : Nat) (l : List UInt8) (w : World) (h : Lib.IsBuilder 89 5 B b (Lib.byteCells l) w) (hBw : B ≤ w.heap.size) :
    Calls Try.prog 44 #[.pointer (some ⟨b, 0, none⟩)] w fun e w' => e = .returned (.string ⟨l.toArray⟩) ∧ Below B w w' := Any.Builder_String_any Try.lays169 Try.Builder_Extra_169 B b l w h hBw
def Try.lays241_ren : Go.Shelf.Ren := ⟨fun | 241 => 65 | 277 => 71 | n => n, fun | 70 => 87 | 3 => 3 | 0 => 0 | 72 => 89 | 37 => 74 | 5 => 5 | n => n, fun | n => n⟩
theorem Try.lays241 : Go.Proofs.Lays.n241 Try.prog Try.lays241_ren := {
  mixed := by kernel_rfl
  f241 := Try.func65.trans (congrArg some (by kernel_rfl))
  f277 := Try.func71.trans (congrArg some (by kernel_rfl))
  t0 := Try.underlying0
  a0 := Try.isAgg0
  z0 := Try.sizeOf0
  v0 := Try.zeroValue0
  t3 := Try.underlying3
  a3 := Try.isAgg3
  z3 := Try.sizeOf3
  v3 := Try.zeroValue3
  t37 := Try.underlying74
  a37 := Try.isAgg74
  z37 := Try.sizeOf74
  v37 := Try.zeroValue74
  t70 := Try.underlying87
  a70 := Try.isAgg87
  z70 := Try.sizeOf87
  v70 := Try.zeroValue87
  t72 := Try.underlying89
  a72 := Try.isAgg89
  z72 := Try.sizeOf89
  v72 := Try.zeroValue89 }
theorem Try.Builder_Extra_241 : Builder.Extra Try.prog Try.lays241_ren := {
  sizeBuilder := by kernel_rfl
  liesBuilder := by kernel_rfl
  t5 := Try.underlying5
  a5 := Try.isAgg5
  z5 := Try.sizeOf5
  v5 := Try.zeroValue5
  infoByte := by kernel_rfl
  cellsByte := by kernel_rfl
  sizeByte := by kernel_rfl
  neB5 := by decide }
open Go.RowKit in
/-- (*strings.Builder).grow (no doc but "grow copies the buffer to a new, larger buffer so that there are at least n bytes of capacity beyond len(b.buf)."): AT A BUILDER WITHOUT A BUFFER: a new row of whatever bytes for its buffer, none of them its own yet. Three draws. (LAID: no walk: one application.) -/
theorem Try.Builder_grow_fresh (B b n : Nat) (w : World) (hB : B ≤ b) (hbk : w.heap[b]? = some (.cells #[.pointer (some ⟨b, 0, none⟩), .slice none 0 0] 89 (0, 0))) (hBw : B ≤ w.heap.size) (hn : n ≤ 281474976710656) :
    Calls Try.prog 65 #[.pointer (some ⟨b, 0, none⟩), .int .i64 n] w fun e w' => e = .returned (.tuple #[]) ∧ (Lib.BuilderAt 89 5 B b (.pointer (some ⟨b, 0, none⟩)) [] w' ∧ Below B w w') := Any.Builder_grow_fresh Try.lays241 Try.Builder_Extra_241 B b n w hB hbk hBw hn
def Try.lays165_ren : Go.Shelf.Ren := ⟨fun | 165 => 48 | 240 => 60 | 241 => 65 | 276 => 70 | 277 => 71 | n => n, fun | 70 => 87 | 3 => 3 | 0 => 0 | 4 => 4 | 9 => 9 | 20 => 20 | 72 => 89 | 37 => 74 | 164 => 128 | 5 => 5 | n => n, fun | n => n⟩
theorem Try.lays165 : Go.Proofs.Lays.n165 Try.prog Try.lays165_ren := {
  mixed := by kernel_rfl
  f165 := Try.func48.trans (congrArg some (by kernel_rfl))
  f240 := Try.func60.trans (congrArg some (by kernel_rfl))
  f241 := Try.func65.trans (congrArg some (by kernel_rfl))
  f276 := Try.func70.trans (congrArg some (by kernel_rfl))
  f277 := Try.func71.trans (congrArg some (by kernel_rfl))
  t0 := Try.underlying0
  a0 := Try.isAgg0
  z0 := Try.sizeOf0
  v0 := Try.zeroValue0
  t3 := Try.underlying3
  a3 := Try.isAgg3
  z3 := Try.sizeOf3
  v3 := Try.zeroValue3
  t4 := Try.underlying4
  a4 := Try.isAgg4
  z4 := Try.sizeOf4
  v4 := Try.zeroValue4
  t9 := Try.underlying9
  a9 := Try.isAgg9
  z9 := Try.sizeOf9
  v9 := Try.zeroValue9
  t20 := Try.underlying20
  a20 := Try.isAgg20
  z20 := Try.sizeOf20
  v20 := Try.zeroValue20
  t37 := Try.underlying74
  a37 := Try.isAgg74
  z37 := Try.sizeOf74
  v37 := Try.zeroValue74
  t70 := Try.underlying87
  a70 := Try.isAgg87
  z70 := Try.sizeOf87
  v70 := Try.zeroValue87
  t72 := Try.underlying89
  a72 := Try.isAgg89
  z72 := Try.sizeOf89
  v72 := Try.zeroValue89
  t164 := Try.underlying128
  a164 := Try.isAgg128
  z164 := Try.sizeOf128
  v164 := Try.zeroValue128 }
theorem Try.Builder_Extra_165 : Builder.Extra Try.prog Try.lays165_ren := {
  sizeBuilder := by kernel_rfl
  liesBuilder := by kernel_rfl
  t5 := Try.underlying5
  a5 := Try.isAgg5
  z5 := Try.sizeOf5
  v5 := Try.zeroValue5
  infoByte := by kernel_rfl
  cellsByte := by kernel_rfl
  sizeByte := by kernel_rfl
  neB5 := by decide }
open Go.RowKit in
/-- (*strings.Builder).Grow AT A BUILDER THAT HAS NOT BEEN WRITTEN ('var b strings.Builder; b.Grow(n)'): "Grow grows b's capacity, if necessary, to guarantee space for another n bytes.": it holds no byte behind it as before it. (LAID: no walk: one application.) -/
theorem Try.Builder_Grow_fresh (B b n : Nat) (w : World) (hB : B ≤ b) (hbk : w.heap[b]? = some (.cells #[.pointer none, .slice none 0 0] 89 (0, 0))) (hBw : B ≤ w.heap.size) (hn : n ≤ 281474976710656) :
    Calls Try.prog 48 #[.pointer (some ⟨b, 0, none⟩), .int .i64 n] w fun e w' => e = .returned (.tuple #[]) ∧ (Lib.BuilderAt 89 5 B b (.pointer (some ⟨b, 0, none⟩)) [] w' ∧ Below B w w') := Any.Builder_Grow_fresh Try.lays165 Try.Builder_Extra_165 B b n w hB hbk hBw hn
open Go.RowKit in
/-- (*strings.Builder).Len: "Len returns the number of accumulated bytes; b.Len() == len(b.String()).": the world is as it was. (THE FORM '_f': 'Lib.IsBuilderF'.) (LAID: no walk: one application.) -/
theorem Try.Builder_Len_f (B b : Nat) (bs : List Value) (w : World) (h : Lib.IsBuilderF 89 5 B b bs w) :
    Calls Try.prog 49 #[.pointer (some ⟨b, 0, none⟩)] w fun e w' => e = .returned (.int .i64 bs.length) ∧ w' = w := Any.Builder_Len_f Try.lays170 B b bs w h
open Go.RowKit in
/-- (*strings.Builder).String: "String returns the accumulated string.": OF A BUILDER THAT HOLDS AT LEAST ONE BYTE. ✋ THE MODEL FREEZES THOSE BYTES IN THE BUFFER (unsafe.String): a later write INTO them ends the model's run without an answer; a later append BEHIND them goes on. The statement's order of evaluation is drawn: one draw. THE FORM '_f': IT SAYS BESIDES THAT THE BUILDER IS A BUILDER STILL ('Lib.IsBuilderF', the same bytes): SO IT CAN BE WRITTEN ON: 'b.WriteString(b.String()[:k])'. (LAID: no walk: one application.) -/
theorem Try.Builder_String_f (B b : Nat) (l : List UInt8) (w : World) (h : Lib.IsBuilderF 89 5 B b (Lib.byteCells l) w) (h0 : l ≠ []) :
    Calls Try.prog 44 #[.pointer (some ⟨b, 0, none⟩)] w fun e w' => e = .returned (.string ⟨l.toArray⟩) ∧ (Lib.IsBuilderF 89 5 B b (Lib.byteCells l) w' ∧ Below B w w') := Any.Builder_String_f Try.lays169 Try.Builder_Extra_169 B b l w h h0
open Go.RowKit in
/-- (*strings.Builder).String OF A BUILDER THAT HOLDS NO BYTE: the empty string; THE FORM '_f': a builder still. (LAID: no walk: one application.) -/
theorem Try.Builder_String_empty_f (B b : Nat) (w : World) (h : Lib.IsBuilderF 89 5 B b [] w) (hBw : B ≤ w.heap.size) :
    Calls Try.prog 44 #[.pointer (some ⟨b, 0, none⟩)] w fun e w' => e = .returned (.string ⟨#[]⟩) ∧ (Lib.IsBuilderF 89 5 B b [] w' ∧ Below B w w') := Any.Builder_String_empty_f Try.lays169 Try.Builder_Extra_169 B b w h hBw
open Go.RowKit in
/-- (*strings.Builder).String: "String returns the accumulated string.": WHATEVER THE BUILDER HOLDS; THE FORM '_f': OF A BUILDER THAT MAY HAVE BEEN READ BEFORE; AND IT IS A BUILDER STILL, holding the same bytes: it can be written on. (LAID: no walk: one application.) -/
theorem Try.Builder_String_any_f (B b : Nat) (l : List UInt8) (w : World) (h : Lib.IsBuilderF 89 5 B b (Lib.byteCells l) w) (hBw : B ≤ w.heap.size) :
    Calls Try.prog 44 #[.pointer (some ⟨b, 0, none⟩)] w fun e w' => e = .returned (.string ⟨l.toArray⟩) ∧ (Lib.IsBuilderF 89 5 B b (Lib.byteCells l) w' ∧ Below B w w') := Any.Builder_String_any_f Try.lays169 Try.Builder_Extra_169 B b l w h hBw
def Try.lays206_ren : Go.Shelf.Ren := ⟨fun | 206 => 64 | n => n, fun | 9 => 9 | 4 => 4 | 3 => 3 | n => n, fun | n => n⟩
theorem Try.lays206 : Go.Proofs.Lays.n206 Try.prog Try.lays206_ren := {
  mixed := by kernel_rfl
  f206 := Try.func64.trans (congrArg some (by kernel_rfl))
  t3 := Try.underlying3
  a3 := Try.isAgg3
  z3 := Try.sizeOf3
  v3 := Try.zeroValue3
  t4 := Try.underlying4
  a4 := Try.isAgg4
  z4 := Try.sizeOf4
  v4 := Try.zeroValue4
  t9 := Try.underlying9
  a9 := Try.isAgg9
  z9 := Try.sizeOf9
  v9 := Try.zeroValue9 }
open Go.RowKit Go.Lib in
/-- internal/stringslite.HasPrefix (what strings.HasPrefix calls). (LAID: no walk: one application.) -/
theorem Try.stringslite_HasPrefix (s p : ByteArray) (w : World) :
    Calls Try.prog 64 #[.string s, .string p] w fun e w' => e = .returned (.bool (Lib.hasPrefix s.data.toList p.data.toList)) ∧ w' = w := Any.stringslite_HasPrefix Try.lays206 s p w
def Try.lays99_ren : Go.Shelf.Ren := ⟨fun | 99 => 47 | 206 => 64 | n => n, fun | 9 => 9 | 4 => 4 | 3 => 3 | n => n, fun | n => n⟩
theorem Try.lays99 : Go.Proofs.Lays.n99 Try.prog Try.lays99_ren := {
  mixed := by kernel_rfl
  f99 := Try.func47.trans (congrArg some (by kernel_rfl))
  f206 := Try.func64.trans (congrArg some (by kernel_rfl))
  t3 := Try.underlying3
  a3 := Try.isAgg3
  z3 := Try.sizeOf3
  v3 := Try.zeroValue3
  t4 := Try.underlying4
  a4 := Try.isAgg4
  z4 := Try.sizeOf4
  v4 := Try.zeroValue4
  t9 := Try.underlying9
  a9 := Try.isAgg9
  z9 := Try.sizeOf9
  v9 := Try.zeroValue9 }
open Go.RowKit Go.Lib in
/-- strings.HasPrefix: "HasPrefix reports whether the string s begins with prefix.": IT RETURNS 'Lib.hasPrefix s prefix'; the world is as it was. (LAID: no walk: one application.) -/
theorem Try.strings_HasPrefix (s p : ByteArray) (w : World) :
    Calls Try.prog 47 #[.string s, .string p] w fun e w' => e = .returned (.bool (Lib.hasPrefix s.data.toList p.data.toList)) ∧ w' = w := Any.strings_HasPrefix Try.lays99 s p w
def Try.lays264_ren : Go.Shelf.Ren := ⟨fun | 264 => 63 | n => n, fun | 53 => 65 | 46 => 97 | n => n, fun | n => n⟩
theorem Try.lays264 : Go.Proofs.Lays.n264 Try.prog Try.lays264_ren := {
  mixed := by kernel_rfl
  f264 := Try.func63.trans (congrArg some (by kernel_rfl))
  t46 := Try.underlying97
  a46 := Try.isAgg97
  z46 := Try.sizeOf97
  v46 := Try.zeroValue97
  t53 := Try.underlying65
  a53 := Try.isAgg65
  z53 := Try.sizeOf65
  v53 := Try.zeroValue65 }
open Go.RowKit Go.Lib in
theorem Try.bits_Mul64 (x y : Nat) (hx : x < 18446744073709551616) (hy : y < 18446744073709551616) (w : World) :
    Calls Try.prog 63 #[.int .u64 x, .int .u64 y] w fun e w' => e = .returned (.tuple #[.int .u64 ((x * y / 18446744073709551616 : Nat) : Int), .int .u64 ((x * y % 18446744073709551616 : Nat) : Int)]) ∧ w' = w := Any.bits_Mul64 Try.lays264 x y hx hy w
def Try.lays212_ren : Go.Shelf.Ren := ⟨fun | 212 => 46 | 263 => 62 | 264 => 63 | n => n, fun | 46 => 97 | 51 => 116 | 146 => 117 | 53 => 65 | 148 => 119 | n => n, fun | n => n⟩
theorem Try.lays212 : Go.Proofs.Lays.n212 Try.prog Try.lays212_ren := {
  mixed := by kernel_rfl
  f212 := Try.func46.trans (congrArg some (by kernel_rfl))
  f263 := Try.func62.trans (congrArg some (by kernel_rfl))
  f264 := Try.func63.trans (congrArg some (by kernel_rfl))
  t46 := Try.underlying97
  a46 := Try.isAgg97
  z46 := Try.sizeOf97
  v46 := Try.zeroValue97
  t51 := Try.underlying116
  a51 := Try.isAgg116
  z51 := Try.sizeOf116
  v51 := Try.zeroValue116
  t53 := Try.underlying65
  a53 := Try.isAgg65
  z53 := Try.sizeOf65
  v53 := Try.zeroValue65
  t146 := Try.underlying117
  a146 := Try.isAgg117
  z146 := Try.sizeOf117
  v146 := Try.zeroValue117
  t148 := Try.underlying119
  a148 := Try.isAgg119
  z148 := Try.sizeOf119
  v148 := Try.zeroValue119 }
open Go.RowKit Go.Lib in
/-- math/bits.Mul: "Mul returns the full-width product of x and y": on a machine of 64 bits: Mul64's. (LAID: no walk: one application.) -/
theorem Try.bits_Mul (x y : Nat) (hx : x < 18446744073709551616) (hy : y < 18446744073709551616) (w : World) :
    Calls Try.prog 46 #[.int .u64 x, .int .u64 y] w fun e w' => e = .returned (.tuple #[.int .u64 ((x * y / 18446744073709551616 : Nat) : Int), .int .u64 ((x * y % 18446744073709551616 : Nat) : Int)]) ∧ w' = w := Any.bits_Mul Try.lays212 x y hx hy w
def Try.lays105_ren : Go.Shelf.Ren := ⟨fun | 105 => 24 | 212 => 46 | 99 => 47 | 165 => 48 | 166 => 40 | 170 => 49 | 169 => 44 | 263 => 62 | 264 => 63 | 206 => 64 | 240 => 60 | 241 => 65 | 276 => 70 | 277 => 71 | n => n, fun | 9 => 9 | 3 => 3 | 4 => 4 | 20 => 20 | 0 => 0 | 46 => 97 | 109 => 98 | 5 => 5 | 72 => 89 | 76 => 92 | 51 => 116 | 146 => 117 | 53 => 65 | 148 => 119 | 70 => 87 | 37 => 74 | 75 => 91 | 127 => 114 | 164 => 128 | 80 => 95 | n => n, fun | n => n⟩
theorem Try.lays105 : Go.Proofs.Lays.n105 Try.prog Try.lays105_ren := {
  mixed := by kernel_rfl
  f99 := Try.func47.trans (congrArg some (by kernel_rfl))
  f105 := Try.func24.trans (congrArg some (by kernel_rfl))
  f165 := Try.func48.trans (congrArg some (by kernel_rfl))
  f166 := Try.func40.trans (congrArg some (by kernel_rfl))
  f169 := Try.func44.trans (congrArg some (by kernel_rfl))
  f170 := Try.func49.trans (congrArg some (by kernel_rfl))
  f206 := Try.func64.trans (congrArg some (by kernel_rfl))
  f212 := Try.func46.trans (congrArg some (by kernel_rfl))
  f240 := Try.func60.trans (congrArg some (by kernel_rfl))
  f241 := Try.func65.trans (congrArg some (by kernel_rfl))
  f263 := Try.func62.trans (congrArg some (by kernel_rfl))
  f264 := Try.func63.trans (congrArg some (by kernel_rfl))
  f276 := Try.func70.trans (congrArg some (by kernel_rfl))
  f277 := Try.func71.trans (congrArg some (by kernel_rfl))
  t0 := Try.underlying0
  a0 := Try.isAgg0
  z0 := Try.sizeOf0
  v0 := Try.zeroValue0
  t3 := Try.underlying3
  a3 := Try.isAgg3
  z3 := Try.sizeOf3
  v3 := Try.zeroValue3
  t4 := Try.underlying4
  a4 := Try.isAgg4
  z4 := Try.sizeOf4
  v4 := Try.zeroValue4
  t5 := Try.underlying5
  a5 := Try.isAgg5
  z5 := Try.sizeOf5
  v5 := Try.zeroValue5
  t9 := Try.underlying9
  a9 := Try.isAgg9
  z9 := Try.sizeOf9
  v9 := Try.zeroValue9
  t20 := Try.underlying20
  a20 := Try.isAgg20
  z20 := Try.sizeOf20
  v20 := Try.zeroValue20
  t37 := Try.underlying74
  a37 := Try.isAgg74
  z37 := Try.sizeOf74
  v37 := Try.zeroValue74
  t46 := Try.underlying97
  a46 := Try.isAgg97
  z46 := Try.sizeOf97
  v46 := Try.zeroValue97
  t51 := Try.underlying116
  a51 := Try.isAgg116
  z51 := Try.sizeOf116
  v51 := Try.zeroValue116
  t53 := Try.underlying65
  a53 := Try.isAgg65
  z53 := Try.sizeOf65
  v53 := Try.zeroValue65
  t70 := Try.underlying87
  a70 := Try.isAgg87
  z70 := Try.sizeOf87
  v70 := Try.zeroValue87
  t72 := Try.underlying89
  a72 := Try.isAgg89
  z72 := Try.sizeOf89
  v72 := Try.zeroValue89
  t75 := Try.underlying91
  a75 := Try.isAgg91
  z75 := Try.sizeOf91
  v75 := Try.zeroValue91
  t76 := Try.underlying92
  a76 := Try.isAgg92
  z76 := Try.sizeOf92
  v76 := Try.zeroValue92
  t109 := Try.underlying98
  a109 := Try.isAgg98
  z109 := Try.sizeOf98
  v109 := Try.zeroValue98
  t127 := Try.underlying114
  a127 := Try.isAgg114
  z127 := Try.sizeOf114
  v127 := Try.zeroValue114
  t146 := Try.underlying117
  a146 := Try.isAgg117
  z146 := Try.sizeOf117
  v146 := Try.zeroValue117
  t148 := Try.underlying119
  a148 := Try.isAgg119
  z148 := Try.sizeOf119
  v148 := Try.zeroValue119
  t164 := Try.underlying128
  a164 := Try.isAgg128
  z164 := Try.sizeOf128
  v164 := Try.zeroValue128 }
theorem Try.Builder_Extra_105 : Builder.Extra Try.prog Try.lays105_ren := {
  sizeBuilder := by kernel_rfl
  liesBuilder := by kernel_rfl
  t5 := Try.underlying5
  a5 := Try.isAgg5
  z5 := Try.sizeOf5
  v5 := Try.zeroValue5
  infoByte := by kernel_rfl
  cellsByte := by kernel_rfl
  sizeByte := by kernel_rfl
  neB5 := by decide }
open Go.RowKit Go.Lib in
/-- THE MAIN CASE: at least two copies of a string that is not empty. (LAID: no walk: one application.) -/
theorem Try.strings_Repeat_main (s : ByteArray) (c : Nat) (w : World) (hc2 : 2 ≤ c) (hc : c ≤ 9223372036854775807) (hlen : s.size * c ≤ 140737488355328) (h0 : 0 < s.size) :
    Calls Try.prog 24 #[.string s, .int .i64 c] w fun e w' => e = .returned (.string ⟨(Lib.repeatL s.data.toList c).toArray⟩) ∧ Below w.heap.size w w' := Any.strings_Repeat_main Try.lays105 Try.Builder_Extra_105 s c w hc2 hc hlen h0
open Go.RowKit Go.Lib in
theorem Try.strings_Repeat_zero (s : ByteArray) (w : World) :
    Calls Try.prog 24 #[.string s, .int .i64 0] w fun e w' => e = .returned (.string ⟨#[]⟩) ∧ w' = w := Any.strings_Repeat_zero Try.lays105 s w
open Go.RowKit Go.Lib in
theorem Try.strings_Repeat_one (s : ByteArray) (w : World) :
    Calls Try.prog 24 #[.string s, .int .i64 1] w fun e w' => e = .returned (.string s) ∧ w' = w := Any.strings_Repeat_one Try.lays105 s w
open Go.RowKit Go.Lib in
/-- Copies of the empty string. (LAID: no walk: one application.) -/
theorem Try.strings_Repeat_empty (s : ByteArray) (c : Nat) (w : World) (hc2 : 2 ≤ c) (hc : c ≤ 9223372036854775807) (h0 : s.size = 0) :
    Calls Try.prog 24 #[.string s, .int .i64 c] w fun e w' => e = .returned (.string ⟨#[]⟩) ∧ w' = w := Any.strings_Repeat_empty Try.lays105 s c w hc2 hc h0
open Go.RowKit Go.Lib in
/-- count < 0: "It panics if count is negative". (LAID: no walk: one application.) -/
theorem Try.strings_Repeat_negative (s : ByteArray) (c : Int) (w : World) (hc : c < 0) :
    Calls Try.prog 24 #[.string s, .int .i64 c] w fun e w' => e = .panicked [{ v := repeatPanic Try.lays105_ren "strings: negative Repeat count", recovered := false }] ∧ w' = w := Any.strings_Repeat_negative Try.lays105 s c w hc
open Go.RowKit Go.Lib in
/-- len(s) * count is no int: ".. or if the result of (len(s) * count) overflows". (LAID: no walk: one application.) -/
theorem Try.strings_Repeat_overflow (s : ByteArray) (c : Nat) (w : World) (hc : c ≤ 9223372036854775807) (hs : s.size ≤ 9223372036854775807) (hbig : 9223372036854775807 < s.size * c) :
    Calls Try.prog 24 #[.string s, .int .i64 c] w fun e w' => e = .panicked [{ v := repeatPanic Try.lays105_ren "strings: Repeat output length overflow", recovered := false }] ∧ w' = w := Any.strings_Repeat_overflow Try.lays105 s c w hc hs hbig
open Go.RowKit Go.Lib in
/-- **strings.Repeat: count ≥ 0, the result within one allocation: count copies of s.** (LAID: no walk: one application.) -/
theorem Try.strings_Repeat (s : ByteArray) (c : Nat) (w : World) (hc : c ≤ 9223372036854775807) (hlen : s.size * c ≤ 140737488355328) :
    Calls Try.prog 24 #[.string s, .int .i64 c] w fun e w' => e = .returned (.string ⟨(Lib.repeatL s.data.toList c).toArray⟩) ∧ Below w.heap.size w w' := Any.strings_Repeat Try.lays105 Try.Builder_Extra_105 s c w hc hlen
end Go.Proofs
/- A body's writer: chains, records, and what the builder holds. -/
namespace Go.Proofs.Ytakbgaiedenikaa.Own
open Go.RowKit Go.Proofs.YtakbgaiedenikaaW.PrintWords Go.Proofs.Ytakbgaiedenikaa.Pu
set_option maxRecDepth 100000
set_option linter.unusedSimpArgs false
set_option linter.unusedVariables false
/-- A builder that holds bytes. -/
def BW (B b : Nat) (l : List UInt8) (w : World) : Prop := Lib.IsBuilder 89 5 B b (Lib.byteCells l) w
theorem BW.below {B b : Nat} {l : List UInt8} {w w1 : World} (h : BW B b l w) (hb : Below w.heap.size w w1) : BW B b l w1 := by
  rcases h with ⟨h1, v, h2, h3, h4⟩ | ⟨h1, v, h2, h3, h4⟩
  · exact Or.inl ⟨h1, v, blk_below h2 hb, pw_own_below h3 hb, h4⟩
  · exact Or.inr ⟨h1, v, blk_below h2 hb, pw_own_below h3 hb, h4⟩
theorem below_weak {B B0 : Nat} {w w1 : World} (h : Below B w w1) (hb : B0 ≤ B) : Below B0 w w1 := ⟨h.os, h.tape, h.output, h.size, fun k hk => h.block k (Nat.lt_of_lt_of_le hk hb)⟩
theorem write_any {B b : Nat} {l m : List UInt8} {w : World} (h : BW B b l w) (hl : l.length + m.length ≤ 140737488355328) (hB : B ≤ w.heap.size) :
    Calls Try.prog 40 #[.pointer (some ⟨b, 0, none⟩), .string (sB m)] w fun e w' => e = .returned (.tuple #[.int .i64 m.length, .nilIface]) ∧ BW B b (l ++ m) w' ∧ Below B w w' := by
  refine (Try.Builder_WriteString B b (Lib.byteCells l) (sB m) w h (by rw [sB_size]; simpa [Lib.byteCells] using hl) hB).mono ?_
  rintro e w' ⟨rfl, h1, h2⟩
  rw [sB_size]
  refine ⟨rfl, Or.inr ?_, h2⟩
  have e1 : Lib.byteCells l ++ Lib.strCells (sB m) = Lib.byteCells (l ++ m) := by simp [Lib.byteCells, Lib.strCells, sB]
  rw [← e1]
  exact h1
theorem told_any {B b : Nat} {l : List UInt8} {w : World} (h : BW B b l w) (hB : B ≤ w.heap.size) :
    Calls Try.prog 44 #[.pointer (some ⟨b, 0, none⟩)] w fun e w' => e = .returned (.string (sB l)) ∧ Below B w w' := Try.Builder_String_any B b l w h hB
theorem achain_any (n : Nat) (w : World) (hn : n ≤ 1099511627776) :
    Calls Try.prog 41 #[.int .i64 (n : Int)] w fun e w' => e = .returned (.string (sB (chainL n))) ∧ Below w.heap.size w w' := by
  have e1 : IntKind.u64.wrap (n : Int) = n := IntWalk.u64_in _ (by omega)
  go_enter Try.func41, Try.ntmps41
  go_wp2_with fail
  refine (chain_any n _ (by omega)).mono ?_
  rintro e w2 ⟨rfl, b2⟩
  go_wp2
  go_ret
  exact ⟨rfl, b2⟩
/-- A record's bytes. -/
def recB (x : PB.S54) : List UInt8 := recL x.f0.toNat x.f1.toNat x.f5.toNat x.f6.toNat x.f7.toNat x.f4 x.f2 x.f3
theorem rencode_any (x : PB.S54) (w : World) (hm : PuB.mayB x = true) : Calls Try.prog 42 #[.agg #[.int .i64 x.f0, .int .i64 x.f1, .string x.f2, .string x.f3, .bool x.f4, .int .i64 x.f5, .int .i64 x.f6, .int .i64 x.f7]] w fun e w' => e = .returned (.tuple #[.string (sB (recB x)), .int .i64 0]) ∧ Below w.heap.size w w' := by
  have : Ev (fun k => PB.record_Encode.f k x.f0 x.f1 x.f2 x.f3 x.f4 x.f5 x.f6 x.f7) (sB (recB x), 0) := by
    unfold PB.record_Encode.f
    refine Ev.bind (PuB.recMay_ev x) ?_
    exact Ev.pos hm (Ev.cst (by rw [PuB.enc_eq x hm]; rfl))
  obtain ⟨k, hk⟩ := Ev.rounds this
  exact PB.record_Encode.calls k _ _ _ _ _ _ _ _ _ _ w hk
end Go.Proofs.Ytakbgaiedenikaa.Own
/- The walk of an answer's body. -/
namespace Go.Proofs.Ytakbgaiedenikaa.Own
open Go.RowKit Go.Proofs.YtakbgaiedenikaaW.PrintWords Go.Proofs.Ytakbgaiedenikaa.Pu
set_option maxRecDepth 100000
set_option linter.unusedSimpArgs false
set_option linter.unusedVariables false
def bodyL (na nb : Nat) (rs : List PB.S54) (ns : List ByteArray) (ks : List Int) : List UInt8 :=
  chainL na ++ chainL nb ++ chainL rs.length ++ rs.flatMap recB ++ chainL ns.length ++ ns.flatMap textL ++ chainL ks.length ++ ks.flatMap (fun k => chainL k.toNat)
theorem recB_len (x : PB.S54) (h : PuB.mayB x = true) : (recB x).length ≤ 320 := by
  rw [PuB.mayB_iff] at h
  obtain ⟨⟨a, b⟩, ⟨c, d⟩, ⟨e, f⟩, ⟨g, i⟩, ⟨j, l⟩, m⟩ := h
  rw [PuB.restB_iff] at m
  obtain ⟨_, m1, m2, _⟩ := m
  unfold recB recL
  have l0 := chainL_len10 (v := x.f0.toNat) (by omega)
  have l1 := chainL_len10 (v := x.f1.toNat) (by omega)
  have l5 := chainL_len10 (v := x.f5.toNat) (by omega)
  have l6 := chainL_len10 (v := x.f6.toNat) (by omega)
  have l7 := chainL_len10 (v := x.f7.toNat) (by omega)
  have l4 := chainL_len10 (v := if x.f4 then 1 else 0) (by split <;> omega)
  have t2 := textL_length x.f2 (by omega)
  have t3 := textL_length x.f3 (by omega)
  simp only [List.length_append]
  omega
theorem flat_take {α : Type} (f : α → List UInt8) (l : List α) (k : Nat) (hk : k < l.length) : (l.take (k + 1)).flatMap f = (l.take k).flatMap f ++ f l[k] := by
  rw [List.take_succ_eq_append_getElem hk, List.flatMap_append]; simp
theorem flat_len {α : Type} (f : α → List UInt8) (N : Nat) (l : List α) (h : ∀ x ∈ l, (f x).length ≤ N) : ∀ k, ((l.take k).flatMap f).length ≤ N * k := by
  intro k
  induction k with
  | zero => simp
  | succ k ih =>
    by_cases hk : k < l.length
    · rw [flat_take f l k hk, List.length_append, Nat.mul_succ]
      have := h l[k] (List.getElem_mem _)
      omega
    · rw [List.take_of_length_le (by omega)]
      rw [List.take_of_length_le (by omega)] at ih
      rw [Nat.mul_succ]; omega
/-- Where the writing of a body stands. -/
structure BX (w0 : World) (bc : Obj) (l : List UInt8) (w : World) : Prop where
  bx : w.heap[w0.heap.size]? = some bc
  bw : BW (w0.heap.size + 1) (w0.heap.size + 1) l w
  bel : Below w0.heap.size w0 w
  sz : w0.heap.size + 1 ≤ w.heap.size
theorem BX.below {w0 : World} {bc : Obj} {l : List UInt8} {w w1 : World} (h : BX w0 bc l w) (hb : Below w.heap.size w w1) : BX w0 bc l w1 :=
  ⟨(hb.block _ (by have := h.sz; omega)).trans h.bx, h.bw.below hb, below_two h.bel hb, Nat.le_trans h.sz hb.size⟩
theorem below_join {a b c : World} {n m : Nat} (h : Below n a b) (h2 : Below m b c) (hm : n ≤ m) : Below n a c :=
  ⟨h2.os.trans h.os, h2.tape.trans h.tape, h2.output.trans h.output, Nat.le_trans h.size h2.size, fun k hk => (h2.block k (Nat.lt_of_lt_of_le hk hm)).trans (h.block k hk)⟩
theorem BX.wrote {w0 : World} {bc : Obj} {l m : List UInt8} {w w1 : World} (h : BX w0 bc l w) (hw : BW (w0.heap.size + 1) (w0.heap.size + 1) (l ++ m) w1) (hb : Below (w0.heap.size + 1) w w1) : BX w0 bc (l ++ m) w1 :=
  ⟨(hb.block _ (Nat.lt_succ_self _)).trans h.bx, hw, below_join h.bel hb (Nat.le_succ _), Nat.le_trans h.sz hb.size⟩
theorem meas2 {n k : Nat} (h : k < n) : n - (intOf (.int .i64 ((k : Int) + 1))).toNat < n - (intOf (.int .i64 (k : Int))).toNat := by
  simp [intOf]; omega
structure S0 (b : Nat) (bc : Obj) (w : World) : Prop where
  h : w.heap[b]? = some bc
theorem S0.drew {b : Nat} {bc : Obj} {w : World} (h : S0 b bc w) : S0 b bc w.drew := ⟨h.h⟩
theorem S0.below {b : Nat} {bc : Obj} {w w1 : World} (h : S0 b bc w) (hb : Below w.heap.size w w1) : S0 b bc w1 := ⟨blk_below h.h hb⟩
theorem BX.drew {w0 : World} {bc : Obj} {l : List UInt8} {w : World} (h : BX w0 bc l w) : BX w0 bc l w.drew := ⟨h.bx, h.bw, h.bel.drew, h.sz⟩
set_option maxHeartbeats 4000000 in
theorem body_any (id kd cd : Int) (na nb : Nat) (A5 : Option Addr) (c5 : Nat) (rs : List PB.S54) (A6 : Option Addr) (c6 : Nat) (ns : List ByteArray) (A7 : Option Addr) (c7 : Nat) (ks : List Int) (w : World)
    (h5 : Kd.C PB.k54 w A5 rs.length rs) (h6 : Kd.C Kd.string w A6 ns.length ns) (h7 : Kd.C (Kd.int .i64) w A7 ks.length ks) (hna : na ≤ 1099511627776) (hnb : nb ≤ 1099511627776) (hl5 : rs.length ≤ 100) (hl6 : ns.length ≤ 600) (hl7 : ks.length ≤ 600)
    (hm : ∀ x ∈ rs, PuB.mayB x = true) (hs : ∀ x ∈ ns, x.size ≤ 64) (hk : ∀ x ∈ ks, 0 ≤ x ∧ x ≤ 1099511627776) :
    Calls Try.prog 22 #[.agg #[.int .i64 id, .int .i64 kd, .int .i64 cd, .int .i64 na, .int .i64 nb, .slice A5 rs.length c5, .slice A6 ns.length c6, .slice A7 ks.length c7]] w fun e w' => e = .returned (.string (sB (bodyL na nb rs ns ks))) ∧ Below w.heap.size w w' := by
  obtain ⟨bc, hbc⟩ : ∃ bc : Obj, bc = .cells #[.int .i64 id, .int .i64 kd, .int .i64 cd, .int .i64 na, .int .i64 nb, .slice A5 rs.length c5, .slice A6 ns.length c6, .slice A7 ks.length c7] 27 (0, 0) := ⟨_, rfl⟩
  have hbx : BX w bc [] ((w.alloc (.cells #[.int .i64 id, .int .i64 kd, .int .i64 cd, .int .i64 na, .int .i64 nb, .slice A5 rs.length c5, .slice A6 ns.length c6, .slice A7 ks.length c7] 27)).alloc (.cells #[.pointer none, .slice none 0 0] 89)) := by
    refine ⟨?_, Or.inl ⟨Nat.le_refl _, .slice none 0 0, ?_, ⟨rfl, Or.inl ⟨rfl, rfl⟩⟩, by simp [Value.ownBlock]⟩, ((Below.refl _ _).alloc (Nat.le_refl _) _).alloc (by simp) _, by simp⟩
    · rw [heap_old _ _ (by simp), heap_new, hbc]
    · simpa using heap_new (w.alloc (.cells #[.int .i64 id, .int .i64 kd, .int .i64 cd, .int .i64 na, .int .i64 nb, .slice A5 rs.length c5, .slice A6 ns.length c6, .slice A7 ks.length c7] 27)) (.cells #[.pointer none, .slice none 0 0] 89)
  have HB := Lib.hid hbx; clear hbx
  have HM := Lib.hid hm; clear hm
  have HS := Lib.hid hs; clear hs
  have HK := Lib.hid hk; clear hk
  have H5 := Lib.hid h5; clear h5
  have H6 := Lib.hid h6; clear h6
  have H7 := Lib.hid h7; clear h7
  have HNA := Lib.hid hna; clear hna
  have HNB := Lib.hid hnb; clear hnb
  have HBC := Lib.hid hbc; clear hbc
  go_enter Try.func22, Try.ntmps22
  go_wp2_with fail
  have l1 := chainL_len10 (v := na) (by have := HNA.out; omega)
  have l2 := chainL_len10 (v := nb) (by have := HNB.out; omega)
  have l3 := chainL_len10 (v := rs.length) (by omega)
  have L1 := Lib.hid l1
  have L2 := Lib.hid l2
  have L3 := Lib.hid l3
  have s1 : ¬ (9223372036854775807 < (sB (chainL na)).size + (sB (chainL nb)).size) := by rw [sB_size, sB_size]; omega
  have s2 : ¬ (9223372036854775807 < (sB (chainL na ++ chainL nb)).size + (sB (chainL rs.length)).size) := by rw [sB_size, sB_size, List.length_append]; omega
  have s3 := sB_append (chainL na) (chainL nb)
  have s4 := sB_append (chainL na ++ chainL nb) (chainL rs.length)
  clear l1 l2 l3
  generalize hW : (w.alloc (.cells #[.int .i64 id, .int .i64 kd, .int .i64 cd, .int .i64 na, .int .i64 nb, .slice A5 rs.length c5, .slice A6 ns.length c6, .slice A7 ks.length c7] 27)).alloc (.cells #[.pointer none, .slice none 0 0] 89) = W0 at *
  clear hW
  have hB := HB.out.drew
  have hS : S0 w.heap.size bc W0 := ⟨HB.out.bx⟩
  refine wp_region_held_drew (S := S0 w.heap.size bc) (by kernel_rfl) (hS.drew) (fun hHeld => ?_)
  refine wpAnyH_take (i := 0) (oi := { dst := some 12, op := Op.fieldAddr 27 (Operand.tmp 1) 3, type := 0, pos := "answer.go:59", after := #[], guard := none }) (v := ?_) rfl (by kernel_rfl) (by kernel_rfl) (by kernel_rfl) (fun _ _ _ h => h) (Or.inl ⟨by rfl, ?_⟩) hHeld ?_; rotate_left 1; (intro w9 hSw; obtain ⟨h9⟩ := hSw; go_simp; first | done | with_reducible rfl); (try simp only [Act.put, List.setIfInBounds_toArray, List.set_cons_zero, List.set_cons_succ])
  refine wpAnyH_take (i := 1) (oi := { dst := some 13, op := Op.load 3 (Operand.tmp 12), type := 3, pos := "answer.go:59", after := #[{ on := 0, ground := Ground.data }], guard := none }) (v := ?_) rfl (by kernel_rfl) (by kernel_rfl) (by kernel_rfl) (fun _ _ _ h => h) (Or.inl ⟨by rfl, ?_⟩) hHeld ?_; rotate_left 1; (intro w9 hSw; obtain ⟨h9⟩ := hSw; have bx9 := h9.trans (congrArg some HBC.out); have q3 := blk_cell bx9 3; have q4 := blk_cell bx9 4; have q5 := blk_cell bx9 5; simp at q3 q4 q5; clear bx9 h9; go_simp; first | done | with_reducible rfl); (try simp only [Act.put, List.setIfInBounds_toArray, List.set_cons_zero, List.set_cons_succ])
  refine wpAnyH_take (i := 3) (oi := { dst := some 15, op := Op.fieldAddr 27 (Operand.tmp 1) 4, type := 0, pos := "answer.go:59", after := #[], guard := none }) (v := ?_) rfl (by kernel_rfl) (by kernel_rfl) (by kernel_rfl) (fun _ _ _ h => h) (Or.inl ⟨by rfl, ?_⟩) hHeld ?_; rotate_left 1; (intro w9 hSw; obtain ⟨h9⟩ := hSw; go_simp; first | done | with_reducible rfl); (try simp only [Act.put, List.setIfInBounds_toArray, List.set_cons_zero, List.set_cons_succ])
  refine wpAnyH_take (i := 4) (oi := { dst := some 16, op := Op.load 3 (Operand.tmp 15), type := 3, pos := "answer.go:59", after := #[{ on := 3, ground := Ground.data }], guard := none }) (v := ?_) rfl (by kernel_rfl) (by kernel_rfl) (by kernel_rfl) (fun _ _ _ h => h) (Or.inl ⟨by rfl, ?_⟩) hHeld ?_; rotate_left 1; (intro w9 hSw; obtain ⟨h9⟩ := hSw; have bx9 := h9.trans (congrArg some HBC.out); have q3 := blk_cell bx9 3; have q4 := blk_cell bx9 4; have q5 := blk_cell bx9 5; simp at q3 q4 q5; clear bx9 h9; go_simp; first | done | with_reducible rfl); (try simp only [Act.put, List.setIfInBounds_toArray, List.set_cons_zero, List.set_cons_succ])
  refine wpAnyH_take (i := 7) (oi := { dst := some 19, op := Op.fieldAddr 27 (Operand.tmp 1) 5, type := 0, pos := "answer.go:59", after := #[], guard := none }) (v := ?_) rfl (by kernel_rfl) (by kernel_rfl) (by kernel_rfl) (fun _ _ _ h => h) (Or.inl ⟨by rfl, ?_⟩) hHeld ?_; rotate_left 1; (intro w9 hSw; obtain ⟨h9⟩ := hSw; go_simp; first | done | with_reducible rfl); (try simp only [Act.put, List.setIfInBounds_toArray, List.set_cons_zero, List.set_cons_succ])
  refine wpAnyH_take (i := 8) (oi := { dst := some 20, op := Op.load 23 (Operand.tmp 19), type := 23, pos := "answer.go:59", after := #[{ on := 7, ground := Ground.data }], guard := none }) (v := ?_) rfl (by kernel_rfl) (by kernel_rfl) (by kernel_rfl) (fun _ _ _ h => h) (Or.inl ⟨by rfl, ?_⟩) hHeld ?_; rotate_left 1; (intro w9 hSw; obtain ⟨h9⟩ := hSw; have bx9 := h9.trans (congrArg some HBC.out); have q3 := blk_cell bx9 3; have q4 := blk_cell bx9 4; have q5 := blk_cell bx9 5; simp at q3 q4 q5; clear bx9 h9; go_simp; first | done | with_reducible rfl); (try simp only [Act.put, List.setIfInBounds_toArray, List.set_cons_zero, List.set_cons_succ])
  refine wpAnyH_take (i := 9) (oi := { dst := some 21, op := Op.call { callee := Callee.builtin Builtin.len, args := #[Operand.tmp 20], argTypes := #[23] }, type := 3, pos := "answer.go:59", after := #[{ on := 8, ground := Ground.data }], guard := none }) (v := ?_) rfl (by kernel_rfl) (by kernel_rfl) (by kernel_rfl) (fun _ _ _ h => h) (Or.inl ⟨by rfl, ?_⟩) hHeld ?_; rotate_left 1; (intro w9 hSw; obtain ⟨h9⟩ := hSw; go_simp; first | done | with_reducible rfl); (try simp only [Act.put, List.setIfInBounds_toArray, List.set_cons_zero, List.set_cons_succ])
  refine wpAnyH_ready (rs := [2]) (by kernel_rfl) (by simp) ?_; refine AllReadyH.cons (o := { dst := some 14, op := Op.call { callee := Callee.value (Operand.func 41), args := #[Operand.tmp 13], argTypes := #[3] }, type := 9, pos := "answer.go:59", after := #[{ on := 1, ground := Ground.data }], guard := none }) rfl (fun K hK => ?_) AllReadyH.nil; go_simp; refine (achain_any na _ HNA.out).mono ?_; rintro e w4 ⟨rfl, bel⟩; have hB := hB.below bel; (try go_wp2_with fail); refine hK.out _ _ (hHeld.below bel) (fun hHeld => ?_); clear hK; (try simp only [Act.put, List.setIfInBounds_toArray, List.set_cons_zero, List.set_cons_succ])
  refine wpAnyH_ready (rs := [5]) (by kernel_rfl) (by simp) ?_; refine AllReadyH.cons (o := { dst := some 17, op := Op.call { callee := Callee.value (Operand.func 41), args := #[Operand.tmp 16], argTypes := #[3] }, type := 9, pos := "answer.go:59", after := #[{ on := 4, ground := Ground.data }, { on := 2, ground := Ground.chain }], guard := none }) rfl (fun K hK => ?_) AllReadyH.nil; go_simp; refine (achain_any nb _ HNB.out).mono ?_; rintro e w4 ⟨rfl, bel⟩; have hB := hB.below bel; (try go_wp2_with fail); refine hK.out _ _ (hHeld.below bel) (fun hHeld => ?_); clear hK; (try simp only [Act.put, List.setIfInBounds_toArray, List.set_cons_zero, List.set_cons_succ])
  refine wpAnyH_take (i := 6) (oi := { dst := some 18, op := Op.binOp BinOp.add 9 (Operand.tmp 14) (Operand.tmp 17) 9, type := 9, pos := "answer.go:59", after := #[{ on := 2, ground := Ground.data }, { on := 5, ground := Ground.data }], guard := none }) (v := ?_) rfl (by kernel_rfl) (by kernel_rfl) (by kernel_rfl) (fun _ _ _ h => h) (Or.inl ⟨by rfl, ?_⟩) hHeld ?_; rotate_left 1; (intro w9 hSw; obtain ⟨h9⟩ := hSw; go_simp; first | done | with_reducible rfl); (try simp only [Act.put, List.setIfInBounds_toArray, List.set_cons_zero, List.set_cons_succ])
  refine wpAnyH_ready (rs := [10]) (by kernel_rfl) (by simp) ?_; refine AllReadyH.cons (o := { dst := some 22, op := Op.call { callee := Callee.value (Operand.func 41), args := #[Operand.tmp 21], argTypes := #[3] }, type := 9, pos := "answer.go:59", after := #[{ on := 9, ground := Ground.data }, { on := 5, ground := Ground.chain }], guard := none }) rfl (fun K hK => ?_) AllReadyH.nil; go_simp; refine (achain_any rs.length _ (by omega)).mono ?_; rintro e w4 ⟨rfl, bel⟩; have hB := hB.below bel; (try go_wp2_with fail); refine hK.out _ _ (hHeld.below bel) (fun hHeld => ?_); clear hK; (try simp only [Act.put, List.setIfInBounds_toArray, List.set_cons_zero, List.set_cons_succ])
  refine wpAnyH_take (i := 11) (oi := { dst := some 23, op := Op.binOp BinOp.add 9 (Operand.tmp 18) (Operand.tmp 22) 9, type := 9, pos := "answer.go:59", after := #[{ on := 6, ground := Ground.data }, { on := 10, ground := Ground.data }], guard := none }) (v := ?_) rfl (by kernel_rfl) (by kernel_rfl) (by kernel_rfl) (fun _ _ _ h => h) (Or.inl ⟨by rfl, ?_⟩) hHeld ?_; rotate_left 1; (intro w9 hSw; obtain ⟨h9⟩ := hSw; go_simp; first | done | with_reducible rfl); (try simp only [Act.put, List.setIfInBounds_toArray, List.set_cons_zero, List.set_cons_succ])
  refine wpAnyH_ready (rs := [12]) (by kernel_rfl) (by simp) ?_; refine AllReadyH.cons (o := { dst := some 24, op := Op.call { callee := Callee.value (Operand.func 40), args := #[Operand.tmp 3, Operand.tmp 23], argTypes := #[89, 9] }, type := 92, pos := "answer.go:59", after := #[{ on := 11, ground := Ground.data }, { on := 10, ground := Ground.chain }], guard := none }) rfl (fun K hK => ?_) AllReadyH.nil; go_simp; refine (write_any (l := []) (m := chainL na ++ (chainL nb ++ chainL rs.length)) hB.bw (by have := L1.out; have := L2.out; have := L3.out; simp; omega) hB.sz).mono ?_; rintro e w4 ⟨rfl, hw4, bel⟩; have hB := hB.wrote hw4 bel; (try go_wp2_with fail); refine hK.out _ _ (⟨hB.bx⟩) (fun hHeld => ?_); clear hK; (try simp only [Act.put, List.setIfInBounds_toArray, List.set_cons_zero, List.set_cons_succ])
  refine wpAnyH_done (by kernel_rfl) ?_ _
  rw [List.nil_append] at hB
  have hdl : (chainL na ++ (chainL nb ++ chainL rs.length)).length ≤ 30 := by
    have := L1.out; have := L2.out; have := L3.out
    simp only [List.length_append]; omega
  obtain ⟨hd, hhd⟩ : ∃ hd, hd = chainL na ++ (chainL nb ++ chainL rs.length) := ⟨_, rfl⟩
  rw [← hhd] at hB hdl
  have HHD := Lib.hid hhd
  have HDL := Lib.hid hdl
  have B3 := Lib.hid hB
  clear hhd hdl hS hHeld s1 s2 s3 s4 bel hw4
  have bx3 := B3.out.bx.trans (congrArg some HBC.out)
  have q5 := blk_cell bx3 5
  simp at q5
  clear bx3 hB
  go_wp2_with fail
  go_loopw [28] (fun i wx => ∃ k : Nat, k ≤ rs.length ∧ i = .int .i64 (k : Int) ∧ BX w bc (hd ++ (rs.take k).flatMap recB) wx) (fun i _ => rs.length - (intOf i).toNat)
  case atStart => exact ⟨0, Nat.zero_le _, rfl, by simpa using B3.out⟩
  case round =>
    obtain ⟨k, hk, rfl, hbx⟩ := hrel
    have Bk := Lib.hid hbx; clear hbx q5
    by_cases hlt : k < rs.length
    · have p1 : (0 : Int) ≤ (k : Int) := Int.natCast_nonneg _
      have p2 : (k : Int) < (rs.length : Int) := by omega
      have hw : wrap64 ((k : Int) + 1) = ((k + 1 : Nat) : Int) := by unfold wrap64; omega
      obtain ⟨ad, ea, x0, x1, x2, x3, x4, x5, x6, x7⟩ := PB.at_T54 (Kd.C_below H5.out Bk.out.bel) (k : Int) p1 p2
      cases ea
      rw [Int.toNat_natCast] at x0 x1 x2 x3 x4 x5 x6 x7
      have hrd : PB.rd_T54 rs (k : Int) = rs[k] := by unfold PB.rd_T54; simp [hlt]
      have hxm : PuB.mayB (PB.rd_T54 rs (k : Int)) = true := by rw [hrd]; exact HM.out _ (List.getElem_mem _)
      have hft := flat_take recB rs k hlt
      rw [← hrd] at hft
      have hfl := flat_len recB 320 rs (fun x hx => recB_len x (HM.out x hx)) k
      clear hrd
      generalize PB.rd_T54 rs (k : Int) = x at *
      have HFT := Lib.hid hft; clear hft
      have HFL := Lib.hid (show ((rs.take k).flatMap recB).length ≤ 32000 by omega); clear hfl
      have HXM := Lib.hid hxm; clear hxm
      have HLT := Lib.hid hlt
      go_wp2_with fail
      refine (rencode_any x _ HXM.out).mono ?_
      have bA : Below wr.heap.size wr (wr.alloc (.cells #[.int .i64 x.f0, .int .i64 x.f1, .string x.f2, .string x.f3, .bool x.f4, .int .i64 x.f5, .int .i64 x.f6, .int .i64 x.f7] 54)) := (Below.refl _ _).alloc (Nat.le_refl _) _
      have BA := Lib.hid (Bk.out.below bA); clear bA
      rintro e w4 ⟨rfl, b4⟩
      have B4 := Lib.hid (BA.out.below b4)
      clear b4 BA x0 x1 x2 x3 x4 x5 x6 x7
      go_wp2_with fail
      refine (write_any (m := recB x) B4.out.bw (by have := HFL.out; have := HDL.out; have := recB_len x HXM.out; simp only [List.length_append]; omega) B4.out.sz).mono ?_
      rintro e w5 ⟨rfl, hw5, b5⟩
      have B5 := Lib.hid (B4.out.wrote hw5 b5)
      clear hw5 b5
      go_wp2
      go_roundw
      case rel => exact ⟨k + 1, HLT.out, by go_num, by rw [HFT.out, ← List.append_assoc]; exact B5.out⟩
      case measure => exact meas2 HLT.out
    · obtain rfl : k = rs.length := by omega
      have p2 : ¬ (rs.length : Int) < (rs.length : Int) := by omega
      have hbk := Bk.out
      rw [List.take_length] at hbk
      have B6 := Lib.hid hbk; clear hbk Bk
      have bx6 := B6.out.bx.trans (congrArg some HBC.out)
      have q6 := blk_cell bx6 6
      simp at q6
      clear bx6
      go_wp2_with fail
      refine (achain_any ns.length _ (by omega)).mono ?_
      rintro e w4 ⟨rfl, b4⟩
      have B7 := Lib.hid (B6.out.below b4); clear b4 q6
      have HL6 := Lib.hid (show ((rs.flatMap recB)).length ≤ 32000 by have := flat_len recB 320 rs (fun x hx => recB_len x (HM.out x hx)) rs.length; rw [List.take_length] at this; omega)
      have HL7 := Lib.hid (chainL_len10 (v := ns.length) (by omega))
      go_wp2_with fail
      refine (write_any (m := chainL ns.length) B7.out.bw (by have := HL6.out; have := HDL.out; have := HL7.out; simp only [List.length_append]; omega) B7.out.sz).mono ?_
      rintro e w5 ⟨rfl, hw5, b5⟩
      have B8 := Lib.hid (B7.out.wrote hw5 b5)
      clear hw5 b5
      obtain ⟨he, hhe⟩ : ∃ he, he = hd ++ rs.flatMap recB ++ chainL ns.length := ⟨_, rfl⟩
      have HEL := Lib.hid (show he.length ≤ 32050 by rw [hhe]; have := HL6.out; have := HDL.out; have := HL7.out; simp only [List.length_append]; omega)
      have B9 := B8.out
      rw [← hhe] at B9
      have BE := Lib.hid B9
      have HHE := Lib.hid hhe
      clear B9 hhe B7 B8
      have bx9 := BE.out.bx.trans (congrArg some HBC.out)
      have q6 := blk_cell bx9 6
      simp at q6
      clear bx9 p2 hlt hk
      go_wp2_with fail
      generalize wr = wOld at *
      go_loopw [48] (fun i wx => ∃ k : Nat, k ≤ ns.length ∧ i = .int .i64 (k : Int) ∧ BX w bc (he ++ (ns.take k).flatMap textL) wx) (fun i _ => ns.length - (intOf i).toNat)
      case atStart => exact ⟨0, Nat.zero_le _, rfl, by simpa using BE.out⟩
      case round =>
        obtain ⟨k, hk, rfl, hbx⟩ := hrel
        have Bk := Lib.hid hbx; clear hbx q6
        by_cases hlt : k < ns.length
        · have p1 : (0 : Int) ≤ (k : Int) := Int.natCast_nonneg _
          have p2 : (k : Int) < (ns.length : Int) := by omega
          have hw : wrap64 ((k : Int) + 1) = ((k + 1 : Nat) : Int) := by unfold wrap64; omega
          obtain ⟨ad, ea, x0⟩ := Kd.at_string (Kd.C_below H6.out Bk.out.bel) (k : Int) p1 p2
          cases ea
          rw [Int.toNat_natCast] at x0
          have hrd : rdOf ByteArray.empty ns (k : Int) = ns[k] := by unfold rdOf; simp [hlt]
          have hxs : (rdOf ByteArray.empty ns (k : Int)).size ≤ 64 := by rw [hrd]; exact HS.out _ (List.getElem_mem _)
          have hft := flat_take textL ns k hlt
          rw [← hrd] at hft
          have hfl := flat_len textL 74 ns (fun x hx => by have := textL_length x (by have := HS.out x hx; omega); have := HS.out x hx; omega) k
          clear hrd
          generalize rdOf ByteArray.empty ns (k : Int) = x at *
          have HFT := Lib.hid hft; clear hft
          have HFL := Lib.hid (show ((ns.take k).flatMap textL).length ≤ 44400 by omega); clear hfl
          have HXS := Lib.hid hxs; clear hxs
          have HLT := Lib.hid hlt
          go_wp2_with fail
          refine (text_any x _ (by have := HXS.out; omega)).mono ?_
          rintro e w4 ⟨rfl, b4⟩
          have B4 := Lib.hid (Bk.out.below b4)
          clear b4 x0
          go_wp2_with fail
          refine (write_any (m := textL x) B4.out.bw (by have := HFL.out; have := HEL.out; have := textL_length x (by have := HXS.out; omega); have := HXS.out; simp only [List.length_append]; omega) B4.out.sz).mono ?_
          rintro e w5 ⟨rfl, hw5, b5⟩
          have B5 := Lib.hid (B4.out.wrote hw5 b5)
          clear hw5 b5
          go_wp2
          go_roundw
          case rel => exact ⟨k + 1, HLT.out, by go_num, by rw [HFT.out, ← List.append_assoc]; exact B5.out⟩
          case measure => exact meas2 HLT.out
        · obtain rfl : k = ns.length := by omega
          have p2 : ¬ (ns.length : Int) < (ns.length : Int) := by omega
          have hbk := Bk.out
          rw [List.take_length] at hbk
          have C6 := Lib.hid hbk; clear hbk Bk
          have bx6 := C6.out.bx.trans (congrArg some HBC.out)
          have q7 := blk_cell bx6 7
          simp at q7
          clear bx6
          go_wp2_with fail
          refine (achain_any ks.length _ (by omega)).mono ?_
          rintro e w4 ⟨rfl, b4⟩
          have B7 := Lib.hid (C6.out.below b4); clear b4 q7
          have HM6 := Lib.hid (show ((ns.flatMap textL)).length ≤ 44400 by have := flat_len textL 74 ns (fun x hx => by have := textL_length x (by have := HS.out x hx; omega); have := HS.out x hx; omega) ns.length; rw [List.take_length] at this; omega)
          have HM7 := Lib.hid (chainL_len10 (v := ks.length) (by omega))
          go_wp2_with fail
          refine (write_any (m := chainL ks.length) B7.out.bw (by have := HM6.out; have := HEL.out; have := HM7.out; simp only [List.length_append]; omega) B7.out.sz).mono ?_
          rintro e w5 ⟨rfl, hw5, b5⟩
          have B8 := Lib.hid (B7.out.wrote hw5 b5)
          clear hw5 b5
          obtain ⟨hf, hhf⟩ : ∃ hf, hf = he ++ ns.flatMap textL ++ chainL ks.length := ⟨_, rfl⟩
          have HFLn := Lib.hid (show hf.length ≤ 90000 by rw [hhf]; have := HM6.out; have := HEL.out; have := HM7.out; simp only [List.length_append]; omega)
          have B9 := B8.out
          rw [← hhf] at B9
          have BF := Lib.hid B9
          have HHF := Lib.hid hhf
          clear B9 hhf B7 B8
          have bx9 := BF.out.bx.trans (congrArg some HBC.out)
          have q7 := blk_cell bx9 7
          simp at q7
          clear bx9 p2 hlt hk
          go_wp2_with fail
          generalize wr = wOld2 at *
          go_loopw [64] (fun i wx => ∃ k : Nat, k ≤ ks.length ∧ i = .int .i64 (k : Int) ∧ BX w bc (hf ++ (ks.take k).flatMap (fun z => chainL z.toNat)) wx) (fun i _ => ks.length - (intOf i).toNat)
          case atStart => exact ⟨0, Nat.zero_le _, rfl, by simpa using BF.out⟩
          case round =>
            obtain ⟨k, hk, rfl, hbx⟩ := hrel
            have Bk := Lib.hid hbx; clear hbx q7
            by_cases hlt : k < ks.length
            · have p1 : (0 : Int) ≤ (k : Int) := Int.natCast_nonneg _
              have p2 : (k : Int) < (ks.length : Int) := by omega
              have hw : wrap64 ((k : Int) + 1) = ((k + 1 : Nat) : Int) := by unfold wrap64; omega
              obtain ⟨ad, ea, x0⟩ := Kd.at_int (Kd.C_below H7.out Bk.out.bel) (k : Int) p1 p2
              cases ea
              rw [Int.toNat_natCast] at x0
              have hrd : rd ks (k : Int) = ks[k] := by unfold rd; simp [hlt]
              have hxs : 0 ≤ rd ks (k : Int) ∧ rd ks (k : Int) ≤ 1099511627776 := by rw [hrd]; exact HK.out _ (List.getElem_mem _)
              have hft := flat_take (fun z : Int => chainL z.toNat) ks k hlt
              rw [← hrd] at hft
              have hfl := flat_len (fun z : Int => chainL z.toNat) 10 ks (fun x hx => chainL_len10 (by have := HK.out x hx; omega)) k
              clear hrd
              generalize rd ks (k : Int) = x at *
              obtain ⟨xn, rfl⟩ := Int.eq_ofNat_of_zero_le hxs.1
              have HXS := Lib.hid (show xn ≤ 1099511627776 by omega); clear hxs
              have HFT := Lib.hid hft; clear hft
              have HFL := Lib.hid (show ((ks.take k).flatMap (fun z : Int => chainL z.toNat)).length ≤ 6000 by omega); clear hfl
              have HLT := Lib.hid hlt
              go_wp2_with fail
              refine (achain_any xn _ HXS.out).mono ?_
              rintro e w4 ⟨rfl, b4⟩
              have B4 := Lib.hid (Bk.out.below b4)
              clear b4 x0
              go_wp2_with fail
              refine (write_any (m := chainL xn) B4.out.bw (by have := HFL.out; have := HFLn.out; have := chainL_len10 (v := xn) (by have := HXS.out; omega); simp only [List.length_append]; omega) B4.out.sz).mono ?_
              rintro e w5 ⟨rfl, hw5, b5⟩
              have B5 := Lib.hid (B4.out.wrote hw5 b5)
              clear hw5 b5
              go_wp2
              go_roundw
              case rel => exact ⟨k + 1, HLT.out, by go_num, by rw [HFT.out, ← List.append_assoc]; exact B5.out⟩
              case measure => exact meas2 HLT.out
            · obtain rfl : k = ks.length := by omega
              have p2 : ¬ (ks.length : Int) < (ks.length : Int) := by omega
              have hbk := Bk.out
              rw [List.take_length] at hbk
              have C7 := Lib.hid hbk; clear hbk Bk
              go_wp2_with fail
              refine (told_any C7.out.bw C7.out.sz).mono ?_
              rintro e w4 ⟨rfl, b4⟩
              have B4 := Lib.hid (below_join C7.out.bel b4 (Nat.le_succ _)); clear b4
              go_wp2
              refine bodyPost_ret (v := .string (sB (hf ++ ks.flatMap (fun z => chainL z.toNat)))) (by simp [results, Try.results22, go_sem, *]) rfl ?_
              refine ⟨?_, B4.out⟩
              rw [HHF.out, HHE.out, HHD.out]
              unfold bodyL
              simp only [List.append_assoc]
end Go.Proofs.Ytakbgaiedenikaa.Own
/- The walks of nums.Fixed, nums.Read and of the references' Fixed and Read. -/
namespace Go.Proofs.Ytakbgaiedenikaa.Own
open Go.RowKit
set_option maxRecDepth 100000
set_option linter.unusedSimpArgs false
set_option linter.unusedVariables false
/-- What lies in the array behind k rounds. -/
def fixB (v n k : Nat) : List UInt8 := (List.range 8).map fun i => if i < k ∧ i < n then UInt8.ofNat (v / 256 ^ (n - 1 - i)) else 0
theorem fixB_length (v n k : Nat) : (fixB v n k).length = 8 := by simp [fixB]
theorem fixB_zero (v n : Nat) : fixB v n 0 = [0, 0, 0, 0, 0, 0, 0, 0] := by simp [fixB]; rfl
theorem fixB_succ (v n k : Nat) (hk : k < n) (hn : n ≤ 8) : fixB v n (k + 1) = (fixB v n k).set k (UInt8.ofNat (v / 256 ^ (n - 1 - k))) := by
  apply List.ext_getElem?
  intro i
  rw [List.getElem?_set]
  by_cases hi : i < 8
  · by_cases e : k = i
    · subst e
      rw [if_pos rfl, if_pos (by rw [fixB_length]; omega)]
      simp [fixB, hi, hk]
    · rw [if_neg e]
      simp only [fixB, List.getElem?_map, List.getElem?_range hi, Option.map_some]
      have : (i < k + 1 ∧ i < n) ↔ (i < k ∧ i < n) := by omega
      simp only [this]
  · rw [List.getElem?_eq_none (by rw [fixB_length]; omega)]
    split
    · omega
    · rw [List.getElem?_eq_none (by rw [fixB_length]; omega)]
theorem fixB_take (v n : Nat) (hn : n ≤ 8) : (fixB v n n).take n = fixL n v := by
  apply List.ext_getElem?
  intro i
  by_cases hi : i < n
  · rw [List.getElem?_take_of_lt hi, fixL_get n v i hi]
    simp [fixB, hi, show i < 8 by omega]
  · rw [List.getElem?_eq_none (by rw [List.length_take, fixB_length]; omega), List.getElem?_eq_none (by rw [fixL_length]; omega)]
theorem shr_byte (v n k : Nat) : ((v : Int) / 2 ^ (8 * (n - 1 - k))) % 256 = ((UInt8.ofNat (v / 256 ^ (n - 1 - k))).toNat : Int) := by
  rw [UInt8.toNat_ofNat', show (256 : Nat) = 2 ^ 8 from rfl, ← Nat.pow_mul]
  simp
theorem shr_zero {v n : Nat} (hv : v < 256 ^ n) : ((v : Int) / 2 ^ (8 * n) != 0) = false := by
  rw [bne_eq_false_iff_eq]
  rw [show (256 : Nat) = 2 ^ 8 from rfl, ← Nat.pow_mul] at hv
  have := Nat.div_eq_of_lt hv
  exact_mod_cast this
set_option maxHeartbeats 1000000 in
theorem fixed_any (v n : Nat) (w : World) (h1 : 1 ≤ n) (h8 : n ≤ 8) (hv : v < 256 ^ n) :
    Calls Try.prog 45 #[.int .u64 (v : Int), .int .i64 (n : Int)] w fun e w' => e = .returned (.tuple #[.string (sB (fixL n v)), .int .i64 0]) ∧ Below w.heap.size w w' := by
  have hz := shr_zero hv
  have Hz := Lib.hid hz
  clear hv
  by_cases h7 : n < 8
  all_goals
    go_enter Try.func45, Try.ntmps45
    go_wp2_with fail
    clear hz
    go_loopw [26] (fun i wr => ∃ k : Nat, k ≤ n ∧ i = .int .i64 k ∧ ABlk wr w.heap.size (fixB v n k) 115 ∧ Below w.heap.size w wr) (fun i _ => n - (intOf i).toNat)
    case atStart => exact ⟨0, by omega, rfl, by rw [fixB_zero]; exact heap_new _ _, (Below.refl _ _).alloc (Nat.le_refl _) _⟩
    case round =>
      obtain ⟨k, hk, rfl, hb, bel⟩ := hrel
      have Bel := Lib.hid bel; clear bel
      have Hb := Lib.hid hb
      by_cases hlt : k < n
      · have hc := hb.row.1 k (by rw [fixB_length]; omega)
        have hf := hb.row.2 k (by rw [fixB_length]; omega)
        clear hb
        generalize (fixB v n k)[k]'(by rw [fixB_length]; omega) = c0 at hc
        have hk8 : (k : Int) < 8 := by omega
        go_wp2
        go_roundw
        case rel => exact ⟨k + 1, by omega, by go_num, by rw [shr_byte, fixB_succ v n k hlt h8]; exact Hb.out.set k _, Bel.out.setCell (Nat.le_refl _) _⟩
        case measure => simp [intOf]; omega
      · obtain rfl : k = n := by omega
        have hbr := take_BRow hb.row k
        rw [fixB_take v k h8] at hbr
        clear hb
        have kc := brow_string (P := Try.prog) hbr 74 9 5 8 k (by rw [fixL_length]) Try.underlying74 Try.underlying5 Try.underlying9
        clear hbr
        go_wp2
        go_ret2
        exact ⟨rfl, Bel.out⟩
theorem readL_take (s : ByteArray) (k : Nat) (h : k < s.size) : readL (s.data.toList.take (k + 1)) = readL (s.data.toList.take k) * 256 + s[k].toNat := by
  rw [List.take_succ_eq_append_getElem (by simpa using h), readL_snoc]; rfl
theorem readL_take_lt (s : ByteArray) (k : Nat) (h : k ≤ s.size) : readL (s.data.toList.take k) < 256 ^ k := by
  have := readL_lt (s.data.toList.take k)
  rwa [List.length_take, Nat.min_eq_left (by simpa using h)] at this
theorem or_byte (V b : Nat) (hV : V < 2 ^ 56) (hb : b < 256) : Go.bits .or .u64 ((V : Int) * 256) (b : Int) = ((V * 256 + b : Nat) : Int) := by
  rw [Go.bits_join .u64 64 (by decide) (fun n h0 h1 => by rw [IntKind.wrap_u64]; exact Int.emod_eq_of_lt h0 (by simpa using h1)) 8 ((V : Int) * 256) b (by omega) (by omega) (by omega) (by omega) (by omega) (by omega)]
  omega
theorem pow256_56 {k : Nat} (h : k ≤ 7) : (256 : Nat) ^ k ≤ 2 ^ 56 := by
  calc (256 : Nat) ^ k ≤ 256 ^ 7 := Nat.pow_le_pow_right (by decide) h
    _ = 2 ^ 56 := by decide
set_option maxHeartbeats 1000000 in
theorem read_any (s : ByteArray) (w : World) (h1 : 1 ≤ s.size) (h8 : s.size ≤ 8) :
    Calls Try.prog 31 #[.string s] w fun e w' => e = .returned (.tuple #[.int .u64 (readL s.data.toList : Nat), .int .i64 0]) ∧ w' = w := by
  obtain ⟨hne, hse⟩ := str_some h1
  go_enter Try.func31, Try.ntmps31
  go_wp2_with fail
  clear hne hse
  go_loop [4, 15] (fun v i => ∃ k : Nat, k ≤ s.size ∧ i = .int .i64 k ∧ v = .int .u64 (readL (s.data.toList.take k) : Nat)) (fun _ i => s.size - (intOf i).toNat)
  case atStart => exact ⟨0, by omega, rfl, rfl⟩
  case round =>
    obtain ⟨k, hk, rfl, rfl⟩ := hrel
    by_cases hlt : k < s.size
    · have hsn := readL_take s k hlt
      have hV := Nat.lt_of_lt_of_le (readL_take_lt s k (by omega)) (pow256_56 (by omega))
      generalize readL (s.data.toList.take k) = V at *
      have hk0 : (0 : Int) ≤ (k : Int) := Int.natCast_nonneg _
      have hk1 : (k : Int) < (s.size : Int) := by omega
      have hbyte : (s[k].toNat : Int) < 256 := by have := s[k].toNat_lt; omega
      have hor := or_byte V s[k].toNat hV (by omega)
      rw [← hsn] at hor
      have Hor := Lib.hid hor; clear hor hsn
      have hV2 : (V : Int) < 72057594037927936 := by omega
      clear hV
      go_wp2
      go_round
      case rel => exact ⟨k + 1, by omega, by go_num, by rw [← Hor.out]⟩
      case measure => simp [intOf]; omega
    · go_wp2
      go_ret2
      obtain rfl : k = s.size := by omega
      rw [List.take_of_length_le (by simp)]
      exact ⟨rfl, rfl⟩
set_option maxHeartbeats 1000000 in
theorem fixL_cons (k : Nat) : ∀ v, fixL (k + 1) v = UInt8.ofNat (v / 256 ^ k) :: fixL k v := by
  induction k with
  | zero => intro v; simp [fixL]
  | succ k ih =>
    intro v
    rw [fixL, ih, Nat.div_div_eq_div_mul, Nat.mul_comm 256, ← Nat.pow_succ]
    rfl
theorem one_byte (w : World) (V : Nat) (t : TypeId) : BRow (w.alloc (.cells #[.int .u8 ((V : Int) % 256)] t)) w.heap.size [UInt8.ofNat V] := by
  have h : ((V : Int) % 256) = ((UInt8.ofNat V).toNat : Int) := by rw [UInt8.toNat_ofNat']; simp
  rw [h]
  exact ABlk.row (l := [UInt8.ofNat V]) (t := t) (heap_new _ _)
set_option maxHeartbeats 1000000 in
theorem reffixed_any (v n : Nat) (w : World) (h8 : n ≤ 8) (hv : v < 18446744073709551616) :
    Calls Try.prog 33 #[.int .u64 (v : Int), .int .i64 (n : Int)] w fun e w' => e = .returned (.string (sB (fixL n v))) ∧ Below w.heap.size w w' := by
  have Hv := Lib.hid hv; clear hv
  go_enter Try.func33, Try.ntmps33
  go_wp2_with fail
  go_loopw [5, 0, 7] (fun t u i wr => ∃ k : Nat, k ≤ n ∧ i = .int .i64 k ∧ t = .string (sB (fixL k v)) ∧ u = .int .u64 (v / 256 ^ k : Nat) ∧ Below w.heap.size w wr) (fun _ _ i _ => n - (intOf i).toNat)
  case atStart => exact ⟨0, by omega, rfl, rfl, by simp, Below.refl _ _⟩
  case round =>
    obtain ⟨k, hk, rfl, rfl, rfl, bel⟩ := hrel
    have Bel := Lib.hid bel; clear bel
    by_cases hlt : k < n
    · have hcons := fixL_cons k v
      have hdd : v / 256 ^ k / 256 = v / 256 ^ (k + 1) := by rw [Nat.div_div_eq_div_mul, ← Nat.pow_succ]
      have hVl : v / 256 ^ k ≤ v := Nat.div_le_self _ _
      generalize hV1 : v / 256 ^ (k + 1) = V1 at *
      have HV1 := Lib.hid hV1; clear hV1
      generalize v / 256 ^ k = V at *
      generalize hL1 : fixL (k + 1) v = L1 at *
      have hlen : (fixL k v).length = k := fixL_length k v
      generalize hL : fixL k v = L at *
      have HL := Lib.hid hL; clear hL
      have HL1 := Lib.hid hL1; clear hL1
      have Hcons := Lib.hid hcons; clear hcons
      have Hdd := Lib.hid hdd; clear hdd
      have Hlen := Lib.hid hlen; clear hlen
      have HV := Lib.hid (show V < 18446744073709551616 from Nat.lt_of_le_of_lt hVl Hv.out)
      clear hVl
      have kc := brow_string (P := Try.prog) (one_byte wr V 5) 74 9 5 1 1 rfl Try.underlying74 Try.underlying5 Try.underlying9
      obtain ⟨S, hS⟩ : ∃ S, sB L = S := ⟨_, rfl⟩
      have hSz : S.size ≤ 8 := by rw [← hS, sB_size, Hlen.out]; omega
      rw [hS]
      have HS := Lib.hid hS; clear hS
      go_wp2
      go_roundw
      case rel => exact ⟨k + 1, by omega, by go_num, by rw [HL1.out, Hcons.out, ← HS.out]; exact congrArg Value.string (sB_append [UInt8.ofNat V] L), by rw [HV1.out, ← Hdd.out]; congr 1; rw [IntKind.wrap_u64]; have := HV.out; omega, Bel.out.alloc Bel.out.size _⟩
      case measure => simp [intOf]; omega
    · obtain rfl : k = n := by omega
      go_wp2
      go_ret
      exact ⟨rfl, Bel.out⟩
end Go.Proofs.Ytakbgaiedenikaa.Own
/- The walk of an answer's Encode. -/
namespace Go.Proofs.Ytakbgaiedenikaa.Own
open Go.RowKit Go.Proofs.YtakbgaiedenikaaW.PrintWords Go.Proofs.Ytakbgaiedenikaa.Pu
set_option maxRecDepth 100000
set_option linter.unusedSimpArgs false
set_option linter.unusedVariables false
theorem afixed_any (v n : Nat) (w : World) (h1 : 1 ≤ n) (h8 : n ≤ 8) (hv : v < 256 ^ n) (hv2 : v ≤ 65535) : Calls Try.prog 23 #[.int .i64 (v : Int), .int .i64 (n : Int)] w fun e w' => e = .returned (.string (sB (fixL n v))) ∧ Below w.heap.size w w' := by
  have e1 : IntKind.u64.wrap (v : Int) = v := IntWalk.u64_in _ (by omega)
  have HV := Lib.hid hv; clear hv
  go_enter Try.func23, Try.ntmps23
  go_wp2_with fail
  refine (fixed_any v n _ h1 h8 HV.out).mono ?_
  rintro e w2 ⟨rfl, b2⟩
  go_wp2
  go_ret
  exact ⟨rfl, b2⟩
theorem afixed2 (v : Nat) (w : World) (hv : v ≤ 65535) : Calls Try.prog 23 #[.int .i64 (v : Int), .int .i64 2] w fun e w' => e = .returned (.string (sB (fixL 2 v))) ∧ Below w.heap.size w w' := afixed_any v 2 w (by decide) (by decide) (by omega) hv
theorem afixed1 (v : Nat) (w : World) (hv : v ≤ 255) : Calls Try.prog 23 #[.int .i64 (v : Int), .int .i64 1] w fun e w' => e = .returned (.string (sB (fixL 1 v))) ∧ Below w.heap.size w w' := afixed_any v 1 w (by decide) (by decide) (by omega) (by omega)
theorem room_z {tl bl n : Nat} (h : tl = 6 + bl) (hb : bl ≤ 594) (hn : n = 594 - bl) : wrap64 ((600 : Int) - (tl : Int)) = (n : Int) ∧ n ≤ 594 ∧ ¬ (9223372036854775807 < tl + n) := by
  subst h; subst hn
  refine ⟨by unfold wrap64; omega, by omega, by omega⟩
/-- An answer's bytes, ahead of what fills it up. -/
def outL (i k c : Nat) (b : List UInt8) : List UInt8 := fixL 2 i ++ (fixL 1 k ++ (fixL 1 c ++ (fixL 2 b.length ++ b)))
theorem outL_length (i k c : Nat) (b : List UInt8) : (outL i k c b).length = 6 + b.length := by
  unfold outL; simp only [List.length_append, fixL_length]; omega
theorem repeatL_one (n : Nat) : Lib.repeatL [0] n = List.replicate n 0 := by
  induction n with
  | zero => rfl
  | succ n ih => rw [Lib.repeatL, ih, List.replicate_succ]; rfl
set_option maxHeartbeats 4000000 in
theorem encode_any (i k c na nb : Nat) (A5 : Option Addr) (c5 : Nat) (rs : List PB.S54) (A6 : Option Addr) (c6 : Nat) (ns : List ByteArray) (A7 : Option Addr) (c7 : Nat) (ks : List Int) (w : World)
    (h5 : Kd.C PB.k54 w A5 rs.length rs) (h6 : Kd.C Kd.string w A6 ns.length ns) (h7 : Kd.C (Kd.int .i64) w A7 ks.length ks) (hc5 : rs.length ≤ c5) (hc6 : ns.length ≤ c6) (hc7 : ks.length ≤ c7) (hi : i ≤ 65535) (hkk : k ≤ 255) (hcc : c ≤ 255) (hna : na ≤ 1099511627776) (hnb : nb ≤ 1099511627776) (hl5 : rs.length ≤ 100) (hl6 : ns.length ≤ 600) (hl7 : ks.length ≤ 600)
    (hm : ∀ x ∈ rs, PuB.mayB x = true) (hs : ∀ x ∈ ns, x.size ≤ 64) (hk : ∀ x ∈ ks, 0 ≤ x ∧ x ≤ 1099511627776) (hMay : Ev (fun q => PB.answer_May.f q (i : Int) (k : Int) (c : Int) (na : Int) (nb : Int) rs ns ks) true) (hb : (bodyL na nb rs ns ks).length ≤ 594) :
    Calls Try.prog 9 #[.agg #[.int .i64 (i : Int), .int .i64 (k : Int), .int .i64 (c : Int), .int .i64 (na : Int), .int .i64 (nb : Int), .slice A5 rs.length c5, .slice A6 ns.length c6, .slice A7 ks.length c7]] w fun e w' => e = .returned (.tuple #[.string (sB (outL i k c (bodyL na nb rs ns ks) ++ List.replicate (594 - (bodyL na nb rs ns ks).length) 0)), .int .i64 0]) ∧ Below w.heap.size w w' := by
  have bA : Below w.heap.size w (w.alloc (.cells #[.int .i64 (i : Int), .int .i64 (k : Int), .int .i64 (c : Int), .int .i64 (na : Int), .int .i64 (nb : Int), .slice A5 rs.length c5, .slice A6 ns.length c6, .slice A7 ks.length c7] 27)) := (Below.refl _ _).alloc (Nat.le_refl _) _
  have hbx := heap_new w (.cells #[.int .i64 (i : Int), .int .i64 (k : Int), .int .i64 (c : Int), .int .i64 (na : Int), .int .i64 (nb : Int), .slice A5 rs.length c5, .slice A6 ns.length c6, .slice A7 ks.length c7] 27)
  have H5 := Lib.hid (Kd.C_below h5 bA)
  have H6 := Lib.hid (Kd.C_below h6 bA)
  have H7 := Lib.hid (Kd.C_below h7 bA)
  have BA := Lib.hid bA
  have HBX := Lib.hid hbx
  clear h5 h6 h7 bA hbx
  obtain ⟨qk, hqk⟩ := Ev.rounds hMay
  have HMAY := Lib.hid hqk; clear hqk hMay
  have HI := Lib.hid hi; clear hi
  have HKK := Lib.hid hkk; clear hkk
  have HCC := Lib.hid hcc; clear hcc
  obtain ⟨B, hB⟩ : ∃ B, B = bodyL na nb rs ns ks := ⟨_, rfl⟩
  have HBB := Lib.hid hB; clear hB
  rw [← HBB.out] at hb ⊢
  go_enter Try.func9, Try.ntmps9
  go_wp2_with fail
  refine (PB.answer_May.calls qk _ _ _ _ _ A5 c5 rs A6 c6 ns A7 c7 ks true _ H5.out hc5 H6.out hc6 H7.out hc7 HMAY.out).mono ?_
  rintro e w2 ⟨rfl, b2⟩
  have HX2 := Lib.hid (blk_below HBX.out b2)
  have G5 := Lib.hid (Kd.C_below H5.out b2)
  have G6 := Lib.hid (Kd.C_below H6.out b2)
  have G7 := Lib.hid (Kd.C_below H7.out b2)
  have B2 := Lib.hid (below_two BA.out b2)
  clear b2
  have q0 := blk_cell HX2.out 0
  have q1 := blk_cell HX2.out 1
  have q2 := blk_cell HX2.out 2
  have q3 := blk_cell HX2.out 3
  have q4 := blk_cell HX2.out 4
  have q5 := blk_cell HX2.out 5
  have q6 := blk_cell HX2.out 6
  have q7 := blk_cell HX2.out 7
  simp at q0 q1 q2 q3 q4 q5 q6 q7
  go_wp2_with fail
  refine (body_any (i : Int) (k : Int) (c : Int) na nb A5 c5 rs A6 c6 ns A7 c7 ks _ G5.out G6.out G7.out hna hnb hl5 hl6 hl7 hm hs hk).mono ?_
  rw [← HBB.out]
  rintro e w3 ⟨rfl, b3⟩
  have HX3 := Lib.hid (blk_below HX2.out b3)
  have B3 := Lib.hid (below_two B2.out b3)
  have hz := sB_size B
  have t1 : decide ((B.length : Int) > 594) = false := by rw [decide_eq_false_iff_not]; omega
  have t2 : ¬ (594 : Int) < (B.length : Int) := by omega
  have t3 : ¬ 594 < B.length := by omega
  clear b3 q0 q1 q2 q3 q4 q5 q6 q7 hna hnb hl5 hl6 hl7 hm hs hk
  go_upto_region 6 with (fail)
  clear t1 t2 t3
  have hS : S0 w.heap.size (.cells #[.int .i64 (i : Int), .int .i64 (k : Int), .int .i64 (c : Int), .int .i64 (na : Int), .int .i64 (nb : Int), .slice A5 rs.length c5, .slice A6 ns.length c6, .slice A7 ks.length c7] 27 (0, 0)) w3 := ⟨HX3.out⟩
  have g1 : ∀ l m, sB l ++ sB m = sB (l ++ m) := sB_append
  have g2 : ∀ l, (sB l).size = l.length := sB_size
  have g3 : ∀ v, (fixL 2 v).length = 2 := fixL_length 2
  have g4 : ∀ v, (fixL 1 v).length = 1 := fixL_length 1
  have s5 : ¬ (9223372036854775807 < 2 + (1 + (1 + 2)) + B.length) := by omega
  have HBE := Lib.hid B3.out.drew
  refine wp_region_held_drew (S := S0 w.heap.size (.cells #[.int .i64 (i : Int), .int .i64 (k : Int), .int .i64 (c : Int), .int .i64 (na : Int), .int .i64 (nb : Int), .slice A5 rs.length c5, .slice A6 ns.length c6, .slice A7 ks.length c7] 27 (0, 0))) (by kernel_rfl) (hS.drew) (fun hHeld => ?_)
  refine wpAnyH_take (i := 0) (oi := { dst := some 14, op := Op.fieldAddr 27 (Operand.tmp 1) 0, type := 0, pos := "answer.go:90", after := #[], guard := none }) (v := ?_) rfl (by kernel_rfl) (by kernel_rfl) (by kernel_rfl) (fun _ _ _ h => h) (Or.inl ⟨by rfl, ?_⟩) hHeld ?_; rotate_left 1; (intro w9 hSw; obtain ⟨h9⟩ := hSw; go_simp; first | done | with_reducible rfl); (try simp only [Act.put, List.setIfInBounds_toArray, List.set_cons_zero, List.set_cons_succ])
  refine wpAnyH_take (i := 1) (oi := { dst := some 15, op := Op.load 3 (Operand.tmp 14), type := 3, pos := "answer.go:90", after := #[{ on := 0, ground := Ground.data }], guard := none }) (v := ?_) rfl (by kernel_rfl) (by kernel_rfl) (by kernel_rfl) (fun _ _ _ h => h) (Or.inl ⟨by rfl, ?_⟩) hHeld ?_; rotate_left 1; (intro w9 hSw; obtain ⟨h9⟩ := hSw; have q0 := blk_cell h9 0; have q1 := blk_cell h9 1; have q2 := blk_cell h9 2; simp at q0 q1 q2; clear h9; go_simp; first | done | with_reducible rfl); (try simp only [Act.put, List.setIfInBounds_toArray, List.set_cons_zero, List.set_cons_succ])
  refine wpAnyH_take (i := 3) (oi := { dst := some 17, op := Op.fieldAddr 27 (Operand.tmp 1) 1, type := 0, pos := "answer.go:90", after := #[], guard := none }) (v := ?_) rfl (by kernel_rfl) (by kernel_rfl) (by kernel_rfl) (fun _ _ _ h => h) (Or.inl ⟨by rfl, ?_⟩) hHeld ?_; rotate_left 1; (intro w9 hSw; obtain ⟨h9⟩ := hSw; go_simp; first | done | with_reducible rfl); (try simp only [Act.put, List.setIfInBounds_toArray, List.set_cons_zero, List.set_cons_succ])
  refine wpAnyH_take (i := 4) (oi := { dst := some 18, op := Op.load 3 (Operand.tmp 17), type := 3, pos := "answer.go:90", after := #[{ on := 3, ground := Ground.data }], guard := none }) (v := ?_) rfl (by kernel_rfl) (by kernel_rfl) (by kernel_rfl) (fun _ _ _ h => h) (Or.inl ⟨by rfl, ?_⟩) hHeld ?_; rotate_left 1; (intro w9 hSw; obtain ⟨h9⟩ := hSw; have q0 := blk_cell h9 0; have q1 := blk_cell h9 1; have q2 := blk_cell h9 2; simp at q0 q1 q2; clear h9; go_simp; first | done | with_reducible rfl); (try simp only [Act.put, List.setIfInBounds_toArray, List.set_cons_zero, List.set_cons_succ])
  refine wpAnyH_take (i := 7) (oi := { dst := some 21, op := Op.fieldAddr 27 (Operand.tmp 1) 2, type := 0, pos := "answer.go:90", after := #[], guard := none }) (v := ?_) rfl (by kernel_rfl) (by kernel_rfl) (by kernel_rfl) (fun _ _ _ h => h) (Or.inl ⟨by rfl, ?_⟩) hHeld ?_; rotate_left 1; (intro w9 hSw; obtain ⟨h9⟩ := hSw; go_simp; first | done | with_reducible rfl); (try simp only [Act.put, List.setIfInBounds_toArray, List.set_cons_zero, List.set_cons_succ])
  refine wpAnyH_take (i := 8) (oi := { dst := some 22, op := Op.load 22 (Operand.tmp 21), type := 22, pos := "answer.go:90", after := #[{ on := 7, ground := Ground.data }], guard := none }) (v := ?_) rfl (by kernel_rfl) (by kernel_rfl) (by kernel_rfl) (fun _ _ _ h => h) (Or.inl ⟨by rfl, ?_⟩) hHeld ?_; rotate_left 1; (intro w9 hSw; obtain ⟨h9⟩ := hSw; have q0 := blk_cell h9 0; have q1 := blk_cell h9 1; have q2 := blk_cell h9 2; simp at q0 q1 q2; clear h9; go_simp; first | done | with_reducible rfl); (try simp only [Act.put, List.setIfInBounds_toArray, List.set_cons_zero, List.set_cons_succ])
  refine wpAnyH_take (i := 11) (oi := { dst := some 25, op := Op.move (Operand.tmp 4), type := 9, pos := "answer.go:90", after := #[], guard := none }) (v := ?_) rfl (by kernel_rfl) (by kernel_rfl) (by kernel_rfl) (fun _ _ _ h => h) (Or.inl ⟨by rfl, ?_⟩) hHeld ?_; rotate_left 1; (intro w9 hSw; obtain ⟨h9⟩ := hSw; go_simp; first | done | with_reducible rfl); (try simp only [Act.put, List.setIfInBounds_toArray, List.set_cons_zero, List.set_cons_succ])
  refine wpAnyH_take (i := 15) (oi := { dst := some 29, op := Op.move (Operand.tmp 4), type := 9, pos := "answer.go:90", after := #[], guard := none }) (v := ?_) rfl (by kernel_rfl) (by kernel_rfl) (by kernel_rfl) (fun _ _ _ h => h) (Or.inl ⟨by rfl, ?_⟩) hHeld ?_; rotate_left 1; (intro w9 hSw; obtain ⟨h9⟩ := hSw; go_simp; first | done | with_reducible rfl); (try simp only [Act.put, List.setIfInBounds_toArray, List.set_cons_zero, List.set_cons_succ])
  refine wpAnyH_take (i := 12) (oi := { dst := some 26, op := Op.call { callee := Callee.builtin Builtin.len, args := #[Operand.tmp 25], argTypes := #[9] }, type := 3, pos := "answer.go:90", after := #[{ on := 11, ground := Ground.data }], guard := none }) (v := ?_) rfl (by kernel_rfl) (by kernel_rfl) (by kernel_rfl) (fun _ _ _ h => h) (Or.inl ⟨by rfl, ?_⟩) hHeld ?_; rotate_left 1; (intro w9 hSw; obtain ⟨h9⟩ := hSw; go_simp; first | done | with_reducible rfl); (try simp only [Act.put, List.setIfInBounds_toArray, List.set_cons_zero, List.set_cons_succ])
  refine wpAnyH_ready (rs := [2]) (by kernel_rfl) (by simp) ?_; refine AllReadyH.cons (o := { dst := some 16, op := Op.call { callee := Callee.value (Operand.func 23), args := #[Operand.tmp 15, Operand.const (Value.int IntKind.i64 2)], argTypes := #[3, 3] }, type := 9, pos := "answer.go:90", after := #[{ on := 1, ground := Ground.data }], guard := none }) rfl (fun K hK => ?_) AllReadyH.nil; go_simp; refine (afixed2 i _ HI.out).mono ?_; rintro e w4 ⟨rfl, bel⟩; have HBE := Lib.hid (below_two HBE.out bel); (try go_wp2_with fail); refine hK.out _ _ (hHeld.below bel) (fun hHeld => ?_); clear hK; (try simp only [Act.put, List.setIfInBounds_toArray, List.set_cons_zero, List.set_cons_succ])
  refine wpAnyH_ready (rs := [5]) (by kernel_rfl) (by simp) ?_; refine AllReadyH.cons (o := { dst := some 19, op := Op.call { callee := Callee.value (Operand.func 23), args := #[Operand.tmp 18, Operand.const (Value.int IntKind.i64 1)], argTypes := #[3, 3] }, type := 9, pos := "answer.go:90", after := #[{ on := 4, ground := Ground.data }, { on := 2, ground := Ground.chain }], guard := none }) rfl (fun K hK => ?_) AllReadyH.nil; go_simp; refine (afixed1 k _ HKK.out).mono ?_; rintro e w4 ⟨rfl, bel⟩; have HBE := Lib.hid (below_two HBE.out bel); (try go_wp2_with fail); refine hK.out _ _ (hHeld.below bel) (fun hHeld => ?_); clear hK; (try simp only [Act.put, List.setIfInBounds_toArray, List.set_cons_zero, List.set_cons_succ])
  refine wpAnyH_take (i := 6) (oi := { dst := some 20, op := Op.binOp BinOp.add 9 (Operand.tmp 16) (Operand.tmp 19) 9, type := 9, pos := "answer.go:90", after := #[{ on := 2, ground := Ground.data }, { on := 5, ground := Ground.data }], guard := none }) (v := ?_) rfl (by kernel_rfl) (by kernel_rfl) (by kernel_rfl) (fun _ _ _ h => h) (Or.inl ⟨by rfl, ?_⟩) hHeld ?_; rotate_left 1; (intro w9 hSw; obtain ⟨h9⟩ := hSw; go_simp; first | done | with_reducible rfl); (try simp only [Act.put, List.setIfInBounds_toArray, List.set_cons_zero, List.set_cons_succ])
  refine wpAnyH_ready (rs := [9]) (by kernel_rfl) (by simp) ?_; refine AllReadyH.cons (o := { dst := some 23, op := Op.call { callee := Callee.value (Operand.func 23), args := #[Operand.tmp 22, Operand.const (Value.int IntKind.i64 1)], argTypes := #[3, 3] }, type := 9, pos := "answer.go:90", after := #[{ on := 8, ground := Ground.data }, { on := 5, ground := Ground.chain }], guard := none }) rfl (fun K hK => ?_) AllReadyH.nil; go_simp; refine (afixed1 c _ HCC.out).mono ?_; rintro e w4 ⟨rfl, bel⟩; have HBE := Lib.hid (below_two HBE.out bel); (try go_wp2_with fail); refine hK.out _ _ (hHeld.below bel) (fun hHeld => ?_); clear hK; (try simp only [Act.put, List.setIfInBounds_toArray, List.set_cons_zero, List.set_cons_succ])
  refine wpAnyH_take (i := 10) (oi := { dst := some 24, op := Op.binOp BinOp.add 9 (Operand.tmp 20) (Operand.tmp 23) 9, type := 9, pos := "answer.go:90", after := #[{ on := 6, ground := Ground.data }, { on := 9, ground := Ground.data }], guard := none }) (v := ?_) rfl (by kernel_rfl) (by kernel_rfl) (by kernel_rfl) (fun _ _ _ h => h) (Or.inl ⟨by rfl, ?_⟩) hHeld ?_; rotate_left 1; (intro w9 hSw; obtain ⟨h9⟩ := hSw; go_simp; first | done | with_reducible rfl); (try simp only [Act.put, List.setIfInBounds_toArray, List.set_cons_zero, List.set_cons_succ])
  refine wpAnyH_ready (rs := [13]) (by kernel_rfl) (by simp) ?_; refine AllReadyH.cons (o := { dst := some 27, op := Op.call { callee := Callee.value (Operand.func 23), args := #[Operand.tmp 26, Operand.const (Value.int IntKind.i64 2)], argTypes := #[3, 3] }, type := 9, pos := "answer.go:90", after := #[{ on := 12, ground := Ground.data }, { on := 9, ground := Ground.chain }], guard := none }) rfl (fun K hK => ?_) AllReadyH.nil; go_simp; refine (afixed2 B.length _ (by omega)).mono ?_; rintro e w4 ⟨rfl, bel⟩; have HBE := Lib.hid (below_two HBE.out bel); (try go_wp2_with fail); refine hK.out _ _ (hHeld.below bel) (fun hHeld => ?_); clear hK; (try simp only [Act.put, List.setIfInBounds_toArray, List.set_cons_zero, List.set_cons_succ])
  refine wpAnyH_take (i := 14) (oi := { dst := some 28, op := Op.binOp BinOp.add 9 (Operand.tmp 24) (Operand.tmp 27) 9, type := 9, pos := "answer.go:90", after := #[{ on := 10, ground := Ground.data }, { on := 13, ground := Ground.data }], guard := none }) (v := ?_) rfl (by kernel_rfl) (by kernel_rfl) (by kernel_rfl) (fun _ _ _ h => h) (Or.inl ⟨by rfl, ?_⟩) hHeld ?_; rotate_left 1; (intro w9 hSw; obtain ⟨h9⟩ := hSw; go_simp; first | done | with_reducible rfl); (try simp only [Act.put, List.setIfInBounds_toArray, List.set_cons_zero, List.set_cons_succ])
  refine wpAnyH_take (i := 16) (oi := { dst := some 30, op := Op.binOp BinOp.add 9 (Operand.tmp 28) (Operand.tmp 29) 9, type := 9, pos := "answer.go:90", after := #[{ on := 14, ground := Ground.data }, { on := 15, ground := Ground.data }], guard := none }) (v := ?_) rfl (by kernel_rfl) (by kernel_rfl) (by kernel_rfl) (fun _ _ _ h => h) (Or.inl ⟨by rfl, ?_⟩) hHeld ?_; rotate_left 1; (intro w9 hSw; obtain ⟨h9⟩ := hSw; go_simp; first | done | with_reducible rfl); (try simp only [Act.put, List.setIfInBounds_toArray, List.set_cons_zero, List.set_cons_succ])
  refine wpAnyH_take (i := 17) (oi := { dst := some 5, op := Op.assign (Operand.tmp 30), type := 9, pos := "answer.go:90", after := #[{ on := 16, ground := Ground.data }, { on := 13, ground := Ground.chain }, { on := 0, ground := Ground.phase }, { on := 1, ground := Ground.phase }, { on := 2, ground := Ground.phase }, { on := 3, ground := Ground.phase }, { on := 4, ground := Ground.phase }, { on := 5, ground := Ground.phase }, { on := 6, ground := Ground.phase }, { on := 7, ground := Ground.phase }, { on := 8, ground := Ground.phase }, { on := 9, ground := Ground.phase }, { on := 10, ground := Ground.phase }, { on := 11, ground := Ground.phase }, { on := 12, ground := Ground.phase }, { on := 13, ground := Ground.phase }, { on := 14, ground := Ground.phase }, { on := 15, ground := Ground.phase }, { on := 16, ground := Ground.phase }], guard := none }) (v := ?_) rfl (by kernel_rfl) (by kernel_rfl) (by kernel_rfl) (fun _ _ _ h => h) (Or.inl ⟨by rfl, ?_⟩) hHeld ?_; rotate_left 1; (intro w9 hSw; obtain ⟨h9⟩ := hSw; go_simp; first | done | with_reducible rfl); (try simp only [Act.put, List.setIfInBounds_toArray, List.set_cons_zero, List.set_cons_succ])
  refine wpAnyH_done (by kernel_rfl) ?_ _
  obtain ⟨T, hT⟩ : ∃ T, T = fixL 2 i ++ (fixL 1 k ++ (fixL 1 c ++ (fixL 2 B.length ++ B))) := ⟨_, rfl⟩
  have hTo : T = outL i k c B := hT
  have hTl : T.length = 6 + B.length := by rw [hTo, outL_length]
  rw [← hT]
  have HTO := Lib.hid hTo
  obtain ⟨n, hn⟩ : ∃ n, n = 594 - B.length := ⟨_, rfl⟩
  obtain ⟨z3, hn6, s6⟩ := room_z hTl hb hn
  have HN := Lib.hid hn
  have Z3 := Lib.hid (show wrap64 ((600 : Int) - ((sB T).size : Int)) = (n : Int) by rw [sB_size]; exact z3)
  have HN6 := Lib.hid hn6
  have S6 := Lib.hid s6
  clear hT hTo hTl hn s5 g1 g2 g3 g4 hz hb hS hHeld z3 hn6 s6
  go_wp2_with fail
  rw [Z3.out]
  refine (Try.strings_Repeat ⟨#[0]⟩ n _ (Nat.le_trans HN6.out (by decide)) (by show 1 * n ≤ _; rw [Nat.one_mul]; exact Nat.le_trans HN6.out (by decide))).mono ?_
  rintro e w5 ⟨rfl, b5⟩
  have B5 := Lib.hid (below_two HBE.out b5); clear b5
  have er : (⟨(Lib.repeatL (ByteArray.data ⟨#[0]⟩).toList n).toArray⟩ : ByteArray) = sB (List.replicate n 0) := by
    show sB (Lib.repeatL [0] n) = _
    rw [repeatL_one]
  rw [er]
  clear er
  have s7 : ¬ (9223372036854775807 < T.length + (List.replicate n (0 : UInt8)).length) := by rw [List.length_replicate]; exact S6.out
  have g1 := sB_append T (List.replicate n 0)
  have g2 : ¬ (9223372036854775807 < (sB T).size + (sB (List.replicate n 0)).size) := by rw [sB_size, sB_size]; exact s7
  go_wp2
  go_ret2
  rw [HTO.out, HN.out]
  exact ⟨rfl, B5.out⟩
end Go.Proofs.Ytakbgaiedenikaa.Own
/- What Encode refuses. -/
namespace Go.Proofs.Ytakbgaiedenikaa.Own
open Go.RowKit Go.Proofs.YtakbgaiedenikaaW.PrintWords Go.Proofs.Ytakbgaiedenikaa.Pu
set_option maxRecDepth 100000
set_option linter.unusedSimpArgs false
set_option linter.unusedVariables false
theorem encode_bad (i k c na nb : Int) (A5 : Option Addr) (c5 : Nat) (rs : List PB.S54) (A6 : Option Addr) (c6 : Nat) (ns : List ByteArray) (A7 : Option Addr) (c7 : Nat) (ks : List Int) (w : World)
    (h5 : Kd.C PB.k54 w A5 rs.length rs) (h6 : Kd.C Kd.string w A6 ns.length ns) (h7 : Kd.C (Kd.int .i64) w A7 ks.length ks) (hc5 : rs.length ≤ c5) (hc6 : ns.length ≤ c6) (hc7 : ks.length ≤ c7) (hMay : Ev (fun q => PB.answer_May.f q i k c na nb rs ns ks) false) :
    Calls Try.prog 9 #[.agg #[.int .i64 i, .int .i64 k, .int .i64 c, .int .i64 na, .int .i64 nb, .slice A5 rs.length c5, .slice A6 ns.length c6, .slice A7 ks.length c7]] w fun e w' => e = .returned (.tuple #[.string ⟨#[]⟩, .int .i64 1]) ∧ Below w.heap.size w w' := by
  have bA : Below w.heap.size w (w.alloc (.cells #[.int .i64 i, .int .i64 k, .int .i64 c, .int .i64 na, .int .i64 nb, .slice A5 rs.length c5, .slice A6 ns.length c6, .slice A7 ks.length c7] 27)) := (Below.refl _ _).alloc (Nat.le_refl _) _
  have H5 := Lib.hid (Kd.C_below h5 bA)
  have H6 := Lib.hid (Kd.C_below h6 bA)
  have H7 := Lib.hid (Kd.C_below h7 bA)
  have hbx := heap_new w (.cells #[.int .i64 i, .int .i64 k, .int .i64 c, .int .i64 na, .int .i64 nb, .slice A5 rs.length c5, .slice A6 ns.length c6, .slice A7 ks.length c7] 27)
  have BA := Lib.hid bA
  have HBX := Lib.hid hbx
  clear h5 h6 h7 bA hbx
  obtain ⟨qk, hqk⟩ := Ev.rounds hMay
  have HMAY := Lib.hid hqk; clear hqk hMay
  go_enter Try.func9, Try.ntmps9
  go_wp2_with fail
  refine (PB.answer_May.calls qk _ _ _ _ _ A5 c5 rs A6 c6 ns A7 c7 ks false _ H5.out hc5 H6.out hc6 H7.out hc7 HMAY.out).mono ?_
  rintro e w2 ⟨rfl, b2⟩
  have B2 := Lib.hid (below_two BA.out b2)
  clear b2
  go_wp2
  go_ret2
  exact ⟨rfl, B2.out⟩
theorem encode_long (i k c na nb : Nat) (A5 : Option Addr) (c5 : Nat) (rs : List PB.S54) (A6 : Option Addr) (c6 : Nat) (ns : List ByteArray) (A7 : Option Addr) (c7 : Nat) (ks : List Int) (w : World)
    (h5 : Kd.C PB.k54 w A5 rs.length rs) (h6 : Kd.C Kd.string w A6 ns.length ns) (h7 : Kd.C (Kd.int .i64) w A7 ks.length ks) (hc5 : rs.length ≤ c5) (hc6 : ns.length ≤ c6) (hc7 : ks.length ≤ c7) (hna : na ≤ 1099511627776) (hnb : nb ≤ 1099511627776) (hl5 : rs.length ≤ 100) (hl6 : ns.length ≤ 600) (hl7 : ks.length ≤ 600)
    (hm : ∀ x ∈ rs, PuB.mayB x = true) (hs : ∀ x ∈ ns, x.size ≤ 64) (hk : ∀ x ∈ ks, 0 ≤ x ∧ x ≤ 1099511627776) (hMay : Ev (fun q => PB.answer_May.f q (i : Int) (k : Int) (c : Int) (na : Int) (nb : Int) rs ns ks) true) (hb : 594 < (bodyL na nb rs ns ks).length) :
    Calls Try.prog 9 #[.agg #[.int .i64 (i : Int), .int .i64 (k : Int), .int .i64 (c : Int), .int .i64 (na : Int), .int .i64 (nb : Int), .slice A5 rs.length c5, .slice A6 ns.length c6, .slice A7 ks.length c7]] w fun e w' => e = .returned (.tuple #[.string ⟨#[]⟩, .int .i64 2]) ∧ Below w.heap.size w w' := by
  have bA : Below w.heap.size w (w.alloc (.cells #[.int .i64 (i : Int), .int .i64 (k : Int), .int .i64 (c : Int), .int .i64 (na : Int), .int .i64 (nb : Int), .slice A5 rs.length c5, .slice A6 ns.length c6, .slice A7 ks.length c7] 27)) := (Below.refl _ _).alloc (Nat.le_refl _) _
  have hbx := heap_new w (.cells #[.int .i64 (i : Int), .int .i64 (k : Int), .int .i64 (c : Int), .int .i64 (na : Int), .int .i64 (nb : Int), .slice A5 rs.length c5, .slice A6 ns.length c6, .slice A7 ks.length c7] 27)
  have H5 := Lib.hid (Kd.C_below h5 bA)
  have H6 := Lib.hid (Kd.C_below h6 bA)
  have H7 := Lib.hid (Kd.C_below h7 bA)
  have BA := Lib.hid bA
  have HBX := Lib.hid hbx
  clear h5 h6 h7 bA hbx
  obtain ⟨qk, hqk⟩ := Ev.rounds hMay
  have HMAY := Lib.hid hqk; clear hqk hMay
  obtain ⟨B, hB⟩ : ∃ B, B = bodyL na nb rs ns ks := ⟨_, rfl⟩
  have HBB := Lib.hid hB; clear hB
  rw [← HBB.out] at hb
  go_enter Try.func9, Try.ntmps9
  go_wp2_with fail
  refine (PB.answer_May.calls qk _ _ _ _ _ A5 c5 rs A6 c6 ns A7 c7 ks true _ H5.out hc5 H6.out hc6 H7.out hc7 HMAY.out).mono ?_
  rintro e w2 ⟨rfl, b2⟩
  have HX2 := Lib.hid (blk_below HBX.out b2)
  have G5 := Lib.hid (Kd.C_below H5.out b2)
  have G6 := Lib.hid (Kd.C_below H6.out b2)
  have G7 := Lib.hid (Kd.C_below H7.out b2)
  have B2 := Lib.hid (below_two BA.out b2)
  clear b2
  have q0 := blk_cell HX2.out 0
  have q1 := blk_cell HX2.out 1
  have q2 := blk_cell HX2.out 2
  have q3 := blk_cell HX2.out 3
  have q4 := blk_cell HX2.out 4
  have q5 := blk_cell HX2.out 5
  have q6 := blk_cell HX2.out 6
  have q7 := blk_cell HX2.out 7
  simp at q0 q1 q2 q3 q4 q5 q6 q7
  go_wp2_with fail
  refine (body_any (i : Int) (k : Int) (c : Int) na nb A5 c5 rs A6 c6 ns A7 c7 ks _ G5.out G6.out G7.out hna hnb hl5 hl6 hl7 hm hs hk).mono ?_
  rw [← HBB.out]
  rintro e w3 ⟨rfl, b3⟩
  have B3 := Lib.hid (below_two B2.out b3)
  have hz := sB_size B
  have t1 : decide ((B.length : Int) > 594) = true := by rw [decide_eq_true_iff]; omega
  have t2 : (594 : Int) < (B.length : Int) := by omega
  have t3 : 594 < B.length := by omega
  clear b3 q0 q1 q2 q3 q4 q5 q6 q7 hna hnb hl5 hl6 hl7 hm hs hk
  go_wp2
  go_ret2
  exact ⟨rfl, B3.out⟩
end Go.Proofs.Ytakbgaiedenikaa.Own
