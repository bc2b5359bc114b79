/- Several texts of this claim in one. -/
import Derived.Test.YtakbgaiedenikaaProg
import Derived.WalkKit
import Derived.Below
import Derived.Deep.Draws
import Derived.Deep.LoopGhost
import Derived.Deep.QuietTactic
import Derived.BigQuiet
import Derived.WideLaws
import Derived.Deep.RegionHeld3
import Derived.OwnWalk
import Derived.RowKit3
import Derived.Lib.Hide
import Derived.IntWalk
import Derived.Handy
import Derived.StillTailTactics
import Derived.Outline
import Derived.OneCell
import Derived.WalkSpells
import Derived.Lib.ConvBytes
import Derived.Laws.IdiomStrings
import Derived.Laws.BitsLemmas
/- Small lemmas on worlds, values and numbers, used by the walks of this seat. -/
namespace Go.Proofs.Ytakbgaiedenikaa.Own
open Go.RowKit
theorem ret_int {k : IntKind} {a b : Int} (h : a = b) : Ending.returned (.int k a) = .returned (.int k b) := by rw [h]
theorem ret_bool {a b : Bool} (h : a = b) : Ending.returned (.bool a) = .returned (.bool b) := by rw [h]
theorem heap_new (w : World) (o : Obj) : (w.alloc o).heap[w.heap.size]? = some o := (MapKept.heap_alloc w o).1
theorem heap_old (w : World) (o : Obj) {k : Nat} (h : k < w.heap.size) : (w.alloc o).heap[k]? = w.heap[k]? := Below.heap_alloc w o k h
theorem heap_far (w : World) (a : Addr) (v : Value) {k : Nat} (h : k ≠ a.block) : (w.setCell a v).heap[k]? = w.heap[k]? := Below.heap_setCell w a v k h
/-- A block of cells that is written in one place. -/
theorem heap_set {w : World} {b i : Nat} {c : Array Value} {t : TypeId} {fr : Nat × Nat} (h : w.heap[b]? = some (.cells c t fr)) (v : Value) :
    (w.setCell ⟨b, i, none⟩ v).heap[b]? = some (.cells (c.setIfInBounds i v) t fr) := by
  unfold World.setCell
  simp only [Array.getElem?_modify, if_pos]
  rw [h]
  rfl
theorem blk_cell {w : World} {b : Nat} {c : Array Value} {t : TypeId} {fr : Nat × Nat} (h : w.heap[b]? = some (.cells c t fr)) (i : Nat) : w.cell? ⟨b, i, none⟩ = c[i]? := by
  simp [World.cell?, h]
theorem blk_free {w : World} {b : Nat} {c : Array Value} {t : TypeId} (h : w.heap[b]? = some (.cells c t (0, 0))) (i : Nat) : w.frozen? ⟨b, i, none⟩ = false := by
  simp [World.frozen?, h]
theorem blk_lt {w : World} {b : Nat} {o : Obj} (h : w.heap[b]? = some o) : b < w.heap.size := (Array.getElem?_eq_some_iff.1 h).1
theorem below_two {W w w1 : World} (h : Below W.heap.size W w) (h1 : Below w.heap.size w w1) : Below W.heap.size W w1 := h.trans (h1.mono h.size)
theorem below_drew {B : Nat} {w w' : World} (h : Below B w w') : Below B w w'.drew := h.drew
theorem below_grown {W w w1 : World} {b : Nat} (h : Below W.heap.size W w) (hg : w.grownBy w1 (some b)) (hb : W.heap.size ≤ b) : Below W.heap.size W w1 :=
  h.grown hg h.size (by intro k e; injection e with e; omega)
theorem grown_trans {w w1 w2 : World} {row : Option Nat} (h : w.grownBy w1 row) (h1 : w1.grownBy w2 row) : w.grownBy w2 row :=
  ⟨h1.os.trans h.os, h1.tape.trans h.tape, h1.output.trans h.output, Nat.le_trans h.size h1.size, fun k hk hn => (h1.block k (Nat.lt_of_lt_of_le hk h.size) hn).trans (h.block k hk hn)⟩
theorem grown_drew {w w1 : World} {row : Option Nat} (h : w.grownBy w1 row) : w.grownBy w1.drew row := ⟨h.os, h.tape, h.output, h.size, h.block⟩
theorem grown_set {w w1 : World} {b : Nat} (h : w.grownBy w1 (some b)) (i : Nat) (v : Value) : w.grownBy (w1.setCell ⟨b, i, none⟩ v) (some b) :=
  ⟨h.os, h.tape, h.output, by simpa [World.setCell] using h.size, fun k hk hn => by
    rw [← h.block k hk hn]
    exact Below.heap_setCell _ _ _ _ (by intro e; exact hn (by rw [e]))⟩
theorem grown_alloc {w w1 : World} {row : Option Nat} (h : w.grownBy w1 row) (o : Obj) : w.grownBy (w1.alloc o) row :=
  grown_trans h (World.grownBy_alloc w1 o row)
theorem grown_below {w w1 w2 : World} {row : Option Nat} (h : w.grownBy w1 row) (hb : Below w1.heap.size w1 w2) : w.grownBy w2 row :=
  grown_trans h ⟨hb.os, hb.tape, hb.output, hb.size, fun k hk _ => hb.block k hk⟩
theorem blk_below {w w1 : World} {b : Nat} {o : Obj} (h : w.heap[b]? = some o) (hb : Below w.heap.size w w1) : w1.heap[b]? = some o := (hb.block b (blk_lt h)).trans h
theorem blk_grown {w w1 : World} {b b' : Nat} {o : Obj} (h : w.heap[b]? = some o) (hg : w.grownBy w1 (some b')) (hne : b ≠ b') : w1.heap[b]? = some o :=
  (hg.block b (blk_lt h) (by intro e; injection e with e; exact hne e)).trans h
theorem wf_i64 {a : Int} (h : (Lit.int .i64 a).wf = true) : -9223372036854775808 ≤ a ∧ a ≤ 9223372036854775807 := by
  simp [Lit.wf, IntKind.min, IntKind.max, IntKind.signed, IntKind.bits] at h
  exact ⟨by omega, by omega⟩
theorem wf_u32 {a : Int} (h : (Lit.int .u32 a).wf = true) : 0 ≤ a ∧ a ≤ 4294967295 := by
  simp [Lit.wf, IntKind.min, IntKind.max, IntKind.signed, IntKind.bits] at h
  exact ⟨by omega, by omega⟩
theorem wf_u8 {a : Int} (h : (Lit.int .u8 a).wf = true) : 0 ≤ a ∧ a ≤ 255 := by
  simp [Lit.wf, IntKind.min, IntKind.max, IntKind.signed, IntKind.bits] at h
  exact ⟨by omega, by omega⟩
/-- A slice of whole numbers that came in. -/
def IRow (k : IntKind) (w : World) (a : Option Addr) (n : Nat) (zs : List Int) : Prop :=
  zs.length = n ∧ n ≤ maxLen ∧ (∀ i, i < n → (Lit.int k (zs.getD i 0)).wf = true) ∧ (0 < n → ∃ b off, a = some ⟨b, off, none⟩ ∧ b < w.heap.size ∧ ∀ i, i < n → w.cell? ⟨b, off + i, none⟩ = some (.int k (zs.getD i 0)))
theorem take_getD {α : Type} (l : List α) (d : α) {k : Nat} (h : k < l.length) : l.take (k + 1) = l.take k ++ [l.getD k d] := by
  rw [List.take_succ_eq_append_getElem h]
  congr 2
  simp [List.getD, h]
theorem cell_below {w w1 : World} {B : Nat} {a : Addr} {v : Value} (h : w.cell? a = some v) (hb : Below B w w1) (ha : a.block < B) : w1.cell? a = some v := (hb.cell ha).trans h
end Go.Proofs.Ytakbgaiedenikaa.Own
/- Rows of bytes that the call made: '[]byte(s)', and back. -/
namespace Go.Proofs.Ytakbgaiedenikaa.Own
open Go.RowKit
/-- A row of bytes at the head of a block, that may be written. -/
def BRow (w : World) (b : Nat) (l : List UInt8) : Prop :=
  (∀ (j : Nat) (h : j < l.length), w.cell? ⟨b, j, none⟩ = some (.int .u8 (l[j].toNat : Int))) ∧ ∀ j, j < l.length → w.frozen? ⟨b, j, none⟩ = false
theorem BRow.drew {w : World} {b : Nat} {l : List UInt8} (h : BRow w b l) : BRow w.drew b l := h
theorem BRow.below {w w1 : World} {b : Nat} {l : List UInt8} (h : BRow w b l) (hb : Below w.heap.size w w1) (hl : b < w.heap.size) : BRow w1 b l :=
  ⟨fun j hj => (hb.cell (p := ⟨b, j, none⟩) hl).trans (h.1 j hj), fun j hj => (hb.frozen (p := ⟨b, j, none⟩) hl).trans (h.2 j hj)⟩
theorem brow_new (w : World) (e : TypeId) (s : ByteArray) : BRow (Lib.bytesWorld w e s) w.heap.size s.data.toList := by
  refine ⟨fun j hj => ?_, fun j hj => ?_⟩
  · have hj' : j < s.size := by simpa using hj
    rw [Lib.bytesWorld_cell w e s j hj', List.getD_eq_getElem?_getD, List.getElem?_eq_getElem hj]
    rfl
  · have hj' : j < s.size := by simpa using hj
    have hsz : s.size ≤ (Lib.bytesCells w e s).size := by unfold Lib.bytesCells; simp
    unfold World.frozen?
    rw [Lib.bytesWorld_at_new]
    simp
    omega
theorem bytes_below (w : World) (e : TypeId) (s : ByteArray) : Below w.heap.size w (Lib.bytesWorld w e s) :=
  ⟨by simp [Lib.bytesWorld, World.freeze, World.alloc, World.drew, -World.alloc_eq, -World.drew_eq], by simp [Lib.bytesWorld, World.freeze, World.alloc, World.drew, -World.alloc_eq, -World.drew_eq], by simp [Lib.bytesWorld, World.freeze, World.alloc, World.drew, -World.alloc_eq, -World.drew_eq],
    by rw [Lib.bytesWorld_size]; omega, fun k hk => Lib.bytesWorld_at_old w e s k hk⟩
theorem BRow.set {w : World} {b : Nat} {l : List UInt8} (h : BRow w b l) (j : Nat) (hj : j < l.length) (c : UInt8) : BRow (w.setCell ⟨b, j, none⟩ (.int .u8 (c.toNat : Int))) b (l.set j c) := by
  refine ⟨fun i hi => ?_, fun i hi => ?_⟩
  · have hi' : i < l.length := by simpa using hi
    rw [List.getElem_set]
    by_cases e : j = i
    · subst e
      rw [if_pos rfl]
      exact World.cell?_setCell_same _ _ _ (h.1 j hj)
    · rw [if_neg e]
      rw [World.cell?_setCell_other _ _ _ _ (by first | (simp; done) | (simp; omega))]
      exact h.1 i hi'
  · have hi' : i < l.length := by simpa using hi
    rw [World.frozen?_setCell]
    exact h.2 i hi'
theorem brow_string {P : Program} {w : World} {b : Nat} {l : List UInt8} (h : BRow w b l) (src dst e : TypeId) (cap n : Nat) (hn : n = l.length) (hs : P.underlying src = some (.slice e)) (he : P.underlying e = some (.int .u8)) (hd : P.underlying dst = some .string) :
    (convert src dst (.slice (some ⟨b, 0, none⟩) n cap)).run P w = .ok (.string ⟨l.toArray⟩) w := by
  subst hn
  exact Go.run_convert_bytes_back w src dst e ⟨b, 0, none⟩ cap l hs he hd (fun j hj => by
    have := h.1 j hj
    simpa [Go.WideShapes.add_plain] using this)
end Go.Proofs.Ytakbgaiedenikaa.Own
/- Numbers as so many bytes, the greatest first: plain laws. -/
namespace Go.Proofs.Ytakbgaiedenikaa.Own
def fixL : Nat → Nat → List UInt8
  | 0, _ => []
  | n + 1, v => fixL n (v / 256) ++ [UInt8.ofNat v]
def readL (l : List UInt8) : Nat := l.foldl (fun v b => v * 256 + b.toNat) 0
theorem fixL_length (n : Nat) : ∀ v, (fixL n v).length = n := by
  induction n with
  | zero => intro v; rfl
  | succ n ih => intro v; simp [fixL, ih]
theorem fixL_get (n : Nat) : ∀ (v i : Nat), i < n → (fixL n v)[i]? = some (UInt8.ofNat (v / 256 ^ (n - 1 - i))) := by
  induction n with
  | zero => intro v i h; omega
  | succ n ih =>
    intro v i h
    rw [fixL]
    by_cases hi : i < n
    · rw [List.getElem?_append_left (by rw [fixL_length]; exact hi), ih _ _ hi, Nat.div_div_eq_div_mul, Nat.mul_comm 256, ← Nat.pow_succ]
      congr 5
      omega
    · obtain rfl : i = n := by omega
      rw [List.getElem?_append_right (by rw [fixL_length]; exact Nat.le_refl _), fixL_length]
      simp
theorem readL_snoc (l : List UInt8) (b : UInt8) : readL (l ++ [b]) = readL l * 256 + b.toNat := by unfold readL; rw [List.foldl_append]; rfl
theorem readL_fixL (n : Nat) : ∀ v, readL (fixL n v) = v % 256 ^ n := by
  induction n with
  | zero => intro v; simp [fixL, readL, Nat.mod_one]
  | succ n ih =>
    intro v
    rw [fixL, readL_snoc, ih, UInt8.toNat_ofNat', show 256 ^ (n + 1) = 256 * 256 ^ n from by rw [Nat.pow_succ, Nat.mul_comm], Nat.mod_mul]
    omega
theorem readL_lt (l : List UInt8) : readL l < 256 ^ l.length := by
  have : ∀ (m : List UInt8), readL m.reverse < 256 ^ m.length := by
    intro m
    induction m with
    | nil => simp [readL]
    | cons b m ih =>
      rw [List.reverse_cons, readL_snoc, List.length_cons, Nat.pow_succ]
      have := b.toNat_lt
      omega
  have h := this l.reverse
  rwa [List.reverse_reverse, List.length_reverse] at h
theorem fixL_readL (l : List UInt8) : fixL l.length (readL l) = l := by
  have : ∀ (m : List UInt8), fixL m.length (readL m.reverse) = m.reverse := by
    intro m
    induction m with
    | nil => rfl
    | cons b m ih =>
      rw [List.reverse_cons, readL_snoc, List.length_cons, fixL]
      have hb := b.toNat_lt
      have e1 : (readL m.reverse * 256 + b.toNat) / 256 = readL m.reverse := by omega
      have e2 : UInt8.ofNat (readL m.reverse * 256 + b.toNat) = b := by
        apply UInt8.toNat_inj.1
        rw [UInt8.toNat_ofNat']
        omega
      rw [e1, e2, ih]
  have h := this l.reverse
  rwa [List.reverse_reverse, List.length_reverse] at h
theorem fixL_inj {n v u : Nat} (hv : v < 256 ^ n) (hu : u < 256 ^ n) (h : fixL n v = fixL n u) : v = u := by
  have := congrArg readL h
  rw [readL_fixL, readL_fixL, Nat.mod_eq_of_lt hv, Nat.mod_eq_of_lt hu] at this
  exact this
/-- A string out of bytes. -/
def sB (l : List UInt8) : ByteArray := ⟨l.toArray⟩
theorem sB_list (l : List UInt8) : (sB l).data.toList = l := by simp [sB]
theorem sB_size (l : List UInt8) : (sB l).size = l.length := by simp [sB, ByteArray.size]
theorem sB_append (l m : List UInt8) : sB l ++ sB m = sB (l ++ m) := by
  apply ByteArray.ext
  simp [sB, ByteArray.data_append]
theorem sB_of (s : ByteArray) : sB s.data.toList = s := by
  apply ByteArray.ext
  simp [sB]
theorem sB_inj {l m : List UInt8} (h : sB l = sB m) : l = m := by
  have := congrArg (fun s : ByteArray => s.data.toList) h
  simpa [sB] using this
end Go.Proofs.Ytakbgaiedenikaa.Own
/- Arrays of bytes that fill a block. -/
namespace Go.Proofs.Ytakbgaiedenikaa.Own
open Go.RowKit
def bv (b : UInt8) : Value := .int .u8 (b.toNat : Int)
/-- An array of bytes that fills a block. -/
def ABlk (w : World) (b : Nat) (l : List UInt8) (t : TypeId) : Prop := w.heap[b]? = some (.cells (l.map bv).toArray t (0, 0))
theorem ABlk.row {w : World} {b : Nat} {l : List UInt8} {t : TypeId} (h : ABlk w b l t) : BRow w b l :=
  ⟨fun j hj => by rw [blk_cell h]; simp [hj, bv], fun j _ => blk_free h j⟩
theorem ABlk.set {w : World} {b : Nat} {l : List UInt8} {t : TypeId} (h : ABlk w b l t) (i : Nat) (c : UInt8) : ABlk (w.setCell ⟨b, i, none⟩ (.int .u8 (c.toNat : Int))) b (l.set i c) t := by
  unfold ABlk
  rw [heap_set h]
  simp [List.map_set, bv]
theorem take_BRow {w : World} {b : Nat} {l : List UInt8} (h : BRow w b l) (n : Nat) : BRow w b (l.take n) :=
  ⟨fun j hj => by
    have hj' : j < l.length := by rw [List.length_take] at hj; omega
    rw [List.getElem_take]; exact h.1 j hj', fun j hj => h.2 j (by rw [List.length_take] at hj; omega)⟩
theorem str_some {s : ByteArray} (h : 1 ≤ s.size) : (¬ s.toList = []) ∧ s.toList.isEmpty = false := by
  have hne : ¬ s.toList = [] := by
    rw [Go.ByteArray.toList_eq]
    intro e
    have e2 : s.data.toList.length = 0 := by rw [e]; rfl
    have e3 : s.data.toList.length = s.size := by rw [Array.length_toList]; rfl
    omega
  exact ⟨hne, by simpa using hne⟩
end Go.Proofs.Ytakbgaiedenikaa.Own
/- Numbers as chains of bytes: plain laws. -/
namespace Go.Proofs.Ytakbgaiedenikaa.Own
def chainL (v : Nat) : List UInt8 := if v < 128 then [UInt8.ofNat v] else UInt8.ofNat (v % 128 + 128) :: chainL (v / 128)
termination_by v
decreasing_by omega
theorem chainL_lt {v : Nat} (h : v < 128) : chainL v = [UInt8.ofNat v] := by rw [chainL, if_pos h]
theorem chainL_ge {v : Nat} (h : 128 ≤ v) : chainL v = UInt8.ofNat (v % 128 + 128) :: chainL (v / 128) := by rw [chainL, if_neg (by omega)]
theorem chainL_pos (v : Nat) : 1 ≤ (chainL v).length := by
  by_cases h : v < 128
  · rw [chainL_lt h]; simp
  · rw [chainL_ge (by omega)]; simp
theorem chainL_len (n : Nat) : ∀ v, v < 128 ^ (n + 1) → (chainL v).length ≤ n + 1 := by
  induction n with
  | zero => intro v h; rw [chainL_lt (by simpa using h)]; simp
  | succ n ih =>
    intro v h
    by_cases h1 : v < 128
    · rw [chainL_lt h1]; simp
    · rw [chainL_ge (by omega), List.length_cons]
      have := ih (v / 128) (by rw [Nat.div_lt_iff_lt_mul (by decide)]; rw [Nat.pow_succ] at h; exact h)
      omega
theorem chainL_len10 {v : Nat} (h : v < 18446744073709551616) : (chainL v).length ≤ 10 := chainL_len 9 v (Nat.lt_trans h (by decide))
/-- What the bytes of a chain come to: the number, how many bytes it has, and an error. -/
def unch (s : List UInt8) (i : Nat) (v : Nat) : Nat → Nat × Nat × Nat
  | 0 => (0, 0, 4)
  | n + 1 => match s with
    | [] => (0, 0, 3)
    | b :: r => if (i = 9 ∧ 1 < b.toNat) ∨ (b.toNat = 0 ∧ 0 < i) then (0, 0, 4) else if b.toNat < 128 then (v + b.toNat * 128 ^ i, i + 1, 0) else unch r (i + 1) (v + (b.toNat - 128) * 128 ^ i) n
def unchain (s : List UInt8) : Nat × Nat × Nat := unch s 0 0 10
end Go.Proofs.Ytakbgaiedenikaa.Own
/- The walk of nums.Chain. -/
namespace Go.Proofs.Ytakbgaiedenikaa.Own
open Go.RowKit
set_option maxRecDepth 100000
set_option linter.unusedSimpArgs false
set_option linter.unusedVariables false
/-- The array behind k rounds. -/
def chB (pre : List UInt8) : List UInt8 := pre ++ List.replicate (10 - pre.length) 0
theorem chB_length {pre : List UInt8} (h : pre.length ≤ 10) : (chB pre).length = 10 := by simp [chB]; omega
theorem chB_nil : chB [] = [0, 0, 0, 0, 0, 0, 0, 0, 0, 0] := by decide
theorem chB_set {pre : List UInt8} (h : pre.length < 10) (c : UInt8) : (chB pre).set pre.length c = chB (pre ++ [c]) := by
  unfold chB
  obtain ⟨n, hn⟩ : ∃ n, 10 - pre.length = n + 1 := ⟨9 - pre.length, by omega⟩
  rw [hn, List.replicate_succ, List.set_append_right _ _ (Nat.le_refl _), Nat.sub_self, List.set_cons_zero, List.length_append, List.append_assoc]
  congr 2
  simp
  omega
theorem chB_take (pre : List UInt8) (c : UInt8) : (chB (pre ++ [c])).take (pre.length + 1) = pre ++ [c] := by
  unfold chB
  rw [List.take_left' (by simp)]
theorem or128 (x : Nat) (h : x < 256) : Go.bits .or .u8 (x : Int) 128 = ((UInt8.ofNat (x % 128 + 128)).toNat : Int) := by
  have h1 := (Go.bits_nat .u8 8 (by decide) Go.wraps_u8 x 128 (by simpa using h) (by decide)).2
  rw [show ((128 : Nat) : Int) = 128 from rfl] at h1
  rw [h1, UInt8.toNat_ofNat']
  have key : ∀ y : Fin 256, (y.val ||| 128) = (y.val % 128 + 128) % 2 ^ 8 := by decide +kernel
  have := key ⟨x, h⟩
  simp only at this
  rw [this]
theorem chain_round {v x k : Nat} (hx : 128 ≤ x) (h : x * 128 ^ k ≤ v) (hv : v < 18446744073709551616) : k ≤ 8 := by
  apply Classical.byContradiction
  intro hk
  have h1 : 128 ^ 9 ≤ 128 ^ k := Nat.pow_le_pow_right (by decide) (by omega)
  have h2 : 128 * 128 ^ 9 ≤ x * 128 ^ k := Nat.mul_le_mul hx h1
  have h3 : 128 * 128 ^ 9 = 1180591620717411303424 := by decide
  omega
theorem chain_next {v x k : Nat} (h : x * 128 ^ k ≤ v) : x / 128 * 128 ^ (k + 1) ≤ v := by
  refine Nat.le_trans ?_ h
  rw [Nat.pow_succ, Nat.mul_comm (128 ^ k) 128, ← Nat.mul_assoc]
  exact Nat.mul_le_mul_right _ (Nat.div_mul_le_self _ _)
set_option maxHeartbeats 1000000 in
theorem chain_any (v : Nat) (w : World) (hv : v < 18446744073709551616) :
    Calls Try.prog 61 #[.int .u64 (v : Int)] w fun e w' => e = .returned (.string (sB (chainL v))) ∧ Below w.heap.size w w' := by
  have Hv := Lib.hid hv; clear hv
  go_enter Try.func61, Try.ntmps61
  go_wp2_with fail
  go_loopw [0, 4] (fun x n wr => ∃ (y : Nat) (pre : List UInt8), x = .int .u64 (y : Int) ∧ n = .int .i64 (pre.length : Int) ∧ pre ++ chainL y = chainL v ∧ y * 128 ^ pre.length ≤ v ∧ pre.length ≤ 9 ∧ ABlk wr w.heap.size (chB pre) 130 ∧ Below w.heap.size w wr) (fun x _ _ => (intOf x).toNat)
  case atStart => exact ⟨v, [], rfl, rfl, rfl, by simp, by simp, by rw [chB_nil]; exact heap_new _ _, (Below.refl _ _).alloc (Nat.le_refl _) _⟩
  case round =>
    obtain ⟨y, pre, rfl, rfl, heq, hle, h9, hb, bel⟩ := hrel
    have Bel := Lib.hid bel; clear bel
    have Hb := Lib.hid hb
    have Heq := Lib.hid heq; clear heq
    have Hle := Lib.hid hle; clear hle
    have hyv : y < 18446744073709551616 := by
      have h1 := Hle.out
      have h2 : 1 ≤ 128 ^ pre.length := Nat.one_le_pow _ _ (by decide)
      have h3 : y * 1 ≤ y * 128 ^ pre.length := Nat.mul_le_mul_left _ h2
      have := Hv.out
      omega
    have hc := hb.row.1 pre.length (by rw [chB_length (by omega)]; omega)
    have hf := hb.row.2 pre.length (by rw [chB_length (by omega)]; omega)
    clear hb
    generalize (chB pre)[pre.length]'(by rw [chB_length (by omega)]; omega) = c0 at hc
    have hy0 : (y : Int) < 18446744073709551616 := by omega
    have Hyv := Lib.hid hyv; clear hyv
    by_cases hlt : 128 ≤ y
    · have h8 := chain_round hlt Hle.out Hv.out
      have hor := or128 (y % 256) (by omega)
      rw [show (((y % 256 : Nat)) : Int) = (y : Int) % 256 from by omega, show y % 256 % 128 = y % 128 from by omega] at hor
      have Hor := Lib.hid hor; clear hor
      have hlt' : (128 : Int) ≤ (y : Int) := by omega
      have Hlt := Lib.hid hlt; clear hlt
      have hn := chain_next Hle.out
      have Hn := Lib.hid hn; clear hn
      have hset := Hb.out.set pre.length (UInt8.ofNat (y % 128 + 128))
      rw [chB_set (by omega)] at hset
      have Hset := Lib.hid hset; clear hset
      have hp8 : (pre.length : Int) ≤ 8 := by omega
      go_wp2
      go_roundw
      case rel => exact ⟨y / 128, pre ++ [UInt8.ofNat (y % 128 + 128)], by go_num, by simp, by rw [List.append_assoc, List.singleton_append, ← chainL_ge Hlt.out]; exact Heq.out, by simpa using Hn.out, by simp; omega, by rw [Hor.out]; exact Hset.out, Bel.out.setCell (Nat.le_refl _) _⟩
      case measure => simp [intOf]; have := Hlt.out; omega
    · have hset := Hb.out.set pre.length (UInt8.ofNat y)
      rw [chB_set (by omega)] at hset
      have hbr := take_BRow hset.row (pre.length + 1)
      rw [chB_take] at hbr
      rw [← chainL_lt (v := y) (by omega), Heq.out] at hbr
      rw [show ((UInt8.ofNat y).toNat : Int) = (y : Int) from by rw [UInt8.toNat_ofNat']; omega] at hbr
      have hlen : pre.length + 1 = (chainL v).length := by rw [← Heq.out, chainL_lt (by omega)]; simp
      have kc := brow_string (P := Try.prog) hbr 74 9 5 10 (pre.length + 1) hlen Try.underlying74 Try.underlying5 Try.underlying9
      clear hset hbr hlen
      have hlt' : ¬ (128 : Int) ≤ (y : Int) := by omega
      have hp9 : (pre.length : Int) ≤ 9 := by omega
      have hp10 : (pre.length : Int) + 1 ≤ 10 := by omega
      have hp11 : (0 : Int) ≤ (pre.length : Int) + 1 := by omega
      have hp12 : ((pre.length : Int) + 1).toNat = pre.length + 1 := by omega
      go_wp2
      go_ret
      exact ⟨rfl, Bel.out.setCell (Nat.le_refl _) _⟩
end Go.Proofs.Ytakbgaiedenikaa.Own
/- The walks of nums.Text and record.encode. -/
namespace Go.Proofs.Ytakbgaiedenikaa.Own
open Go.RowKit
set_option maxRecDepth 100000
set_option linter.unusedSimpArgs false
set_option linter.unusedVariables false
def textL (s : ByteArray) : List UInt8 := chainL s.size ++ s.data.toList
theorem textL_length (s : ByteArray) (h : s.size ≤ 140737488351232) : (textL s).length ≤ s.size + 10 := by
  unfold textL
  have h1 := chainL_len10 (v := s.size) (by omega)
  have h2 : s.data.toList.length = s.size := by rw [Array.length_toList]; rfl
  rw [List.length_append]
  omega
theorem text_any (s : ByteArray) (w : World) (hs : s.size ≤ 140737488351232) :
    Calls Try.prog 43 #[.string s] w fun e w' => e = .returned (.string (sB (textL s))) ∧ Below w.heap.size w w' := by
  have e1 : IntKind.u64.wrap (s.size : Int) = s.size := IntWalk.u64_in _ (by omega)
  have hc := chainL_len10 (v := s.size) (by omega)
  have hz : (sB (chainL s.size)).size ≤ 10 := by rw [sB_size]; exact hc
  have ht : sB (chainL s.size) ++ s = sB (textL s) := by
    unfold textL
    rw [← sB_append, sB_of]
  have Ht := Lib.hid ht; clear ht hc
  have Hs := Lib.hid hs
  go_enter Try.func43, Try.ntmps43
  go_wp2_with fail
  refine (chain_any s.size _ (by have := Hs.out; omega)).mono ?_
  rintro e w1 ⟨rfl, b1⟩
  generalize sB (chainL s.size) = C at *
  go_wp2
  go_ret
  exact ⟨by rw [Ht.out]; rfl, b1⟩
abbrev TW (g : Nat) (key val : ByteArray) (w w1 : World) : Prop := w1.cell? ⟨g, 2, none⟩ = some (.string key) ∧ w1.cell? ⟨g, 3, none⟩ = some (.string val) ∧ g < w.heap.size ∧ Below w.heap.size w w1
theorem TW.keep {g : Nat} {key val : ByteArray} {w w1 w2 : World} (h : TW g key val w w1) (hb : Below w1.heap.size w1 w2) : TW g key val w w2 := ⟨(hb.cell (p := ⟨g, 2, none⟩) (Nat.lt_of_lt_of_le h.2.2.1 h.2.2.2.size)).trans h.1, (hb.cell (p := ⟨g, 3, none⟩) (Nat.lt_of_lt_of_le h.2.2.1 h.2.2.2.size)).trans h.2.1, h.2.2.1, below_two h.2.2.2 hb⟩
theorem TW.drew {g : Nat} {key val : ByteArray} {w w1 : World} (h : TW g key val w w1) : TW g key val w w1.drew := ⟨h.1, h.2.1, h.2.2.1, h.2.2.2.drew⟩
/-- A record as bytes. -/
def recL (off tick prod seq from_ : Nat) (gone : Bool) (key val : ByteArray) : List UInt8 :=
  chainL off ++ chainL tick ++ chainL prod ++ chainL seq ++ chainL from_ ++ chainL (if gone then 1 else 0) ++ textL key ++ textL val
set_option maxHeartbeats 2000000 in
theorem encode_rec (off tick prod seq from_ : Nat) (gone : Bool) (key val : ByteArray) (w : World) (h1 : off ≤ 1099511627776) (h2 : tick ≤ 1099511627776) (h3 : prod ≤ 1099511627776) (h4 : seq ≤ 1099511627776) (h5 : from_ ≤ 1099511627776) (hk : key.size ≤ 32) (hv : val.size ≤ 200) :
    Calls Try.prog 59 #[.agg #[.int .i64 (off : Int), .int .i64 (tick : Int), .string key, .string val, .bool gone, .int .i64 (prod : Int), .int .i64 (seq : Int), .int .i64 (from_ : Int)]] w fun e w' => e = .returned (.string (sB (recL off tick prod seq from_ gone key val))) ∧ Below w.heap.size w w' := by
  have e1 : IntKind.u64.wrap (off : Int) = off := IntWalk.u64_in _ (by omega)
  have e2 : IntKind.u64.wrap (tick : Int) = tick := IntWalk.u64_in _ (by omega)
  have e3 : IntKind.u64.wrap (prod : Int) = prod := IntWalk.u64_in _ (by omega)
  have e4 : IntKind.u64.wrap (seq : Int) = seq := IntWalk.u64_in _ (by omega)
  have e5 : IntKind.u64.wrap (from_ : Int) = from_ := IntWalk.u64_in _ (by omega)
  have H1 := Lib.hid h1
  have H2 := Lib.hid h2
  have H3 := Lib.hid h3
  have H4 := Lib.hid h4
  have H5 := Lib.hid h5
  obtain ⟨c1, hc1⟩ : ∃ C, C = sB (chainL off) := ⟨_, rfl⟩
  obtain ⟨c2, hc2⟩ : ∃ C, C = sB (chainL tick) := ⟨_, rfl⟩
  obtain ⟨c3, hc3⟩ : ∃ C, C = sB (chainL prod) := ⟨_, rfl⟩
  obtain ⟨c4, hc4⟩ : ∃ C, C = sB (chainL seq) := ⟨_, rfl⟩
  obtain ⟨c5, hc5⟩ : ∃ C, C = sB (chainL from_) := ⟨_, rfl⟩
  obtain ⟨c6, hc6⟩ : ∃ C, C = sB (chainL (if gone then 1 else 0)) := ⟨_, rfl⟩
  obtain ⟨c7, hc7⟩ : ∃ C, C = sB (textL key) := ⟨_, rfl⟩
  obtain ⟨c8, hc8⟩ : ∃ C, C = sB (textL val) := ⟨_, rfl⟩
  have zc1 : c1.size ≤ 10 := by rw [hc1, sB_size]; exact chainL_len10 (by omega)
  have zc2 : c2.size ≤ 10 := by rw [hc2, sB_size]; exact chainL_len10 (by omega)
  have zc3 : c3.size ≤ 10 := by rw [hc3, sB_size]; exact chainL_len10 (by omega)
  have zc4 : c4.size ≤ 10 := by rw [hc4, sB_size]; exact chainL_len10 (by omega)
  have zc5 : c5.size ≤ 10 := by rw [hc5, sB_size]; exact chainL_len10 (by omega)
  have zc6 : c6.size ≤ 10 := by rw [hc6, sB_size]; exact chainL_len10 (by split <;> omega)
  have zc7 : c7.size ≤ 42 := by rw [hc7, sB_size]; have := textL_length key (by omega); omega
  have zc8 : c8.size ≤ 210 := by rw [hc8, sB_size]; have := textL_length val (by omega); omega
  obtain ⟨s1, hs1⟩ : ∃ S, ({ data := #[] } : ByteArray) ++ c1 = S := ⟨_, rfl⟩
  obtain ⟨s2, hs2⟩ : ∃ S, s1 ++ c2 = S := ⟨_, rfl⟩
  obtain ⟨s3, hs3⟩ : ∃ S, s2 ++ c3 = S := ⟨_, rfl⟩
  obtain ⟨s4, hs4⟩ : ∃ S, s3 ++ c4 = S := ⟨_, rfl⟩
  obtain ⟨s5, hs5⟩ : ∃ S, s4 ++ c5 = S := ⟨_, rfl⟩
  obtain ⟨s6, hs6⟩ : ∃ S, s5 ++ c6 = S := ⟨_, rfl⟩
  obtain ⟨s7, hs7⟩ : ∃ S, s6 ++ c7 = S := ⟨_, rfl⟩
  obtain ⟨s8, hs8⟩ : ∃ S, s7 ++ c8 = S := ⟨_, rfl⟩
  have hs9 : s8 = sB (recL off tick prod seq from_ gone key val) := by rw [← hs8, ← hs7, ← hs6, ← hs5, ← hs4, ← hs3, ← hs2, ← hs1, hc1, hc2, hc3, hc4, hc5, hc6, hc7, hc8]; simp only [show (({ data := #[] } : ByteArray)) = sB [] from rfl, sB_append]; rfl
  have zs1 : s1.size ≤ 10 := by rw [← hs1, ByteArray.size_append]; have : (({ data := #[] } : ByteArray)).size = 0 := rfl; omega
  have zs2 : s2.size ≤ 20 := by rw [← hs2]; rw [ByteArray.size_append]; omega
  have zs3 : s3.size ≤ 30 := by rw [← hs3]; rw [ByteArray.size_append]; omega
  have zs4 : s4.size ≤ 40 := by rw [← hs4]; rw [ByteArray.size_append]; omega
  have zs5 : s5.size ≤ 50 := by rw [← hs5]; rw [ByteArray.size_append]; omega
  have zs6 : s6.size ≤ 60 := by rw [← hs6]; rw [ByteArray.size_append]; omega
  have zs7 : s7.size ≤ 102 := by rw [← hs7]; rw [ByteArray.size_append]; omega
  have zs8 : s8.size ≤ 312 := by rw [← hs8]; rw [ByteArray.size_append]; omega
  have HC1 := Lib.hid hc1; clear hc1
  have HC2 := Lib.hid hc2; clear hc2
  have HC3 := Lib.hid hc3; clear hc3
  have HC4 := Lib.hid hc4; clear hc4
  have HC5 := Lib.hid hc5; clear hc5
  have HC6 := Lib.hid hc6; clear hc6
  have HC7 := Lib.hid hc7; clear hc7
  have HC8 := Lib.hid hc8; clear hc8
  have HS9 := Lib.hid hs9; clear hs9
  clear h1 h2 h3 h4 h5
  cases gone
  · go_enter Try.func59, Try.ntmps59
    go_wp2_with fail
    have i0 : ∀ w, (Instr.index 111 (.agg #[.int .i64 (off : Int), .int .i64 (tick : Int), .int .i64 (prod : Int), .int .i64 (seq : Int), .int .i64 (from_ : Int), .int .i64 (0 : Int)]) (.int .i64 0)).run Try.prog w = .ok (.int .i64 (off : Int)) w := fun _ => by kernel_rfl
    have i1 : ∀ w, (Instr.index 111 (.agg #[.int .i64 (off : Int), .int .i64 (tick : Int), .int .i64 (prod : Int), .int .i64 (seq : Int), .int .i64 (from_ : Int), .int .i64 (0 : Int)]) (.int .i64 1)).run Try.prog w = .ok (.int .i64 (tick : Int)) w := fun _ => by kernel_rfl
    have i2 : ∀ w, (Instr.index 111 (.agg #[.int .i64 (off : Int), .int .i64 (tick : Int), .int .i64 (prod : Int), .int .i64 (seq : Int), .int .i64 (from_ : Int), .int .i64 (0 : Int)]) (.int .i64 2)).run Try.prog w = .ok (.int .i64 (prod : Int)) w := fun _ => by kernel_rfl
    have i3 : ∀ w, (Instr.index 111 (.agg #[.int .i64 (off : Int), .int .i64 (tick : Int), .int .i64 (prod : Int), .int .i64 (seq : Int), .int .i64 (from_ : Int), .int .i64 (0 : Int)]) (.int .i64 3)).run Try.prog w = .ok (.int .i64 (seq : Int)) w := fun _ => by kernel_rfl
    have i4 : ∀ w, (Instr.index 111 (.agg #[.int .i64 (off : Int), .int .i64 (tick : Int), .int .i64 (prod : Int), .int .i64 (seq : Int), .int .i64 (from_ : Int), .int .i64 (0 : Int)]) (.int .i64 4)).run Try.prog w = .ok (.int .i64 (from_ : Int)) w := fun _ => by kernel_rfl
    have i5 : ∀ w, (Instr.index 111 (.agg #[.int .i64 (off : Int), .int .i64 (tick : Int), .int .i64 (prod : Int), .int .i64 (seq : Int), .int .i64 (from_ : Int), .int .i64 (0 : Int)]) (.int .i64 5)).run Try.prog w = .ok (.int .i64 (0 : Int)) w := fun _ => by kernel_rfl
    have hH := heap_new w (.cells #[.int .i64 (off : Int), .int .i64 (tick : Int), .string key, .string val, .bool false, .int .i64 (prod : Int), .int .i64 (seq : Int), .int .i64 (from_ : Int)] 54)
    have HH := Lib.hid hH; clear hH
    have B0 := Lib.hid ((Below.refl _ w).alloc (Nat.le_refl _) (.cells #[.int .i64 (off : Int), .int .i64 (tick : Int), .string key, .string val, .bool false, .int .i64 (prod : Int), .int .i64 (seq : Int), .int .i64 (from_ : Int)] 54))
    refine wp_loop_rounds 7 ?_
    rw [rounds_succ]
    go_wp2_with fail
    refine (chain_any off _ (by have := H1.out; omega)).mono ?_
    rintro e w1 ⟨rfl, b⟩
    have hH := blk_below HH.out b
    have B1 := Lib.hid (below_two B0.out b); clear b HH
    have HH := Lib.hid hH; clear hH
    rw [← HC1.out]
    go_wp2_with fail
    rw [rounds_succ]
    go_wp2_with fail
    refine (chain_any tick _ (by have := H2.out; omega)).mono ?_
    rintro e w2 ⟨rfl, b⟩
    have hH := blk_below HH.out b
    have B2 := Lib.hid (below_two B1.out b); clear b HH
    have HH := Lib.hid hH; clear hH
    rw [← HC2.out]
    go_wp2_with fail
    rw [rounds_succ]
    go_wp2_with fail
    refine (chain_any prod _ (by have := H3.out; omega)).mono ?_
    rintro e w3 ⟨rfl, b⟩
    have hH := blk_below HH.out b
    have B3 := Lib.hid (below_two B2.out b); clear b HH
    have HH := Lib.hid hH; clear hH
    rw [← HC3.out]
    go_wp2_with fail
    rw [rounds_succ]
    go_wp2_with fail
    refine (chain_any seq _ (by have := H4.out; omega)).mono ?_
    rintro e w4 ⟨rfl, b⟩
    have hH := blk_below HH.out b
    have B4 := Lib.hid (below_two B3.out b); clear b HH
    have HH := Lib.hid hH; clear hH
    rw [← HC4.out]
    go_wp2_with fail
    rw [rounds_succ]
    go_wp2_with fail
    refine (chain_any from_ _ (by have := H5.out; omega)).mono ?_
    rintro e w5 ⟨rfl, b⟩
    have hH := blk_below HH.out b
    have B5 := Lib.hid (below_two B4.out b); clear b HH
    have HH := Lib.hid hH; clear hH
    rw [← HC5.out]
    go_wp2_with fail
    rw [rounds_succ]
    go_wp2_with fail
    refine (chain_any 0 _ (by decide)).mono ?_
    rintro e w6 ⟨rfl, b⟩
    have hH := blk_below HH.out b
    have B6 := Lib.hid (below_two B5.out b); clear b HH
    have HH := Lib.hid hH; clear hH
    rw [show sB (chainL 0) = c6 from (HC6.out.trans (by simp)).symm]
    go_wp2_with fail
    rw [rounds_succ]
    go_wp2_with fail
    have tw : TW w.heap.size key val w6 w6 := ⟨by rw [blk_cell HH.out]; rfl, by rw [blk_cell HH.out]; rfl, blk_lt HH.out, Below.refl _ _⟩
    have hk7 : key.size ≤ 140737488351232 := by omega
    have hv7 : val.size ≤ 140737488351232 := by omega
    have HK := Lib.hid hk7
    have HV := Lib.hid hv7
    clear hk7 hv7
    clear HC1 HC2 HC3 HC4 HC5 HC6 B0 B1 B2 B3 B4 B5 HH
    have a7 : ¬ (9223372036854775807 < s6.size + c7.size) := by omega
    have a8 : ¬ (9223372036854775807 < s7.size + c8.size) := by omega
    go_region_held3 (fun w' => TW w.heap.size key val w6 w')
      ((first | assumption | exact TW.keep (by assumption) (by assumption) | exact TW.drew (by assumption)))
      (first
        | (go_at_call 43; refine (text_any _ _ (by first | exact HK.out | exact HV.out)).mono ?_; rintro e w7 ⟨rfl, bel⟩; first | rw [← HC7.out] | rw [← HC8.out]))
    all_goals
      have hfin : Below w6.heap.size w6 _ := (show TW w.heap.size key val w6 _ by assumption).2.2.2
      have HF := Lib.hid hfin; clear hfin
      go_wp2
      go_ret
      exact ⟨by rw [← HS9.out]; rfl, below_two B6.out HF.out⟩
  · go_enter Try.func59, Try.ntmps59
    go_wp2_with fail
    have i0 : ∀ w, (Instr.index 111 (.agg #[.int .i64 (off : Int), .int .i64 (tick : Int), .int .i64 (prod : Int), .int .i64 (seq : Int), .int .i64 (from_ : Int), .int .i64 (1 : Int)]) (.int .i64 0)).run Try.prog w = .ok (.int .i64 (off : Int)) w := fun _ => by kernel_rfl
    have i1 : ∀ w, (Instr.index 111 (.agg #[.int .i64 (off : Int), .int .i64 (tick : Int), .int .i64 (prod : Int), .int .i64 (seq : Int), .int .i64 (from_ : Int), .int .i64 (1 : Int)]) (.int .i64 1)).run Try.prog w = .ok (.int .i64 (tick : Int)) w := fun _ => by kernel_rfl
    have i2 : ∀ w, (Instr.index 111 (.agg #[.int .i64 (off : Int), .int .i64 (tick : Int), .int .i64 (prod : Int), .int .i64 (seq : Int), .int .i64 (from_ : Int), .int .i64 (1 : Int)]) (.int .i64 2)).run Try.prog w = .ok (.int .i64 (prod : Int)) w := fun _ => by kernel_rfl
    have i3 : ∀ w, (Instr.index 111 (.agg #[.int .i64 (off : Int), .int .i64 (tick : Int), .int .i64 (prod : Int), .int .i64 (seq : Int), .int .i64 (from_ : Int), .int .i64 (1 : Int)]) (.int .i64 3)).run Try.prog w = .ok (.int .i64 (seq : Int)) w := fun _ => by kernel_rfl
    have i4 : ∀ w, (Instr.index 111 (.agg #[.int .i64 (off : Int), .int .i64 (tick : Int), .int .i64 (prod : Int), .int .i64 (seq : Int), .int .i64 (from_ : Int), .int .i64 (1 : Int)]) (.int .i64 4)).run Try.prog w = .ok (.int .i64 (from_ : Int)) w := fun _ => by kernel_rfl
    have i5 : ∀ w, (Instr.index 111 (.agg #[.int .i64 (off : Int), .int .i64 (tick : Int), .int .i64 (prod : Int), .int .i64 (seq : Int), .int .i64 (from_ : Int), .int .i64 (1 : Int)]) (.int .i64 5)).run Try.prog w = .ok (.int .i64 (1 : Int)) w := fun _ => by kernel_rfl
    have hH := heap_new w (.cells #[.int .i64 (off : Int), .int .i64 (tick : Int), .string key, .string val, .bool true, .int .i64 (prod : Int), .int .i64 (seq : Int), .int .i64 (from_ : Int)] 54)
    have HH := Lib.hid hH; clear hH
    have B0 := Lib.hid ((Below.refl _ w).alloc (Nat.le_refl _) (.cells #[.int .i64 (off : Int), .int .i64 (tick : Int), .string key, .string val, .bool true, .int .i64 (prod : Int), .int .i64 (seq : Int), .int .i64 (from_ : Int)] 54))
    refine wp_loop_rounds 7 ?_
    rw [rounds_succ]
    go_wp2_with fail
    refine (chain_any off _ (by have := H1.out; omega)).mono ?_
    rintro e w1 ⟨rfl, b⟩
    have hH := blk_below HH.out b
    have B1 := Lib.hid (below_two B0.out b); clear b HH
    have HH := Lib.hid hH; clear hH
    rw [← HC1.out]
    go_wp2_with fail
    rw [rounds_succ]
    go_wp2_with fail
    refine (chain_any tick _ (by have := H2.out; omega)).mono ?_
    rintro e w2 ⟨rfl, b⟩
    have hH := blk_below HH.out b
    have B2 := Lib.hid (below_two B1.out b); clear b HH
    have HH := Lib.hid hH; clear hH
    rw [← HC2.out]
    go_wp2_with fail
    rw [rounds_succ]
    go_wp2_with fail
    refine (chain_any prod _ (by have := H3.out; omega)).mono ?_
    rintro e w3 ⟨rfl, b⟩
    have hH := blk_below HH.out b
    have B3 := Lib.hid (below_two B2.out b); clear b HH
    have HH := Lib.hid hH; clear hH
    rw [← HC3.out]
    go_wp2_with fail
    rw [rounds_succ]
    go_wp2_with fail
    refine (chain_any seq _ (by have := H4.out; omega)).mono ?_
    rintro e w4 ⟨rfl, b⟩
    have hH := blk_below HH.out b
    have B4 := Lib.hid (below_two B3.out b); clear b HH
    have HH := Lib.hid hH; clear hH
    rw [← HC4.out]
    go_wp2_with fail
    rw [rounds_succ]
    go_wp2_with fail
    refine (chain_any from_ _ (by have := H5.out; omega)).mono ?_
    rintro e w5 ⟨rfl, b⟩
    have hH := blk_below HH.out b
    have B5 := Lib.hid (below_two B4.out b); clear b HH
    have HH := Lib.hid hH; clear hH
    rw [← HC5.out]
    go_wp2_with fail
    rw [rounds_succ]
    go_wp2_with fail
    refine (chain_any 1 _ (by decide)).mono ?_
    rintro e w6 ⟨rfl, b⟩
    have hH := blk_below HH.out b
    have B6 := Lib.hid (below_two B5.out b); clear b HH
    have HH := Lib.hid hH; clear hH
    rw [show sB (chainL 1) = c6 from (HC6.out.trans (by simp)).symm]
    go_wp2_with fail
    rw [rounds_succ]
    go_wp2_with fail
    have tw : TW w.heap.size key val w6 w6 := ⟨by rw [blk_cell HH.out]; rfl, by rw [blk_cell HH.out]; rfl, blk_lt HH.out, Below.refl _ _⟩
    have hk7 : key.size ≤ 140737488351232 := by omega
    have hv7 : val.size ≤ 140737488351232 := by omega
    have HK := Lib.hid hk7
    have HV := Lib.hid hv7
    clear hk7 hv7
    clear HC1 HC2 HC3 HC4 HC5 HC6 B0 B1 B2 B3 B4 B5 HH
    have a7 : ¬ (9223372036854775807 < s6.size + c7.size) := by omega
    have a8 : ¬ (9223372036854775807 < s7.size + c8.size) := by omega
    go_region_held3 (fun w' => TW w.heap.size key val w6 w')
      ((first | assumption | exact TW.keep (by assumption) (by assumption) | exact TW.drew (by assumption)))
      (first
        | (go_at_call 43; refine (text_any _ _ (by first | exact HK.out | exact HV.out)).mono ?_; rintro e w7 ⟨rfl, bel⟩; first | rw [← HC7.out] | rw [← HC8.out]))
    all_goals
      have hfin : Below w6.heap.size w6 _ := (show TW w.heap.size key val w6 _ by assumption).2.2.2
      have HF := Lib.hid hfin; clear hfin
      go_wp2
      go_ret
      exact ⟨by rw [← HS9.out]; rfl, below_two B6.out HF.out⟩
end Go.Proofs.Ytakbgaiedenikaa.Own
/- What chains of bytes tell: plain laws. -/
namespace Go.Proofs.Ytakbgaiedenikaa.Own
theorem p128_9 : 128 ^ 9 = 9223372036854775808 := by decide
theorem p128_le {i j : Nat} (h : i ≤ j) : 128 ^ i ≤ 128 ^ j := Nat.pow_le_pow_right (by decide) h
theorem u8_of {v : Nat} (h : v < 256) : (UInt8.ofNat v).toNat = v := by rw [UInt8.toNat_ofNat']; exact Nat.mod_eq_of_lt h
theorem unch_fwd (r : List UInt8) (v : Nat) : ∀ (i acc : Nat), v * 128 ^ i < 18446744073709551616 → i ≤ 9 → (0 < i → 0 < v) → unch (chainL v ++ r) i acc (10 - i) = (acc + v * 128 ^ i, i + (chainL v).length, 0) := by
  induction v using Nat.strongRecOn with
  | ind v ih =>
    intro i acc hv hi hp
    obtain ⟨f, hf⟩ : ∃ f, 10 - i = f + 1 := ⟨9 - i, by omega⟩
    rw [hf]
    have h9 := p128_9
    by_cases h : v < 128
    · rw [chainL_lt h, List.singleton_append, unch, u8_of (by omega)]
      rw [if_neg, if_pos h]
      · simp
      · rintro (⟨rfl, h1⟩ | ⟨h1, h2⟩)
        · rw [h9] at hv; omega
        · have := hp h2; omega
    · have hi8 : i ≤ 8 := by
        apply Classical.byContradiction
        intro hc
        obtain rfl : i = 9 := by omega
        rw [h9] at hv; omega
      have hb : v % 128 + 128 < 256 := by omega
      rw [chainL_ge (by omega), List.cons_append, unch, u8_of hb, if_neg (by omega), if_neg (by omega), Nat.add_sub_cancel]
      have e1 : f = 10 - (i + 1) := by omega
      have e2 : v / 128 * 128 ^ (i + 1) + v % 128 * 128 ^ i = v * 128 ^ i := by
        rw [Nat.pow_succ, Nat.mul_comm (128 ^ i) 128, ← Nat.mul_assoc, ← Nat.add_mul]
        congr 1
        omega
      rw [e1, ih (v / 128) (by omega) (i + 1) _ (by omega) (by omega) (fun _ => by omega), List.length_cons]
      simp only [Prod.mk.injEq, and_true]
      omega
theorem unch_bwd (f : Nat) : ∀ (s : List UInt8) (i acc w n : Nat), i + f = 10 → unch s i acc f = (w, n, 0) → ∃ v r, s = chainL v ++ r ∧ w = acc + v * 128 ^ i ∧ n = i + (chainL v).length ∧ v * 128 ^ i < 18446744073709551616 ∧ (0 < i → 0 < v) := by
  induction f with
  | zero => intro s i acc w n hi h; simp [unch] at h
  | succ f ih =>
    intro s i acc w n hi h
    cases s with
    | nil => simp [unch] at h
    | cons b r =>
      have h9 := p128_9
      have hbl := b.toNat_lt
      rw [unch] at h
      by_cases c1 : (i = 9 ∧ 1 < b.toNat) ∨ (b.toNat = 0 ∧ 0 < i)
      · rw [if_pos c1] at h; simp at h
      · rw [if_neg c1] at h
        by_cases c2 : b.toNat < 128
        · rw [if_pos c2] at h
          simp only [Prod.mk.injEq, and_true] at h
          refine ⟨b.toNat, r, ?_, h.1.symm, ?_, ?_, fun h0 => by omega⟩
          · rw [chainL_lt c2]; simp
          · rw [chainL_lt c2]; simp; omega
          · by_cases e : i = 9
            · subst e; rw [h9]; omega
            · have h8 : 128 ^ i ≤ 128 ^ 8 := p128_le (by omega)
              have e8 : 128 ^ 8 = 72057594037927936 := by decide
              have := Nat.mul_le_mul (show b.toNat ≤ 127 by omega) h8
              omega
        · rw [if_neg c2] at h
          obtain ⟨v, t, rfl, rfl, rfl, hv, hp⟩ := ih r (i + 1) _ w n (by omega) h
          have hv0 := hp (by omega)
          have i8 : i + 1 ≤ 9 := by
            apply Classical.byContradiction
            intro hc
            obtain rfl : i = 9 := by omega
            obtain rfl : f = 0 := by omega
            simp [unch] at h
          refine ⟨128 * v + (b.toNat - 128), t, ?_, ?_, ?_, ?_, fun _ => by omega⟩
          · rw [chainL_ge (v := 128 * v + (b.toNat - 128)) (by omega), show (128 * v + (b.toNat - 128)) / 128 = v by omega, show (128 * v + (b.toNat - 128)) % 128 + 128 = b.toNat by omega]
            simp
          · rw [Nat.pow_succ, Nat.mul_comm (128 ^ i) 128, ← Nat.mul_assoc, Nat.mul_comm v 128, Nat.add_mul]; omega
          · rw [chainL_ge (v := 128 * v + (b.toNat - 128)) (by omega), show (128 * v + (b.toNat - 128)) / 128 = v by omega, List.length_cons]; omega
          · obtain ⟨d, hd⟩ : ∃ d, i + 1 + d = 9 := ⟨9 - (i + 1), by omega⟩
            have e : 18446744073709551616 = (2 * 128 ^ d) * 128 ^ (i + 1) := by
              rw [Nat.mul_assoc, ← Nat.pow_add, show d + (i + 1) = 9 by omega, h9]
            rw [e] at hv ⊢
            have hq : v < 2 * 128 ^ d := Nat.lt_of_mul_lt_mul_right hv
            have hq2 : v + 1 ≤ 2 * 128 ^ d := hq
            refine Nat.lt_of_lt_of_le ?_ (Nat.mul_le_mul_right _ hq2)
            rw [Nat.pow_succ, Nat.mul_comm (128 ^ i) 128, ← Nat.mul_assoc]
            exact Nat.mul_lt_mul_of_pos_right (by omega) (Nat.pow_pos (by decide))
/-- The number of a chain with which bytes begin, and how many bytes it has. -/
theorem unchain_fwd (v : Nat) (r : List UInt8) (h : v < 18446744073709551616) : unchain (chainL v ++ r) = (v, (chainL v).length, 0) := by
  have := unch_fwd r v 0 0 (by simpa using h) (by omega) (fun h => absurd h (by omega))
  simpa [unchain] using this
theorem unchain_bwd {s : List UInt8} {v n : Nat} (h : unchain s = (v, n, 0)) : ∃ r, s = chainL v ++ r ∧ n = (chainL v).length ∧ v < 18446744073709551616 := by
  obtain ⟨v', r, h1, h2, h3, h4, _⟩ := unch_bwd 10 s 0 0 v n (by omega) h
  simp at h2 h3 h4
  subst h2
  exact ⟨r, h1, h3, h4⟩
end Go.Proofs.Ytakbgaiedenikaa.Own
