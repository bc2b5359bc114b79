/- The disk: what there is, a new one, what lies there, what is read. -/
import Derived.Test.YtekcidfipdjfdaaDA
import Derived.Great.Walk
namespace Go.Proofs.Ytekcidfipdjfdaa.Own
open Go.RowKit Go.Proofs.YtekcidfipdjfdaaW.PrintWords Go.Proofs.Ytekcidfipdjfdaa.PB
set_option maxRecDepth 100000
set_option linter.unusedSimpArgs false
set_option linter.unusedVariables false
def Z65 : Array Value := (Value.int .i64 0 :: List.replicate 64 (Value.int .u8 0)).toArray
def Z63 : Array Value := (List.replicate 64 (Value.int .u8 0)).toArray
theorem Z65_size : Z65.size = 65 := by simp [Z65]
theorem Z63_size : Z63.size = 64 := by simp [Z63]
theorem alloc65_run (w : World) : (Instr.alloc 62 true (.tuple #[])).run Try.prog w = .ok (.pointer (some ⟨w.heap.size, 0, none⟩)) (w.alloc (.cells Z65 62)) := by kernel_rfl
theorem alloc63_run (w : World) : (Instr.alloc 60 true (.tuple #[])).run Try.prog w = .ok (.pointer (some ⟨w.heap.size, 0, none⟩)) (w.alloc (.cells Z63 60)) := by kernel_rfl
theorem setRow_alloc (w : World) (c c' : Array Value) (t : TypeId) : (w.alloc (.cells c t)).setRow w.heap.size c' = w.alloc (.cells c' t) := by
  unfold World.setRow
  simp [World.alloc, -World.alloc_eq]
  apply Array.ext
  · simp
  · intro i h1 h2
    simp only [Array.getElem_modify, Array.getElem_push]
    simp at h1
    by_cases e : w.heap.size = i
    · subst e; simp
    · rw [if_neg e]
      rw [dif_pos (by omega), dif_pos (by omega)]
theorem toArray_one {cs : List Value} (h : ∀ u ∈ cs, u.oneCell' = true) : cs.toArray.all (·.oneCell') = true := all_oneCell_toArray h
section
variable {ops : Array Oper} {rest : List Oper} {a : Act} {w : World} {Q : Exit → Act → World → Prop}
/-- A variable of type 65 (a write) is made and filled. -/
theorem wpList_box65 {oa os : Oper} (hga : oa.guard = none) (hgs : os.guard = none) (hoa : oa.op = .alloc 62) (p : Nat) (y : Operand) (hda : oa.dst = some p) (hos : os.op = .store 62 (.tmp p) y) (hds : os.dst = none) (x : S79)
    (hy : (a.put (some p) (.pointer (some ⟨w.heap.size, 0, none⟩))).eval y = .agg (wc x).toArray) (hp : (a.put (some p) (.pointer (some ⟨w.heap.size, 0, none⟩))).eval (.tmp p) = .pointer (some ⟨w.heap.size, 0, none⟩)) (h6 : x.f1.size = 64)
    (h : wpList Try.prog ops Q rest (a.put (some p) (.pointer (some ⟨w.heap.size, 0, none⟩))) (w.alloc (.cells (wc x).toArray 62))) : wpList Try.prog ops Q (oa :: os :: rest) a w := by
  refine Great.wpList_runTo hga (some p) hda (.pointer (some ⟨w.heap.size, 0, none⟩)) (w.alloc (.cells Z65 62)) ?_ ?_
  · unfold execOp
    simp only [hoa, Sem.run_bind, alloc65_run, Result.andThen_ok]
    rfl
  refine wpList_store_row hgs 62 (.tmp p) y hos w.heap.size (wc x).toArray hp hy 62 Z65 (heap_new _ _) (by rw [size65]; simp [wc_length h6]) (by rw [Z65_size]; simp [wc_length h6]) (toArray_one (wc_one x)) ?_
  rw [hds, setRow_alloc]
  exact h
theorem wpList_box63 {oa os : Oper} (hga : oa.guard = none) (hgs : os.guard = none) (hoa : oa.op = .alloc 60) (p : Nat) (y : Operand) (hda : oa.dst = some p) (hos : os.op = .store 60 (.tmp p) y) (hds : os.dst = none) (s : ByteArray)
    (hy : (a.put (some p) (.pointer (some ⟨w.heap.size, 0, none⟩))).eval y = .agg (sc s).toArray) (hp : (a.put (some p) (.pointer (some ⟨w.heap.size, 0, none⟩))).eval (.tmp p) = .pointer (some ⟨w.heap.size, 0, none⟩)) (h6 : s.size = 64)
    (h : wpList Try.prog ops Q rest (a.put (some p) (.pointer (some ⟨w.heap.size, 0, none⟩))) (w.alloc (.cells (sc s).toArray 60))) : wpList Try.prog ops Q (oa :: os :: rest) a w := by
  refine Great.wpList_runTo hga (some p) hda (.pointer (some ⟨w.heap.size, 0, none⟩)) (w.alloc (.cells Z63 60)) ?_ ?_
  · unfold execOp
    simp only [hoa, Sem.run_bind, alloc63_run, Result.andThen_ok]
    rfl
  refine wpList_store_row hgs 60 (.tmp p) y hos w.heap.size (sc s).toArray hp hy 60 Z63 (heap_new _ _) (by rw [size63]; simp [sc_length, h6]) (by rw [Z63_size]; simp [sc_length, h6]) (toArray_one (Lib.strCells_oneCell s)) ?_
  rw [hds, setRow_alloc]
  exact h
theorem wpList_load65 {o : Oper} (hg : o.guard = none) (x : Operand) (ho : o.op = .load 62 x) (b off : Nat) (y : S79) (hx : a.eval x = .pointer (some ⟨b, off, none⟩)) (hr : w.rangeAt b off (wc y)) (h6 : y.f1.size = 64)
    (h : wpList Try.prog ops Q rest (a.put o.dst (.agg (wc y).toArray)) w) : wpList Try.prog ops Q (o :: rest) a w :=
  wpList_load_mid hg 62 x ho b off hx (wc y) _ hr Try.underlying62 rfl (by rw [size65, wc_length h6]) h
theorem wpList_load63 {o : Oper} (hg : o.guard = none) (x : Operand) (ho : o.op = .load 60 x) (b off : Nat) (s : ByteArray) (hx : a.eval x = .pointer (some ⟨b, off, none⟩)) (hr : w.rangeAt b off (sc s)) (h6 : s.size = 64)
    (h : wpList Try.prog ops Q rest (a.put o.dst (.agg (sc s).toArray)) w) : wpList Try.prog ops Q (o :: rest) a w :=
  wpList_load_mid hg 60 x ho b off hx (sc s) _ hr Try.underlying60 rfl (by rw [size63, sc_length, h6]) h
end
/-- 64 bytes 0. -/
def zeroB : ByteArray := ⟨(List.replicate 64 0).toArray⟩
theorem zeroB_size : zeroB.size = 64 := by simp [zeroB, ByteArray.size]
theorem sc_zero : sc zeroB = List.replicate 64 (Value.int .u8 0) := by simp [sc, Lib.strCells, zeroB]
theorem info63 : (Try.prog.info? 60).map (fun i => (i.zero, i.size, i.bytes)) = some (some (.agg Z63), 64, 64) := by kernel_rfl
theorem flat_zero (n : Nat) : flatL (List.replicate n zeroB) = List.replicate (n * 64) (Value.int .u8 0) := by
  induction n with
  | zero => rfl
  | succ n ih =>
    rw [List.replicate_succ]
    unfold flatL at ih ⊢
    rw [List.flatMap_cons, ih, sc_zero, List.replicate_append_replicate]
    congr 1
    omega
theorem made_rep (m n : Nat) (v : Value) (hm : 0 < m) : madeCells (List.replicate m v).toArray n = (List.replicate n v).toArray := by
  apply Array.ext
  · simp [madeCells]
  · intro i h1 h2
    have h3 : i % m < m := Nat.mod_lt _ hm
    simp [madeCells, h3]
theorem made_flat (n : Nat) : madeCells (Value.agg Z63).cells (n * 64) = (flatL (List.replicate n zeroB)).toArray := by
  rw [flat_zero]
  exact made_rep 64 _ _ (by omega)
theorem size_any {B g o : Nat} {v : Value} {L : List ByteArray} {W : List S79} {w : World} (h : DS B g o v L W w) : Calls Try.prog 22 #[.pointer (some ⟨g, 0, none⟩)] w fun e w' => e = .returned (.int .i64 (L.length : Int)) ∧ w = w' := by
  have c0 := blk_cell h.blk 0
  simp at c0
  clear h
  go_enter Try.func22, Try.ntmps22
  go_wp2
  go_ret
  exact ⟨rfl, rfl⟩
def isB (n : Nat) (i : Int) : Bool := decide (0 ≤ i ∧ i < n)
theorem is_any {B g o : Nat} {v : Value} {L : List ByteArray} {W : List S79} {w : World} (h : DS B g o v L W w) (i : Int) : Calls Try.prog 32 #[.pointer (some ⟨g, 0, none⟩), .int .i64 i] w fun e w' => e = .returned (.bool (isB L.length i)) ∧ w = w' := by
  by_cases h0 : 0 ≤ i
  · by_cases h1 : i < L.length
    · rw [show isB L.length i = true by simp [isB, h0, h1]]
      go_enter Try.func32, Try.ntmps32
      go_wp2_with (go_at_call 22; refine (size_any h).mono ?_; rintro e w7 ⟨rfl, rfl⟩)
      go_ret
      exact ⟨by simp [h1], rfl⟩
    · have h2 : decide (i < L.length) = false := by simp; omega
      rw [show isB L.length i = false by simp [isB]; omega]
      go_enter Try.func32, Try.ntmps32
      go_wp2_with (go_at_call 22; refine (size_any h).mono ?_; rintro e w7 ⟨rfl, rfl⟩)
      go_ret
      exact ⟨rfl, rfl⟩
  · rw [show isB L.length i = false by simp [isB]; omega]
    go_enter Try.func32, Try.ntmps32
    go_wp2
    go_ret
    exact ⟨rfl, rfl⟩
def spanB (n : Nat) (i j : Int) : Bool := decide (0 ≤ i ∧ 0 ≤ j ∧ i ≤ n ∧ j ≤ n - i)
theorem span_any {B g o : Nat} {v : Value} {L : List ByteArray} {W : List S79} {w : World} (h : DS B g o v L W w) (i j : Int) : Calls Try.prog 33 #[.pointer (some ⟨g, 0, none⟩), .int .i64 i, .int .i64 j] w fun e w' => e = .returned (.bool (spanB L.length i j)) ∧ w = w' := by
  have hf := h.few
  by_cases h0 : 0 ≤ i
  · by_cases h1 : 0 ≤ j
    · by_cases h2 : i ≤ L.length
      · have hw : IntKind.i64.wrap ((L.length : Int) - i) = (L.length : Int) - i := IntWalk.i64_in _ (by omega)
        have e : spanB L.length i j = decide (j ≤ (L.length : Int) - i) := by
          unfold spanB; rw [decide_eq_decide]
          exact ⟨fun hh => hh.2.2.2, fun hh => ⟨h0, h1, h2, hh⟩⟩
        rw [e]
        clear e
        have hf' : (L.length : Int) ≤ 8192 := by omega
        go_enter Try.func33, Try.ntmps33
        go_wp2_with (go_at_call 22; refine (size_any h).mono ?_; rintro e w7 ⟨rfl, rfl⟩)
        all_goals
          go_ret
          exact ⟨rfl, rfl⟩
      · have h3 : decide (i ≤ (L.length : Int)) = false := by simp; omega
        rw [show spanB L.length i j = false by simp [spanB]; omega]
        go_enter Try.func33, Try.ntmps33
        go_wp2_with (go_at_call 22; refine (size_any h).mono ?_; rintro e w7 ⟨rfl, rfl⟩)
        go_ret
        exact ⟨rfl, rfl⟩
    · have h3 : decide (0 ≤ j) = false := by simp; omega
      rw [show spanB L.length i j = false by simp [spanB]; omega]
      go_enter Try.func33, Try.ntmps33
      go_wp2
      go_ret
      exact ⟨rfl, rfl⟩
  · rw [show spanB L.length i j = false by simp [spanB]; omega]
    go_enter Try.func33, Try.ntmps33
    go_wp2
    go_ret
    exact ⟨rfl, rfl⟩
theorem new_bad (n : Int) (w : World) (h : n < 1 ∨ 8192 < n) : Calls Try.prog 7 #[.int .i64 n] w fun e w' => e = .returned (.tuple #[.pointer none, .int .i64 1]) ∧ w = w' := by
  rcases h with h | h
  · go_enter Try.func7, Try.ntmps7
    go_wp2
    go_ret2
    exact ⟨rfl, rfl⟩
  · have h2 : ¬ n < 1 := by omega
    go_enter Try.func7, Try.ntmps7
    go_wp2
    go_ret2
    exact ⟨rfl, rfl⟩
theorem new_ok (n : Nat) (w : World) (h1 : 1 ≤ n) (h2 : n ≤ 8192) :
    Calls Try.prog 7 #[.int .i64 (n : Int)] w fun e w' => e = .returned (.tuple #[.pointer (some ⟨w.heap.size + 1, 0, none⟩), .int .i64 0]) ∧ DS w.heap.size (w.heap.size + 1) w.heap.size (.slice none 0 0) (List.replicate n zeroB) [] w' ∧ Below w.heap.size w w' := by
  obtain ⟨i0, hi, hz0, hz1, hz2⟩ := info_parts info63
  have h1' : (1 : Int) ≤ n := by omega
  have h2' : (n : Int) ≤ 8192 := by omega
  have km := run_makeSlice (P := Try.prog) (w := w) 47 60 i0 (.agg Z63) Try.underlying47 hi hz0 .i64 .i64 n n (by omega) (by omega) (by rw [hz1]; simp; omega) (by rw [hz2]; omega) (by omega)
  rw [hz1, Int.toNat_natCast, made_flat] at km
  have hB : ∃ F, F = flatL (List.replicate n zeroB) := ⟨_, rfl⟩
  obtain ⟨F, hB⟩ := hB
  rw [← hB] at km
  have HB := Lib.hid hB; clear hB
  clear hi hz0 hz1 hz2
  go_enter Try.func7, Try.ntmps7
  go_wp2
  go_ret2
  refine ⟨rfl, ⟨?_, ?_, Kd.R_nil _ _ _ _ _, by omega, Nat.le_refl _, by omega, ?_, by simp, by simp; omega⟩, ?_⟩
  · have := heap_new (w.alloc (.cells F.toArray 60)) (.cells #[.slice (some ⟨w.heap.size, 0, none⟩) n n, .slice none 0 0] 50)
    simpa using this
  · rw [heap_old _ _ (by simp), heap_new, HB.out]
  · intro s hs
    rw [List.eq_of_mem_replicate hs, zeroB_size]
  · exact ((Below.refl _ _).alloc (Nat.le_refl _) _).alloc (by simp) _
end Go.Proofs.Ytekcidfipdjfdaa.Own
