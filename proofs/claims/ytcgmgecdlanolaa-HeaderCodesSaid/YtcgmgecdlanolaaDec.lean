/- The walks of header.Decode and what is beside it. -/
import Derived.Test.YtcgmgecdlanolaaWalk
namespace Go.Proofs.Ytcgmgecdlanolaa.Own
open Go.RowKit
set_option maxRecDepth 100000
set_option linter.unusedSimpArgs false
set_option linter.unusedVariables false
theorem encode_bad (l g s b : Int) (w : World) (h : l < 1 ∨ 65535 < l ∨ b < 0 ∨ 1099511627776 < b) :
    Calls Try.prog 11 #[.agg #[.int .i64 l, .int .u32 g, .int .u32 s, .int .i64 b]] w fun e w' => e = .returned (.tuple #[.string ByteArray.empty, .int .i64 1]) ∧ Below w.heap.size w w' := by
  by_cases h1 : l < 1
  · clear h
    go_enter Try.func11, Try.ntmps11
    go_wp2
    go_ret2
    exact ⟨rfl, by go_grown⟩
  · by_cases h2 : 65535 < l
    · clear h
      go_enter Try.func11, Try.ntmps11
      go_wp2
      go_ret2
      exact ⟨rfl, by go_grown⟩
    · by_cases h3 : b < 0
      · clear h
        go_enter Try.func11, Try.ntmps11
        go_wp2
        go_ret2
        exact ⟨rfl, by go_grown⟩
      · have h4 : 1099511627776 < b := by omega
        clear h
        go_enter Try.func11, Try.ntmps11
        go_wp2
        go_ret2
        exact ⟨rfl, by go_grown⟩
theorem decode_short (s : ByteArray) (w : World) (h : s.size < 32) :
    Calls Try.prog 8 #[.string s] w fun e w' => e = .returned (.tuple #[.agg #[.int .i64 0, .int .u32 0, .int .u32 0, .int .i64 0], .int .i64 3]) ∧ Below w.heap.size w w' := by
  go_enter Try.func8, Try.ntmps8
  go_wp2
  refine bodyPost_ret (v := .tuple #[.agg #[.int .i64 0, .int .u32 0, .int .u32 0, .int .i64 0], .int .i64 3]) (by simp [results, Try.results8, go_sem]) rfl ⟨rfl, ?_⟩
  go_grown
/-- The bytes of a string from a place up to another one. -/
theorem ext_list (s : ByteArray) (a b : Nat) : (s.extract a b).data.toList = (s.data.toList.drop a).take (b - a) := by
  rw [ByteArray.data_extract, Array.toList_extract, List.extract_eq_take_drop]
theorem ext_size {s : ByteArray} {a b : Nat} (h : b ≤ s.size) : (s.extract a b).size = b - a := by
  rw [ByteArray.size_extract]
  omega
theorem read_part (s : ByteArray) (a b : Nat) (w : World) (h : b ≤ s.size) (h1 : a < b) (h2 : b ≤ a + 8) :
    Calls Try.prog 18 #[.string (s.extract a b)] w fun e w' => e = .returned (.tuple #[.int .u64 (readL ((s.data.toList.drop a).take (b - a)) : Nat), .int .i64 0]) ∧ w' = w := by
  have := read_any (s.extract a b) w (by rw [ext_size h]; omega) (by rw [ext_size h]; omega)
  rwa [ext_list] at this
def pt (s : ByteArray) (a b : Nat) : Nat := readL ((s.data.toList.drop a).take (b - a))
theorem pt_lt (s : ByteArray) (a b : Nat) : pt s a b < 256 ^ (b - a) := by
  have h := readL_lt ((s.data.toList.drop a).take (b - a))
  refine Nat.lt_of_lt_of_le h (Nat.pow_le_pow_right (by decide) ?_)
  rw [List.length_take]; omega
theorem fields_zero (w : World) :
    Calls Try.prog 17 #[.agg #[.int .i64 0, .int .u32 0, .int .u32 0, .int .i64 0]] w fun e w' => e = .returned (.agg #[.int .u64 0, .int .i64 2, .int .u64 0, .int .i64 4, .int .u64 0, .int .i64 4, .int .u64 0, .int .i64 8]) ∧ Below w.heap.size w w' := fields_any 0 0 0 0 w (by decide) (by decide) (by decide) (by decide)
theorem str_eq_false {l : List UInt8} {s : ByteArray} {n : Nat} (h : l ≠ s.data.toList.take n) : ((sB l).toList == (s.extract 0 n).toList) = false := by
  rw [beq_eq_false_iff_ne, Go.ByteArray.toList_eq, Go.ByteArray.toList_eq, ext_list, sB_list]
  simpa using h
theorem str_eq_true {l : List UInt8} {s : ByteArray} {n : Nat} (h : l = s.data.toList.take n) : ((sB l).toList == (s.extract 0 n).toList) = true := by
  rw [beq_iff_eq, Go.ByteArray.toList_eq, Go.ByteArray.toList_eq, ext_list, sB_list]
  simpa using h
theorem heap_sa (w : World) (a : Addr) (v : Value) (o : Obj) {k : Nat} (hk : k < w.heap.size) : ((w.setCell a v).alloc o).heap[k]? = (w.setCell a v).heap[k]? := heap_old _ _ (by simpa [World.setCell] using hk)
theorem below_sa {W w : World} (h : Below W.heap.size W w) {a : Addr} (ha : W.heap.size ≤ a.block) (v : Value) (o : Obj) : Below W.heap.size W ((w.setCell a v).alloc o) := (h.setCell ha v).alloc (h.setCell ha v).size o
theorem abs_rounds {P : Program} {c : Code} {n : Nat} {Q : Exit → Act → World → Prop} {a : Act} {w : World} (F : World → Prop) (hw : F w) (h : ∀ w', F w' → Code.rounds P c Q n a w') : Code.rounds P c Q n a w := h w hw
set_option maxHeartbeats 2000000 in
theorem decode_base (s : ByteArray) (w : World) (h : 32 ≤ s.size) (hb : 1099511627776 < pt s 12 20) (hm : s.size ≤ maxLen) :
    Calls Try.prog 8 #[.string s] w fun e w' => e = .returned (.tuple #[.agg #[.int .i64 0, .int .u32 0, .int .u32 0, .int .i64 0], .int .i64 4]) ∧ Below w.heap.size w w' := by
  obtain ⟨p1, hp1⟩ : ∃ x, pt s 2 4 = x := ⟨_, rfl⟩
  obtain ⟨p2, hp2⟩ : ∃ x, pt s 4 8 = x := ⟨_, rfl⟩
  obtain ⟨p3, hp3⟩ : ∃ x, pt s 8 12 = x := ⟨_, rfl⟩
  obtain ⟨p4, hp4⟩ : ∃ x, pt s 12 20 = x := ⟨_, rfl⟩
  have u1 := pt_lt s 2 4
  have u2 := pt_lt s 4 8
  have u3 := pt_lt s 8 12
  rw [hp1] at u1
  rw [hp2] at u2
  rw [hp3] at u3
  rw [hp4] at hb
  simp at u1 u2 u3
  have HP1 := Lib.hid hp1; clear hp1
  have HP2 := Lib.hid hp2; clear hp2
  have HP3 := Lib.hid hp3; clear hp3
  have HP4 := Lib.hid hp4; clear hp4
  have U1 := Lib.hid u1; clear u1
  have U2 := Lib.hid u2; clear u2
  have U3 := Lib.hid u3; clear u3
  unfold maxLen at hm
  have h' : (32 : Int) ≤ s.size := by omega
  have H := Lib.hid h; clear h
  go_enter Try.func8, Try.ntmps8
  go_wp2_with fail
  refine (fields_zero _).mono ?_
  rintro e w1 ⟨rfl, b1⟩
  have hA : w1.heap[w.heap.size]? = some (.cells #[.int .i64 0, .int .u32 0, .int .u32 0, .int .i64 0] 24 (0, 0)) := blk_below (blk_below (heap_new w _) ((Below.refl _ _).alloc (Nat.le_refl _) _)) b1
  have hB : w1.heap[w.heap.size + 1]? = some (.cells #[.int .u64 0, .int .u64 0, .int .u64 0, .int .u64 0] 47 (0, 0)) := by
    have := heap_new (w.alloc (Obj.cells #[.int .i64 0, .int .u32 0, .int .u32 0, .int .i64 0] 24)) (Obj.cells #[.int .u64 0, .int .u64 0, .int .u64 0, .int .u64 0] 47)
    rw [show (w.alloc (Obj.cells #[.int .i64 0, .int .u32 0, .int .u32 0, .int .i64 0] 24)).heap.size = w.heap.size + 1 by simp] at this
    exact blk_below this b1
  have B1 := Lib.hid (below_two (((Below.refl _ w).alloc (Nat.le_refl _) _).alloc (by simp) _) b1)
  clear b1
  have cA0 := blk_cell hA 0
  have fA0 := blk_free hA 0
  have cB0 := blk_cell hB 0
  have fB0 := blk_free hB 0
  have cA1 := blk_cell hA 1
  have fA1 := blk_free hA 1
  have cB1 := blk_cell hB 1
  have fB1 := blk_free hB 1
  have cA2 := blk_cell hA 2
  have fA2 := blk_free hA 2
  have cB2 := blk_cell hB 2
  have fB2 := blk_free hB 2
  have cA3 := blk_cell hA 3
  have fA3 := blk_free hA 3
  have cB3 := blk_cell hB 3
  have fB3 := blk_free hB 3
  simp at cA0 cA1 cA2 cA3 cB0 cB1 cB2 cB3
  have hz := blk_lt hB
  have na0 : ¬ w.heap.size = w1.heap.size := by omega
  have nb0 : ¬ w1.heap.size = w.heap.size := by omega
  have na1 : ¬ w.heap.size + 1 = w1.heap.size := by omega
  have nb1 : ¬ w1.heap.size = w.heap.size + 1 := by omega
  have HA := Lib.hid hA; clear hA
  have HB := Lib.hid hB; clear hB
  go_wp2_with fail
  have i0 := idx0 0 0 0 0
  have i1 := idx1 0 0 0 0
  have i2 := idx2 0 0 0 0
  have i3 := idx3 0 0 0 0
  refine wp_loop_rounds 5 ?_
  rw [rounds_succ]
  go_wp2_with fail
  refine (read_part s 2 4 _ (by have := H.out; omega) (by decide) (by decide)).mono ?_
  rintro e w2 ⟨rfl, rfl⟩
  rw [show ((readL ((s.data.toList.drop 2).take (4 - 2)) : Nat) : Int) = (p1 : Int) from by rw [← HP1.out]; rfl]
  go_wp2_with fail
  refine abs_rounds (fun V => V.heap[w.heap.size]? = some (.cells #[.int .i64 0, .int .u32 0, .int .u32 0, .int .i64 0] 24 (0, 0)) ∧ V.heap[w.heap.size + 1]? = some (.cells #[.int .u64 (p1 : Int), .int .u64 0, .int .u64 0, .int .u64 0] 47 (0, 0)) ∧ Below w.heap.size w V)
    ⟨(heap_sa _ _ _ _ (blk_lt HA.out)).trans ((heap_far _ _ _ (by simp)).trans HA.out), (heap_sa _ _ _ _ (blk_lt HB.out)).trans (heap_set HB.out _), below_sa B1.out (by simp) _ _⟩ ?_
  clear cA0 cA1 cA2 cA3 cB0 cB1 cB2 cB3 fA0 fA1 fA2 fA3 fB0 fB1 fB2 fB3 hz na0 na1 nb0 nb1
  rintro v1 ⟨hA, hB, b⟩
  have B2 := Lib.hid b; clear b
  have cA0 := blk_cell hA 0
  have fA0 := blk_free hA 0
  have cB0 := blk_cell hB 0
  have fB0 := blk_free hB 0
  have cA1 := blk_cell hA 1
  have fA1 := blk_free hA 1
  have cB1 := blk_cell hB 1
  have fB1 := blk_free hB 1
  have cA2 := blk_cell hA 2
  have fA2 := blk_free hA 2
  have cB2 := blk_cell hB 2
  have fB2 := blk_free hB 2
  have cA3 := blk_cell hA 3
  have fA3 := blk_free hA 3
  have cB3 := blk_cell hB 3
  have fB3 := blk_free hB 3
  simp at cA0 cA1 cA2 cA3 cB0 cB1 cB2 cB3
  have hz := blk_lt hB
  have na0 : ¬ w.heap.size = v1.heap.size := by omega
  have nb0 : ¬ v1.heap.size = w.heap.size := by omega
  have na1 : ¬ w.heap.size + 1 = v1.heap.size := by omega
  have nb1 : ¬ v1.heap.size = w.heap.size + 1 := by omega
  have HA := Lib.hid hA; clear hA
  have HB := Lib.hid hB; clear hB
  rw [rounds_succ]
  go_wp2_with fail
  refine (read_part s 4 8 _ (by have := H.out; omega) (by decide) (by decide)).mono ?_
  rintro e w2 ⟨rfl, rfl⟩
  rw [show ((readL ((s.data.toList.drop 4).take (8 - 4)) : Nat) : Int) = (p2 : Int) from by rw [← HP2.out]; rfl]
  go_wp2_with fail
  refine abs_rounds (fun V => V.heap[w.heap.size]? = some (.cells #[.int .i64 0, .int .u32 0, .int .u32 0, .int .i64 0] 24 (0, 0)) ∧ V.heap[w.heap.size + 1]? = some (.cells #[.int .u64 (p1 : Int), .int .u64 (p2 : Int), .int .u64 0, .int .u64 0] 47 (0, 0)) ∧ Below w.heap.size w V)
    ⟨(heap_sa _ _ _ _ (blk_lt HA.out)).trans ((heap_far _ _ _ (by simp)).trans HA.out), (heap_sa _ _ _ _ (blk_lt HB.out)).trans (heap_set HB.out _), below_sa B2.out (by simp) _ _⟩ ?_
  clear cA0 cA1 cA2 cA3 cB0 cB1 cB2 cB3 fA0 fA1 fA2 fA3 fB0 fB1 fB2 fB3 hz na0 na1 nb0 nb1
  rintro v2 ⟨hA, hB, b⟩
  have B3 := Lib.hid b; clear b
  have cA0 := blk_cell hA 0
  have fA0 := blk_free hA 0
  have cB0 := blk_cell hB 0
  have fB0 := blk_free hB 0
  have cA1 := blk_cell hA 1
  have fA1 := blk_free hA 1
  have cB1 := blk_cell hB 1
  have fB1 := blk_free hB 1
  have cA2 := blk_cell hA 2
  have fA2 := blk_free hA 2
  have cB2 := blk_cell hB 2
  have fB2 := blk_free hB 2
  have cA3 := blk_cell hA 3
  have fA3 := blk_free hA 3
  have cB3 := blk_cell hB 3
  have fB3 := blk_free hB 3
  simp at cA0 cA1 cA2 cA3 cB0 cB1 cB2 cB3
  have hz := blk_lt hB
  have na0 : ¬ w.heap.size = v2.heap.size := by omega
  have nb0 : ¬ v2.heap.size = w.heap.size := by omega
  have na1 : ¬ w.heap.size + 1 = v2.heap.size := by omega
  have nb1 : ¬ v2.heap.size = w.heap.size + 1 := by omega
  have HA := Lib.hid hA; clear hA
  have HB := Lib.hid hB; clear hB
  rw [rounds_succ]
  go_wp2_with fail
  refine (read_part s 8 12 _ (by have := H.out; omega) (by decide) (by decide)).mono ?_
  rintro e w2 ⟨rfl, rfl⟩
  rw [show ((readL ((s.data.toList.drop 8).take (12 - 8)) : Nat) : Int) = (p3 : Int) from by rw [← HP3.out]; rfl]
  go_wp2_with fail
  refine abs_rounds (fun V => V.heap[w.heap.size]? = some (.cells #[.int .i64 0, .int .u32 0, .int .u32 0, .int .i64 0] 24 (0, 0)) ∧ V.heap[w.heap.size + 1]? = some (.cells #[.int .u64 (p1 : Int), .int .u64 (p2 : Int), .int .u64 (p3 : Int), .int .u64 0] 47 (0, 0)) ∧ Below w.heap.size w V)
    ⟨(heap_sa _ _ _ _ (blk_lt HA.out)).trans ((heap_far _ _ _ (by simp)).trans HA.out), (heap_sa _ _ _ _ (blk_lt HB.out)).trans (heap_set HB.out _), below_sa B3.out (by simp) _ _⟩ ?_
  clear cA0 cA1 cA2 cA3 cB0 cB1 cB2 cB3 fA0 fA1 fA2 fA3 fB0 fB1 fB2 fB3 hz na0 na1 nb0 nb1
  rintro v3 ⟨hA, hB, b⟩
  have B4 := Lib.hid b; clear b
  have cA0 := blk_cell hA 0
  have fA0 := blk_free hA 0
  have cB0 := blk_cell hB 0
  have fB0 := blk_free hB 0
  have cA1 := blk_cell hA 1
  have fA1 := blk_free hA 1
  have cB1 := blk_cell hB 1
  have fB1 := blk_free hB 1
  have cA2 := blk_cell hA 2
  have fA2 := blk_free hA 2
  have cB2 := blk_cell hB 2
  have fB2 := blk_free hB 2
  have cA3 := blk_cell hA 3
  have fA3 := blk_free hA 3
  have cB3 := blk_cell hB 3
  have fB3 := blk_free hB 3
  simp at cA0 cA1 cA2 cA3 cB0 cB1 cB2 cB3
  have hz := blk_lt hB
  have na0 : ¬ w.heap.size = v3.heap.size := by omega
  have nb0 : ¬ v3.heap.size = w.heap.size := by omega
  have na1 : ¬ w.heap.size + 1 = v3.heap.size := by omega
  have nb1 : ¬ v3.heap.size = w.heap.size + 1 := by omega
  have HA := Lib.hid hA; clear hA
  have HB := Lib.hid hB; clear hB
  rw [rounds_succ]
  go_wp2_with fail
  refine (read_part s 12 20 _ (by have := H.out; omega) (by decide) (by decide)).mono ?_
  rintro e w2 ⟨rfl, rfl⟩
  rw [show ((readL ((s.data.toList.drop 12).take (20 - 12)) : Nat) : Int) = (p4 : Int) from by rw [← HP4.out]; rfl]
  go_wp2_with fail
  refine abs_rounds (fun V => V.heap[w.heap.size]? = some (.cells #[.int .i64 0, .int .u32 0, .int .u32 0, .int .i64 0] 24 (0, 0)) ∧ V.heap[w.heap.size + 1]? = some (.cells #[.int .u64 (p1 : Int), .int .u64 (p2 : Int), .int .u64 (p3 : Int), .int .u64 (p4 : Int)] 47 (0, 0)) ∧ Below w.heap.size w V)
    ⟨(heap_sa _ _ _ _ (blk_lt HA.out)).trans ((heap_far _ _ _ (by simp)).trans HA.out), (heap_sa _ _ _ _ (blk_lt HB.out)).trans (heap_set HB.out _), below_sa B4.out (by simp) _ _⟩ ?_
  clear cA0 cA1 cA2 cA3 cB0 cB1 cB2 cB3 fA0 fA1 fA2 fA3 fB0 fB1 fB2 fB3 hz na0 na1 nb0 nb1
  rintro v4 ⟨hA, hB, b⟩
  have B5 := Lib.hid b; clear b
  have cA0 := blk_cell hA 0
  have fA0 := blk_free hA 0
  have cB0 := blk_cell hB 0
  have fB0 := blk_free hB 0
  have cA1 := blk_cell hA 1
  have fA1 := blk_free hA 1
  have cB1 := blk_cell hB 1
  have fB1 := blk_free hB 1
  have cA2 := blk_cell hA 2
  have fA2 := blk_free hA 2
  have cB2 := blk_cell hB 2
  have fB2 := blk_free hB 2
  have cA3 := blk_cell hA 3
  have fA3 := blk_free hA 3
  have cB3 := blk_cell hB 3
  have fB3 := blk_free hB 3
  simp at cA0 cA1 cA2 cA3 cB0 cB1 cB2 cB3
  have hz := blk_lt hB
  have na0 : ¬ w.heap.size = v4.heap.size := by omega
  have nb0 : ¬ v4.heap.size = w.heap.size := by omega
  have na1 : ¬ w.heap.size + 1 = v4.heap.size := by omega
  have nb1 : ¬ v4.heap.size = w.heap.size + 1 := by omega
  have HA := Lib.hid hA; clear hA
  have HB := Lib.hid hB; clear hB
  rw [rounds_succ]
  have hb' : (1099511627776 : Int) < (p4 : Int) := by omega
  clear hb
  go_wp2
  refine bodyPost_ret (v := .tuple #[.agg #[.int .i64 0, .int .u32 0, .int .u32 0, .int .i64 0], .int .i64 4]) (by simp [results, Try.results8, go_sem, *]) rfl ⟨rfl, ?_⟩
  repeat (refine Below.setCell ?_ (by simp) _)
  exact B5.out
set_option maxHeartbeats 2000000 in
theorem decode_zero (s : ByteArray) (w : World) (h : 32 ≤ s.size) (hb : pt s 12 20 ≤ 1099511627776) (h0 : pt s 2 4 = 0) (hm : s.size ≤ maxLen) :
    Calls Try.prog 8 #[.string s] w fun e w' => e = .returned (.tuple #[.agg #[.int .i64 0, .int .u32 0, .int .u32 0, .int .i64 0], .int .i64 4]) ∧ Below w.heap.size w w' := by
  obtain ⟨p1, hp1⟩ : ∃ x, pt s 2 4 = x := ⟨_, rfl⟩
  obtain ⟨p2, hp2⟩ : ∃ x, pt s 4 8 = x := ⟨_, rfl⟩
  obtain ⟨p3, hp3⟩ : ∃ x, pt s 8 12 = x := ⟨_, rfl⟩
  obtain ⟨p4, hp4⟩ : ∃ x, pt s 12 20 = x := ⟨_, rfl⟩
  have u1 := pt_lt s 2 4
  have u2 := pt_lt s 4 8
  have u3 := pt_lt s 8 12
  rw [hp1] at u1 h0
  rw [hp2] at u2
  rw [hp3] at u3
  rw [hp4] at hb
  simp at u1 u2 u3
  have HP1 := Lib.hid hp1; clear hp1
  have HP2 := Lib.hid hp2; clear hp2
  have HP3 := Lib.hid hp3; clear hp3
  have HP4 := Lib.hid hp4; clear hp4
  have U1 := Lib.hid u1; clear u1
  have U2 := Lib.hid u2; clear u2
  have U3 := Lib.hid u3; clear u3
  unfold maxLen at hm
  have h' : (32 : Int) ≤ s.size := by omega
  have H := Lib.hid h; clear h
  subst h0
  go_enter Try.func8, Try.ntmps8
  go_wp2_with fail
  refine (fields_zero _).mono ?_
  rintro e w1 ⟨rfl, b1⟩
  have hA : w1.heap[w.heap.size]? = some (.cells #[.int .i64 0, .int .u32 0, .int .u32 0, .int .i64 0] 24 (0, 0)) := blk_below (blk_below (heap_new w _) ((Below.refl _ _).alloc (Nat.le_refl _) _)) b1
  have hB : w1.heap[w.heap.size + 1]? = some (.cells #[.int .u64 0, .int .u64 0, .int .u64 0, .int .u64 0] 47 (0, 0)) := by
    have := heap_new (w.alloc (Obj.cells #[.int .i64 0, .int .u32 0, .int .u32 0, .int .i64 0] 24)) (Obj.cells #[.int .u64 0, .int .u64 0, .int .u64 0, .int .u64 0] 47)
    rw [show (w.alloc (Obj.cells #[.int .i64 0, .int .u32 0, .int .u32 0, .int .i64 0] 24)).heap.size = w.heap.size + 1 by simp] at this
    exact blk_below this b1
  have B1 := Lib.hid (below_two (((Below.refl _ w).alloc (Nat.le_refl _) _).alloc (by simp) _) b1)
  clear b1
  have cA0 := blk_cell hA 0
  have fA0 := blk_free hA 0
  have cB0 := blk_cell hB 0
  have fB0 := blk_free hB 0
  have cA1 := blk_cell hA 1
  have fA1 := blk_free hA 1
  have cB1 := blk_cell hB 1
  have fB1 := blk_free hB 1
  have cA2 := blk_cell hA 2
  have fA2 := blk_free hA 2
  have cB2 := blk_cell hB 2
  have fB2 := blk_free hB 2
  have cA3 := blk_cell hA 3
  have fA3 := blk_free hA 3
  have cB3 := blk_cell hB 3
  have fB3 := blk_free hB 3
  simp at cA0 cA1 cA2 cA3 cB0 cB1 cB2 cB3
  have hz := blk_lt hB
  have na0 : ¬ w.heap.size = w1.heap.size := by omega
  have nb0 : ¬ w1.heap.size = w.heap.size := by omega
  have na1 : ¬ w.heap.size + 1 = w1.heap.size := by omega
  have nb1 : ¬ w1.heap.size = w.heap.size + 1 := by omega
  have HA := Lib.hid hA; clear hA
  have HB := Lib.hid hB; clear hB
  go_wp2_with fail
  have i0 := idx0 0 0 0 0
  have i1 := idx1 0 0 0 0
  have i2 := idx2 0 0 0 0
  have i3 := idx3 0 0 0 0
  refine wp_loop_rounds 5 ?_
  rw [rounds_succ]
  go_wp2_with fail
  refine (read_part s 2 4 _ (by have := H.out; omega) (by decide) (by decide)).mono ?_
  rintro e w2 ⟨rfl, rfl⟩
  rw [show ((readL ((s.data.toList.drop 2).take (4 - 2)) : Nat) : Int) = ((0 : Nat) : Int) from by rw [← HP1.out]; rfl]
  go_wp2_with fail
  refine abs_rounds (fun V => V.heap[w.heap.size]? = some (.cells #[.int .i64 0, .int .u32 0, .int .u32 0, .int .i64 0] 24 (0, 0)) ∧ V.heap[w.heap.size + 1]? = some (.cells #[.int .u64 ((0 : Nat) : Int), .int .u64 0, .int .u64 0, .int .u64 0] 47 (0, 0)) ∧ Below w.heap.size w V)
    ⟨(heap_sa _ _ _ _ (blk_lt HA.out)).trans ((heap_far _ _ _ (by simp)).trans HA.out), (heap_sa _ _ _ _ (blk_lt HB.out)).trans (heap_set HB.out _), below_sa B1.out (by simp) _ _⟩ ?_
  clear cA0 cA1 cA2 cA3 cB0 cB1 cB2 cB3 fA0 fA1 fA2 fA3 fB0 fB1 fB2 fB3 hz na0 na1 nb0 nb1
  rintro v1 ⟨hA, hB, b⟩
  have B2 := Lib.hid b; clear b
  have cA0 := blk_cell hA 0
  have fA0 := blk_free hA 0
  have cB0 := blk_cell hB 0
  have fB0 := blk_free hB 0
  have cA1 := blk_cell hA 1
  have fA1 := blk_free hA 1
  have cB1 := blk_cell hB 1
  have fB1 := blk_free hB 1
  have cA2 := blk_cell hA 2
  have fA2 := blk_free hA 2
  have cB2 := blk_cell hB 2
  have fB2 := blk_free hB 2
  have cA3 := blk_cell hA 3
  have fA3 := blk_free hA 3
  have cB3 := blk_cell hB 3
  have fB3 := blk_free hB 3
  simp at cA0 cA1 cA2 cA3 cB0 cB1 cB2 cB3
  have hz := blk_lt hB
  have na0 : ¬ w.heap.size = v1.heap.size := by omega
  have nb0 : ¬ v1.heap.size = w.heap.size := by omega
  have na1 : ¬ w.heap.size + 1 = v1.heap.size := by omega
  have nb1 : ¬ v1.heap.size = w.heap.size + 1 := by omega
  have HA := Lib.hid hA; clear hA
  have HB := Lib.hid hB; clear hB
  rw [rounds_succ]
  go_wp2_with fail
  refine (read_part s 4 8 _ (by have := H.out; omega) (by decide) (by decide)).mono ?_
  rintro e w2 ⟨rfl, rfl⟩
  rw [show ((readL ((s.data.toList.drop 4).take (8 - 4)) : Nat) : Int) = (p2 : Int) from by rw [← HP2.out]; rfl]
  go_wp2_with fail
  refine abs_rounds (fun V => V.heap[w.heap.size]? = some (.cells #[.int .i64 0, .int .u32 0, .int .u32 0, .int .i64 0] 24 (0, 0)) ∧ V.heap[w.heap.size + 1]? = some (.cells #[.int .u64 ((0 : Nat) : Int), .int .u64 (p2 : Int), .int .u64 0, .int .u64 0] 47 (0, 0)) ∧ Below w.heap.size w V)
    ⟨(heap_sa _ _ _ _ (blk_lt HA.out)).trans ((heap_far _ _ _ (by simp)).trans HA.out), (heap_sa _ _ _ _ (blk_lt HB.out)).trans (heap_set HB.out _), below_sa B2.out (by simp) _ _⟩ ?_
  clear cA0 cA1 cA2 cA3 cB0 cB1 cB2 cB3 fA0 fA1 fA2 fA3 fB0 fB1 fB2 fB3 hz na0 na1 nb0 nb1
  rintro v2 ⟨hA, hB, b⟩
  have B3 := Lib.hid b; clear b
  have cA0 := blk_cell hA 0
  have fA0 := blk_free hA 0
  have cB0 := blk_cell hB 0
  have fB0 := blk_free hB 0
  have cA1 := blk_cell hA 1
  have fA1 := blk_free hA 1
  have cB1 := blk_cell hB 1
  have fB1 := blk_free hB 1
  have cA2 := blk_cell hA 2
  have fA2 := blk_free hA 2
  have cB2 := blk_cell hB 2
  have fB2 := blk_free hB 2
  have cA3 := blk_cell hA 3
  have fA3 := blk_free hA 3
  have cB3 := blk_cell hB 3
  have fB3 := blk_free hB 3
  simp at cA0 cA1 cA2 cA3 cB0 cB1 cB2 cB3
  have hz := blk_lt hB
  have na0 : ¬ w.heap.size = v2.heap.size := by omega
  have nb0 : ¬ v2.heap.size = w.heap.size := by omega
  have na1 : ¬ w.heap.size + 1 = v2.heap.size := by omega
  have nb1 : ¬ v2.heap.size = w.heap.size + 1 := by omega
  have HA := Lib.hid hA; clear hA
  have HB := Lib.hid hB; clear hB
  rw [rounds_succ]
  go_wp2_with fail
  refine (read_part s 8 12 _ (by have := H.out; omega) (by decide) (by decide)).mono ?_
  rintro e w2 ⟨rfl, rfl⟩
  rw [show ((readL ((s.data.toList.drop 8).take (12 - 8)) : Nat) : Int) = (p3 : Int) from by rw [← HP3.out]; rfl]
  go_wp2_with fail
  refine abs_rounds (fun V => V.heap[w.heap.size]? = some (.cells #[.int .i64 0, .int .u32 0, .int .u32 0, .int .i64 0] 24 (0, 0)) ∧ V.heap[w.heap.size + 1]? = some (.cells #[.int .u64 ((0 : Nat) : Int), .int .u64 (p2 : Int), .int .u64 (p3 : Int), .int .u64 0] 47 (0, 0)) ∧ Below w.heap.size w V)
    ⟨(heap_sa _ _ _ _ (blk_lt HA.out)).trans ((heap_far _ _ _ (by simp)).trans HA.out), (heap_sa _ _ _ _ (blk_lt HB.out)).trans (heap_set HB.out _), below_sa B3.out (by simp) _ _⟩ ?_
  clear cA0 cA1 cA2 cA3 cB0 cB1 cB2 cB3 fA0 fA1 fA2 fA3 fB0 fB1 fB2 fB3 hz na0 na1 nb0 nb1
  rintro v3 ⟨hA, hB, b⟩
  have B4 := Lib.hid b; clear b
  have cA0 := blk_cell hA 0
  have fA0 := blk_free hA 0
  have cB0 := blk_cell hB 0
  have fB0 := blk_free hB 0
  have cA1 := blk_cell hA 1
  have fA1 := blk_free hA 1
  have cB1 := blk_cell hB 1
  have fB1 := blk_free hB 1
  have cA2 := blk_cell hA 2
  have fA2 := blk_free hA 2
  have cB2 := blk_cell hB 2
  have fB2 := blk_free hB 2
  have cA3 := blk_cell hA 3
  have fA3 := blk_free hA 3
  have cB3 := blk_cell hB 3
  have fB3 := blk_free hB 3
  simp at cA0 cA1 cA2 cA3 cB0 cB1 cB2 cB3
  have hz := blk_lt hB
  have na0 : ¬ w.heap.size = v3.heap.size := by omega
  have nb0 : ¬ v3.heap.size = w.heap.size := by omega
  have na1 : ¬ w.heap.size + 1 = v3.heap.size := by omega
  have nb1 : ¬ v3.heap.size = w.heap.size + 1 := by omega
  have HA := Lib.hid hA; clear hA
  have HB := Lib.hid hB; clear hB
  rw [rounds_succ]
  go_wp2_with fail
  refine (read_part s 12 20 _ (by have := H.out; omega) (by decide) (by decide)).mono ?_
  rintro e w2 ⟨rfl, rfl⟩
  rw [show ((readL ((s.data.toList.drop 12).take (20 - 12)) : Nat) : Int) = (p4 : Int) from by rw [← HP4.out]; rfl]
  go_wp2_with fail
  refine abs_rounds (fun V => V.heap[w.heap.size]? = some (.cells #[.int .i64 0, .int .u32 0, .int .u32 0, .int .i64 0] 24 (0, 0)) ∧ V.heap[w.heap.size + 1]? = some (.cells #[.int .u64 ((0 : Nat) : Int), .int .u64 (p2 : Int), .int .u64 (p3 : Int), .int .u64 (p4 : Int)] 47 (0, 0)) ∧ Below w.heap.size w V)
    ⟨(heap_sa _ _ _ _ (blk_lt HA.out)).trans ((heap_far _ _ _ (by simp)).trans HA.out), (heap_sa _ _ _ _ (blk_lt HB.out)).trans (heap_set HB.out _), below_sa B4.out (by simp) _ _⟩ ?_
  clear cA0 cA1 cA2 cA3 cB0 cB1 cB2 cB3 fA0 fA1 fA2 fA3 fB0 fB1 fB2 fB3 hz na0 na1 nb0 nb1
  rintro v4 ⟨hA, hB, b⟩
  have B5 := Lib.hid b; clear b
  have cA0 := blk_cell hA 0
  have fA0 := blk_free hA 0
  have cB0 := blk_cell hB 0
  have fB0 := blk_free hB 0
  have cA1 := blk_cell hA 1
  have fA1 := blk_free hA 1
  have cB1 := blk_cell hB 1
  have fB1 := blk_free hB 1
  have cA2 := blk_cell hA 2
  have fA2 := blk_free hA 2
  have cB2 := blk_cell hB 2
  have fB2 := blk_free hB 2
  have cA3 := blk_cell hA 3
  have fA3 := blk_free hA 3
  have cB3 := blk_cell hB 3
  have fB3 := blk_free hB 3
  simp at cA0 cA1 cA2 cA3 cB0 cB1 cB2 cB3
  have hz := blk_lt hB
  have na0 : ¬ w.heap.size = v4.heap.size := by omega
  have nb0 : ¬ v4.heap.size = w.heap.size := by omega
  have na1 : ¬ w.heap.size + 1 = v4.heap.size := by omega
  have nb1 : ¬ v4.heap.size = w.heap.size + 1 := by omega
  have HA := Lib.hid hA; clear hA
  have HB := Lib.hid hB; clear hB
  rw [rounds_succ]
  have hb' : (p4 : Int) ≤ 1099511627776 := by omega
  have Hb := Lib.hid hb; clear hb
  have e1 : IntKind.i64.wrap ((0 : Nat) : Int) = (0 : Nat) := IntWalk.i64_in _ (by have := U1.out; omega)
  have e2 : IntKind.u32.wrap (p2 : Int) = p2 := IntWalk.u32_in _ (by have := U2.out; omega)
  have e3 : IntKind.u32.wrap (p3 : Int) = p3 := IntWalk.u32_in _ (by have := U3.out; omega)
  have e4 : IntKind.i64.wrap (p4 : Int) = p4 := IntWalk.i64_in _ (by have := Hb.out; omega)
  have e5 : (p2 : Int) % 4294967296 = p2 := by have := U2.out; omega
  have e6 : (p3 : Int) % 4294967296 = p3 := by have := U3.out; omega
  go_wp2_with fail
  refine (encode_bad _ _ _ _ _ (.inl (by decide))).mono ?_
  rintro e w3 ⟨rfl, b⟩
  have hA3 := blk_below ((heap_old _ (.cells #[.int .i64 ((0 : Nat) : Int), .int .u32 (p2 : Int), .int .u32 (p3 : Int), .int .i64 (p4 : Int)] 24) (blk_lt HA.out)).trans HA.out) b
  have hH3 := blk_below (heap_new v4 (.cells #[.int .i64 ((0 : Nat) : Int), .int .u32 (p2 : Int), .int .u32 (p3 : Int), .int .i64 (p4 : Int)] 24)) b
  have B6 := Lib.hid (below_two (B5.out.alloc B5.out.size _) b); clear b
  have dA0 := blk_cell hA3 0
  have gA0 := blk_free hA3 0
  have dH0 := blk_cell hH3 0
  have dA1 := blk_cell hA3 1
  have gA1 := blk_free hA3 1
  have dH1 := blk_cell hH3 1
  have dA2 := blk_cell hA3 2
  have gA2 := blk_free hA3 2
  have dH2 := blk_cell hH3 2
  have dA3 := blk_cell hA3 3
  have gA3 := blk_free hA3 3
  have dH3 := blk_cell hH3 3
  simp at dA0 dA1 dA2 dA3 dH0 dH1 dH2 dH3
  clear hA3 hH3
  go_wp2
  refine bodyPost_ret (v := .tuple #[.agg #[.int .i64 0, .int .u32 0, .int .u32 0, .int .i64 0], .int .i64 4]) (by simp [results, Try.results8, go_sem, *]) rfl ⟨rfl, ?_⟩
  repeat (refine Below.setCell ?_ (by simp) _)
  exact B6.out
set_option maxHeartbeats 2000000 in
theorem decode_diff (s : ByteArray) (w : World) (h : 32 ≤ s.size) (hb : pt s 12 20 ≤ 1099511627776) (h0 : 1 ≤ pt s 2 4) (hd : encL (pt s 2 4) (pt s 4 8) (pt s 8 12) (pt s 12 20) ≠ s.data.toList.take 32) (hm : s.size ≤ maxLen) :
    Calls Try.prog 8 #[.string s] w fun e w' => e = .returned (.tuple #[.agg #[.int .i64 0, .int .u32 0, .int .u32 0, .int .i64 0], .int .i64 4]) ∧ Below w.heap.size w w' := by
  have hx := str_eq_false hd
  obtain ⟨p1, hp1⟩ : ∃ x, pt s 2 4 = x := ⟨_, rfl⟩
  obtain ⟨p2, hp2⟩ : ∃ x, pt s 4 8 = x := ⟨_, rfl⟩
  obtain ⟨p3, hp3⟩ : ∃ x, pt s 8 12 = x := ⟨_, rfl⟩
  obtain ⟨p4, hp4⟩ : ∃ x, pt s 12 20 = x := ⟨_, rfl⟩
  have u1 := pt_lt s 2 4
  have u2 := pt_lt s 4 8
  have u3 := pt_lt s 8 12
  rw [hp1] at u1 h0 hd hx
  rw [hp2] at u2 hd hx
  rw [hp3] at u3 hd hx
  rw [hp4] at hb hd hx
  simp at u1 u2 u3
  have HP1 := Lib.hid hp1; clear hp1
  have HP2 := Lib.hid hp2; clear hp2
  have HP3 := Lib.hid hp3; clear hp3
  have HP4 := Lib.hid hp4; clear hp4
  have U1 := Lib.hid u1; clear u1
  have U2 := Lib.hid u2; clear u2
  have U3 := Lib.hid u3; clear u3
  unfold maxLen at hm
  have h' : (32 : Int) ≤ s.size := by omega
  have H := Lib.hid h; clear h
  have H0 := Lib.hid h0; clear h0
  have Hx := Lib.hid hx; clear hx hd
  go_enter Try.func8, Try.ntmps8
  go_wp2_with fail
  refine (fields_zero _).mono ?_
  rintro e w1 ⟨rfl, b1⟩
  have hA : w1.heap[w.heap.size]? = some (.cells #[.int .i64 0, .int .u32 0, .int .u32 0, .int .i64 0] 24 (0, 0)) := blk_below (blk_below (heap_new w _) ((Below.refl _ _).alloc (Nat.le_refl _) _)) b1
  have hB : w1.heap[w.heap.size + 1]? = some (.cells #[.int .u64 0, .int .u64 0, .int .u64 0, .int .u64 0] 47 (0, 0)) := by
    have := heap_new (w.alloc (Obj.cells #[.int .i64 0, .int .u32 0, .int .u32 0, .int .i64 0] 24)) (Obj.cells #[.int .u64 0, .int .u64 0, .int .u64 0, .int .u64 0] 47)
    rw [show (w.alloc (Obj.cells #[.int .i64 0, .int .u32 0, .int .u32 0, .int .i64 0] 24)).heap.size = w.heap.size + 1 by simp] at this
    exact blk_below this b1
  have B1 := Lib.hid (below_two (((Below.refl _ w).alloc (Nat.le_refl _) _).alloc (by simp) _) b1)
  clear b1
  have cA0 := blk_cell hA 0
  have fA0 := blk_free hA 0
  have cB0 := blk_cell hB 0
  have fB0 := blk_free hB 0
  have cA1 := blk_cell hA 1
  have fA1 := blk_free hA 1
  have cB1 := blk_cell hB 1
  have fB1 := blk_free hB 1
  have cA2 := blk_cell hA 2
  have fA2 := blk_free hA 2
  have cB2 := blk_cell hB 2
  have fB2 := blk_free hB 2
  have cA3 := blk_cell hA 3
  have fA3 := blk_free hA 3
  have cB3 := blk_cell hB 3
  have fB3 := blk_free hB 3
  simp at cA0 cA1 cA2 cA3 cB0 cB1 cB2 cB3
  have hz := blk_lt hB
  have na0 : ¬ w.heap.size = w1.heap.size := by omega
  have nb0 : ¬ w1.heap.size = w.heap.size := by omega
  have na1 : ¬ w.heap.size + 1 = w1.heap.size := by omega
  have nb1 : ¬ w1.heap.size = w.heap.size + 1 := by omega
  have HA := Lib.hid hA; clear hA
  have HB := Lib.hid hB; clear hB
  go_wp2_with fail
  have i0 := idx0 0 0 0 0
  have i1 := idx1 0 0 0 0
  have i2 := idx2 0 0 0 0
  have i3 := idx3 0 0 0 0
  refine wp_loop_rounds 5 ?_
  rw [rounds_succ]
  go_wp2_with fail
  refine (read_part s 2 4 _ (by have := H.out; omega) (by decide) (by decide)).mono ?_
  rintro e w2 ⟨rfl, rfl⟩
  rw [show ((readL ((s.data.toList.drop 2).take (4 - 2)) : Nat) : Int) = (p1 : Int) from by rw [← HP1.out]; rfl]
  go_wp2_with fail
  refine abs_rounds (fun V => V.heap[w.heap.size]? = some (.cells #[.int .i64 0, .int .u32 0, .int .u32 0, .int .i64 0] 24 (0, 0)) ∧ V.heap[w.heap.size + 1]? = some (.cells #[.int .u64 (p1 : Int), .int .u64 0, .int .u64 0, .int .u64 0] 47 (0, 0)) ∧ Below w.heap.size w V)
    ⟨(heap_sa _ _ _ _ (blk_lt HA.out)).trans ((heap_far _ _ _ (by simp)).trans HA.out), (heap_sa _ _ _ _ (blk_lt HB.out)).trans (heap_set HB.out _), below_sa B1.out (by simp) _ _⟩ ?_
  clear cA0 cA1 cA2 cA3 cB0 cB1 cB2 cB3 fA0 fA1 fA2 fA3 fB0 fB1 fB2 fB3 hz na0 na1 nb0 nb1
  rintro v1 ⟨hA, hB, b⟩
  have B2 := Lib.hid b; clear b
  have cA0 := blk_cell hA 0
  have fA0 := blk_free hA 0
  have cB0 := blk_cell hB 0
  have fB0 := blk_free hB 0
  have cA1 := blk_cell hA 1
  have fA1 := blk_free hA 1
  have cB1 := blk_cell hB 1
  have fB1 := blk_free hB 1
  have cA2 := blk_cell hA 2
  have fA2 := blk_free hA 2
  have cB2 := blk_cell hB 2
  have fB2 := blk_free hB 2
  have cA3 := blk_cell hA 3
  have fA3 := blk_free hA 3
  have cB3 := blk_cell hB 3
  have fB3 := blk_free hB 3
  simp at cA0 cA1 cA2 cA3 cB0 cB1 cB2 cB3
  have hz := blk_lt hB
  have na0 : ¬ w.heap.size = v1.heap.size := by omega
  have nb0 : ¬ v1.heap.size = w.heap.size := by omega
  have na1 : ¬ w.heap.size + 1 = v1.heap.size := by omega
  have nb1 : ¬ v1.heap.size = w.heap.size + 1 := by omega
  have HA := Lib.hid hA; clear hA
  have HB := Lib.hid hB; clear hB
  rw [rounds_succ]
  go_wp2_with fail
  refine (read_part s 4 8 _ (by have := H.out; omega) (by decide) (by decide)).mono ?_
  rintro e w2 ⟨rfl, rfl⟩
  rw [show ((readL ((s.data.toList.drop 4).take (8 - 4)) : Nat) : Int) = (p2 : Int) from by rw [← HP2.out]; rfl]
  go_wp2_with fail
  refine abs_rounds (fun V => V.heap[w.heap.size]? = some (.cells #[.int .i64 0, .int .u32 0, .int .u32 0, .int .i64 0] 24 (0, 0)) ∧ V.heap[w.heap.size + 1]? = some (.cells #[.int .u64 (p1 : Int), .int .u64 (p2 : Int), .int .u64 0, .int .u64 0] 47 (0, 0)) ∧ Below w.heap.size w V)
    ⟨(heap_sa _ _ _ _ (blk_lt HA.out)).trans ((heap_far _ _ _ (by simp)).trans HA.out), (heap_sa _ _ _ _ (blk_lt HB.out)).trans (heap_set HB.out _), below_sa B2.out (by simp) _ _⟩ ?_
  clear cA0 cA1 cA2 cA3 cB0 cB1 cB2 cB3 fA0 fA1 fA2 fA3 fB0 fB1 fB2 fB3 hz na0 na1 nb0 nb1
  rintro v2 ⟨hA, hB, b⟩
  have B3 := Lib.hid b; clear b
  have cA0 := blk_cell hA 0
  have fA0 := blk_free hA 0
  have cB0 := blk_cell hB 0
  have fB0 := blk_free hB 0
  have cA1 := blk_cell hA 1
  have fA1 := blk_free hA 1
  have cB1 := blk_cell hB 1
  have fB1 := blk_free hB 1
  have cA2 := blk_cell hA 2
  have fA2 := blk_free hA 2
  have cB2 := blk_cell hB 2
  have fB2 := blk_free hB 2
  have cA3 := blk_cell hA 3
  have fA3 := blk_free hA 3
  have cB3 := blk_cell hB 3
  have fB3 := blk_free hB 3
  simp at cA0 cA1 cA2 cA3 cB0 cB1 cB2 cB3
  have hz := blk_lt hB
  have na0 : ¬ w.heap.size = v2.heap.size := by omega
  have nb0 : ¬ v2.heap.size = w.heap.size := by omega
  have na1 : ¬ w.heap.size + 1 = v2.heap.size := by omega
  have nb1 : ¬ v2.heap.size = w.heap.size + 1 := by omega
  have HA := Lib.hid hA; clear hA
  have HB := Lib.hid hB; clear hB
  rw [rounds_succ]
  go_wp2_with fail
  refine (read_part s 8 12 _ (by have := H.out; omega) (by decide) (by decide)).mono ?_
  rintro e w2 ⟨rfl, rfl⟩
  rw [show ((readL ((s.data.toList.drop 8).take (12 - 8)) : Nat) : Int) = (p3 : Int) from by rw [← HP3.out]; rfl]
  go_wp2_with fail
  refine abs_rounds (fun V => V.heap[w.heap.size]? = some (.cells #[.int .i64 0, .int .u32 0, .int .u32 0, .int .i64 0] 24 (0, 0)) ∧ V.heap[w.heap.size + 1]? = some (.cells #[.int .u64 (p1 : Int), .int .u64 (p2 : Int), .int .u64 (p3 : Int), .int .u64 0] 47 (0, 0)) ∧ Below w.heap.size w V)
    ⟨(heap_sa _ _ _ _ (blk_lt HA.out)).trans ((heap_far _ _ _ (by simp)).trans HA.out), (heap_sa _ _ _ _ (blk_lt HB.out)).trans (heap_set HB.out _), below_sa B3.out (by simp) _ _⟩ ?_
  clear cA0 cA1 cA2 cA3 cB0 cB1 cB2 cB3 fA0 fA1 fA2 fA3 fB0 fB1 fB2 fB3 hz na0 na1 nb0 nb1
  rintro v3 ⟨hA, hB, b⟩
  have B4 := Lib.hid b; clear b
  have cA0 := blk_cell hA 0
  have fA0 := blk_free hA 0
  have cB0 := blk_cell hB 0
  have fB0 := blk_free hB 0
  have cA1 := blk_cell hA 1
  have fA1 := blk_free hA 1
  have cB1 := blk_cell hB 1
  have fB1 := blk_free hB 1
  have cA2 := blk_cell hA 2
  have fA2 := blk_free hA 2
  have cB2 := blk_cell hB 2
  have fB2 := blk_free hB 2
  have cA3 := blk_cell hA 3
  have fA3 := blk_free hA 3
  have cB3 := blk_cell hB 3
  have fB3 := blk_free hB 3
  simp at cA0 cA1 cA2 cA3 cB0 cB1 cB2 cB3
  have hz := blk_lt hB
  have na0 : ¬ w.heap.size = v3.heap.size := by omega
  have nb0 : ¬ v3.heap.size = w.heap.size := by omega
  have na1 : ¬ w.heap.size + 1 = v3.heap.size := by omega
  have nb1 : ¬ v3.heap.size = w.heap.size + 1 := by omega
  have HA := Lib.hid hA; clear hA
  have HB := Lib.hid hB; clear hB
  rw [rounds_succ]
  go_wp2_with fail
  refine (read_part s 12 20 _ (by have := H.out; omega) (by decide) (by decide)).mono ?_
  rintro e w2 ⟨rfl, rfl⟩
  rw [show ((readL ((s.data.toList.drop 12).take (20 - 12)) : Nat) : Int) = (p4 : Int) from by rw [← HP4.out]; rfl]
  go_wp2_with fail
  refine abs_rounds (fun V => V.heap[w.heap.size]? = some (.cells #[.int .i64 0, .int .u32 0, .int .u32 0, .int .i64 0] 24 (0, 0)) ∧ V.heap[w.heap.size + 1]? = some (.cells #[.int .u64 (p1 : Int), .int .u64 (p2 : Int), .int .u64 (p3 : Int), .int .u64 (p4 : Int)] 47 (0, 0)) ∧ Below w.heap.size w V)
    ⟨(heap_sa _ _ _ _ (blk_lt HA.out)).trans ((heap_far _ _ _ (by simp)).trans HA.out), (heap_sa _ _ _ _ (blk_lt HB.out)).trans (heap_set HB.out _), below_sa B4.out (by simp) _ _⟩ ?_
  clear cA0 cA1 cA2 cA3 cB0 cB1 cB2 cB3 fA0 fA1 fA2 fA3 fB0 fB1 fB2 fB3 hz na0 na1 nb0 nb1
  rintro v4 ⟨hA, hB, b⟩
  have B5 := Lib.hid b; clear b
  have cA0 := blk_cell hA 0
  have fA0 := blk_free hA 0
  have cB0 := blk_cell hB 0
  have fB0 := blk_free hB 0
  have cA1 := blk_cell hA 1
  have fA1 := blk_free hA 1
  have cB1 := blk_cell hB 1
  have fB1 := blk_free hB 1
  have cA2 := blk_cell hA 2
  have fA2 := blk_free hA 2
  have cB2 := blk_cell hB 2
  have fB2 := blk_free hB 2
  have cA3 := blk_cell hA 3
  have fA3 := blk_free hA 3
  have cB3 := blk_cell hB 3
  have fB3 := blk_free hB 3
  simp at cA0 cA1 cA2 cA3 cB0 cB1 cB2 cB3
  have hz := blk_lt hB
  have na0 : ¬ w.heap.size = v4.heap.size := by omega
  have nb0 : ¬ v4.heap.size = w.heap.size := by omega
  have na1 : ¬ w.heap.size + 1 = v4.heap.size := by omega
  have nb1 : ¬ v4.heap.size = w.heap.size + 1 := by omega
  have HA := Lib.hid hA; clear hA
  have HB := Lib.hid hB; clear hB
  rw [rounds_succ]
  have hb' : (p4 : Int) ≤ 1099511627776 := by omega
  have Hb := Lib.hid hb; clear hb
  have e1 : IntKind.i64.wrap (p1 : Int) = p1 := IntWalk.i64_in _ (by have := U1.out; omega)
  have e2 : IntKind.u32.wrap (p2 : Int) = p2 := IntWalk.u32_in _ (by have := U2.out; omega)
  have e3 : IntKind.u32.wrap (p3 : Int) = p3 := IntWalk.u32_in _ (by have := U3.out; omega)
  have e4 : IntKind.i64.wrap (p4 : Int) = p4 := IntWalk.i64_in _ (by have := Hb.out; omega)
  have e5 : (p2 : Int) % 4294967296 = p2 := by have := U2.out; omega
  have e6 : (p3 : Int) % 4294967296 = p3 := by have := U3.out; omega
  have hx' := Hx.out
  go_wp2_with fail
  refine (encode_any p1 p2 p3 p4 _ H0.out (by have := U1.out; omega) Hb.out U2.out U3.out).mono ?_
  rintro e w3 ⟨rfl, b⟩
  have hA3 := blk_below ((heap_old _ (.cells #[.int .i64 (p1 : Int), .int .u32 (p2 : Int), .int .u32 (p3 : Int), .int .i64 (p4 : Int)] 24) (blk_lt HA.out)).trans HA.out) b
  have hH3 := blk_below (heap_new v4 (.cells #[.int .i64 (p1 : Int), .int .u32 (p2 : Int), .int .u32 (p3 : Int), .int .i64 (p4 : Int)] 24)) b
  have B6 := Lib.hid (below_two (B5.out.alloc B5.out.size _) b); clear b
  have dA0 := blk_cell hA3 0
  have gA0 := blk_free hA3 0
  have dH0 := blk_cell hH3 0
  have dA1 := blk_cell hA3 1
  have gA1 := blk_free hA3 1
  have dH1 := blk_cell hH3 1
  have dA2 := blk_cell hA3 2
  have gA2 := blk_free hA3 2
  have dH2 := blk_cell hH3 2
  have dA3 := blk_cell hA3 3
  have gA3 := blk_free hA3 3
  have dH3 := blk_cell hH3 3
  simp at dA0 dA1 dA2 dA3 dH0 dH1 dH2 dH3
  clear hA3 hH3
  go_wp2
  refine bodyPost_ret (v := .tuple #[.agg #[.int .i64 0, .int .u32 0, .int .u32 0, .int .i64 0], .int .i64 4]) (by simp [results, Try.results8, go_sem, *]) rfl ⟨rfl, ?_⟩
  repeat (refine Below.setCell ?_ (by simp) _)
  exact B6.out
set_option maxHeartbeats 2000000 in
theorem decode_ok (s : ByteArray) (w : World) (h : 32 ≤ s.size) (hb : pt s 12 20 ≤ 1099511627776) (h0 : 1 ≤ pt s 2 4) (hd : encL (pt s 2 4) (pt s 4 8) (pt s 8 12) (pt s 12 20) = s.data.toList.take 32) (hm : s.size ≤ maxLen) :
    Calls Try.prog 8 #[.string s] w fun e w' => e = .returned (.tuple #[.agg #[.int .i64 (pt s 2 4 : Int), .int .u32 (pt s 4 8 : Int), .int .u32 (pt s 8 12 : Int), .int .i64 (pt s 12 20 : Int)], .int .i64 0]) ∧ Below w.heap.size w w' := by
  have hx := str_eq_true hd
  obtain ⟨p1, hp1⟩ : ∃ x, pt s 2 4 = x := ⟨_, rfl⟩
  obtain ⟨p2, hp2⟩ : ∃ x, pt s 4 8 = x := ⟨_, rfl⟩
  obtain ⟨p3, hp3⟩ : ∃ x, pt s 8 12 = x := ⟨_, rfl⟩
  obtain ⟨p4, hp4⟩ : ∃ x, pt s 12 20 = x := ⟨_, rfl⟩
  have u1 := pt_lt s 2 4
  have u2 := pt_lt s 4 8
  have u3 := pt_lt s 8 12
  rw [hp1] at u1 h0 hd hx ⊢
  rw [hp2] at u2 hd hx ⊢
  rw [hp3] at u3 hd hx ⊢
  rw [hp4] at hb hd hx ⊢
  simp at u1 u2 u3
  have HP1 := Lib.hid hp1; clear hp1
  have HP2 := Lib.hid hp2; clear hp2
  have HP3 := Lib.hid hp3; clear hp3
  have HP4 := Lib.hid hp4; clear hp4
  have U1 := Lib.hid u1; clear u1
  have U2 := Lib.hid u2; clear u2
  have U3 := Lib.hid u3; clear u3
  unfold maxLen at hm
  have h' : (32 : Int) ≤ s.size := by omega
  have H := Lib.hid h; clear h
  have H0 := Lib.hid h0; clear h0
  have Hx := Lib.hid hx; clear hx hd
  go_enter Try.func8, Try.ntmps8
  go_wp2_with fail
  refine (fields_zero _).mono ?_
  rintro e w1 ⟨rfl, b1⟩
  have hA : w1.heap[w.heap.size]? = some (.cells #[.int .i64 0, .int .u32 0, .int .u32 0, .int .i64 0] 24 (0, 0)) := blk_below (blk_below (heap_new w _) ((Below.refl _ _).alloc (Nat.le_refl _) _)) b1
  have hB : w1.heap[w.heap.size + 1]? = some (.cells #[.int .u64 0, .int .u64 0, .int .u64 0, .int .u64 0] 47 (0, 0)) := by
    have := heap_new (w.alloc (Obj.cells #[.int .i64 0, .int .u32 0, .int .u32 0, .int .i64 0] 24)) (Obj.cells #[.int .u64 0, .int .u64 0, .int .u64 0, .int .u64 0] 47)
    rw [show (w.alloc (Obj.cells #[.int .i64 0, .int .u32 0, .int .u32 0, .int .i64 0] 24)).heap.size = w.heap.size + 1 by simp] at this
    exact blk_below this b1
  have B1 := Lib.hid (below_two (((Below.refl _ w).alloc (Nat.le_refl _) _).alloc (by simp) _) b1)
  clear b1
  have cA0 := blk_cell hA 0
  have fA0 := blk_free hA 0
  have cB0 := blk_cell hB 0
  have fB0 := blk_free hB 0
  have cA1 := blk_cell hA 1
  have fA1 := blk_free hA 1
  have cB1 := blk_cell hB 1
  have fB1 := blk_free hB 1
  have cA2 := blk_cell hA 2
  have fA2 := blk_free hA 2
  have cB2 := blk_cell hB 2
  have fB2 := blk_free hB 2
  have cA3 := blk_cell hA 3
  have fA3 := blk_free hA 3
  have cB3 := blk_cell hB 3
  have fB3 := blk_free hB 3
  simp at cA0 cA1 cA2 cA3 cB0 cB1 cB2 cB3
  have hz := blk_lt hB
  have na0 : ¬ w.heap.size = w1.heap.size := by omega
  have nb0 : ¬ w1.heap.size = w.heap.size := by omega
  have na1 : ¬ w.heap.size + 1 = w1.heap.size := by omega
  have nb1 : ¬ w1.heap.size = w.heap.size + 1 := by omega
  have HA := Lib.hid hA; clear hA
  have HB := Lib.hid hB; clear hB
  go_wp2_with fail
  have i0 := idx0 0 0 0 0
  have i1 := idx1 0 0 0 0
  have i2 := idx2 0 0 0 0
  have i3 := idx3 0 0 0 0
  refine wp_loop_rounds 5 ?_
  rw [rounds_succ]
  go_wp2_with fail
  refine (read_part s 2 4 _ (by have := H.out; omega) (by decide) (by decide)).mono ?_
  rintro e w2 ⟨rfl, rfl⟩
  rw [show ((readL ((s.data.toList.drop 2).take (4 - 2)) : Nat) : Int) = (p1 : Int) from by rw [← HP1.out]; rfl]
  go_wp2_with fail
  refine abs_rounds (fun V => V.heap[w.heap.size]? = some (.cells #[.int .i64 0, .int .u32 0, .int .u32 0, .int .i64 0] 24 (0, 0)) ∧ V.heap[w.heap.size + 1]? = some (.cells #[.int .u64 (p1 : Int), .int .u64 0, .int .u64 0, .int .u64 0] 47 (0, 0)) ∧ Below w.heap.size w V)
    ⟨(heap_sa _ _ _ _ (blk_lt HA.out)).trans ((heap_far _ _ _ (by simp)).trans HA.out), (heap_sa _ _ _ _ (blk_lt HB.out)).trans (heap_set HB.out _), below_sa B1.out (by simp) _ _⟩ ?_
  clear cA0 cA1 cA2 cA3 cB0 cB1 cB2 cB3 fA0 fA1 fA2 fA3 fB0 fB1 fB2 fB3 hz na0 na1 nb0 nb1
  rintro v1 ⟨hA, hB, b⟩
  have B2 := Lib.hid b; clear b
  have cA0 := blk_cell hA 0
  have fA0 := blk_free hA 0
  have cB0 := blk_cell hB 0
  have fB0 := blk_free hB 0
  have cA1 := blk_cell hA 1
  have fA1 := blk_free hA 1
  have cB1 := blk_cell hB 1
  have fB1 := blk_free hB 1
  have cA2 := blk_cell hA 2
  have fA2 := blk_free hA 2
  have cB2 := blk_cell hB 2
  have fB2 := blk_free hB 2
  have cA3 := blk_cell hA 3
  have fA3 := blk_free hA 3
  have cB3 := blk_cell hB 3
  have fB3 := blk_free hB 3
  simp at cA0 cA1 cA2 cA3 cB0 cB1 cB2 cB3
  have hz := blk_lt hB
  have na0 : ¬ w.heap.size = v1.heap.size := by omega
  have nb0 : ¬ v1.heap.size = w.heap.size := by omega
  have na1 : ¬ w.heap.size + 1 = v1.heap.size := by omega
  have nb1 : ¬ v1.heap.size = w.heap.size + 1 := by omega
  have HA := Lib.hid hA; clear hA
  have HB := Lib.hid hB; clear hB
  rw [rounds_succ]
  go_wp2_with fail
  refine (read_part s 4 8 _ (by have := H.out; omega) (by decide) (by decide)).mono ?_
  rintro e w2 ⟨rfl, rfl⟩
  rw [show ((readL ((s.data.toList.drop 4).take (8 - 4)) : Nat) : Int) = (p2 : Int) from by rw [← HP2.out]; rfl]
  go_wp2_with fail
  refine abs_rounds (fun V => V.heap[w.heap.size]? = some (.cells #[.int .i64 0, .int .u32 0, .int .u32 0, .int .i64 0] 24 (0, 0)) ∧ V.heap[w.heap.size + 1]? = some (.cells #[.int .u64 (p1 : Int), .int .u64 (p2 : Int), .int .u64 0, .int .u64 0] 47 (0, 0)) ∧ Below w.heap.size w V)
    ⟨(heap_sa _ _ _ _ (blk_lt HA.out)).trans ((heap_far _ _ _ (by simp)).trans HA.out), (heap_sa _ _ _ _ (blk_lt HB.out)).trans (heap_set HB.out _), below_sa B2.out (by simp) _ _⟩ ?_
  clear cA0 cA1 cA2 cA3 cB0 cB1 cB2 cB3 fA0 fA1 fA2 fA3 fB0 fB1 fB2 fB3 hz na0 na1 nb0 nb1
  rintro v2 ⟨hA, hB, b⟩
  have B3 := Lib.hid b; clear b
  have cA0 := blk_cell hA 0
  have fA0 := blk_free hA 0
  have cB0 := blk_cell hB 0
  have fB0 := blk_free hB 0
  have cA1 := blk_cell hA 1
  have fA1 := blk_free hA 1
  have cB1 := blk_cell hB 1
  have fB1 := blk_free hB 1
  have cA2 := blk_cell hA 2
  have fA2 := blk_free hA 2
  have cB2 := blk_cell hB 2
  have fB2 := blk_free hB 2
  have cA3 := blk_cell hA 3
  have fA3 := blk_free hA 3
  have cB3 := blk_cell hB 3
  have fB3 := blk_free hB 3
  simp at cA0 cA1 cA2 cA3 cB0 cB1 cB2 cB3
  have hz := blk_lt hB
  have na0 : ¬ w.heap.size = v2.heap.size := by omega
  have nb0 : ¬ v2.heap.size = w.heap.size := by omega
  have na1 : ¬ w.heap.size + 1 = v2.heap.size := by omega
  have nb1 : ¬ v2.heap.size = w.heap.size + 1 := by omega
  have HA := Lib.hid hA; clear hA
  have HB := Lib.hid hB; clear hB
  rw [rounds_succ]
  go_wp2_with fail
  refine (read_part s 8 12 _ (by have := H.out; omega) (by decide) (by decide)).mono ?_
  rintro e w2 ⟨rfl, rfl⟩
  rw [show ((readL ((s.data.toList.drop 8).take (12 - 8)) : Nat) : Int) = (p3 : Int) from by rw [← HP3.out]; rfl]
  go_wp2_with fail
  refine abs_rounds (fun V => V.heap[w.heap.size]? = some (.cells #[.int .i64 0, .int .u32 0, .int .u32 0, .int .i64 0] 24 (0, 0)) ∧ V.heap[w.heap.size + 1]? = some (.cells #[.int .u64 (p1 : Int), .int .u64 (p2 : Int), .int .u64 (p3 : Int), .int .u64 0] 47 (0, 0)) ∧ Below w.heap.size w V)
    ⟨(heap_sa _ _ _ _ (blk_lt HA.out)).trans ((heap_far _ _ _ (by simp)).trans HA.out), (heap_sa _ _ _ _ (blk_lt HB.out)).trans (heap_set HB.out _), below_sa B3.out (by simp) _ _⟩ ?_
  clear cA0 cA1 cA2 cA3 cB0 cB1 cB2 cB3 fA0 fA1 fA2 fA3 fB0 fB1 fB2 fB3 hz na0 na1 nb0 nb1
  rintro v3 ⟨hA, hB, b⟩
  have B4 := Lib.hid b; clear b
  have cA0 := blk_cell hA 0
  have fA0 := blk_free hA 0
  have cB0 := blk_cell hB 0
  have fB0 := blk_free hB 0
  have cA1 := blk_cell hA 1
  have fA1 := blk_free hA 1
  have cB1 := blk_cell hB 1
  have fB1 := blk_free hB 1
  have cA2 := blk_cell hA 2
  have fA2 := blk_free hA 2
  have cB2 := blk_cell hB 2
  have fB2 := blk_free hB 2
  have cA3 := blk_cell hA 3
  have fA3 := blk_free hA 3
  have cB3 := blk_cell hB 3
  have fB3 := blk_free hB 3
  simp at cA0 cA1 cA2 cA3 cB0 cB1 cB2 cB3
  have hz := blk_lt hB
  have na0 : ¬ w.heap.size = v3.heap.size := by omega
  have nb0 : ¬ v3.heap.size = w.heap.size := by omega
  have na1 : ¬ w.heap.size + 1 = v3.heap.size := by omega
  have nb1 : ¬ v3.heap.size = w.heap.size + 1 := by omega
  have HA := Lib.hid hA; clear hA
  have HB := Lib.hid hB; clear hB
  rw [rounds_succ]
  go_wp2_with fail
  refine (read_part s 12 20 _ (by have := H.out; omega) (by decide) (by decide)).mono ?_
  rintro e w2 ⟨rfl, rfl⟩
  rw [show ((readL ((s.data.toList.drop 12).take (20 - 12)) : Nat) : Int) = (p4 : Int) from by rw [← HP4.out]; rfl]
  go_wp2_with fail
  refine abs_rounds (fun V => V.heap[w.heap.size]? = some (.cells #[.int .i64 0, .int .u32 0, .int .u32 0, .int .i64 0] 24 (0, 0)) ∧ V.heap[w.heap.size + 1]? = some (.cells #[.int .u64 (p1 : Int), .int .u64 (p2 : Int), .int .u64 (p3 : Int), .int .u64 (p4 : Int)] 47 (0, 0)) ∧ Below w.heap.size w V)
    ⟨(heap_sa _ _ _ _ (blk_lt HA.out)).trans ((heap_far _ _ _ (by simp)).trans HA.out), (heap_sa _ _ _ _ (blk_lt HB.out)).trans (heap_set HB.out _), below_sa B4.out (by simp) _ _⟩ ?_
  clear cA0 cA1 cA2 cA3 cB0 cB1 cB2 cB3 fA0 fA1 fA2 fA3 fB0 fB1 fB2 fB3 hz na0 na1 nb0 nb1
  rintro v4 ⟨hA, hB, b⟩
  have B5 := Lib.hid b; clear b
  have cA0 := blk_cell hA 0
  have fA0 := blk_free hA 0
  have cB0 := blk_cell hB 0
  have fB0 := blk_free hB 0
  have cA1 := blk_cell hA 1
  have fA1 := blk_free hA 1
  have cB1 := blk_cell hB 1
  have fB1 := blk_free hB 1
  have cA2 := blk_cell hA 2
  have fA2 := blk_free hA 2
  have cB2 := blk_cell hB 2
  have fB2 := blk_free hB 2
  have cA3 := blk_cell hA 3
  have fA3 := blk_free hA 3
  have cB3 := blk_cell hB 3
  have fB3 := blk_free hB 3
  simp at cA0 cA1 cA2 cA3 cB0 cB1 cB2 cB3
  have hz := blk_lt hB
  have na0 : ¬ w.heap.size = v4.heap.size := by omega
  have nb0 : ¬ v4.heap.size = w.heap.size := by omega
  have na1 : ¬ w.heap.size + 1 = v4.heap.size := by omega
  have nb1 : ¬ v4.heap.size = w.heap.size + 1 := by omega
  have HA := Lib.hid hA; clear hA
  have HB := Lib.hid hB; clear hB
  rw [rounds_succ]
  have hb' : (p4 : Int) ≤ 1099511627776 := by omega
  have Hb := Lib.hid hb; clear hb
  have e1 : IntKind.i64.wrap (p1 : Int) = p1 := IntWalk.i64_in _ (by have := U1.out; omega)
  have e2 : IntKind.u32.wrap (p2 : Int) = p2 := IntWalk.u32_in _ (by have := U2.out; omega)
  have e3 : IntKind.u32.wrap (p3 : Int) = p3 := IntWalk.u32_in _ (by have := U3.out; omega)
  have e4 : IntKind.i64.wrap (p4 : Int) = p4 := IntWalk.i64_in _ (by have := Hb.out; omega)
  have e5 : (p2 : Int) % 4294967296 = p2 := by have := U2.out; omega
  have e6 : (p3 : Int) % 4294967296 = p3 := by have := U3.out; omega
  have hx' := Hx.out
  go_wp2_with fail
  refine (encode_any p1 p2 p3 p4 _ H0.out (by have := U1.out; omega) Hb.out U2.out U3.out).mono ?_
  rintro e w3 ⟨rfl, b⟩
  have hA3 := blk_below ((heap_old _ (.cells #[.int .i64 (p1 : Int), .int .u32 (p2 : Int), .int .u32 (p3 : Int), .int .i64 (p4 : Int)] 24) (blk_lt HA.out)).trans HA.out) b
  have hH3 := blk_below (heap_new v4 (.cells #[.int .i64 (p1 : Int), .int .u32 (p2 : Int), .int .u32 (p3 : Int), .int .i64 (p4 : Int)] 24)) b
  have B6 := Lib.hid (below_two (B5.out.alloc B5.out.size _) b); clear b
  have dA0 := blk_cell hA3 0
  have gA0 := blk_free hA3 0
  have dH0 := blk_cell hH3 0
  have dA1 := blk_cell hA3 1
  have gA1 := blk_free hA3 1
  have dH1 := blk_cell hH3 1
  have dA2 := blk_cell hA3 2
  have gA2 := blk_free hA3 2
  have dH2 := blk_cell hH3 2
  have dA3 := blk_cell hA3 3
  have gA3 := blk_free hA3 3
  have dH3 := blk_cell hH3 3
  simp at dA0 dA1 dA2 dA3 dH0 dH1 dH2 dH3
  clear hA3 hH3
  go_wp2
  refine bodyPost_ret (v := .tuple #[.agg #[.int .i64 (p1 : Int), .int .u32 (p2 : Int), .int .u32 (p3 : Int), .int .i64 (p4 : Int)], .int .i64 0]) (by simp [results, Try.results8, go_sem, *]) rfl ⟨rfl, ?_⟩
  repeat (refine Below.setCell ?_ (by simp) _)
  exact B6.out
end Go.Proofs.Ytcgmgecdlanolaa.Own
