/- The walks of the slots. -/
import Derived.Test.YteiienglgffmlaaKit
namespace Go.Proofs.Yteiienglgffmlaa
open Go.RowKit
set_option maxRecDepth 100000
set_option linter.unusedSimpArgs false
set_option linter.unusedVariables false
theorem keep_cell {w w1 : World} {a : Addr} {v : Value} (h : w.cell? a = some v) (hb : Below w.heap.size w w1) : w1.cell? a = some v := (hb.cell (World.block_lt_of_cell? w a h)).trans h
def sl (n : Int) : Value := .agg #[.int .i64 n]
theorem new_any (n : Int) (w : World) (h1 : 1 ≤ n) (h6 : n ≤ 6) :
    Calls Try.prog 5 #[.int .i64 n] w fun e w' => e = .returned (.tuple #[.agg #[.int .i64 n], .int .i64 0]) ∧ Below w.heap.size w w' := by
  go_enter Try.func5, Try.ntmps5
  go_wp2
  go_returns
  refine ⟨rfl, ?_⟩
  go_grown
theorem turn_any (n t : Int) (w : World) (h1 : 1 ≤ n) (h6 : n ≤ 6) (t0 : 0 ≤ t) (t1 : t ≤ 4611686018427387904) :
    Calls Try.prog 8 #[.agg #[.int .i64 n], .int .i64 t] w fun e w' => e = .returned (.int .i64 (t % n)) ∧ Below w.heap.size w w' := by
  have hn : (n == 0) = false := by rw [beq_eq_false_iff_ne]; omega
  go_enter Try.func8, Try.ntmps8
  go_wp2
  all_goals go_ret
  all_goals refine ⟨rfl, ?_⟩
  all_goals go_grown
theorem round_any (n t : Int) (w : World) (h1 : 1 ≤ n) (h6 : n ≤ 6) (t0 : 0 ≤ t) (t1 : t ≤ 4611686018427387904) :
    Calls Try.prog 9 #[.agg #[.int .i64 n], .int .i64 t] w fun e w' => e = .returned (.int .i64 (t / n)) ∧ Below w.heap.size w w' := by
  have hn : (n == 0) = false := by rw [beq_eq_false_iff_ne]; omega
  have hw : wrap64 (t / n) = t / n := by
    have : 0 ≤ t / n := Int.ediv_nonneg t0 (by omega)
    have : t / n ≤ t := Int.ediv_le_self n t0
    unfold wrap64; omega
  go_enter Try.func9, Try.ntmps9
  go_wp2
  all_goals go_ret
  all_goals refine ⟨?_, ?_⟩
  all_goals first | go_grown | exact ret_int rfl | exact ret_int hw
def nx (n l t : Int) : Int := t + (l - t) % n
theorem next_any (n l t : Int) (w : World) (h1 : 1 ≤ n) (h6 : n ≤ 6) (t0 : 0 ≤ t) (t1 : t ≤ 4611686018427387904) (l0 : 0 ≤ l) (l1 : l < n) :
    Calls Try.prog 10 #[.agg #[.int .i64 n], .int .i64 l, .int .i64 t] w fun e w' => e = .returned (.int .i64 (nx n l t)) ∧ Below w.heap.size w w' := by
  have m0 : 0 ≤ t % n := Int.emod_nonneg _ (by omega)
  have m1 : t % n < n := Int.emod_lt_of_pos _ (by omega)
  have p0 : 0 ≤ (l - t) % n := Int.emod_nonneg _ (by omega)
  have p1 : (l - t) % n < n := Int.emod_lt_of_pos _ (by omega)
  unfold nx
  have hn : (n == 0) = false := by rw [beq_eq_false_iff_ne]; omega
  have hn0 : ¬ n = 0 := by omega
  have hw1 : IntKind.i64.wrap (l - t % n) = l - t % n := IntWalk.i64_in _ (by omega)
  have hw2 : IntKind.i64.wrap (l - t % n + n) = l - t % n + n := IntWalk.i64_in _ (by omega)
  have hw3 : (l - t % n + n).tmod n = (l - t) % n := by
    rw [Int.tmod_eq_emod_of_nonneg (by omega), Int.add_emod_right, Int.sub_emod l t n, Int.sub_emod l (t % n) n, Int.emod_emod]
  have hw4 : IntKind.i64.wrap (t + (l - t) % n) = t + (l - t) % n := IntWalk.i64_in _ (by omega)
  go_enter Try.func10, Try.ntmps10
  go_wp2_with fail
  have hb0 : Below w.heap.size w (w.alloc (Obj.cells #[Value.int IntKind.i64 n] 25)) := (Below.refl _ _).alloc (Nat.le_refl _) _
  go_region_held3 (fun w' => w'.cell? ⟨w.heap.size, 0, none⟩ = some (.int .i64 n) ∧ Below w.heap.size w w')
    ((go_split_ands; refine ⟨?_, ?_⟩; (first | go_keep | exact keep_cell (by assumption) (by assumption)); (first | exact below_two (by assumption) (by assumption) | exact below_drew (by assumption) | go_keep)))
    (first | (go_at_call 8; refine (turn_any n t _ h1 h6 t0 t1).mono ?_; rintro e w1 ⟨rfl, bel⟩))
  go_split_ands
  go_wp2
  go_ret
  exact ⟨rfl, by assumption⟩
def due (n l t a : Int) : Int := nx n l t + a * n
theorem nx_bd {n l t : Int} (h1 : 1 ≤ n) (h6 : n ≤ 6) (t0 : 0 ≤ t) : t ≤ nx n l t ∧ nx n l t < t + n := by
  unfold nx
  have p0 : 0 ≤ (l - t) % n := Int.emod_nonneg _ (by omega)
  have p1 : (l - t) % n < n := Int.emod_lt_of_pos _ (by omega)
  omega
theorem mul_bd {n a : Int} (h1 : 1 ≤ n) (h6 : n ≤ 6) (a0 : 0 ≤ a) : 0 ≤ a * n ∧ a * n ≤ a * 6 :=
  ⟨Int.mul_nonneg a0 (by omega), Int.mul_le_mul_of_nonneg_left h6 a0⟩
theorem due_any (n l t a : Int) (w : World) (h1 : 1 ≤ n) (h6 : n ≤ 6) (t0 : 0 ≤ t) (t1 : t ≤ 1099511627776) (l0 : 0 ≤ l) (l1 : l < n) (a0 : 0 ≤ a) (a1 : a ≤ 1048576) :
    Calls Try.prog 6 #[.agg #[.int .i64 n], .int .i64 l, .int .i64 t, .int .i64 a] w fun e w' => e = .returned (.int .i64 (due n l t a)) ∧ Below w.heap.size w w' := by
  have hb := nx_bd (l := l) h1 h6 t0
  have hm := mul_bd h1 h6 a0
  unfold due
  generalize hx : nx n l t = x at *
  have Hx := Lib.hid hx; clear hx
  have hne : (x == -1) = false := by rw [beq_eq_false_iff_ne]; omega
  have hmax : max a 0 = a := Int.max_eq_left a0
  obtain ⟨P, hP⟩ : ∃ P, a * n = P := ⟨_, rfl⟩
  rw [hP] at hm ⊢
  obtain ⟨hm0, hm1⟩ := hm
  obtain ⟨hb0, hb1⟩ := hb
  go_enter Try.func6, Try.ntmps6
  go_wp2_with fail
  have hc : (w.alloc (Obj.cells #[Value.int IntKind.i64 n] 25)).cell? ⟨w.heap.size, 0, none⟩ = some (.int .i64 n) := cell_of_one (heap_new _ _)
  refine (next_any n l t _ h1 h6 t0 (by omega) l0 l1).mono ?_
  rintro e w1 ⟨rfl, bel⟩
  rw [Hx.out]
  have hc1 := keep_cell hc bel
  clear hc
  have Bel := Lib.hid bel; clear bel
  go_wp2
  go_ret
  exact ⟨rfl, below_two ((Below.refl _ _).alloc (Nat.le_refl _) _) Bel.out⟩
theorem bound_any (n q : Int) (w : World) (h1 : 1 ≤ n) (h6 : n ≤ 6) (q0 : 0 ≤ q) (q1 : q ≤ 1048576) :
    Calls Try.prog 7 #[.agg #[.int .i64 n], .int .i64 q] w fun e w' => e = .returned (.int .i64 (n * (q + 1))) ∧ Below w.heap.size w w' := by
  have hm := mul_bd (a := q + 1) h1 h6 (by omega)
  rw [Int.mul_comm] at hm
  obtain ⟨P, hP⟩ : ∃ P, n * (q + 1) = P := ⟨_, rfl⟩
  rw [hP] at hm ⊢
  obtain ⟨hm0, hm1⟩ := hm
  have hmax : max q 0 = q := Int.max_eq_left q0
  go_enter Try.func7, Try.ntmps7
  go_wp2
  go_ret
  exact ⟨rfl, by go_grown⟩
theorem labels_any (n : Int) (w : World) :
    Calls Try.prog 11 #[.agg #[.int .i64 n]] w fun e w' => e = .returned (.int .i64 n) ∧ Below w.heap.size w w' := by
  go_enter Try.func11, Try.ntmps11
  go_wp2
  go_ret
  exact ⟨rfl, by go_grown⟩
theorem three_any (w : World) : Calls Try.prog 4 #[] w fun e w' => e = .returned (.bool true) ∧ Below w.heap.size w w' := by
  go_enter Try.func4, Try.ntmps4
  go_wp2_with fail
  refine (new_any 3 _ (by decide) (by decide)).mono ?_
  rintro e w1 ⟨rfl, b1⟩
  have B1 := Lib.hid b1; clear b1
  go_wp2_with fail
  have hc0 : (w1.alloc (Obj.cells #[Value.int IntKind.i64 3] 25)).cell? ⟨w1.heap.size, 0, none⟩ = some (.int .i64 3) := cell_of_one (heap_new _ _)
  have B2 := Lib.hid (B1.out.alloc B1.out.size (Obj.cells #[Value.int IntKind.i64 3] 25))
  generalize hw2 : w1.alloc (Obj.cells #[Value.int IntKind.i64 3] 25) = w2 at *
  clear hw2
  refine (turn_any 3 4 _ (by decide) (by decide) (by decide) (by decide)).mono ?_
  rintro e w3 ⟨rfl, b⟩
  have hc := keep_cell hc0 b
  have B3 := Lib.hid (below_two B2.out b)
  clear b hc0
  go_wp2_with fail
  refine (round_any 3 4 _ (by decide) (by decide) (by decide) (by decide)).mono ?_
  rintro e w4 ⟨rfl, b⟩
  have hc1 := keep_cell hc b
  have B4 := Lib.hid (below_two B3.out b)
  clear b hc
  go_wp2_with fail
  refine (next_any 3 0 4 _ (by decide) (by decide) (by decide) (by decide) (by decide) (by decide)).mono ?_
  rintro e w5 ⟨rfl, b⟩
  rw [show nx 3 0 4 = 6 from rfl]
  have hc := keep_cell hc1 b
  have B5 := Lib.hid (below_two B4.out b)
  clear b hc1
  go_wp2_with fail
  refine (due_any 3 0 4 2 _ (by decide) (by decide) (by decide) (by decide) (by decide) (by decide) (by decide) (by decide)).mono ?_
  rintro e w6 ⟨rfl, b⟩
  rw [show due 3 0 4 2 = 12 from rfl]
  have hc1 := keep_cell hc b
  have B6 := Lib.hid (below_two B5.out b)
  clear b hc
  go_wp2_with fail
  refine (bound_any 3 2 _ (by decide) (by decide) (by decide) (by decide)).mono ?_
  rintro e w7 ⟨rfl, b⟩
  have hc := keep_cell hc1 b
  have B7 := Lib.hid (below_two B6.out b)
  clear b hc1
  go_wp2_with fail
  refine (labels_any 3 _).mono ?_
  rintro e w8 ⟨rfl, b⟩
  have B8 := Lib.hid (below_two B7.out b)
  clear b
  go_wp2
  go_ret
  exact ⟨rfl, B8.out⟩
theorem nx_mod {n l t : Int} (l0 : 0 ≤ l) (l1 : l < n) : nx n l t % n = l := by
  unfold nx
  rw [Int.add_emod, Int.emod_emod, ← Int.add_emod, show t + (l - t) = l from by omega, Int.emod_eq_of_lt l0 l1]
theorem due_mod {n l t a : Int} (l0 : 0 ≤ l) (l1 : l < n) : due n l t a % n = l := by
  unfold due
  rw [Int.add_mul_emod_self_right, nx_mod l0 l1]
theorem due_div {n l t a : Int} (l1 : 1 ≤ n) : due n l t a / n - nx n l t / n = a := by
  unfold due
  rw [Int.add_mul_ediv_right _ _ (by omega)]
  omega
theorem due_bd {n l t a q : Int} (h1 : 1 ≤ n) (h6 : n ≤ 6) (t0 : 0 ≤ t) (a0 : 0 ≤ a) (a1 : a < q) : t ≤ due n l t a ∧ due n l t a < t + n * (q + 1) ∧ due n l t a ≤ t + 6 + a * 6 := by
  have h := nx_bd (l := l) h1 h6 t0
  have hm := mul_bd h1 h6 a0
  have h2 : a * n ≤ q * n := Int.mul_le_mul_of_nonneg_right (by omega) (by omega)
  have h3 : n * (q + 1) = q * n + n := by rw [Int.mul_add, Int.mul_comm, Int.mul_one]
  unfold due
  rw [h3]
  omega
set_option maxHeartbeats 1000000 in
theorem slots_main (n t l a q : Int) (w : World) (h1 : 1 ≤ n) (h6 : n ≤ 6) (l0 : 0 ≤ l) (l1 : l < n) (t0 : 0 ≤ t) (t1 : t ≤ 1099511627776) (a0 : 0 ≤ a) (aq : a < q) (q1 : q ≤ 1048576) :
    Calls Try.prog 3 #[.int .i64 n, .int .i64 t, .agg #[.int .i64 l, .int .i64 a, .int .i64 q]] w fun e w' => e = .returned (.bool true) ∧ Below w.heap.size w w' := by
  have hdm := due_mod (t := t) (a := a) l0 l1
  have hdd := due_div (l := l) (t := t) (a := a) h1
  obtain ⟨d0, d1, d2⟩ := due_bd (l := l) h1 h6 t0 a0 aq
  have hnx := nx_bd (l := l) h1 h6 t0
  have hmb := mul_bd (a := q + 1) h1 h6 (by omega)
  rw [Int.mul_comm] at hmb
  obtain ⟨B, hB⟩ : ∃ B, n * (q + 1) = B := ⟨_, rfl⟩
  obtain ⟨D, hD⟩ : ∃ D, due n l t a = D := ⟨_, rfl⟩
  obtain ⟨X, hX⟩ : ∃ X, nx n l t = X := ⟨_, rfl⟩
  rw [hB] at hmb d1
  rw [hD] at hdm hdd d0 d1 d2
  rw [hX] at hdd hnx
  obtain ⟨b0, b1⟩ := hmb
  obtain ⟨x0, x1⟩ := hnx
  have HB := Lib.hid hB; clear hB
  have HD := Lib.hid hD; clear hD
  have HX := Lib.hid hX; clear hX
  have r0 : 0 ≤ D / n := Int.ediv_nonneg (by omega) (by omega)
  have r1 : D / n ≤ D := Int.ediv_le_self n (by omega)
  have r2 : 0 ≤ X / n := Int.ediv_nonneg (by omega) (by omega)
  have r3 : X / n ≤ X := Int.ediv_le_self n (by omega)
  obtain ⟨R, hR⟩ : ∃ R, D / n = R := ⟨_, rfl⟩
  obtain ⟨U, hU⟩ : ∃ U, X / n = U := ⟨_, rfl⟩
  rw [hR] at hdd r0 r1
  rw [hU] at hdd r2 r3
  have HR := Lib.hid hR; clear hR
  have HU := Lib.hid hU; clear hU
  have HM := Lib.hid hdm; clear hdm
  have s1 : IntKind.i64.wrap (t + B) = t + B := IntWalk.i64_in _ (by omega)
  have s2 : IntKind.i64.wrap (R - U) = a := by rw [IntWalk.i64_in _ (by omega)]; omega
  have c1 : decide (t ≤ D) = true := by simp; omega
  have c2 : decide (D < t + B) = true := by simp; omega
  have HDD := Lib.hid hdd; clear hdd
  go_enter Try.func3, Try.ntmps3
  go_wp2_with fail
  refine (new_any n _ h1 h6).mono ?_
  rintro e w1 ⟨rfl, b1'⟩
  have B1 := Lib.hid (below_two ((Below.refl _ _).alloc (Nat.le_refl _) _) b1'); clear b1'
  go_wp2_with fail
  have hc0 : (w1.alloc (Obj.cells #[Value.int IntKind.i64 n] 25)).cell? ⟨w1.heap.size, 0, none⟩ = some (.int .i64 n) := cell_of_one (heap_new _ _)
  have B2 := Lib.hid (B1.out.alloc B1.out.size (Obj.cells #[Value.int IntKind.i64 n] 25))
  generalize hw2 : w1.alloc (Obj.cells #[Value.int IntKind.i64 n] 25) = w2 at *
  clear hw2
  refine (due_any n l t a _ h1 h6 t0 t1 l0 l1 a0 (by omega)).mono ?_
  rintro e w3 ⟨rfl, b⟩
  rw [HD.out]
  have hc := keep_cell hc0 b
  have b3 := below_two B2.out b
  clear b hc0
  go_wp2_with fail
  go_region_held3 (fun w' => w'.cell? ⟨w1.heap.size, 0, none⟩ = some (.int .i64 n) ∧ Below w.heap.size w w')
    ((go_split_ands; refine ⟨?_, ?_⟩; (first | go_keep | exact keep_cell (by assumption) (by assumption)); (first | exact below_two (by assumption) (by assumption) | exact below_drew (by assumption) | go_keep)))
    (first
      | (go_at_call 7; refine (bound_any n q _ h1 h6 (by omega) q1).mono ?_; rintro e w4 ⟨rfl, bel⟩; rw [HB.out])
      | (go_at_call 8; refine (turn_any n D _ h1 h6 (by omega) (by omega)).mono ?_; rintro e w4 ⟨rfl, bel⟩; rw [HM.out])
      | (go_at_call 10; refine (next_any n l t _ h1 h6 t0 (by omega) l0 l1).mono ?_; rintro e w4 ⟨rfl, bel⟩; rw [HX.out])
      | (go_at_call 4; refine (three_any _).mono ?_; rintro e w4 ⟨rfl, bel⟩)
      | (go_at_call_of 9 (Value.int IntKind.i64 D); refine (round_any n D _ h1 h6 (by omega) (by omega)).mono ?_; rintro e w4 ⟨rfl, bel⟩; rw [HR.out])
      | (go_at_call 9; refine (round_any n X _ h1 h6 (by omega) (by omega)).mono ?_; rintro e w4 ⟨rfl, bel⟩; rw [HU.out]))
  go_split_ands
  go_wp2
  go_ret
  exact ⟨rfl, by assumption⟩
theorem slotsBound_walk (n t : Int) (zs : List Int) (w : World) (hn : (Lit.int .i64 n).wf = true) (ht : (Lit.int .i64 t).wf = true) (hl : zs.length = 3) (hw : ∀ z ∈ zs, (Lit.int .i64 z).wf = true) :
    Calls Try.prog 3 #[.int .i64 n, .int .i64 t, .agg (zs.map (Value.int .i64)).toArray] w fun e w' => e = .returned (.bool true) ∧ Below w.heap.size w w' := by
  obtain ⟨l, a, q, rfl⟩ : ∃ l a q, zs = [l, a, q] := by match zs, hl with | [l, a, q], _ => exact ⟨l, a, q, rfl⟩
  show Calls Try.prog 3 #[.int .i64 n, .int .i64 t, .agg #[.int .i64 l, .int .i64 a, .int .i64 q]] w _
  clear hl hw hn ht
  by_cases hc0 : n < 1
  · go_enter Try.func3, Try.ntmps3
    go_wp2_with (go_at_call 4; refine (three_any _).mono ?_; rintro e w3 ⟨rfl, hb2⟩)
    go_ret
    exact ⟨rfl, below_two ((Below.refl _ _).alloc (Nat.le_refl _) _) hb2⟩
  by_cases hc1 : 6 < n
  · go_enter Try.func3, Try.ntmps3
    go_wp2_with (go_at_call 4; refine (three_any _).mono ?_; rintro e w3 ⟨rfl, hb2⟩)
    go_ret
    exact ⟨rfl, below_two ((Below.refl _ _).alloc (Nat.le_refl _) _) hb2⟩
  by_cases hc2 : l < 0
  · go_enter Try.func3, Try.ntmps3
    go_wp2_with (go_at_call 4; refine (three_any _).mono ?_; rintro e w3 ⟨rfl, hb2⟩)
    go_ret
    exact ⟨rfl, below_two ((Below.refl _ _).alloc (Nat.le_refl _) _) hb2⟩
  by_cases hc3 : n ≤ l
  · go_enter Try.func3, Try.ntmps3
    go_wp2_with (go_at_call 4; refine (three_any _).mono ?_; rintro e w3 ⟨rfl, hb2⟩)
    go_ret
    exact ⟨rfl, below_two ((Below.refl _ _).alloc (Nat.le_refl _) _) hb2⟩
  by_cases hc4 : t < 0
  · go_enter Try.func3, Try.ntmps3
    go_wp2_with (go_at_call 4; refine (three_any _).mono ?_; rintro e w3 ⟨rfl, hb2⟩)
    go_ret
    exact ⟨rfl, below_two ((Below.refl _ _).alloc (Nat.le_refl _) _) hb2⟩
  by_cases hc5 : 1099511627776 < t
  · go_enter Try.func3, Try.ntmps3
    go_wp2_with (go_at_call 4; refine (three_any _).mono ?_; rintro e w3 ⟨rfl, hb2⟩)
    go_ret
    exact ⟨rfl, below_two ((Below.refl _ _).alloc (Nat.le_refl _) _) hb2⟩
  by_cases hc6 : a < 0
  · go_enter Try.func3, Try.ntmps3
    go_wp2_with (go_at_call 4; refine (three_any _).mono ?_; rintro e w3 ⟨rfl, hb2⟩)
    go_ret
    exact ⟨rfl, below_two ((Below.refl _ _).alloc (Nat.le_refl _) _) hb2⟩
  by_cases hc7 : q ≤ a
  · go_enter Try.func3, Try.ntmps3
    go_wp2_with (go_at_call 4; refine (three_any _).mono ?_; rintro e w3 ⟨rfl, hb2⟩)
    go_ret
    exact ⟨rfl, below_two ((Below.refl _ _).alloc (Nat.le_refl _) _) hb2⟩
  by_cases hc8 : 1048576 < q
  · go_enter Try.func3, Try.ntmps3
    go_wp2_with (go_at_call 4; refine (three_any _).mono ?_; rintro e w3 ⟨rfl, hb2⟩)
    go_ret
    exact ⟨rfl, below_two ((Below.refl _ _).alloc (Nat.le_refl _) _) hb2⟩
  exact slots_main n t l a q w (by omega) (by omega) (by omega) (by omega) (by omega) (by omega) (by omega) (by omega) (by omega)
end Go.Proofs.Yteiienglgffmlaa
