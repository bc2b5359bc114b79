/- A nil disk; the small case of the disk's laws. -/
import Derived.Test.YtlodjkmablogcaaDJ
namespace Go.Proofs.Ytlodjkmablogcaa.Own
open Go.RowKit Go.Proofs.YtlodjkmablogcaaW.PrintWords Go.Proofs.Ytlodjkmablogcaa.PB
set_option maxRecDepth 100000
set_option linter.unusedSimpArgs false
set_option linter.unusedVariables false
theorem size_nil (w : World) : Calls Try.prog 23 #[.pointer none] w fun e w' => e = .returned (.int .i64 0) ∧ w = w' := by
  go_enter Try.func23, Try.ntmps23
  go_wp2
  go_ret
  exact ⟨rfl, rfl⟩
theorem lies_nil (i : Int) (w : World) : Calls Try.prog 13 #[.pointer none, .int .i64 i] w fun e w' => e = .returned (.tuple #[.string ⟨#[]⟩, .int .i64 7]) ∧ w = w' := by
  go_enter Try.func13, Try.ntmps13
  go_wp2
  go_ret2
  exact ⟨rfl, rfl⟩
theorem read_nil (i : Int) (w : World) : Calls Try.prog 12 #[.pointer none, .int .i64 i] w fun e w' => e = .returned (.tuple #[.string ⟨#[]⟩, .int .i64 7]) ∧ w = w' := by
  go_enter Try.func12, Try.ntmps12
  go_wp2_with fail
  refine (lies_nil i _).mono ?_
  rintro e w7 ⟨rfl, rfl⟩
  go_wp2
  go_ret2
  exact ⟨rfl, rfl⟩
theorem write_nil (i : Int) (s : ByteArray) (w : World) : Calls Try.prog 21 #[.pointer none, .int .i64 i, .string s] w fun e w' => e = .returned (.int .i64 7) ∧ w = w' := by
  go_enter Try.func21, Try.ntmps21
  go_wp2
  go_ret
  exact ⟨rfl, rfl⟩
theorem flush_nil (i j : Int) (w : World) : Calls Try.prog 19 #[.pointer none, .int .i64 i, .int .i64 j] w fun e w' => e = .returned (.int .i64 7) ∧ w = w' := by
  go_enter Try.func19, Try.ntmps19
  go_wp2
  go_ret
  exact ⟨rfl, rfl⟩
theorem crash_nil (i j : Int) (K : Value) (w : World) : Calls Try.prog 20 #[.pointer none, .int .i64 i, .int .i64 j, K] w fun e w' => e = .returned (.int .i64 7) ∧ w = w' := by
  go_enter Try.func20, Try.ntmps20
  go_wp2
  go_ret
  exact ⟨rfl, rfl⟩
theorem waiting_nil (i j : Int) (w : World) : Calls Try.prog 17 #[.pointer none, .int .i64 i, .int .i64 j] w fun e w' => e = .returned (.int .i64 0) ∧ w = w' := by
  go_enter Try.func17, Try.ntmps17
  go_wp2
  go_ret
  exact ⟨rfl, rfl⟩
def L4 : List ByteArray := [zeroB, zeroB, zeroB, zeroB]
def X1 : List S79 := [⟨1, fillB 120⟩]
def K3 : ByteArray := keepB (fillB 120) zeroB 3
theorem fill0 : fillB 0 = zeroB := rfl
theorem in4 : inF 0 2 X1 = X1 := rfl
theorem out4 : outF 0 2 X1 = [] := rfl
theorem crash4 : crashF L4 X1 [⟨0, 3⟩] = [zeroB, K3, zeroB, zeroB] := by kernel_rfl
theorem sum3 : (⟨#[120, 120, 120]⟩ : ByteArray) ++ (fillB 0).extract 3 64 = K3 := by kernel_rfl
theorem sum3' : (⟨#[120, 120, 120]⟩ : ByteArray) ++ (fillB 0).extract 3 (fillB 0).size = K3 := by kernel_rfl
/-- A disk, and what became of the world. -/
structure DW (B g o : Nat) (v : Value) (L : List ByteArray) (W : List S79) (w0 w : World) : Prop where
  d : DS B g o v L W w
  b : Below w0.heap.size w0 w
theorem DW.below {B g o : Nat} {v : Value} {L : List ByteArray} {W : List S79} {w0 w w1 : World} (h : DW B g o v L W w0 w) (hb : Below w.heap.size w w1) : DW B g o v L W w0 w1 := ⟨h.d.below hb, below_two h.b hb⟩
theorem DW.fr {B g o : Nat} {v v' : Value} {L L' : List ByteArray} {W W' : List S79} {w0 w w1 : World} (h : DW B g o v L W w0 w) (hB : w0.heap.size ≤ B) (hd : DS B g o v' L' W' w1) (hf : Fr (FS g o v) w w1) : DW B g o v' L' W' w0 w1 :=
  ⟨hd, h.b.trans (hf.to_below (fun k hk => Nat.le_trans hB (FS.lo h.d k hk)) h.b.size)⟩
set_option maxHeartbeats 2000000 in
theorem torn_any (w : World) : Calls Try.prog 9 #[] w fun e w' => e = .returned (.bool true) ∧ Below w.heap.size w w' := by
  go_enter Try.func9, Try.ntmps9
  go_wp2_with fail
  refine (new_ok 4 w (by decide) (by decide)).mono ?_
  rintro e w1 ⟨rfl, hd, hb⟩
  have D1 := Lib.hid (show DW w.heap.size (w.heap.size + 1) w.heap.size (.slice none 0 0) L4 [] w w1 from ⟨hd, hb⟩)
  clear hd hb
  go_wp2_with fail
  refine (fill_any 120 w1).mono ?_
  rintro e w2 ⟨rfl, b2⟩
  have D2 := Lib.hid (D1.out.below b2)
  clear b2
  go_wp2_with fail
  refine (write_ok D2.out.d 1 (by decide) (fillB 120) (fillB_size _) (by decide)).mono ?_
  rintro e w3 ⟨rfl, v3, hd, hf, _⟩
  have D3 := Lib.hid (show DW w.heap.size (w.heap.size + 1) w.heap.size v3 L4 X1 w w3 from D2.out.fr (Nat.le_refl _) hd hf)
  clear hd hf
  go_wp2_with fail
  refine (read_ok D3.out.d 1 (by decide)).mono ?_
  rintro e w4 ⟨rfl, b4⟩
  rw [show readF ((1 : Nat) : Int) (L4.getD 1 ByteArray.empty) X1 = fillB 120 from rfl]
  have D4 := Lib.hid (D3.out.below b4)
  clear b4
  go_wp2_with fail
  refine (lies_ok D4.out.d 1 (by decide)).mono ?_
  rintro e w5 ⟨rfl, rfl⟩
  rw [show L4.getD 1 ByteArray.empty = zeroB from rfl]
  have BK : Below w4.heap.size w4 (w4.alloc (.cells #[.int .i64 0, .int .i64 3] 52)) := (Below.refl _ _).alloc (Nat.le_refl _) _
  have D5 := Lib.hid (D4.out.below BK)
  have KB := Lib.hid (heap_new w4 (.cells #[.int .i64 0, .int .i64 3] 52))
  clear BK
  go_wp2_with fail
  generalize hw5 : w4.alloc (.cells #[.int .i64 0, .int .i64 3] 52) = w5 at *
  generalize hq : w4.heap.size = qb at *
  have HQ := Lib.hid hq; clear hq
  refine (crash_ok D5.out.d 0 2 (by decide) (by decide) (some ⟨qb, 0, none⟩) 1 [⟨0, 3⟩] (by decide) ?_ (by decide)).mono ?_
  · intro W' hf
    have hk := (hf.block qb (blk_lt KB.out) (fun hS => by have := fs_lt D4.out.d qb hS; have := HQ.out; omega)).trans KB.out
    refine ⟨rfl, by decide, fun _ => ⟨_, rfl, fun j p hj => ?_⟩⟩
    cases j with
    | succ j => simp at hj
    | zero =>
      simp at hj
      subst hj
      refine ⟨[.int .i64 0, .int .i64 3], rfl, k52_mk _ _, fun i u hu => ?_⟩
      rw [Go.WideShapes.add_plain, blk_cell hk, Nat.zero_mul, Nat.zero_add, Nat.zero_add]
      rw [show (#[Value.int .i64 0, Value.int .i64 3] : Array Value) = [Value.int .i64 0, Value.int .i64 3].toArray from rfl, List.getElem?_toArray]
      exact hu
  rintro e w6 ⟨rfl, v6, hd, hf, _⟩
  have D6 := Lib.hid (show DW w.heap.size (w.heap.size + 1) w.heap.size v6 [zeroB, K3, zeroB, zeroB] [] w w6 from by
    have := D5.out.fr (Nat.le_refl _) hd hf
    rw [in4, out4, crash4] at this
    exact this)
  clear hd hf
  go_wp2_with fail
  refine (read_ok D6.out.d 1 (by decide)).mono ?_
  rintro e w7 ⟨rfl, b7⟩
  rw [show readF ((1 : Nat) : Int) ([zeroB, K3, zeroB, zeroB].getD 1 ByteArray.empty) [] = K3 from rfl]
  have D7 := Lib.hid (D6.out.below b7)
  clear b7
  go_wp2_with fail
  refine (fill_any 120 w7).mono ?_
  rintro e w8 ⟨rfl, b8⟩
  have D8 := Lib.hid (D7.out.below b8)
  clear b8
  go_wp2_with fail
  refine (fill_any 0 w8).mono ?_
  rintro e w9 ⟨rfl, b9⟩
  rw [fill0]
  have D9 := Lib.hid (D8.out.below b9)
  clear b9
  go_wp2_with fail
  refine (fill_any 0 w9).mono ?_
  rintro e w10 ⟨rfl, b10⟩
  rw [fill0]
  have D10 := Lib.hid (D9.out.below b10)
  clear b10
  have hz := zeroB_size
  have hs := sum3
  have hs' := sum3'
  rw [fill0] at hs hs'
  generalize zeroB = zz at hz hs hs' ⊢
  go_wp2_with fail
  refine (size_any D10.out.d).mono ?_
  rintro e w11 ⟨rfl, rfl⟩
  rw [show ((([zeroB, K3, zeroB, zeroB] : List ByteArray).length : Nat) : Int) = 4 from rfl]
  go_wp2
  go_ret
  exact ⟨rfl, D10.out.b⟩
/-- A call in its box. -/
structure DN (kd at_ n : Int) (c : UInt8) (ks : Value) (w0 w : World) : Prop where
  c0 : w.cell? ⟨w0.heap.size, 0, none⟩ = some (.int .i64 kd)
  c1 : w.cell? ⟨w0.heap.size, 1, none⟩ = some (.int .i64 at_)
  c2 : w.cell? ⟨w0.heap.size, 2, none⟩ = some (.int .i64 n)
  c3 : w.cell? ⟨w0.heap.size, 3, none⟩ = some (.int .u8 (c.toNat : Int))
  c4 : w.cell? ⟨w0.heap.size, 4, none⟩ = some ks
  b : Below w0.heap.size w0 w
theorem DN.below {kd at_ n : Int} {c : UInt8} {ks : Value} {w0 w w1 : World} (h : DN kd at_ n c ks w0 w) (hb : Below w.heap.size w w1) : DN kd at_ n c ks w0 w1 :=
  have hl := World.block_lt_of_cell? w _ h.c0
  ⟨(hb.cell (p := ⟨w0.heap.size, 0, none⟩) hl).trans h.c0, (hb.cell (p := ⟨w0.heap.size, 1, none⟩) hl).trans h.c1, (hb.cell (p := ⟨w0.heap.size, 2, none⟩) hl).trans h.c2, (hb.cell (p := ⟨w0.heap.size, 3, none⟩) hl).trans h.c3, (hb.cell (p := ⟨w0.heap.size, 4, none⟩) hl).trans h.c4, below_two h.b hb⟩
theorem DN.drew {kd at_ n : Int} {c : UInt8} {ks : Value} {w0 w : World} (h : DN kd at_ n c ks w0 w) : DN kd at_ n c ks w0 w.drew := ⟨h.c0, h.c1, h.c2, h.c3, h.c4, h.b.drew⟩
theorem DN.start (kd at_ n : Int) (c : UInt8) (ks : Value) (w0 : World) : DN kd at_ n c ks w0 (w0.alloc (.cells #[.int .i64 kd, .int .i64 at_, .int .i64 n, .int .u8 (c.toNat : Int), ks] 25)) :=
  ⟨(blk_cell (heap_new _ _) 0).trans rfl, (blk_cell (heap_new _ _) 1).trans rfl, (blk_cell (heap_new _ _) 2).trans rfl, (blk_cell (heap_new _ _) 3).trans rfl, (blk_cell (heap_new _ _) 4).trans rfl, (Below.refl _ _).alloc (Nat.le_refl _) _⟩
set_option maxHeartbeats 4000000 in
theorem diskNil_any (kd at_ n c : Int) (ks : List S52) (A : Option Addr) (p : Nat) (w : World) (hc : 0 ≤ c) (hc2 : c ≤ 255) (hl : ks.length ≤ 9223372036854775807) :
    Calls Try.prog 7 #[.agg #[.int .i64 kd, .int .i64 at_, .int .i64 n, .int .u8 c, .slice A ks.length p]] w fun e w' => e = .returned (.bool true) ∧ Below w.heap.size w w' := by
  obtain ⟨c, rfl⟩ : ∃ u : UInt8, c = (u.toNat : Int) := ⟨UInt8.ofNat c.toNat, by simp [UInt8.toNat_ofNat']; omega⟩
  clear hc hc2
  have D := DN.start kd at_ n c (.slice A ks.length p) w
  by_cases hbig : 40 < ks.length
  · have hbig' : (40 : Int) < (ks.length : Int) := by omega
    obtain ⟨q0, q1, q2, q3, q4, q5⟩ := D
    have Q5 := Lib.hid q5; clear q5
    go_enter Try.func7, Try.ntmps7
    go_wp2_with fail
    refine (torn_any _).mono ?_
    rintro e w7 ⟨rfl, b7⟩
    go_wp2
    go_ret
    exact ⟨rfl, below_two Q5.out b7⟩
  · have hbig' : ¬ (40 : Int) < (ks.length : Int) := by omega
    have hbig2 : decide ((40 : Int) < (ks.length : Int)) = false := by simpa using hbig'
    have HD := Lib.hid D
    obtain ⟨q0, q1, q2, q3, q4, q5⟩ := D
    clear q5
    go_enter Try.func7, Try.ntmps7
    go_wp2_with fail
    refine (read_nil _ _).mono ?_
    rintro e w7 ⟨rfl, rfl⟩
    go_wp2_with fail
    refine (lies_nil _ _).mono ?_
    rintro e w7 ⟨rfl, rfl⟩
    go_upto_region 6 with (fail)
    generalize w.alloc (.cells #[.int .i64 kd, .int .i64 at_, .int .i64 n, .int .u8 (c.toNat : Int), .slice A ks.length p] 25) = W1 at *
    clear hbig hbig' hbig2 hl q0 q1 q2 q3 q4
    refine wp_region_held_drew (S := DN kd at_ n c (.slice A ks.length p) w) (by kernel_rfl) (DN.drew HD.out) (fun hHeld => ?_)
    refine wpAnyH_take (i := 0) (oi := { dst := some 27, op := Op.move (Operand.tmp 4), type := 9, pos := "law.go:247", after := #[], guard := none }) (v := ?_) rfl (by kernel_rfl) (by kernel_rfl) (by kernel_rfl) (fun _ _ _ h => h) (Or.inl ⟨by rfl, ?_⟩) hHeld ?_; rotate_left 1; (intro w9 hSw; obtain ⟨q0, q1, q2, q3, q4, q5⟩ := hSw; clear q5; go_simp; first | done | with_reducible rfl); (try simp only [Act.put, List.setIfInBounds_toArray, List.set_cons_zero, List.set_cons_succ])
    refine wpAnyH_take (i := 1) (oi := { dst := some 28, op := Op.binOp BinOp.eql 9 (Operand.tmp 27) (Operand.const (Value.string { data := #[] })) 9, type := 4, pos := "law.go:247", after := #[{ on := 0, ground := Ground.data }], guard := none }) (v := ?_) rfl (by kernel_rfl) (by kernel_rfl) (by kernel_rfl) (fun _ _ _ h => h) (Or.inl ⟨by rfl, ?_⟩) hHeld ?_; rotate_left 1; (intro w9 hSw; obtain ⟨q0, q1, q2, q3, q4, q5⟩ := hSw; clear q5; go_simp; first | done | with_reducible rfl); (try simp only [Act.put, List.setIfInBounds_toArray, List.set_cons_zero, List.set_cons_succ])
    refine wpAnyH_take (i := 2) (oi := { dst := some 29, op := Op.move (Operand.tmp 28), type := 4, pos := "law.go:247", after := #[{ on := 1, ground := Ground.data }], guard := none }) (v := ?_) rfl (by kernel_rfl) (by kernel_rfl) (by kernel_rfl) (fun _ _ _ h => h) (Or.inl ⟨by rfl, ?_⟩) hHeld ?_; rotate_left 1; (intro w9 hSw; obtain ⟨q0, q1, q2, q3, q4, q5⟩ := hSw; clear q5; go_simp; first | done | with_reducible rfl); (try simp only [Act.put, List.setIfInBounds_toArray, List.set_cons_zero, List.set_cons_succ])
    refine wpAnyH_take (i := 3) (oi := { dst := some 30, op := Op.move (Operand.tmp 6), type := 9, pos := "law.go:247", after := #[{ on := 2, ground := Ground.guard }], guard := some (2, true) }) (v := ?_) rfl (by kernel_rfl) (by kernel_rfl) (by kernel_rfl) (fun _ _ _ h => h) (Or.inl ⟨by rfl, ?_⟩) hHeld ?_; rotate_left 1; (intro w9 hSw; obtain ⟨q0, q1, q2, q3, q4, q5⟩ := hSw; clear q5; go_simp; first | done | with_reducible rfl); (try simp only [Act.put, List.setIfInBounds_toArray, List.set_cons_zero, List.set_cons_succ])
    refine wpAnyH_take (i := 4) (oi := { dst := some 31, op := Op.binOp BinOp.eql 9 (Operand.tmp 30) (Operand.const (Value.string { data := #[] })) 9, type := 4, pos := "law.go:247", after := #[{ on := 3, ground := Ground.data }, { on := 2, ground := Ground.guard }], guard := some (2, true) }) (v := ?_) rfl (by kernel_rfl) (by kernel_rfl) (by kernel_rfl) (fun _ _ _ h => h) (Or.inl ⟨by rfl, ?_⟩) hHeld ?_; rotate_left 1; (intro w9 hSw; obtain ⟨q0, q1, q2, q3, q4, q5⟩ := hSw; clear q5; go_simp; first | done | with_reducible rfl); (try simp only [Act.put, List.setIfInBounds_toArray, List.set_cons_zero, List.set_cons_succ])
    refine wpAnyH_take (i := 5) (oi := { dst := some 32, op := Op.pick (Operand.tmp 29) (Operand.tmp 31) (Operand.const (Value.bool false)), type := 4, pos := "law.go:247", after := #[{ on := 2, ground := Ground.data }, { on := 4, ground := Ground.data }], guard := none }) (v := ?_) rfl (by kernel_rfl) (by kernel_rfl) (by kernel_rfl) (fun _ _ _ h => h) (Or.inl ⟨by rfl, ?_⟩) hHeld ?_; rotate_left 1; (intro w9 hSw; obtain ⟨q0, q1, q2, q3, q4, q5⟩ := hSw; clear q5; go_simp; first | done | with_reducible rfl); (try simp only [Act.put, List.setIfInBounds_toArray, List.set_cons_zero, List.set_cons_succ])
    refine wpAnyH_take (i := 6) (oi := { dst := some 33, op := Op.move (Operand.tmp 32), type := 4, pos := "law.go:247", after := #[{ on := 5, ground := Ground.data }, { on := 2, ground := Ground.chain }], guard := none }) (v := ?_) rfl (by kernel_rfl) (by kernel_rfl) (by kernel_rfl) (fun _ _ _ h => h) (Or.inl ⟨by rfl, ?_⟩) hHeld ?_; rotate_left 1; (intro w9 hSw; obtain ⟨q0, q1, q2, q3, q4, q5⟩ := hSw; clear q5; go_simp; first | done | with_reducible rfl); (try simp only [Act.put, List.setIfInBounds_toArray, List.set_cons_zero, List.set_cons_succ])
    refine wpAnyH_take (i := 7) (oi := { dst := some 34, op := Op.move (Operand.tmp 5), type := 29, pos := "law.go:247", after := #[{ on := 6, ground := Ground.guard }], guard := some (6, true) }) (v := ?_) rfl (by kernel_rfl) (by kernel_rfl) (by kernel_rfl) (fun _ _ _ h => h) (Or.inl ⟨by rfl, ?_⟩) hHeld ?_; rotate_left 1; (intro w9 hSw; obtain ⟨q0, q1, q2, q3, q4, q5⟩ := hSw; clear q5; go_simp; first | done | with_reducible rfl); (try simp only [Act.put, List.setIfInBounds_toArray, List.set_cons_zero, List.set_cons_succ])
    refine wpAnyH_take (i := 8) (oi := { dst := some 35, op := Op.binOp BinOp.eql 29 (Operand.tmp 34) (Operand.const (Value.int IntKind.i64 7)) 29, type := 4, pos := "law.go:247", after := #[{ on := 7, ground := Ground.data }, { on := 6, ground := Ground.guard }], guard := some (6, true) }) (v := ?_) rfl (by kernel_rfl) (by kernel_rfl) (by kernel_rfl) (fun _ _ _ h => h) (Or.inl ⟨by rfl, ?_⟩) hHeld ?_; rotate_left 1; (intro w9 hSw; obtain ⟨q0, q1, q2, q3, q4, q5⟩ := hSw; clear q5; go_simp; first | done | with_reducible rfl); (try simp only [Act.put, List.setIfInBounds_toArray, List.set_cons_zero, List.set_cons_succ])
    refine wpAnyH_take (i := 9) (oi := { dst := some 36, op := Op.pick (Operand.tmp 33) (Operand.tmp 35) (Operand.const (Value.bool false)), type := 4, pos := "law.go:247", after := #[{ on := 6, ground := Ground.data }, { on := 8, ground := Ground.data }], guard := none }) (v := ?_) rfl (by kernel_rfl) (by kernel_rfl) (by kernel_rfl) (fun _ _ _ h => h) (Or.inl ⟨by rfl, ?_⟩) hHeld ?_; rotate_left 1; (intro w9 hSw; obtain ⟨q0, q1, q2, q3, q4, q5⟩ := hSw; clear q5; go_simp; first | done | with_reducible rfl); (try simp only [Act.put, List.setIfInBounds_toArray, List.set_cons_zero, List.set_cons_succ])
    refine wpAnyH_take (i := 10) (oi := { dst := some 37, op := Op.move (Operand.tmp 36), type := 4, pos := "law.go:247", after := #[{ on := 9, ground := Ground.data }, { on := 6, ground := Ground.chain }], guard := none }) (v := ?_) rfl (by kernel_rfl) (by kernel_rfl) (by kernel_rfl) (fun _ _ _ h => h) (Or.inl ⟨by rfl, ?_⟩) hHeld ?_; rotate_left 1; (intro w9 hSw; obtain ⟨q0, q1, q2, q3, q4, q5⟩ := hSw; clear q5; go_simp; first | done | with_reducible rfl); (try simp only [Act.put, List.setIfInBounds_toArray, List.set_cons_zero, List.set_cons_succ])
    refine wpAnyH_take (i := 11) (oi := { dst := some 38, op := Op.move (Operand.tmp 7), type := 29, pos := "law.go:247", after := #[{ on := 10, ground := Ground.guard }], guard := some (10, true) }) (v := ?_) rfl (by kernel_rfl) (by kernel_rfl) (by kernel_rfl) (fun _ _ _ h => h) (Or.inl ⟨by rfl, ?_⟩) hHeld ?_; rotate_left 1; (intro w9 hSw; obtain ⟨q0, q1, q2, q3, q4, q5⟩ := hSw; clear q5; go_simp; first | done | with_reducible rfl); (try simp only [Act.put, List.setIfInBounds_toArray, List.set_cons_zero, List.set_cons_succ])
    refine wpAnyH_take (i := 12) (oi := { dst := some 39, op := Op.binOp BinOp.eql 29 (Operand.tmp 38) (Operand.const (Value.int IntKind.i64 7)) 29, type := 4, pos := "law.go:247", after := #[{ on := 11, ground := Ground.data }, { on := 10, ground := Ground.guard }], guard := some (10, true) }) (v := ?_) rfl (by kernel_rfl) (by kernel_rfl) (by kernel_rfl) (fun _ _ _ h => h) (Or.inl ⟨by rfl, ?_⟩) hHeld ?_; rotate_left 1; (intro w9 hSw; obtain ⟨q0, q1, q2, q3, q4, q5⟩ := hSw; clear q5; go_simp; first | done | with_reducible rfl); (try simp only [Act.put, List.setIfInBounds_toArray, List.set_cons_zero, List.set_cons_succ])
    refine wpAnyH_take (i := 13) (oi := { dst := some 40, op := Op.pick (Operand.tmp 37) (Operand.tmp 39) (Operand.const (Value.bool false)), type := 4, pos := "law.go:247", after := #[{ on := 10, ground := Ground.data }, { on := 12, ground := Ground.data }], guard := none }) (v := ?_) rfl (by kernel_rfl) (by kernel_rfl) (by kernel_rfl) (fun _ _ _ h => h) (Or.inl ⟨by rfl, ?_⟩) hHeld ?_; rotate_left 1; (intro w9 hSw; obtain ⟨q0, q1, q2, q3, q4, q5⟩ := hSw; clear q5; go_simp; first | done | with_reducible rfl); (try simp only [Act.put, List.setIfInBounds_toArray, List.set_cons_zero, List.set_cons_succ])
    refine wpAnyH_take (i := 14) (oi := { dst := some 41, op := Op.move (Operand.tmp 40), type := 4, pos := "law.go:247", after := #[{ on := 13, ground := Ground.data }, { on := 10, ground := Ground.chain }], guard := none }) (v := ?_) rfl (by kernel_rfl) (by kernel_rfl) (by kernel_rfl) (fun _ _ _ h => h) (Or.inl ⟨by rfl, ?_⟩) hHeld ?_; rotate_left 1; (intro w9 hSw; obtain ⟨q0, q1, q2, q3, q4, q5⟩ := hSw; clear q5; go_simp; first | done | with_reducible rfl); (try simp only [Act.put, List.setIfInBounds_toArray, List.set_cons_zero, List.set_cons_succ])
    refine wpAnyH_take (i := 15) (oi := { dst := some 42, op := Op.move (Operand.tmp 3), type := 28, pos := "law.go:247", after := #[{ on := 14, ground := Ground.guard }], guard := some (14, true) }) (v := ?_) rfl (by kernel_rfl) (by kernel_rfl) (by kernel_rfl) (fun _ _ _ h => h) (Or.inl ⟨by rfl, ?_⟩) hHeld ?_; rotate_left 1; (intro w9 hSw; obtain ⟨q0, q1, q2, q3, q4, q5⟩ := hSw; clear q5; go_simp; first | done | with_reducible rfl); (try simp only [Act.put, List.setIfInBounds_toArray, List.set_cons_zero, List.set_cons_succ])
    refine wpAnyH_take (i := 16) (oi := { dst := some 43, op := Op.fieldAddr 25 (Operand.tmp 1) 1, type := 0, pos := "law.go:247", after := #[{ on := 14, ground := Ground.guard }], guard := some (14, true) }) (v := ?_) rfl (by kernel_rfl) (by kernel_rfl) (by kernel_rfl) (fun _ _ _ h => h) (Or.inl ⟨by rfl, ?_⟩) hHeld ?_; rotate_left 1; (intro w9 hSw; obtain ⟨q0, q1, q2, q3, q4, q5⟩ := hSw; clear q5; go_simp; first | done | with_reducible rfl); (try simp only [Act.put, List.setIfInBounds_toArray, List.set_cons_zero, List.set_cons_succ])
    refine wpAnyH_take (i := 17) (oi := { dst := some 44, op := Op.load 3 (Operand.tmp 43), type := 3, pos := "law.go:247", after := #[{ on := 16, ground := Ground.data }, { on := 14, ground := Ground.guard }], guard := some (14, true) }) (v := ?_) rfl (by kernel_rfl) (by kernel_rfl) (by kernel_rfl) (fun _ _ _ h => h) (Or.inl ⟨by rfl, ?_⟩) hHeld ?_; rotate_left 1; (intro w9 hSw; obtain ⟨q0, q1, q2, q3, q4, q5⟩ := hSw; clear q5; go_simp; first | done | with_reducible rfl); (try simp only [Act.put, List.setIfInBounds_toArray, List.set_cons_zero, List.set_cons_succ])
    refine wpAnyH_take (i := 18) (oi := { dst := some 45, op := Op.load 25 (Operand.tmp 1), type := 25, pos := "law.go:247", after := #[{ on := 14, ground := Ground.guard }], guard := some (14, true) }) (v := ?_) rfl (by kernel_rfl) (by kernel_rfl) (by kernel_rfl) (fun _ _ _ h => h) (Or.inl ⟨by rfl, ?_⟩) hHeld ?_; rotate_left 1; (intro w9 hSw; obtain ⟨q0, q1, q2, q3, q4, q5⟩ := hSw; clear q5; go_simp; first | done | with_reducible rfl); (try simp only [Act.put, List.setIfInBounds_toArray, List.set_cons_zero, List.set_cons_succ])
    refine wpAnyH_ready (rs := [19]) (by kernel_rfl) (by simp) ?_; refine AllReadyH.cons (o := { dst := some 46, op := Op.call { callee := Callee.value (Operand.func 22), args := #[Operand.tmp 45], argTypes := #[25] }, type := 9, pos := "law.go:247", after := #[{ on := 18, ground := Ground.data }, { on := 14, ground := Ground.chain }, { on := 14, ground := Ground.guard }], guard := some (14, true) }) rfl (fun K hK => ?_) AllReadyH.nil; go_simp; refine (text_any kd at_ n c _ _ ⟨_, _, _, rfl⟩).mono ?_; rintro e w4 ⟨rfl, bel⟩; (try go_wp2_with fail); refine hK.out _ _ (DN.below hHeld bel) (fun hHeld => ?_); clear hK; (try simp only [Act.put, List.setIfInBounds_toArray, List.set_cons_zero, List.set_cons_succ])
    refine wpAnyH_ready (rs := [20]) (by kernel_rfl) (by simp) ?_; refine AllReadyH.cons (o := { dst := some 47, op := Op.call { callee := Callee.value (Operand.func 21), args := #[Operand.tmp 42, Operand.tmp 44, Operand.tmp 46], argTypes := #[28, 3, 9] }, type := 29, pos := "law.go:247", after := #[{ on := 15, ground := Ground.data }, { on := 17, ground := Ground.data }, { on := 19, ground := Ground.data }, { on := 19, ground := Ground.chain }, { on := 14, ground := Ground.guard }], guard := some (14, true) }) rfl (fun K hK => ?_) AllReadyH.nil; go_simp; refine (write_nil _ _ _).mono ?_; rintro e w4 ⟨rfl, rfl⟩; (try go_wp2_with fail); refine hK.out _ _ hHeld (fun hHeld => ?_); clear hK; (try simp only [Act.put, List.setIfInBounds_toArray, List.set_cons_zero, List.set_cons_succ])
    refine wpAnyH_take (i := 21) (oi := { dst := some 48, op := Op.binOp BinOp.eql 29 (Operand.tmp 47) (Operand.const (Value.int IntKind.i64 7)) 29, type := 4, pos := "law.go:247", after := #[{ on := 20, ground := Ground.data }, { on := 14, ground := Ground.guard }], guard := some (14, true) }) (v := ?_) rfl (by kernel_rfl) (by kernel_rfl) (by kernel_rfl) (fun _ _ _ h => h) (Or.inl ⟨by rfl, ?_⟩) hHeld ?_; rotate_left 1; (intro w9 hSw; obtain ⟨q0, q1, q2, q3, q4, q5⟩ := hSw; clear q5; go_simp; first | done | with_reducible rfl); (try simp only [Act.put, List.setIfInBounds_toArray, List.set_cons_zero, List.set_cons_succ])
    refine wpAnyH_take (i := 22) (oi := { dst := some 49, op := Op.pick (Operand.tmp 41) (Operand.tmp 48) (Operand.const (Value.bool false)), type := 4, pos := "law.go:247", after := #[{ on := 14, ground := Ground.data }, { on := 21, ground := Ground.data }], guard := none }) (v := ?_) rfl (by kernel_rfl) (by kernel_rfl) (by kernel_rfl) (fun _ _ _ h => h) (Or.inl ⟨by rfl, ?_⟩) hHeld ?_; rotate_left 1; (intro w9 hSw; obtain ⟨q0, q1, q2, q3, q4, q5⟩ := hSw; clear q5; go_simp; first | done | with_reducible rfl); (try simp only [Act.put, List.setIfInBounds_toArray, List.set_cons_zero, List.set_cons_succ])
    refine wpAnyH_take (i := 23) (oi := { dst := some 50, op := Op.move (Operand.tmp 49), type := 4, pos := "law.go:247", after := #[{ on := 22, ground := Ground.data }, { on := 20, ground := Ground.chain }], guard := none }) (v := ?_) rfl (by kernel_rfl) (by kernel_rfl) (by kernel_rfl) (fun _ _ _ h => h) (Or.inl ⟨by rfl, ?_⟩) hHeld ?_; rotate_left 1; (intro w9 hSw; obtain ⟨q0, q1, q2, q3, q4, q5⟩ := hSw; clear q5; go_simp; first | done | with_reducible rfl); (try simp only [Act.put, List.setIfInBounds_toArray, List.set_cons_zero, List.set_cons_succ])
    refine wpAnyH_take (i := 24) (oi := { dst := some 51, op := Op.move (Operand.tmp 3), type := 28, pos := "law.go:247", after := #[{ on := 23, ground := Ground.guard }], guard := some (23, true) }) (v := ?_) rfl (by kernel_rfl) (by kernel_rfl) (by kernel_rfl) (fun _ _ _ h => h) (Or.inl ⟨by rfl, ?_⟩) hHeld ?_; rotate_left 1; (intro w9 hSw; obtain ⟨q0, q1, q2, q3, q4, q5⟩ := hSw; clear q5; go_simp; first | done | with_reducible rfl); (try simp only [Act.put, List.setIfInBounds_toArray, List.set_cons_zero, List.set_cons_succ])
    refine wpAnyH_take (i := 25) (oi := { dst := some 52, op := Op.fieldAddr 25 (Operand.tmp 1) 1, type := 0, pos := "law.go:247", after := #[{ on := 23, ground := Ground.guard }], guard := some (23, true) }) (v := ?_) rfl (by kernel_rfl) (by kernel_rfl) (by kernel_rfl) (fun _ _ _ h => h) (Or.inl ⟨by rfl, ?_⟩) hHeld ?_; rotate_left 1; (intro w9 hSw; obtain ⟨q0, q1, q2, q3, q4, q5⟩ := hSw; clear q5; go_simp; first | done | with_reducible rfl); (try simp only [Act.put, List.setIfInBounds_toArray, List.set_cons_zero, List.set_cons_succ])
    refine wpAnyH_take (i := 26) (oi := { dst := some 53, op := Op.load 3 (Operand.tmp 52), type := 3, pos := "law.go:247", after := #[{ on := 25, ground := Ground.data }, { on := 23, ground := Ground.guard }], guard := some (23, true) }) (v := ?_) rfl (by kernel_rfl) (by kernel_rfl) (by kernel_rfl) (fun _ _ _ h => h) (Or.inl ⟨by rfl, ?_⟩) hHeld ?_; rotate_left 1; (intro w9 hSw; obtain ⟨q0, q1, q2, q3, q4, q5⟩ := hSw; clear q5; go_simp; first | done | with_reducible rfl); (try simp only [Act.put, List.setIfInBounds_toArray, List.set_cons_zero, List.set_cons_succ])
    refine wpAnyH_take (i := 27) (oi := { dst := some 54, op := Op.fieldAddr 25 (Operand.tmp 1) 2, type := 0, pos := "law.go:247", after := #[{ on := 23, ground := Ground.guard }], guard := some (23, true) }) (v := ?_) rfl (by kernel_rfl) (by kernel_rfl) (by kernel_rfl) (fun _ _ _ h => h) (Or.inl ⟨by rfl, ?_⟩) hHeld ?_; rotate_left 1; (intro w9 hSw; obtain ⟨q0, q1, q2, q3, q4, q5⟩ := hSw; clear q5; go_simp; first | done | with_reducible rfl); (try simp only [Act.put, List.setIfInBounds_toArray, List.set_cons_zero, List.set_cons_succ])
    refine wpAnyH_take (i := 28) (oi := { dst := some 55, op := Op.load 3 (Operand.tmp 54), type := 3, pos := "law.go:247", after := #[{ on := 27, ground := Ground.data }, { on := 23, ground := Ground.guard }], guard := some (23, true) }) (v := ?_) rfl (by kernel_rfl) (by kernel_rfl) (by kernel_rfl) (fun _ _ _ h => h) (Or.inl ⟨by rfl, ?_⟩) hHeld ?_; rotate_left 1; (intro w9 hSw; obtain ⟨q0, q1, q2, q3, q4, q5⟩ := hSw; clear q5; go_simp; first | done | with_reducible rfl); (try simp only [Act.put, List.setIfInBounds_toArray, List.set_cons_zero, List.set_cons_succ])
    refine wpAnyH_ready (rs := [29]) (by kernel_rfl) (by simp) ?_; refine AllReadyH.cons (o := { dst := some 56, op := Op.call { callee := Callee.value (Operand.func 19), args := #[Operand.tmp 51, Operand.tmp 53, Operand.tmp 55], argTypes := #[28, 3, 3] }, type := 29, pos := "law.go:247", after := #[{ on := 24, ground := Ground.data }, { on := 26, ground := Ground.data }, { on := 28, ground := Ground.data }, { on := 23, ground := Ground.chain }, { on := 23, ground := Ground.guard }], guard := some (23, true) }) rfl (fun K hK => ?_) AllReadyH.nil; go_simp; refine (flush_nil _ _ _).mono ?_; rintro e w4 ⟨rfl, rfl⟩; (try go_wp2_with fail); refine hK.out _ _ hHeld (fun hHeld => ?_); clear hK; (try simp only [Act.put, List.setIfInBounds_toArray, List.set_cons_zero, List.set_cons_succ])
    refine wpAnyH_take (i := 30) (oi := { dst := some 57, op := Op.binOp BinOp.eql 29 (Operand.tmp 56) (Operand.const (Value.int IntKind.i64 7)) 29, type := 4, pos := "law.go:247", after := #[{ on := 29, ground := Ground.data }, { on := 23, ground := Ground.guard }], guard := some (23, true) }) (v := ?_) rfl (by kernel_rfl) (by kernel_rfl) (by kernel_rfl) (fun _ _ _ h => h) (Or.inl ⟨by rfl, ?_⟩) hHeld ?_; rotate_left 1; (intro w9 hSw; obtain ⟨q0, q1, q2, q3, q4, q5⟩ := hSw; clear q5; go_simp; first | done | with_reducible rfl); (try simp only [Act.put, List.setIfInBounds_toArray, List.set_cons_zero, List.set_cons_succ])
    refine wpAnyH_take (i := 31) (oi := { dst := some 58, op := Op.pick (Operand.tmp 50) (Operand.tmp 57) (Operand.const (Value.bool false)), type := 4, pos := "law.go:247", after := #[{ on := 23, ground := Ground.data }, { on := 30, ground := Ground.data }], guard := none }) (v := ?_) rfl (by kernel_rfl) (by kernel_rfl) (by kernel_rfl) (fun _ _ _ h => h) (Or.inl ⟨by rfl, ?_⟩) hHeld ?_; rotate_left 1; (intro w9 hSw; obtain ⟨q0, q1, q2, q3, q4, q5⟩ := hSw; clear q5; go_simp; first | done | with_reducible rfl); (try simp only [Act.put, List.setIfInBounds_toArray, List.set_cons_zero, List.set_cons_succ])
    refine wpAnyH_take (i := 32) (oi := { dst := some 59, op := Op.move (Operand.tmp 58), type := 4, pos := "law.go:247", after := #[{ on := 31, ground := Ground.data }, { on := 29, ground := Ground.chain }], guard := none }) (v := ?_) rfl (by kernel_rfl) (by kernel_rfl) (by kernel_rfl) (fun _ _ _ h => h) (Or.inl ⟨by rfl, ?_⟩) hHeld ?_; rotate_left 1; (intro w9 hSw; obtain ⟨q0, q1, q2, q3, q4, q5⟩ := hSw; clear q5; go_simp; first | done | with_reducible rfl); (try simp only [Act.put, List.setIfInBounds_toArray, List.set_cons_zero, List.set_cons_succ])
    refine wpAnyH_take (i := 33) (oi := { dst := some 60, op := Op.move (Operand.tmp 3), type := 28, pos := "law.go:247", after := #[{ on := 32, ground := Ground.guard }], guard := some (32, true) }) (v := ?_) rfl (by kernel_rfl) (by kernel_rfl) (by kernel_rfl) (fun _ _ _ h => h) (Or.inl ⟨by rfl, ?_⟩) hHeld ?_; rotate_left 1; (intro w9 hSw; obtain ⟨q0, q1, q2, q3, q4, q5⟩ := hSw; clear q5; go_simp; first | done | with_reducible rfl); (try simp only [Act.put, List.setIfInBounds_toArray, List.set_cons_zero, List.set_cons_succ])
    refine wpAnyH_take (i := 34) (oi := { dst := some 61, op := Op.fieldAddr 25 (Operand.tmp 1) 1, type := 0, pos := "law.go:247", after := #[{ on := 32, ground := Ground.guard }], guard := some (32, true) }) (v := ?_) rfl (by kernel_rfl) (by kernel_rfl) (by kernel_rfl) (fun _ _ _ h => h) (Or.inl ⟨by rfl, ?_⟩) hHeld ?_; rotate_left 1; (intro w9 hSw; obtain ⟨q0, q1, q2, q3, q4, q5⟩ := hSw; clear q5; go_simp; first | done | with_reducible rfl); (try simp only [Act.put, List.setIfInBounds_toArray, List.set_cons_zero, List.set_cons_succ])
    refine wpAnyH_take (i := 35) (oi := { dst := some 62, op := Op.load 3 (Operand.tmp 61), type := 3, pos := "law.go:247", after := #[{ on := 34, ground := Ground.data }, { on := 32, ground := Ground.guard }], guard := some (32, true) }) (v := ?_) rfl (by kernel_rfl) (by kernel_rfl) (by kernel_rfl) (fun _ _ _ h => h) (Or.inl ⟨by rfl, ?_⟩) hHeld ?_; rotate_left 1; (intro w9 hSw; obtain ⟨q0, q1, q2, q3, q4, q5⟩ := hSw; clear q5; go_simp; first | done | with_reducible rfl); (try simp only [Act.put, List.setIfInBounds_toArray, List.set_cons_zero, List.set_cons_succ])
    refine wpAnyH_take (i := 36) (oi := { dst := some 63, op := Op.fieldAddr 25 (Operand.tmp 1) 2, type := 0, pos := "law.go:247", after := #[{ on := 32, ground := Ground.guard }], guard := some (32, true) }) (v := ?_) rfl (by kernel_rfl) (by kernel_rfl) (by kernel_rfl) (fun _ _ _ h => h) (Or.inl ⟨by rfl, ?_⟩) hHeld ?_; rotate_left 1; (intro w9 hSw; obtain ⟨q0, q1, q2, q3, q4, q5⟩ := hSw; clear q5; go_simp; first | done | with_reducible rfl); (try simp only [Act.put, List.setIfInBounds_toArray, List.set_cons_zero, List.set_cons_succ])
    refine wpAnyH_take (i := 37) (oi := { dst := some 64, op := Op.load 3 (Operand.tmp 63), type := 3, pos := "law.go:247", after := #[{ on := 36, ground := Ground.data }, { on := 32, ground := Ground.guard }], guard := some (32, true) }) (v := ?_) rfl (by kernel_rfl) (by kernel_rfl) (by kernel_rfl) (fun _ _ _ h => h) (Or.inl ⟨by rfl, ?_⟩) hHeld ?_; rotate_left 1; (intro w9 hSw; obtain ⟨q0, q1, q2, q3, q4, q5⟩ := hSw; clear q5; go_simp; first | done | with_reducible rfl); (try simp only [Act.put, List.setIfInBounds_toArray, List.set_cons_zero, List.set_cons_succ])
    refine wpAnyH_take (i := 38) (oi := { dst := some 65, op := Op.fieldAddr 25 (Operand.tmp 1) 4, type := 0, pos := "law.go:247", after := #[{ on := 32, ground := Ground.guard }], guard := some (32, true) }) (v := ?_) rfl (by kernel_rfl) (by kernel_rfl) (by kernel_rfl) (fun _ _ _ h => h) (Or.inl ⟨by rfl, ?_⟩) hHeld ?_; rotate_left 1; (intro w9 hSw; obtain ⟨q0, q1, q2, q3, q4, q5⟩ := hSw; clear q5; go_simp; first | done | with_reducible rfl); (try simp only [Act.put, List.setIfInBounds_toArray, List.set_cons_zero, List.set_cons_succ])
    refine wpAnyH_take (i := 39) (oi := { dst := some 66, op := Op.load 23 (Operand.tmp 65), type := 23, pos := "law.go:247", after := #[{ on := 38, ground := Ground.data }, { on := 32, ground := Ground.guard }], guard := some (32, true) }) (v := ?_) rfl (by kernel_rfl) (by kernel_rfl) (by kernel_rfl) (fun _ _ _ h => h) (Or.inl ⟨by rfl, ?_⟩) hHeld ?_; rotate_left 1; (intro w9 hSw; obtain ⟨q0, q1, q2, q3, q4, q5⟩ := hSw; clear q5; go_simp; first | done | with_reducible rfl); (try simp only [Act.put, List.setIfInBounds_toArray, List.set_cons_zero, List.set_cons_succ])
    refine wpAnyH_ready (rs := [40]) (by kernel_rfl) (by simp) ?_; refine AllReadyH.cons (o := { dst := some 67, op := Op.call { callee := Callee.value (Operand.func 20), args := #[Operand.tmp 60, Operand.tmp 62, Operand.tmp 64, Operand.tmp 66], argTypes := #[28, 3, 3, 23] }, type := 29, pos := "law.go:247", after := #[{ on := 33, ground := Ground.data }, { on := 35, ground := Ground.data }, { on := 37, ground := Ground.data }, { on := 39, ground := Ground.data }, { on := 32, ground := Ground.chain }, { on := 32, ground := Ground.guard }], guard := some (32, true) }) rfl (fun K hK => ?_) AllReadyH.nil; go_simp; refine (crash_nil _ _ _ _).mono ?_; rintro e w4 ⟨rfl, rfl⟩; (try go_wp2_with fail); refine hK.out _ _ hHeld (fun hHeld => ?_); clear hK; (try simp only [Act.put, List.setIfInBounds_toArray, List.set_cons_zero, List.set_cons_succ])
    refine wpAnyH_take (i := 41) (oi := { dst := some 68, op := Op.binOp BinOp.eql 29 (Operand.tmp 67) (Operand.const (Value.int IntKind.i64 7)) 29, type := 4, pos := "law.go:247", after := #[{ on := 40, ground := Ground.data }, { on := 32, ground := Ground.guard }], guard := some (32, true) }) (v := ?_) rfl (by kernel_rfl) (by kernel_rfl) (by kernel_rfl) (fun _ _ _ h => h) (Or.inl ⟨by rfl, ?_⟩) hHeld ?_; rotate_left 1; (intro w9 hSw; obtain ⟨q0, q1, q2, q3, q4, q5⟩ := hSw; clear q5; go_simp; first | done | with_reducible rfl); (try simp only [Act.put, List.setIfInBounds_toArray, List.set_cons_zero, List.set_cons_succ])
    refine wpAnyH_take (i := 42) (oi := { dst := some 69, op := Op.pick (Operand.tmp 59) (Operand.tmp 68) (Operand.const (Value.bool false)), type := 4, pos := "law.go:247", after := #[{ on := 32, ground := Ground.data }, { on := 41, ground := Ground.data }], guard := none }) (v := ?_) rfl (by kernel_rfl) (by kernel_rfl) (by kernel_rfl) (fun _ _ _ h => h) (Or.inl ⟨by rfl, ?_⟩) hHeld ?_; rotate_left 1; (intro w9 hSw; obtain ⟨q0, q1, q2, q3, q4, q5⟩ := hSw; clear q5; go_simp; first | done | with_reducible rfl); (try simp only [Act.put, List.setIfInBounds_toArray, List.set_cons_zero, List.set_cons_succ])
    refine wpAnyH_take (i := 43) (oi := { dst := some 70, op := Op.move (Operand.tmp 69), type := 4, pos := "law.go:247", after := #[{ on := 42, ground := Ground.data }, { on := 40, ground := Ground.chain }], guard := none }) (v := ?_) rfl (by kernel_rfl) (by kernel_rfl) (by kernel_rfl) (fun _ _ _ h => h) (Or.inl ⟨by rfl, ?_⟩) hHeld ?_; rotate_left 1; (intro w9 hSw; obtain ⟨q0, q1, q2, q3, q4, q5⟩ := hSw; clear q5; go_simp; first | done | with_reducible rfl); (try simp only [Act.put, List.setIfInBounds_toArray, List.set_cons_zero, List.set_cons_succ])
    refine wpAnyH_take (i := 44) (oi := { dst := some 71, op := Op.move (Operand.tmp 3), type := 28, pos := "law.go:247", after := #[{ on := 43, ground := Ground.guard }], guard := some (43, true) }) (v := ?_) rfl (by kernel_rfl) (by kernel_rfl) (by kernel_rfl) (fun _ _ _ h => h) (Or.inl ⟨by rfl, ?_⟩) hHeld ?_; rotate_left 1; (intro w9 hSw; obtain ⟨q0, q1, q2, q3, q4, q5⟩ := hSw; clear q5; go_simp; first | done | with_reducible rfl); (try simp only [Act.put, List.setIfInBounds_toArray, List.set_cons_zero, List.set_cons_succ])
    refine wpAnyH_ready (rs := [45]) (by kernel_rfl) (by simp) ?_; refine AllReadyH.cons (o := { dst := some 72, op := Op.call { callee := Callee.value (Operand.func 23), args := #[Operand.tmp 71], argTypes := #[28] }, type := 3, pos := "law.go:247", after := #[{ on := 44, ground := Ground.data }, { on := 43, ground := Ground.chain }, { on := 43, ground := Ground.guard }], guard := some (43, true) }) rfl (fun K hK => ?_) AllReadyH.nil; go_simp; refine (size_nil _).mono ?_; rintro e w4 ⟨rfl, rfl⟩; (try go_wp2_with fail); refine hK.out _ _ hHeld (fun hHeld => ?_); clear hK; (try simp only [Act.put, List.setIfInBounds_toArray, List.set_cons_zero, List.set_cons_succ])
    refine wpAnyH_take (i := 46) (oi := { dst := some 73, op := Op.binOp BinOp.eql 3 (Operand.tmp 72) (Operand.const (Value.int IntKind.i64 0)) 3, type := 4, pos := "law.go:247", after := #[{ on := 45, ground := Ground.data }, { on := 43, ground := Ground.guard }], guard := some (43, true) }) (v := ?_) rfl (by kernel_rfl) (by kernel_rfl) (by kernel_rfl) (fun _ _ _ h => h) (Or.inl ⟨by rfl, ?_⟩) hHeld ?_; rotate_left 1; (intro w9 hSw; obtain ⟨q0, q1, q2, q3, q4, q5⟩ := hSw; clear q5; go_simp; first | done | with_reducible rfl); (try simp only [Act.put, List.setIfInBounds_toArray, List.set_cons_zero, List.set_cons_succ])
    refine wpAnyH_take (i := 47) (oi := { dst := some 74, op := Op.pick (Operand.tmp 70) (Operand.tmp 73) (Operand.const (Value.bool false)), type := 4, pos := "law.go:247", after := #[{ on := 43, ground := Ground.data }, { on := 46, ground := Ground.data }], guard := none }) (v := ?_) rfl (by kernel_rfl) (by kernel_rfl) (by kernel_rfl) (fun _ _ _ h => h) (Or.inl ⟨by rfl, ?_⟩) hHeld ?_; rotate_left 1; (intro w9 hSw; obtain ⟨q0, q1, q2, q3, q4, q5⟩ := hSw; clear q5; go_simp; first | done | with_reducible rfl); (try simp only [Act.put, List.setIfInBounds_toArray, List.set_cons_zero, List.set_cons_succ])
    refine wpAnyH_take (i := 48) (oi := { dst := some 75, op := Op.move (Operand.tmp 74), type := 4, pos := "law.go:247", after := #[{ on := 47, ground := Ground.data }, { on := 45, ground := Ground.chain }], guard := none }) (v := ?_) rfl (by kernel_rfl) (by kernel_rfl) (by kernel_rfl) (fun _ _ _ h => h) (Or.inl ⟨by rfl, ?_⟩) hHeld ?_; rotate_left 1; (intro w9 hSw; obtain ⟨q0, q1, q2, q3, q4, q5⟩ := hSw; clear q5; go_simp; first | done | with_reducible rfl); (try simp only [Act.put, List.setIfInBounds_toArray, List.set_cons_zero, List.set_cons_succ])
    refine wpAnyH_take (i := 49) (oi := { dst := some 76, op := Op.move (Operand.tmp 3), type := 28, pos := "law.go:247", after := #[{ on := 48, ground := Ground.guard }], guard := some (48, true) }) (v := ?_) rfl (by kernel_rfl) (by kernel_rfl) (by kernel_rfl) (fun _ _ _ h => h) (Or.inl ⟨by rfl, ?_⟩) hHeld ?_; rotate_left 1; (intro w9 hSw; obtain ⟨q0, q1, q2, q3, q4, q5⟩ := hSw; clear q5; go_simp; first | done | with_reducible rfl); (try simp only [Act.put, List.setIfInBounds_toArray, List.set_cons_zero, List.set_cons_succ])
    refine wpAnyH_take (i := 50) (oi := { dst := some 77, op := Op.fieldAddr 25 (Operand.tmp 1) 1, type := 0, pos := "law.go:247", after := #[{ on := 48, ground := Ground.guard }], guard := some (48, true) }) (v := ?_) rfl (by kernel_rfl) (by kernel_rfl) (by kernel_rfl) (fun _ _ _ h => h) (Or.inl ⟨by rfl, ?_⟩) hHeld ?_; rotate_left 1; (intro w9 hSw; obtain ⟨q0, q1, q2, q3, q4, q5⟩ := hSw; clear q5; go_simp; first | done | with_reducible rfl); (try simp only [Act.put, List.setIfInBounds_toArray, List.set_cons_zero, List.set_cons_succ])
    refine wpAnyH_take (i := 51) (oi := { dst := some 78, op := Op.load 3 (Operand.tmp 77), type := 3, pos := "law.go:247", after := #[{ on := 50, ground := Ground.data }, { on := 48, ground := Ground.guard }], guard := some (48, true) }) (v := ?_) rfl (by kernel_rfl) (by kernel_rfl) (by kernel_rfl) (fun _ _ _ h => h) (Or.inl ⟨by rfl, ?_⟩) hHeld ?_; rotate_left 1; (intro w9 hSw; obtain ⟨q0, q1, q2, q3, q4, q5⟩ := hSw; clear q5; go_simp; first | done | with_reducible rfl); (try simp only [Act.put, List.setIfInBounds_toArray, List.set_cons_zero, List.set_cons_succ])
    refine wpAnyH_take (i := 52) (oi := { dst := some 79, op := Op.fieldAddr 25 (Operand.tmp 1) 2, type := 0, pos := "law.go:247", after := #[{ on := 48, ground := Ground.guard }], guard := some (48, true) }) (v := ?_) rfl (by kernel_rfl) (by kernel_rfl) (by kernel_rfl) (fun _ _ _ h => h) (Or.inl ⟨by rfl, ?_⟩) hHeld ?_; rotate_left 1; (intro w9 hSw; obtain ⟨q0, q1, q2, q3, q4, q5⟩ := hSw; clear q5; go_simp; first | done | with_reducible rfl); (try simp only [Act.put, List.setIfInBounds_toArray, List.set_cons_zero, List.set_cons_succ])
    refine wpAnyH_take (i := 53) (oi := { dst := some 80, op := Op.load 3 (Operand.tmp 79), type := 3, pos := "law.go:247", after := #[{ on := 52, ground := Ground.data }, { on := 48, ground := Ground.guard }], guard := some (48, true) }) (v := ?_) rfl (by kernel_rfl) (by kernel_rfl) (by kernel_rfl) (fun _ _ _ h => h) (Or.inl ⟨by rfl, ?_⟩) hHeld ?_; rotate_left 1; (intro w9 hSw; obtain ⟨q0, q1, q2, q3, q4, q5⟩ := hSw; clear q5; go_simp; first | done | with_reducible rfl); (try simp only [Act.put, List.setIfInBounds_toArray, List.set_cons_zero, List.set_cons_succ])
    refine wpAnyH_ready (rs := [54]) (by kernel_rfl) (by simp) ?_; refine AllReadyH.cons (o := { dst := some 81, op := Op.call { callee := Callee.value (Operand.func 17), args := #[Operand.tmp 76, Operand.tmp 78, Operand.tmp 80], argTypes := #[28, 3, 3] }, type := 3, pos := "law.go:247", after := #[{ on := 49, ground := Ground.data }, { on := 51, ground := Ground.data }, { on := 53, ground := Ground.data }, { on := 48, ground := Ground.chain }, { on := 48, ground := Ground.guard }], guard := some (48, true) }) rfl (fun K hK => ?_) AllReadyH.nil; go_simp; refine (waiting_nil _ _ _).mono ?_; rintro e w4 ⟨rfl, rfl⟩; (try go_wp2_with fail); refine hK.out _ _ hHeld (fun hHeld => ?_); clear hK; (try simp only [Act.put, List.setIfInBounds_toArray, List.set_cons_zero, List.set_cons_succ])
    refine wpAnyH_take (i := 55) (oi := { dst := some 82, op := Op.binOp BinOp.eql 3 (Operand.tmp 81) (Operand.const (Value.int IntKind.i64 0)) 3, type := 4, pos := "law.go:247", after := #[{ on := 54, ground := Ground.data }, { on := 48, ground := Ground.guard }], guard := some (48, true) }) (v := ?_) rfl (by kernel_rfl) (by kernel_rfl) (by kernel_rfl) (fun _ _ _ h => h) (Or.inl ⟨by rfl, ?_⟩) hHeld ?_; rotate_left 1; (intro w9 hSw; obtain ⟨q0, q1, q2, q3, q4, q5⟩ := hSw; clear q5; go_simp; first | done | with_reducible rfl); (try simp only [Act.put, List.setIfInBounds_toArray, List.set_cons_zero, List.set_cons_succ])
    refine wpAnyH_take (i := 56) (oi := { dst := some 83, op := Op.pick (Operand.tmp 75) (Operand.tmp 82) (Operand.const (Value.bool false)), type := 4, pos := "law.go:247", after := #[{ on := 48, ground := Ground.data }, { on := 55, ground := Ground.data }], guard := none }) (v := ?_) rfl (by kernel_rfl) (by kernel_rfl) (by kernel_rfl) (fun _ _ _ h => h) (Or.inl ⟨by rfl, ?_⟩) hHeld ?_; rotate_left 1; (intro w9 hSw; obtain ⟨q0, q1, q2, q3, q4, q5⟩ := hSw; clear q5; go_simp; first | done | with_reducible rfl); (try simp only [Act.put, List.setIfInBounds_toArray, List.set_cons_zero, List.set_cons_succ])
    refine wpAnyH_take (i := 57) (oi := { dst := some 84, op := Op.move (Operand.tmp 83), type := 4, pos := "law.go:247", after := #[{ on := 56, ground := Ground.data }, { on := 54, ground := Ground.chain }], guard := none }) (v := ?_) rfl (by kernel_rfl) (by kernel_rfl) (by kernel_rfl) (fun _ _ _ h => h) (Or.inl ⟨by rfl, ?_⟩) hHeld ?_; rotate_left 1; (intro w9 hSw; obtain ⟨q0, q1, q2, q3, q4, q5⟩ := hSw; clear q5; go_simp; first | done | with_reducible rfl); (try simp only [Act.put, List.setIfInBounds_toArray, List.set_cons_zero, List.set_cons_succ])
    refine wpAnyH_ready (rs := [58]) (by kernel_rfl) (by simp) ?_; refine AllReadyH.cons (o := { dst := some 85, op := Op.call { callee := Callee.value (Operand.func 9), args := #[], argTypes := #[] }, type := 4, pos := "law.go:247", after := #[{ on := 57, ground := Ground.chain }, { on := 57, ground := Ground.guard }], guard := some (57, true) }) rfl (fun K hK => ?_) AllReadyH.nil; go_simp; refine (torn_any _).mono ?_; rintro e w4 ⟨rfl, bel⟩; (try go_wp2_with fail); refine hK.out _ _ (DN.below hHeld bel) (fun hHeld => ?_); clear hK; (try simp only [Act.put, List.setIfInBounds_toArray, List.set_cons_zero, List.set_cons_succ])
    refine wpAnyH_take (i := 59) (oi := { dst := some 86, op := Op.pick (Operand.tmp 84) (Operand.tmp 85) (Operand.const (Value.bool false)), type := 4, pos := "law.go:247", after := #[{ on := 57, ground := Ground.data }, { on := 58, ground := Ground.data }], guard := none }) (v := ?_) rfl (by kernel_rfl) (by kernel_rfl) (by kernel_rfl) (fun _ _ _ h => h) (Or.inl ⟨by rfl, ?_⟩) hHeld ?_; rotate_left 1; (intro w9 hSw; obtain ⟨q0, q1, q2, q3, q4, q5⟩ := hSw; clear q5; go_simp; first | done | with_reducible rfl); (try simp only [Act.put, List.setIfInBounds_toArray, List.set_cons_zero, List.set_cons_succ])
    refine wpAnyH_take (i := 60) (oi := { dst := some 2, op := Op.assign (Operand.tmp 86), type := 4, pos := "law.go:247", after := #[{ on := 59, ground := Ground.data }, { on := 58, ground := Ground.chain }, { on := 0, ground := Ground.phase }, { on := 1, ground := Ground.phase }, { on := 2, ground := Ground.phase }, { on := 3, ground := Ground.phase }, { on := 4, ground := Ground.phase }, { on := 5, ground := Ground.phase }, { on := 6, ground := Ground.phase }, { on := 7, ground := Ground.phase }, { on := 8, ground := Ground.phase }, { on := 9, ground := Ground.phase }, { on := 10, ground := Ground.phase }, { on := 11, ground := Ground.phase }, { on := 12, ground := Ground.phase }, { on := 13, ground := Ground.phase }, { on := 14, ground := Ground.phase }, { on := 15, ground := Ground.phase }, { on := 16, ground := Ground.phase }, { on := 17, ground := Ground.phase }, { on := 18, ground := Ground.phase }, { on := 19, ground := Ground.phase }, { on := 20, ground := Ground.phase }, { on := 21, ground := Ground.phase }, { on := 22, ground := Ground.phase }, { on := 23, ground := Ground.phase }, { on := 24, ground := Ground.phase }, { on := 25, ground := Ground.phase }, { on := 26, ground := Ground.phase }, { on := 27, ground := Ground.phase }, { on := 28, ground := Ground.phase }, { on := 29, ground := Ground.phase }, { on := 30, ground := Ground.phase }, { on := 31, ground := Ground.phase }, { on := 32, ground := Ground.phase }, { on := 33, ground := Ground.phase }, { on := 34, ground := Ground.phase }, { on := 35, ground := Ground.phase }, { on := 36, ground := Ground.phase }, { on := 37, ground := Ground.phase }, { on := 38, ground := Ground.phase }, { on := 39, ground := Ground.phase }, { on := 40, ground := Ground.phase }, { on := 41, ground := Ground.phase }, { on := 42, ground := Ground.phase }, { on := 43, ground := Ground.phase }, { on := 44, ground := Ground.phase }, { on := 45, ground := Ground.phase }, { on := 46, ground := Ground.phase }, { on := 47, ground := Ground.phase }, { on := 48, ground := Ground.phase }, { on := 49, ground := Ground.phase }, { on := 50, ground := Ground.phase }, { on := 51, ground := Ground.phase }, { on := 52, ground := Ground.phase }, { on := 53, ground := Ground.phase }, { on := 54, ground := Ground.phase }, { on := 55, ground := Ground.phase }, { on := 56, ground := Ground.phase }, { on := 57, ground := Ground.phase }, { on := 58, ground := Ground.phase }, { on := 59, ground := Ground.phase }], guard := none }) (v := ?_) rfl (by kernel_rfl) (by kernel_rfl) (by kernel_rfl) (fun _ _ _ h => h) (Or.inl ⟨by rfl, ?_⟩) hHeld ?_; rotate_left 1; (intro w9 hSw; obtain ⟨q0, q1, q2, q3, q4, q5⟩ := hSw; clear q5; go_simp; first | done | with_reducible rfl); (try simp only [Act.put, List.setIfInBounds_toArray, List.set_cons_zero, List.set_cons_succ])
    refine wpAnyH_done (by kernel_rfl) ?_ _
    have HB := Lib.hid hHeld.b
    clear hHeld
    go_wp2
    go_ret
    exact ⟨rfl, HB.out⟩
end Go.Proofs.Ytlodjkmablogcaa.Own
