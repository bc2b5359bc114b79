/- Several texts of this claim in one. -/
import Derived.Test.YtakbgaiedenikaaDecA
import Derived.Test.YtakbgaiedenikaaEncA
import Derived.Test.YtakbgaiedenikaaRdA
/- Decode of an answer, by hand: the walk. -/
namespace Go.Proofs.Ytakbgaiedenikaa.Rd
open Go.RowKit Go.Proofs.YtakbgaiedenikaaW.PrintWords Go.Proofs.Ytakbgaiedenikaa.PB
set_option maxRecDepth 100000
set_option linter.unusedSimpArgs false
set_option linter.unusedVariables false
def rdN (s : ByteArray) (i j : Nat) : Nat := Own.readL (s.extract i j).data.toList
def btN (s : ByteArray) (i : Nat) : Nat := if h : i < s.size then (s[i]'h).toNat else 0
theorem btN_le (s : ByteArray) (i : Nat) : btN s i ≤ 255 := by
  unfold btN
  split
  · rename_i h; have := (s[i]'h).toNat_lt; omega
  · omega
def rawD (s : ByteArray) : Ans × Bool := raw (rdN s 0 2) (btN s 2) (btN s 3) (s.extract 6 (6 + rdN s 4 6))
/-- The answer of bytes. -/
def decA (s : ByteArray) : Option Ans :=
  if s.size = 600 ∧ rdN s 4 6 ≤ 594 then (if (rawD s).2 = true ∧ shortN (rawD s).1.ns = true ∧ Own.sB (outA (rawD s).1) = s then some (rawD s).1 else none) else none
def Dpost (s : ByteArray) (w : World) (e : Ending) (w' : World) : Prop :=
  Below w.heap.size w w' ∧ match decA s with
  | none => e = .returned (.tuple #[.agg zans, .int .i64 4])
  | some r => ∃ A5 c5 A6 c6 A7 c7, e = .returned (.tuple #[.agg (agA r A5 c5 A6 c6 A7 c7), .int .i64 0]) ∧ RowsA r A5 c5 A6 c6 A7 c7 w'
theorem Dpost.none {s : ByteArray} {w w' : World} (h : decA s = none) (hb : Below w.heap.size w w') : Dpost s w (.returned (.tuple #[.agg zans, .int .i64 4])) w' := by
  unfold Dpost; rw [h]; exact ⟨hb, rfl⟩
theorem Dpost.some {s : ByteArray} {r : Ans} {A5 : Option Addr} {c5 : Nat} {A6 : Option Addr} {c6 : Nat} {A7 : Option Addr} {c7 : Nat} {w w' : World} (h : decA s = some r) (hb : Below w.heap.size w w') (hr : RowsA r A5 c5 A6 c6 A7 c7 w') : Dpost s w (.returned (.tuple #[.agg (agA r A5 c5 A6 c6 A7 c7), .int .i64 0])) w' := by
  unfold Dpost; rw [h]; exact ⟨hb, A5, c5, A6, c6, A7, c7, rfl, hr⟩
theorem rdN_lt (s : ByteArray) (i j : Nat) (h : i ≤ j) (hj : j ≤ s.size) : rdN s i j < 256 ^ (j - i) := by
  have := Own.readL_lt (s.extract i j).data.toList
  have e : (s.extract i j).data.toList.length = j - i := by
    rw [Array.length_toList]; show (s.extract i j).size = _; rw [ByteArray.size_extract]; omega
  rwa [e] at this
theorem ex_size {s : ByteArray} {i j : Nat} (h : j ≤ s.size) : (s.extract i j).size = j - i := by rw [ByteArray.size_extract]; omega
theorem read_rd (s : ByteArray) (i j : Nat) (w : World) (h1 : 1 ≤ (s.extract i j).size) (h8 : (s.extract i j).size ≤ 8) :
    Calls Try.prog 31 #[.string (s.extract i j)] w fun e w' => e = .returned (.tuple #[.int .u64 (rdN s i j : Int), .int .i64 0]) ∧ w' = w := Own.read_any (s.extract i j) w h1 h8
theorem read_rawD {s : ByteArray} {R : Ans × Bool} (hR : R = rawD s) {g : Nat} (w : World) (hb : RT g (s.extract 6 (6 + rdN s 4 6)) w) (hz : (s.extract 6 (6 + rdN s 4 6)).size ≤ 594) :
    Calls Try.prog 32 #[.pointer (some ⟨g, 0, none⟩), .agg #[.int .i64 (rdN s 0 2 : Int), .int .i64 (btN s 2 : Int), .int .i64 (btN s 3 : Int), .int .i64 0, .int .i64 0, .slice none 0 0, .slice none 0 0, .slice none 0 0]] w fun e w' =>
      Kp g w w' ∧ ∃ A5 c5 A6 c6 A7 c7, e = .returned (.tuple #[.agg #[.int .i64 (R.1.i : Int), .int .i64 (R.1.k : Int), .int .i64 (R.1.c : Int), .int .i64 (R.1.a : Int), .int .i64 (R.1.b : Int), .slice A5 R.1.rs.length c5, .slice A6 R.1.ns.length c6, .slice A7 R.1.ks.length c7], .bool R.2]) ∧ RowsR R.1 A5 c5 A6 c6 A7 c7 w.heap.size w' := by
  have hR2 : R = raw (rdN s 0 2) (btN s 2) (btN s 3) (s.extract 6 (6 + rdN s 4 6)) := hR
  refine (read_raw (rdN s 0 2) (btN s 2) (btN s 3) w hb hz).mono ?_
  rw [← hR2]
  rintro e w' ⟨h1, A5, c5, A6, c6, A7, c7, he, hr⟩
  unfold agA at he
  exact ⟨h1, A5, c5, A6, c6, A7, c7, he, hr⟩
theorem encode_rawD {s : ByteArray} {R : Ans × Bool} (hf : Fits R.1) (A5 : Option Addr) (c5 : Nat) (A6 : Option Addr) (c6 : Nat) (A7 : Option Addr) (c7 : Nat) (w : World) (hr : RowsA R.1 A5 c5 A6 c6 A7 c7 w) :
    Calls Try.prog 9 #[.agg #[.int .i64 (R.1.i : Int), .int .i64 (R.1.k : Int), .int .i64 (R.1.c : Int), .int .i64 (R.1.a : Int), .int .i64 (R.1.b : Int), .slice A5 R.1.rs.length c5, .slice A6 R.1.ns.length c6, .slice A7 R.1.ks.length c7]] w fun e w' => e = .returned (.tuple #[.string (encS R.1).1, .int .i64 (encS R.1).2]) ∧ Below w.heap.size w w' :=
  encode_raw R.1 A5 c5 A6 c6 A7 c7 w hf hr
theorem toList_inj {a b : ByteArray} (h : a.toList = b.toList) : a = b := by
  rw [Go.ByteArray.toList_eq, Go.ByteArray.toList_eq] at h
  exact bl_inj h
set_option maxHeartbeats 4000000 in
theorem decode_any (s : ByteArray) (w : World) (hm : s.size ≤ 1000000) :
    Calls Try.prog 14 #[.string s] w (Dpost s w) := by
  have bA : Below w.heap.size w (w.alloc (.cells zans 27)) := (Below.refl _ _).alloc (Nat.le_refl _) _
  have hbx := Own.heap_new w (.cells zans 27)
  have BA := Lib.hid bA; clear bA
  have HBX := Lib.hid hbx
  obtain ⟨z0, z1, z2, z3, z4, z5, z6, z7⟩ := ocells hbx
  obtain ⟨f0, f1, f2, f3, f4, f5, f6, f7⟩ := ofrees hbx
  have U8 := Lib.hid (fun (W : World) (hB : Below w.heap.size w W) (hx : W.heap[w.heap.size]? = some (.cells zans 27 (0, 0))) => And.intro (fill8 hx (.int .i64 0) (.int .i64 0) (.int .i64 0) (.int .i64 0) (.int .i64 0) (.slice none 0 0) (.slice none 0 0) (.slice none 0 0)) (below8 hB (Nat.le_refl _) (.int .i64 0) (.int .i64 0) (.int .i64 0) (.int .i64 0) (.int .i64 0) (.slice none 0 0) (.slice none 0 0) (.slice none 0 0)))
  by_cases h6 : s.size = 600
  · have s2 : (s.extract 0 2).size = 2 := ex_size (by omega)
    have s4 : (s.extract 4 6).size = 2 := ex_size (by omega)
    have hi := rdN_lt s 0 2 (by omega) (by omega)
    have hz := rdN_lt s 4 6 (by omega) (by omega)
    have g1 : ¬ (s.size : Int) ≠ 600 := by omega
    go_enter Try.func14, Try.ntmps14
    go_upto_region 1 with (fail)
    change Code.wp _ _ _ _ (w.alloc (.cells zans 27))
    generalize w.alloc (.cells zans 27) = W0 at *
    have k2 : (2 : Int) ≤ (s.size : Int) := by omega
    have k6 : (6 : Int) ≤ (s.size : Int) := by omega
    go_wp2_with fail
    refine (read_rd s 0 2 W0 (by omega) (by omega)).mono ?_
    rintro e w1 ⟨rfl, rfl⟩
    go_wp2_with fail
    refine (read_rd s 4 6 w1 (by omega) (by omega)).mono ?_
    rintro e w2 ⟨rfl, rfl⟩
    by_cases hle : rdN s 4 6 ≤ 594
    · have t2 : ¬ (594 : Int) < (rdN s 4 6 : Int) := by omega
      have cv : IntKind.i64.wrap (rdN s 4 6 : Int) = (rdN s 4 6 : Int) := IntWalk.i64_in _ (by omega)
      have cv2 : IntKind.i64.wrap (rdN s 0 2 : Int) = (rdN s 0 2 : Int) := IntWalk.i64_in _ (by omega)
      have wv : wrap64 ((6 : Int) + (rdN s 4 6 : Int)) = ((6 + rdN s 4 6 : Nat) : Int) := by rw [Pu.wrap_id (by omega) (by omega)]; omega
      have wv2 : ((6 + rdN s 4 6 : Nat) : Int) ≤ (s.size : Int) := by omega
      have wv3 : (6 : Int) ≤ ((6 + rdN s 4 6 : Nat) : Int) := by omega
      go_upto_region 8 with (fail)
      have h2s : 2 < s.size := by omega
      have h3s : 3 < s.size := by omega
      have cb2 : IntKind.i64.wrap ((s[2]'h2s).toNat : Int) = (btN s 2 : Int) := by rw [btN, dif_pos h2s]; exact IntWalk.i64_in _ (by have := (s[2]'h2s).toNat_lt; omega)
      have cb3 : IntKind.i64.wrap ((s[3]'h3s).toNat : Int) = (btN s 3 : Int) := by rw [btN, dif_pos h3s]; exact IntWalk.i64_in _ (by have := (s[3]'h3s).toNat_lt; omega)
      have hle2 : (s.extract 6 (6 + rdN s 4 6)).size ≤ 594 := by rw [ex_size (by omega)]; omega
      obtain ⟨R, hR⟩ : ∃ R, R = rawD s := ⟨_, rfl⟩
      have HF : Hid (Fits R.1) := Lib.hid (by rw [hR]; exact raw_fits hle2 (by have := hi; omega) (btN_le s 2) (btN_le s 3))
      have HR := Lib.hid hR; clear hR
      clear g1 k2 k6 t2 cv wv wv2 wv3 hi hz
      have hrt : RT w2.heap.size (s.extract 6 (6 + rdN s 4 6)) (w2.alloc (.cells #[.string (s.extract 6 (6 + rdN s 4 6))] 70)).drew := Own.heap_new w2 _
      have hx3 : (w2.alloc (.cells #[.string (s.extract 6 (6 + rdN s 4 6))] 70)).drew.heap[w.heap.size]? = some (.cells zans 27 (0, 0)) := (Own.heap_old w2 _ (Own.blk_lt hbx)).trans hbx
      have b3 : Below w.heap.size w (w2.alloc (.cells #[.string (s.extract 6 (6 + rdN s 4 6))] 70)).drew := (BA.out.alloc (Nat.le_of_lt (Own.blk_lt hbx)) _).drew
      have hgl : w.heap.size ≤ w2.heap.size := Nat.le_of_lt (Own.blk_lt hbx)
      have hgl2 : w.heap.size < w2.heap.size := Own.blk_lt hbx
      have HRT := Lib.hid hrt; have HX3 := Lib.hid hx3; have B3 := Lib.hid b3
      clear hrt hx3 b3 z0 z1 z2 z3 z4 z5 z6 z7 f0 f1 f2 f3 f4 f5 f6 f7 hbx BA HBX
      refine wp_region_held_drew (S := (fun _ => True)) (by kernel_rfl) trivial (fun hHeld => ?_)
      generalize hWD : (w2.alloc (.cells #[.string (s.extract 6 (6 + rdN s 4 6))] 70)).drew = WD at *
      clear hWD
      refine wpAnyH_take (i := 0) (oi := { dst := some 40, op := Op.move (Operand.tmp 8), type := 68, pos := "answer.go:169", after := #[], guard := none }) (v := ?_) rfl (by kernel_rfl) (by kernel_rfl) (by kernel_rfl) (fun _ _ _ h => h) (Or.inl ⟨by rfl, ?_⟩) hHeld ?_; rotate_left 1; (intro w9 _hh; go_simp; first | done | with_reducible rfl); (try simp only [Act.put, List.setIfInBounds_toArray, List.set_cons_zero, List.set_cons_succ])
      refine wpAnyH_take (i := 1) (oi := { dst := some 41, op := Op.move (Operand.tmp 4), type := 65, pos := "answer.go:169", after := #[], guard := none }) (v := ?_) rfl (by kernel_rfl) (by kernel_rfl) (by kernel_rfl) (fun _ _ _ h => h) (Or.inl ⟨by rfl, ?_⟩) hHeld ?_; rotate_left 1; (intro w9 _hh; go_simp; first | done | with_reducible rfl); (try simp only [Act.put, List.setIfInBounds_toArray, List.set_cons_zero, List.set_cons_succ])
      refine wpAnyH_take (i := 2) (oi := { dst := some 42, op := Op.convert 65 3 (Operand.tmp 41), type := 3, pos := "answer.go:169", after := #[{ on := 1, ground := Ground.data }], guard := none }) (v := ?_) rfl (by kernel_rfl) (by kernel_rfl) (by kernel_rfl) (fun _ _ _ h => h) (Or.inl ⟨by rfl, ?_⟩) hHeld ?_; rotate_left 1; (intro w9 _hh; go_simp; first | done | with_reducible rfl); (try simp only [Act.put, List.setIfInBounds_toArray, List.set_cons_zero, List.set_cons_succ])
      refine wpAnyH_take (i := 3) (oi := { dst := some 43, op := Op.move (Operand.tmp 0), type := 9, pos := "answer.go:169", after := #[], guard := none }) (v := ?_) rfl (by kernel_rfl) (by kernel_rfl) (by kernel_rfl) (fun _ _ _ h => h) (Or.inl ⟨by rfl, ?_⟩) hHeld ?_; rotate_left 1; (intro w9 _hh; go_simp; first | done | with_reducible rfl); (try simp only [Act.put, List.setIfInBounds_toArray, List.set_cons_zero, List.set_cons_succ])
      refine wpAnyH_take (i := 4) (oi := { dst := some 44, op := Op.index 9 (Operand.tmp 43) (Operand.const (Value.int IntKind.i64 2)), type := 5, pos := "answer.go:169", after := #[{ on := 3, ground := Ground.data }], guard := none }) (v := ?_) rfl (by kernel_rfl) (by kernel_rfl) (by kernel_rfl) (fun _ _ _ h => h) (Or.inl ⟨by rfl, ?_⟩) hHeld ?_; rotate_left 1; (intro w9 _hh; go_simp; first | done | with_reducible rfl); (try simp only [Act.put, List.setIfInBounds_toArray, List.set_cons_zero, List.set_cons_succ])
      refine wpAnyH_take (i := 5) (oi := { dst := some 45, op := Op.convert 5 3 (Operand.tmp 44), type := 3, pos := "answer.go:169", after := #[{ on := 4, ground := Ground.data }], guard := none }) (v := ?_) rfl (by kernel_rfl) (by kernel_rfl) (by kernel_rfl) (fun _ _ _ h => h) (Or.inl ⟨by rfl, ?_⟩) hHeld ?_; rotate_left 1; (intro w9 _hh; go_simp; first | done | with_reducible rfl); (try simp only [Act.put, List.setIfInBounds_toArray, List.set_cons_zero, List.set_cons_succ])
      refine wpAnyH_take (i := 6) (oi := { dst := some 46, op := Op.move (Operand.tmp 0), type := 9, pos := "answer.go:169", after := #[], guard := none }) (v := ?_) rfl (by kernel_rfl) (by kernel_rfl) (by kernel_rfl) (fun _ _ _ h => h) (Or.inl ⟨by rfl, ?_⟩) hHeld ?_; rotate_left 1; (intro w9 _hh; go_simp; first | done | with_reducible rfl); (try simp only [Act.put, List.setIfInBounds_toArray, List.set_cons_zero, List.set_cons_succ])
      refine wpAnyH_take (i := 7) (oi := { dst := some 47, op := Op.index 9 (Operand.tmp 46) (Operand.const (Value.int IntKind.i64 3)), type := 5, pos := "answer.go:169", after := #[{ on := 6, ground := Ground.data }], guard := none }) (v := ?_) rfl (by kernel_rfl) (by kernel_rfl) (by kernel_rfl) (fun _ _ _ h => h) (Or.inl ⟨by rfl, ?_⟩) hHeld ?_; rotate_left 1; (intro w9 _hh; go_simp; first | done | with_reducible rfl); (try simp only [Act.put, List.setIfInBounds_toArray, List.set_cons_zero, List.set_cons_succ])
      refine wpAnyH_take (i := 8) (oi := { dst := some 48, op := Op.convert 5 22 (Operand.tmp 47), type := 22, pos := "answer.go:169", after := #[{ on := 7, ground := Ground.data }], guard := none }) (v := ?_) rfl (by kernel_rfl) (by kernel_rfl) (by kernel_rfl) (fun _ _ _ h => h) (Or.inl ⟨by rfl, ?_⟩) hHeld ?_; rotate_left 1; (intro w9 _hh; go_simp; first | done | with_reducible rfl); (try simp only [Act.put, List.setIfInBounds_toArray, List.set_cons_zero, List.set_cons_succ])
      refine wpAnyH_take (i := 9) (oi := { dst := some 49, op := Op.build 27 #[(0, Operand.tmp 42), (1, Operand.tmp 45), (2, Operand.tmp 48)], type := 27, pos := "answer.go:169", after := #[{ on := 2, ground := Ground.data }, { on := 5, ground := Ground.data }, { on := 8, ground := Ground.data }], guard := none }) (v := ?_) rfl (by kernel_rfl) (by kernel_rfl) (by kernel_rfl) (fun _ _ _ h => h) (Or.inl ⟨by rfl, ?_⟩) hHeld ?_; rotate_left 1; (intro w9 _hh; go_simp; first | done | with_reducible rfl); (try simp only [Act.put, List.setIfInBounds_toArray, List.set_cons_zero, List.set_cons_succ])
      refine wpAnyH_ready (rs := [10, 14]) (by kernel_rfl) (by simp) ?_
      refine AllReadyH.cons (o := { dst := some 50, op := Op.call { callee := Callee.value (Operand.func 32), args := #[Operand.tmp 40, Operand.tmp 49], argTypes := #[68, 27] }, type := 71, pos := "answer.go:169", after := #[{ on := 0, ground := Ground.data }, { on := 9, ground := Ground.data }], guard := none }) rfl (fun K hK => ?_) (AllReadyH.cons (o := { dst := some 9, op := Op.alloc 27, type := 0, pos := "answer.go:169", after := #[], guard := none }) rfl (fun K hK => ?_) AllReadyH.nil)
      · go_simp; refine (read_rawD HR.out _ HRT.out hle2).mono ?_; rintro e w4 ⟨hk4, A5, c5, A6, c6, A7, c7, rfl, hrows⟩; (try go_wp2_with fail); refine hK.out _ _ trivial (fun hHeld => ?_); clear hK; (try simp only [Act.put, List.setIfInBounds_toArray, List.set_cons_zero, List.set_cons_succ])
        refine wpAnyH_take (i := 11) (oi := { dst := some 39, op := Op.move (Operand.tmp 50), type := 71, pos := "answer.go:169", after := #[{ on := 10, ground := Ground.data }], guard := none }) (v := ?_) rfl (by kernel_rfl) (by kernel_rfl) (by kernel_rfl) (fun _ _ _ h => h) (Or.inl ⟨by rfl, ?_⟩) hHeld ?_; rotate_left 1; (intro w9 _hh; go_simp; first | done | with_reducible rfl); (try simp only [Act.put, List.setIfInBounds_toArray, List.set_cons_zero, List.set_cons_succ])
        refine wpAnyH_take (i := 12) (oi := { dst := some 51, op := Op.extract (Operand.tmp 39) 0, type := 27, pos := "answer.go:169", after := #[{ on := 11, ground := Ground.data }], guard := none }) (v := ?_) rfl (by kernel_rfl) (by kernel_rfl) (by kernel_rfl) (fun _ _ _ h => h) (Or.inl ⟨by rfl, ?_⟩) hHeld ?_; rotate_left 1; (intro w9 _hh; go_simp; first | done | with_reducible rfl); (try simp only [Act.put, List.setIfInBounds_toArray, List.set_cons_zero, List.set_cons_succ])
        refine wpAnyH_take (i := 13) (oi := { dst := some 52, op := Op.extract (Operand.tmp 39) 1, type := 4, pos := "answer.go:169", after := #[{ on := 11, ground := Ground.data }, { on := 15, ground := Ground.gcOnly Departure.lateStores }], guard := none }) (v := ?_) rfl (by kernel_rfl) (by kernel_rfl) (by kernel_rfl) (fun _ _ _ h => h) (Or.inl ⟨by rfl, ?_⟩) hHeld ?_; rotate_left 1; (intro w9 _hh; go_simp; first | done | with_reducible rfl); (try simp only [Act.put, List.setIfInBounds_toArray, List.set_cons_zero, List.set_cons_succ])
        have hgw4 := hk4.bel.size
        have hNw := Own.blk_lt HX3.out
        have X4 := hk4.blk HX3.out (by omega)
        have B4 := B3.out.trans (hk4.bel.mono hgl)
        refine wpAnyH_ready (rs := [14]) (by kernel_rfl) (by simp) ?_; refine AllReadyH.cons (o := { dst := some 9, op := Op.alloc 27, type := 0, pos := "answer.go:169", after := #[], guard := none }) rfl (fun K hK => ?_) AllReadyH.nil; go_simp; refine hK.out _ (w4.alloc (.cells #[.int .i64 0, .int .i64 0, .int .i64 0, .int .i64 0, .int .i64 0, .slice none 0 0, .slice none 0 0, .slice none 0 0] 27)) trivial (fun hHeld => ?_); clear hK; (try simp only [Act.put, List.setIfInBounds_toArray, List.set_cons_zero, List.set_cons_succ])
        have E5 := Own.heap_new w4 (.cells #[.int .i64 0, .int .i64 0, .int .i64 0, .int .i64 0, .int .i64 0, .slice none 0 0, .slice none 0 0, .slice none 0 0] 27)
        have b5 : Below w4.heap.size w4 (w4.alloc (.cells #[.int .i64 0, .int .i64 0, .int .i64 0, .int .i64 0, .int .i64 0, .slice none 0 0, .slice none 0 0, .slice none 0 0] 27)) := (Below.refl _ _).alloc (Nat.le_refl _) _
        have X5 := Own.blk_below X4 b5
        have B5 := B4.trans (b5.mono (Nat.le_of_lt (Own.blk_lt X4)))
        have hgx : w.heap.size < w4.heap.size := Own.blk_lt X4
        generalize hW5 : w4.alloc (.cells #[.int .i64 0, .int .i64 0, .int .i64 0, .int .i64 0, .int .i64 0, .slice none 0 0, .slice none 0 0, .slice none 0 0] 27) = W5 at *
        generalize hgx4 : w4.heap.size = gx at *
        obtain ⟨z0, z1, z2, z3, z4, z5, z6, z7⟩ := ocells E5
        obtain ⟨f0, f1, f2, f3, f4, f5, f6, f7⟩ := ofrees E5
        refine wpAnyH_ready (rs := [15]) (by kernel_rfl) (by simp) ?_; refine AllReadyH.cons (o := { dst := none, op := Op.store 27 (Operand.tmp 9) (Operand.tmp 51), type := 0, pos := "answer.go:169", after := #[{ on := 14, ground := Ground.data }, { on := 12, ground := Ground.data }, { on := 10, ground := Ground.chain }, { on := 0, ground := Ground.phase }, { on := 1, ground := Ground.phase }, { on := 2, ground := Ground.phase }, { on := 3, ground := Ground.phase }, { on := 4, ground := Ground.phase }, { on := 5, ground := Ground.phase }, { on := 6, ground := Ground.phase }, { on := 7, ground := Ground.phase }, { on := 8, ground := Ground.phase }, { on := 9, ground := Ground.phase }, { on := 10, ground := Ground.phase }, { on := 11, ground := Ground.phase }, { on := 12, ground := Ground.phase }, { on := 13, ground := Ground.textOnly Departure.lateStores }, { on := 14, ground := Ground.phase }], guard := none }) rfl (fun K hK => ?_) AllReadyH.nil; go_simp
        have E6 := fill8 E5 (.int .i64 (R.1.i : Int)) (.int .i64 (R.1.k : Int)) (.int .i64 (R.1.c : Int)) (.int .i64 (R.1.a : Int)) (.int .i64 (R.1.b : Int)) (.slice A5 R.1.rs.length c5) (.slice A6 R.1.ns.length c6) (.slice A7 R.1.ks.length c7)
        have X6 := (far8 (w := W5) (o := gx) (k := w.heap.size) (by omega) (.int .i64 (R.1.i : Int)) (.int .i64 (R.1.k : Int)) (.int .i64 (R.1.c : Int)) (.int .i64 (R.1.a : Int)) (.int .i64 (R.1.b : Int)) (.slice A5 R.1.rs.length c5) (.slice A6 R.1.ns.length c6) (.slice A7 R.1.ks.length c7)).trans X5
        have B6 := below8 B5 (show w.heap.size ≤ gx by omega) (.int .i64 (R.1.i : Int)) (.int .i64 (R.1.k : Int)) (.int .i64 (R.1.c : Int)) (.int .i64 (R.1.a : Int)) (.int .i64 (R.1.b : Int)) (.slice A5 R.1.rs.length c5) (.slice A6 R.1.ns.length c6) (.slice A7 R.1.ks.length c7)
        have ROW6 := RowsR.move hrows (w1 := ((((((((W5.setCell ⟨gx, 0, none⟩ (.int .i64 (R.1.i : Int))).setCell ⟨gx, 1, none⟩ (.int .i64 (R.1.k : Int))).setCell ⟨gx, 2, none⟩ (.int .i64 (R.1.c : Int))).setCell ⟨gx, 3, none⟩ (.int .i64 (R.1.a : Int))).setCell ⟨gx, 4, none⟩ (.int .i64 (R.1.b : Int))).setCell ⟨gx, 5, none⟩ (.slice A5 R.1.rs.length c5)).setCell ⟨gx, 6, none⟩ (.slice A6 R.1.ns.length c6)).setCell ⟨gx, 7, none⟩ (.slice A7 R.1.ks.length c7))) (fun k _ hl => (far8 (w := W5) (o := gx) (k := k) (by omega) (.int .i64 (R.1.i : Int)) (.int .i64 (R.1.k : Int)) (.int .i64 (R.1.c : Int)) (.int .i64 (R.1.a : Int)) (.int .i64 (R.1.b : Int)) (.slice A5 R.1.rs.length c5) (.slice A6 R.1.ns.length c6) (.slice A7 R.1.ks.length c7)).trans (b5.block k (by omega)))
        clear z0 z1 z2 z3 z4 z5 z6 z7 f0 f1 f2 f3 f4 f5 f6 f7 E5 X5 B5
        generalize ((((((((W5.setCell ⟨gx, 0, none⟩ (.int .i64 (R.1.i : Int))).setCell ⟨gx, 1, none⟩ (.int .i64 (R.1.k : Int))).setCell ⟨gx, 2, none⟩ (.int .i64 (R.1.c : Int))).setCell ⟨gx, 3, none⟩ (.int .i64 (R.1.a : Int))).setCell ⟨gx, 4, none⟩ (.int .i64 (R.1.b : Int))).setCell ⟨gx, 5, none⟩ (.slice A5 R.1.rs.length c5)).setCell ⟨gx, 6, none⟩ (.slice A6 R.1.ns.length c6)).setCell ⟨gx, 7, none⟩ (.slice A7 R.1.ks.length c7)) = W6 at *
        refine hK.out _ _ trivial (fun hHeld => ?_); clear hK; (try simp only [Act.put, List.setIfInBounds_toArray, List.set_cons_zero, List.set_cons_succ])
        refine wpAnyH_take (i := 16) (oi := { dst := some 10, op := Op.assign (Operand.tmp 52), type := 4, pos := "answer.go:169", after := #[{ on := 13, ground := Ground.data }, { on := 15, ground := Ground.chain }, { on := 0, ground := Ground.phase }, { on := 1, ground := Ground.phase }, { on := 2, ground := Ground.phase }, { on := 3, ground := Ground.phase }, { on := 4, ground := Ground.phase }, { on := 5, ground := Ground.phase }, { on := 6, ground := Ground.phase }, { on := 7, ground := Ground.phase }, { on := 8, ground := Ground.phase }, { on := 9, ground := Ground.phase }, { on := 10, ground := Ground.phase }, { on := 11, ground := Ground.phase }, { on := 12, ground := Ground.phase }, { on := 13, ground := Ground.phase }, { on := 14, ground := Ground.phase }, { on := 15, ground := Ground.phase }], guard := none }) (v := ?_) rfl (by kernel_rfl) (by kernel_rfl) (by kernel_rfl) (fun _ _ _ h => h) (Or.inl ⟨by rfl, ?_⟩) hHeld ?_; rotate_left 1; (intro w9 _hh; go_simp; first | done | with_reducible rfl); (try simp only [Act.put, List.setIfInBounds_toArray, List.set_cons_zero, List.set_cons_succ])
        refine wpAnyH_done (by kernel_rfl) ?_ _
        obtain ⟨N, hN, ROWN⟩ : ∃ N, w.heap.size < N ∧ RowsR R.1 A5 c5 A6 c6 A7 c7 N W6 := ⟨_, (by omega), ROW6⟩
        have RA6 := RowsR.reads ROWN
        clear ROW6 hrows hHeld
        obtain ⟨q0, q1, q2, q3, q4, q5, q6, q7⟩ := ocells E6
        go_wp2_with fail
        refine (encode_rawD (s := s) HF.out A5 c5 A6 c6 A7 c7 W6 RA6).mono ?_
        rintro e w7 ⟨rfl, b7⟩
        have X7 := Own.blk_below X6 b7
        have E7 := Own.blk_below E6 b7
        have ROW7 := Lib.hid (RowsR.move ROWN (fun k _ hl => b7.block k hl)); clear ROWN
        have B7 := B6.trans (b7.mono (Nat.le_of_lt (Own.blk_lt X6)))
        clear q0 q1 q2 q3 q4 q5 q6 q7 RA6 E6 X6 B6 b7
        obtain ⟨q0, q1, q2, q3, q4, q5, q6, q7⟩ := ocells E7
        obtain ⟨z0, z1, z2, z3, z4, z5, z6, z7⟩ := ocells X7
        obtain ⟨f0, f1, f2, f3, f4, f5, f6, f7⟩ := ofrees X7
        have HE7 := Lib.hid E7; have HX7 := Lib.hid X7; have HB7 := Lib.hid B7
        have n1 : ¬ w.heap.size = gx := by omega
        have n2 : ¬ gx = w.heap.size := by omega
        clear E7 X7 B7
        cases h2 : R.2 with
        | false =>
          have Hd : Hid (decA s = none) := Lib.hid (by rw [decA, if_pos ⟨h6, hle⟩, if_neg (by rw [← HR.out, h2]; intro h; cases h.1)])
          go_wp2_with fail
          obtain ⟨e8, b8⟩ := U8.out w7 HB7.out HX7.out
          clear z0 z1 z2 z3 z4 z5 z6 z7 f0 f1 f2 f3 f4 f5 f6 f7 q0 q1 q2 q3 q4 q5 q6 q7
          generalize ((((((((w7.setCell ⟨w.heap.size, 0, none⟩ (.int .i64 0)).setCell ⟨w.heap.size, 1, none⟩ (.int .i64 0)).setCell ⟨w.heap.size, 2, none⟩ (.int .i64 0)).setCell ⟨w.heap.size, 3, none⟩ (.int .i64 0)).setCell ⟨w.heap.size, 4, none⟩ (.int .i64 0)).setCell ⟨w.heap.size, 5, none⟩ (.slice none 0 0)).setCell ⟨w.heap.size, 6, none⟩ (.slice none 0 0)).setCell ⟨w.heap.size, 7, none⟩ (.slice none 0 0)) = W8 at *
          obtain ⟨y0, y1, y2, y3, y4, y5, y6, y7⟩ := ocells e8
          exact bodyPost_ret (v := .tuple #[.agg zans, .int .i64 4]) (by simp [results, Try.results14, go_sem, y0, y1, y2, y3, y4, y5, y6, y7, zans]) rfl (Dpost.none Hd.out b8)
        | true =>
          cases hs : shortN R.1.ns with
          | false =>
            have es : encS R.1 = (⟨#[]⟩, 1) := by rw [encS, hs]; rfl
            have Hd : Hid (decA s = none) := Lib.hid (by rw [decA, if_pos ⟨h6, hle⟩, if_neg (by rw [← HR.out, hs]; intro h; cases h.2.1)])
            rw [es]
            go_wp2_with fail
            obtain ⟨e8, b8⟩ := U8.out w7 HB7.out HX7.out
            clear z0 z1 z2 z3 z4 z5 z6 z7 f0 f1 f2 f3 f4 f5 f6 f7 q0 q1 q2 q3 q4 q5 q6 q7
            generalize ((((((((w7.setCell ⟨w.heap.size, 0, none⟩ (.int .i64 0)).setCell ⟨w.heap.size, 1, none⟩ (.int .i64 0)).setCell ⟨w.heap.size, 2, none⟩ (.int .i64 0)).setCell ⟨w.heap.size, 3, none⟩ (.int .i64 0)).setCell ⟨w.heap.size, 4, none⟩ (.int .i64 0)).setCell ⟨w.heap.size, 5, none⟩ (.slice none 0 0)).setCell ⟨w.heap.size, 6, none⟩ (.slice none 0 0)).setCell ⟨w.heap.size, 7, none⟩ (.slice none 0 0)) = W8 at *
            obtain ⟨y0, y1, y2, y3, y4, y5, y6, y7⟩ := ocells e8
            exact bodyPost_ret (v := .tuple #[.agg zans, .int .i64 4]) (by simp [results, Try.results14, go_sem, y0, y1, y2, y3, y4, y5, y6, y7, zans]) rfl (Dpost.none Hd.out b8)
          | true =>
            have es : encS R.1 = (Own.sB (outA R.1), 0) := by rw [encS, hs]; rfl
            rw [es]
            simp only
            generalize hS : Own.sB (outA R.1) = S
            by_cases hq : S = s
            · have Hd : Hid (decA s = some R.1) := Lib.hid (by rw [decA, if_pos ⟨h6, hle⟩, if_pos (by rw [← HR.out]; exact ⟨h2, hs, hS.trans hq⟩), ← HR.out])
              rw [hq]
              clear hS hq
              go_wp2_with fail
              have e8 := fill8 HX7.out (.int .i64 (R.1.i : Int)) (.int .i64 (R.1.k : Int)) (.int .i64 (R.1.c : Int)) (.int .i64 (R.1.a : Int)) (.int .i64 (R.1.b : Int)) (.slice A5 R.1.rs.length c5) (.slice A6 R.1.ns.length c6) (.slice A7 R.1.ks.length c7)
              have b8 := below8 HB7.out (Nat.le_refl _) (.int .i64 (R.1.i : Int)) (.int .i64 (R.1.k : Int)) (.int .i64 (R.1.c : Int)) (.int .i64 (R.1.a : Int)) (.int .i64 (R.1.b : Int)) (.slice A5 R.1.rs.length c5) (.slice A6 R.1.ns.length c6) (.slice A7 R.1.ks.length c7)
              have r8 := RowsR.move ROW7.out (w1 := ((((((((w7.setCell ⟨w.heap.size, 0, none⟩ (.int .i64 (R.1.i : Int))).setCell ⟨w.heap.size, 1, none⟩ (.int .i64 (R.1.k : Int))).setCell ⟨w.heap.size, 2, none⟩ (.int .i64 (R.1.c : Int))).setCell ⟨w.heap.size, 3, none⟩ (.int .i64 (R.1.a : Int))).setCell ⟨w.heap.size, 4, none⟩ (.int .i64 (R.1.b : Int))).setCell ⟨w.heap.size, 5, none⟩ (.slice A5 R.1.rs.length c5)).setCell ⟨w.heap.size, 6, none⟩ (.slice A6 R.1.ns.length c6)).setCell ⟨w.heap.size, 7, none⟩ (.slice A7 R.1.ks.length c7))) (fun k hk _ => far8 (w := w7) (o := w.heap.size) (k := k) (by omega) (.int .i64 (R.1.i : Int)) (.int .i64 (R.1.k : Int)) (.int .i64 (R.1.c : Int)) (.int .i64 (R.1.a : Int)) (.int .i64 (R.1.b : Int)) (.slice A5 R.1.rs.length c5) (.slice A6 R.1.ns.length c6) (.slice A7 R.1.ks.length c7))
              clear z0 z1 z2 z3 z4 z5 z6 z7 f0 f1 f2 f3 f4 f5 f6 f7 q0 q1 q2 q3 q4 q5 q6 q7
              generalize ((((((((w7.setCell ⟨w.heap.size, 0, none⟩ (.int .i64 (R.1.i : Int))).setCell ⟨w.heap.size, 1, none⟩ (.int .i64 (R.1.k : Int))).setCell ⟨w.heap.size, 2, none⟩ (.int .i64 (R.1.c : Int))).setCell ⟨w.heap.size, 3, none⟩ (.int .i64 (R.1.a : Int))).setCell ⟨w.heap.size, 4, none⟩ (.int .i64 (R.1.b : Int))).setCell ⟨w.heap.size, 5, none⟩ (.slice A5 R.1.rs.length c5)).setCell ⟨w.heap.size, 6, none⟩ (.slice A6 R.1.ns.length c6)).setCell ⟨w.heap.size, 7, none⟩ (.slice A7 R.1.ks.length c7)) = W8 at *
              obtain ⟨y0, y1, y2, y3, y4, y5, y6, y7⟩ := ocells e8
              exact bodyPost_ret (v := .tuple #[.agg (agA R.1 A5 c5 A6 c6 A7 c7), .int .i64 0]) (by simp [results, Try.results14, go_sem, y0, y1, y2, y3, y4, y5, y6, y7, agA]) rfl (Dpost.some Hd.out b8 r8.reads)
            · have Hd : Hid (decA s = none) := Lib.hid (by rw [decA, if_pos ⟨h6, hle⟩, if_neg (by rw [← HR.out]; intro h; exact hq (hS.symm.trans h.2.2))])
              have hq2 : ¬ S.toList = s.toList := fun h => hq (toList_inj h)
              have hq3 : (S.toList == s.toList) = false := by rw [beq_eq_false_iff_ne]; exact hq2
              have hq4 : (S.toList != s.toList) = true := by rw [bne_iff_ne]; exact hq2
              have hq7 : decide (S.toList = s.toList) = false := decide_eq_false hq2
              go_wp2_with fail
              obtain ⟨e8, b8⟩ := U8.out w7 HB7.out HX7.out
              clear z0 z1 z2 z3 z4 z5 z6 z7 f0 f1 f2 f3 f4 f5 f6 f7 q0 q1 q2 q3 q4 q5 q6 q7
              generalize ((((((((w7.setCell ⟨w.heap.size, 0, none⟩ (.int .i64 0)).setCell ⟨w.heap.size, 1, none⟩ (.int .i64 0)).setCell ⟨w.heap.size, 2, none⟩ (.int .i64 0)).setCell ⟨w.heap.size, 3, none⟩ (.int .i64 0)).setCell ⟨w.heap.size, 4, none⟩ (.int .i64 0)).setCell ⟨w.heap.size, 5, none⟩ (.slice none 0 0)).setCell ⟨w.heap.size, 6, none⟩ (.slice none 0 0)).setCell ⟨w.heap.size, 7, none⟩ (.slice none 0 0)) = W8 at *
              obtain ⟨y0, y1, y2, y3, y4, y5, y6, y7⟩ := ocells e8
              exact bodyPost_ret (v := .tuple #[.agg zans, .int .i64 4]) (by simp [results, Try.results14, go_sem, y0, y1, y2, y3, y4, y5, y6, y7, zans]) rfl (Dpost.none Hd.out b8)
      · go_simp; refine hK.out _ (WD.alloc (.cells #[.int .i64 0, .int .i64 0, .int .i64 0, .int .i64 0, .int .i64 0, .slice none 0 0, .slice none 0 0, .slice none 0 0] 27)) trivial (fun hHeld => ?_); clear hK; (try simp only [Act.put, List.setIfInBounds_toArray, List.set_cons_zero, List.set_cons_succ])
        have E3 := Own.heap_new WD (.cells #[.int .i64 0, .int .i64 0, .int .i64 0, .int .i64 0, .int .i64 0, .slice none 0 0, .slice none 0 0, .slice none 0 0] 27)
        have b3 : Below WD.heap.size WD (WD.alloc (.cells #[.int .i64 0, .int .i64 0, .int .i64 0, .int .i64 0, .int .i64 0, .slice none 0 0, .slice none 0 0, .slice none 0 0] 27)) := (Below.refl _ _).alloc (Nat.le_refl _) _
        have X3 := Own.blk_below HX3.out b3
        have RT3 := RT.below HRT.out b3
        have hxw : w.heap.size < WD.heap.size := Own.blk_lt HX3.out
        have hgw : w2.heap.size < WD.heap.size := Own.blk_lt HRT.out
        have B4' := B3.out.trans (b3.mono (Nat.le_of_lt hxw))
        have hsz5 : (WD.alloc (.cells #[.int .i64 0, .int .i64 0, .int .i64 0, .int .i64 0, .int .i64 0, .slice none 0 0, .slice none 0 0, .slice none 0 0] 27)).heap.size = WD.heap.size + 1 := by simp
        generalize hW3 : WD.alloc (.cells #[.int .i64 0, .int .i64 0, .int .i64 0, .int .i64 0, .int .i64 0, .slice none 0 0, .slice none 0 0, .slice none 0 0] 27) = W3 at *
        generalize hgx4 : WD.heap.size = gx at *
        refine wpAnyH_ready (rs := [10]) (by kernel_rfl) (by simp) ?_; refine AllReadyH.cons (o := { dst := some 50, op := Op.call { callee := Callee.value (Operand.func 32), args := #[Operand.tmp 40, Operand.tmp 49], argTypes := #[68, 27] }, type := 71, pos := "answer.go:169", after := #[{ on := 0, ground := Ground.data }, { on := 9, ground := Ground.data }], guard := none }) rfl (fun K hK => ?_) AllReadyH.nil
        go_simp; refine (read_rawD HR.out _ RT3 hle2).mono ?_; rintro e W5 ⟨hk4, A5, c5, A6, c6, A7, c7, rfl, hrows⟩; (try go_wp2_with fail); refine hK.out _ _ trivial (fun hHeld => ?_); clear hK; (try simp only [Act.put, List.setIfInBounds_toArray, List.set_cons_zero, List.set_cons_succ])
        refine wpAnyH_take (i := 11) (oi := { dst := some 39, op := Op.move (Operand.tmp 50), type := 71, pos := "answer.go:169", after := #[{ on := 10, ground := Ground.data }], guard := none }) (v := ?_) rfl (by kernel_rfl) (by kernel_rfl) (by kernel_rfl) (fun _ _ _ h => h) (Or.inl ⟨by rfl, ?_⟩) hHeld ?_; rotate_left 1; (intro w9 _hh; go_simp; first | done | with_reducible rfl); (try simp only [Act.put, List.setIfInBounds_toArray, List.set_cons_zero, List.set_cons_succ])
        refine wpAnyH_take (i := 12) (oi := { dst := some 51, op := Op.extract (Operand.tmp 39) 0, type := 27, pos := "answer.go:169", after := #[{ on := 11, ground := Ground.data }], guard := none }) (v := ?_) rfl (by kernel_rfl) (by kernel_rfl) (by kernel_rfl) (fun _ _ _ h => h) (Or.inl ⟨by rfl, ?_⟩) hHeld ?_; rotate_left 1; (intro w9 _hh; go_simp; first | done | with_reducible rfl); (try simp only [Act.put, List.setIfInBounds_toArray, List.set_cons_zero, List.set_cons_succ])
        refine wpAnyH_take (i := 13) (oi := { dst := some 52, op := Op.extract (Operand.tmp 39) 1, type := 4, pos := "answer.go:169", after := #[{ on := 11, ground := Ground.data }, { on := 15, ground := Ground.gcOnly Departure.lateStores }], guard := none }) (v := ?_) rfl (by kernel_rfl) (by kernel_rfl) (by kernel_rfl) (fun _ _ _ h => h) (Or.inl ⟨by rfl, ?_⟩) hHeld ?_; rotate_left 1; (intro w9 _hh; go_simp; first | done | with_reducible rfl); (try simp only [Act.put, List.setIfInBounds_toArray, List.set_cons_zero, List.set_cons_succ])
        have X5 := hk4.blk X3 (by omega)
        have E5 := hk4.blk E3 (by omega)
        have B5 := B4'.trans (hk4.bel.mono hgl)
        have hgx : w.heap.size < gx := hxw
        obtain ⟨z0, z1, z2, z3, z4, z5, z6, z7⟩ := ocells E5
        obtain ⟨f0, f1, f2, f3, f4, f5, f6, f7⟩ := ofrees E5
        refine wpAnyH_ready (rs := [15]) (by kernel_rfl) (by simp) ?_; refine AllReadyH.cons (o := { dst := none, op := Op.store 27 (Operand.tmp 9) (Operand.tmp 51), type := 0, pos := "answer.go:169", after := #[{ on := 14, ground := Ground.data }, { on := 12, ground := Ground.data }, { on := 10, ground := Ground.chain }, { on := 0, ground := Ground.phase }, { on := 1, ground := Ground.phase }, { on := 2, ground := Ground.phase }, { on := 3, ground := Ground.phase }, { on := 4, ground := Ground.phase }, { on := 5, ground := Ground.phase }, { on := 6, ground := Ground.phase }, { on := 7, ground := Ground.phase }, { on := 8, ground := Ground.phase }, { on := 9, ground := Ground.phase }, { on := 10, ground := Ground.phase }, { on := 11, ground := Ground.phase }, { on := 12, ground := Ground.phase }, { on := 13, ground := Ground.textOnly Departure.lateStores }, { on := 14, ground := Ground.phase }], guard := none }) rfl (fun K hK => ?_) AllReadyH.nil; go_simp
        have E6 := fill8 E5 (.int .i64 (R.1.i : Int)) (.int .i64 (R.1.k : Int)) (.int .i64 (R.1.c : Int)) (.int .i64 (R.1.a : Int)) (.int .i64 (R.1.b : Int)) (.slice A5 R.1.rs.length c5) (.slice A6 R.1.ns.length c6) (.slice A7 R.1.ks.length c7)
        have X6 := (far8 (w := W5) (o := gx) (k := w.heap.size) (by omega) (.int .i64 (R.1.i : Int)) (.int .i64 (R.1.k : Int)) (.int .i64 (R.1.c : Int)) (.int .i64 (R.1.a : Int)) (.int .i64 (R.1.b : Int)) (.slice A5 R.1.rs.length c5) (.slice A6 R.1.ns.length c6) (.slice A7 R.1.ks.length c7)).trans X5
        have B6 := below8 B5 (show w.heap.size ≤ gx by omega) (.int .i64 (R.1.i : Int)) (.int .i64 (R.1.k : Int)) (.int .i64 (R.1.c : Int)) (.int .i64 (R.1.a : Int)) (.int .i64 (R.1.b : Int)) (.slice A5 R.1.rs.length c5) (.slice A6 R.1.ns.length c6) (.slice A7 R.1.ks.length c7)
        have ROW6 := RowsR.move hrows (w1 := ((((((((W5.setCell ⟨gx, 0, none⟩ (.int .i64 (R.1.i : Int))).setCell ⟨gx, 1, none⟩ (.int .i64 (R.1.k : Int))).setCell ⟨gx, 2, none⟩ (.int .i64 (R.1.c : Int))).setCell ⟨gx, 3, none⟩ (.int .i64 (R.1.a : Int))).setCell ⟨gx, 4, none⟩ (.int .i64 (R.1.b : Int))).setCell ⟨gx, 5, none⟩ (.slice A5 R.1.rs.length c5)).setCell ⟨gx, 6, none⟩ (.slice A6 R.1.ns.length c6)).setCell ⟨gx, 7, none⟩ (.slice A7 R.1.ks.length c7))) (fun k hk hl => far8 (w := W5) (o := gx) (k := k) (by omega) (.int .i64 (R.1.i : Int)) (.int .i64 (R.1.k : Int)) (.int .i64 (R.1.c : Int)) (.int .i64 (R.1.a : Int)) (.int .i64 (R.1.b : Int)) (.slice A5 R.1.rs.length c5) (.slice A6 R.1.ns.length c6) (.slice A7 R.1.ks.length c7))
        clear z0 z1 z2 z3 z4 z5 z6 z7 f0 f1 f2 f3 f4 f5 f6 f7 E5 X5 B5
        generalize ((((((((W5.setCell ⟨gx, 0, none⟩ (.int .i64 (R.1.i : Int))).setCell ⟨gx, 1, none⟩ (.int .i64 (R.1.k : Int))).setCell ⟨gx, 2, none⟩ (.int .i64 (R.1.c : Int))).setCell ⟨gx, 3, none⟩ (.int .i64 (R.1.a : Int))).setCell ⟨gx, 4, none⟩ (.int .i64 (R.1.b : Int))).setCell ⟨gx, 5, none⟩ (.slice A5 R.1.rs.length c5)).setCell ⟨gx, 6, none⟩ (.slice A6 R.1.ns.length c6)).setCell ⟨gx, 7, none⟩ (.slice A7 R.1.ks.length c7)) = W6 at *
        refine hK.out _ _ trivial (fun hHeld => ?_); clear hK; (try simp only [Act.put, List.setIfInBounds_toArray, List.set_cons_zero, List.set_cons_succ])
        refine wpAnyH_take (i := 16) (oi := { dst := some 10, op := Op.assign (Operand.tmp 52), type := 4, pos := "answer.go:169", after := #[{ on := 13, ground := Ground.data }, { on := 15, ground := Ground.chain }, { on := 0, ground := Ground.phase }, { on := 1, ground := Ground.phase }, { on := 2, ground := Ground.phase }, { on := 3, ground := Ground.phase }, { on := 4, ground := Ground.phase }, { on := 5, ground := Ground.phase }, { on := 6, ground := Ground.phase }, { on := 7, ground := Ground.phase }, { on := 8, ground := Ground.phase }, { on := 9, ground := Ground.phase }, { on := 10, ground := Ground.phase }, { on := 11, ground := Ground.phase }, { on := 12, ground := Ground.phase }, { on := 13, ground := Ground.phase }, { on := 14, ground := Ground.phase }, { on := 15, ground := Ground.phase }], guard := none }) (v := ?_) rfl (by kernel_rfl) (by kernel_rfl) (by kernel_rfl) (fun _ _ _ h => h) (Or.inl ⟨by rfl, ?_⟩) hHeld ?_; rotate_left 1; (intro w9 _hh; go_simp; first | done | with_reducible rfl); (try simp only [Act.put, List.setIfInBounds_toArray, List.set_cons_zero, List.set_cons_succ])
        refine wpAnyH_done (by kernel_rfl) ?_ _
        obtain ⟨N, hN, ROWN⟩ : ∃ N, w.heap.size < N ∧ RowsR R.1 A5 c5 A6 c6 A7 c7 N W6 := ⟨_, (by omega), ROW6⟩
        have RA6 := RowsR.reads ROWN
        clear ROW6 hrows hHeld
        obtain ⟨q0, q1, q2, q3, q4, q5, q6, q7⟩ := ocells E6
        go_wp2_with fail
        refine (encode_rawD (s := s) HF.out A5 c5 A6 c6 A7 c7 W6 RA6).mono ?_
        rintro e w7 ⟨rfl, b7⟩
        have X7 := Own.blk_below X6 b7
        have E7 := Own.blk_below E6 b7
        have ROW7 := Lib.hid (RowsR.move ROWN (fun k _ hl => b7.block k hl)); clear ROWN
        have B7 := B6.trans (b7.mono (Nat.le_of_lt (Own.blk_lt X6)))
        clear q0 q1 q2 q3 q4 q5 q6 q7 RA6 E6 X6 B6 b7
        obtain ⟨q0, q1, q2, q3, q4, q5, q6, q7⟩ := ocells E7
        obtain ⟨z0, z1, z2, z3, z4, z5, z6, z7⟩ := ocells X7
        obtain ⟨f0, f1, f2, f3, f4, f5, f6, f7⟩ := ofrees X7
        have HE7 := Lib.hid E7; have HX7 := Lib.hid X7; have HB7 := Lib.hid B7
        have n1 : ¬ w.heap.size = gx := by omega
        have n2 : ¬ gx = w.heap.size := by omega
        clear E7 X7 B7
        cases h2 : R.2 with
        | false =>
          have Hd : Hid (decA s = none) := Lib.hid (by rw [decA, if_pos ⟨h6, hle⟩, if_neg (by rw [← HR.out, h2]; intro h; cases h.1)])
          go_wp2_with fail
          obtain ⟨e8, b8⟩ := U8.out w7 HB7.out HX7.out
          clear z0 z1 z2 z3 z4 z5 z6 z7 f0 f1 f2 f3 f4 f5 f6 f7 q0 q1 q2 q3 q4 q5 q6 q7
          generalize ((((((((w7.setCell ⟨w.heap.size, 0, none⟩ (.int .i64 0)).setCell ⟨w.heap.size, 1, none⟩ (.int .i64 0)).setCell ⟨w.heap.size, 2, none⟩ (.int .i64 0)).setCell ⟨w.heap.size, 3, none⟩ (.int .i64 0)).setCell ⟨w.heap.size, 4, none⟩ (.int .i64 0)).setCell ⟨w.heap.size, 5, none⟩ (.slice none 0 0)).setCell ⟨w.heap.size, 6, none⟩ (.slice none 0 0)).setCell ⟨w.heap.size, 7, none⟩ (.slice none 0 0)) = W8 at *
          obtain ⟨y0, y1, y2, y3, y4, y5, y6, y7⟩ := ocells e8
          exact bodyPost_ret (v := .tuple #[.agg zans, .int .i64 4]) (by simp [results, Try.results14, go_sem, y0, y1, y2, y3, y4, y5, y6, y7, zans]) rfl (Dpost.none Hd.out b8)
        | true =>
          cases hs : shortN R.1.ns with
          | false =>
            have es : encS R.1 = (⟨#[]⟩, 1) := by rw [encS, hs]; rfl
            have Hd : Hid (decA s = none) := Lib.hid (by rw [decA, if_pos ⟨h6, hle⟩, if_neg (by rw [← HR.out, hs]; intro h; cases h.2.1)])
            rw [es]
            go_wp2_with fail
            obtain ⟨e8, b8⟩ := U8.out w7 HB7.out HX7.out
            clear z0 z1 z2 z3 z4 z5 z6 z7 f0 f1 f2 f3 f4 f5 f6 f7 q0 q1 q2 q3 q4 q5 q6 q7
            generalize ((((((((w7.setCell ⟨w.heap.size, 0, none⟩ (.int .i64 0)).setCell ⟨w.heap.size, 1, none⟩ (.int .i64 0)).setCell ⟨w.heap.size, 2, none⟩ (.int .i64 0)).setCell ⟨w.heap.size, 3, none⟩ (.int .i64 0)).setCell ⟨w.heap.size, 4, none⟩ (.int .i64 0)).setCell ⟨w.heap.size, 5, none⟩ (.slice none 0 0)).setCell ⟨w.heap.size, 6, none⟩ (.slice none 0 0)).setCell ⟨w.heap.size, 7, none⟩ (.slice none 0 0)) = W8 at *
            obtain ⟨y0, y1, y2, y3, y4, y5, y6, y7⟩ := ocells e8
            exact bodyPost_ret (v := .tuple #[.agg zans, .int .i64 4]) (by simp [results, Try.results14, go_sem, y0, y1, y2, y3, y4, y5, y6, y7, zans]) rfl (Dpost.none Hd.out b8)
          | true =>
            have es : encS R.1 = (Own.sB (outA R.1), 0) := by rw [encS, hs]; rfl
            rw [es]
            simp only
            generalize hS : Own.sB (outA R.1) = S
            by_cases hq : S = s
            · have Hd : Hid (decA s = some R.1) := Lib.hid (by rw [decA, if_pos ⟨h6, hle⟩, if_pos (by rw [← HR.out]; exact ⟨h2, hs, hS.trans hq⟩), ← HR.out])
              rw [hq]
              clear hS hq
              go_wp2_with fail
              have e8 := fill8 HX7.out (.int .i64 (R.1.i : Int)) (.int .i64 (R.1.k : Int)) (.int .i64 (R.1.c : Int)) (.int .i64 (R.1.a : Int)) (.int .i64 (R.1.b : Int)) (.slice A5 R.1.rs.length c5) (.slice A6 R.1.ns.length c6) (.slice A7 R.1.ks.length c7)
              have b8 := below8 HB7.out (Nat.le_refl _) (.int .i64 (R.1.i : Int)) (.int .i64 (R.1.k : Int)) (.int .i64 (R.1.c : Int)) (.int .i64 (R.1.a : Int)) (.int .i64 (R.1.b : Int)) (.slice A5 R.1.rs.length c5) (.slice A6 R.1.ns.length c6) (.slice A7 R.1.ks.length c7)
              have r8 := RowsR.move ROW7.out (w1 := ((((((((w7.setCell ⟨w.heap.size, 0, none⟩ (.int .i64 (R.1.i : Int))).setCell ⟨w.heap.size, 1, none⟩ (.int .i64 (R.1.k : Int))).setCell ⟨w.heap.size, 2, none⟩ (.int .i64 (R.1.c : Int))).setCell ⟨w.heap.size, 3, none⟩ (.int .i64 (R.1.a : Int))).setCell ⟨w.heap.size, 4, none⟩ (.int .i64 (R.1.b : Int))).setCell ⟨w.heap.size, 5, none⟩ (.slice A5 R.1.rs.length c5)).setCell ⟨w.heap.size, 6, none⟩ (.slice A6 R.1.ns.length c6)).setCell ⟨w.heap.size, 7, none⟩ (.slice A7 R.1.ks.length c7))) (fun k hk _ => far8 (w := w7) (o := w.heap.size) (k := k) (by omega) (.int .i64 (R.1.i : Int)) (.int .i64 (R.1.k : Int)) (.int .i64 (R.1.c : Int)) (.int .i64 (R.1.a : Int)) (.int .i64 (R.1.b : Int)) (.slice A5 R.1.rs.length c5) (.slice A6 R.1.ns.length c6) (.slice A7 R.1.ks.length c7))
              clear z0 z1 z2 z3 z4 z5 z6 z7 f0 f1 f2 f3 f4 f5 f6 f7 q0 q1 q2 q3 q4 q5 q6 q7
              generalize ((((((((w7.setCell ⟨w.heap.size, 0, none⟩ (.int .i64 (R.1.i : Int))).setCell ⟨w.heap.size, 1, none⟩ (.int .i64 (R.1.k : Int))).setCell ⟨w.heap.size, 2, none⟩ (.int .i64 (R.1.c : Int))).setCell ⟨w.heap.size, 3, none⟩ (.int .i64 (R.1.a : Int))).setCell ⟨w.heap.size, 4, none⟩ (.int .i64 (R.1.b : Int))).setCell ⟨w.heap.size, 5, none⟩ (.slice A5 R.1.rs.length c5)).setCell ⟨w.heap.size, 6, none⟩ (.slice A6 R.1.ns.length c6)).setCell ⟨w.heap.size, 7, none⟩ (.slice A7 R.1.ks.length c7)) = W8 at *
              obtain ⟨y0, y1, y2, y3, y4, y5, y6, y7⟩ := ocells e8
              exact bodyPost_ret (v := .tuple #[.agg (agA R.1 A5 c5 A6 c6 A7 c7), .int .i64 0]) (by simp [results, Try.results14, go_sem, y0, y1, y2, y3, y4, y5, y6, y7, agA]) rfl (Dpost.some Hd.out b8 r8.reads)
            · have Hd : Hid (decA s = none) := Lib.hid (by rw [decA, if_pos ⟨h6, hle⟩, if_neg (by rw [← HR.out]; intro h; exact hq (hS.symm.trans h.2.2))])
              have hq2 : ¬ S.toList = s.toList := fun h => hq (toList_inj h)
              have hq3 : (S.toList == s.toList) = false := by rw [beq_eq_false_iff_ne]; exact hq2
              have hq4 : (S.toList != s.toList) = true := by rw [bne_iff_ne]; exact hq2
              have hq7 : decide (S.toList = s.toList) = false := decide_eq_false hq2
              go_wp2_with fail
              obtain ⟨e8, b8⟩ := U8.out w7 HB7.out HX7.out
              clear z0 z1 z2 z3 z4 z5 z6 z7 f0 f1 f2 f3 f4 f5 f6 f7 q0 q1 q2 q3 q4 q5 q6 q7
              generalize ((((((((w7.setCell ⟨w.heap.size, 0, none⟩ (.int .i64 0)).setCell ⟨w.heap.size, 1, none⟩ (.int .i64 0)).setCell ⟨w.heap.size, 2, none⟩ (.int .i64 0)).setCell ⟨w.heap.size, 3, none⟩ (.int .i64 0)).setCell ⟨w.heap.size, 4, none⟩ (.int .i64 0)).setCell ⟨w.heap.size, 5, none⟩ (.slice none 0 0)).setCell ⟨w.heap.size, 6, none⟩ (.slice none 0 0)).setCell ⟨w.heap.size, 7, none⟩ (.slice none 0 0)) = W8 at *
              obtain ⟨y0, y1, y2, y3, y4, y5, y6, y7⟩ := ocells e8
              exact bodyPost_ret (v := .tuple #[.agg zans, .int .i64 4]) (by simp [results, Try.results14, go_sem, y0, y1, y2, y3, y4, y5, y6, y7, zans]) rfl (Dpost.none Hd.out b8)
    · have Hd : Hid (decA s = none) := Lib.hid (by rw [decA, if_neg (fun h => hle h.2)])
      have t2 : (594 : Int) < (rdN s 4 6 : Int) := by omega
      go_wp2_with fail
      obtain ⟨e8, b8⟩ := U8.out w2 BA.out HBX.out
      clear z0 z1 z2 z3 z4 z5 z6 z7 f0 f1 f2 f3 f4 f5 f6 f7
      generalize ((((((((w2.setCell ⟨w.heap.size, 0, none⟩ (.int .i64 0)).setCell ⟨w.heap.size, 1, none⟩ (.int .i64 0)).setCell ⟨w.heap.size, 2, none⟩ (.int .i64 0)).setCell ⟨w.heap.size, 3, none⟩ (.int .i64 0)).setCell ⟨w.heap.size, 4, none⟩ (.int .i64 0)).setCell ⟨w.heap.size, 5, none⟩ (.slice none 0 0)).setCell ⟨w.heap.size, 6, none⟩ (.slice none 0 0)).setCell ⟨w.heap.size, 7, none⟩ (.slice none 0 0)) = W8 at *
      obtain ⟨y0, y1, y2, y3, y4, y5, y6, y7⟩ := ocells e8
      exact bodyPost_ret (v := .tuple #[.agg zans, .int .i64 4]) (by simp [results, Try.results14, go_sem, y0, y1, y2, y3, y4, y5, y6, y7, zans]) rfl (Dpost.none Hd.out b8)
  · have Hd : Hid (decA s = none) := Lib.hid (by rw [decA, if_neg (fun h => h6 h.1)])
    have g1 : (s.size : Int) ≠ 600 := by omega
    have g2 : ((s.size : Int) == 600) = false := by rw [beq_eq_false_iff_ne]; exact g1
    have g3 : ¬ (s.size : Int) = 600 := g1
    go_enter Try.func14, Try.ntmps14
    go_upto_region 1 with (fail)
    change Code.wp _ _ _ _ (w.alloc (.cells zans 27))
    generalize w.alloc (.cells zans 27) = W0 at *
    go_wp2_with fail
    obtain ⟨e8, b8⟩ := U8.out W0 BA.out HBX.out
    clear z0 z1 z2 z3 z4 z5 z6 z7 f0 f1 f2 f3 f4 f5 f6 f7
    generalize ((((((((W0.setCell ⟨w.heap.size, 0, none⟩ (.int .i64 0)).setCell ⟨w.heap.size, 1, none⟩ (.int .i64 0)).setCell ⟨w.heap.size, 2, none⟩ (.int .i64 0)).setCell ⟨w.heap.size, 3, none⟩ (.int .i64 0)).setCell ⟨w.heap.size, 4, none⟩ (.int .i64 0)).setCell ⟨w.heap.size, 5, none⟩ (.slice none 0 0)).setCell ⟨w.heap.size, 6, none⟩ (.slice none 0 0)).setCell ⟨w.heap.size, 7, none⟩ (.slice none 0 0)) = W8 at *
    obtain ⟨y0, y1, y2, y3, y4, y5, y6, y7⟩ := ocells e8
    exact bodyPost_ret (v := .tuple #[.agg zans, .int .i64 4]) (by simp [results, Try.results14, go_sem, y0, y1, y2, y3, y4, y5, y6, y7, zans]) rfl (Dpost.none Hd.out b8)
end Go.Proofs.Ytakbgaiedenikaa.Rd
/- Decode of Encode is the answer: plain laws. -/
namespace Go.Proofs.Ytakbgaiedenikaa.Rd
open Go.RowKit Go.Proofs.YtakbgaiedenikaaW.PrintWords Go.Proofs.Ytakbgaiedenikaa.PB
set_option linter.unusedSimpArgs false
set_option linter.unusedVariables false
theorem bl_sB (l : List UInt8) : bl (Own.sB l) = l := Own.sB_list l
theorem outA_length {r : Ans} (h : Fits r) : (outA r).length = 600 := by
  unfold outA
  rw [List.length_append, Own.outL_length, List.length_replicate]
  have := h.hl
  omega
theorem outA_eq (r : Ans) : outA r = Own.fixL 2 r.i ++ (Own.fixL 1 r.k ++ (Own.fixL 1 r.c ++ (Own.fixL 2 (Own.bodyL r.a r.b r.rs r.ns r.ks).length ++ (Own.bodyL r.a r.b r.rs r.ns r.ks ++ List.replicate (594 - (Own.bodyL r.a r.b r.rs r.ns r.ks).length) 0)))) := by
  unfold outA Own.outL
  simp only [List.append_assoc]
theorem mid_extract {s : ByteArray} {a b c : List UInt8} {i j : Nat} (h : bl s = a ++ (b ++ c)) (hi : a.length = i) (hj : j = i + b.length) : s.extract i j = Own.sB b := by
  apply bl_inj
  rw [bl_extract, bl_sB, h, ← hi, List.drop_left, hj, hi, Nat.add_sub_cancel_left, List.take_left]
theorem btN_of {s : ByteArray} {a c : List UInt8} {x : UInt8} {i : Nat} (h : bl s = a ++ ([x] ++ c)) (hi : a.length = i) : btN s i = x.toNat := by
  have hl : i < s.size := by rw [bl_size, h]; simp; omega
  have e : (bl s)[i]? = some x := by rw [h, List.getElem?_append_right (by omega)]; simp [hi]
  have e2 : (bl s)[i]? = some (s[i]'hl) := by
    show s.data.toList[i]? = _
    rw [List.getElem?_eq_getElem (by simpa using hl)]; rfl
  rw [btN, dif_pos hl]
  rw [e2] at e
  injection e with e
  rw [e]
theorem fix1 (v : Nat) : Own.fixL 1 v = [UInt8.ofNat v] := by rw [Own.fixL_cons]; simp [Own.fixL]
theorem u8_le {v : Nat} (h : v ≤ 255) : (UInt8.ofNat v).toNat = v := by rw [UInt8.toNat_ofNat']; exact Nat.mod_eq_of_lt (by omega)
theorem rawD_enc {r : Ans} (h : Fits r) (hs : shortN r.ns = true) : rdN (Own.sB (outA r)) 4 6 = (Own.bodyL r.a r.b r.rs r.ns r.ks).length ∧ rawD (Own.sB (outA r)) = (r, true) := by
  have h0 : bl (Own.sB (outA r)) = [] ++ (Own.fixL 2 r.i ++ (Own.fixL 1 r.k ++ (Own.fixL 1 r.c ++ (Own.fixL 2 (Own.bodyL r.a r.b r.rs r.ns r.ks).length ++ (Own.bodyL r.a r.b r.rs r.ns r.ks ++ List.replicate (594 - (Own.bodyL r.a r.b r.rs r.ns r.ks).length) 0))))) := by rw [bl_sB, outA_eq]; rfl
  generalize Own.sB (outA r) = s at *
  generalize hB : Own.bodyL r.a r.b r.rs r.ns r.ks = B at *
  have hl : B.length ≤ 594 := by rw [← hB]; exact h.hl
  have f2 : ∀ v, (Own.fixL 2 v).length = 2 := Own.fixL_length 2
  have f1 : ∀ v, (Own.fixL 1 v).length = 1 := Own.fixL_length 1
  have e1 : rdN s 0 2 = r.i := by
    unfold rdN
    rw [mid_extract (i := 0) (j := 2) h0 rfl (by rw [f2]), Own.sB_list, Own.readL_fixL]
    exact Nat.mod_eq_of_lt (by have := h.hi; omega)
  have h2 : bl s = Own.fixL 2 r.i ++ ([UInt8.ofNat r.k] ++ (Own.fixL 1 r.c ++ (Own.fixL 2 B.length ++ (B ++ List.replicate (594 - B.length) 0)))) := by rw [h0, fix1 r.k]; rfl
  have e2 : btN s 2 = r.k := by rw [btN_of h2 (f2 _)]; exact u8_le h.hk
  have h3 : bl s = (Own.fixL 2 r.i ++ Own.fixL 1 r.k) ++ ([UInt8.ofNat r.c] ++ (Own.fixL 2 B.length ++ (B ++ List.replicate (594 - B.length) 0))) := by rw [h0, fix1 r.c]; simp only [List.append_assoc, List.nil_append]
  have e3 : btN s 3 = r.c := by rw [btN_of h3 (by rw [List.length_append, f2, f1])]; exact u8_le h.hc
  have h4 : bl s = (Own.fixL 2 r.i ++ (Own.fixL 1 r.k ++ Own.fixL 1 r.c)) ++ (Own.fixL 2 B.length ++ (B ++ List.replicate (594 - B.length) 0)) := by rw [h0]; simp only [List.append_assoc, List.nil_append]
  have e4 : rdN s 4 6 = B.length := by
    unfold rdN
    rw [mid_extract h4 (by rw [List.length_append, List.length_append, f2, f1, f1]) (by rw [f2]), Own.sB_list, Own.readL_fixL]
    exact Nat.mod_eq_of_lt (by omega)
  have h5 : bl s = (Own.fixL 2 r.i ++ (Own.fixL 1 r.k ++ (Own.fixL 1 r.c ++ Own.fixL 2 B.length))) ++ (B ++ List.replicate (594 - B.length) 0) := by rw [h0]; simp only [List.append_assoc, List.nil_append]
  have e5 : s.extract 6 (6 + B.length) = Own.sB B := mid_extract h5 (by simp only [List.length_append, f2, f1]) rfl
  refine ⟨e4, ?_⟩
  unfold rawD
  rw [e1, e2, e3, e4, e5]
  have hr := readR_of (s := Own.sB B) (a := r.a) (b := r.b) (rs := r.rs) (ns := r.ns) (ks := r.ks) (r := []) (by rw [bl_sB, hB, List.append_nil]) h.ha h.hb (by have := h.h5; omega) (by have := h.h6; omega) (by have := h.h7; omega) h.hm (fun x hx => by have := of_decide_eq_true (List.all_eq_true.1 hs x hx); omega) h.hz
  unfold raw
  rw [hr, hB]
  have e6 : (Own.sB B).extract B.length (Own.sB B).size = ⟨#[]⟩ := bl_inj (by rw [bl_extract, bl_sB, List.drop_of_length_le (Nat.le_refl _), List.take_nil]; rfl)
  simp only
  rw [e6]
  have e7 : (⟨#[]⟩ : ByteArray).toList = [] := by rw [Go.ByteArray.toList_eq]
  rw [e7]
  rfl
theorem decA_enc {r : Ans} (h : Fits r) (hs : shortN r.ns = true) : decA (Own.sB (outA r)) = some r := by
  obtain ⟨h1, h2⟩ := rawD_enc h hs
  unfold decA
  rw [if_pos ⟨by rw [Own.sB_size, outA_length h], by rw [h1]; exact h.hl⟩, h2, if_pos ⟨rfl, hs, rfl⟩]
theorem fits_plain {i k c : Nat} (hi : i ≤ 65535) (hk : k ≤ 255) (hc : c ≤ 255) : Fits ⟨i, k, c, 0, 0, [], [], []⟩ :=
  ⟨hi, hk, hc, Nat.zero_le _, Nat.zero_le _, by simp, by simp, by simp, by simp, by simp, zbody⟩
theorem plain_bytes : outA ⟨5, 11, 6, 0, 0, [], [], []⟩ = [0, 5, 11, 6, 0, 5, 0, 0, 0, 0, 0] ++ List.replicate 589 0 := by
  have hb : Own.bodyL 0 0 [] [] [] = [0, 0, 0, 0, 0] := by rw [bodyL_eq]; simp [Own.chainL_lt]
  have ho : Own.outL 5 11 6 [0, 0, 0, 0, 0] = [0, 5, 11, 6, 0, 5, 0, 0, 0, 0, 0] := by decide
  unfold outA
  simp only [hb, ho]
  rfl
end Go.Proofs.Ytakbgaiedenikaa.Rd
/- The plain answer, by hand. -/
namespace Go.Proofs.Ytakbgaiedenikaa.Rd
open Go.RowKit Go.Proofs.YtakbgaiedenikaaW.PrintWords Go.Proofs.Ytakbgaiedenikaa.PB
set_option maxRecDepth 100000
set_option linter.unusedSimpArgs false
set_option linter.unusedVariables false
set_option maxHeartbeats 1000000 in
theorem plain_any (cs : Array Value) (id kd cd : Int) (w : World) (h0 : cs[0]? = some (.int .i64 id)) (h1 : cs[1]? = some (.int .i64 kd)) :
    Calls Try.prog 18 #[.agg cs, .int .i64 cd] w fun e w' => e = .returned (.agg #[.int .i64 id, .int .i64 kd, .int .i64 cd, .int .i64 0, .int .i64 0, .slice none 0 0, .slice none 0 0, .slice none 0 0]) ∧ Below w.heap.size w w' := by
  have e1 := Own.heap_new w (.cells cs 50)
  have b1 : Below w.heap.size w (w.alloc (.cells cs 50)) := (Below.refl _ _).alloc (Nat.le_refl _) _
  have e2 := Own.heap_new (w.alloc (.cells cs 50)) (.cells zans 27)
  have s1 : (w.alloc (.cells cs 50)).heap.size = w.heap.size + 1 := by simp
  have b2 : Below (w.alloc (.cells cs 50)).heap.size (w.alloc (.cells cs 50)) ((w.alloc (.cells cs 50)).alloc (.cells zans 27)) := (Below.refl _ _).alloc (Nat.le_refl _) _
  have e12 := Own.blk_below e1 b2
  have b12 := b1.trans (b2.mono (by omega))
  rw [s1] at e2
  clear b1 b2 e1 s1
  go_enter Try.func18, Try.ntmps18
  go_upto_region 1 with (fail)
  change Code.wp _ _ _ _ ((w.alloc (.cells cs 50)).alloc (.cells zans 27))
  generalize (w.alloc (.cells cs 50)).alloc (.cells zans 27) = W0 at *
  have q0 := (Own.blk_cell e12 0).trans h0
  have q1 := (Own.blk_cell e12 1).trans h1
  have HB := Lib.hid b12; have HX := Lib.hid e2
  obtain ⟨z0, z1, z2, z3, z4, z5, z6, z7⟩ := ocells e2
  obtain ⟨f0, f1, f2, f3, f4, f5, f6, f7⟩ := ofrees e2
  clear e12 h0 h1 b12 e2
  go_wp2_with fail
  have e8 := fill8 HX.out (.int .i64 id) (.int .i64 kd) (.int .i64 cd) (.int .i64 0) (.int .i64 0) (.slice none 0 0) (.slice none 0 0) (.slice none 0 0)
  have b8 := below8 HB.out (Nat.le_succ _) (.int .i64 id) (.int .i64 kd) (.int .i64 cd) (.int .i64 0) (.int .i64 0) (.slice none 0 0) (.slice none 0 0) (.slice none 0 0)
  clear z0 z1 z2 z3 z4 z5 z6 z7 f0 f1 f2 f3 f4 f5 f6 f7 q0 q1
  generalize (((((((W0.setCell ⟨w.heap.size + 1, 0, none⟩ (.int .i64 id)).setCell ⟨w.heap.size + 1, 1, none⟩ _).setCell ⟨w.heap.size + 1, 2, none⟩ _).setCell ⟨w.heap.size + 1, 3, none⟩ _).setCell ⟨w.heap.size + 1, 4, none⟩ _).setCell ⟨w.heap.size + 1, 5, none⟩ _).setCell ⟨w.heap.size + 1, 6, none⟩ _).setCell ⟨w.heap.size + 1, 7, none⟩ _ = W8 at *
  obtain ⟨y0, y1, y2, y3, y4, y5, y6, y7⟩ := ocells e8
  exact bodyPost_ret (v := .agg #[.int .i64 id, .int .i64 kd, .int .i64 cd, .int .i64 0, .int .i64 0, .slice none 0 0, .slice none 0 0, .slice none 0 0]) (by simp [results, Try.results18, go_sem, y0, y1, y2, y3, y4, y5, y6, y7]) rfl ⟨rfl, b8⟩
end Go.Proofs.Ytakbgaiedenikaa.Rd
/- The plain answer that each law looks at, by hand. -/
namespace Go.Proofs.Ytakbgaiedenikaa.Rd
open Go.RowKit Go.Proofs.YtakbgaiedenikaaW.PrintWords Go.Proofs.Ytakbgaiedenikaa.PB
set_option maxRecDepth 100000
set_option linter.unusedSimpArgs false
set_option linter.unusedVariables false
theorem rows_none (r : Ans) (h5 : r.rs = []) (h6 : r.ns = []) (h7 : r.ks = []) (w : World) : RowsA r none 0 none 0 none 0 w :=
  ⟨by rw [h5]; exact C_none _ _, by rw [h5]; exact Nat.le_refl _, by rw [h6]; exact C_none _ _, by rw [h6]; exact Nat.le_refl _, by rw [h7]; exact C_none _ _, by rw [h7]; exact Nat.le_refl _⟩
/-- A plain answer's bytes. -/
def plS (i k c : Nat) : ByteArray := Own.sB (outA ⟨i, k, c, 0, 0, [], [], []⟩)
theorem encode_pl (i k c : Nat) (w : World) (hi : i ≤ 65535) (hk : k ≤ 255) (hc : c ≤ 255) :
    Calls Try.prog 9 #[.agg #[.int .i64 (i : Int), .int .i64 (k : Int), .int .i64 (c : Int), .int .i64 0, .int .i64 0, .slice none 0 0, .slice none 0 0, .slice none 0 0]] w fun e w' => e = .returned (.tuple #[.string (plS i k c), .int .i64 0]) ∧ Below w.heap.size w w' :=
  encode_raw ⟨i, k, c, 0, 0, [], [], []⟩ none 0 none 0 none 0 w (fits_plain hi hk hc) (rows_none _ rfl rfl rfl w)
theorem decode_pl (i k c : Nat) (w : World) (hi : i ≤ 65535) (hk : k ≤ 255) (hc : c ≤ 255) :
    Calls Try.prog 14 #[.string (plS i k c)] w fun e w' => Below w.heap.size w w' ∧ ∃ A5 c5 A6 c6 A7 c7, e = .returned (.tuple #[.agg #[.int .i64 (i : Int), .int .i64 (k : Int), .int .i64 (c : Int), .int .i64 0, .int .i64 0, .slice A5 0 c5, .slice A6 0 c6, .slice A7 0 c7], .int .i64 0]) := by
  have hf := fits_plain hi hk hc
  have hsz : (plS i k c).size = 600 := by unfold plS; rw [Own.sB_size, outA_length hf]
  refine (decode_any (plS i k c) w (by omega)).mono ?_
  rintro e w' ⟨h1, h2⟩
  have hd : decA (plS i k c) = some ⟨i, k, c, 0, 0, [], [], []⟩ := decA_enc hf rfl
  rw [hd] at h2
  obtain ⟨A5, c5, A6, c6, A7, c7, he, _⟩ := h2
  exact ⟨h1, A5, c5, A6, c6, A7, c7, he⟩
theorem pl_head : (plS 5 11 6).extract 0 12 = ⟨#[0, 5, 11, 6, 0, 5, 0, 0, 0, 0, 0, 0]⟩ := by
  apply bl_inj
  rw [bl_extract]
  unfold plS
  rw [bl_sB, plain_bytes]
  decide
theorem pl_size : (plS 5 11 6).size = 600 := by
  unfold plS; rw [Own.sB_size, outA_length (fits_plain (by decide) (by decide) (by decide))]
set_option maxHeartbeats 1000000 in
theorem plain_true (w : World) : Calls Try.prog 8 #[] w fun e w' => e = .returned (.bool true) ∧ Below w.heap.size w w' := by
  have hh := pl_head
  have hz := pl_size
  have hs1 : (12 : Int) ≤ ((plS 5 11 6).size : Int) := by omega
  have hz2 : ((plS 5 11 6).size : Int) = 600 := by omega
  go_enter Try.func8, Try.ntmps8
  go_wp2_with fail
  refine (plain_any _ 5 11 6 _ rfl rfl).mono ?_
  rintro e w1 ⟨rfl, b1⟩
  go_wp2_with fail
  have b2 := b1.alloc (o := .cells #[.int .i64 5, .int .i64 11, .int .i64 6, .int .i64 0, .int .i64 0, .slice none 0 0, .slice none 0 0, .slice none 0 0] 27) b1.size
  generalize w1.alloc _ = W1 at *
  refine (encode_pl 5 11 6 W1 (by decide) (by decide) (by decide)).mono ?_
  rintro e w2 ⟨rfl, b3⟩
  have B3 := Lib.hid (b2.trans (b3.mono b2.size)); clear b1 b2 b3
  go_wp2_with fail
  refine (decode_pl 5 11 6 w2 (by decide) (by decide) (by decide)).mono ?_
  rintro e w3 ⟨b4, A5, c5, A6, c6, A7, c7, rfl⟩
  have B4 := Lib.hid (B3.out.trans (b4.mono B3.out.size)); clear b4
  generalize plS 5 11 6 = S at *
  go_wp2_with fail
  go_ret
  exact ⟨rfl, B4.out.alloc B4.out.size _⟩
end Go.Proofs.Ytakbgaiedenikaa.Rd
