/- The document's disk: a crash. -/
import Derived.Test.YtlodjkmablogcaaDQ
import Derived.Deep.DeepCutAuto
namespace Go.Proofs.Ytlodjkmablogcaa.Own
open Go.RowKit Go.Proofs.YtlodjkmablogcaaW.PrintWords Go.Proofs.Ytlodjkmablogcaa.PB
set_option maxRecDepth 100000
set_option linter.unusedSimpArgs false
set_option linter.unusedVariables false
/-- The state of the document's crash at the head of a round. -/
structure DR (B : Nat) (AW : Option Addr) (cW : Nat) (AX : Option Addr) (cX : Nat) (W X : List S79) (v : Value) (M : List ByteArray) (w wr : World) : Prop where
  b2 : wr.heap[w.heap.size + 2]? = some (.cells #[v, .slice AW W.length cW] 39 (0, 0))
  b1 : wr.heap[w.heap.size + 1]? = some (.cells #[.slice none 0 0, .slice none 0 0] 39 (0, 0))
  dd : DD B v (.slice AW W.length cW) M W wr
  x : Kd.R k79 79 wr w.heap.size (fun q => q ≠ w.heap.size + 2) (.slice AX X.length cX) X
  bel : Below w.heap.size w wr
theorem DR.below {B : Nat} {AW : Option Addr} {cW : Nat} {AX : Option Addr} {cX : Nat} {W X : List S79} {v : Value} {M : List ByteArray} {w wr w1 : World} (h : DR B AW cW AX cX W X v M w wr) (hb : Below wr.heap.size wr w1) : DR B AW cW AX cX W X v M w w1 :=
  ⟨blk_below h.b2 hb, blk_below h.b1 hb, h.dd.below hb, Kd.R_below h.x hb, below_two h.bel hb⟩
theorem DR.drew {B : Nat} {AW : Option Addr} {cW : Nat} {AX : Option Addr} {cX : Nat} {W X : List S79} {v : Value} {M : List ByteArray} {w wr : World} (h : DR B AW cW AX cX W X v M w wr) : DR B AW cW AX cX W X v M w wr.drew := h.below ((Below.refl _ _).drew)
set_option maxHeartbeats 8000000 in
theorem docCrash_any {B : Nat} {vL vW : Value} {L : List ByteArray} {W : List S79} {w : World} (h : DD B vL vW L W w) (i j : Int) (hB : B ≤ w.heap.size) (hL : L.length ≤ 8192) (hL64 : ∀ s ∈ L, s.size = 64) (hW : W.length ≤ 1000000) (hw : ∀ x ∈ W, x.f1.size = 64 ∧ 0 ≤ x.f0 ∧ x.f0 < L.length) (h1 : 0 ≤ i) (h2 : i ≤ 8192) (h3 : 0 ≤ j) (h4 : j ≤ 8192)
    (KA : Option Addr) (kc : Nat) (ks : List S52) (hks : ks.length ≤ 1000) (hkc : ks.length ≤ kc) (hkp : Kd.C k52 w KA ks.length ks) :
    Calls Try.prog 30 #[.agg #[vL, vW], .int .i64 i, .int .i64 j, .slice KA ks.length kc] w fun e w' => ∃ v1 v2, e = .returned (.agg #[v1, v2]) ∧ DD B v1 v2 (crashF L (inF i j W) ks) (outF i j W) w' ∧ Below w.heap.size w w' := by
  obtain ⟨AL, cL, rfl, _, _⟩ := Kd.R_reads h.l
  obtain ⟨AW, cW, rfl, _, hCW⟩ := Kd.R_reads h.w
  obtain ⟨W1, hW1, bb, z0, z1, z2, hsz⟩ := three39 w (.slice AL L.length cL) (.slice AW W.length cW)
  have HD := Lib.hid (h.below bb)
  have CW := Lib.hid (Kd.C_below hCW bb)
  have HKP := Lib.hid hkp; clear hkp
  have BB := Lib.hid bb
  have HWB := Lib.hid hw; clear hw
  have HLS := Lib.hid hL64; clear hL64
  have H12 := Lib.hid (And.intro h1 (And.intro h2 (And.intro h3 h4)))
  have c0 := (blk_cell z0 0).trans rfl
  have c1 := (blk_cell z0 1).trans rfl
  have Y0 := Lib.hid z0; have Y1 := Lib.hid z1; have Y2 := Lib.hid z2; have SZ := Lib.hid hsz; have HW1 := Lib.hid hW1
  clear z0 z1 z2 hsz bb hW1 h hCW h1 h2 h3 h4
  have b0 := (blk_cell (heap_new w (.cells #[.slice AL L.length cL, .slice AW W.length cW] 39)) 0).trans rfl
  have b1 := (blk_cell (heap_new w (.cells #[.slice AL L.length cL, .slice AW W.length cW] 39)) 1).trans rfl
  go_enter Try.func30, Try.ntmps30
  go_upto_region 2 with (fail)
  rw [HW1.out]
  clear b0 b1
  go_wp2_with fail
  refine (docIn_any AW cW W (.slice AL L.length cL) i j W1 CW.out ⟨_, _, _, rfl⟩ hW (fun x hx => ⟨(HWB.out x hx).2.1, by have := (HWB.out x hx).2.2; omega⟩) H12.out.1 H12.out.2.1 H12.out.2.2.1 H12.out.2.2.2).mono ?_
  rintro e w2 ⟨vX, rfl, hX, b2⟩
  have HX := Lib.hid (show Kd.R k79 79 w2 w.heap.size (fun q => q ≠ w.heap.size + 2) vX (inF i j W) from Kd.R_lower (ok_off hX (by have := SZ.out; omega)) (by have := SZ.out; omega))
  have HXW := Lib.hid (show ∀ x ∈ inF i j W, x ∈ W from fun x hx => (List.mem_filter.1 hx).1)
  obtain ⟨AX, cX, rfl, hcx, _⟩ := Kd.R_reads hX
  have D2 := Lib.hid (show DR B AW cW AX cX W (inF i j W) (.slice AL L.length cL) L w w2 from ⟨blk_below Y2.out b2, blk_below Y1.out b2, HD.out.below b2, HX.out, BB.out.trans (b2.mono BB.out.size)⟩)
  have hxl : ((inF i j W).length : Int) ≤ 1000000 := by have := in_all i j W; omega
  generalize hXe : inF i j W = X at *
  have EX := Lib.hid hXe; clear hXe hX b2 c0 c1 CW HD BB Y1 Y2 HX
  go_wp2_with fail
  go_loopw [22] (fun q wr => ∃ (k : Nat) (v : Value), k ≤ ks.length ∧ q = .int .i64 k ∧ DR B AW cW AX cX W X v (crashS L X (ks.take k)).1 w wr) (fun q _ => ks.length - (intOf q).toNat)
  case atStart => exact ⟨0, _, by omega, rfl, D2.out⟩
  case round =>
    obtain ⟨k, v, hk, rfl, hdr⟩ := hrel
    have DRR := Lib.hid hdr; clear hdr
    have hkl : (ks.length : Int) ≤ 1000 := by omega
    have hkc' : (ks.length : Int) ≤ (kc : Int) := by omega
    by_cases hlt : k < ks.length
    · have q1 : (0 : Int) ≤ (k : Int) := Int.natCast_nonneg _
      have q2 : (k : Int) < (ks.length : Int) := by omega
      have q3 : (k : Int) ≤ (kc : Int) := by omega
      obtain ⟨bk, ofk, rfl, x0, x1⟩ := at52 (Kd.C_below HKP.out DRR.out.bel) k hlt
      have HN := Lib.hid (crashS_take (L := L) (X := X) hlt)
      have HLN := Lib.hid (fun p (hp : p < X.length) => late_next L X ks p hp k)
      generalize ks.getD k z52 = q at *
      obtain ⟨idx, by_⟩ := q
      simp only at x0 x1
      have HML := Lib.hid (show (crashS L X (ks.take k)).1.length = L.length from crashS_len X (ks.take k) (L, fun _ => 0))
      have HM64 := Lib.hid (crashS_64 HLS.out (fun x hx => (HWB.out x (HXW.out x hx)).1) (ks.take k))
      generalize hS : crashS L X (ks.take k) = S at *
      clear hS
      have BB1 : Below wr.heap.size wr (wr.alloc (.cells #[.int .i64 idx, .int .i64 by_] 52)) := (Below.refl _ _).alloc (Nat.le_refl _) _
      have D1 := Lib.hid (DRR.out.below BB1)
      have y0 := (blk_cell (heap_new wr (.cells #[.int .i64 idx, .int .i64 by_] 52)) 0).trans rfl
      have YB := Lib.hid (heap_new wr (.cells #[.int .i64 idx, .int .i64 by_] 52))
      clear BB1
      go_upto_region 6 with (fail)
      generalize hW1 : wr.alloc (.cells #[.int .i64 idx, .int .i64 by_] 52) = W1 at *
      generalize hqx : wr.heap.size = qx at *
      have ZX := Lib.hid y0
      have QL := Lib.hid (show qx < W1.heap.size from blk_lt YB.out)
      clear hW1 hqx x0 x1 y0
      by_cases i1 : idx < 0
      · have i1' : decide (idx < 0) = true := by simpa using i1
        refine wp_region_held_drew (S := fun w' => w'.cell? ⟨qx, 0, none⟩ = some (.int .i64 idx) ∧ Below W1.heap.size W1 w') (by kernel_rfl) (⟨ZX.out, (Below.refl _ _).drew⟩) (fun hHeld => ?_)
        refine wpAnyH_take (i := 0) (oi := { dst := some 27, op := Op.fieldAddr 52 (Operand.tmp 12) 0, type := 0, pos := "ref.go:114", after := #[], guard := none }) (v := ?_) rfl (by kernel_rfl) (by kernel_rfl) (by kernel_rfl) (fun _ _ _ h => h) (Or.inl ⟨by rfl, ?_⟩) hHeld ?_; rotate_left 1; (intro w9 hSw; obtain ⟨q1, q2⟩ := hSw; clear q2; go_simp; first | done | with_reducible rfl); (try simp only [Act.put, List.setIfInBounds_toArray, List.set_cons_zero, List.set_cons_succ])
        refine wpAnyH_take (i := 1) (oi := { dst := some 28, op := Op.load 3 (Operand.tmp 27), type := 3, pos := "ref.go:114", after := #[{ on := 0, ground := Ground.data }], guard := none }) (v := ?_) rfl (by kernel_rfl) (by kernel_rfl) (by kernel_rfl) (fun _ _ _ h => h) (Or.inl ⟨by rfl, ?_⟩) hHeld ?_; rotate_left 1; (intro w9 hSw; obtain ⟨q1, q2⟩ := hSw; clear q2; go_simp; first | done | with_reducible rfl); (try simp only [Act.put, List.setIfInBounds_toArray, List.set_cons_zero, List.set_cons_succ])
        refine wpAnyH_take (i := 2) (oi := { dst := some 29, op := Op.binOp BinOp.lss 3 (Operand.tmp 28) (Operand.const (Value.int IntKind.i64 0)) 3, type := 4, pos := "ref.go:114", after := #[{ on := 1, ground := Ground.data }], guard := none }) (v := ?_) rfl (by kernel_rfl) (by kernel_rfl) (by kernel_rfl) (fun _ _ _ h => h) (Or.inl ⟨by rfl, ?_⟩) hHeld ?_; rotate_left 1; (intro w9 hSw; obtain ⟨q1, q2⟩ := hSw; clear q2; go_simp; first | done | with_reducible rfl); (try simp only [Act.put, List.setIfInBounds_toArray, List.set_cons_zero, List.set_cons_succ])
        refine wpAnyH_take (i := 3) (oi := { dst := some 30, op := Op.move (Operand.tmp 29), type := 4, pos := "ref.go:114", after := #[{ on := 2, ground := Ground.data }], guard := none }) (v := ?_) rfl (by kernel_rfl) (by kernel_rfl) (by kernel_rfl) (fun _ _ _ h => h) (Or.inl ⟨by rfl, ?_⟩) hHeld ?_; rotate_left 1; (intro w9 hSw; obtain ⟨q1, q2⟩ := hSw; clear q2; go_simp; first | done | with_reducible rfl); (try simp only [Act.put, List.setIfInBounds_toArray, List.set_cons_zero, List.set_cons_succ])
        refine wpAnyH_take (i := 4) (oi := { dst := some 31, op := Op.fieldAddr 52 (Operand.tmp 12) 0, type := 0, pos := "ref.go:114", after := #[{ on := 3, ground := Ground.guard }], guard := some (3, false) }) (v := undef) rfl (by kernel_rfl) (by kernel_rfl) (by kernel_rfl) (fun _ _ _ h => h) (Or.inr ⟨by rfl, rfl⟩) hHeld ?_; (try simp only [Act.put, List.setIfInBounds_toArray, List.set_cons_zero, List.set_cons_succ])
        refine wpAnyH_take (i := 5) (oi := { dst := some 32, op := Op.load 3 (Operand.tmp 31), type := 3, pos := "ref.go:114", after := #[{ on := 4, ground := Ground.data }, { on := 3, ground := Ground.guard }], guard := some (3, false) }) (v := undef) rfl (by kernel_rfl) (by kernel_rfl) (by kernel_rfl) (fun _ _ _ h => h) (Or.inr ⟨by rfl, rfl⟩) hHeld ?_; (try simp only [Act.put, List.setIfInBounds_toArray, List.set_cons_zero, List.set_cons_succ])
        refine wpAnyH_take (i := 6) (oi := { dst := some 33, op := Op.move (Operand.tmp 10), type := 37, pos := "ref.go:114", after := #[{ on := 3, ground := Ground.guard }], guard := some (3, false) }) (v := undef) rfl (by kernel_rfl) (by kernel_rfl) (by kernel_rfl) (fun _ _ _ h => h) (Or.inr ⟨by rfl, rfl⟩) hHeld ?_; (try simp only [Act.put, List.setIfInBounds_toArray, List.set_cons_zero, List.set_cons_succ])
        refine wpAnyH_take (i := 7) (oi := { dst := some 34, op := Op.call { callee := Callee.builtin Builtin.len, args := #[Operand.tmp 33], argTypes := #[37] }, type := 3, pos := "ref.go:114", after := #[{ on := 6, ground := Ground.data }, { on := 3, ground := Ground.guard }], guard := some (3, false) }) (v := undef) rfl (by kernel_rfl) (by kernel_rfl) (by kernel_rfl) (fun _ _ _ h => h) (Or.inr ⟨by rfl, rfl⟩) hHeld ?_; (try simp only [Act.put, List.setIfInBounds_toArray, List.set_cons_zero, List.set_cons_succ])
        refine wpAnyH_take (i := 8) (oi := { dst := some 35, op := Op.binOp BinOp.geq 3 (Operand.tmp 32) (Operand.tmp 34) 3, type := 4, pos := "ref.go:114", after := #[{ on := 5, ground := Ground.data }, { on := 7, ground := Ground.data }, { on := 3, ground := Ground.guard }], guard := some (3, false) }) (v := undef) rfl (by kernel_rfl) (by kernel_rfl) (by kernel_rfl) (fun _ _ _ h => h) (Or.inr ⟨by rfl, rfl⟩) hHeld ?_; (try simp only [Act.put, List.setIfInBounds_toArray, List.set_cons_zero, List.set_cons_succ])
        refine wpAnyH_take (i := 9) (oi := { dst := some 36, op := Op.pick (Operand.tmp 30) (Operand.const (Value.bool true)) (Operand.tmp 35), type := 4, pos := "ref.go:114", after := #[{ on := 3, ground := Ground.data }, { on := 8, ground := Ground.data }], guard := none }) (v := ?_) rfl (by kernel_rfl) (by kernel_rfl) (by kernel_rfl) (fun _ _ _ h => h) (Or.inl ⟨by rfl, ?_⟩) hHeld ?_; rotate_left 1; (intro w9 hSw; obtain ⟨q1, q2⟩ := hSw; clear q2; go_simp; first | done | with_reducible rfl); (try simp only [Act.put, List.setIfInBounds_toArray, List.set_cons_zero, List.set_cons_succ])
        refine wpAnyH_take (i := 10) (oi := { dst := some 37, op := Op.move (Operand.tmp 36), type := 4, pos := "ref.go:114", after := #[{ on := 9, ground := Ground.data }, { on := 3, ground := Ground.chain }], guard := none }) (v := ?_) rfl (by kernel_rfl) (by kernel_rfl) (by kernel_rfl) (fun _ _ _ h => h) (Or.inl ⟨by rfl, ?_⟩) hHeld ?_; rotate_left 1; (intro w9 hSw; obtain ⟨q1, q2⟩ := hSw; clear q2; go_simp; first | done | with_reducible rfl); (try simp only [Act.put, List.setIfInBounds_toArray, List.set_cons_zero, List.set_cons_succ])
        refine wpAnyH_take (i := 11) (oi := { dst := some 38, op := Op.move (Operand.tmp 10), type := 37, pos := "ref.go:114", after := #[{ on := 10, ground := Ground.guard }], guard := some (10, false) }) (v := undef) rfl (by kernel_rfl) (by kernel_rfl) (by kernel_rfl) (fun _ _ _ h => h) (Or.inr ⟨by rfl, rfl⟩) hHeld ?_; (try simp only [Act.put, List.setIfInBounds_toArray, List.set_cons_zero, List.set_cons_succ])
        refine wpAnyH_take (i := 12) (oi := { dst := some 39, op := Op.move (Operand.tmp 3), type := 23, pos := "ref.go:114", after := #[{ on := 10, ground := Ground.guard }], guard := some (10, false) }) (v := undef) rfl (by kernel_rfl) (by kernel_rfl) (by kernel_rfl) (fun _ _ _ h => h) (Or.inr ⟨by rfl, rfl⟩) hHeld ?_; (try simp only [Act.put, List.setIfInBounds_toArray, List.set_cons_zero, List.set_cons_succ])
        refine wpAnyH_take (i := 13) (oi := { dst := some 40, op := Op.move (Operand.tmp 11), type := 3, pos := "ref.go:114", after := #[{ on := 10, ground := Ground.guard }], guard := some (10, false) }) (v := undef) rfl (by kernel_rfl) (by kernel_rfl) (by kernel_rfl) (fun _ _ _ h => h) (Or.inr ⟨by rfl, rfl⟩) hHeld ?_; (try simp only [Act.put, List.setIfInBounds_toArray, List.set_cons_zero, List.set_cons_succ])
        refine wpAnyH_take (i := 14) (oi := { dst := some 41, op := Op.slice 23 (Operand.tmp 39) none (some (Operand.tmp 40)) none, type := 23, pos := "ref.go:114", after := #[{ on := 12, ground := Ground.data }, { on := 13, ground := Ground.data }, { on := 10, ground := Ground.guard }], guard := some (10, false) }) (v := undef) rfl (by kernel_rfl) (by kernel_rfl) (by kernel_rfl) (fun _ _ _ h => h) (Or.inr ⟨by rfl, rfl⟩) hHeld ?_; (try simp only [Act.put, List.setIfInBounds_toArray, List.set_cons_zero, List.set_cons_succ])
        refine wpAnyH_take (i := 15) (oi := { dst := some 42, op := Op.fieldAddr 52 (Operand.tmp 12) 0, type := 0, pos := "ref.go:114", after := #[{ on := 10, ground := Ground.guard }], guard := some (10, false) }) (v := undef) rfl (by kernel_rfl) (by kernel_rfl) (by kernel_rfl) (fun _ _ _ h => h) (Or.inr ⟨by rfl, rfl⟩) hHeld ?_; (try simp only [Act.put, List.setIfInBounds_toArray, List.set_cons_zero, List.set_cons_succ])
        refine wpAnyH_take (i := 16) (oi := { dst := some 43, op := Op.load 3 (Operand.tmp 42), type := 3, pos := "ref.go:114", after := #[{ on := 15, ground := Ground.data }, { on := 10, ground := Ground.guard }], guard := some (10, false) }) (v := undef) rfl (by kernel_rfl) (by kernel_rfl) (by kernel_rfl) (fun _ _ _ h => h) (Or.inr ⟨by rfl, rfl⟩) hHeld ?_; (try simp only [Act.put, List.setIfInBounds_toArray, List.set_cons_zero, List.set_cons_succ])
        refine wpAnyH_take (i := 17) (oi := { dst := some 44, op := Op.call { callee := Callee.value (Operand.func 38), args := #[Operand.tmp 38, Operand.tmp 41, Operand.tmp 43], argTypes := #[37, 23, 3] }, type := 4, pos := "ref.go:114", after := #[{ on := 11, ground := Ground.data }, { on := 14, ground := Ground.data }, { on := 16, ground := Ground.data }, { on := 10, ground := Ground.chain }, { on := 10, ground := Ground.guard }], guard := some (10, false) }) (v := undef) rfl (by kernel_rfl) (by kernel_rfl) (by kernel_rfl) (fun _ _ _ h => h) (Or.inr ⟨by rfl, rfl⟩) hHeld ?_; (try simp only [Act.put, List.setIfInBounds_toArray, List.set_cons_zero, List.set_cons_succ])
        refine wpAnyH_take (i := 18) (oi := { dst := some 45, op := Op.pick (Operand.tmp 37) (Operand.const (Value.bool true)) (Operand.tmp 44), type := 4, pos := "ref.go:114", after := #[{ on := 10, ground := Ground.data }, { on := 17, ground := Ground.data }], guard := none }) (v := ?_) rfl (by kernel_rfl) (by kernel_rfl) (by kernel_rfl) (fun _ _ _ h => h) (Or.inl ⟨by rfl, ?_⟩) hHeld ?_; rotate_left 1; (intro w9 hSw; obtain ⟨q1, q2⟩ := hSw; clear q2; go_simp; first | done | with_reducible rfl); (try simp only [Act.put, List.setIfInBounds_toArray, List.set_cons_zero, List.set_cons_succ])
        refine wpAnyH_done (by kernel_rfl) ?_ _
        have DN := Lib.hid (D1.out.below hHeld.2)
        clear hHeld
        go_wp2
        go_roundw
        case rel => exact ⟨k + 1, v, by omega, by go_num, by rw [HN.out, cstep_no (by omega)]; exact DN.out⟩
        case measure => simp [intOf]; omega
      · have i1' : decide (idx < 0) = false := by simp; omega
        by_cases i2 : (X.length : Int) ≤ idx
        · have i2' : decide ((X.length : Int) ≤ idx) = true := by simpa using i2
          refine wp_region_held_drew (S := fun w' => w'.cell? ⟨qx, 0, none⟩ = some (.int .i64 idx) ∧ Below W1.heap.size W1 w') (by kernel_rfl) (⟨ZX.out, (Below.refl _ _).drew⟩) (fun hHeld => ?_)
          refine wpAnyH_take (i := 0) (oi := { dst := some 27, op := Op.fieldAddr 52 (Operand.tmp 12) 0, type := 0, pos := "ref.go:114", after := #[], guard := none }) (v := ?_) rfl (by kernel_rfl) (by kernel_rfl) (by kernel_rfl) (fun _ _ _ h => h) (Or.inl ⟨by rfl, ?_⟩) hHeld ?_; rotate_left 1; (intro w9 hSw; obtain ⟨q1, q2⟩ := hSw; clear q2; go_simp; first | done | with_reducible rfl); (try simp only [Act.put, List.setIfInBounds_toArray, List.set_cons_zero, List.set_cons_succ])
          refine wpAnyH_take (i := 1) (oi := { dst := some 28, op := Op.load 3 (Operand.tmp 27), type := 3, pos := "ref.go:114", after := #[{ on := 0, ground := Ground.data }], guard := none }) (v := ?_) rfl (by kernel_rfl) (by kernel_rfl) (by kernel_rfl) (fun _ _ _ h => h) (Or.inl ⟨by rfl, ?_⟩) hHeld ?_; rotate_left 1; (intro w9 hSw; obtain ⟨q1, q2⟩ := hSw; clear q2; go_simp; first | done | with_reducible rfl); (try simp only [Act.put, List.setIfInBounds_toArray, List.set_cons_zero, List.set_cons_succ])
          refine wpAnyH_take (i := 2) (oi := { dst := some 29, op := Op.binOp BinOp.lss 3 (Operand.tmp 28) (Operand.const (Value.int IntKind.i64 0)) 3, type := 4, pos := "ref.go:114", after := #[{ on := 1, ground := Ground.data }], guard := none }) (v := ?_) rfl (by kernel_rfl) (by kernel_rfl) (by kernel_rfl) (fun _ _ _ h => h) (Or.inl ⟨by rfl, ?_⟩) hHeld ?_; rotate_left 1; (intro w9 hSw; obtain ⟨q1, q2⟩ := hSw; clear q2; go_simp; first | done | with_reducible rfl); (try simp only [Act.put, List.setIfInBounds_toArray, List.set_cons_zero, List.set_cons_succ])
          refine wpAnyH_take (i := 3) (oi := { dst := some 30, op := Op.move (Operand.tmp 29), type := 4, pos := "ref.go:114", after := #[{ on := 2, ground := Ground.data }], guard := none }) (v := ?_) rfl (by kernel_rfl) (by kernel_rfl) (by kernel_rfl) (fun _ _ _ h => h) (Or.inl ⟨by rfl, ?_⟩) hHeld ?_; rotate_left 1; (intro w9 hSw; obtain ⟨q1, q2⟩ := hSw; clear q2; go_simp; first | done | with_reducible rfl); (try simp only [Act.put, List.setIfInBounds_toArray, List.set_cons_zero, List.set_cons_succ])
          refine wpAnyH_take (i := 4) (oi := { dst := some 31, op := Op.fieldAddr 52 (Operand.tmp 12) 0, type := 0, pos := "ref.go:114", after := #[{ on := 3, ground := Ground.guard }], guard := some (3, false) }) (v := ?_) rfl (by kernel_rfl) (by kernel_rfl) (by kernel_rfl) (fun _ _ _ h => h) (Or.inl ⟨by rfl, ?_⟩) hHeld ?_; rotate_left 1; (intro w9 hSw; obtain ⟨q1, q2⟩ := hSw; clear q2; go_simp; first | done | with_reducible rfl); (try simp only [Act.put, List.setIfInBounds_toArray, List.set_cons_zero, List.set_cons_succ])
          refine wpAnyH_take (i := 5) (oi := { dst := some 32, op := Op.load 3 (Operand.tmp 31), type := 3, pos := "ref.go:114", after := #[{ on := 4, ground := Ground.data }, { on := 3, ground := Ground.guard }], guard := some (3, false) }) (v := ?_) rfl (by kernel_rfl) (by kernel_rfl) (by kernel_rfl) (fun _ _ _ h => h) (Or.inl ⟨by rfl, ?_⟩) hHeld ?_; rotate_left 1; (intro w9 hSw; obtain ⟨q1, q2⟩ := hSw; clear q2; go_simp; first | done | with_reducible rfl); (try simp only [Act.put, List.setIfInBounds_toArray, List.set_cons_zero, List.set_cons_succ])
          refine wpAnyH_take (i := 6) (oi := { dst := some 33, op := Op.move (Operand.tmp 10), type := 37, pos := "ref.go:114", after := #[{ on := 3, ground := Ground.guard }], guard := some (3, false) }) (v := ?_) rfl (by kernel_rfl) (by kernel_rfl) (by kernel_rfl) (fun _ _ _ h => h) (Or.inl ⟨by rfl, ?_⟩) hHeld ?_; rotate_left 1; (intro w9 hSw; obtain ⟨q1, q2⟩ := hSw; clear q2; go_simp; first | done | with_reducible rfl); (try simp only [Act.put, List.setIfInBounds_toArray, List.set_cons_zero, List.set_cons_succ])
          refine wpAnyH_take (i := 7) (oi := { dst := some 34, op := Op.call { callee := Callee.builtin Builtin.len, args := #[Operand.tmp 33], argTypes := #[37] }, type := 3, pos := "ref.go:114", after := #[{ on := 6, ground := Ground.data }, { on := 3, ground := Ground.guard }], guard := some (3, false) }) (v := ?_) rfl (by kernel_rfl) (by kernel_rfl) (by kernel_rfl) (fun _ _ _ h => h) (Or.inl ⟨by rfl, ?_⟩) hHeld ?_; rotate_left 1; (intro w9 hSw; obtain ⟨q1, q2⟩ := hSw; clear q2; go_simp; first | done | with_reducible rfl); (try simp only [Act.put, List.setIfInBounds_toArray, List.set_cons_zero, List.set_cons_succ])
          refine wpAnyH_take (i := 8) (oi := { dst := some 35, op := Op.binOp BinOp.geq 3 (Operand.tmp 32) (Operand.tmp 34) 3, type := 4, pos := "ref.go:114", after := #[{ on := 5, ground := Ground.data }, { on := 7, ground := Ground.data }, { on := 3, ground := Ground.guard }], guard := some (3, false) }) (v := ?_) rfl (by kernel_rfl) (by kernel_rfl) (by kernel_rfl) (fun _ _ _ h => h) (Or.inl ⟨by rfl, ?_⟩) hHeld ?_; rotate_left 1; (intro w9 hSw; obtain ⟨q1, q2⟩ := hSw; clear q2; go_simp; first | done | with_reducible rfl); (try simp only [Act.put, List.setIfInBounds_toArray, List.set_cons_zero, List.set_cons_succ])
          refine wpAnyH_take (i := 9) (oi := { dst := some 36, op := Op.pick (Operand.tmp 30) (Operand.const (Value.bool true)) (Operand.tmp 35), type := 4, pos := "ref.go:114", after := #[{ on := 3, ground := Ground.data }, { on := 8, ground := Ground.data }], guard := none }) (v := ?_) rfl (by kernel_rfl) (by kernel_rfl) (by kernel_rfl) (fun _ _ _ h => h) (Or.inl ⟨by rfl, ?_⟩) hHeld ?_; rotate_left 1; (intro w9 hSw; obtain ⟨q1, q2⟩ := hSw; clear q2; go_simp; first | done | with_reducible rfl); (try simp only [Act.put, List.setIfInBounds_toArray, List.set_cons_zero, List.set_cons_succ])
          refine wpAnyH_take (i := 10) (oi := { dst := some 37, op := Op.move (Operand.tmp 36), type := 4, pos := "ref.go:114", after := #[{ on := 9, ground := Ground.data }, { on := 3, ground := Ground.chain }], guard := none }) (v := ?_) rfl (by kernel_rfl) (by kernel_rfl) (by kernel_rfl) (fun _ _ _ h => h) (Or.inl ⟨by rfl, ?_⟩) hHeld ?_; rotate_left 1; (intro w9 hSw; obtain ⟨q1, q2⟩ := hSw; clear q2; go_simp; first | done | with_reducible rfl); (try simp only [Act.put, List.setIfInBounds_toArray, List.set_cons_zero, List.set_cons_succ])
          refine wpAnyH_take (i := 11) (oi := { dst := some 38, op := Op.move (Operand.tmp 10), type := 37, pos := "ref.go:114", after := #[{ on := 10, ground := Ground.guard }], guard := some (10, false) }) (v := undef) rfl (by kernel_rfl) (by kernel_rfl) (by kernel_rfl) (fun _ _ _ h => h) (Or.inr ⟨by rfl, rfl⟩) hHeld ?_; (try simp only [Act.put, List.setIfInBounds_toArray, List.set_cons_zero, List.set_cons_succ])
          refine wpAnyH_take (i := 12) (oi := { dst := some 39, op := Op.move (Operand.tmp 3), type := 23, pos := "ref.go:114", after := #[{ on := 10, ground := Ground.guard }], guard := some (10, false) }) (v := undef) rfl (by kernel_rfl) (by kernel_rfl) (by kernel_rfl) (fun _ _ _ h => h) (Or.inr ⟨by rfl, rfl⟩) hHeld ?_; (try simp only [Act.put, List.setIfInBounds_toArray, List.set_cons_zero, List.set_cons_succ])
          refine wpAnyH_take (i := 13) (oi := { dst := some 40, op := Op.move (Operand.tmp 11), type := 3, pos := "ref.go:114", after := #[{ on := 10, ground := Ground.guard }], guard := some (10, false) }) (v := undef) rfl (by kernel_rfl) (by kernel_rfl) (by kernel_rfl) (fun _ _ _ h => h) (Or.inr ⟨by rfl, rfl⟩) hHeld ?_; (try simp only [Act.put, List.setIfInBounds_toArray, List.set_cons_zero, List.set_cons_succ])
          refine wpAnyH_take (i := 14) (oi := { dst := some 41, op := Op.slice 23 (Operand.tmp 39) none (some (Operand.tmp 40)) none, type := 23, pos := "ref.go:114", after := #[{ on := 12, ground := Ground.data }, { on := 13, ground := Ground.data }, { on := 10, ground := Ground.guard }], guard := some (10, false) }) (v := undef) rfl (by kernel_rfl) (by kernel_rfl) (by kernel_rfl) (fun _ _ _ h => h) (Or.inr ⟨by rfl, rfl⟩) hHeld ?_; (try simp only [Act.put, List.setIfInBounds_toArray, List.set_cons_zero, List.set_cons_succ])
          refine wpAnyH_take (i := 15) (oi := { dst := some 42, op := Op.fieldAddr 52 (Operand.tmp 12) 0, type := 0, pos := "ref.go:114", after := #[{ on := 10, ground := Ground.guard }], guard := some (10, false) }) (v := undef) rfl (by kernel_rfl) (by kernel_rfl) (by kernel_rfl) (fun _ _ _ h => h) (Or.inr ⟨by rfl, rfl⟩) hHeld ?_; (try simp only [Act.put, List.setIfInBounds_toArray, List.set_cons_zero, List.set_cons_succ])
          refine wpAnyH_take (i := 16) (oi := { dst := some 43, op := Op.load 3 (Operand.tmp 42), type := 3, pos := "ref.go:114", after := #[{ on := 15, ground := Ground.data }, { on := 10, ground := Ground.guard }], guard := some (10, false) }) (v := undef) rfl (by kernel_rfl) (by kernel_rfl) (by kernel_rfl) (fun _ _ _ h => h) (Or.inr ⟨by rfl, rfl⟩) hHeld ?_; (try simp only [Act.put, List.setIfInBounds_toArray, List.set_cons_zero, List.set_cons_succ])
          refine wpAnyH_take (i := 17) (oi := { dst := some 44, op := Op.call { callee := Callee.value (Operand.func 38), args := #[Operand.tmp 38, Operand.tmp 41, Operand.tmp 43], argTypes := #[37, 23, 3] }, type := 4, pos := "ref.go:114", after := #[{ on := 11, ground := Ground.data }, { on := 14, ground := Ground.data }, { on := 16, ground := Ground.data }, { on := 10, ground := Ground.chain }, { on := 10, ground := Ground.guard }], guard := some (10, false) }) (v := undef) rfl (by kernel_rfl) (by kernel_rfl) (by kernel_rfl) (fun _ _ _ h => h) (Or.inr ⟨by rfl, rfl⟩) hHeld ?_; (try simp only [Act.put, List.setIfInBounds_toArray, List.set_cons_zero, List.set_cons_succ])
          refine wpAnyH_take (i := 18) (oi := { dst := some 45, op := Op.pick (Operand.tmp 37) (Operand.const (Value.bool true)) (Operand.tmp 44), type := 4, pos := "ref.go:114", after := #[{ on := 10, ground := Ground.data }, { on := 17, ground := Ground.data }], guard := none }) (v := ?_) rfl (by kernel_rfl) (by kernel_rfl) (by kernel_rfl) (fun _ _ _ h => h) (Or.inl ⟨by rfl, ?_⟩) hHeld ?_; rotate_left 1; (intro w9 hSw; obtain ⟨q1, q2⟩ := hSw; clear q2; go_simp; first | done | with_reducible rfl); (try simp only [Act.put, List.setIfInBounds_toArray, List.set_cons_zero, List.set_cons_succ])
          refine wpAnyH_done (by kernel_rfl) ?_ _
          have DN := Lib.hid (D1.out.below hHeld.2)
          clear hHeld
          go_wp2
          go_roundw
          case rel => exact ⟨k + 1, v, by omega, by go_num, by rw [HN.out, cstep_no (by omega)]; exact DN.out⟩
          case measure => simp [intOf]; omega
        · obtain ⟨p, rfl⟩ := Int.eq_ofNat_of_zero_le (show 0 ≤ idx by omega)
          have hp : p < X.length := by omega
          have i2' : decide ((X.length : Int) ≤ (p : Int)) = false := by simp; omega
          have i2n : decide (X.length ≤ p) = false := by simp; omega
          have i3 : (p : Int) < (X.length : Int) := by omega
          have i4 : (0 : Int) ≤ (p : Int) := by omega
          clear i1 i2
          have hln := HLN.out p hp
          clear HLN
          have LX := Lib.hid (show Kd.C k79 W1.drew AX X.length X from (Kd.R_reads' D1.out.drew.x).2.2)
          have LK := Lib.hid (show Kd.C k52 W1.drew (some ⟨bk, ofk, none⟩) ks.length ks from Kd.C_below HKP.out D1.out.drew.bel)
          cases hlb : lateB X (ks.take k) p with
          | true =>
            have LB := Lib.hid hlb; clear hlb
            rw [LB.out] at hln
            have HLT2 := Lib.hid (of_decide_eq_true hln.symm)
            clear hln
            refine wp_region_held_drew (S := fun w' => w'.cell? ⟨qx, 0, none⟩ = some (.int .i64 (p : Int)) ∧ Below W1.heap.size W1 w') (by kernel_rfl) (⟨ZX.out, (Below.refl _ _).drew⟩) (fun hHeld => ?_)
            refine wpAnyH_take (i := 0) (oi := { dst := some 27, op := Op.fieldAddr 52 (Operand.tmp 12) 0, type := 0, pos := "ref.go:114", after := #[], guard := none }) (v := ?_) rfl (by kernel_rfl) (by kernel_rfl) (by kernel_rfl) (fun _ _ _ h => h) (Or.inl ⟨by rfl, ?_⟩) hHeld ?_; rotate_left 1; (intro w9 hSw; obtain ⟨q1, q2⟩ := hSw; clear q2; go_simp; first | done | with_reducible rfl); (try simp only [Act.put, List.setIfInBounds_toArray, List.set_cons_zero, List.set_cons_succ])
            refine wpAnyH_take (i := 1) (oi := { dst := some 28, op := Op.load 3 (Operand.tmp 27), type := 3, pos := "ref.go:114", after := #[{ on := 0, ground := Ground.data }], guard := none }) (v := ?_) rfl (by kernel_rfl) (by kernel_rfl) (by kernel_rfl) (fun _ _ _ h => h) (Or.inl ⟨by rfl, ?_⟩) hHeld ?_; rotate_left 1; (intro w9 hSw; obtain ⟨q1, q2⟩ := hSw; clear q2; go_simp; first | done | with_reducible rfl); (try simp only [Act.put, List.setIfInBounds_toArray, List.set_cons_zero, List.set_cons_succ])
            refine wpAnyH_take (i := 2) (oi := { dst := some 29, op := Op.binOp BinOp.lss 3 (Operand.tmp 28) (Operand.const (Value.int IntKind.i64 0)) 3, type := 4, pos := "ref.go:114", after := #[{ on := 1, ground := Ground.data }], guard := none }) (v := ?_) rfl (by kernel_rfl) (by kernel_rfl) (by kernel_rfl) (fun _ _ _ h => h) (Or.inl ⟨by rfl, ?_⟩) hHeld ?_; rotate_left 1; (intro w9 hSw; obtain ⟨q1, q2⟩ := hSw; clear q2; go_simp; first | done | with_reducible rfl); (try simp only [Act.put, List.setIfInBounds_toArray, List.set_cons_zero, List.set_cons_succ])
            refine wpAnyH_take (i := 3) (oi := { dst := some 30, op := Op.move (Operand.tmp 29), type := 4, pos := "ref.go:114", after := #[{ on := 2, ground := Ground.data }], guard := none }) (v := ?_) rfl (by kernel_rfl) (by kernel_rfl) (by kernel_rfl) (fun _ _ _ h => h) (Or.inl ⟨by rfl, ?_⟩) hHeld ?_; rotate_left 1; (intro w9 hSw; obtain ⟨q1, q2⟩ := hSw; clear q2; go_simp; first | done | with_reducible rfl); (try simp only [Act.put, List.setIfInBounds_toArray, List.set_cons_zero, List.set_cons_succ])
            refine wpAnyH_take (i := 4) (oi := { dst := some 31, op := Op.fieldAddr 52 (Operand.tmp 12) 0, type := 0, pos := "ref.go:114", after := #[{ on := 3, ground := Ground.guard }], guard := some (3, false) }) (v := ?_) rfl (by kernel_rfl) (by kernel_rfl) (by kernel_rfl) (fun _ _ _ h => h) (Or.inl ⟨by rfl, ?_⟩) hHeld ?_; rotate_left 1; (intro w9 hSw; obtain ⟨q1, q2⟩ := hSw; clear q2; go_simp; first | done | with_reducible rfl); (try simp only [Act.put, List.setIfInBounds_toArray, List.set_cons_zero, List.set_cons_succ])
            refine wpAnyH_take (i := 5) (oi := { dst := some 32, op := Op.load 3 (Operand.tmp 31), type := 3, pos := "ref.go:114", after := #[{ on := 4, ground := Ground.data }, { on := 3, ground := Ground.guard }], guard := some (3, false) }) (v := ?_) rfl (by kernel_rfl) (by kernel_rfl) (by kernel_rfl) (fun _ _ _ h => h) (Or.inl ⟨by rfl, ?_⟩) hHeld ?_; rotate_left 1; (intro w9 hSw; obtain ⟨q1, q2⟩ := hSw; clear q2; go_simp; first | done | with_reducible rfl); (try simp only [Act.put, List.setIfInBounds_toArray, List.set_cons_zero, List.set_cons_succ])
            refine wpAnyH_take (i := 6) (oi := { dst := some 33, op := Op.move (Operand.tmp 10), type := 37, pos := "ref.go:114", after := #[{ on := 3, ground := Ground.guard }], guard := some (3, false) }) (v := ?_) rfl (by kernel_rfl) (by kernel_rfl) (by kernel_rfl) (fun _ _ _ h => h) (Or.inl ⟨by rfl, ?_⟩) hHeld ?_; rotate_left 1; (intro w9 hSw; obtain ⟨q1, q2⟩ := hSw; clear q2; go_simp; first | done | with_reducible rfl); (try simp only [Act.put, List.setIfInBounds_toArray, List.set_cons_zero, List.set_cons_succ])
            refine wpAnyH_take (i := 7) (oi := { dst := some 34, op := Op.call { callee := Callee.builtin Builtin.len, args := #[Operand.tmp 33], argTypes := #[37] }, type := 3, pos := "ref.go:114", after := #[{ on := 6, ground := Ground.data }, { on := 3, ground := Ground.guard }], guard := some (3, false) }) (v := ?_) rfl (by kernel_rfl) (by kernel_rfl) (by kernel_rfl) (fun _ _ _ h => h) (Or.inl ⟨by rfl, ?_⟩) hHeld ?_; rotate_left 1; (intro w9 hSw; obtain ⟨q1, q2⟩ := hSw; clear q2; go_simp; first | done | with_reducible rfl); (try simp only [Act.put, List.setIfInBounds_toArray, List.set_cons_zero, List.set_cons_succ])
            refine wpAnyH_take (i := 8) (oi := { dst := some 35, op := Op.binOp BinOp.geq 3 (Operand.tmp 32) (Operand.tmp 34) 3, type := 4, pos := "ref.go:114", after := #[{ on := 5, ground := Ground.data }, { on := 7, ground := Ground.data }, { on := 3, ground := Ground.guard }], guard := some (3, false) }) (v := ?_) rfl (by kernel_rfl) (by kernel_rfl) (by kernel_rfl) (fun _ _ _ h => h) (Or.inl ⟨by rfl, ?_⟩) hHeld ?_; rotate_left 1; (intro w9 hSw; obtain ⟨q1, q2⟩ := hSw; clear q2; go_simp; first | done | with_reducible rfl); (try simp only [Act.put, List.setIfInBounds_toArray, List.set_cons_zero, List.set_cons_succ])
            refine wpAnyH_take (i := 9) (oi := { dst := some 36, op := Op.pick (Operand.tmp 30) (Operand.const (Value.bool true)) (Operand.tmp 35), type := 4, pos := "ref.go:114", after := #[{ on := 3, ground := Ground.data }, { on := 8, ground := Ground.data }], guard := none }) (v := ?_) rfl (by kernel_rfl) (by kernel_rfl) (by kernel_rfl) (fun _ _ _ h => h) (Or.inl ⟨by rfl, ?_⟩) hHeld ?_; rotate_left 1; (intro w9 hSw; obtain ⟨q1, q2⟩ := hSw; clear q2; go_simp; first | done | with_reducible rfl); (try simp only [Act.put, List.setIfInBounds_toArray, List.set_cons_zero, List.set_cons_succ])
            refine wpAnyH_take (i := 10) (oi := { dst := some 37, op := Op.move (Operand.tmp 36), type := 4, pos := "ref.go:114", after := #[{ on := 9, ground := Ground.data }, { on := 3, ground := Ground.chain }], guard := none }) (v := ?_) rfl (by kernel_rfl) (by kernel_rfl) (by kernel_rfl) (fun _ _ _ h => h) (Or.inl ⟨by rfl, ?_⟩) hHeld ?_; rotate_left 1; (intro w9 hSw; obtain ⟨q1, q2⟩ := hSw; clear q2; go_simp; first | done | with_reducible rfl); (try simp only [Act.put, List.setIfInBounds_toArray, List.set_cons_zero, List.set_cons_succ])
            refine wpAnyH_take (i := 11) (oi := { dst := some 38, op := Op.move (Operand.tmp 10), type := 37, pos := "ref.go:114", after := #[{ on := 10, ground := Ground.guard }], guard := some (10, false) }) (v := ?_) rfl (by kernel_rfl) (by kernel_rfl) (by kernel_rfl) (fun _ _ _ h => h) (Or.inl ⟨by rfl, ?_⟩) hHeld ?_; rotate_left 1; (intro w9 hSw; obtain ⟨q1, q2⟩ := hSw; clear q2; go_simp; first | done | with_reducible rfl); (try simp only [Act.put, List.setIfInBounds_toArray, List.set_cons_zero, List.set_cons_succ])
            refine wpAnyH_take (i := 12) (oi := { dst := some 39, op := Op.move (Operand.tmp 3), type := 23, pos := "ref.go:114", after := #[{ on := 10, ground := Ground.guard }], guard := some (10, false) }) (v := ?_) rfl (by kernel_rfl) (by kernel_rfl) (by kernel_rfl) (fun _ _ _ h => h) (Or.inl ⟨by rfl, ?_⟩) hHeld ?_; rotate_left 1; (intro w9 hSw; obtain ⟨q1, q2⟩ := hSw; clear q2; go_simp; first | done | with_reducible rfl); (try simp only [Act.put, List.setIfInBounds_toArray, List.set_cons_zero, List.set_cons_succ])
            refine wpAnyH_take (i := 13) (oi := { dst := some 40, op := Op.move (Operand.tmp 11), type := 3, pos := "ref.go:114", after := #[{ on := 10, ground := Ground.guard }], guard := some (10, false) }) (v := ?_) rfl (by kernel_rfl) (by kernel_rfl) (by kernel_rfl) (fun _ _ _ h => h) (Or.inl ⟨by rfl, ?_⟩) hHeld ?_; rotate_left 1; (intro w9 hSw; obtain ⟨q1, q2⟩ := hSw; clear q2; go_simp; first | done | with_reducible rfl); (try simp only [Act.put, List.setIfInBounds_toArray, List.set_cons_zero, List.set_cons_succ])
            refine wpAnyH_take (i := 14) (oi := { dst := some 41, op := Op.slice 23 (Operand.tmp 39) none (some (Operand.tmp 40)) none, type := 23, pos := "ref.go:114", after := #[{ on := 12, ground := Ground.data }, { on := 13, ground := Ground.data }, { on := 10, ground := Ground.guard }], guard := some (10, false) }) (v := ?_) rfl (by kernel_rfl) (by kernel_rfl) (by kernel_rfl) (fun _ _ _ h => h) (Or.inl ⟨by rfl, ?_⟩) hHeld ?_; rotate_left 1; (intro w9 hSw; obtain ⟨q1, q2⟩ := hSw; clear q2; go_simp; first | done | with_reducible rfl); (try simp only [Act.put, List.setIfInBounds_toArray, List.set_cons_zero, List.set_cons_succ])
            refine wpAnyH_take (i := 15) (oi := { dst := some 42, op := Op.fieldAddr 52 (Operand.tmp 12) 0, type := 0, pos := "ref.go:114", after := #[{ on := 10, ground := Ground.guard }], guard := some (10, false) }) (v := ?_) rfl (by kernel_rfl) (by kernel_rfl) (by kernel_rfl) (fun _ _ _ h => h) (Or.inl ⟨by rfl, ?_⟩) hHeld ?_; rotate_left 1; (intro w9 hSw; obtain ⟨q1, q2⟩ := hSw; clear q2; go_simp; first | done | with_reducible rfl); (try simp only [Act.put, List.setIfInBounds_toArray, List.set_cons_zero, List.set_cons_succ])
            refine wpAnyH_take (i := 16) (oi := { dst := some 43, op := Op.load 3 (Operand.tmp 42), type := 3, pos := "ref.go:114", after := #[{ on := 15, ground := Ground.data }, { on := 10, ground := Ground.guard }], guard := some (10, false) }) (v := ?_) rfl (by kernel_rfl) (by kernel_rfl) (by kernel_rfl) (fun _ _ _ h => h) (Or.inl ⟨by rfl, ?_⟩) hHeld ?_; rotate_left 1; (intro w9 hSw; obtain ⟨q1, q2⟩ := hSw; clear q2; go_simp; first | done | with_reducible rfl); (try simp only [Act.put, List.setIfInBounds_toArray, List.set_cons_zero, List.set_cons_succ])
            refine wpAnyH_ready (rs := [17]) (by kernel_rfl) (by simp) ?_; refine AllReadyH.cons (o := { dst := some 44, op := Op.call { callee := Callee.value (Operand.func 38), args := #[Operand.tmp 38, Operand.tmp 41, Operand.tmp 43], argTypes := #[37, 23, 3] }, type := 4, pos := "ref.go:114", after := #[{ on := 11, ground := Ground.data }, { on := 14, ground := Ground.data }, { on := 16, ground := Ground.data }, { on := 10, ground := Ground.chain }, { on := 10, ground := Ground.guard }], guard := some (10, false) }) rfl (fun K hK => ?_) AllReadyH.nil; go_simp; refine (late_any _ cX X (some ⟨bk, ofk, none⟩) kc k ks p _ LX.out hcx LK.out (by omega) (by omega) hp hks).mono ?_; rintro e w4 ⟨rfl, bel⟩; rw [LB.out]; (try go_wp2_with fail); refine hK.out _ _ ⟨(bel.cell (p := ⟨qx, 0, none⟩) QL.out).trans hHeld.1, hHeld.2.trans (bel.mono hHeld.2.size)⟩ (fun hHeld => ?_); clear hK; (try simp only [Act.put, List.setIfInBounds_toArray, List.set_cons_zero, List.set_cons_succ])
            refine wpAnyH_take (i := 18) (oi := { dst := some 45, op := Op.pick (Operand.tmp 37) (Operand.const (Value.bool true)) (Operand.tmp 44), type := 4, pos := "ref.go:114", after := #[{ on := 10, ground := Ground.data }, { on := 17, ground := Ground.data }], guard := none }) (v := ?_) rfl (by kernel_rfl) (by kernel_rfl) (by kernel_rfl) (fun _ _ _ h => h) (Or.inl ⟨by rfl, ?_⟩) hHeld ?_; rotate_left 1; (intro w9 hSw; obtain ⟨q1, q2⟩ := hSw; clear q2; go_simp; first | done | with_reducible rfl); (try simp only [Act.put, List.setIfInBounds_toArray, List.set_cons_zero, List.set_cons_succ])
            refine wpAnyH_done (by kernel_rfl) ?_ _
            have DN := Lib.hid (D1.out.below hHeld.2)
            clear hHeld
            go_wp2
            go_roundw
            case rel => exact ⟨k + 1, v, by omega, by go_num, by rw [HN.out, cstep_no (by rw [Int.toNat_natCast]; have := HLT2.out; intro hh; omega)]; exact DN.out⟩
            case measure => simp [intOf]; omega
          | false =>
            have LB := Lib.hid hlb; clear hlb
            rw [LB.out] at hln
            have HLE := Lib.hid (show S.2 (X.getD p z79).f0 ≤ (p : Int) by have := of_decide_eq_false hln.symm; omega)
            clear hln
            refine wp_region_held_drew (S := fun w' => w'.cell? ⟨qx, 0, none⟩ = some (.int .i64 (p : Int)) ∧ Below W1.heap.size W1 w') (by kernel_rfl) (⟨ZX.out, (Below.refl _ _).drew⟩) (fun hHeld => ?_)
            refine wpAnyH_take (i := 0) (oi := { dst := some 27, op := Op.fieldAddr 52 (Operand.tmp 12) 0, type := 0, pos := "ref.go:114", after := #[], guard := none }) (v := ?_) rfl (by kernel_rfl) (by kernel_rfl) (by kernel_rfl) (fun _ _ _ h => h) (Or.inl ⟨by rfl, ?_⟩) hHeld ?_; rotate_left 1; (intro w9 hSw; obtain ⟨q1, q2⟩ := hSw; clear q2; go_simp; first | done | with_reducible rfl); (try simp only [Act.put, List.setIfInBounds_toArray, List.set_cons_zero, List.set_cons_succ])
            refine wpAnyH_take (i := 1) (oi := { dst := some 28, op := Op.load 3 (Operand.tmp 27), type := 3, pos := "ref.go:114", after := #[{ on := 0, ground := Ground.data }], guard := none }) (v := ?_) rfl (by kernel_rfl) (by kernel_rfl) (by kernel_rfl) (fun _ _ _ h => h) (Or.inl ⟨by rfl, ?_⟩) hHeld ?_; rotate_left 1; (intro w9 hSw; obtain ⟨q1, q2⟩ := hSw; clear q2; go_simp; first | done | with_reducible rfl); (try simp only [Act.put, List.setIfInBounds_toArray, List.set_cons_zero, List.set_cons_succ])
            refine wpAnyH_take (i := 2) (oi := { dst := some 29, op := Op.binOp BinOp.lss 3 (Operand.tmp 28) (Operand.const (Value.int IntKind.i64 0)) 3, type := 4, pos := "ref.go:114", after := #[{ on := 1, ground := Ground.data }], guard := none }) (v := ?_) rfl (by kernel_rfl) (by kernel_rfl) (by kernel_rfl) (fun _ _ _ h => h) (Or.inl ⟨by rfl, ?_⟩) hHeld ?_; rotate_left 1; (intro w9 hSw; obtain ⟨q1, q2⟩ := hSw; clear q2; go_simp; first | done | with_reducible rfl); (try simp only [Act.put, List.setIfInBounds_toArray, List.set_cons_zero, List.set_cons_succ])
            refine wpAnyH_take (i := 3) (oi := { dst := some 30, op := Op.move (Operand.tmp 29), type := 4, pos := "ref.go:114", after := #[{ on := 2, ground := Ground.data }], guard := none }) (v := ?_) rfl (by kernel_rfl) (by kernel_rfl) (by kernel_rfl) (fun _ _ _ h => h) (Or.inl ⟨by rfl, ?_⟩) hHeld ?_; rotate_left 1; (intro w9 hSw; obtain ⟨q1, q2⟩ := hSw; clear q2; go_simp; first | done | with_reducible rfl); (try simp only [Act.put, List.setIfInBounds_toArray, List.set_cons_zero, List.set_cons_succ])
            refine wpAnyH_take (i := 4) (oi := { dst := some 31, op := Op.fieldAddr 52 (Operand.tmp 12) 0, type := 0, pos := "ref.go:114", after := #[{ on := 3, ground := Ground.guard }], guard := some (3, false) }) (v := ?_) rfl (by kernel_rfl) (by kernel_rfl) (by kernel_rfl) (fun _ _ _ h => h) (Or.inl ⟨by rfl, ?_⟩) hHeld ?_; rotate_left 1; (intro w9 hSw; obtain ⟨q1, q2⟩ := hSw; clear q2; go_simp; first | done | with_reducible rfl); (try simp only [Act.put, List.setIfInBounds_toArray, List.set_cons_zero, List.set_cons_succ])
            refine wpAnyH_take (i := 5) (oi := { dst := some 32, op := Op.load 3 (Operand.tmp 31), type := 3, pos := "ref.go:114", after := #[{ on := 4, ground := Ground.data }, { on := 3, ground := Ground.guard }], guard := some (3, false) }) (v := ?_) rfl (by kernel_rfl) (by kernel_rfl) (by kernel_rfl) (fun _ _ _ h => h) (Or.inl ⟨by rfl, ?_⟩) hHeld ?_; rotate_left 1; (intro w9 hSw; obtain ⟨q1, q2⟩ := hSw; clear q2; go_simp; first | done | with_reducible rfl); (try simp only [Act.put, List.setIfInBounds_toArray, List.set_cons_zero, List.set_cons_succ])
            refine wpAnyH_take (i := 6) (oi := { dst := some 33, op := Op.move (Operand.tmp 10), type := 37, pos := "ref.go:114", after := #[{ on := 3, ground := Ground.guard }], guard := some (3, false) }) (v := ?_) rfl (by kernel_rfl) (by kernel_rfl) (by kernel_rfl) (fun _ _ _ h => h) (Or.inl ⟨by rfl, ?_⟩) hHeld ?_; rotate_left 1; (intro w9 hSw; obtain ⟨q1, q2⟩ := hSw; clear q2; go_simp; first | done | with_reducible rfl); (try simp only [Act.put, List.setIfInBounds_toArray, List.set_cons_zero, List.set_cons_succ])
            refine wpAnyH_take (i := 7) (oi := { dst := some 34, op := Op.call { callee := Callee.builtin Builtin.len, args := #[Operand.tmp 33], argTypes := #[37] }, type := 3, pos := "ref.go:114", after := #[{ on := 6, ground := Ground.data }, { on := 3, ground := Ground.guard }], guard := some (3, false) }) (v := ?_) rfl (by kernel_rfl) (by kernel_rfl) (by kernel_rfl) (fun _ _ _ h => h) (Or.inl ⟨by rfl, ?_⟩) hHeld ?_; rotate_left 1; (intro w9 hSw; obtain ⟨q1, q2⟩ := hSw; clear q2; go_simp; first | done | with_reducible rfl); (try simp only [Act.put, List.setIfInBounds_toArray, List.set_cons_zero, List.set_cons_succ])
            refine wpAnyH_take (i := 8) (oi := { dst := some 35, op := Op.binOp BinOp.geq 3 (Operand.tmp 32) (Operand.tmp 34) 3, type := 4, pos := "ref.go:114", after := #[{ on := 5, ground := Ground.data }, { on := 7, ground := Ground.data }, { on := 3, ground := Ground.guard }], guard := some (3, false) }) (v := ?_) rfl (by kernel_rfl) (by kernel_rfl) (by kernel_rfl) (fun _ _ _ h => h) (Or.inl ⟨by rfl, ?_⟩) hHeld ?_; rotate_left 1; (intro w9 hSw; obtain ⟨q1, q2⟩ := hSw; clear q2; go_simp; first | done | with_reducible rfl); (try simp only [Act.put, List.setIfInBounds_toArray, List.set_cons_zero, List.set_cons_succ])
            refine wpAnyH_take (i := 9) (oi := { dst := some 36, op := Op.pick (Operand.tmp 30) (Operand.const (Value.bool true)) (Operand.tmp 35), type := 4, pos := "ref.go:114", after := #[{ on := 3, ground := Ground.data }, { on := 8, ground := Ground.data }], guard := none }) (v := ?_) rfl (by kernel_rfl) (by kernel_rfl) (by kernel_rfl) (fun _ _ _ h => h) (Or.inl ⟨by rfl, ?_⟩) hHeld ?_; rotate_left 1; (intro w9 hSw; obtain ⟨q1, q2⟩ := hSw; clear q2; go_simp; first | done | with_reducible rfl); (try simp only [Act.put, List.setIfInBounds_toArray, List.set_cons_zero, List.set_cons_succ])
            refine wpAnyH_take (i := 10) (oi := { dst := some 37, op := Op.move (Operand.tmp 36), type := 4, pos := "ref.go:114", after := #[{ on := 9, ground := Ground.data }, { on := 3, ground := Ground.chain }], guard := none }) (v := ?_) rfl (by kernel_rfl) (by kernel_rfl) (by kernel_rfl) (fun _ _ _ h => h) (Or.inl ⟨by rfl, ?_⟩) hHeld ?_; rotate_left 1; (intro w9 hSw; obtain ⟨q1, q2⟩ := hSw; clear q2; go_simp; first | done | with_reducible rfl); (try simp only [Act.put, List.setIfInBounds_toArray, List.set_cons_zero, List.set_cons_succ])
            refine wpAnyH_take (i := 11) (oi := { dst := some 38, op := Op.move (Operand.tmp 10), type := 37, pos := "ref.go:114", after := #[{ on := 10, ground := Ground.guard }], guard := some (10, false) }) (v := ?_) rfl (by kernel_rfl) (by kernel_rfl) (by kernel_rfl) (fun _ _ _ h => h) (Or.inl ⟨by rfl, ?_⟩) hHeld ?_; rotate_left 1; (intro w9 hSw; obtain ⟨q1, q2⟩ := hSw; clear q2; go_simp; first | done | with_reducible rfl); (try simp only [Act.put, List.setIfInBounds_toArray, List.set_cons_zero, List.set_cons_succ])
            refine wpAnyH_take (i := 12) (oi := { dst := some 39, op := Op.move (Operand.tmp 3), type := 23, pos := "ref.go:114", after := #[{ on := 10, ground := Ground.guard }], guard := some (10, false) }) (v := ?_) rfl (by kernel_rfl) (by kernel_rfl) (by kernel_rfl) (fun _ _ _ h => h) (Or.inl ⟨by rfl, ?_⟩) hHeld ?_; rotate_left 1; (intro w9 hSw; obtain ⟨q1, q2⟩ := hSw; clear q2; go_simp; first | done | with_reducible rfl); (try simp only [Act.put, List.setIfInBounds_toArray, List.set_cons_zero, List.set_cons_succ])
            refine wpAnyH_take (i := 13) (oi := { dst := some 40, op := Op.move (Operand.tmp 11), type := 3, pos := "ref.go:114", after := #[{ on := 10, ground := Ground.guard }], guard := some (10, false) }) (v := ?_) rfl (by kernel_rfl) (by kernel_rfl) (by kernel_rfl) (fun _ _ _ h => h) (Or.inl ⟨by rfl, ?_⟩) hHeld ?_; rotate_left 1; (intro w9 hSw; obtain ⟨q1, q2⟩ := hSw; clear q2; go_simp; first | done | with_reducible rfl); (try simp only [Act.put, List.setIfInBounds_toArray, List.set_cons_zero, List.set_cons_succ])
            refine wpAnyH_take (i := 14) (oi := { dst := some 41, op := Op.slice 23 (Operand.tmp 39) none (some (Operand.tmp 40)) none, type := 23, pos := "ref.go:114", after := #[{ on := 12, ground := Ground.data }, { on := 13, ground := Ground.data }, { on := 10, ground := Ground.guard }], guard := some (10, false) }) (v := ?_) rfl (by kernel_rfl) (by kernel_rfl) (by kernel_rfl) (fun _ _ _ h => h) (Or.inl ⟨by rfl, ?_⟩) hHeld ?_; rotate_left 1; (intro w9 hSw; obtain ⟨q1, q2⟩ := hSw; clear q2; go_simp; first | done | with_reducible rfl); (try simp only [Act.put, List.setIfInBounds_toArray, List.set_cons_zero, List.set_cons_succ])
            refine wpAnyH_take (i := 15) (oi := { dst := some 42, op := Op.fieldAddr 52 (Operand.tmp 12) 0, type := 0, pos := "ref.go:114", after := #[{ on := 10, ground := Ground.guard }], guard := some (10, false) }) (v := ?_) rfl (by kernel_rfl) (by kernel_rfl) (by kernel_rfl) (fun _ _ _ h => h) (Or.inl ⟨by rfl, ?_⟩) hHeld ?_; rotate_left 1; (intro w9 hSw; obtain ⟨q1, q2⟩ := hSw; clear q2; go_simp; first | done | with_reducible rfl); (try simp only [Act.put, List.setIfInBounds_toArray, List.set_cons_zero, List.set_cons_succ])
            refine wpAnyH_take (i := 16) (oi := { dst := some 43, op := Op.load 3 (Operand.tmp 42), type := 3, pos := "ref.go:114", after := #[{ on := 15, ground := Ground.data }, { on := 10, ground := Ground.guard }], guard := some (10, false) }) (v := ?_) rfl (by kernel_rfl) (by kernel_rfl) (by kernel_rfl) (fun _ _ _ h => h) (Or.inl ⟨by rfl, ?_⟩) hHeld ?_; rotate_left 1; (intro w9 hSw; obtain ⟨q1, q2⟩ := hSw; clear q2; go_simp; first | done | with_reducible rfl); (try simp only [Act.put, List.setIfInBounds_toArray, List.set_cons_zero, List.set_cons_succ])
            refine wpAnyH_ready (rs := [17]) (by kernel_rfl) (by simp) ?_; refine AllReadyH.cons (o := { dst := some 44, op := Op.call { callee := Callee.value (Operand.func 38), args := #[Operand.tmp 38, Operand.tmp 41, Operand.tmp 43], argTypes := #[37, 23, 3] }, type := 4, pos := "ref.go:114", after := #[{ on := 11, ground := Ground.data }, { on := 14, ground := Ground.data }, { on := 16, ground := Ground.data }, { on := 10, ground := Ground.chain }, { on := 10, ground := Ground.guard }], guard := some (10, false) }) rfl (fun K hK => ?_) AllReadyH.nil; go_simp; refine (late_any _ cX X (some ⟨bk, ofk, none⟩) kc k ks p _ LX.out hcx LK.out (by omega) (by omega) hp hks).mono ?_; rintro e w4 ⟨rfl, bel⟩; rw [LB.out]; (try go_wp2_with fail); refine hK.out _ _ ⟨(bel.cell (p := ⟨qx, 0, none⟩) QL.out).trans hHeld.1, hHeld.2.trans (bel.mono hHeld.2.size)⟩ (fun hHeld => ?_); clear hK; (try simp only [Act.put, List.setIfInBounds_toArray, List.set_cons_zero, List.set_cons_succ])
            refine wpAnyH_take (i := 18) (oi := { dst := some 45, op := Op.pick (Operand.tmp 37) (Operand.const (Value.bool true)) (Operand.tmp 44), type := 4, pos := "ref.go:114", after := #[{ on := 10, ground := Ground.data }, { on := 17, ground := Ground.data }], guard := none }) (v := ?_) rfl (by kernel_rfl) (by kernel_rfl) (by kernel_rfl) (fun _ _ _ h => h) (Or.inl ⟨by rfl, ?_⟩) hHeld ?_; rotate_left 1; (intro w9 hSw; obtain ⟨q1, q2⟩ := hSw; clear q2; go_simp; first | done | with_reducible rfl); (try simp only [Act.put, List.setIfInBounds_toArray, List.set_cons_zero, List.set_cons_succ])
            refine wpAnyH_done (by kernel_rfl) ?_ _
            obtain ⟨hz0, hz1⟩ := hHeld
            have DN := Lib.hid (D1.out.below hz1)
            have ZB := Lib.hid (blk_below YB.out hz1)
            clear hz1 LX LK
            have HCY := Lib.hid (cstep_yes (X := X) (s := S) (by_ := by_) hp HLE.out)
            clear HLE
            obtain ⟨_, _, hCX⟩ := Kd.R_reads' DN.out.x
            obtain ⟨b, off, rfl, x0, x1⟩ := at79 hCX p hp
            clear hCX
            have hx0 := HWB.out (X.getD p z79) (HXW.out _ (by rw [List.getD_eq_getElem?_getD, List.getElem?_eq_getElem hp]; exact List.getElem_mem hp))
            generalize X.getD p z79 = x at *
            obtain ⟨xa, s⟩ := x
            simp only at x0 x1 hx0
            obtain ⟨at_, rfl⟩ := Int.eq_ofNat_of_zero_le hx0.2.1
            have hxM : at_ < S.1.length := by have := hx0.2.2; have := HML.out; omega
            have hs6 := hx0.1
            clear hx0
            have y0 := (blk_cell (heap_new w4 (.cells #[.int .i64 (at_ : Int), .string s] 79)) 0).trans rfl
            have y1 := (blk_cell (heap_new w4 (.cells #[.int .i64 (at_ : Int), .string s] 79)) 1).trans rfl
            have bx : Below w4.heap.size w4 (w4.alloc (.cells #[.int .i64 (at_ : Int), .string s] 79)) := (Below.refl _ _).alloc (Nat.le_refl _) _
            have z0 := (blk_cell (blk_below ZB.out bx) 0).trans rfl
            have z1 := (blk_cell (blk_below ZB.out bx) 1).trans rfl
            have D5 := Lib.hid (DN.out.below bx)
            clear bx
            go_upto_if 54 with (fail)
            generalize hW5 : w4.alloc (.cells #[.int .i64 (at_ : Int), .string s] 79) = W5 at *
            clear hW5
            go_cut [14] (fun v14 wc => v14 = .int .i64 (max by_ 0) ∧ wc = W5)
            case first =>
              by_cases hb : by_ < 0
              · go_wp2
                go_meet
                exact ⟨by rw [show max by_ 0 = 0 by omega], rfl⟩
              · have hb' : decide (by_ < 0) = false := by simpa using hb
                go_wp2
                go_meet
                exact ⟨by rw [show max by_ 0 = by_ by omega], rfl⟩
            case rest =>
              obtain ⟨rfl, hwc⟩ := hcut
              rw [hwc]
              clear hwc
              have HCE := Lib.hid (clampN_eq by_)
              have HCL := Lib.hid (clampN_le by_)
              generalize hmx : max by_ 0 = mx at *
              have HMX := Lib.hid (show (if 64 < mx then 64 else mx) = ((clampN by_ : Nat) : Int) by have := HCE.out; split <;> omega)
              clear HCE
              go_upto_if 56 with (fail)
              go_cut [14] (fun v14 wc => v14 = .int .i64 ((clampN by_ : Nat) : Int) ∧ wc = W5)
              case first =>
                by_cases hb : 64 < mx
                · go_wp2
                  go_meet
                  exact ⟨by rw [← HMX.out, if_pos (by omega)], rfl⟩
                · have hb' : decide (64 < mx) = false := by simpa using hb
                  go_wp2
                  go_meet
                  exact ⟨by rw [← HMX.out, if_neg (by omega)], rfl⟩
              case rest =>
                obtain ⟨rfl, hwc⟩ := hcut
                rw [hwc]
                clear hwc
                have HM64' := Lib.hid HCL.out
                obtain ⟨AM, cM, rfl, _, hCM⟩ := Kd.R_reads D5.out.dd.l
                obtain ⟨bl, ol, rfl, l0⟩ := at9 hCM at_ hxM
                have CM := Lib.hid hCM; clear hCM
                have hl6 : (S.1.getD at_ ByteArray.empty).size = 64 := HM64.out _ (by rw [List.getD_eq_getElem?_getD, List.getElem?_eq_getElem hxM]; exact List.getElem_mem hxM)
                have hkc2 := keep_cut s (S.1.getD at_ ByteArray.empty) (clampN by_) hs6 hl6 HCL.out
                have HKC := Lib.hid hkc2
                have m1 : (0 : Int) ≤ ((clampN by_ : Nat) : Int) := Int.natCast_nonneg _
                have m2 : ((clampN by_ : Nat) : Int) ≤ (s.size : Int) := by have := HCL.out; omega
                have m3 : ((clampN by_ : Nat) : Int) ≤ ((S.1.getD at_ ByteArray.empty).size : Int) := by have := HCL.out; omega
                have a1 : (0 : Int) ≤ (at_ : Int) := Int.natCast_nonneg _
                have a2 : (at_ : Int) < (S.1.length : Int) := by omega
                have nb : ¬ (9223372036854775807 < (S.1.getD at_ ByteArray.empty).size) := by omega
                have m2n : clampN by_ ≤ s.size := by have := HCL.out; omega
                have m3n : clampN by_ ≤ (S.1.getD at_ ByteArray.empty).size := by have := HCL.out; omega
                have HS6 := Lib.hid hs6; have HL6 := Lib.hid hl6; clear hs6 hl6
                have w0 := (blk_cell D5.out.b2 0).trans rfl
                have w1 := (blk_cell D5.out.b2 1).trans rfl
                clear hkc2
                generalize hcm : clampN by_ = m at *
                generalize hle : S.1.getD at_ ByteArray.empty = l at *
                have HLE := Lib.hid hle; clear hle
                have HCMe := Lib.hid hcm; clear hcm
                go_upto_region 13 with (fail)
                go_still_tail 16, (by kernel_rfl)
                change wpList _ _ _ _ _ W5.drew
                rw [HKC.out]
                go_wp2_with fail
                refine (set_any (some ⟨bl, ol, none⟩) cM S.1 (.slice AW W.length cW) at_ (keepB s l m) W5.drew (show Kd.C Kd.string W5.drew (some ⟨bl, ol, none⟩) S.1.length S.1 from CM.out) ⟨_, _, _, rfl⟩ (by have := HML.out; omega)).mono ?_
                rintro e w6 ⟨v', rfl, hR, b6⟩
                have hww : w.heap.size + 2 < W5.heap.size := blk_lt D5.out.b2
                have D6 := Lib.hid (D5.out.drew.below b6)
                have HR6 := Lib.hid (ok_off hR (show w.heap.size + 2 < W5.drew.heap.size from hww))
                have HBW := Lib.hid (show B ≤ W5.drew.heap.size by show B ≤ W5.heap.size; omega)
                obtain ⟨A5, c5, e5⟩ := Kd.R_slice hR
                clear hR b6 w0 w1 y0 y1 x0 x1 hz0 z0 z1 l0
                generalize hn5 : (S.1.set at_ (keepB s l m)).length = n5 at e5
                subst e5
                have N5 := Lib.hid hn5; clear hn5
                have e0 := (blk_cell D6.out.b2 0).trans rfl
                have e1 := (blk_cell D6.out.b2 1).trans rfl
                have f0 := blk_free D6.out.b2 0
                have f1 := blk_free D6.out.b2 1
                go_wp2
                go_roundw
                case rel =>
                  refine ⟨k + 1, .slice A5 n5 c5, by omega, by go_num, ?_⟩
                  rw [HN.out, HCY.out]
                  simp only [Int.toNat_natCast]
                  rw [HLE.out]
                  refine ⟨put2_heap D6.out.b2, (put2_far (by omega)).trans D6.out.b1, ⟨?_, (D6.out.dd.put2 D6.out.b2).w⟩, ?_, below_put2 D6.out.bel (by omega)⟩
                  · have r1 := Kd.R_far HR6.out (p := ⟨w.heap.size + 2, 0, none⟩) (fun q hq => hq) (.slice A5 n5 c5)
                    have r2 := Kd.R_far r1 (p := ⟨w.heap.size + 2, 1, none⟩) (fun q hq => hq) (.slice AW W.length cW)
                    exact ok_all (Kd.R_lower r2 HBW.out)
                  · have r1 := Kd.R_far D6.out.x (p := ⟨w.heap.size + 2, 0, none⟩) (fun q hq => hq) (.slice A5 n5 c5)
                    exact Kd.R_far r1 (p := ⟨w.heap.size + 2, 1, none⟩) (fun q hq => hq) (.slice AW W.length cW)
                case measure => simp [intOf]; omega
    · obtain rfl : k = ks.length := by omega
      rw [List.take_length] at DRR
      clear hlt hk
      have HML := Lib.hid (show (crashS L X ks).1.length = L.length from crashS_len X ks (L, fun _ => 0))
      obtain ⟨AM, cM, rfl, hcm, hCM⟩ := Kd.R_reads DRR.out.dd.l
      have c2 := (blk_cell DRR.out.b2 0).trans rfl
      have c3 := (blk_cell DRR.out.b2 1).trans rfl
      have CM := Lib.hid hCM; clear hCM
      have BWR := Lib.hid (show B ≤ wr.heap.size by have := DRR.out.bel.size; omega)
      go_wp2_with fail
      have ex := EX.out
      subst ex
      refine (without_any AW cW W (.slice AM _ cM) i j wr (Kd.R_reads' DRR.out.dd.w).2.2 ⟨_, _, _, rfl⟩ hW (fun x hx => ⟨(HWB.out x hx).2.1, by have := (HWB.out x hx).2.2; omega⟩) H12.out.1 H12.out.2.1 H12.out.2.2.1 H12.out.2.2.2).mono ?_
      rintro e w4 ⟨v', rfl, hR, b4⟩
      have D4 := Lib.hid (DRR.out.below b4)
      have HR4 := Lib.hid (ok_off hR (show w.heap.size + 1 < wr.heap.size from blk_lt DRR.out.b1))
      obtain ⟨A5, c5, e5⟩ := Kd.R_slice hR
      clear hR b4 c2 c3
      generalize hn5 : (outF i j W).length = n5 at e5
      subst e5
      have N5 := Lib.hid hn5; clear hn5
      have e0 := (blk_cell D4.out.b1 0).trans rfl
      have e1 := (blk_cell D4.out.b1 1).trans rfl
      have f0 := blk_free D4.out.b1 0
      have f1 := blk_free D4.out.b1 1
      generalize hlm : (crashS L (inF i j W) ks).1.length = lm at *
      have HLM := Lib.hid hlm; clear hlm
      go_wp2
      refine bodyPost_ret (v := .agg #[.slice AM lm cM, .slice A5 n5 c5]) (results_cell_row Try.results30 _ _ (w.heap.size + 1) 39 _ (0, 0) _ rfl (put2_heap D4.out.b1) Try.underlying39 rfl (by kernel_rfl)) rfl ⟨_, _, rfl, ⟨?_, ?_⟩, ?_⟩
      · exact (D4.out.dd.put2 D4.out.b1).l
      · have r1 := Kd.R_far HR4.out (p := ⟨w.heap.size + 1, 0, none⟩) (fun q hq => hq) (.slice AM lm cM)
        have r2 := Kd.R_far r1 (p := ⟨w.heap.size + 1, 1, none⟩) (fun q hq => hq) (.slice A5 n5 c5)
        exact ok_all (Kd.R_lower r2 BWR.out)
      · exact below_put2 D4.out.bel (by omega)
end Go.Proofs.Ytlodjkmablogcaa.Own
