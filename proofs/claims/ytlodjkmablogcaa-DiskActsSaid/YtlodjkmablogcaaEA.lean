/- Is a disk the document's? How many writes wait, by the document. -/
import Derived.Test.YtlodjkmablogcaaDZ
namespace Go.Proofs.Ytlodjkmablogcaa.Own
open Go.RowKit Go.Proofs.YtlodjkmablogcaaW.PrintWords Go.Proofs.Ytlodjkmablogcaa.PB
set_option maxRecDepth 100000
set_option linter.unusedSimpArgs false
set_option linter.unusedVariables false
set_option maxHeartbeats 4000000 in
theorem docWaiting_any {B : Nat} {vL vW : Value} {L : List ByteArray} {W : List S79} {w : World} (h : DD B vL vW L W w) (x : S25) (KA : Option Addr) (kc : Nat) (hL : L.length ≤ 8192) (hW : W.length ≤ 1000000) (hw : ∀ x ∈ W, 0 ≤ x.f0 ∧ x.f0 < 8192) :
    Calls Try.prog 18 #[.agg #[vL, vW], .agg #[.int .i64 x.f0, .int .i64 x.f1, .int .i64 x.f2, .int .u8 x.f3, .slice KA x.f4.length kc]] w fun e w' => e = .returned (.int .i64 (waitN L.length W x.f1 x.f2)) ∧ Below w.heap.size w w' := by
  obtain ⟨AL, cL, AW, cW, rfl, rfl, _, _, _, _⟩ := h.reads
  have B1 : Below w.heap.size w (w.alloc (.cells #[.slice AL L.length cL, .slice AW W.length cW] 39)) := (Below.refl _ _).alloc (Nat.le_refl _) _
  have h1 : (w.alloc (.cells #[.slice AL L.length cL, .slice AW W.length cW] 39)).heap.size = w.heap.size + 1 := by simp
  have X0 := heap_new w (.cells #[.slice AL L.length cL, .slice AW W.length cW] 39)
  obtain ⟨wa, hwa⟩ : ∃ wa, w.alloc (.cells #[.slice AL L.length cL, .slice AW W.length cW] 39) = wa := ⟨_, rfl⟩
  rw [hwa] at B1 h1 X0
  have B2 : Below wa.heap.size wa (wa.alloc (.cells (ac x KA kc) 25)) := (Below.refl _ _).alloc (Nat.le_refl _) _
  have X1 := heap_new wa (.cells (ac x KA kc) 25)
  rw [h1] at X1
  obtain ⟨wb, hwb⟩ : ∃ wb, wa.alloc (.cells (ac x KA kc) 25) = wb := ⟨_, rfl⟩
  rw [hwb] at B2 X1
  have HB := Lib.hid (below_two B1 B2)
  have HD := Lib.hid (h.below HB.out)
  have b0 := (blk_cell (blk_below X0 B2) 0).trans rfl
  have b1 := (blk_cell (blk_below X0 B2) 1).trans rfl
  have Y0 := Lib.hid (blk_below X0 B2)
  have Y1 := Lib.hid (AB.of X1)
  obtain ⟨c0, c1, c2, c3, c4⟩ := AB.of X1
  have HE := Lib.hid (show (w.alloc (.cells #[.slice AL L.length cL, .slice AW W.length cW] 39)).alloc (.cells (ac x KA kc) 25) = wb by rw [hwa, hwb])
  have HWB := Lib.hid hw
  unfold ac at HE
  clear X0 X1 B1 B2 hwa hwb h hw h1
  go_enter Try.func18, Try.ntmps18
  go_upto_region 1 with (fail)
  rw [HE.out]
  go_wp2_with fail
  refine (docSpan_any HD.out x.f1 x.f2 hL).mono ?_
  rintro e w2 ⟨rfl, bb⟩
  have D2 := Lib.hid (HD.out.below bb)
  have B2 := Lib.hid (below_two HB.out bb)
  have Z0 := Lib.hid (blk_below Y0.out bb)
  have Z1 := Lib.hid (Y1.out.below bb)
  clear b0 b1 c0 c1 c2 c3 c4 bb
  cases hib : spanB L.length x.f1 x.f2 with
  | false =>
    have HW := Lib.hid (show waitN L.length W x.f1 x.f2 = 0 by unfold waitN; rw [hib]; rfl)
    clear hib
    go_wp2
    go_ret
    exact ⟨by rw [HW.out]; first | done | rfl, B2.out⟩
  | true =>
    have HW := Lib.hid (show waitN L.length W x.f1 x.f2 = ((inF x.f1 x.f2 W).length : Int) by unfold waitN; rw [hib]; rfl)
    obtain ⟨s1, s2, s3, s4⟩ := spanB_yes hib
    have HS := Lib.hid (And.intro s1 (And.intro (show x.f1 ≤ 8192 by omega) (And.intro s2 (show x.f2 ≤ 8192 by omega))))
    clear hib s1 s2 s3 s4
    have b0 := (blk_cell Z0.out 0).trans rfl
    have b1 := (blk_cell Z0.out 1).trans rfl
    obtain ⟨c0, c1, c2, c3, c4⟩ := Z1.out
    go_wp2_with fail
    refine (docIn_any AW cW W (.slice AL L.length cL) x.f1 x.f2 w2 (Kd.R_reads' D2.out.w).2.2 ⟨_, _, _, rfl⟩ hW HWB.out HS.out.1 HS.out.2.1 HS.out.2.2.1 HS.out.2.2.2).mono ?_
    rintro e w3 ⟨v5, rfl, hR, bb⟩
    obtain ⟨A5, p5, rfl⟩ := Kd.R_slice hR
    have B3 := Lib.hid (below_two B2.out bb)
    clear bb hR b0 b1 c0 c1 c2 c3 c4
    generalize hn5 : (inF x.f1 x.f2 W).length = n5 at *
    go_wp2
    go_ret
    exact ⟨by rw [HW.out]; first | done | rfl, B3.out⟩
set_option maxHeartbeats 8000000 in
theorem same_any {B B' g o : Nat} {v vL vW : Value} {L : List ByteArray} {W : List S79} {w : World} (h : DS B g o v L W w) (hd : DD B' vL vW L W w) (hW : W.length ≤ 1000000) :
    Calls Try.prog 16 #[.pointer (some ⟨g, 0, none⟩), .agg #[vL, vW]] w fun e w' => e = .returned (.bool true) ∧ Below w.heap.size w w' := by
  obtain ⟨AL, cL, AW, cW, rfl, rfl, _, _, hCL, hCW⟩ := hd.reads
  have BB := Lib.hid (show Below w.heap.size w (w.alloc (.cells #[.slice AL L.length cL, .slice AW W.length cW] 39)) from (Below.refl _ _).alloc (Nat.le_refl _) _)
  have HB := Lib.hid (heap_new w (.cells #[.slice AL L.length cL, .slice AW W.length cW] 39))
  have D := Lib.hid (h.below BB.out)
  have E := Lib.hid (hd.below BB.out)
  have CL := Lib.hid (Kd.C_below hCL BB.out)
  have HF := Lib.hid h.few
  have hf : (L.length : Int) ≤ 8192 := by have := h.few; omega
  have HWN := Lib.hid (show waitN L.length W 0 (L.length : Int) = (W.length : Int) by
    unfold waitN
    rw [show spanB L.length 0 (L.length : Int) = true by unfold spanB; exact decide_eq_true ⟨by omega, by omega, by omega, by omega⟩, if_pos rfl, (in_whole (n := L.length) (W := W) (fun x hx => ⟨(h.w64 x hx).2.1, (h.w64 x hx).2.2⟩)).1])
  have b0 := (blk_cell HB.out 0).trans rfl
  clear h hd hCL hCW
  go_enter Try.func16, Try.ntmps16
  go_wp2_with fail
  obtain ⟨w1, hw1⟩ : ∃ w1, w.alloc (.cells #[.slice AL L.length cL, .slice AW W.length cW] 39) = w1 := ⟨_, rfl⟩
  rw [hw1] at BB HB D E CL ⊢
  clear b0 hw1
  go_loopw [13] (fun q wr => ∃ k : Nat, k ≤ L.length ∧ q = .int .i64 k ∧ Below w1.heap.size w1 wr) (fun q _ => L.length - (intOf q).toNat)
  case atStart => exact ⟨0, by omega, rfl, Below.refl _ _⟩
  case round =>
    obtain ⟨k, hk, rfl, bel⟩ := hrel
    have Bel := Lib.hid bel; clear bel
    by_cases hlt : k < L.length
    · have q1 : (0 : Int) ≤ (k : Int) := Int.natCast_nonneg _
      have q2 : (k : Int) < (L.length : Int) := by omega
      have HK := Lib.hid hlt
      have DX := Lib.hid (D.out.below Bel.out)
      have EX := Lib.hid (E.out.below Bel.out)
      have HX := Lib.hid (blk_below HB.out Bel.out)
      have CX := Lib.hid (Kd.C_below CL.out Bel.out)
      clear hk hlt
      go_wp2_with fail
      refine (read_ok DX.out k HK.out).mono ?_
      rintro e w5 ⟨rfl, bb⟩
      have D5 := Lib.hid (DX.out.below bb)
      have E5 := Lib.hid (EX.out.below bb)
      have H5 := Lib.hid (blk_below HX.out bb)
      have C5 := Lib.hid (Kd.C_below CX.out bb)
      have B5 := Lib.hid (below_two Bel.out bb)
      clear bb
      generalize hye : readF (k : Int) (L.getD k ByteArray.empty) W = y at *
      have HYE := Lib.hid hye; clear hye
      go_wp2_with fail
      refine (lies_ok D5.out k HK.out).mono ?_
      rintro e w6 ⟨rfl, rfl⟩
      generalize hye : L.getD k ByteArray.empty = y2 at *
      have HY2 := Lib.hid hye; clear hye
      have b0 := (blk_cell H5.out 0).trans rfl
      have b1 := (blk_cell H5.out 1).trans rfl
      go_wp2_with fail
      refine (docRead_any E5.out k HK.out hW).mono ?_
      rintro e w7 ⟨rfl, bb⟩
      rw [HY2.out, HYE.out]
      have B7 := Lib.hid (below_two B5.out bb)
      have H7 := Lib.hid (blk_below H5.out bb)
      obtain ⟨bl, ol, rfl, l0⟩ := at9 (Kd.C_below C5.out bb) k HK.out
      rw [HY2.out] at l0
      clear bb b0 b1
      have b0 := (blk_cell H7.out 0).trans rfl
      go_wp2
      go_roundw
      case rel => exact ⟨k + 1, by have := HK.out; omega, by go_num, B7.out⟩
      case measure => have := HK.out; simp [intOf]; omega
    · obtain rfl : k = L.length := by omega
      clear hk hlt
      obtain ⟨wz, rfl⟩ : ∃ wz : World, wz = wr := ⟨_, rfl⟩
      have DX := Lib.hid (show DS B g o v L W wz.drew from (D.out.below Bel.out).drew)
      go_upto_region 9 with (fail)
      refine wp_region_held_drew (S := fun w' => w'.heap[w.heap.size]? = some (.cells #[.slice AL L.length cL, .slice AW W.length cW] 39 (0, 0)) ∧ Below w.heap.size w w' ∧ wz.heap.size ≤ w'.heap.size ∧ Below wz.heap.size wz w') (by kernel_rfl) (⟨blk_below HB.out Bel.out.drew, (below_two BB.out Bel.out).drew, Nat.le_refl _, (Below.refl _ _).drew⟩) (fun hHeld => ?_)
      refine wpAnyH_take (i := 0) (oi := { dst := some 51, op := Op.move (Operand.tmp 0), type := 28, pos := "law.go:97", after := #[], guard := none }) (v := ?_) rfl (by kernel_rfl) (by kernel_rfl) (by kernel_rfl) (fun _ _ _ h => h) (Or.inl ⟨by rfl, ?_⟩) hHeld ?_; rotate_left 1; (intro w9 hSw; obtain ⟨q5, q8, _, q9⟩ := hSw; have q6 := (blk_cell q5 0).trans rfl; have q7 := (blk_cell q5 1).trans rfl; clear q5 q8 q9; go_simp; first | done | with_reducible rfl); (try simp only [Act.put, List.setIfInBounds_toArray, List.set_cons_zero, List.set_cons_succ])
      refine wpAnyH_take (i := 2) (oi := { dst := some 53, op := Op.fieldAddr 39 (Operand.tmp 3) 0, type := 0, pos := "law.go:97", after := #[], guard := none }) (v := ?_) rfl (by kernel_rfl) (by kernel_rfl) (by kernel_rfl) (fun _ _ _ h => h) (Or.inl ⟨by rfl, ?_⟩) hHeld ?_; rotate_left 1; (intro w9 hSw; obtain ⟨q5, q8, _, q9⟩ := hSw; have q6 := (blk_cell q5 0).trans rfl; have q7 := (blk_cell q5 1).trans rfl; clear q5 q8 q9; go_simp; first | done | with_reducible rfl); (try simp only [Act.put, List.setIfInBounds_toArray, List.set_cons_zero, List.set_cons_succ])
      refine wpAnyH_take (i := 3) (oi := { dst := some 54, op := Op.load 33 (Operand.tmp 53), type := 33, pos := "law.go:97", after := #[{ on := 2, ground := Ground.data }], guard := none }) (v := ?_) rfl (by kernel_rfl) (by kernel_rfl) (by kernel_rfl) (fun _ _ _ h => h) (Or.inl ⟨by rfl, ?_⟩) hHeld ?_; rotate_left 1; (intro w9 hSw; obtain ⟨q5, q8, _, q9⟩ := hSw; have q6 := (blk_cell q5 0).trans rfl; have q7 := (blk_cell q5 1).trans rfl; clear q5 q8 q9; go_simp; first | done | with_reducible rfl); (try simp only [Act.put, List.setIfInBounds_toArray, List.set_cons_zero, List.set_cons_succ])
      refine wpAnyH_take (i := 4) (oi := { dst := some 55, op := Op.call { callee := Callee.builtin Builtin.len, args := #[Operand.tmp 54], argTypes := #[33] }, type := 3, pos := "law.go:97", after := #[{ on := 3, ground := Ground.data }], guard := none }) (v := ?_) rfl (by kernel_rfl) (by kernel_rfl) (by kernel_rfl) (fun _ _ _ h => h) (Or.inl ⟨by rfl, ?_⟩) hHeld ?_; rotate_left 1; (intro w9 hSw; obtain ⟨q5, q8, _, q9⟩ := hSw; have q6 := (blk_cell q5 0).trans rfl; have q7 := (blk_cell q5 1).trans rfl; clear q5 q8 q9; go_simp; first | done | with_reducible rfl); (try simp only [Act.put, List.setIfInBounds_toArray, List.set_cons_zero, List.set_cons_succ])
      refine wpAnyH_ready (rs := [1]) (by kernel_rfl) (by simp) ?_; refine AllReadyH.cons (o := { dst := some 52, op := Op.call { callee := Callee.value (Operand.func 23), args := #[Operand.tmp 51], argTypes := #[28] }, type := 3, pos := "law.go:97", after := #[{ on := 0, ground := Ground.data }], guard := none }) rfl (fun K hK => ?_) AllReadyH.nil; go_simp; refine (size_any DX.out).mono ?_; rintro e w4 ⟨rfl, rfl⟩; (try go_wp2_with fail); refine hK.out _ _ hHeld (fun hHeld => ?_); clear hK; (try simp only [Act.put, List.setIfInBounds_toArray, List.set_cons_zero, List.set_cons_succ])
      refine wpAnyH_take (i := 5) (oi := { dst := some 56, op := Op.binOp BinOp.eql 3 (Operand.tmp 52) (Operand.tmp 55) 3, type := 4, pos := "law.go:97", after := #[{ on := 1, ground := Ground.data }, { on := 4, ground := Ground.data }], guard := none }) (v := ?_) rfl (by kernel_rfl) (by kernel_rfl) (by kernel_rfl) (fun _ _ _ h => h) (Or.inl ⟨by rfl, ?_⟩) hHeld ?_; rotate_left 1; (intro w9 hSw; obtain ⟨q5, q8, _, q9⟩ := hSw; have q6 := (blk_cell q5 0).trans rfl; have q7 := (blk_cell q5 1).trans rfl; clear q5 q8 q9; go_simp; first | done | with_reducible rfl); (try simp only [Act.put, List.setIfInBounds_toArray, List.set_cons_zero, List.set_cons_succ])
      refine wpAnyH_take (i := 6) (oi := { dst := some 57, op := Op.move (Operand.tmp 56), type := 4, pos := "law.go:97", after := #[{ on := 5, ground := Ground.data }, { on := 1, ground := Ground.chain }], guard := none }) (v := ?_) rfl (by kernel_rfl) (by kernel_rfl) (by kernel_rfl) (fun _ _ _ h => h) (Or.inl ⟨by rfl, ?_⟩) hHeld ?_; rotate_left 1; (intro w9 hSw; obtain ⟨q5, q8, _, q9⟩ := hSw; have q6 := (blk_cell q5 0).trans rfl; have q7 := (blk_cell q5 1).trans rfl; clear q5 q8 q9; go_simp; first | done | with_reducible rfl); (try simp only [Act.put, List.setIfInBounds_toArray, List.set_cons_zero, List.set_cons_succ])
      refine wpAnyH_take (i := 7) (oi := { dst := some 58, op := Op.move (Operand.tmp 0), type := 28, pos := "law.go:97", after := #[{ on := 6, ground := Ground.guard }], guard := some (6, true) }) (v := ?_) rfl (by kernel_rfl) (by kernel_rfl) (by kernel_rfl) (fun _ _ _ h => h) (Or.inl ⟨by rfl, ?_⟩) hHeld ?_; rotate_left 1; (intro w9 hSw; obtain ⟨q5, q8, _, q9⟩ := hSw; have q6 := (blk_cell q5 0).trans rfl; have q7 := (blk_cell q5 1).trans rfl; clear q5 q8 q9; go_simp; first | done | with_reducible rfl); (try simp only [Act.put, List.setIfInBounds_toArray, List.set_cons_zero, List.set_cons_succ])
      refine wpAnyH_take (i := 8) (oi := { dst := some 59, op := Op.fieldAddr 39 (Operand.tmp 3) 0, type := 0, pos := "law.go:97", after := #[{ on := 6, ground := Ground.guard }], guard := some (6, true) }) (v := ?_) rfl (by kernel_rfl) (by kernel_rfl) (by kernel_rfl) (fun _ _ _ h => h) (Or.inl ⟨by rfl, ?_⟩) hHeld ?_; rotate_left 1; (intro w9 hSw; obtain ⟨q5, q8, _, q9⟩ := hSw; have q6 := (blk_cell q5 0).trans rfl; have q7 := (blk_cell q5 1).trans rfl; clear q5 q8 q9; go_simp; first | done | with_reducible rfl); (try simp only [Act.put, List.setIfInBounds_toArray, List.set_cons_zero, List.set_cons_succ])
      refine wpAnyH_take (i := 9) (oi := { dst := some 60, op := Op.load 33 (Operand.tmp 59), type := 33, pos := "law.go:97", after := #[{ on := 8, ground := Ground.data }, { on := 6, ground := Ground.guard }], guard := some (6, true) }) (v := ?_) rfl (by kernel_rfl) (by kernel_rfl) (by kernel_rfl) (fun _ _ _ h => h) (Or.inl ⟨by rfl, ?_⟩) hHeld ?_; rotate_left 1; (intro w9 hSw; obtain ⟨q5, q8, _, q9⟩ := hSw; have q6 := (blk_cell q5 0).trans rfl; have q7 := (blk_cell q5 1).trans rfl; clear q5 q8 q9; go_simp; first | done | with_reducible rfl); (try simp only [Act.put, List.setIfInBounds_toArray, List.set_cons_zero, List.set_cons_succ])
      refine wpAnyH_take (i := 10) (oi := { dst := some 61, op := Op.call { callee := Callee.builtin Builtin.len, args := #[Operand.tmp 60], argTypes := #[33] }, type := 3, pos := "law.go:97", after := #[{ on := 9, ground := Ground.data }, { on := 6, ground := Ground.guard }], guard := some (6, true) }) (v := ?_) rfl (by kernel_rfl) (by kernel_rfl) (by kernel_rfl) (fun _ _ _ h => h) (Or.inl ⟨by rfl, ?_⟩) hHeld ?_; rotate_left 1; (intro w9 hSw; obtain ⟨q5, q8, _, q9⟩ := hSw; have q6 := (blk_cell q5 0).trans rfl; have q7 := (blk_cell q5 1).trans rfl; clear q5 q8 q9; go_simp; first | done | with_reducible rfl); (try simp only [Act.put, List.setIfInBounds_toArray, List.set_cons_zero, List.set_cons_succ])
      refine wpAnyH_take (i := 12) (oi := { dst := some 63, op := Op.fieldAddr 39 (Operand.tmp 3) 1, type := 0, pos := "law.go:97", after := #[{ on := 6, ground := Ground.guard }], guard := some (6, true) }) (v := ?_) rfl (by kernel_rfl) (by kernel_rfl) (by kernel_rfl) (fun _ _ _ h => h) (Or.inl ⟨by rfl, ?_⟩) hHeld ?_; rotate_left 1; (intro w9 hSw; obtain ⟨q5, q8, _, q9⟩ := hSw; have q6 := (blk_cell q5 0).trans rfl; have q7 := (blk_cell q5 1).trans rfl; clear q5 q8 q9; go_simp; first | done | with_reducible rfl); (try simp only [Act.put, List.setIfInBounds_toArray, List.set_cons_zero, List.set_cons_succ])
      refine wpAnyH_take (i := 13) (oi := { dst := some 64, op := Op.load 37 (Operand.tmp 63), type := 37, pos := "law.go:97", after := #[{ on := 12, ground := Ground.data }, { on := 6, ground := Ground.guard }], guard := some (6, true) }) (v := ?_) rfl (by kernel_rfl) (by kernel_rfl) (by kernel_rfl) (fun _ _ _ h => h) (Or.inl ⟨by rfl, ?_⟩) hHeld ?_; rotate_left 1; (intro w9 hSw; obtain ⟨q5, q8, _, q9⟩ := hSw; have q6 := (blk_cell q5 0).trans rfl; have q7 := (blk_cell q5 1).trans rfl; clear q5 q8 q9; go_simp; first | done | with_reducible rfl); (try simp only [Act.put, List.setIfInBounds_toArray, List.set_cons_zero, List.set_cons_succ])
      refine wpAnyH_take (i := 14) (oi := { dst := some 65, op := Op.call { callee := Callee.builtin Builtin.len, args := #[Operand.tmp 64], argTypes := #[37] }, type := 3, pos := "law.go:97", after := #[{ on := 13, ground := Ground.data }, { on := 6, ground := Ground.guard }], guard := some (6, true) }) (v := ?_) rfl (by kernel_rfl) (by kernel_rfl) (by kernel_rfl) (fun _ _ _ h => h) (Or.inl ⟨by rfl, ?_⟩) hHeld ?_; rotate_left 1; (intro w9 hSw; obtain ⟨q5, q8, _, q9⟩ := hSw; have q6 := (blk_cell q5 0).trans rfl; have q7 := (blk_cell q5 1).trans rfl; clear q5 q8 q9; go_simp; first | done | with_reducible rfl); (try simp only [Act.put, List.setIfInBounds_toArray, List.set_cons_zero, List.set_cons_succ])
      refine wpAnyH_ready (rs := [11]) (by kernel_rfl) (by simp) ?_; refine AllReadyH.cons (o := { dst := some 62, op := Op.call { callee := Callee.value (Operand.func 17), args := #[Operand.tmp 58, Operand.const (Value.int IntKind.i64 0), Operand.tmp 61], argTypes := #[28, 3, 3] }, type := 3, pos := "law.go:97", after := #[{ on := 7, ground := Ground.data }, { on := 10, ground := Ground.data }, { on := 6, ground := Ground.chain }, { on := 6, ground := Ground.guard }], guard := some (6, true) }) rfl (fun K hK => ?_) AllReadyH.nil; go_simp; refine (waiting_any DX.out 0 (L.length : Int) hW).mono ?_; rintro e w4 ⟨rfl, bb⟩; rw [HWN.out]; (try go_wp2_with fail); refine hK.out _ _ ⟨blk_below hHeld.1 bb, below_two hHeld.2.1 bb, Nat.le_trans hHeld.2.2.1 bb.size, below_two hHeld.2.2.2 bb⟩ (fun hHeld => ?_); clear hK; (try simp only [Act.put, List.setIfInBounds_toArray, List.set_cons_zero, List.set_cons_succ])
      refine wpAnyH_take (i := 15) (oi := { dst := some 66, op := Op.binOp BinOp.eql 3 (Operand.tmp 62) (Operand.tmp 65) 3, type := 4, pos := "law.go:97", after := #[{ on := 11, ground := Ground.data }, { on := 14, ground := Ground.data }, { on := 6, ground := Ground.guard }], guard := some (6, true) }) (v := ?_) rfl (by kernel_rfl) (by kernel_rfl) (by kernel_rfl) (fun _ _ _ h => h) (Or.inl ⟨by rfl, ?_⟩) hHeld ?_; rotate_left 1; (intro w9 hSw; obtain ⟨q5, q8, _, q9⟩ := hSw; have q6 := (blk_cell q5 0).trans rfl; have q7 := (blk_cell q5 1).trans rfl; clear q5 q8 q9; go_simp; first | done | with_reducible rfl); (try simp only [Act.put, List.setIfInBounds_toArray, List.set_cons_zero, List.set_cons_succ])
      refine wpAnyH_take (i := 16) (oi := { dst := some 67, op := Op.pick (Operand.tmp 57) (Operand.tmp 66) (Operand.const (Value.bool false)), type := 4, pos := "law.go:97", after := #[{ on := 6, ground := Ground.data }, { on := 15, ground := Ground.data }], guard := none }) (v := ?_) rfl (by kernel_rfl) (by kernel_rfl) (by kernel_rfl) (fun _ _ _ h => h) (Or.inl ⟨by rfl, ?_⟩) hHeld ?_; rotate_left 1; (intro w9 hSw; obtain ⟨q5, q8, _, q9⟩ := hSw; have q6 := (blk_cell q5 0).trans rfl; have q7 := (blk_cell q5 1).trans rfl; clear q5 q8 q9; go_simp; first | done | with_reducible rfl); (try simp only [Act.put, List.setIfInBounds_toArray, List.set_cons_zero, List.set_cons_succ])
      refine wpAnyH_take (i := 17) (oi := { dst := some 4, op := Op.assign (Operand.tmp 67), type := 4, pos := "law.go:97", after := #[{ on := 16, ground := Ground.data }, { on := 11, ground := Ground.chain }, { on := 0, ground := Ground.phase }, { on := 1, ground := Ground.phase }, { on := 2, ground := Ground.phase }, { on := 3, ground := Ground.phase }, { on := 4, ground := Ground.phase }, { on := 5, ground := Ground.phase }, { on := 6, ground := Ground.phase }, { on := 7, ground := Ground.phase }, { on := 8, ground := Ground.phase }, { on := 9, ground := Ground.phase }, { on := 10, ground := Ground.phase }, { on := 11, ground := Ground.phase }, { on := 12, ground := Ground.phase }, { on := 13, ground := Ground.phase }, { on := 14, ground := Ground.phase }, { on := 15, ground := Ground.phase }, { on := 16, ground := Ground.phase }], guard := none }) (v := ?_) rfl (by kernel_rfl) (by kernel_rfl) (by kernel_rfl) (fun _ _ _ h => h) (Or.inl ⟨by rfl, ?_⟩) hHeld ?_; rotate_left 1; (intro w9 hSw; obtain ⟨q5, q8, _, q9⟩ := hSw; have q6 := (blk_cell q5 0).trans rfl; have q7 := (blk_cell q5 1).trans rfl; clear q5 q8 q9; go_simp; first | done | with_reducible rfl); (try simp only [Act.put, List.setIfInBounds_toArray, List.set_cons_zero, List.set_cons_succ])
      refine wpAnyH_done (by kernel_rfl) ?_ _
      have BF := Lib.hid hHeld.2.1
      clear hHeld
      go_wp2
      go_ret
      exact ⟨rfl, BF.out⟩
end Go.Proofs.Ytlodjkmablogcaa.Own
