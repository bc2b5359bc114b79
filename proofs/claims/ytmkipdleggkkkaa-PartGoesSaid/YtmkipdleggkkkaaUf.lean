/- Several texts of this claim in one. -/
import Derived.Test.YtmkipdleggkkkaaUe
/- The walk of done. -/
namespace Go.Proofs.Ytmkipdleggkkkaa.Own
open Go.RowKit Go.Proofs.YtmkipdleggkkkaaW.PrintWords Go.Proofs.YtmkipdleggkkkaaW.PrintLast Go.Proofs.YtmkipdleggkkkaaW.PrintMore Go.Proofs.Ytmkipdleggkkkaa.Pu
set_option maxRecDepth 100000
set_option linter.unusedSimpArgs false
set_option linter.unusedVariables false
def SB (b : Nat) (r : Value) (o e : Int) (w0 w : World) : Prop := w.heap[b]? = some (.cells #[r, .int .i64 o, .int .i64 e] 59 (0, 0)) ∧ Below w0.heap.size w0 w
theorem SB.drew {b : Nat} {r : Value} {o e : Int} {w0 w : World} (h : SB b r o e w0 w) : SB b r o e w0 w.drew := ⟨h.1, h.2.drew⟩
theorem SB.below {b : Nat} {r : Value} {o e : Int} {w0 w w1 : World} (h : SB b r o e w0 w) (hb : Below w.heap.size w w1) : SB b r o e w0 w1 := ⟨blk_below h.1 hb, below_two h.2 hb⟩
theorem SB.c0 {b : Nat} {r : Value} {o e : Int} {w0 w : World} (h : SB b r o e w0 w) : w.cell? ⟨b, 0, none⟩ = some r := (blk_cell h.1 0).trans rfl
theorem SB.c1 {b : Nat} {r : Value} {o e : Int} {w0 w : World} (h : SB b r o e w0 w) : w.cell? ⟨b, 1, none⟩ = some (.int .i64 o) := (blk_cell h.1 1).trans rfl
theorem SB.c2 {b : Nat} {r : Value} {o e : Int} {w0 w : World} (h : SB b r o e w0 w) : w.cell? ⟨b, 2, none⟩ = some (.int .i64 e) := (blk_cell h.1 2).trans rfl
/-- What a call leaves behind, as done tells it. -/
def DoneIs (B g : Nat) (v : Value) (r : DSt × Int) (w : World) (e : Ending) (w' : World) : Prop :=
  e = .returned (.tuple #[.int .i64 r.2, .bool true]) ∧ ∃ v', PS B g v' r.1.l r.1.st r.1.nx r.1.mr w' ∧ IV r.1 ∧ Fr g v w w' ∧ Nw v v' w
set_option maxHeartbeats 4000000 in
theorem done_any {B g : Nat} {v : Value} {s : DSt} {w : World} (h : PS B g v s.l s.st s.nx s.mr w) (hi : IV s) {A : Option Addr} {c : Nat} (hC : Kd.C PB.k45 w A s.l.length s.l) (hc : s.l.length ≤ c) (hl : s.l.length ≤ 60000)
    (kd n m : Int) (A2 : Option Addr) (c2 : Nat) (xs : List PB.S45) (hx : Kd.C PB.k45 w A2 xs.length xs) (hc2 : xs.length ≤ c2) (hl2 : xs.length ≤ 60000) (hS2 : Sep A2 xs.length g v) :
    Calls Try.prog 17 #[.pointer (some ⟨g, 0, none⟩), .agg #[.slice A s.l.length c, .int .i64 s.st, .int .i64 s.nx, .int .i64 s.mr], .agg #[.int .i64 kd, .int .i64 n, .int .i64 m, .slice A2 xs.length c2]] w (DoneIs B g v (actS s kd n m xs) w) := by
  have b1 : Below w.heap.size w ((w.alloc (.cells #[.slice A s.l.length c, .int .i64 s.st, .int .i64 s.nx, .int .i64 s.mr] 35)).alloc (.cells #[.int .i64 kd, .int .i64 n, .int .i64 m, .slice A2 xs.length c2] 37)) := ((Below.refl _ _).alloc (Nat.le_refl _) _).alloc (by simp) _
  have hb0 : ((w.alloc (.cells #[.slice A s.l.length c, .int .i64 s.st, .int .i64 s.nx, .int .i64 s.mr] 35)).alloc (.cells #[.int .i64 kd, .int .i64 n, .int .i64 m, .slice A2 xs.length c2] 37)).heap[w.heap.size]? = some (.cells #[.slice A s.l.length c, .int .i64 s.st, .int .i64 s.nx, .int .i64 s.mr] 35 (0, 0)) := by rw [heap_old _ _ (by simp), heap_new]
  have hb1 : ((w.alloc (.cells #[.slice A s.l.length c, .int .i64 s.st, .int .i64 s.nx, .int .i64 s.mr] 35)).alloc (.cells #[.int .i64 kd, .int .i64 n, .int .i64 m, .slice A2 xs.length c2] 37)).heap[w.heap.size + 1]? = some (.cells #[.int .i64 kd, .int .i64 n, .int .i64 m, .slice A2 xs.length c2] 37 (0, 0)) := by simpa using heap_new (w.alloc (.cells #[.slice A s.l.length c, .int .i64 s.st, .int .i64 s.nx, .int .i64 s.mr] 35)) (.cells #[.int .i64 kd, .int .i64 n, .int .i64 m, .slice A2 xs.length c2] 37)
  have HC := Lib.hid (Kd.C_below hC b1)
  have HX := Lib.hid (Kd.C_below hx b1)
  have H := Lib.hid (h.below b1)
  have F1 := Lib.hid ((Fr.refl g v w).below b1)
  have HB0 := Lib.hid hb0
  have HB1 := Lib.hid hb1
  have SZ := Lib.hid b1.size
  clear hC hx b1 hb0 hb1 h
  go_enter Try.func17, Try.ntmps17
  by_cases h0 : kd = 0
  · subst h0
    have e : actS s 0 n m xs = appS s xs := by unfold actS; simp
    rw [e]
    clear e
    go_wp2_with fail
    refine (pappC H.out hi hl A2 c2 xs HX.out hc2 hl2 hS2).mono ?_
    generalize hrr : appS s xs = r
    obtain ⟨⟨L', st', nx', mr'⟩, er⟩ := r
    have HRR := Lib.hid hrr; clear hrr
    rintro e w4 ⟨rfl, v', h1, h2, h3, h4⟩
    dsimp only at h1 ⊢
    go_wp2
    go_ret2
    rw [HRR.out]
    exact ⟨rfl, v', h1, h2, F1.out.trans2 h3 (Nw.refl v w), fun b hb => (h4 b hb).imp id (fun q => Nat.le_trans SZ.out q)⟩
  have g0 : (kd == 0) = false := by rw [beq_eq_false_iff_ne]; exact h0
  by_cases h1 : kd = 1
  · subst h1
    have e : actS s 1 n m xs = trimS s n := by unfold actS; simp
    rw [e]
    clear e
    go_wp2_with fail
    refine (ptrimC H.out hi hl n).mono ?_
    generalize hrr : trimS s n = r
    obtain ⟨⟨L', st', nx', mr'⟩, er⟩ := r
    have HRR := Lib.hid hrr; clear hrr
    rintro e w4 ⟨rfl, v', h1, h2, h3, h4⟩
    dsimp only at h1 ⊢
    go_wp2
    go_ret2
    rw [HRR.out]
    exact ⟨rfl, v', h1, h2, F1.out.trans2 h3 (Nw.refl v w), fun b hb => (h4 b hb).imp id (fun q => Nat.le_trans SZ.out q)⟩
  have g1 : (kd == 1) = false := by rw [beq_eq_false_iff_ne]; exact h1
  by_cases h2 : kd = 2
  · subst h2
    have e : actS s 2 n m xs = repS s xs := by unfold actS; simp
    rw [e]
    clear e
    go_wp2_with fail
    refine (prepC H.out hi A2 c2 xs HX.out hc2 hl2).mono ?_
    generalize hrr : repS s xs = r
    obtain ⟨⟨L', st', nx', mr'⟩, er⟩ := r
    have HRR := Lib.hid hrr; clear hrr
    rintro e w4 ⟨rfl, v', h1, h2, h3, h4⟩
    dsimp only at h1 ⊢
    go_wp2
    go_ret2
    rw [HRR.out]
    exact ⟨rfl, v', h1, h2, F1.out.trans2 h3 (Nw.refl v w), fun b hb => (h4 b hb).imp id (fun q => Nat.le_trans SZ.out q)⟩
  have g2 : (kd == 2) = false := by rw [beq_eq_false_iff_ne]; exact h2
  by_cases h3 : kd = 3
  · subst h3
    have e : actS s 3 n m xs = setS s n m := by unfold actS; simp
    rw [e]
    clear e
    go_wp2_with fail
    refine (psetC H.out hi n m).mono ?_
    generalize hrr : setS s n m = r
    obtain ⟨⟨L', st', nx', mr'⟩, er⟩ := r
    have HRR := Lib.hid hrr; clear hrr
    rintro e w4 ⟨rfl, v', h1, h2, h3, h4⟩
    dsimp only at h1 ⊢
    go_wp2
    go_ret2
    rw [HRR.out]
    exact ⟨rfl, v', h1, h2, F1.out.trans2 h3 (Nw.refl v w), fun b hb => (h4 b hb).imp id (fun q => Nat.le_trans SZ.out q)⟩
  have g3 : (kd == 3) = false := by rw [beq_eq_false_iff_ne]; exact h3
  by_cases h4 : kd = 4
  · subst h4
    have e : actS s 4 n m xs = (⟨s.l, s.st, s.nx, s.nx⟩, 0) := by unfold actS; simp
    rw [e]
    clear e
    go_wp2_with fail
    refine (mark_any H.out).mono ?_
    rintro e w4 ⟨rfl, h1, h2⟩
    go_wp2
    go_ret2
    exact ⟨rfl, v, h1, ⟨hi.may, hi.ris, hi.lt⟩, F1.out.trans2 h2 (Nw.refl v w), Nw.refl v w⟩
  have g4 : (kd == 4) = false := by rw [beq_eq_false_iff_ne]; exact h4
  have e : actS s kd n m xs = (s, 0) := by unfold actS; simp [*]
  rw [e]
  clear e
  go_wp2_with fail
  refine (pfetchC H.out hi hl n m).mono ?_
  generalize hrr : fetS s n m = r
  obtain ⟨F, on, er⟩ := r
  have HRR := Lib.hid hrr; clear hrr
  rintro e w4 ⟨u, rfl, hR4, b4⟩
  dsimp only at hR4 ⊢
  obtain ⟨A4, c4, rfl⟩ := Kd.R_slice hR4
  have HP4 := Lib.hid (H.out.below b4)
  have HF4 := Lib.hid (F1.out.below b4)
  have HC4 := Lib.hid (Kd.C_below HC.out b4)
  have HR4 := Lib.hid (Kd.R_reads' hR4).2.2
  have q0 := blk_cell (blk_below HB0.out b4) 0
  have q1 := blk_cell (blk_below HB0.out b4) 1
  have q2 := blk_cell (blk_below HB0.out b4) 2
  have q3 := blk_cell (blk_below HB0.out b4) 3
  have p1 := blk_cell (blk_below HB1.out b4) 1
  have p2 := blk_cell (blk_below HB1.out b4) 2
  simp at q0 q1 q2 q3 p1 p2
  clear hR4 b4
  go_wp2_with fail
  refine (dfetchC HC4.out hc hl n m).mono ?_
  rw [HRR.out]
  rintro e w5 ⟨u, rfl, hR5, b5⟩
  dsimp only at hR5 ⊢
  obtain ⟨A5, c5, rfl⟩ := Kd.R_slice hR5
  have HR4b := Lib.hid (Kd.C_below HR4.out b5)
  have HR5 := Lib.hid (Kd.R_reads' hR5).2.2
  have HP5 := Lib.hid (HP4.out.below b5)
  have HF5 := Lib.hid (HF4.out.below b5)
  clear hR5 b5 q0 q1 q2 q3 p1 p2
  go_wp2_with fail
  have hbx := heap_new w5 (.cells #[.slice A5 F.length c5, .int .i64 on, .int .i64 er] 59)
  have bA : Below w5.heap.size w5 (w5.alloc (.cells #[.slice A5 F.length c5, .int .i64 on, .int .i64 er] 59)) := (Below.refl _ _).alloc (Nat.le_refl _) _
  have hS : SB w5.heap.size (.slice A5 F.length c5) on er w5 (w5.alloc (.cells #[.slice A5 F.length c5, .int .i64 on, .int .i64 er] 59)) := ⟨hbx, bA⟩
  clear hbx
  generalize hW : w5.alloc (.cells #[.slice A5 F.length c5, .int .i64 on, .int .i64 er] 59) = W6 at *
  clear hW bA
  generalize w5.heap.size = bx at *
  refine wp_region_held_drew (S := SB bx (.slice A5 F.length c5) on er w5) (by kernel_rfl) (hS.drew) (fun hHeld => ?_)
  refine wpAnyH_take (i := 0) (oi := { dst := some 60, op := Op.move (Operand.tmp 8), type := 22, pos := "law.go:79", after := #[], guard := none }) (v := ?_) rfl (by kernel_rfl) (by kernel_rfl) (by kernel_rfl) (fun _ _ _ h => h) (Or.inl ⟨by rfl, ?_⟩) hHeld ?_; rotate_left 1; (intro w9 hSw; obtain ⟨hb9, hl9⟩ := hSw; have q0 := SB.c0 ⟨hb9, hl9⟩; have q1 := SB.c1 ⟨hb9, hl9⟩; have q2 := SB.c2 ⟨hb9, hl9⟩; clear hb9 hl9; go_simp; first | done | with_reducible rfl); (try simp only [Act.put, List.setIfInBounds_toArray, List.set_cons_zero, List.set_cons_succ])
  refine wpAnyH_take (i := 1) (oi := { dst := some 61, op := Op.fieldAddr 59 (Operand.tmp 11) 0, type := 0, pos := "law.go:79", after := #[], guard := none }) (v := ?_) rfl (by kernel_rfl) (by kernel_rfl) (by kernel_rfl) (fun _ _ _ h => h) (Or.inl ⟨by rfl, ?_⟩) hHeld ?_; rotate_left 1; (intro w9 hSw; obtain ⟨hb9, hl9⟩ := hSw; have q0 := SB.c0 ⟨hb9, hl9⟩; have q1 := SB.c1 ⟨hb9, hl9⟩; have q2 := SB.c2 ⟨hb9, hl9⟩; clear hb9 hl9; go_simp; first | done | with_reducible rfl); (try simp only [Act.put, List.setIfInBounds_toArray, List.set_cons_zero, List.set_cons_succ])
  refine wpAnyH_take (i := 2) (oi := { dst := some 62, op := Op.load 22 (Operand.tmp 61), type := 22, pos := "law.go:79", after := #[{ on := 1, ground := Ground.data }], guard := none }) (v := ?_) rfl (by kernel_rfl) (by kernel_rfl) (by kernel_rfl) (fun _ _ _ h => h) (Or.inl ⟨by rfl, ?_⟩) hHeld ?_; rotate_left 1; (intro w9 hSw; obtain ⟨hb9, hl9⟩ := hSw; have q0 := SB.c0 ⟨hb9, hl9⟩; have q1 := SB.c1 ⟨hb9, hl9⟩; have q2 := SB.c2 ⟨hb9, hl9⟩; clear hb9 hl9; go_simp; first | done | with_reducible rfl); (try simp only [Act.put, List.setIfInBounds_toArray, List.set_cons_zero, List.set_cons_succ])
  refine wpAnyH_ready (rs := [3]) (by kernel_rfl) (by simp) ?_; refine AllReadyH.cons (o := { dst := some 63, op := Op.call { callee := Callee.value (Operand.func 11), args := #[Operand.tmp 60, Operand.tmp 62], argTypes := #[22, 22] }, type := 4, pos := "law.go:79", after := #[{ on := 0, ground := Ground.data }, { on := 2, ground := Ground.data }], guard := none }) rfl (fun K hK => ?_) AllReadyH.nil; go_simp; refine (Sm.same_any A4 c4 F A5 c5 F _ (Kd.C_below HR4b.out hHeld.2) (Kd.C_below HR5.out hHeld.2)).mono ?_; rintro e w4 ⟨rfl, bel⟩; rw [Sm.sameB_refl]; (try go_wp2_with fail); refine hK.out _ _ (hHeld.below bel) (fun hHeld => ?_); clear hK; (try simp only [Act.put, List.setIfInBounds_toArray, List.set_cons_zero, List.set_cons_succ])
  refine wpAnyH_take (i := 4) (oi := { dst := some 64, op := Op.move (Operand.tmp 63), type := 4, pos := "law.go:79", after := #[{ on := 3, ground := Ground.data }, { on := 3, ground := Ground.chain }], guard := none }) (v := ?_) rfl (by kernel_rfl) (by kernel_rfl) (by kernel_rfl) (fun _ _ _ h => h) (Or.inl ⟨by rfl, ?_⟩) hHeld ?_; rotate_left 1; (intro w9 hSw; obtain ⟨hb9, hl9⟩ := hSw; have q0 := SB.c0 ⟨hb9, hl9⟩; have q1 := SB.c1 ⟨hb9, hl9⟩; have q2 := SB.c2 ⟨hb9, hl9⟩; clear hb9 hl9; go_simp; first | done | with_reducible rfl); (try simp only [Act.put, List.setIfInBounds_toArray, List.set_cons_zero, List.set_cons_succ])
  refine wpAnyH_take (i := 5) (oi := { dst := some 65, op := Op.move (Operand.tmp 9), type := 3, pos := "law.go:79", after := #[{ on := 4, ground := Ground.guard }], guard := some (4, true) }) (v := ?_) rfl (by kernel_rfl) (by kernel_rfl) (by kernel_rfl) (fun _ _ _ h => h) (Or.inl ⟨by rfl, ?_⟩) hHeld ?_; rotate_left 1; (intro w9 hSw; obtain ⟨hb9, hl9⟩ := hSw; have q0 := SB.c0 ⟨hb9, hl9⟩; have q1 := SB.c1 ⟨hb9, hl9⟩; have q2 := SB.c2 ⟨hb9, hl9⟩; clear hb9 hl9; go_simp; first | done | with_reducible rfl); (try simp only [Act.put, List.setIfInBounds_toArray, List.set_cons_zero, List.set_cons_succ])
  refine wpAnyH_take (i := 6) (oi := { dst := some 66, op := Op.fieldAddr 59 (Operand.tmp 11) 1, type := 0, pos := "law.go:79", after := #[{ on := 4, ground := Ground.guard }], guard := some (4, true) }) (v := ?_) rfl (by kernel_rfl) (by kernel_rfl) (by kernel_rfl) (fun _ _ _ h => h) (Or.inl ⟨by rfl, ?_⟩) hHeld ?_; rotate_left 1; (intro w9 hSw; obtain ⟨hb9, hl9⟩ := hSw; have q0 := SB.c0 ⟨hb9, hl9⟩; have q1 := SB.c1 ⟨hb9, hl9⟩; have q2 := SB.c2 ⟨hb9, hl9⟩; clear hb9 hl9; go_simp; first | done | with_reducible rfl); (try simp only [Act.put, List.setIfInBounds_toArray, List.set_cons_zero, List.set_cons_succ])
  refine wpAnyH_take (i := 7) (oi := { dst := some 67, op := Op.load 3 (Operand.tmp 66), type := 3, pos := "law.go:79", after := #[{ on := 6, ground := Ground.data }, { on := 4, ground := Ground.guard }], guard := some (4, true) }) (v := ?_) rfl (by kernel_rfl) (by kernel_rfl) (by kernel_rfl) (fun _ _ _ h => h) (Or.inl ⟨by rfl, ?_⟩) hHeld ?_; rotate_left 1; (intro w9 hSw; obtain ⟨hb9, hl9⟩ := hSw; have q0 := SB.c0 ⟨hb9, hl9⟩; have q1 := SB.c1 ⟨hb9, hl9⟩; have q2 := SB.c2 ⟨hb9, hl9⟩; clear hb9 hl9; go_simp; first | done | with_reducible rfl); (try simp only [Act.put, List.setIfInBounds_toArray, List.set_cons_zero, List.set_cons_succ])
  refine wpAnyH_take (i := 8) (oi := { dst := some 68, op := Op.binOp BinOp.eql 3 (Operand.tmp 65) (Operand.tmp 67) 3, type := 4, pos := "law.go:79", after := #[{ on := 5, ground := Ground.data }, { on := 7, ground := Ground.data }, { on := 4, ground := Ground.guard }], guard := some (4, true) }) (v := ?_) rfl (by kernel_rfl) (by kernel_rfl) (by kernel_rfl) (fun _ _ _ h => h) (Or.inl ⟨by rfl, ?_⟩) hHeld ?_; rotate_left 1; (intro w9 hSw; obtain ⟨hb9, hl9⟩ := hSw; have q0 := SB.c0 ⟨hb9, hl9⟩; have q1 := SB.c1 ⟨hb9, hl9⟩; have q2 := SB.c2 ⟨hb9, hl9⟩; clear hb9 hl9; go_simp; first | done | with_reducible rfl); (try simp only [Act.put, List.setIfInBounds_toArray, List.set_cons_zero, List.set_cons_succ])
  refine wpAnyH_take (i := 9) (oi := { dst := some 69, op := Op.pick (Operand.tmp 64) (Operand.tmp 68) (Operand.const (Value.bool false)), type := 4, pos := "law.go:79", after := #[{ on := 4, ground := Ground.data }, { on := 8, ground := Ground.data }], guard := none }) (v := ?_) rfl (by kernel_rfl) (by kernel_rfl) (by kernel_rfl) (fun _ _ _ h => h) (Or.inl ⟨by rfl, ?_⟩) hHeld ?_; rotate_left 1; (intro w9 hSw; obtain ⟨hb9, hl9⟩ := hSw; have q0 := SB.c0 ⟨hb9, hl9⟩; have q1 := SB.c1 ⟨hb9, hl9⟩; have q2 := SB.c2 ⟨hb9, hl9⟩; clear hb9 hl9; go_simp; first | done | with_reducible rfl); (try simp only [Act.put, List.setIfInBounds_toArray, List.set_cons_zero, List.set_cons_succ])
  refine wpAnyH_take (i := 10) (oi := { dst := some 70, op := Op.move (Operand.tmp 69), type := 4, pos := "law.go:79", after := #[{ on := 9, ground := Ground.data }, { on := 4, ground := Ground.chain }], guard := none }) (v := ?_) rfl (by kernel_rfl) (by kernel_rfl) (by kernel_rfl) (fun _ _ _ h => h) (Or.inl ⟨by rfl, ?_⟩) hHeld ?_; rotate_left 1; (intro w9 hSw; obtain ⟨hb9, hl9⟩ := hSw; have q0 := SB.c0 ⟨hb9, hl9⟩; have q1 := SB.c1 ⟨hb9, hl9⟩; have q2 := SB.c2 ⟨hb9, hl9⟩; clear hb9 hl9; go_simp; first | done | with_reducible rfl); (try simp only [Act.put, List.setIfInBounds_toArray, List.set_cons_zero, List.set_cons_succ])
  refine wpAnyH_take (i := 11) (oi := { dst := some 71, op := Op.move (Operand.tmp 10), type := 26, pos := "law.go:79", after := #[{ on := 10, ground := Ground.guard }, { on := 16, ground := Ground.gcOnly Departure.lateStores }], guard := some (10, true) }) (v := ?_) rfl (by kernel_rfl) (by kernel_rfl) (by kernel_rfl) (fun _ _ _ h => h) (Or.inl ⟨by rfl, ?_⟩) hHeld ?_; rotate_left 1; (intro w9 hSw; obtain ⟨hb9, hl9⟩ := hSw; have q0 := SB.c0 ⟨hb9, hl9⟩; have q1 := SB.c1 ⟨hb9, hl9⟩; have q2 := SB.c2 ⟨hb9, hl9⟩; clear hb9 hl9; go_simp; first | done | with_reducible rfl); (try simp only [Act.put, List.setIfInBounds_toArray, List.set_cons_zero, List.set_cons_succ])
  refine wpAnyH_take (i := 12) (oi := { dst := some 72, op := Op.fieldAddr 59 (Operand.tmp 11) 2, type := 0, pos := "law.go:79", after := #[{ on := 10, ground := Ground.guard }, { on := 16, ground := Ground.gcOnly Departure.lateStores }], guard := some (10, true) }) (v := ?_) rfl (by kernel_rfl) (by kernel_rfl) (by kernel_rfl) (fun _ _ _ h => h) (Or.inl ⟨by rfl, ?_⟩) hHeld ?_; rotate_left 1; (intro w9 hSw; obtain ⟨hb9, hl9⟩ := hSw; have q0 := SB.c0 ⟨hb9, hl9⟩; have q1 := SB.c1 ⟨hb9, hl9⟩; have q2 := SB.c2 ⟨hb9, hl9⟩; clear hb9 hl9; go_simp; first | done | with_reducible rfl); (try simp only [Act.put, List.setIfInBounds_toArray, List.set_cons_zero, List.set_cons_succ])
  refine wpAnyH_take (i := 13) (oi := { dst := some 73, op := Op.load 3 (Operand.tmp 72), type := 3, pos := "law.go:79", after := #[{ on := 12, ground := Ground.data }, { on := 10, ground := Ground.guard }, { on := 16, ground := Ground.gcOnly Departure.lateStores }], guard := some (10, true) }) (v := ?_) rfl (by kernel_rfl) (by kernel_rfl) (by kernel_rfl) (fun _ _ _ h => h) (Or.inl ⟨by rfl, ?_⟩) hHeld ?_; rotate_left 1; (intro w9 hSw; obtain ⟨hb9, hl9⟩ := hSw; have q0 := SB.c0 ⟨hb9, hl9⟩; have q1 := SB.c1 ⟨hb9, hl9⟩; have q2 := SB.c2 ⟨hb9, hl9⟩; clear hb9 hl9; go_simp; first | done | with_reducible rfl); (try simp only [Act.put, List.setIfInBounds_toArray, List.set_cons_zero, List.set_cons_succ])
  refine wpAnyH_take (i := 14) (oi := { dst := some 74, op := Op.binOp BinOp.eql 3 (Operand.tmp 71) (Operand.tmp 73) 3, type := 4, pos := "law.go:79", after := #[{ on := 11, ground := Ground.data }, { on := 13, ground := Ground.data }, { on := 10, ground := Ground.guard }, { on := 16, ground := Ground.gcOnly Departure.lateStores }], guard := some (10, true) }) (v := ?_) rfl (by kernel_rfl) (by kernel_rfl) (by kernel_rfl) (fun _ _ _ h => h) (Or.inl ⟨by rfl, ?_⟩) hHeld ?_; rotate_left 1; (intro w9 hSw; obtain ⟨hb9, hl9⟩ := hSw; have q0 := SB.c0 ⟨hb9, hl9⟩; have q1 := SB.c1 ⟨hb9, hl9⟩; have q2 := SB.c2 ⟨hb9, hl9⟩; clear hb9 hl9; go_simp; first | done | with_reducible rfl); (try simp only [Act.put, List.setIfInBounds_toArray, List.set_cons_zero, List.set_cons_succ])
  refine wpAnyH_take (i := 15) (oi := { dst := some 75, op := Op.pick (Operand.tmp 70) (Operand.tmp 74) (Operand.const (Value.bool false)), type := 4, pos := "law.go:79", after := #[{ on := 10, ground := Ground.data }, { on := 14, ground := Ground.data }, { on := 16, ground := Ground.gcOnly Departure.lateStores }], guard := none }) (v := ?_) rfl (by kernel_rfl) (by kernel_rfl) (by kernel_rfl) (fun _ _ _ h => h) (Or.inl ⟨by rfl, ?_⟩) hHeld ?_; rotate_left 1; (intro w9 hSw; obtain ⟨hb9, hl9⟩ := hSw; have q0 := SB.c0 ⟨hb9, hl9⟩; have q1 := SB.c1 ⟨hb9, hl9⟩; have q2 := SB.c2 ⟨hb9, hl9⟩; clear hb9 hl9; go_simp; first | done | with_reducible rfl); (try simp only [Act.put, List.setIfInBounds_toArray, List.set_cons_zero, List.set_cons_succ])
  refine wpAnyH_take (i := 16) (oi := { dst := some 6, op := Op.assign (Operand.const (Value.int IntKind.i64 0)), type := 26, pos := "law.go:79", after := #[{ on := 10, ground := Ground.chain }, { on := 0, ground := Ground.textOnly Departure.lateStores }, { on := 1, ground := Ground.textOnly Departure.lateStores }, { on := 2, ground := Ground.textOnly Departure.lateStores }, { on := 3, ground := Ground.textOnly Departure.lateStoresUnsure }, { on := 4, ground := Ground.textOnly Departure.lateStores }, { on := 5, ground := Ground.textOnly Departure.lateStores }, { on := 6, ground := Ground.textOnly Departure.lateStores }, { on := 7, ground := Ground.textOnly Departure.lateStores }, { on := 8, ground := Ground.textOnly Departure.lateStores }, { on := 9, ground := Ground.textOnly Departure.lateStores }, { on := 10, ground := Ground.textOnly Departure.lateStores }, { on := 11, ground := Ground.textOnly Departure.lateStores }, { on := 12, ground := Ground.textOnly Departure.lateStores }, { on := 13, ground := Ground.textOnly Departure.lateStores }, { on := 14, ground := Ground.textOnly Departure.lateStores }, { on := 15, ground := Ground.textOnly Departure.lateStores }], guard := none }) (v := ?_) rfl (by kernel_rfl) (by kernel_rfl) (by kernel_rfl) (fun _ _ _ h => h) (Or.inl ⟨by rfl, ?_⟩) hHeld ?_; rotate_left 1; (intro w9 hSw; obtain ⟨hb9, hl9⟩ := hSw; have q0 := SB.c0 ⟨hb9, hl9⟩; have q1 := SB.c1 ⟨hb9, hl9⟩; have q2 := SB.c2 ⟨hb9, hl9⟩; clear hb9 hl9; go_simp; first | done | with_reducible rfl); (try simp only [Act.put, List.setIfInBounds_toArray, List.set_cons_zero, List.set_cons_succ])
  refine wpAnyH_take (i := 17) (oi := { dst := some 7, op := Op.assign (Operand.tmp 75), type := 4, pos := "law.go:79", after := #[{ on := 15, ground := Ground.data }, { on := 16, ground := Ground.chain }, { on := 0, ground := Ground.phase }, { on := 1, ground := Ground.phase }, { on := 2, ground := Ground.phase }, { on := 3, ground := Ground.phase }, { on := 4, ground := Ground.phase }, { on := 5, ground := Ground.phase }, { on := 6, ground := Ground.phase }, { on := 7, ground := Ground.phase }, { on := 8, ground := Ground.phase }, { on := 9, ground := Ground.phase }, { on := 10, ground := Ground.phase }, { on := 11, ground := Ground.phase }, { on := 12, ground := Ground.phase }, { on := 13, ground := Ground.phase }, { on := 14, ground := Ground.phase }, { on := 15, ground := Ground.phase }, { on := 16, ground := Ground.phase }], guard := none }) (v := ?_) rfl (by kernel_rfl) (by kernel_rfl) (by kernel_rfl) (fun _ _ _ h => h) (Or.inl ⟨by rfl, ?_⟩) hHeld ?_; rotate_left 1; (intro w9 hSw; obtain ⟨hb9, hl9⟩ := hSw; have q0 := SB.c0 ⟨hb9, hl9⟩; have q1 := SB.c1 ⟨hb9, hl9⟩; have q2 := SB.c2 ⟨hb9, hl9⟩; clear hb9 hl9; go_simp; first | done | with_reducible rfl); (try simp only [Act.put, List.setIfInBounds_toArray, List.set_cons_zero, List.set_cons_succ])
  refine wpAnyH_done (by kernel_rfl) ?_ _
  have HH := Lib.hid hHeld.2
  clear hHeld hS
  go_wp2
  go_ret2
  exact ⟨rfl, v, HP5.out.below HH.out, hi, HF5.out.below HH.out, Nw.refl v w⟩
end Go.Proofs.Ytmkipdleggkkkaa.Own
/- The walk of same. -/
namespace Go.Proofs.Ytmkipdleggkkkaa.Own
open Go.RowKit Go.Proofs.YtmkipdleggkkkaaW.PrintWords Go.Proofs.YtmkipdleggkkkaaW.PrintLast Go.Proofs.YtmkipdleggkkkaaW.PrintMore Go.Proofs.Ytmkipdleggkkkaa.Pu
set_option maxRecDepth 100000
set_option linter.unusedSimpArgs false
set_option linter.unusedVariables false
structure SX (B g : Nat) (v : Value) (s : DSt) (A : Option Addr) (c b : Nat) (w0 w : World) : Prop where
  ps : PS B g v s.l s.st s.nx s.mr w
  bx : w.heap[b]? = some (.cells #[.slice A s.l.length c, .int .i64 s.st, .int .i64 s.nx, .int .i64 s.mr] 35 (0, 0))
  bel : Below w0.heap.size w0 w
section
variable {B g : Nat} {v : Value} {s : DSt} {A : Option Addr} {c b : Nat} {w0 w w1 : World}
theorem SX.drew (h : SX B g v s A c b w0 w) : SX B g v s A c b w0 w.drew := ⟨h.ps.drew, h.bx, h.bel.drew⟩
theorem SX.below (h : SX B g v s A c b w0 w) (hb : Below w.heap.size w w1) : SX B g v s A c b w0 w1 := ⟨h.ps.below hb, blk_below h.bx hb, below_two h.bel hb⟩
theorem SX.c0 (h : SX B g v s A c b w0 w) : w.cell? ⟨b, 0, none⟩ = some (.slice A s.l.length c) := (blk_cell h.bx 0).trans rfl
theorem SX.c1 (h : SX B g v s A c b w0 w) : w.cell? ⟨b, 1, none⟩ = some (.int .i64 s.st) := (blk_cell h.bx 1).trans rfl
theorem SX.c2 (h : SX B g v s A c b w0 w) : w.cell? ⟨b, 2, none⟩ = some (.int .i64 s.nx) := (blk_cell h.bx 2).trans rfl
theorem SX.c3 (h : SX B g v s A c b w0 w) : w.cell? ⟨b, 3, none⟩ = some (.int .i64 s.mr) := (blk_cell h.bx 3).trans rfl
end
set_option maxHeartbeats 4000000 in
theorem same_st {B g : Nat} {v : Value} {s : DSt} {w : World} (h : PS B g v s.l s.st s.nx s.mr w) (hi : IV s) {A : Option Addr} {c : Nat} (hC : Kd.C PB.k45 w A s.l.length s.l) (hc : s.l.length ≤ c) (hl : s.l.length ≤ 60000) :
    Calls Try.prog 19 #[.pointer (some ⟨g, 0, none⟩), .agg #[.slice A s.l.length c, .int .i64 s.st, .int .i64 s.nx, .int .i64 s.mr]] w fun e w' => e = .returned (.bool true) ∧ Below w.heap.size w w' := by
  have b1 : Below w.heap.size w (w.alloc (.cells #[.slice A s.l.length c, .int .i64 s.st, .int .i64 s.nx, .int .i64 s.mr] 35)) := (Below.refl _ _).alloc (Nat.le_refl _) _
  have hb0 : (w.alloc (.cells #[.slice A s.l.length c, .int .i64 s.st, .int .i64 s.nx, .int .i64 s.mr] 35)).heap[w.heap.size]? = some (.cells #[.slice A s.l.length c, .int .i64 s.st, .int .i64 s.nx, .int .i64 s.mr] 35 (0, 0)) := heap_new _ _
  have hS : SX B g v s A c w.heap.size (w.alloc (.cells #[.slice A s.l.length c, .int .i64 s.st, .int .i64 s.nx, .int .i64 s.mr] 35)) (w.alloc (.cells #[.slice A s.l.length c, .int .i64 s.st, .int .i64 s.nx, .int .i64 s.mr] 35)) := ⟨h.below b1, hb0, Below.refl _ _⟩
  have HC := Lib.hid (Kd.C_below hC b1)
  have B1 := Lib.hid b1
  clear hC b1 hb0 h
  go_enter Try.func19, Try.ntmps19
  go_wp2_with fail
  generalize hW : w.alloc (.cells #[.slice A s.l.length c, .int .i64 s.st, .int .i64 s.nx, .int .i64 s.mr] 35) = W1 at *
  clear hW
  generalize w.heap.size = bx at hS ⊢
  refine wp_region_held_drew (S := SX B g v s A c bx W1) (by kernel_rfl) (hS.drew) (fun hHeld => ?_)
  refine wpAnyH_take (i := 0) (oi := { dst := some 5, op := Op.move (Operand.tmp 0), type := 24, pos := "law.go:84", after := #[], guard := none }) (v := ?_) rfl (by kernel_rfl) (by kernel_rfl) (by kernel_rfl) (fun _ _ _ h => h) (Or.inl ⟨by rfl, ?_⟩) hHeld ?_; rotate_left 1; (intro w9 hSw; obtain ⟨hp9, hb9, hl9⟩ := hSw; have q0 := SX.c0 ⟨hp9, hb9, hl9⟩; have q1 := SX.c1 ⟨hp9, hb9, hl9⟩; have q2 := SX.c2 ⟨hp9, hb9, hl9⟩; have q3 := SX.c3 ⟨hp9, hb9, hl9⟩; clear hp9 hb9 hl9; go_simp; first | done | with_reducible rfl); (try simp only [Act.put, List.setIfInBounds_toArray, List.set_cons_zero, List.set_cons_succ])
  refine wpAnyH_take (i := 2) (oi := { dst := some 7, op := Op.fieldAddr 35 (Operand.tmp 3) 0, type := 0, pos := "law.go:84", after := #[], guard := none }) (v := ?_) rfl (by kernel_rfl) (by kernel_rfl) (by kernel_rfl) (fun _ _ _ h => h) (Or.inl ⟨by rfl, ?_⟩) hHeld ?_; rotate_left 1; (intro w9 hSw; obtain ⟨hp9, hb9, hl9⟩ := hSw; have q0 := SX.c0 ⟨hp9, hb9, hl9⟩; have q1 := SX.c1 ⟨hp9, hb9, hl9⟩; have q2 := SX.c2 ⟨hp9, hb9, hl9⟩; have q3 := SX.c3 ⟨hp9, hb9, hl9⟩; clear hp9 hb9 hl9; go_simp; first | done | with_reducible rfl); (try simp only [Act.put, List.setIfInBounds_toArray, List.set_cons_zero, List.set_cons_succ])
  refine wpAnyH_take (i := 3) (oi := { dst := some 8, op := Op.load 22 (Operand.tmp 7), type := 22, pos := "law.go:84", after := #[{ on := 2, ground := Ground.data }], guard := none }) (v := ?_) rfl (by kernel_rfl) (by kernel_rfl) (by kernel_rfl) (fun _ _ _ h => h) (Or.inl ⟨by rfl, ?_⟩) hHeld ?_; rotate_left 1; (intro w9 hSw; obtain ⟨hp9, hb9, hl9⟩ := hSw; have q0 := SX.c0 ⟨hp9, hb9, hl9⟩; have q1 := SX.c1 ⟨hp9, hb9, hl9⟩; have q2 := SX.c2 ⟨hp9, hb9, hl9⟩; have q3 := SX.c3 ⟨hp9, hb9, hl9⟩; clear hp9 hb9 hl9; go_simp; first | done | with_reducible rfl); (try simp only [Act.put, List.setIfInBounds_toArray, List.set_cons_zero, List.set_cons_succ])
  refine wpAnyH_ready (rs := [1]) (by kernel_rfl) (by simp) ?_; refine AllReadyH.cons (o := { dst := some 6, op := Op.call { callee := Callee.value (Operand.func 12), args := #[Operand.tmp 5], argTypes := #[24] }, type := 22, pos := "law.go:84", after := #[{ on := 0, ground := Ground.data }], guard := none }) rfl (fun K hK => ?_) AllReadyH.nil; go_simp; refine (all_any hHeld.ps hl).mono ?_; rintro e w4 ⟨u, rfl, hR, bel⟩; obtain ⟨A4, c4, rfl⟩ := Kd.R_slice hR; have C4 := Lib.hid (Kd.R_reads' hR).2.2; clear hR; (try go_wp2_with fail); refine hK.out _ _ (hHeld.below bel) (fun hHeld => ?_); clear hK; (try simp only [Act.put, List.setIfInBounds_toArray, List.set_cons_zero, List.set_cons_succ])
  refine wpAnyH_ready (rs := [4]) (by kernel_rfl) (by simp) ?_; refine AllReadyH.cons (o := { dst := some 9, op := Op.call { callee := Callee.value (Operand.func 11), args := #[Operand.tmp 6, Operand.tmp 8], argTypes := #[22, 22] }, type := 4, pos := "law.go:84", after := #[{ on := 1, ground := Ground.data }, { on := 3, ground := Ground.data }, { on := 1, ground := Ground.chain }], guard := none }) rfl (fun K hK => ?_) AllReadyH.nil; go_simp; refine (Sm.same_any A4 c4 s.l A c s.l _ C4.out (Kd.C_below HC.out hHeld.bel)).mono ?_; rintro e w4 ⟨rfl, bel⟩; rw [Sm.sameB_refl]; (try go_wp2_with fail); refine hK.out _ _ (hHeld.below bel) (fun hHeld => ?_); clear hK; (try simp only [Act.put, List.setIfInBounds_toArray, List.set_cons_zero, List.set_cons_succ])
  refine wpAnyH_take (i := 5) (oi := { dst := some 10, op := Op.move (Operand.tmp 9), type := 4, pos := "law.go:84", after := #[{ on := 4, ground := Ground.data }, { on := 4, ground := Ground.chain }], guard := none }) (v := ?_) rfl (by kernel_rfl) (by kernel_rfl) (by kernel_rfl) (fun _ _ _ h => h) (Or.inl ⟨by rfl, ?_⟩) hHeld ?_; rotate_left 1; (intro w9 hSw; obtain ⟨hp9, hb9, hl9⟩ := hSw; have q0 := SX.c0 ⟨hp9, hb9, hl9⟩; have q1 := SX.c1 ⟨hp9, hb9, hl9⟩; have q2 := SX.c2 ⟨hp9, hb9, hl9⟩; have q3 := SX.c3 ⟨hp9, hb9, hl9⟩; clear hp9 hb9 hl9; go_simp; first | done | with_reducible rfl); (try simp only [Act.put, List.setIfInBounds_toArray, List.set_cons_zero, List.set_cons_succ])
  refine wpAnyH_take (i := 6) (oi := { dst := some 11, op := Op.move (Operand.tmp 0), type := 24, pos := "law.go:84", after := #[{ on := 5, ground := Ground.guard }], guard := some (5, true) }) (v := ?_) rfl (by kernel_rfl) (by kernel_rfl) (by kernel_rfl) (fun _ _ _ h => h) (Or.inl ⟨by rfl, ?_⟩) hHeld ?_; rotate_left 1; (intro w9 hSw; obtain ⟨hp9, hb9, hl9⟩ := hSw; have q0 := SX.c0 ⟨hp9, hb9, hl9⟩; have q1 := SX.c1 ⟨hp9, hb9, hl9⟩; have q2 := SX.c2 ⟨hp9, hb9, hl9⟩; have q3 := SX.c3 ⟨hp9, hb9, hl9⟩; clear hp9 hb9 hl9; go_simp; first | done | with_reducible rfl); (try simp only [Act.put, List.setIfInBounds_toArray, List.set_cons_zero, List.set_cons_succ])
  refine wpAnyH_take (i := 8) (oi := { dst := some 13, op := Op.fieldAddr 35 (Operand.tmp 3) 1, type := 0, pos := "law.go:84", after := #[{ on := 5, ground := Ground.guard }], guard := some (5, true) }) (v := ?_) rfl (by kernel_rfl) (by kernel_rfl) (by kernel_rfl) (fun _ _ _ h => h) (Or.inl ⟨by rfl, ?_⟩) hHeld ?_; rotate_left 1; (intro w9 hSw; obtain ⟨hp9, hb9, hl9⟩ := hSw; have q0 := SX.c0 ⟨hp9, hb9, hl9⟩; have q1 := SX.c1 ⟨hp9, hb9, hl9⟩; have q2 := SX.c2 ⟨hp9, hb9, hl9⟩; have q3 := SX.c3 ⟨hp9, hb9, hl9⟩; clear hp9 hb9 hl9; go_simp; first | done | with_reducible rfl); (try simp only [Act.put, List.setIfInBounds_toArray, List.set_cons_zero, List.set_cons_succ])
  refine wpAnyH_take (i := 9) (oi := { dst := some 14, op := Op.load 3 (Operand.tmp 13), type := 3, pos := "law.go:84", after := #[{ on := 8, ground := Ground.data }, { on := 5, ground := Ground.guard }], guard := some (5, true) }) (v := ?_) rfl (by kernel_rfl) (by kernel_rfl) (by kernel_rfl) (fun _ _ _ h => h) (Or.inl ⟨by rfl, ?_⟩) hHeld ?_; rotate_left 1; (intro w9 hSw; obtain ⟨hp9, hb9, hl9⟩ := hSw; have q0 := SX.c0 ⟨hp9, hb9, hl9⟩; have q1 := SX.c1 ⟨hp9, hb9, hl9⟩; have q2 := SX.c2 ⟨hp9, hb9, hl9⟩; have q3 := SX.c3 ⟨hp9, hb9, hl9⟩; clear hp9 hb9 hl9; go_simp; first | done | with_reducible rfl); (try simp only [Act.put, List.setIfInBounds_toArray, List.set_cons_zero, List.set_cons_succ])
  refine wpAnyH_ready (rs := [7]) (by kernel_rfl) (by simp) ?_; refine AllReadyH.cons (o := { dst := some 12, op := Op.call { callee := Callee.value (Operand.func 20), args := #[Operand.tmp 11], argTypes := #[24] }, type := 3, pos := "law.go:84", after := #[{ on := 6, ground := Ground.data }, { on := 5, ground := Ground.chain }, { on := 5, ground := Ground.guard }], guard := some (5, true) }) rfl (fun K hK => ?_) AllReadyH.nil; go_simp; refine (start_any hHeld.ps).mono ?_; rintro e w4 ⟨rfl, bel⟩; (try go_wp2_with fail); refine hK.out _ _ (hHeld.below bel) (fun hHeld => ?_); clear hK; (try simp only [Act.put, List.setIfInBounds_toArray, List.set_cons_zero, List.set_cons_succ])
  refine wpAnyH_take (i := 10) (oi := { dst := some 15, op := Op.binOp BinOp.eql 3 (Operand.tmp 12) (Operand.tmp 14) 3, type := 4, pos := "law.go:84", after := #[{ on := 7, ground := Ground.data }, { on := 9, ground := Ground.data }, { on := 5, ground := Ground.guard }], guard := some (5, true) }) (v := ?_) rfl (by kernel_rfl) (by kernel_rfl) (by kernel_rfl) (fun _ _ _ h => h) (Or.inl ⟨by rfl, ?_⟩) hHeld ?_; rotate_left 1; (intro w9 hSw; obtain ⟨hp9, hb9, hl9⟩ := hSw; have q0 := SX.c0 ⟨hp9, hb9, hl9⟩; have q1 := SX.c1 ⟨hp9, hb9, hl9⟩; have q2 := SX.c2 ⟨hp9, hb9, hl9⟩; have q3 := SX.c3 ⟨hp9, hb9, hl9⟩; clear hp9 hb9 hl9; go_simp; first | done | with_reducible rfl); (try simp only [Act.put, List.setIfInBounds_toArray, List.set_cons_zero, List.set_cons_succ])
  refine wpAnyH_take (i := 11) (oi := { dst := some 16, op := Op.pick (Operand.tmp 10) (Operand.tmp 15) (Operand.const (Value.bool false)), type := 4, pos := "law.go:84", after := #[{ on := 5, ground := Ground.data }, { on := 10, ground := Ground.data }], guard := none }) (v := ?_) rfl (by kernel_rfl) (by kernel_rfl) (by kernel_rfl) (fun _ _ _ h => h) (Or.inl ⟨by rfl, ?_⟩) hHeld ?_; rotate_left 1; (intro w9 hSw; obtain ⟨hp9, hb9, hl9⟩ := hSw; have q0 := SX.c0 ⟨hp9, hb9, hl9⟩; have q1 := SX.c1 ⟨hp9, hb9, hl9⟩; have q2 := SX.c2 ⟨hp9, hb9, hl9⟩; have q3 := SX.c3 ⟨hp9, hb9, hl9⟩; clear hp9 hb9 hl9; go_simp; first | done | with_reducible rfl); (try simp only [Act.put, List.setIfInBounds_toArray, List.set_cons_zero, List.set_cons_succ])
  refine wpAnyH_take (i := 12) (oi := { dst := some 17, op := Op.move (Operand.tmp 16), type := 4, pos := "law.go:84", after := #[{ on := 11, ground := Ground.data }, { on := 7, ground := Ground.chain }], guard := none }) (v := ?_) rfl (by kernel_rfl) (by kernel_rfl) (by kernel_rfl) (fun _ _ _ h => h) (Or.inl ⟨by rfl, ?_⟩) hHeld ?_; rotate_left 1; (intro w9 hSw; obtain ⟨hp9, hb9, hl9⟩ := hSw; have q0 := SX.c0 ⟨hp9, hb9, hl9⟩; have q1 := SX.c1 ⟨hp9, hb9, hl9⟩; have q2 := SX.c2 ⟨hp9, hb9, hl9⟩; have q3 := SX.c3 ⟨hp9, hb9, hl9⟩; clear hp9 hb9 hl9; go_simp; first | done | with_reducible rfl); (try simp only [Act.put, List.setIfInBounds_toArray, List.set_cons_zero, List.set_cons_succ])
  refine wpAnyH_take (i := 13) (oi := { dst := some 18, op := Op.move (Operand.tmp 0), type := 24, pos := "law.go:84", after := #[{ on := 12, ground := Ground.guard }], guard := some (12, true) }) (v := ?_) rfl (by kernel_rfl) (by kernel_rfl) (by kernel_rfl) (fun _ _ _ h => h) (Or.inl ⟨by rfl, ?_⟩) hHeld ?_; rotate_left 1; (intro w9 hSw; obtain ⟨hp9, hb9, hl9⟩ := hSw; have q0 := SX.c0 ⟨hp9, hb9, hl9⟩; have q1 := SX.c1 ⟨hp9, hb9, hl9⟩; have q2 := SX.c2 ⟨hp9, hb9, hl9⟩; have q3 := SX.c3 ⟨hp9, hb9, hl9⟩; clear hp9 hb9 hl9; go_simp; first | done | with_reducible rfl); (try simp only [Act.put, List.setIfInBounds_toArray, List.set_cons_zero, List.set_cons_succ])
  refine wpAnyH_take (i := 15) (oi := { dst := some 20, op := Op.fieldAddr 35 (Operand.tmp 3) 2, type := 0, pos := "law.go:84", after := #[{ on := 12, ground := Ground.guard }], guard := some (12, true) }) (v := ?_) rfl (by kernel_rfl) (by kernel_rfl) (by kernel_rfl) (fun _ _ _ h => h) (Or.inl ⟨by rfl, ?_⟩) hHeld ?_; rotate_left 1; (intro w9 hSw; obtain ⟨hp9, hb9, hl9⟩ := hSw; have q0 := SX.c0 ⟨hp9, hb9, hl9⟩; have q1 := SX.c1 ⟨hp9, hb9, hl9⟩; have q2 := SX.c2 ⟨hp9, hb9, hl9⟩; have q3 := SX.c3 ⟨hp9, hb9, hl9⟩; clear hp9 hb9 hl9; go_simp; first | done | with_reducible rfl); (try simp only [Act.put, List.setIfInBounds_toArray, List.set_cons_zero, List.set_cons_succ])
  refine wpAnyH_take (i := 16) (oi := { dst := some 21, op := Op.load 3 (Operand.tmp 20), type := 3, pos := "law.go:84", after := #[{ on := 15, ground := Ground.data }, { on := 12, ground := Ground.guard }], guard := some (12, true) }) (v := ?_) rfl (by kernel_rfl) (by kernel_rfl) (by kernel_rfl) (fun _ _ _ h => h) (Or.inl ⟨by rfl, ?_⟩) hHeld ?_; rotate_left 1; (intro w9 hSw; obtain ⟨hp9, hb9, hl9⟩ := hSw; have q0 := SX.c0 ⟨hp9, hb9, hl9⟩; have q1 := SX.c1 ⟨hp9, hb9, hl9⟩; have q2 := SX.c2 ⟨hp9, hb9, hl9⟩; have q3 := SX.c3 ⟨hp9, hb9, hl9⟩; clear hp9 hb9 hl9; go_simp; first | done | with_reducible rfl); (try simp only [Act.put, List.setIfInBounds_toArray, List.set_cons_zero, List.set_cons_succ])
  refine wpAnyH_ready (rs := [14]) (by kernel_rfl) (by simp) ?_; refine AllReadyH.cons (o := { dst := some 19, op := Op.call { callee := Callee.value (Operand.func 13), args := #[Operand.tmp 18], argTypes := #[24] }, type := 3, pos := "law.go:84", after := #[{ on := 13, ground := Ground.data }, { on := 12, ground := Ground.chain }, { on := 12, ground := Ground.guard }], guard := some (12, true) }) rfl (fun K hK => ?_) AllReadyH.nil; go_simp; refine (next_any hHeld.ps).mono ?_; rintro e w4 ⟨rfl, bel⟩; (try go_wp2_with fail); refine hK.out _ _ (hHeld.below bel) (fun hHeld => ?_); clear hK; (try simp only [Act.put, List.setIfInBounds_toArray, List.set_cons_zero, List.set_cons_succ])
  refine wpAnyH_take (i := 17) (oi := { dst := some 22, op := Op.binOp BinOp.eql 3 (Operand.tmp 19) (Operand.tmp 21) 3, type := 4, pos := "law.go:84", after := #[{ on := 14, ground := Ground.data }, { on := 16, ground := Ground.data }, { on := 12, ground := Ground.guard }], guard := some (12, true) }) (v := ?_) rfl (by kernel_rfl) (by kernel_rfl) (by kernel_rfl) (fun _ _ _ h => h) (Or.inl ⟨by rfl, ?_⟩) hHeld ?_; rotate_left 1; (intro w9 hSw; obtain ⟨hp9, hb9, hl9⟩ := hSw; have q0 := SX.c0 ⟨hp9, hb9, hl9⟩; have q1 := SX.c1 ⟨hp9, hb9, hl9⟩; have q2 := SX.c2 ⟨hp9, hb9, hl9⟩; have q3 := SX.c3 ⟨hp9, hb9, hl9⟩; clear hp9 hb9 hl9; go_simp; first | done | with_reducible rfl); (try simp only [Act.put, List.setIfInBounds_toArray, List.set_cons_zero, List.set_cons_succ])
  refine wpAnyH_take (i := 18) (oi := { dst := some 23, op := Op.pick (Operand.tmp 17) (Operand.tmp 22) (Operand.const (Value.bool false)), type := 4, pos := "law.go:84", after := #[{ on := 12, ground := Ground.data }, { on := 17, ground := Ground.data }], guard := none }) (v := ?_) rfl (by kernel_rfl) (by kernel_rfl) (by kernel_rfl) (fun _ _ _ h => h) (Or.inl ⟨by rfl, ?_⟩) hHeld ?_; rotate_left 1; (intro w9 hSw; obtain ⟨hp9, hb9, hl9⟩ := hSw; have q0 := SX.c0 ⟨hp9, hb9, hl9⟩; have q1 := SX.c1 ⟨hp9, hb9, hl9⟩; have q2 := SX.c2 ⟨hp9, hb9, hl9⟩; have q3 := SX.c3 ⟨hp9, hb9, hl9⟩; clear hp9 hb9 hl9; go_simp; first | done | with_reducible rfl); (try simp only [Act.put, List.setIfInBounds_toArray, List.set_cons_zero, List.set_cons_succ])
  refine wpAnyH_take (i := 19) (oi := { dst := some 24, op := Op.move (Operand.tmp 23), type := 4, pos := "law.go:84", after := #[{ on := 18, ground := Ground.data }, { on := 14, ground := Ground.chain }], guard := none }) (v := ?_) rfl (by kernel_rfl) (by kernel_rfl) (by kernel_rfl) (fun _ _ _ h => h) (Or.inl ⟨by rfl, ?_⟩) hHeld ?_; rotate_left 1; (intro w9 hSw; obtain ⟨hp9, hb9, hl9⟩ := hSw; have q0 := SX.c0 ⟨hp9, hb9, hl9⟩; have q1 := SX.c1 ⟨hp9, hb9, hl9⟩; have q2 := SX.c2 ⟨hp9, hb9, hl9⟩; have q3 := SX.c3 ⟨hp9, hb9, hl9⟩; clear hp9 hb9 hl9; go_simp; first | done | with_reducible rfl); (try simp only [Act.put, List.setIfInBounds_toArray, List.set_cons_zero, List.set_cons_succ])
  refine wpAnyH_take (i := 20) (oi := { dst := some 25, op := Op.move (Operand.tmp 0), type := 24, pos := "law.go:84", after := #[{ on := 19, ground := Ground.guard }], guard := some (19, true) }) (v := ?_) rfl (by kernel_rfl) (by kernel_rfl) (by kernel_rfl) (fun _ _ _ h => h) (Or.inl ⟨by rfl, ?_⟩) hHeld ?_; rotate_left 1; (intro w9 hSw; obtain ⟨hp9, hb9, hl9⟩ := hSw; have q0 := SX.c0 ⟨hp9, hb9, hl9⟩; have q1 := SX.c1 ⟨hp9, hb9, hl9⟩; have q2 := SX.c2 ⟨hp9, hb9, hl9⟩; have q3 := SX.c3 ⟨hp9, hb9, hl9⟩; clear hp9 hb9 hl9; go_simp; first | done | with_reducible rfl); (try simp only [Act.put, List.setIfInBounds_toArray, List.set_cons_zero, List.set_cons_succ])
  refine wpAnyH_take (i := 22) (oi := { dst := some 27, op := Op.fieldAddr 35 (Operand.tmp 3) 3, type := 0, pos := "law.go:84", after := #[{ on := 19, ground := Ground.guard }], guard := some (19, true) }) (v := ?_) rfl (by kernel_rfl) (by kernel_rfl) (by kernel_rfl) (fun _ _ _ h => h) (Or.inl ⟨by rfl, ?_⟩) hHeld ?_; rotate_left 1; (intro w9 hSw; obtain ⟨hp9, hb9, hl9⟩ := hSw; have q0 := SX.c0 ⟨hp9, hb9, hl9⟩; have q1 := SX.c1 ⟨hp9, hb9, hl9⟩; have q2 := SX.c2 ⟨hp9, hb9, hl9⟩; have q3 := SX.c3 ⟨hp9, hb9, hl9⟩; clear hp9 hb9 hl9; go_simp; first | done | with_reducible rfl); (try simp only [Act.put, List.setIfInBounds_toArray, List.set_cons_zero, List.set_cons_succ])
  refine wpAnyH_take (i := 23) (oi := { dst := some 28, op := Op.load 3 (Operand.tmp 27), type := 3, pos := "law.go:84", after := #[{ on := 22, ground := Ground.data }, { on := 19, ground := Ground.guard }], guard := some (19, true) }) (v := ?_) rfl (by kernel_rfl) (by kernel_rfl) (by kernel_rfl) (fun _ _ _ h => h) (Or.inl ⟨by rfl, ?_⟩) hHeld ?_; rotate_left 1; (intro w9 hSw; obtain ⟨hp9, hb9, hl9⟩ := hSw; have q0 := SX.c0 ⟨hp9, hb9, hl9⟩; have q1 := SX.c1 ⟨hp9, hb9, hl9⟩; have q2 := SX.c2 ⟨hp9, hb9, hl9⟩; have q3 := SX.c3 ⟨hp9, hb9, hl9⟩; clear hp9 hb9 hl9; go_simp; first | done | with_reducible rfl); (try simp only [Act.put, List.setIfInBounds_toArray, List.set_cons_zero, List.set_cons_succ])
  refine wpAnyH_ready (rs := [21]) (by kernel_rfl) (by simp) ?_; refine AllReadyH.cons (o := { dst := some 26, op := Op.call { callee := Callee.value (Operand.func 14), args := #[Operand.tmp 25], argTypes := #[24] }, type := 3, pos := "law.go:84", after := #[{ on := 20, ground := Ground.data }, { on := 19, ground := Ground.chain }, { on := 19, ground := Ground.guard }], guard := some (19, true) }) rfl (fun K hK => ?_) AllReadyH.nil; go_simp; refine (seen_any hHeld.ps).mono ?_; rintro e w4 ⟨rfl, bel⟩; (try go_wp2_with fail); refine hK.out _ _ (hHeld.below bel) (fun hHeld => ?_); clear hK; (try simp only [Act.put, List.setIfInBounds_toArray, List.set_cons_zero, List.set_cons_succ])
  refine wpAnyH_take (i := 24) (oi := { dst := some 29, op := Op.binOp BinOp.eql 3 (Operand.tmp 26) (Operand.tmp 28) 3, type := 4, pos := "law.go:84", after := #[{ on := 21, ground := Ground.data }, { on := 23, ground := Ground.data }, { on := 19, ground := Ground.guard }], guard := some (19, true) }) (v := ?_) rfl (by kernel_rfl) (by kernel_rfl) (by kernel_rfl) (fun _ _ _ h => h) (Or.inl ⟨by rfl, ?_⟩) hHeld ?_; rotate_left 1; (intro w9 hSw; obtain ⟨hp9, hb9, hl9⟩ := hSw; have q0 := SX.c0 ⟨hp9, hb9, hl9⟩; have q1 := SX.c1 ⟨hp9, hb9, hl9⟩; have q2 := SX.c2 ⟨hp9, hb9, hl9⟩; have q3 := SX.c3 ⟨hp9, hb9, hl9⟩; clear hp9 hb9 hl9; go_simp; first | done | with_reducible rfl); (try simp only [Act.put, List.setIfInBounds_toArray, List.set_cons_zero, List.set_cons_succ])
  refine wpAnyH_take (i := 25) (oi := { dst := some 30, op := Op.pick (Operand.tmp 24) (Operand.tmp 29) (Operand.const (Value.bool false)), type := 4, pos := "law.go:84", after := #[{ on := 19, ground := Ground.data }, { on := 24, ground := Ground.data }], guard := none }) (v := ?_) rfl (by kernel_rfl) (by kernel_rfl) (by kernel_rfl) (fun _ _ _ h => h) (Or.inl ⟨by rfl, ?_⟩) hHeld ?_; rotate_left 1; (intro w9 hSw; obtain ⟨hp9, hb9, hl9⟩ := hSw; have q0 := SX.c0 ⟨hp9, hb9, hl9⟩; have q1 := SX.c1 ⟨hp9, hb9, hl9⟩; have q2 := SX.c2 ⟨hp9, hb9, hl9⟩; have q3 := SX.c3 ⟨hp9, hb9, hl9⟩; clear hp9 hb9 hl9; go_simp; first | done | with_reducible rfl); (try simp only [Act.put, List.setIfInBounds_toArray, List.set_cons_zero, List.set_cons_succ])
  refine wpAnyH_take (i := 26) (oi := { dst := some 31, op := Op.move (Operand.tmp 30), type := 4, pos := "law.go:84", after := #[{ on := 25, ground := Ground.data }, { on := 21, ground := Ground.chain }], guard := none }) (v := ?_) rfl (by kernel_rfl) (by kernel_rfl) (by kernel_rfl) (fun _ _ _ h => h) (Or.inl ⟨by rfl, ?_⟩) hHeld ?_; rotate_left 1; (intro w9 hSw; obtain ⟨hp9, hb9, hl9⟩ := hSw; have q0 := SX.c0 ⟨hp9, hb9, hl9⟩; have q1 := SX.c1 ⟨hp9, hb9, hl9⟩; have q2 := SX.c2 ⟨hp9, hb9, hl9⟩; have q3 := SX.c3 ⟨hp9, hb9, hl9⟩; clear hp9 hb9 hl9; go_simp; first | done | with_reducible rfl); (try simp only [Act.put, List.setIfInBounds_toArray, List.set_cons_zero, List.set_cons_succ])
  refine wpAnyH_take (i := 27) (oi := { dst := some 32, op := Op.move (Operand.tmp 0), type := 24, pos := "law.go:84", after := #[{ on := 26, ground := Ground.guard }], guard := some (26, true) }) (v := ?_) rfl (by kernel_rfl) (by kernel_rfl) (by kernel_rfl) (fun _ _ _ h => h) (Or.inl ⟨by rfl, ?_⟩) hHeld ?_; rotate_left 1; (intro w9 hSw; obtain ⟨hp9, hb9, hl9⟩ := hSw; have q0 := SX.c0 ⟨hp9, hb9, hl9⟩; have q1 := SX.c1 ⟨hp9, hb9, hl9⟩; have q2 := SX.c2 ⟨hp9, hb9, hl9⟩; have q3 := SX.c3 ⟨hp9, hb9, hl9⟩; clear hp9 hb9 hl9; go_simp; first | done | with_reducible rfl); (try simp only [Act.put, List.setIfInBounds_toArray, List.set_cons_zero, List.set_cons_succ])
  refine wpAnyH_take (i := 29) (oi := { dst := some 34, op := Op.load 35 (Operand.tmp 3), type := 35, pos := "law.go:84", after := #[{ on := 26, ground := Ground.guard }], guard := some (26, true) }) (v := ?_) rfl (by kernel_rfl) (by kernel_rfl) (by kernel_rfl) (fun _ _ _ h => h) (Or.inl ⟨by rfl, ?_⟩) hHeld ?_; rotate_left 1; (intro w9 hSw; obtain ⟨hp9, hb9, hl9⟩ := hSw; have q0 := SX.c0 ⟨hp9, hb9, hl9⟩; have q1 := SX.c1 ⟨hp9, hb9, hl9⟩; have q2 := SX.c2 ⟨hp9, hb9, hl9⟩; have q3 := SX.c3 ⟨hp9, hb9, hl9⟩; clear hp9 hb9 hl9; go_simp; first | done | with_reducible rfl); (try simp only [Act.put, List.setIfInBounds_toArray, List.set_cons_zero, List.set_cons_succ])
  refine wpAnyH_ready (rs := [28]) (by kernel_rfl) (by simp) ?_; refine AllReadyH.cons (o := { dst := some 33, op := Op.call { callee := Callee.value (Operand.func 15), args := #[Operand.tmp 32], argTypes := #[24] }, type := 3, pos := "law.go:84", after := #[{ on := 27, ground := Ground.data }, { on := 26, ground := Ground.chain }, { on := 26, ground := Ground.guard }], guard := some (26, true) }) rfl (fun K hK => ?_) AllReadyH.nil; go_simp; refine (bytes_any hHeld.ps hl).mono ?_; rintro e w4 ⟨rfl, bel⟩; (try go_wp2_with fail); refine hK.out _ _ (hHeld.below bel) (fun hHeld => ?_); clear hK; (try simp only [Act.put, List.setIfInBounds_toArray, List.set_cons_zero, List.set_cons_succ])
  refine wpAnyH_ready (rs := [30]) (by kernel_rfl) (by simp) ?_; refine AllReadyH.cons (o := { dst := some 35, op := Op.call { callee := Callee.value (Operand.func 35), args := #[Operand.tmp 34], argTypes := #[35] }, type := 3, pos := "law.go:84", after := #[{ on := 29, ground := Ground.data }, { on := 28, ground := Ground.chain }, { on := 26, ground := Ground.guard }], guard := some (26, true) }) rfl (fun K hK => ?_) AllReadyH.nil; go_simp; refine (dbytesC (Kd.C_below HC.out hHeld.bel) hc hl hi.may).mono ?_; rintro e w4 ⟨rfl, bel⟩; (try go_wp2_with fail); refine hK.out _ _ (hHeld.below bel) (fun hHeld => ?_); clear hK; (try simp only [Act.put, List.setIfInBounds_toArray, List.set_cons_zero, List.set_cons_succ])
  refine wpAnyH_take (i := 31) (oi := { dst := some 36, op := Op.binOp BinOp.eql 3 (Operand.tmp 33) (Operand.tmp 35) 3, type := 4, pos := "law.go:84", after := #[{ on := 28, ground := Ground.data }, { on := 30, ground := Ground.data }, { on := 26, ground := Ground.guard }], guard := some (26, true) }) (v := ?_) rfl (by kernel_rfl) (by kernel_rfl) (by kernel_rfl) (fun _ _ _ h => h) (Or.inl ⟨by rfl, ?_⟩) hHeld ?_; rotate_left 1; (intro w9 hSw; obtain ⟨hp9, hb9, hl9⟩ := hSw; have q0 := SX.c0 ⟨hp9, hb9, hl9⟩; have q1 := SX.c1 ⟨hp9, hb9, hl9⟩; have q2 := SX.c2 ⟨hp9, hb9, hl9⟩; have q3 := SX.c3 ⟨hp9, hb9, hl9⟩; clear hp9 hb9 hl9; go_simp; first | done | with_reducible rfl); (try simp only [Act.put, List.setIfInBounds_toArray, List.set_cons_zero, List.set_cons_succ])
  refine wpAnyH_take (i := 32) (oi := { dst := some 37, op := Op.pick (Operand.tmp 31) (Operand.tmp 36) (Operand.const (Value.bool false)), type := 4, pos := "law.go:84", after := #[{ on := 26, ground := Ground.data }, { on := 31, ground := Ground.data }], guard := none }) (v := ?_) rfl (by kernel_rfl) (by kernel_rfl) (by kernel_rfl) (fun _ _ _ h => h) (Or.inl ⟨by rfl, ?_⟩) hHeld ?_; rotate_left 1; (intro w9 hSw; obtain ⟨hp9, hb9, hl9⟩ := hSw; have q0 := SX.c0 ⟨hp9, hb9, hl9⟩; have q1 := SX.c1 ⟨hp9, hb9, hl9⟩; have q2 := SX.c2 ⟨hp9, hb9, hl9⟩; have q3 := SX.c3 ⟨hp9, hb9, hl9⟩; clear hp9 hb9 hl9; go_simp; first | done | with_reducible rfl); (try simp only [Act.put, List.setIfInBounds_toArray, List.set_cons_zero, List.set_cons_succ])
  refine wpAnyH_take (i := 33) (oi := { dst := some 4, op := Op.assign (Operand.tmp 37), type := 4, pos := "law.go:84", after := #[{ on := 32, ground := Ground.data }, { on := 30, ground := Ground.chain }, { on := 0, ground := Ground.phase }, { on := 1, ground := Ground.phase }, { on := 2, ground := Ground.phase }, { on := 3, ground := Ground.phase }, { on := 4, ground := Ground.phase }, { on := 5, ground := Ground.phase }, { on := 6, ground := Ground.phase }, { on := 7, ground := Ground.phase }, { on := 8, ground := Ground.phase }, { on := 9, ground := Ground.phase }, { on := 10, ground := Ground.phase }, { on := 11, ground := Ground.phase }, { on := 12, ground := Ground.phase }, { on := 13, ground := Ground.phase }, { on := 14, ground := Ground.phase }, { on := 15, ground := Ground.phase }, { on := 16, ground := Ground.phase }, { on := 17, ground := Ground.phase }, { on := 18, ground := Ground.phase }, { on := 19, ground := Ground.phase }, { on := 20, ground := Ground.phase }, { on := 21, ground := Ground.phase }, { on := 22, ground := Ground.phase }, { on := 23, ground := Ground.phase }, { on := 24, ground := Ground.phase }, { on := 25, ground := Ground.phase }, { on := 26, ground := Ground.phase }, { on := 27, ground := Ground.phase }, { on := 28, ground := Ground.phase }, { on := 29, ground := Ground.phase }, { on := 30, ground := Ground.phase }, { on := 31, ground := Ground.phase }, { on := 32, ground := Ground.phase }], guard := none }) (v := ?_) rfl (by kernel_rfl) (by kernel_rfl) (by kernel_rfl) (fun _ _ _ h => h) (Or.inl ⟨by rfl, ?_⟩) hHeld ?_; rotate_left 1; (intro w9 hSw; obtain ⟨hp9, hb9, hl9⟩ := hSw; have q0 := SX.c0 ⟨hp9, hb9, hl9⟩; have q1 := SX.c1 ⟨hp9, hb9, hl9⟩; have q2 := SX.c2 ⟨hp9, hb9, hl9⟩; have q3 := SX.c3 ⟨hp9, hb9, hl9⟩; clear hp9 hb9 hl9; go_simp; first | done | with_reducible rfl); (try simp only [Act.put, List.setIfInBounds_toArray, List.set_cons_zero, List.set_cons_succ])
  refine wpAnyH_done (by kernel_rfl) ?_ _
  have HH := Lib.hid hHeld.bel
  clear hHeld hS
  go_wp2
  go_ret
  exact ⟨rfl, below_two B1.out HH.out⟩
end Go.Proofs.Ytmkipdleggkkkaa.Own
