/- Several texts of this claim in one. -/
import Derived.Test.YtmkipdleggkkkaaP7
import Derived.Test.YtmkipdleggkkkaaMay
/- The walks of Trim. -/
namespace Go.Proofs.Ytmkipdleggkkkaa.Own
open Go.RowKit Go.Proofs.YtmkipdleggkkkaaW.PrintWords Go.Proofs.YtmkipdleggkkkaaW.PrintLast Go.Proofs.YtmkipdleggkkkaaW.PrintMore
set_option maxRecDepth 100000
set_option linter.unusedSimpArgs false
set_option linter.unusedVariables false
attribute [local go_sem] max2_int min2_int max_two min_two max_three min_three max_four min_four
/-- A row's block is the old one, or new. -/
def Nw (v v' : Value) (w : World) : Prop := ∀ b, v'.ownBlock = some b → v.ownBlock = some b ∨ w.heap.size ≤ b
theorem Nw.refl (v : Value) (w : World) : Nw v v w := fun b h => Or.inl h
theorem Nw.trans {v v1 v2 : Value} {w w1 : World} (h : Nw v v1 w) (h1 : Nw v1 v2 w1) (hs : w.heap.size ≤ w1.heap.size) : Nw v v2 w := fun b hb => by
  rcases h1 b hb with e | e
  · exact h b e
  · exact Or.inr (Nat.le_trans hs e)
theorem Nw.of {v v' : Value} {w : World} (h : v'.ownBlock = v.ownBlock ∨ ∃ b, v'.ownBlock = some b ∧ w.heap.size ≤ b) : Nw v v' w := fun b hb => by
  rcases h with e | ⟨c, e, hc⟩
  · exact Or.inl (e ▸ hb)
  · rw [e] at hb; injection hb with hb; subst hb; exact Or.inr hc
theorem Fr.trans2 {g : Nat} {v v1 : Value} {w w1 w2 : World} (h : Fr g v w w1) (h1 : Fr g v1 w1 w2) (hv : Nw v v1 w) : Fr g v w w2 :=
  ⟨h1.os.trans h.os, h1.tape.trans h.tape, h1.output.trans h.output, Nat.le_trans h.size h1.size, fun k hk hg hn => by
    rw [h1.block k (Nat.lt_of_lt_of_le hk h.size) hg ?_, h.block k hk hg hn]
    intro e
    rcases hv k e.symm with e2 | e2
    · exact hn e2.symm
    · omega⟩
theorem newRow {w : World} {n B g : Nat} {v : Value} {l : List PB.S45} (h : Kd.R PB.k45 45 w n (fun _ => True) v l) (hB : B ≤ n) (hg : g < n) : Kd.R PB.k45 45 w B (fun k => k ≠ g) v l :=
  Kd.R_lower (Kd.R_mono (Kd.R_bound h) (fun k hk => by have := hk.2.1; omega)) hB
theorem newOwn {w w0 : World} {n : Nat} {v v0 : Value} {l : List PB.S45} (h : Kd.R PB.k45 45 w n (fun _ => True) v l) (hn : w0.heap.size ≤ n) : Nw v0 v w0 := fun b hb => Or.inr (Nat.le_trans hn ((Kd.R_bound h).1 b hb).2.1)
theorem trim_off {B g : Nat} {v : Value} {l : List PB.S45} {st nx mk : Int} {w : World} (h : PS B g v l st nx mk w) (a : Int) (hb : a < st ∨ nx < a) :
    Calls Try.prog 22 #[.pointer (some ⟨g, 0, none⟩), .int .i64 a] w fun e w' => e = .returned (.int .i64 34) ∧ Below w.heap.size w w' := by
  have q1 := blk_cell h.blk 1
  have q2 := blk_cell h.blk 2
  simp at q1 q2
  by_cases h1 : a < st
  · have e1 : decide (a < st) = true := decide_eq_true h1
    clear hb
    go_enter Try.func22, Try.ntmps22
    go_wp2
    all_goals go_ret
    all_goals exact ⟨rfl, Below.refl _ _⟩
  · have e1 : decide (a < st) = false := decide_eq_false h1
    have h2 : nx < a := by omega
    have e2 : decide (a > nx) = true := decide_eq_true h2
    clear hb
    go_enter Try.func22, Try.ntmps22
    go_wp2
    all_goals go_ret
    all_goals exact ⟨rfl, Below.refl _ _⟩
set_option maxHeartbeats 4000000 in
theorem trim_ok {B g : Nat} {v : Value} {l : List PB.S45} {st nx mk : Int} {w : World} (h : PS B g v l st nx mk w) (a : Int) (h1 : ¬ a < st) (h2 : ¬ nx < a) (hl : l.length ≤ 60000) (hs : risen l) :
    Calls Try.prog 22 #[.pointer (some ⟨g, 0, none⟩), .int .i64 a] w fun e w' => e = .returned (.int .i64 0) ∧ ∃ m : Nat, cutAt l a m ∧ ∃ v' : Value, PS B g v' (l.drop m) a nx (max mk a) w' ∧ Fr g v w w' ∧ Nw v v' w := by
  obtain ⟨A, c, rfl, hc, hC⟩ := h.len
  have q0 := blk_cell h.blk 0
  have q1 := blk_cell h.blk 1
  have q2 := blk_cell h.blk 2
  simp at q0 q1 q2
  have e1 : decide (a < st) = false := decide_eq_false h1
  have e2 : decide (a > nx) = false := decide_eq_false h2
  obtain ⟨i0, hi, hz⟩ := Option.map_eq_some_iff.1 info45
  have hz8 : i0.size = 8 := by simp only [Prod.mk.injEq] at hz; exact hz.2.1
  clear hz
  have H := Lib.hid h
  go_enter Try.func22, Try.ntmps22
  go_upto_region 5 with (fail)
  have q0d : w.drew.cell? ⟨g, 0, none⟩ = some (.slice A l.length c) := q0
  clear h hC q0
  go_region_with (first
    | (go_at_call 36; refine (find_any H.out.drew a hl hs).mono ?_; rintro e w4 ⟨⟨m, rfl, hm⟩, b4⟩; have hp4 := H.out.drew.below b4; have c4 : w4.cell? ⟨g, 0, none⟩ = some (.slice A l.length c) := (blk_cell hp4.blk 0).trans rfl; have kc := cut_from (P := Try.prog) 22 45 .i64 Try.underlying22 hi 8 hz8 A l.length c (m : Int) (by omega) (by have := hm.1; omega); rw [Int.toNat_natCast] at kc; obtain ⟨A1, hA1⟩ : ∃ A1, A1 = (if c = m then A else A.map (·.add (m * 8))) := ⟨_, rfl⟩; rw [← hA1] at kc; obtain ⟨d, hd⟩ : ∃ d, d = l.drop m := ⟨_, rfl⟩; have hdl : d.length = l.length - m := (congrArg List.length hd).trans List.length_drop; rw [← hdl] at kc; have hD : RowKit.Hid (Kd.C PB.k45 w4 A1 d.length d) := Lib.hid (by (subst hd; subst hA1; exact Kd.C_drop (m := m) hp4.read hm.1 hc)); have hlc : d.length ≤ c - m := (by omega); have hl6 : d.length ≤ 60000 := (by omega); have HDD := Lib.hid hd; clear hd hdl hA1)
    | (go_at_call 28; refine (clone_any A1 (c - m) d _ hD.out hlc hl6).mono ?_; rintro e w5 ⟨u, rfl, hR, b5⟩; obtain ⟨A3, c3, rfl⟩ := Kd.R_slice hR; have hp5 := hp4.below b5; have c5 : w5.cell? ⟨g, 0, none⟩ = some (.slice A l.length c) := (blk_cell hp5.blk 0).trans rfl; have f5 := blk_free hp5.blk 0))
  all_goals
    have B5 := Lib.hid (below_two (below_two (Below.refl _ w).drew b4) b5)
    have R5 := Lib.hid hR
    have K5 := Lib.hid hp5
    have hsz := b4.size
    have HM := Lib.hid hm
    have g1 := (blk_cell hp5.blk 1).trans rfl
    have g2 := (blk_cell hp5.blk 2).trans rfl
    have g3 := (blk_cell hp5.blk 3).trans rfl
    have k1 := blk_free hp5.blk 1
    have k3 := blk_free hp5.blk 3
    clear kc hD hR b4 b5 hp4 hp5 hm q0d c4 c5
    go_wp2
    all_goals
      go_ret
      obtain rfl := HDD.out
      refine ⟨rfl, m, HM.out, .slice A3 (l.drop m).length c3, ⟨?_, H.out.lo, Kd.R_far (Kd.R_far (Kd.R_far (newRow R5.out (Nat.le_trans H.out.lo (Nat.le_trans (Nat.le_of_lt (blk_lt H.out.blk)) hsz)) (Nat.lt_of_lt_of_le (blk_lt H.out.blk) hsz)) (fun k hk => hk) _) (fun k hk => hk) _) (fun k hk => hk) _⟩, ?_, newOwn R5.out hsz⟩
      · have e := heap_set (heap_set (heap_set K5.out.blk (i := 0) (.slice A3 (l.drop m).length c3)) (i := 1) (.int .i64 a)) (i := 3) (.int .i64 (max mk a))
        first
          | exact e
          | (rw [show max mk a = mk by omega] at e ⊢; exact e)
          | (rw [show max mk a = a by omega] at e ⊢; exact e)
      · exact Fr.set (Fr.set (Fr.set ((Fr.refl g _ w).below B5.out) _ _) _ _) _ _
end Go.Proofs.Ytmkipdleggkkkaa.Own
/- The walks of Replace. -/
namespace Go.Proofs.Ytmkipdleggkkkaa.Own
open Go.RowKit Go.Proofs.YtmkipdleggkkkaaW.PrintWords Go.Proofs.YtmkipdleggkkkaaW.PrintLast Go.Proofs.YtmkipdleggkkkaaW.PrintMore
set_option maxRecDepth 100000
set_option linter.unusedSimpArgs false
set_option linter.unusedVariables false
def S1 (a : Addr) (u : Value) (w0 w : World) : Prop := w.cell? a = some u ∧ Below w0.heap.size w0 w
theorem S1.drew {a : Addr} {u : Value} {w0 w : World} (h : S1 a u w0 w) : S1 a u w0 w.drew := ⟨h.1, h.2.drew⟩
theorem S1.below {a : Addr} {u : Value} {w0 w w1 : World} (h : S1 a u w0 w) (hb : Below w.heap.size w w1) : S1 a u w0 w1 := ⟨(hb.cell (World.block_lt_of_cell? _ _ h.1)).trans h.1, below_two h.2 hb⟩
theorem S1.bel {a : Addr} {u : Value} {w0 w : World} (h : S1 a u w0 w) : Below w0.heap.size w0 w := h.2
def S3 (a : Addr) (u : Value) (a2 : Addr) (u2 : Value) (a3 : Addr) (u3 : Value) (w0 w : World) : Prop := w.cell? a = some u ∧ w.cell? a2 = some u2 ∧ w.cell? a3 = some u3 ∧ Below w0.heap.size w0 w
theorem S3.drew {a a2 a3 : Addr} {u u2 u3 : Value} {w0 w : World} (h : S3 a u a2 u2 a3 u3 w0 w) : S3 a u a2 u2 a3 u3 w0 w.drew := ⟨h.1, h.2.1, h.2.2.1, h.2.2.2.drew⟩
theorem S3.below {a a2 a3 : Addr} {u u2 u3 : Value} {w0 w w1 : World} (h : S3 a u a2 u2 a3 u3 w0 w) (hb : Below w.heap.size w w1) : S3 a u a2 u2 a3 u3 w0 w1 :=
  ⟨(hb.cell (World.block_lt_of_cell? _ _ h.1)).trans h.1, (hb.cell (World.block_lt_of_cell? _ _ h.2.1)).trans h.2.1, (hb.cell (World.block_lt_of_cell? _ _ h.2.2.1)).trans h.2.2.1, below_two h.2.2.2 hb⟩
theorem S3.bel {a a2 a3 : Addr} {u u2 u3 : Value} {w0 w : World} (h : S3 a u a2 u2 a3 u3 w0 w) : Below w0.heap.size w0 w := h.2.2.2
theorem replace_bad (B g : Nat) (v : Value) (l : List PB.S45) (st nx mk : Int) (A : Option Addr) (c : Nat) (xs : List PB.S45) (w : World) (h : PS B g v l st nx mk w) (hr : Kd.C PB.k45 w A xs.length xs) (hc : xs.length ≤ c) (hl : xs.length ≤ 60000)
    (hb : decide (∃ x ∈ xs, PuB.mayB x = false) = true) :
    Calls Try.prog 23 #[.pointer (some ⟨g, 0, none⟩), .slice A xs.length c] w fun e w' => e = .returned (.int .i64 1) ∧ Below w.heap.size w w' := by
  go_enter Try.func23, Try.ntmps23
  go_wp2_with fail
  refine (contains_any A c xs _ hr hc hl).mono ?_
  rintro e w2 ⟨rfl, b2⟩
  rw [hb]
  go_wp2
  go_ret
  exact ⟨rfl, b2⟩
theorem replace_low (B g : Nat) (v : Value) (l : List PB.S45) (st nx mk : Int) (A : Option Addr) (c : Nat) (xs : List PB.S45) (w : World) (h : PS B g v l st nx mk w) (hr : Kd.C PB.k45 w A xs.length xs) (hc : xs.length ≤ c) (hl : xs.length ≤ 60000)
    (hb : decide (∃ x ∈ xs, PuB.mayB x = false) = false) (hi : riseB xs st = false) :
    Calls Try.prog 23 #[.pointer (some ⟨g, 0, none⟩), .slice A xs.length c] w fun e w' => e = .returned (.int .i64 34) ∧ Below w.heap.size w w' := by
  go_enter Try.func23, Try.ntmps23
  go_wp2_with fail
  refine (contains_any A c xs _ hr hc hl).mono ?_
  rintro e w2 ⟨rfl, b2⟩
  rw [hb]
  have hS : S1 ⟨g, 1, none⟩ (.int .i64 st) w2 w2 := ⟨(blk_cell (h.below b2).blk 1).trans rfl, Below.refl _ _⟩
  have HR := Lib.hid (Kd.C_below hr b2)
  have H := Lib.hid (h.below b2)
  have B2 := Lib.hid b2
  clear h hr b2
  go_wp2_with fail
  refine wp_region_held_drew (S := S1 ⟨g, 1, none⟩ (.int .i64 st) w2) (by kernel_rfl) (hS.drew) (fun hHeld => ?_)
  refine wpAnyH_take (i := 0) (oi := { dst := some 12, op := Op.move (Operand.tmp 1), type := 22, pos := "part.go:78", after := #[], guard := none }) (v := ?_) rfl (by kernel_rfl) (by kernel_rfl) (by kernel_rfl) (fun _ _ _ h => h) (Or.inl ⟨by rfl, ?_⟩) hHeld ?_; rotate_left 1; (intro w9 hSw; obtain ⟨q1, _⟩ := hSw; go_simp; first | done | with_reducible rfl); (try simp only [Act.put, List.setIfInBounds_toArray, List.set_cons_zero, List.set_cons_succ])
  refine wpAnyH_take (i := 1) (oi := { dst := some 13, op := Op.move (Operand.tmp 0), type := 24, pos := "part.go:78", after := #[], guard := none }) (v := ?_) rfl (by kernel_rfl) (by kernel_rfl) (by kernel_rfl) (fun _ _ _ h => h) (Or.inl ⟨by rfl, ?_⟩) hHeld ?_; rotate_left 1; (intro w9 hSw; obtain ⟨q1, _⟩ := hSw; go_simp; first | done | with_reducible rfl); (try simp only [Act.put, List.setIfInBounds_toArray, List.set_cons_zero, List.set_cons_succ])
  refine wpAnyH_take (i := 2) (oi := { dst := some 14, op := Op.nilCheck (Operand.tmp 13), type := 0, pos := "part.go:78", after := #[{ on := 1, ground := Ground.data }], guard := none }) (v := ?_) rfl (by kernel_rfl) (by kernel_rfl) (by kernel_rfl) (fun _ _ _ h => h) (Or.inl ⟨by rfl, ?_⟩) hHeld ?_; rotate_left 1; (intro w9 hSw; obtain ⟨q1, _⟩ := hSw; go_simp; first | done | with_reducible rfl); (try simp only [Act.put, List.setIfInBounds_toArray, List.set_cons_zero, List.set_cons_succ])
  refine wpAnyH_take (i := 3) (oi := { dst := some 15, op := Op.fieldAddr 53 (Operand.tmp 14) 1, type := 0, pos := "part.go:78", after := #[{ on := 2, ground := Ground.data }], guard := none }) (v := ?_) rfl (by kernel_rfl) (by kernel_rfl) (by kernel_rfl) (fun _ _ _ h => h) (Or.inl ⟨by rfl, ?_⟩) hHeld ?_; rotate_left 1; (intro w9 hSw; obtain ⟨q1, _⟩ := hSw; go_simp; first | done | with_reducible rfl); (try simp only [Act.put, List.setIfInBounds_toArray, List.set_cons_zero, List.set_cons_succ])
  refine wpAnyH_take (i := 4) (oi := { dst := some 16, op := Op.load 3 (Operand.tmp 15), type := 3, pos := "part.go:78", after := #[{ on := 3, ground := Ground.data }], guard := none }) (v := ?_) rfl (by kernel_rfl) (by kernel_rfl) (by kernel_rfl) (fun _ _ _ h => h) (Or.inl ⟨by rfl, ?_⟩) hHeld ?_; rotate_left 1; (intro w9 hSw; obtain ⟨q1, _⟩ := hSw; go_simp; first | done | with_reducible rfl); (try simp only [Act.put, List.setIfInBounds_toArray, List.set_cons_zero, List.set_cons_succ])
  refine wpAnyH_ready (rs := [5]) (by kernel_rfl) (by simp) ?_; refine AllReadyH.cons (o := { dst := some 17, op := Op.call { callee := Callee.value (Operand.func 27), args := #[Operand.tmp 12, Operand.tmp 16], argTypes := #[22, 3] }, type := 4, pos := "part.go:78", after := #[{ on := 0, ground := Ground.data }, { on := 4, ground := Ground.data }], guard := none }) rfl (fun K hK => ?_) AllReadyH.nil; go_simp; refine (rise_any A c xs st _ (Kd.C_below HR.out hHeld.bel) hc hl).mono ?_; rintro e w4 ⟨rfl, bel⟩; rw [hi]; (try go_wp2_with fail); refine hK.out _ _ (hHeld.below bel) (fun hHeld => ?_); clear hK; (try simp only [Act.put, List.setIfInBounds_toArray, List.set_cons_zero, List.set_cons_succ])
  refine wpAnyH_take (i := 6) (oi := { dst := some 18, op := Op.unOp UnOp.not 4 (Operand.tmp 17), type := 4, pos := "part.go:78", after := #[{ on := 5, ground := Ground.data }], guard := none }) (v := ?_) rfl (by kernel_rfl) (by kernel_rfl) (by kernel_rfl) (fun _ _ _ h => h) (Or.inl ⟨by rfl, ?_⟩) hHeld ?_; rotate_left 1; (intro w9 hSw; obtain ⟨q1, _⟩ := hSw; go_simp; first | done | with_reducible rfl); (try simp only [Act.put, List.setIfInBounds_toArray, List.set_cons_zero, List.set_cons_succ])
  refine wpAnyH_take (i := 7) (oi := { dst := some 19, op := Op.move (Operand.tmp 18), type := 4, pos := "part.go:78", after := #[{ on := 6, ground := Ground.data }, { on := 5, ground := Ground.chain }], guard := none }) (v := ?_) rfl (by kernel_rfl) (by kernel_rfl) (by kernel_rfl) (fun _ _ _ h => h) (Or.inl ⟨by rfl, ?_⟩) hHeld ?_; rotate_left 1; (intro w9 hSw; obtain ⟨q1, _⟩ := hSw; go_simp; first | done | with_reducible rfl); (try simp only [Act.put, List.setIfInBounds_toArray, List.set_cons_zero, List.set_cons_succ])
  refine wpAnyH_take (i := 8) (oi := { dst := some 20, op := Op.move (Operand.tmp 1), type := 22, pos := "part.go:78", after := #[{ on := 7, ground := Ground.guard }], guard := some (7, false) }) (v := undef) rfl (by kernel_rfl) (by kernel_rfl) (by kernel_rfl) (fun _ _ _ h => h) (Or.inr ⟨by rfl, rfl⟩) hHeld ?_; (try simp only [Act.put, List.setIfInBounds_toArray, List.set_cons_zero, List.set_cons_succ])
  refine wpAnyH_take (i := 9) (oi := { dst := some 21, op := Op.call { callee := Callee.builtin Builtin.len, args := #[Operand.tmp 20], argTypes := #[22] }, type := 3, pos := "part.go:78", after := #[{ on := 8, ground := Ground.data }, { on := 7, ground := Ground.guard }], guard := some (7, false) }) (v := undef) rfl (by kernel_rfl) (by kernel_rfl) (by kernel_rfl) (fun _ _ _ h => h) (Or.inr ⟨by rfl, rfl⟩) hHeld ?_; (try simp only [Act.put, List.setIfInBounds_toArray, List.set_cons_zero, List.set_cons_succ])
  refine wpAnyH_take (i := 10) (oi := { dst := some 22, op := Op.binOp BinOp.gtr 3 (Operand.tmp 21) (Operand.const (Value.int IntKind.i64 0)) 3, type := 4, pos := "part.go:78", after := #[{ on := 9, ground := Ground.data }, { on := 7, ground := Ground.guard }], guard := some (7, false) }) (v := undef) rfl (by kernel_rfl) (by kernel_rfl) (by kernel_rfl) (fun _ _ _ h => h) (Or.inr ⟨by rfl, rfl⟩) hHeld ?_; (try simp only [Act.put, List.setIfInBounds_toArray, List.set_cons_zero, List.set_cons_succ])
  refine wpAnyH_take (i := 11) (oi := { dst := some 23, op := Op.move (Operand.tmp 22), type := 4, pos := "part.go:78", after := #[{ on := 10, ground := Ground.data }, { on := 7, ground := Ground.chain }, { on := 7, ground := Ground.guard }], guard := some (7, false) }) (v := undef) rfl (by kernel_rfl) (by kernel_rfl) (by kernel_rfl) (fun _ _ _ h => h) (Or.inr ⟨by rfl, rfl⟩) hHeld ?_; (try simp only [Act.put, List.setIfInBounds_toArray, List.set_cons_zero, List.set_cons_succ])
  refine wpAnyH_take (i := 12) (oi := { dst := some 24, op := Op.move (Operand.tmp 1), type := 22, pos := "part.go:78", after := #[{ on := 11, ground := Ground.guard }], guard := some (11, true) }) (v := undef) rfl (by kernel_rfl) (by kernel_rfl) (by kernel_rfl) (fun _ _ _ h => h) (Or.inr ⟨by rfl, rfl⟩) hHeld ?_; (try simp only [Act.put, List.setIfInBounds_toArray, List.set_cons_zero, List.set_cons_succ])
  refine wpAnyH_take (i := 13) (oi := { dst := some 25, op := Op.move (Operand.tmp 1), type := 22, pos := "part.go:78", after := #[{ on := 11, ground := Ground.guard }], guard := some (11, true) }) (v := undef) rfl (by kernel_rfl) (by kernel_rfl) (by kernel_rfl) (fun _ _ _ h => h) (Or.inr ⟨by rfl, rfl⟩) hHeld ?_; (try simp only [Act.put, List.setIfInBounds_toArray, List.set_cons_zero, List.set_cons_succ])
  refine wpAnyH_take (i := 14) (oi := { dst := some 26, op := Op.call { callee := Callee.builtin Builtin.len, args := #[Operand.tmp 25], argTypes := #[22] }, type := 3, pos := "part.go:78", after := #[{ on := 13, ground := Ground.data }, { on := 11, ground := Ground.guard }], guard := some (11, true) }) (v := undef) rfl (by kernel_rfl) (by kernel_rfl) (by kernel_rfl) (fun _ _ _ h => h) (Or.inr ⟨by rfl, rfl⟩) hHeld ?_; (try simp only [Act.put, List.setIfInBounds_toArray, List.set_cons_zero, List.set_cons_succ])
  refine wpAnyH_take (i := 15) (oi := { dst := some 27, op := Op.binOp BinOp.sub 3 (Operand.tmp 26) (Operand.const (Value.int IntKind.i64 1)) 3, type := 3, pos := "part.go:78", after := #[{ on := 14, ground := Ground.data }, { on := 11, ground := Ground.guard }], guard := some (11, true) }) (v := undef) rfl (by kernel_rfl) (by kernel_rfl) (by kernel_rfl) (fun _ _ _ h => h) (Or.inr ⟨by rfl, rfl⟩) hHeld ?_; (try simp only [Act.put, List.setIfInBounds_toArray, List.set_cons_zero, List.set_cons_succ])
  refine wpAnyH_take (i := 16) (oi := { dst := some 28, op := Op.indexAddr 22 (Operand.tmp 24) (Operand.tmp 27), type := 0, pos := "part.go:78", after := #[{ on := 12, ground := Ground.data }, { on := 15, ground := Ground.data }, { on := 11, ground := Ground.guard }], guard := some (11, true) }) (v := undef) rfl (by kernel_rfl) (by kernel_rfl) (by kernel_rfl) (fun _ _ _ h => h) (Or.inr ⟨by rfl, rfl⟩) hHeld ?_; (try simp only [Act.put, List.setIfInBounds_toArray, List.set_cons_zero, List.set_cons_succ])
  refine wpAnyH_take (i := 17) (oi := { dst := some 29, op := Op.fieldAddr 45 (Operand.tmp 28) 0, type := 0, pos := "part.go:78", after := #[{ on := 16, ground := Ground.data }, { on := 11, ground := Ground.guard }], guard := some (11, true) }) (v := undef) rfl (by kernel_rfl) (by kernel_rfl) (by kernel_rfl) (fun _ _ _ h => h) (Or.inr ⟨by rfl, rfl⟩) hHeld ?_; (try simp only [Act.put, List.setIfInBounds_toArray, List.set_cons_zero, List.set_cons_succ])
  refine wpAnyH_take (i := 18) (oi := { dst := some 30, op := Op.load 3 (Operand.tmp 29), type := 3, pos := "part.go:78", after := #[{ on := 17, ground := Ground.data }, { on := 11, ground := Ground.guard }], guard := some (11, true) }) (v := undef) rfl (by kernel_rfl) (by kernel_rfl) (by kernel_rfl) (fun _ _ _ h => h) (Or.inr ⟨by rfl, rfl⟩) hHeld ?_; (try simp only [Act.put, List.setIfInBounds_toArray, List.set_cons_zero, List.set_cons_succ])
  refine wpAnyH_take (i := 19) (oi := { dst := some 31, op := Op.move (Operand.tmp 0), type := 24, pos := "part.go:78", after := #[{ on := 11, ground := Ground.guard }], guard := some (11, true) }) (v := undef) rfl (by kernel_rfl) (by kernel_rfl) (by kernel_rfl) (fun _ _ _ h => h) (Or.inr ⟨by rfl, rfl⟩) hHeld ?_; (try simp only [Act.put, List.setIfInBounds_toArray, List.set_cons_zero, List.set_cons_succ])
  refine wpAnyH_take (i := 20) (oi := { dst := some 32, op := Op.nilCheck (Operand.tmp 31), type := 0, pos := "part.go:78", after := #[{ on := 19, ground := Ground.data }, { on := 11, ground := Ground.guard }], guard := some (11, true) }) (v := undef) rfl (by kernel_rfl) (by kernel_rfl) (by kernel_rfl) (fun _ _ _ h => h) (Or.inr ⟨by rfl, rfl⟩) hHeld ?_; (try simp only [Act.put, List.setIfInBounds_toArray, List.set_cons_zero, List.set_cons_succ])
  refine wpAnyH_take (i := 21) (oi := { dst := some 33, op := Op.fieldAddr 53 (Operand.tmp 32) 2, type := 0, pos := "part.go:78", after := #[{ on := 20, ground := Ground.data }, { on := 11, ground := Ground.guard }], guard := some (11, true) }) (v := undef) rfl (by kernel_rfl) (by kernel_rfl) (by kernel_rfl) (fun _ _ _ h => h) (Or.inr ⟨by rfl, rfl⟩) hHeld ?_; (try simp only [Act.put, List.setIfInBounds_toArray, List.set_cons_zero, List.set_cons_succ])
  refine wpAnyH_take (i := 22) (oi := { dst := some 34, op := Op.load 3 (Operand.tmp 33), type := 3, pos := "part.go:78", after := #[{ on := 21, ground := Ground.data }, { on := 11, ground := Ground.guard }], guard := some (11, true) }) (v := undef) rfl (by kernel_rfl) (by kernel_rfl) (by kernel_rfl) (fun _ _ _ h => h) (Or.inr ⟨by rfl, rfl⟩) hHeld ?_; (try simp only [Act.put, List.setIfInBounds_toArray, List.set_cons_zero, List.set_cons_succ])
  refine wpAnyH_take (i := 23) (oi := { dst := some 35, op := Op.binOp BinOp.geq 3 (Operand.tmp 30) (Operand.tmp 34) 3, type := 4, pos := "part.go:78", after := #[{ on := 18, ground := Ground.data }, { on := 22, ground := Ground.data }, { on := 11, ground := Ground.guard }], guard := some (11, true) }) (v := undef) rfl (by kernel_rfl) (by kernel_rfl) (by kernel_rfl) (fun _ _ _ h => h) (Or.inr ⟨by rfl, rfl⟩) hHeld ?_; (try simp only [Act.put, List.setIfInBounds_toArray, List.set_cons_zero, List.set_cons_succ])
  refine wpAnyH_take (i := 24) (oi := { dst := some 36, op := Op.pick (Operand.tmp 23) (Operand.tmp 35) (Operand.const (Value.bool false)), type := 4, pos := "part.go:78", after := #[{ on := 11, ground := Ground.data }, { on := 23, ground := Ground.data }, { on := 7, ground := Ground.guard }], guard := some (7, false) }) (v := undef) rfl (by kernel_rfl) (by kernel_rfl) (by kernel_rfl) (fun _ _ _ h => h) (Or.inr ⟨by rfl, rfl⟩) hHeld ?_; (try simp only [Act.put, List.setIfInBounds_toArray, List.set_cons_zero, List.set_cons_succ])
  refine wpAnyH_take (i := 25) (oi := { dst := some 37, op := Op.pick (Operand.tmp 19) (Operand.const (Value.bool true)) (Operand.tmp 36), type := 4, pos := "part.go:78", after := #[{ on := 7, ground := Ground.data }, { on := 24, ground := Ground.data }], guard := none }) (v := ?_) rfl (by kernel_rfl) (by kernel_rfl) (by kernel_rfl) (fun _ _ _ h => h) (Or.inl ⟨by rfl, ?_⟩) hHeld ?_; rotate_left 1; (intro w9 hSw; obtain ⟨q1, _⟩ := hSw; go_simp; first | done | with_reducible rfl); (try simp only [Act.put, List.setIfInBounds_toArray, List.set_cons_zero, List.set_cons_succ])
  refine wpAnyH_take (i := 26) (oi := { dst := some 11, op := Op.assign (Operand.tmp 37), type := 4, pos := "part.go:78", after := #[{ on := 25, ground := Ground.data }, { on := 11, ground := Ground.chain }], guard := none }) (v := ?_) rfl (by kernel_rfl) (by kernel_rfl) (by kernel_rfl) (fun _ _ _ h => h) (Or.inl ⟨by rfl, ?_⟩) hHeld ?_; rotate_left 1; (intro w9 hSw; obtain ⟨q1, _⟩ := hSw; go_simp; first | done | with_reducible rfl); (try simp only [Act.put, List.setIfInBounds_toArray, List.set_cons_zero, List.set_cons_succ])
  refine wpAnyH_done (by kernel_rfl) ?_ _
  have B3 := Lib.hid (below_two B2.out hHeld.bel)
  clear hHeld
  go_wp2
  go_ret
  exact ⟨rfl, B3.out⟩
theorem replace_over (B g : Nat) (v : Value) (l : List PB.S45) (st nx mk : Int) (A : Option Addr) (c : Nat) (xs : List PB.S45) (w : World) (h : PS B g v l st nx mk w) (hr : Kd.C PB.k45 w A xs.length xs) (hc : xs.length ≤ c) (hl : xs.length ≤ 60000)
    (hb : decide (∃ x ∈ xs, PuB.mayB x = false) = false) (hi : riseB xs st = true) (h0 : 0 < xs.length) (hx : nx ≤ (PB.rd_T45 xs ((xs.length - 1 : Nat) : Int)).f0) :
    Calls Try.prog 23 #[.pointer (some ⟨g, 0, none⟩), .slice A xs.length c] w fun e w' => e = .returned (.int .i64 34) ∧ Below w.heap.size w w' := by
  go_enter Try.func23, Try.ntmps23
  go_wp2_with fail
  refine (contains_any A c xs _ hr hc hl).mono ?_
  rintro e w2 ⟨rfl, b2⟩
  rw [hb]
  have z1 : wrap64 ((xs.length : Int) - 1) = ((xs.length - 1 : Nat) : Int) := by unfold wrap64; omega
  have zw : IntKind.i64.wrap ((xs.length - 1 : Nat) : Int) = ((xs.length - 1 : Nat) : Int) := by rw [i64_w]; unfold wrap64; omega
  have z2 : (xs.length : Int) - 1 = ((xs.length - 1 : Nat) : Int) := by omega
  have z3 : (xs.length : Int) > 0 := by omega
  have z4 : ((xs.length - 1 : Nat) : Int) < (xs.length : Int) := by omega
  have z5 : (0 : Int) ≤ ((xs.length - 1 : Nat) : Int) := Int.natCast_nonneg _
  have z6 : decide ((xs.length : Int) > 0) = true := decide_eq_true z3
  have HR := Lib.hid (Kd.C_below hr b2)
  obtain ⟨ad, ea, x0, _⟩ := PB.at_T45 HR.out ((xs.length - 1 : Nat) : Int) z5 z4
  cases ea
  rw [Int.toNat_natCast] at x0
  obtain ⟨y, hy⟩ : ∃ y, y = (PB.rd_T45 xs ((xs.length - 1 : Nat) : Int)).f0 := ⟨_, rfl⟩
  rw [← hy] at x0 hx
  clear hy
  have z7 : decide (y ≥ nx) = true := decide_eq_true hx
  have hS : S3 ⟨g, 1, none⟩ (.int .i64 st) ⟨g, 2, none⟩ (.int .i64 nx) (ad.add ((xs.length - 1) * 8)) (.int .i64 y) w2 w2 := ⟨(blk_cell (h.below b2).blk 1).trans rfl, (blk_cell (h.below b2).blk 2).trans rfl, x0, Below.refl _ _⟩
  have H := Lib.hid (h.below b2)
  have B2 := Lib.hid b2
  clear h hr b2 x0
  go_wp2_with fail
  refine wp_region_held_drew (S := S3 ⟨g, 1, none⟩ (.int .i64 st) ⟨g, 2, none⟩ (.int .i64 nx) (ad.add ((xs.length - 1) * 8)) (.int .i64 y) w2) (by kernel_rfl) (hS.drew) (fun hHeld => ?_)
  refine wpAnyH_take (i := 0) (oi := { dst := some 12, op := Op.move (Operand.tmp 1), type := 22, pos := "part.go:78", after := #[], guard := none }) (v := ?_) rfl (by kernel_rfl) (by kernel_rfl) (by kernel_rfl) (fun _ _ _ h => h) (Or.inl ⟨by rfl, ?_⟩) hHeld ?_; rotate_left 1; (intro w9 hSw; obtain ⟨q1, q2, x0, _⟩ := hSw; go_simp; first | done | with_reducible rfl); (try simp only [Act.put, List.setIfInBounds_toArray, List.set_cons_zero, List.set_cons_succ])
  refine wpAnyH_take (i := 1) (oi := { dst := some 13, op := Op.move (Operand.tmp 0), type := 24, pos := "part.go:78", after := #[], guard := none }) (v := ?_) rfl (by kernel_rfl) (by kernel_rfl) (by kernel_rfl) (fun _ _ _ h => h) (Or.inl ⟨by rfl, ?_⟩) hHeld ?_; rotate_left 1; (intro w9 hSw; obtain ⟨q1, q2, x0, _⟩ := hSw; go_simp; first | done | with_reducible rfl); (try simp only [Act.put, List.setIfInBounds_toArray, List.set_cons_zero, List.set_cons_succ])
  refine wpAnyH_take (i := 2) (oi := { dst := some 14, op := Op.nilCheck (Operand.tmp 13), type := 0, pos := "part.go:78", after := #[{ on := 1, ground := Ground.data }], guard := none }) (v := ?_) rfl (by kernel_rfl) (by kernel_rfl) (by kernel_rfl) (fun _ _ _ h => h) (Or.inl ⟨by rfl, ?_⟩) hHeld ?_; rotate_left 1; (intro w9 hSw; obtain ⟨q1, q2, x0, _⟩ := hSw; go_simp; first | done | with_reducible rfl); (try simp only [Act.put, List.setIfInBounds_toArray, List.set_cons_zero, List.set_cons_succ])
  refine wpAnyH_take (i := 3) (oi := { dst := some 15, op := Op.fieldAddr 53 (Operand.tmp 14) 1, type := 0, pos := "part.go:78", after := #[{ on := 2, ground := Ground.data }], guard := none }) (v := ?_) rfl (by kernel_rfl) (by kernel_rfl) (by kernel_rfl) (fun _ _ _ h => h) (Or.inl ⟨by rfl, ?_⟩) hHeld ?_; rotate_left 1; (intro w9 hSw; obtain ⟨q1, q2, x0, _⟩ := hSw; go_simp; first | done | with_reducible rfl); (try simp only [Act.put, List.setIfInBounds_toArray, List.set_cons_zero, List.set_cons_succ])
  refine wpAnyH_take (i := 4) (oi := { dst := some 16, op := Op.load 3 (Operand.tmp 15), type := 3, pos := "part.go:78", after := #[{ on := 3, ground := Ground.data }], guard := none }) (v := ?_) rfl (by kernel_rfl) (by kernel_rfl) (by kernel_rfl) (fun _ _ _ h => h) (Or.inl ⟨by rfl, ?_⟩) hHeld ?_; rotate_left 1; (intro w9 hSw; obtain ⟨q1, q2, x0, _⟩ := hSw; go_simp; first | done | with_reducible rfl); (try simp only [Act.put, List.setIfInBounds_toArray, List.set_cons_zero, List.set_cons_succ])
  refine wpAnyH_ready (rs := [5]) (by kernel_rfl) (by simp) ?_; refine AllReadyH.cons (o := { dst := some 17, op := Op.call { callee := Callee.value (Operand.func 27), args := #[Operand.tmp 12, Operand.tmp 16], argTypes := #[22, 3] }, type := 4, pos := "part.go:78", after := #[{ on := 0, ground := Ground.data }, { on := 4, ground := Ground.data }], guard := none }) rfl (fun K hK => ?_) AllReadyH.nil; go_simp; refine (rise_any _ c xs st _ (Kd.C_below HR.out hHeld.bel) hc hl).mono ?_; rintro e w4 ⟨rfl, bel⟩; rw [hi]; (try go_wp2_with fail); refine hK.out _ _ (hHeld.below bel) (fun hHeld => ?_); clear hK; (try simp only [Act.put, List.setIfInBounds_toArray, List.set_cons_zero, List.set_cons_succ])
  refine wpAnyH_take (i := 6) (oi := { dst := some 18, op := Op.unOp UnOp.not 4 (Operand.tmp 17), type := 4, pos := "part.go:78", after := #[{ on := 5, ground := Ground.data }], guard := none }) (v := ?_) rfl (by kernel_rfl) (by kernel_rfl) (by kernel_rfl) (fun _ _ _ h => h) (Or.inl ⟨by rfl, ?_⟩) hHeld ?_; rotate_left 1; (intro w9 hSw; obtain ⟨q1, q2, x0, _⟩ := hSw; go_simp; first | done | with_reducible rfl); (try simp only [Act.put, List.setIfInBounds_toArray, List.set_cons_zero, List.set_cons_succ])
  refine wpAnyH_take (i := 7) (oi := { dst := some 19, op := Op.move (Operand.tmp 18), type := 4, pos := "part.go:78", after := #[{ on := 6, ground := Ground.data }, { on := 5, ground := Ground.chain }], guard := none }) (v := ?_) rfl (by kernel_rfl) (by kernel_rfl) (by kernel_rfl) (fun _ _ _ h => h) (Or.inl ⟨by rfl, ?_⟩) hHeld ?_; rotate_left 1; (intro w9 hSw; obtain ⟨q1, q2, x0, _⟩ := hSw; go_simp; first | done | with_reducible rfl); (try simp only [Act.put, List.setIfInBounds_toArray, List.set_cons_zero, List.set_cons_succ])
  refine wpAnyH_take (i := 8) (oi := { dst := some 20, op := Op.move (Operand.tmp 1), type := 22, pos := "part.go:78", after := #[{ on := 7, ground := Ground.guard }], guard := some (7, false) }) (v := ?_) rfl (by kernel_rfl) (by kernel_rfl) (by kernel_rfl) (fun _ _ _ h => h) (Or.inl ⟨by rfl, ?_⟩) hHeld ?_; rotate_left 1; (intro w9 hSw; obtain ⟨q1, q2, x0, _⟩ := hSw; go_simp; first | done | with_reducible rfl); (try simp only [Act.put, List.setIfInBounds_toArray, List.set_cons_zero, List.set_cons_succ])
  refine wpAnyH_take (i := 9) (oi := { dst := some 21, op := Op.call { callee := Callee.builtin Builtin.len, args := #[Operand.tmp 20], argTypes := #[22] }, type := 3, pos := "part.go:78", after := #[{ on := 8, ground := Ground.data }, { on := 7, ground := Ground.guard }], guard := some (7, false) }) (v := ?_) rfl (by kernel_rfl) (by kernel_rfl) (by kernel_rfl) (fun _ _ _ h => h) (Or.inl ⟨by rfl, ?_⟩) hHeld ?_; rotate_left 1; (intro w9 hSw; obtain ⟨q1, q2, x0, _⟩ := hSw; go_simp; first | done | with_reducible rfl); (try simp only [Act.put, List.setIfInBounds_toArray, List.set_cons_zero, List.set_cons_succ])
  refine wpAnyH_take (i := 10) (oi := { dst := some 22, op := Op.binOp BinOp.gtr 3 (Operand.tmp 21) (Operand.const (Value.int IntKind.i64 0)) 3, type := 4, pos := "part.go:78", after := #[{ on := 9, ground := Ground.data }, { on := 7, ground := Ground.guard }], guard := some (7, false) }) (v := ?_) rfl (by kernel_rfl) (by kernel_rfl) (by kernel_rfl) (fun _ _ _ h => h) (Or.inl ⟨by rfl, ?_⟩) hHeld ?_; rotate_left 1; (intro w9 hSw; obtain ⟨q1, q2, x0, _⟩ := hSw; go_simp; first | done | with_reducible rfl); (try simp only [Act.put, List.setIfInBounds_toArray, List.set_cons_zero, List.set_cons_succ])
  refine wpAnyH_take (i := 11) (oi := { dst := some 23, op := Op.move (Operand.tmp 22), type := 4, pos := "part.go:78", after := #[{ on := 10, ground := Ground.data }, { on := 7, ground := Ground.chain }, { on := 7, ground := Ground.guard }], guard := some (7, false) }) (v := ?_) rfl (by kernel_rfl) (by kernel_rfl) (by kernel_rfl) (fun _ _ _ h => h) (Or.inl ⟨by rfl, ?_⟩) hHeld ?_; rotate_left 1; (intro w9 hSw; obtain ⟨q1, q2, x0, _⟩ := hSw; go_simp; first | done | with_reducible rfl); (try simp only [Act.put, List.setIfInBounds_toArray, List.set_cons_zero, List.set_cons_succ])
  refine wpAnyH_take (i := 12) (oi := { dst := some 24, op := Op.move (Operand.tmp 1), type := 22, pos := "part.go:78", after := #[{ on := 11, ground := Ground.guard }], guard := some (11, true) }) (v := ?_) rfl (by kernel_rfl) (by kernel_rfl) (by kernel_rfl) (fun _ _ _ h => h) (Or.inl ⟨by rfl, ?_⟩) hHeld ?_; rotate_left 1; (intro w9 hSw; obtain ⟨q1, q2, x0, _⟩ := hSw; go_simp; first | done | with_reducible rfl); (try simp only [Act.put, List.setIfInBounds_toArray, List.set_cons_zero, List.set_cons_succ])
  refine wpAnyH_take (i := 13) (oi := { dst := some 25, op := Op.move (Operand.tmp 1), type := 22, pos := "part.go:78", after := #[{ on := 11, ground := Ground.guard }], guard := some (11, true) }) (v := ?_) rfl (by kernel_rfl) (by kernel_rfl) (by kernel_rfl) (fun _ _ _ h => h) (Or.inl ⟨by rfl, ?_⟩) hHeld ?_; rotate_left 1; (intro w9 hSw; obtain ⟨q1, q2, x0, _⟩ := hSw; go_simp; first | done | with_reducible rfl); (try simp only [Act.put, List.setIfInBounds_toArray, List.set_cons_zero, List.set_cons_succ])
  refine wpAnyH_take (i := 14) (oi := { dst := some 26, op := Op.call { callee := Callee.builtin Builtin.len, args := #[Operand.tmp 25], argTypes := #[22] }, type := 3, pos := "part.go:78", after := #[{ on := 13, ground := Ground.data }, { on := 11, ground := Ground.guard }], guard := some (11, true) }) (v := ?_) rfl (by kernel_rfl) (by kernel_rfl) (by kernel_rfl) (fun _ _ _ h => h) (Or.inl ⟨by rfl, ?_⟩) hHeld ?_; rotate_left 1; (intro w9 hSw; obtain ⟨q1, q2, x0, _⟩ := hSw; go_simp; first | done | with_reducible rfl); (try simp only [Act.put, List.setIfInBounds_toArray, List.set_cons_zero, List.set_cons_succ])
  refine wpAnyH_take (i := 15) (oi := { dst := some 27, op := Op.binOp BinOp.sub 3 (Operand.tmp 26) (Operand.const (Value.int IntKind.i64 1)) 3, type := 3, pos := "part.go:78", after := #[{ on := 14, ground := Ground.data }, { on := 11, ground := Ground.guard }], guard := some (11, true) }) (v := ?_) rfl (by kernel_rfl) (by kernel_rfl) (by kernel_rfl) (fun _ _ _ h => h) (Or.inl ⟨by rfl, ?_⟩) hHeld ?_; rotate_left 1; (intro w9 hSw; obtain ⟨q1, q2, x0, _⟩ := hSw; go_simp; first | done | with_reducible rfl); (try simp only [Act.put, List.setIfInBounds_toArray, List.set_cons_zero, List.set_cons_succ])
  refine wpAnyH_take (i := 16) (oi := { dst := some 28, op := Op.indexAddr 22 (Operand.tmp 24) (Operand.tmp 27), type := 0, pos := "part.go:78", after := #[{ on := 12, ground := Ground.data }, { on := 15, ground := Ground.data }, { on := 11, ground := Ground.guard }], guard := some (11, true) }) (v := ?_) rfl (by kernel_rfl) (by kernel_rfl) (by kernel_rfl) (fun _ _ _ h => h) (Or.inl ⟨by rfl, ?_⟩) hHeld ?_; rotate_left 1; (intro w9 hSw; obtain ⟨q1, q2, x0, _⟩ := hSw; go_simp; first | done | with_reducible rfl); (try simp only [Act.put, List.setIfInBounds_toArray, List.set_cons_zero, List.set_cons_succ])
  refine wpAnyH_take (i := 17) (oi := { dst := some 29, op := Op.fieldAddr 45 (Operand.tmp 28) 0, type := 0, pos := "part.go:78", after := #[{ on := 16, ground := Ground.data }, { on := 11, ground := Ground.guard }], guard := some (11, true) }) (v := ?_) rfl (by kernel_rfl) (by kernel_rfl) (by kernel_rfl) (fun _ _ _ h => h) (Or.inl ⟨by rfl, ?_⟩) hHeld ?_; rotate_left 1; (intro w9 hSw; obtain ⟨q1, q2, x0, _⟩ := hSw; go_simp; first | done | with_reducible rfl); (try simp only [Act.put, List.setIfInBounds_toArray, List.set_cons_zero, List.set_cons_succ])
  refine wpAnyH_take (i := 18) (oi := { dst := some 30, op := Op.load 3 (Operand.tmp 29), type := 3, pos := "part.go:78", after := #[{ on := 17, ground := Ground.data }, { on := 11, ground := Ground.guard }], guard := some (11, true) }) (v := ?_) rfl (by kernel_rfl) (by kernel_rfl) (by kernel_rfl) (fun _ _ _ h => h) (Or.inl ⟨by rfl, ?_⟩) hHeld ?_; rotate_left 1; (intro w9 hSw; obtain ⟨q1, q2, x0, _⟩ := hSw; go_simp; first | done | with_reducible rfl); (try simp only [Act.put, List.setIfInBounds_toArray, List.set_cons_zero, List.set_cons_succ])
  refine wpAnyH_take (i := 19) (oi := { dst := some 31, op := Op.move (Operand.tmp 0), type := 24, pos := "part.go:78", after := #[{ on := 11, ground := Ground.guard }], guard := some (11, true) }) (v := ?_) rfl (by kernel_rfl) (by kernel_rfl) (by kernel_rfl) (fun _ _ _ h => h) (Or.inl ⟨by rfl, ?_⟩) hHeld ?_; rotate_left 1; (intro w9 hSw; obtain ⟨q1, q2, x0, _⟩ := hSw; go_simp; first | done | with_reducible rfl); (try simp only [Act.put, List.setIfInBounds_toArray, List.set_cons_zero, List.set_cons_succ])
  refine wpAnyH_take (i := 20) (oi := { dst := some 32, op := Op.nilCheck (Operand.tmp 31), type := 0, pos := "part.go:78", after := #[{ on := 19, ground := Ground.data }, { on := 11, ground := Ground.guard }], guard := some (11, true) }) (v := ?_) rfl (by kernel_rfl) (by kernel_rfl) (by kernel_rfl) (fun _ _ _ h => h) (Or.inl ⟨by rfl, ?_⟩) hHeld ?_; rotate_left 1; (intro w9 hSw; obtain ⟨q1, q2, x0, _⟩ := hSw; go_simp; first | done | with_reducible rfl); (try simp only [Act.put, List.setIfInBounds_toArray, List.set_cons_zero, List.set_cons_succ])
  refine wpAnyH_take (i := 21) (oi := { dst := some 33, op := Op.fieldAddr 53 (Operand.tmp 32) 2, type := 0, pos := "part.go:78", after := #[{ on := 20, ground := Ground.data }, { on := 11, ground := Ground.guard }], guard := some (11, true) }) (v := ?_) rfl (by kernel_rfl) (by kernel_rfl) (by kernel_rfl) (fun _ _ _ h => h) (Or.inl ⟨by rfl, ?_⟩) hHeld ?_; rotate_left 1; (intro w9 hSw; obtain ⟨q1, q2, x0, _⟩ := hSw; go_simp; first | done | with_reducible rfl); (try simp only [Act.put, List.setIfInBounds_toArray, List.set_cons_zero, List.set_cons_succ])
  refine wpAnyH_take (i := 22) (oi := { dst := some 34, op := Op.load 3 (Operand.tmp 33), type := 3, pos := "part.go:78", after := #[{ on := 21, ground := Ground.data }, { on := 11, ground := Ground.guard }], guard := some (11, true) }) (v := ?_) rfl (by kernel_rfl) (by kernel_rfl) (by kernel_rfl) (fun _ _ _ h => h) (Or.inl ⟨by rfl, ?_⟩) hHeld ?_; rotate_left 1; (intro w9 hSw; obtain ⟨q1, q2, x0, _⟩ := hSw; go_simp; first | done | with_reducible rfl); (try simp only [Act.put, List.setIfInBounds_toArray, List.set_cons_zero, List.set_cons_succ])
  refine wpAnyH_take (i := 23) (oi := { dst := some 35, op := Op.binOp BinOp.geq 3 (Operand.tmp 30) (Operand.tmp 34) 3, type := 4, pos := "part.go:78", after := #[{ on := 18, ground := Ground.data }, { on := 22, ground := Ground.data }, { on := 11, ground := Ground.guard }], guard := some (11, true) }) (v := ?_) rfl (by kernel_rfl) (by kernel_rfl) (by kernel_rfl) (fun _ _ _ h => h) (Or.inl ⟨by rfl, ?_⟩) hHeld ?_; rotate_left 1; (intro w9 hSw; obtain ⟨q1, q2, x0, _⟩ := hSw; go_simp; first | done | with_reducible rfl); (try simp only [Act.put, List.setIfInBounds_toArray, List.set_cons_zero, List.set_cons_succ])
  refine wpAnyH_take (i := 24) (oi := { dst := some 36, op := Op.pick (Operand.tmp 23) (Operand.tmp 35) (Operand.const (Value.bool false)), type := 4, pos := "part.go:78", after := #[{ on := 11, ground := Ground.data }, { on := 23, ground := Ground.data }, { on := 7, ground := Ground.guard }], guard := some (7, false) }) (v := ?_) rfl (by kernel_rfl) (by kernel_rfl) (by kernel_rfl) (fun _ _ _ h => h) (Or.inl ⟨by rfl, ?_⟩) hHeld ?_; rotate_left 1; (intro w9 hSw; obtain ⟨q1, q2, x0, _⟩ := hSw; go_simp; first | done | with_reducible rfl); (try simp only [Act.put, List.setIfInBounds_toArray, List.set_cons_zero, List.set_cons_succ])
  refine wpAnyH_take (i := 25) (oi := { dst := some 37, op := Op.pick (Operand.tmp 19) (Operand.const (Value.bool true)) (Operand.tmp 36), type := 4, pos := "part.go:78", after := #[{ on := 7, ground := Ground.data }, { on := 24, ground := Ground.data }], guard := none }) (v := ?_) rfl (by kernel_rfl) (by kernel_rfl) (by kernel_rfl) (fun _ _ _ h => h) (Or.inl ⟨by rfl, ?_⟩) hHeld ?_; rotate_left 1; (intro w9 hSw; obtain ⟨q1, q2, x0, _⟩ := hSw; go_simp; first | done | with_reducible rfl); (try simp only [Act.put, List.setIfInBounds_toArray, List.set_cons_zero, List.set_cons_succ])
  refine wpAnyH_take (i := 26) (oi := { dst := some 11, op := Op.assign (Operand.tmp 37), type := 4, pos := "part.go:78", after := #[{ on := 25, ground := Ground.data }, { on := 11, ground := Ground.chain }], guard := none }) (v := ?_) rfl (by kernel_rfl) (by kernel_rfl) (by kernel_rfl) (fun _ _ _ h => h) (Or.inl ⟨by rfl, ?_⟩) hHeld ?_; rotate_left 1; (intro w9 hSw; obtain ⟨q1, q2, x0, _⟩ := hSw; go_simp; first | done | with_reducible rfl); (try simp only [Act.put, List.setIfInBounds_toArray, List.set_cons_zero, List.set_cons_succ])
  refine wpAnyH_done (by kernel_rfl) ?_ _
  have B3 := Lib.hid (below_two B2.out hHeld.bel)
  clear hHeld
  go_wp2
  go_ret
  exact ⟨rfl, B3.out⟩
theorem replace_none (B g : Nat) (v : Value) (l : List PB.S45) (st nx mk : Int) (A : Option Addr) (c : Nat) (xs : List PB.S45) (w : World) (h : PS B g v l st nx mk w) (hr : Kd.C PB.k45 w A xs.length xs) (hc : xs.length ≤ c) (hl : xs.length ≤ 60000)
    (hb : decide (∃ x ∈ xs, PuB.mayB x = false) = false) (hi : riseB xs st = true) (h0 : xs.length = 0) :
    Calls Try.prog 23 #[.pointer (some ⟨g, 0, none⟩), .slice A xs.length c] w fun e w' => e = .returned (.int .i64 0) ∧ ∃ v' : Value, PS B g v' xs st nx mk w' ∧ Fr g v w w' ∧ Nw v v' w := by
  have H0 := Lib.hid h0
  clear h0
  go_enter Try.func23, Try.ntmps23
  go_wp2_with fail
  refine (contains_any A c xs _ hr hc hl).mono ?_
  rintro e w2 ⟨rfl, b2⟩
  rw [hb]
  have h1 := H0.out
  have z6 : decide ((xs.length : Int) > 0) = false := by rw [decide_eq_false_iff_not]; omega
  have z3 : ¬ (0 : Int) < (xs.length : Int) := by omega
  have z8 : decide (0 < xs.length) = false := by rw [decide_eq_false_iff_not]; omega
  have z9 : ¬ 0 < xs.length := by omega
  clear h1
  have hS : S1 ⟨g, 1, none⟩ (.int .i64 st) w2 w2 := ⟨(blk_cell (h.below b2).blk 1).trans rfl, Below.refl _ _⟩
  have HR := Lib.hid (Kd.C_below hr b2)
  have H := Lib.hid (h.below b2)
  have B2 := Lib.hid b2
  clear h hr b2
  go_wp2_with fail
  refine wp_region_held_drew (S := S1 ⟨g, 1, none⟩ (.int .i64 st) w2) (by kernel_rfl) (hS.drew) (fun hHeld => ?_)
  refine wpAnyH_take (i := 0) (oi := { dst := some 12, op := Op.move (Operand.tmp 1), type := 22, pos := "part.go:78", after := #[], guard := none }) (v := ?_) rfl (by kernel_rfl) (by kernel_rfl) (by kernel_rfl) (fun _ _ _ h => h) (Or.inl ⟨by rfl, ?_⟩) hHeld ?_; rotate_left 1; (intro w9 hSw; obtain ⟨q1, _⟩ := hSw; go_simp; first | done | with_reducible rfl); (try simp only [Act.put, List.setIfInBounds_toArray, List.set_cons_zero, List.set_cons_succ])
  refine wpAnyH_take (i := 1) (oi := { dst := some 13, op := Op.move (Operand.tmp 0), type := 24, pos := "part.go:78", after := #[], guard := none }) (v := ?_) rfl (by kernel_rfl) (by kernel_rfl) (by kernel_rfl) (fun _ _ _ h => h) (Or.inl ⟨by rfl, ?_⟩) hHeld ?_; rotate_left 1; (intro w9 hSw; obtain ⟨q1, _⟩ := hSw; go_simp; first | done | with_reducible rfl); (try simp only [Act.put, List.setIfInBounds_toArray, List.set_cons_zero, List.set_cons_succ])
  refine wpAnyH_take (i := 2) (oi := { dst := some 14, op := Op.nilCheck (Operand.tmp 13), type := 0, pos := "part.go:78", after := #[{ on := 1, ground := Ground.data }], guard := none }) (v := ?_) rfl (by kernel_rfl) (by kernel_rfl) (by kernel_rfl) (fun _ _ _ h => h) (Or.inl ⟨by rfl, ?_⟩) hHeld ?_; rotate_left 1; (intro w9 hSw; obtain ⟨q1, _⟩ := hSw; go_simp; first | done | with_reducible rfl); (try simp only [Act.put, List.setIfInBounds_toArray, List.set_cons_zero, List.set_cons_succ])
  refine wpAnyH_take (i := 3) (oi := { dst := some 15, op := Op.fieldAddr 53 (Operand.tmp 14) 1, type := 0, pos := "part.go:78", after := #[{ on := 2, ground := Ground.data }], guard := none }) (v := ?_) rfl (by kernel_rfl) (by kernel_rfl) (by kernel_rfl) (fun _ _ _ h => h) (Or.inl ⟨by rfl, ?_⟩) hHeld ?_; rotate_left 1; (intro w9 hSw; obtain ⟨q1, _⟩ := hSw; go_simp; first | done | with_reducible rfl); (try simp only [Act.put, List.setIfInBounds_toArray, List.set_cons_zero, List.set_cons_succ])
  refine wpAnyH_take (i := 4) (oi := { dst := some 16, op := Op.load 3 (Operand.tmp 15), type := 3, pos := "part.go:78", after := #[{ on := 3, ground := Ground.data }], guard := none }) (v := ?_) rfl (by kernel_rfl) (by kernel_rfl) (by kernel_rfl) (fun _ _ _ h => h) (Or.inl ⟨by rfl, ?_⟩) hHeld ?_; rotate_left 1; (intro w9 hSw; obtain ⟨q1, _⟩ := hSw; go_simp; first | done | with_reducible rfl); (try simp only [Act.put, List.setIfInBounds_toArray, List.set_cons_zero, List.set_cons_succ])
  refine wpAnyH_ready (rs := [5]) (by kernel_rfl) (by simp) ?_; refine AllReadyH.cons (o := { dst := some 17, op := Op.call { callee := Callee.value (Operand.func 27), args := #[Operand.tmp 12, Operand.tmp 16], argTypes := #[22, 3] }, type := 4, pos := "part.go:78", after := #[{ on := 0, ground := Ground.data }, { on := 4, ground := Ground.data }], guard := none }) rfl (fun K hK => ?_) AllReadyH.nil; go_simp; refine (rise_any A c xs st _ (Kd.C_below HR.out hHeld.bel) hc hl).mono ?_; rintro e w4 ⟨rfl, bel⟩; rw [hi]; (try go_wp2_with fail); refine hK.out _ _ (hHeld.below bel) (fun hHeld => ?_); clear hK; (try simp only [Act.put, List.setIfInBounds_toArray, List.set_cons_zero, List.set_cons_succ])
  refine wpAnyH_take (i := 6) (oi := { dst := some 18, op := Op.unOp UnOp.not 4 (Operand.tmp 17), type := 4, pos := "part.go:78", after := #[{ on := 5, ground := Ground.data }], guard := none }) (v := ?_) rfl (by kernel_rfl) (by kernel_rfl) (by kernel_rfl) (fun _ _ _ h => h) (Or.inl ⟨by rfl, ?_⟩) hHeld ?_; rotate_left 1; (intro w9 hSw; obtain ⟨q1, _⟩ := hSw; go_simp; first | done | with_reducible rfl); (try simp only [Act.put, List.setIfInBounds_toArray, List.set_cons_zero, List.set_cons_succ])
  refine wpAnyH_take (i := 7) (oi := { dst := some 19, op := Op.move (Operand.tmp 18), type := 4, pos := "part.go:78", after := #[{ on := 6, ground := Ground.data }, { on := 5, ground := Ground.chain }], guard := none }) (v := ?_) rfl (by kernel_rfl) (by kernel_rfl) (by kernel_rfl) (fun _ _ _ h => h) (Or.inl ⟨by rfl, ?_⟩) hHeld ?_; rotate_left 1; (intro w9 hSw; obtain ⟨q1, _⟩ := hSw; go_simp; first | done | with_reducible rfl); (try simp only [Act.put, List.setIfInBounds_toArray, List.set_cons_zero, List.set_cons_succ])
  refine wpAnyH_take (i := 8) (oi := { dst := some 20, op := Op.move (Operand.tmp 1), type := 22, pos := "part.go:78", after := #[{ on := 7, ground := Ground.guard }], guard := some (7, false) }) (v := ?_) rfl (by kernel_rfl) (by kernel_rfl) (by kernel_rfl) (fun _ _ _ h => h) (Or.inl ⟨by rfl, ?_⟩) hHeld ?_; rotate_left 1; (intro w9 hSw; obtain ⟨q1, _⟩ := hSw; go_simp; first | done | with_reducible rfl); (try simp only [Act.put, List.setIfInBounds_toArray, List.set_cons_zero, List.set_cons_succ])
  refine wpAnyH_take (i := 9) (oi := { dst := some 21, op := Op.call { callee := Callee.builtin Builtin.len, args := #[Operand.tmp 20], argTypes := #[22] }, type := 3, pos := "part.go:78", after := #[{ on := 8, ground := Ground.data }, { on := 7, ground := Ground.guard }], guard := some (7, false) }) (v := ?_) rfl (by kernel_rfl) (by kernel_rfl) (by kernel_rfl) (fun _ _ _ h => h) (Or.inl ⟨by rfl, ?_⟩) hHeld ?_; rotate_left 1; (intro w9 hSw; obtain ⟨q1, _⟩ := hSw; go_simp; first | done | with_reducible rfl); (try simp only [Act.put, List.setIfInBounds_toArray, List.set_cons_zero, List.set_cons_succ])
  refine wpAnyH_take (i := 10) (oi := { dst := some 22, op := Op.binOp BinOp.gtr 3 (Operand.tmp 21) (Operand.const (Value.int IntKind.i64 0)) 3, type := 4, pos := "part.go:78", after := #[{ on := 9, ground := Ground.data }, { on := 7, ground := Ground.guard }], guard := some (7, false) }) (v := ?_) rfl (by kernel_rfl) (by kernel_rfl) (by kernel_rfl) (fun _ _ _ h => h) (Or.inl ⟨by rfl, ?_⟩) hHeld ?_; rotate_left 1; (intro w9 hSw; obtain ⟨q1, _⟩ := hSw; go_simp; first | done | with_reducible rfl); (try simp only [Act.put, List.setIfInBounds_toArray, List.set_cons_zero, List.set_cons_succ])
  refine wpAnyH_take (i := 11) (oi := { dst := some 23, op := Op.move (Operand.tmp 22), type := 4, pos := "part.go:78", after := #[{ on := 10, ground := Ground.data }, { on := 7, ground := Ground.chain }, { on := 7, ground := Ground.guard }], guard := some (7, false) }) (v := ?_) rfl (by kernel_rfl) (by kernel_rfl) (by kernel_rfl) (fun _ _ _ h => h) (Or.inl ⟨by rfl, ?_⟩) hHeld ?_; rotate_left 1; (intro w9 hSw; obtain ⟨q1, _⟩ := hSw; go_simp; first | done | with_reducible rfl); (try simp only [Act.put, List.setIfInBounds_toArray, List.set_cons_zero, List.set_cons_succ])
  refine wpAnyH_take (i := 12) (oi := { dst := some 24, op := Op.move (Operand.tmp 1), type := 22, pos := "part.go:78", after := #[{ on := 11, ground := Ground.guard }], guard := some (11, true) }) (v := undef) rfl (by kernel_rfl) (by kernel_rfl) (by kernel_rfl) (fun _ _ _ h => h) (Or.inr ⟨by rfl, rfl⟩) hHeld ?_; (try simp only [Act.put, List.setIfInBounds_toArray, List.set_cons_zero, List.set_cons_succ])
  refine wpAnyH_take (i := 13) (oi := { dst := some 25, op := Op.move (Operand.tmp 1), type := 22, pos := "part.go:78", after := #[{ on := 11, ground := Ground.guard }], guard := some (11, true) }) (v := undef) rfl (by kernel_rfl) (by kernel_rfl) (by kernel_rfl) (fun _ _ _ h => h) (Or.inr ⟨by rfl, rfl⟩) hHeld ?_; (try simp only [Act.put, List.setIfInBounds_toArray, List.set_cons_zero, List.set_cons_succ])
  refine wpAnyH_take (i := 14) (oi := { dst := some 26, op := Op.call { callee := Callee.builtin Builtin.len, args := #[Operand.tmp 25], argTypes := #[22] }, type := 3, pos := "part.go:78", after := #[{ on := 13, ground := Ground.data }, { on := 11, ground := Ground.guard }], guard := some (11, true) }) (v := undef) rfl (by kernel_rfl) (by kernel_rfl) (by kernel_rfl) (fun _ _ _ h => h) (Or.inr ⟨by rfl, rfl⟩) hHeld ?_; (try simp only [Act.put, List.setIfInBounds_toArray, List.set_cons_zero, List.set_cons_succ])
  refine wpAnyH_take (i := 15) (oi := { dst := some 27, op := Op.binOp BinOp.sub 3 (Operand.tmp 26) (Operand.const (Value.int IntKind.i64 1)) 3, type := 3, pos := "part.go:78", after := #[{ on := 14, ground := Ground.data }, { on := 11, ground := Ground.guard }], guard := some (11, true) }) (v := undef) rfl (by kernel_rfl) (by kernel_rfl) (by kernel_rfl) (fun _ _ _ h => h) (Or.inr ⟨by rfl, rfl⟩) hHeld ?_; (try simp only [Act.put, List.setIfInBounds_toArray, List.set_cons_zero, List.set_cons_succ])
  refine wpAnyH_take (i := 16) (oi := { dst := some 28, op := Op.indexAddr 22 (Operand.tmp 24) (Operand.tmp 27), type := 0, pos := "part.go:78", after := #[{ on := 12, ground := Ground.data }, { on := 15, ground := Ground.data }, { on := 11, ground := Ground.guard }], guard := some (11, true) }) (v := undef) rfl (by kernel_rfl) (by kernel_rfl) (by kernel_rfl) (fun _ _ _ h => h) (Or.inr ⟨by rfl, rfl⟩) hHeld ?_; (try simp only [Act.put, List.setIfInBounds_toArray, List.set_cons_zero, List.set_cons_succ])
  refine wpAnyH_take (i := 17) (oi := { dst := some 29, op := Op.fieldAddr 45 (Operand.tmp 28) 0, type := 0, pos := "part.go:78", after := #[{ on := 16, ground := Ground.data }, { on := 11, ground := Ground.guard }], guard := some (11, true) }) (v := undef) rfl (by kernel_rfl) (by kernel_rfl) (by kernel_rfl) (fun _ _ _ h => h) (Or.inr ⟨by rfl, rfl⟩) hHeld ?_; (try simp only [Act.put, List.setIfInBounds_toArray, List.set_cons_zero, List.set_cons_succ])
  refine wpAnyH_take (i := 18) (oi := { dst := some 30, op := Op.load 3 (Operand.tmp 29), type := 3, pos := "part.go:78", after := #[{ on := 17, ground := Ground.data }, { on := 11, ground := Ground.guard }], guard := some (11, true) }) (v := undef) rfl (by kernel_rfl) (by kernel_rfl) (by kernel_rfl) (fun _ _ _ h => h) (Or.inr ⟨by rfl, rfl⟩) hHeld ?_; (try simp only [Act.put, List.setIfInBounds_toArray, List.set_cons_zero, List.set_cons_succ])
  refine wpAnyH_take (i := 19) (oi := { dst := some 31, op := Op.move (Operand.tmp 0), type := 24, pos := "part.go:78", after := #[{ on := 11, ground := Ground.guard }], guard := some (11, true) }) (v := undef) rfl (by kernel_rfl) (by kernel_rfl) (by kernel_rfl) (fun _ _ _ h => h) (Or.inr ⟨by rfl, rfl⟩) hHeld ?_; (try simp only [Act.put, List.setIfInBounds_toArray, List.set_cons_zero, List.set_cons_succ])
  refine wpAnyH_take (i := 20) (oi := { dst := some 32, op := Op.nilCheck (Operand.tmp 31), type := 0, pos := "part.go:78", after := #[{ on := 19, ground := Ground.data }, { on := 11, ground := Ground.guard }], guard := some (11, true) }) (v := undef) rfl (by kernel_rfl) (by kernel_rfl) (by kernel_rfl) (fun _ _ _ h => h) (Or.inr ⟨by rfl, rfl⟩) hHeld ?_; (try simp only [Act.put, List.setIfInBounds_toArray, List.set_cons_zero, List.set_cons_succ])
  refine wpAnyH_take (i := 21) (oi := { dst := some 33, op := Op.fieldAddr 53 (Operand.tmp 32) 2, type := 0, pos := "part.go:78", after := #[{ on := 20, ground := Ground.data }, { on := 11, ground := Ground.guard }], guard := some (11, true) }) (v := undef) rfl (by kernel_rfl) (by kernel_rfl) (by kernel_rfl) (fun _ _ _ h => h) (Or.inr ⟨by rfl, rfl⟩) hHeld ?_; (try simp only [Act.put, List.setIfInBounds_toArray, List.set_cons_zero, List.set_cons_succ])
  refine wpAnyH_take (i := 22) (oi := { dst := some 34, op := Op.load 3 (Operand.tmp 33), type := 3, pos := "part.go:78", after := #[{ on := 21, ground := Ground.data }, { on := 11, ground := Ground.guard }], guard := some (11, true) }) (v := undef) rfl (by kernel_rfl) (by kernel_rfl) (by kernel_rfl) (fun _ _ _ h => h) (Or.inr ⟨by rfl, rfl⟩) hHeld ?_; (try simp only [Act.put, List.setIfInBounds_toArray, List.set_cons_zero, List.set_cons_succ])
  refine wpAnyH_take (i := 23) (oi := { dst := some 35, op := Op.binOp BinOp.geq 3 (Operand.tmp 30) (Operand.tmp 34) 3, type := 4, pos := "part.go:78", after := #[{ on := 18, ground := Ground.data }, { on := 22, ground := Ground.data }, { on := 11, ground := Ground.guard }], guard := some (11, true) }) (v := undef) rfl (by kernel_rfl) (by kernel_rfl) (by kernel_rfl) (fun _ _ _ h => h) (Or.inr ⟨by rfl, rfl⟩) hHeld ?_; (try simp only [Act.put, List.setIfInBounds_toArray, List.set_cons_zero, List.set_cons_succ])
  refine wpAnyH_take (i := 24) (oi := { dst := some 36, op := Op.pick (Operand.tmp 23) (Operand.tmp 35) (Operand.const (Value.bool false)), type := 4, pos := "part.go:78", after := #[{ on := 11, ground := Ground.data }, { on := 23, ground := Ground.data }, { on := 7, ground := Ground.guard }], guard := some (7, false) }) (v := ?_) rfl (by kernel_rfl) (by kernel_rfl) (by kernel_rfl) (fun _ _ _ h => h) (Or.inl ⟨by rfl, ?_⟩) hHeld ?_; rotate_left 1; (intro w9 hSw; obtain ⟨q1, _⟩ := hSw; go_simp; first | done | with_reducible rfl); (try simp only [Act.put, List.setIfInBounds_toArray, List.set_cons_zero, List.set_cons_succ])
  refine wpAnyH_take (i := 25) (oi := { dst := some 37, op := Op.pick (Operand.tmp 19) (Operand.const (Value.bool true)) (Operand.tmp 36), type := 4, pos := "part.go:78", after := #[{ on := 7, ground := Ground.data }, { on := 24, ground := Ground.data }], guard := none }) (v := ?_) rfl (by kernel_rfl) (by kernel_rfl) (by kernel_rfl) (fun _ _ _ h => h) (Or.inl ⟨by rfl, ?_⟩) hHeld ?_; rotate_left 1; (intro w9 hSw; obtain ⟨q1, _⟩ := hSw; go_simp; first | done | with_reducible rfl); (try simp only [Act.put, List.setIfInBounds_toArray, List.set_cons_zero, List.set_cons_succ])
  refine wpAnyH_take (i := 26) (oi := { dst := some 11, op := Op.assign (Operand.tmp 37), type := 4, pos := "part.go:78", after := #[{ on := 25, ground := Ground.data }, { on := 11, ground := Ground.chain }], guard := none }) (v := ?_) rfl (by kernel_rfl) (by kernel_rfl) (by kernel_rfl) (fun _ _ _ h => h) (Or.inl ⟨by rfl, ?_⟩) hHeld ?_; rotate_left 1; (intro w9 hSw; obtain ⟨q1, _⟩ := hSw; go_simp; first | done | with_reducible rfl); (try simp only [Act.put, List.setIfInBounds_toArray, List.set_cons_zero, List.set_cons_succ])
  refine wpAnyH_done (by kernel_rfl) ?_ _
  have B3 := Lib.hid hHeld.bel
  clear hHeld hS
  go_wp2_with fail
  refine (clone_any A c xs _ (Kd.C_below HR.out B3.out) hc hl).mono ?_
  rintro e w5 ⟨u, rfl, hR, b5⟩
  obtain ⟨A3, c3, rfl⟩ := Kd.R_slice hR
  have hp5 := (H.out.below B3.out).below b5
  have c5 : w5.cell? ⟨g, 0, none⟩ = some v := (blk_cell hp5.blk 0).trans rfl
  have f5 := blk_free hp5.blk 0
  have K5 := Lib.hid hp5
  have R5 := Lib.hid hR
  have B5 := Lib.hid b5
  clear hp5 hR b5
  go_wp2
  go_ret
  refine ⟨rfl, .slice A3 xs.length c3, ⟨heap_set K5.out.blk (i := 0) _, H.out.lo, Kd.R_far (newRow R5.out (Nat.le_trans H.out.lo (Nat.le_of_lt (blk_lt (H.out.below B3.out).blk))) (blk_lt (H.out.below B3.out).blk)) (fun k hk => hk) _⟩, ?_, newOwn R5.out (Nat.le_trans B2.out.size B3.out.size)⟩
  exact Fr.set ((Fr.refl g _ w).below (below_two (below_two B2.out B3.out) B5.out)) _ _
theorem replace_some (B g : Nat) (v : Value) (l : List PB.S45) (st nx mk : Int) (A : Option Addr) (c : Nat) (xs : List PB.S45) (w : World) (h : PS B g v l st nx mk w) (hr : Kd.C PB.k45 w A xs.length xs) (hc : xs.length ≤ c) (hl : xs.length ≤ 60000)
    (hb : decide (∃ x ∈ xs, PuB.mayB x = false) = false) (hi : riseB xs st = true) (h0 : 0 < xs.length) (hx : (PB.rd_T45 xs ((xs.length - 1 : Nat) : Int)).f0 < nx) :
    Calls Try.prog 23 #[.pointer (some ⟨g, 0, none⟩), .slice A xs.length c] w fun e w' => e = .returned (.int .i64 0) ∧ ∃ v' : Value, PS B g v' xs st nx mk w' ∧ Fr g v w w' ∧ Nw v v' w := by
  go_enter Try.func23, Try.ntmps23
  go_wp2_with fail
  refine (contains_any A c xs _ hr hc hl).mono ?_
  rintro e w2 ⟨rfl, b2⟩
  rw [hb]
  have z1 : wrap64 ((xs.length : Int) - 1) = ((xs.length - 1 : Nat) : Int) := by unfold wrap64; omega
  have zw : IntKind.i64.wrap ((xs.length - 1 : Nat) : Int) = ((xs.length - 1 : Nat) : Int) := by rw [i64_w]; unfold wrap64; omega
  have z2 : (xs.length : Int) - 1 = ((xs.length - 1 : Nat) : Int) := by omega
  have z3 : (xs.length : Int) > 0 := by omega
  have z4 : ((xs.length - 1 : Nat) : Int) < (xs.length : Int) := by omega
  have z5 : (0 : Int) ≤ ((xs.length - 1 : Nat) : Int) := Int.natCast_nonneg _
  have z6 : decide ((xs.length : Int) > 0) = true := decide_eq_true z3
  have HR := Lib.hid (Kd.C_below hr b2)
  obtain ⟨ad, ea, x0, _⟩ := PB.at_T45 HR.out ((xs.length - 1 : Nat) : Int) z5 z4
  cases ea
  rw [Int.toNat_natCast] at x0
  obtain ⟨y, hy⟩ : ∃ y, y = (PB.rd_T45 xs ((xs.length - 1 : Nat) : Int)).f0 := ⟨_, rfl⟩
  rw [← hy] at x0 hx
  clear hy
  have z7 : decide (y ≥ nx) = false := by rw [decide_eq_false_iff_not]; omega
  have hS : S3 ⟨g, 1, none⟩ (.int .i64 st) ⟨g, 2, none⟩ (.int .i64 nx) (ad.add ((xs.length - 1) * 8)) (.int .i64 y) w2 w2 := ⟨(blk_cell (h.below b2).blk 1).trans rfl, (blk_cell (h.below b2).blk 2).trans rfl, x0, Below.refl _ _⟩
  have H := Lib.hid (h.below b2)
  have B2 := Lib.hid b2
  clear h hr b2 x0
  go_wp2_with fail
  refine wp_region_held_drew (S := S3 ⟨g, 1, none⟩ (.int .i64 st) ⟨g, 2, none⟩ (.int .i64 nx) (ad.add ((xs.length - 1) * 8)) (.int .i64 y) w2) (by kernel_rfl) (hS.drew) (fun hHeld => ?_)
  refine wpAnyH_take (i := 0) (oi := { dst := some 12, op := Op.move (Operand.tmp 1), type := 22, pos := "part.go:78", after := #[], guard := none }) (v := ?_) rfl (by kernel_rfl) (by kernel_rfl) (by kernel_rfl) (fun _ _ _ h => h) (Or.inl ⟨by rfl, ?_⟩) hHeld ?_; rotate_left 1; (intro w9 hSw; obtain ⟨q1, q2, x0, _⟩ := hSw; go_simp; first | done | with_reducible rfl); (try simp only [Act.put, List.setIfInBounds_toArray, List.set_cons_zero, List.set_cons_succ])
  refine wpAnyH_take (i := 1) (oi := { dst := some 13, op := Op.move (Operand.tmp 0), type := 24, pos := "part.go:78", after := #[], guard := none }) (v := ?_) rfl (by kernel_rfl) (by kernel_rfl) (by kernel_rfl) (fun _ _ _ h => h) (Or.inl ⟨by rfl, ?_⟩) hHeld ?_; rotate_left 1; (intro w9 hSw; obtain ⟨q1, q2, x0, _⟩ := hSw; go_simp; first | done | with_reducible rfl); (try simp only [Act.put, List.setIfInBounds_toArray, List.set_cons_zero, List.set_cons_succ])
  refine wpAnyH_take (i := 2) (oi := { dst := some 14, op := Op.nilCheck (Operand.tmp 13), type := 0, pos := "part.go:78", after := #[{ on := 1, ground := Ground.data }], guard := none }) (v := ?_) rfl (by kernel_rfl) (by kernel_rfl) (by kernel_rfl) (fun _ _ _ h => h) (Or.inl ⟨by rfl, ?_⟩) hHeld ?_; rotate_left 1; (intro w9 hSw; obtain ⟨q1, q2, x0, _⟩ := hSw; go_simp; first | done | with_reducible rfl); (try simp only [Act.put, List.setIfInBounds_toArray, List.set_cons_zero, List.set_cons_succ])
  refine wpAnyH_take (i := 3) (oi := { dst := some 15, op := Op.fieldAddr 53 (Operand.tmp 14) 1, type := 0, pos := "part.go:78", after := #[{ on := 2, ground := Ground.data }], guard := none }) (v := ?_) rfl (by kernel_rfl) (by kernel_rfl) (by kernel_rfl) (fun _ _ _ h => h) (Or.inl ⟨by rfl, ?_⟩) hHeld ?_; rotate_left 1; (intro w9 hSw; obtain ⟨q1, q2, x0, _⟩ := hSw; go_simp; first | done | with_reducible rfl); (try simp only [Act.put, List.setIfInBounds_toArray, List.set_cons_zero, List.set_cons_succ])
  refine wpAnyH_take (i := 4) (oi := { dst := some 16, op := Op.load 3 (Operand.tmp 15), type := 3, pos := "part.go:78", after := #[{ on := 3, ground := Ground.data }], guard := none }) (v := ?_) rfl (by kernel_rfl) (by kernel_rfl) (by kernel_rfl) (fun _ _ _ h => h) (Or.inl ⟨by rfl, ?_⟩) hHeld ?_; rotate_left 1; (intro w9 hSw; obtain ⟨q1, q2, x0, _⟩ := hSw; go_simp; first | done | with_reducible rfl); (try simp only [Act.put, List.setIfInBounds_toArray, List.set_cons_zero, List.set_cons_succ])
  refine wpAnyH_ready (rs := [5]) (by kernel_rfl) (by simp) ?_; refine AllReadyH.cons (o := { dst := some 17, op := Op.call { callee := Callee.value (Operand.func 27), args := #[Operand.tmp 12, Operand.tmp 16], argTypes := #[22, 3] }, type := 4, pos := "part.go:78", after := #[{ on := 0, ground := Ground.data }, { on := 4, ground := Ground.data }], guard := none }) rfl (fun K hK => ?_) AllReadyH.nil; go_simp; refine (rise_any _ c xs st _ (Kd.C_below HR.out hHeld.bel) hc hl).mono ?_; rintro e w4 ⟨rfl, bel⟩; rw [hi]; (try go_wp2_with fail); refine hK.out _ _ (hHeld.below bel) (fun hHeld => ?_); clear hK; (try simp only [Act.put, List.setIfInBounds_toArray, List.set_cons_zero, List.set_cons_succ])
  refine wpAnyH_take (i := 6) (oi := { dst := some 18, op := Op.unOp UnOp.not 4 (Operand.tmp 17), type := 4, pos := "part.go:78", after := #[{ on := 5, ground := Ground.data }], guard := none }) (v := ?_) rfl (by kernel_rfl) (by kernel_rfl) (by kernel_rfl) (fun _ _ _ h => h) (Or.inl ⟨by rfl, ?_⟩) hHeld ?_; rotate_left 1; (intro w9 hSw; obtain ⟨q1, q2, x0, _⟩ := hSw; go_simp; first | done | with_reducible rfl); (try simp only [Act.put, List.setIfInBounds_toArray, List.set_cons_zero, List.set_cons_succ])
  refine wpAnyH_take (i := 7) (oi := { dst := some 19, op := Op.move (Operand.tmp 18), type := 4, pos := "part.go:78", after := #[{ on := 6, ground := Ground.data }, { on := 5, ground := Ground.chain }], guard := none }) (v := ?_) rfl (by kernel_rfl) (by kernel_rfl) (by kernel_rfl) (fun _ _ _ h => h) (Or.inl ⟨by rfl, ?_⟩) hHeld ?_; rotate_left 1; (intro w9 hSw; obtain ⟨q1, q2, x0, _⟩ := hSw; go_simp; first | done | with_reducible rfl); (try simp only [Act.put, List.setIfInBounds_toArray, List.set_cons_zero, List.set_cons_succ])
  refine wpAnyH_take (i := 8) (oi := { dst := some 20, op := Op.move (Operand.tmp 1), type := 22, pos := "part.go:78", after := #[{ on := 7, ground := Ground.guard }], guard := some (7, false) }) (v := ?_) rfl (by kernel_rfl) (by kernel_rfl) (by kernel_rfl) (fun _ _ _ h => h) (Or.inl ⟨by rfl, ?_⟩) hHeld ?_; rotate_left 1; (intro w9 hSw; obtain ⟨q1, q2, x0, _⟩ := hSw; go_simp; first | done | with_reducible rfl); (try simp only [Act.put, List.setIfInBounds_toArray, List.set_cons_zero, List.set_cons_succ])
  refine wpAnyH_take (i := 9) (oi := { dst := some 21, op := Op.call { callee := Callee.builtin Builtin.len, args := #[Operand.tmp 20], argTypes := #[22] }, type := 3, pos := "part.go:78", after := #[{ on := 8, ground := Ground.data }, { on := 7, ground := Ground.guard }], guard := some (7, false) }) (v := ?_) rfl (by kernel_rfl) (by kernel_rfl) (by kernel_rfl) (fun _ _ _ h => h) (Or.inl ⟨by rfl, ?_⟩) hHeld ?_; rotate_left 1; (intro w9 hSw; obtain ⟨q1, q2, x0, _⟩ := hSw; go_simp; first | done | with_reducible rfl); (try simp only [Act.put, List.setIfInBounds_toArray, List.set_cons_zero, List.set_cons_succ])
  refine wpAnyH_take (i := 10) (oi := { dst := some 22, op := Op.binOp BinOp.gtr 3 (Operand.tmp 21) (Operand.const (Value.int IntKind.i64 0)) 3, type := 4, pos := "part.go:78", after := #[{ on := 9, ground := Ground.data }, { on := 7, ground := Ground.guard }], guard := some (7, false) }) (v := ?_) rfl (by kernel_rfl) (by kernel_rfl) (by kernel_rfl) (fun _ _ _ h => h) (Or.inl ⟨by rfl, ?_⟩) hHeld ?_; rotate_left 1; (intro w9 hSw; obtain ⟨q1, q2, x0, _⟩ := hSw; go_simp; first | done | with_reducible rfl); (try simp only [Act.put, List.setIfInBounds_toArray, List.set_cons_zero, List.set_cons_succ])
  refine wpAnyH_take (i := 11) (oi := { dst := some 23, op := Op.move (Operand.tmp 22), type := 4, pos := "part.go:78", after := #[{ on := 10, ground := Ground.data }, { on := 7, ground := Ground.chain }, { on := 7, ground := Ground.guard }], guard := some (7, false) }) (v := ?_) rfl (by kernel_rfl) (by kernel_rfl) (by kernel_rfl) (fun _ _ _ h => h) (Or.inl ⟨by rfl, ?_⟩) hHeld ?_; rotate_left 1; (intro w9 hSw; obtain ⟨q1, q2, x0, _⟩ := hSw; go_simp; first | done | with_reducible rfl); (try simp only [Act.put, List.setIfInBounds_toArray, List.set_cons_zero, List.set_cons_succ])
  refine wpAnyH_take (i := 12) (oi := { dst := some 24, op := Op.move (Operand.tmp 1), type := 22, pos := "part.go:78", after := #[{ on := 11, ground := Ground.guard }], guard := some (11, true) }) (v := ?_) rfl (by kernel_rfl) (by kernel_rfl) (by kernel_rfl) (fun _ _ _ h => h) (Or.inl ⟨by rfl, ?_⟩) hHeld ?_; rotate_left 1; (intro w9 hSw; obtain ⟨q1, q2, x0, _⟩ := hSw; go_simp; first | done | with_reducible rfl); (try simp only [Act.put, List.setIfInBounds_toArray, List.set_cons_zero, List.set_cons_succ])
  refine wpAnyH_take (i := 13) (oi := { dst := some 25, op := Op.move (Operand.tmp 1), type := 22, pos := "part.go:78", after := #[{ on := 11, ground := Ground.guard }], guard := some (11, true) }) (v := ?_) rfl (by kernel_rfl) (by kernel_rfl) (by kernel_rfl) (fun _ _ _ h => h) (Or.inl ⟨by rfl, ?_⟩) hHeld ?_; rotate_left 1; (intro w9 hSw; obtain ⟨q1, q2, x0, _⟩ := hSw; go_simp; first | done | with_reducible rfl); (try simp only [Act.put, List.setIfInBounds_toArray, List.set_cons_zero, List.set_cons_succ])
  refine wpAnyH_take (i := 14) (oi := { dst := some 26, op := Op.call { callee := Callee.builtin Builtin.len, args := #[Operand.tmp 25], argTypes := #[22] }, type := 3, pos := "part.go:78", after := #[{ on := 13, ground := Ground.data }, { on := 11, ground := Ground.guard }], guard := some (11, true) }) (v := ?_) rfl (by kernel_rfl) (by kernel_rfl) (by kernel_rfl) (fun _ _ _ h => h) (Or.inl ⟨by rfl, ?_⟩) hHeld ?_; rotate_left 1; (intro w9 hSw; obtain ⟨q1, q2, x0, _⟩ := hSw; go_simp; first | done | with_reducible rfl); (try simp only [Act.put, List.setIfInBounds_toArray, List.set_cons_zero, List.set_cons_succ])
  refine wpAnyH_take (i := 15) (oi := { dst := some 27, op := Op.binOp BinOp.sub 3 (Operand.tmp 26) (Operand.const (Value.int IntKind.i64 1)) 3, type := 3, pos := "part.go:78", after := #[{ on := 14, ground := Ground.data }, { on := 11, ground := Ground.guard }], guard := some (11, true) }) (v := ?_) rfl (by kernel_rfl) (by kernel_rfl) (by kernel_rfl) (fun _ _ _ h => h) (Or.inl ⟨by rfl, ?_⟩) hHeld ?_; rotate_left 1; (intro w9 hSw; obtain ⟨q1, q2, x0, _⟩ := hSw; go_simp; first | done | with_reducible rfl); (try simp only [Act.put, List.setIfInBounds_toArray, List.set_cons_zero, List.set_cons_succ])
  refine wpAnyH_take (i := 16) (oi := { dst := some 28, op := Op.indexAddr 22 (Operand.tmp 24) (Operand.tmp 27), type := 0, pos := "part.go:78", after := #[{ on := 12, ground := Ground.data }, { on := 15, ground := Ground.data }, { on := 11, ground := Ground.guard }], guard := some (11, true) }) (v := ?_) rfl (by kernel_rfl) (by kernel_rfl) (by kernel_rfl) (fun _ _ _ h => h) (Or.inl ⟨by rfl, ?_⟩) hHeld ?_; rotate_left 1; (intro w9 hSw; obtain ⟨q1, q2, x0, _⟩ := hSw; go_simp; first | done | with_reducible rfl); (try simp only [Act.put, List.setIfInBounds_toArray, List.set_cons_zero, List.set_cons_succ])
  refine wpAnyH_take (i := 17) (oi := { dst := some 29, op := Op.fieldAddr 45 (Operand.tmp 28) 0, type := 0, pos := "part.go:78", after := #[{ on := 16, ground := Ground.data }, { on := 11, ground := Ground.guard }], guard := some (11, true) }) (v := ?_) rfl (by kernel_rfl) (by kernel_rfl) (by kernel_rfl) (fun _ _ _ h => h) (Or.inl ⟨by rfl, ?_⟩) hHeld ?_; rotate_left 1; (intro w9 hSw; obtain ⟨q1, q2, x0, _⟩ := hSw; go_simp; first | done | with_reducible rfl); (try simp only [Act.put, List.setIfInBounds_toArray, List.set_cons_zero, List.set_cons_succ])
  refine wpAnyH_take (i := 18) (oi := { dst := some 30, op := Op.load 3 (Operand.tmp 29), type := 3, pos := "part.go:78", after := #[{ on := 17, ground := Ground.data }, { on := 11, ground := Ground.guard }], guard := some (11, true) }) (v := ?_) rfl (by kernel_rfl) (by kernel_rfl) (by kernel_rfl) (fun _ _ _ h => h) (Or.inl ⟨by rfl, ?_⟩) hHeld ?_; rotate_left 1; (intro w9 hSw; obtain ⟨q1, q2, x0, _⟩ := hSw; go_simp; first | done | with_reducible rfl); (try simp only [Act.put, List.setIfInBounds_toArray, List.set_cons_zero, List.set_cons_succ])
  refine wpAnyH_take (i := 19) (oi := { dst := some 31, op := Op.move (Operand.tmp 0), type := 24, pos := "part.go:78", after := #[{ on := 11, ground := Ground.guard }], guard := some (11, true) }) (v := ?_) rfl (by kernel_rfl) (by kernel_rfl) (by kernel_rfl) (fun _ _ _ h => h) (Or.inl ⟨by rfl, ?_⟩) hHeld ?_; rotate_left 1; (intro w9 hSw; obtain ⟨q1, q2, x0, _⟩ := hSw; go_simp; first | done | with_reducible rfl); (try simp only [Act.put, List.setIfInBounds_toArray, List.set_cons_zero, List.set_cons_succ])
  refine wpAnyH_take (i := 20) (oi := { dst := some 32, op := Op.nilCheck (Operand.tmp 31), type := 0, pos := "part.go:78", after := #[{ on := 19, ground := Ground.data }, { on := 11, ground := Ground.guard }], guard := some (11, true) }) (v := ?_) rfl (by kernel_rfl) (by kernel_rfl) (by kernel_rfl) (fun _ _ _ h => h) (Or.inl ⟨by rfl, ?_⟩) hHeld ?_; rotate_left 1; (intro w9 hSw; obtain ⟨q1, q2, x0, _⟩ := hSw; go_simp; first | done | with_reducible rfl); (try simp only [Act.put, List.setIfInBounds_toArray, List.set_cons_zero, List.set_cons_succ])
  refine wpAnyH_take (i := 21) (oi := { dst := some 33, op := Op.fieldAddr 53 (Operand.tmp 32) 2, type := 0, pos := "part.go:78", after := #[{ on := 20, ground := Ground.data }, { on := 11, ground := Ground.guard }], guard := some (11, true) }) (v := ?_) rfl (by kernel_rfl) (by kernel_rfl) (by kernel_rfl) (fun _ _ _ h => h) (Or.inl ⟨by rfl, ?_⟩) hHeld ?_; rotate_left 1; (intro w9 hSw; obtain ⟨q1, q2, x0, _⟩ := hSw; go_simp; first | done | with_reducible rfl); (try simp only [Act.put, List.setIfInBounds_toArray, List.set_cons_zero, List.set_cons_succ])
  refine wpAnyH_take (i := 22) (oi := { dst := some 34, op := Op.load 3 (Operand.tmp 33), type := 3, pos := "part.go:78", after := #[{ on := 21, ground := Ground.data }, { on := 11, ground := Ground.guard }], guard := some (11, true) }) (v := ?_) rfl (by kernel_rfl) (by kernel_rfl) (by kernel_rfl) (fun _ _ _ h => h) (Or.inl ⟨by rfl, ?_⟩) hHeld ?_; rotate_left 1; (intro w9 hSw; obtain ⟨q1, q2, x0, _⟩ := hSw; go_simp; first | done | with_reducible rfl); (try simp only [Act.put, List.setIfInBounds_toArray, List.set_cons_zero, List.set_cons_succ])
  refine wpAnyH_take (i := 23) (oi := { dst := some 35, op := Op.binOp BinOp.geq 3 (Operand.tmp 30) (Operand.tmp 34) 3, type := 4, pos := "part.go:78", after := #[{ on := 18, ground := Ground.data }, { on := 22, ground := Ground.data }, { on := 11, ground := Ground.guard }], guard := some (11, true) }) (v := ?_) rfl (by kernel_rfl) (by kernel_rfl) (by kernel_rfl) (fun _ _ _ h => h) (Or.inl ⟨by rfl, ?_⟩) hHeld ?_; rotate_left 1; (intro w9 hSw; obtain ⟨q1, q2, x0, _⟩ := hSw; go_simp; first | done | with_reducible rfl); (try simp only [Act.put, List.setIfInBounds_toArray, List.set_cons_zero, List.set_cons_succ])
  refine wpAnyH_take (i := 24) (oi := { dst := some 36, op := Op.pick (Operand.tmp 23) (Operand.tmp 35) (Operand.const (Value.bool false)), type := 4, pos := "part.go:78", after := #[{ on := 11, ground := Ground.data }, { on := 23, ground := Ground.data }, { on := 7, ground := Ground.guard }], guard := some (7, false) }) (v := ?_) rfl (by kernel_rfl) (by kernel_rfl) (by kernel_rfl) (fun _ _ _ h => h) (Or.inl ⟨by rfl, ?_⟩) hHeld ?_; rotate_left 1; (intro w9 hSw; obtain ⟨q1, q2, x0, _⟩ := hSw; go_simp; first | done | with_reducible rfl); (try simp only [Act.put, List.setIfInBounds_toArray, List.set_cons_zero, List.set_cons_succ])
  refine wpAnyH_take (i := 25) (oi := { dst := some 37, op := Op.pick (Operand.tmp 19) (Operand.const (Value.bool true)) (Operand.tmp 36), type := 4, pos := "part.go:78", after := #[{ on := 7, ground := Ground.data }, { on := 24, ground := Ground.data }], guard := none }) (v := ?_) rfl (by kernel_rfl) (by kernel_rfl) (by kernel_rfl) (fun _ _ _ h => h) (Or.inl ⟨by rfl, ?_⟩) hHeld ?_; rotate_left 1; (intro w9 hSw; obtain ⟨q1, q2, x0, _⟩ := hSw; go_simp; first | done | with_reducible rfl); (try simp only [Act.put, List.setIfInBounds_toArray, List.set_cons_zero, List.set_cons_succ])
  refine wpAnyH_take (i := 26) (oi := { dst := some 11, op := Op.assign (Operand.tmp 37), type := 4, pos := "part.go:78", after := #[{ on := 25, ground := Ground.data }, { on := 11, ground := Ground.chain }], guard := none }) (v := ?_) rfl (by kernel_rfl) (by kernel_rfl) (by kernel_rfl) (fun _ _ _ h => h) (Or.inl ⟨by rfl, ?_⟩) hHeld ?_; rotate_left 1; (intro w9 hSw; obtain ⟨q1, q2, x0, _⟩ := hSw; go_simp; first | done | with_reducible rfl); (try simp only [Act.put, List.setIfInBounds_toArray, List.set_cons_zero, List.set_cons_succ])
  refine wpAnyH_done (by kernel_rfl) ?_ _
  have B3 := Lib.hid hHeld.bel
  clear hHeld hS
  go_wp2_with fail
  refine (clone_any _ c xs _ (Kd.C_below HR.out B3.out) hc hl).mono ?_
  rintro e w5 ⟨u, rfl, hR, b5⟩
  obtain ⟨A3, c3, rfl⟩ := Kd.R_slice hR
  have hp5 := (H.out.below B3.out).below b5
  have c5 : w5.cell? ⟨g, 0, none⟩ = some v := (blk_cell hp5.blk 0).trans rfl
  have f5 := blk_free hp5.blk 0
  have K5 := Lib.hid hp5
  have R5 := Lib.hid hR
  have B5 := Lib.hid b5
  clear hp5 hR b5
  go_wp2
  go_ret
  refine ⟨rfl, .slice A3 xs.length c3, ⟨heap_set K5.out.blk (i := 0) _, H.out.lo, Kd.R_far (newRow R5.out (Nat.le_trans H.out.lo (Nat.le_of_lt (blk_lt (H.out.below B3.out).blk))) (blk_lt (H.out.below B3.out).blk)) (fun k hk => hk) _⟩, ?_, newOwn R5.out (Nat.le_trans B2.out.size B3.out.size)⟩
  exact Fr.set ((Fr.refl g _ w).below (below_two (below_two B2.out B3.out) B5.out)) _ _
end Go.Proofs.Ytmkipdleggkkkaa.Own
/- The walks of record.Size and of Bytes. -/
namespace Go.Proofs.Ytmkipdleggkkkaa.Own
open Go.RowKit Go.Proofs.YtmkipdleggkkkaaW.PrintWords Go.Proofs.YtmkipdleggkkkaaW.PrintLast Go.Proofs.YtmkipdleggkkkaaW.PrintMore
set_option maxRecDepth 100000
set_option linter.unusedSimpArgs false
set_option linter.unusedVariables false
theorem size_any (x : PB.S45) (w : World) : Calls Try.prog 29 #[.agg #[.int .i64 x.f0, .int .i64 x.f1, .string x.f2, .string x.f3, .bool x.f4, .int .i64 x.f5, .int .i64 x.f6, .int .i64 x.f7]] w fun e w' => e = .returned (.int .i64 (PuB.szR x)) ∧ Below w.heap.size w w' := by
  obtain ⟨k, hk⟩ := Ev.rounds (PuB.recSize_ev x)
  exact PB.record_Size.calls k _ _ _ _ _ _ _ _ _ w hk
/-- How many bytes records have. -/
def sumS (l : List PB.S45) (n : Int) : Int := l.foldl (fun n x => wrap64 (n + PuB.szR x)) n
theorem sumS_take (l : List PB.S45) (k : Nat) (hk : k < l.length) : sumS (l.take (k + 1)) 0 = wrap64 (sumS (l.take k) 0 + PuB.szR (PB.rd_T45 l (k : Int))) := by
  rw [List.take_succ_eq_append_getElem hk, sumS, List.foldl_append, rd_get l k hk]
  rfl
theorem bytes_any {B g : Nat} {v : Value} {l : List PB.S45} {st nx mk : Int} {w : World} (h : PS B g v l st nx mk w) (hl : l.length ≤ 60000) : Calls Try.prog 15 #[.pointer (some ⟨g, 0, none⟩)] w fun e w' => e = .returned (.int .i64 (sumS l 0)) ∧ Below w.heap.size w w' := by
  go_enter Try.func15, Try.ntmps15
  go_wp2_with fail
  refine (all_any h hl).mono ?_
  rintro e w2 ⟨u, rfl, hR, b2⟩
  obtain ⟨A, c, rfl⟩ := Kd.R_slice hR
  have hC := Kd.R_reads' hR
  have HC := Lib.hid hC.2.2
  have hc := hC.2.1
  have B2 := Lib.hid b2
  clear hC hR b2 h
  go_wp2_with fail
  go_loopw [3, 9] (fun n i wr => ∃ k : Nat, k ≤ l.length ∧ i = .int .i64 k ∧ n = .int .i64 (sumS (l.take k) 0) ∧ Below w2.heap.size w2 wr) (fun _ i _ => l.length - (intOf i).toNat)
  case atStart => exact ⟨0, Nat.zero_le _, rfl, by rw [List.take_zero]; rfl, Below.refl _ _⟩
  case round =>
    obtain ⟨k, hk, rfl, rfl, bel⟩ := hrel
    have Bel := Lib.hid bel; clear bel
    by_cases hlt : k < l.length
    · have p1 : (0 : Int) ≤ (k : Int) := Int.natCast_nonneg _
      have p2 : (k : Int) < (l.length : Int) := by omega
      have hd := sumS_take l k hlt
      have hw : wrap64 ((k : Int) + 1) = ((k + 1 : Nat) : Int) := by unfold wrap64; omega
      obtain ⟨ad, e1, x0, x1, x2, x3, x4, x5, x6, x7⟩ := PB.at_T45 (Kd.C_below HC.out Bel.out) (k : Int) p1 p2
      cases e1
      rw [Int.toNat_natCast] at x0 x1 x2 x3 x4 x5 x6 x7
      generalize PB.rd_T45 l (k : Int) = x at *
      generalize sumS (l.take k) 0 = s at *
      have Hd := Lib.hid hd; clear hd
      go_wp2_with fail
      refine (size_any x _).mono ?_
      rintro e w4 ⟨rfl, b4⟩
      have B4 := Lib.hid (below_two (below_two Bel.out ((Below.refl _ _).alloc (Nat.le_refl _) _)) b4); clear b4
      clear x0 x1 x2 x3 x4 x5 x6 x7
      go_wp2
      go_roundw
      case rel => exact ⟨k + 1, by omega, by go_num, by rw [Hd.out], B4.out⟩
      case measure => simp [intOf]; omega
    · obtain rfl : k = l.length := by omega
      have p2 : ¬ (l.length : Int) < (l.length : Int) := by omega
      go_wp2
      go_ret
      exact ⟨rfl, below_two B2.out Bel.out⟩
end Go.Proofs.Ytmkipdleggkkkaa.Own
