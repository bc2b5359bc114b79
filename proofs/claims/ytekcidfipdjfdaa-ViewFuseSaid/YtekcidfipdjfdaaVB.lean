/- Views: a step, Write, Flush. -/
import Derived.Test.YtekcidfipdjfdaaVA
namespace Go.Proofs.Ytekcidfipdjfdaa.Own
open Go.RowKit Go.Proofs.YtekcidfipdjfdaaW.PrintWords Go.Proofs.Ytekcidfipdjfdaa.PB
set_option maxRecDepth 100000
set_option linter.unusedSimpArgs false
set_option linter.unusedVariables false
theorem one_0 {w : World} {k t : Nat} {a : Value} (h : w.heap[k]? = some (.cells #[a] t (0, 0))) : w.cell? ⟨k, 0, none⟩ = some a := (blk_cell h 0).trans rfl
theorem vc_0 {w : World} {p g : Nat} {fr n fu st : Int} {de : Bool} (h : w.heap[p]? = some (.cells (vc g fr n fu st de) 52 (0, 0))) : w.cell? ⟨p, 0, none⟩ = some (.pointer (some ⟨g, 0, none⟩)) := (blk_cell h 0).trans rfl
theorem vc_1 {w : World} {p g : Nat} {fr n fu st : Int} {de : Bool} (h : w.heap[p]? = some (.cells (vc g fr n fu st de) 52 (0, 0))) : w.cell? ⟨p, 1, none⟩ = some (.int .i64 fr) := (blk_cell h 1).trans rfl
theorem vc_2 {w : World} {p g : Nat} {fr n fu st : Int} {de : Bool} (h : w.heap[p]? = some (.cells (vc g fr n fu st de) 52 (0, 0))) : w.cell? ⟨p, 2, none⟩ = some (.int .i64 n) := (blk_cell h 2).trans rfl
/-- Another block stays where a cell of the view is set. -/
theorem set_far {w : World} {k p t : Nat} {c d : Array Value} (hk : w.heap[k]? = some (.cells c t (0, 0))) (hp : w.heap[p]? = some (.cells d 52 (0, 0))) (ht : t ≠ 52) (j : Nat) (u : Value) : (w.setCell ⟨p, j, none⟩ u).heap[k]? = some (.cells c t (0, 0)) :=
  (heap_far w ⟨p, j, none⟩ u (show k ≠ p by rintro rfl; rw [hp] at hk; cases hk; exact ht rfl)).trans hk
theorem wrap_fit {a : Int} (h : -9223372036854775808 ≤ a) (h1 : a ≤ 9223372036854775807) : IntKind.i64.wrap a = a := by simp [IntKind.wrap, IntKind.bits, IntKind.signed] <;> omega
set_option maxHeartbeats 4000000 in
theorem cw_ok {B p g o : Nat} {v : Value} {L : List ByteArray} {W : List S79} {fr n fu st : Int} {de : Bool} {w0 w : World} (h : VW B p g o v L W fr n fu st de w0 w) (hB : w0.heap.size ≤ B) (k : Nat) (at_ : Int) (hk : fr + at_ = (k : Int)) (hkl : k < L.length) (s : ByteArray) (hs : s.size = 64) (hW : W.length ≤ 1000000) (b3 b4 b5 : Nat)
    (X3 : Hid (w.heap[b3]? = some (.cells #[.pointer (some ⟨p, 0, none⟩)] 29 (0, 0)))) (X4 : Hid (w.heap[b4]? = some (.cells #[.int .i64 at_] 3 (0, 0)))) (X5 : Hid (w.heap[b5]? = some (.cells #[.string s] 9 (0, 0)))) :
    Calls Try.prog 27 #[.pointer (some ⟨b3, 0, none⟩), .pointer (some ⟨b4, 0, none⟩), .pointer (some ⟨b5, 0, none⟩)] w fun e w' => e = .returned (.int .i64 0) ∧ ∃ v', VW B p g o v' L (W ++ [⟨(k : Int), s⟩]) fr n fu st de w0 w' := by
  have D := Lib.hid h
  have HK := Lib.hid hkl
  have HS := Lib.hid hs
  have HF := h.d.few
  have k8 : (k : Int) ≤ 8192 := by omega
  have k0 : (0 : Int) ≤ (k : Int) := Int.natCast_nonneg _
  clear h hkl hs
  go_enter Try.func27, Try.ntmps27
  go_upto_region 1 with (fail)
  refine wp_region_held_drew (S := fun w' => w'.heap[b3]? = some (.cells #[.pointer (some ⟨p, 0, none⟩)] 29 (0, 0)) ∧ w'.heap[b4]? = some (.cells #[.int .i64 at_] 3 (0, 0)) ∧ w'.heap[b5]? = some (.cells #[.string s] 9 (0, 0)) ∧ w'.heap[p]? = some (.cells (vc g fr n fu st de) 52 (0, 0))) (by kernel_rfl) (⟨X3.out, X4.out, X5.out, D.out.v⟩) (fun hHeld => ?_)
  refine wpAnyH_take (i := 0) (oi := { dst := some 4, op := Op.load 29 (Operand.tmp 0), type := 29, pos := "view.go:80", after := #[], guard := none }) (v := ?_) rfl (by kernel_rfl) (by kernel_rfl) (by kernel_rfl) (fun _ _ _ h => h) (Or.inl ⟨by rfl, ?_⟩) hHeld ?_; rotate_left 1; (intro w9 hSw; obtain ⟨q3, q4, q5, qv⟩ := hSw; have r3 := one_0 q3; have r4 := one_0 q4; have r5 := one_0 q5; have r0 := vc_0 qv; have r1 := vc_1 qv; have r2 := vc_2 qv; clear q3 q4 q5 qv; go_simp; first | done | with_reducible rfl); (try simp only [Act.put, List.setIfInBounds_toArray, List.set_cons_zero, List.set_cons_succ])
  refine wpAnyH_take (i := 1) (oi := { dst := some 5, op := Op.nilCheck (Operand.tmp 4), type := 0, pos := "view.go:80", after := #[{ on := 0, ground := Ground.data }], guard := none }) (v := ?_) rfl (by kernel_rfl) (by kernel_rfl) (by kernel_rfl) (fun _ _ _ h => h) (Or.inl ⟨by rfl, ?_⟩) hHeld ?_; rotate_left 1; (intro w9 hSw; obtain ⟨q3, q4, q5, qv⟩ := hSw; have r3 := one_0 q3; have r4 := one_0 q4; have r5 := one_0 q5; have r0 := vc_0 qv; have r1 := vc_1 qv; have r2 := vc_2 qv; clear q3 q4 q5 qv; go_simp; first | done | with_reducible rfl); (try simp only [Act.put, List.setIfInBounds_toArray, List.set_cons_zero, List.set_cons_succ])
  refine wpAnyH_take (i := 2) (oi := { dst := some 6, op := Op.fieldAddr 52 (Operand.tmp 5) 0, type := 0, pos := "view.go:80", after := #[{ on := 1, ground := Ground.data }], guard := none }) (v := ?_) rfl (by kernel_rfl) (by kernel_rfl) (by kernel_rfl) (fun _ _ _ h => h) (Or.inl ⟨by rfl, ?_⟩) hHeld ?_; rotate_left 1; (intro w9 hSw; obtain ⟨q3, q4, q5, qv⟩ := hSw; have r3 := one_0 q3; have r4 := one_0 q4; have r5 := one_0 q5; have r0 := vc_0 qv; have r1 := vc_1 qv; have r2 := vc_2 qv; clear q3 q4 q5 qv; go_simp; first | done | with_reducible rfl); (try simp only [Act.put, List.setIfInBounds_toArray, List.set_cons_zero, List.set_cons_succ])
  refine wpAnyH_take (i := 3) (oi := { dst := some 7, op := Op.load 25 (Operand.tmp 6), type := 25, pos := "view.go:80", after := #[{ on := 2, ground := Ground.data }], guard := none }) (v := ?_) rfl (by kernel_rfl) (by kernel_rfl) (by kernel_rfl) (fun _ _ _ h => h) (Or.inl ⟨by rfl, ?_⟩) hHeld ?_; rotate_left 1; (intro w9 hSw; obtain ⟨q3, q4, q5, qv⟩ := hSw; have r3 := one_0 q3; have r4 := one_0 q4; have r5 := one_0 q5; have r0 := vc_0 qv; have r1 := vc_1 qv; have r2 := vc_2 qv; clear q3 q4 q5 qv; go_simp; first | done | with_reducible rfl); (try simp only [Act.put, List.setIfInBounds_toArray, List.set_cons_zero, List.set_cons_succ])
  refine wpAnyH_take (i := 4) (oi := { dst := some 8, op := Op.load 29 (Operand.tmp 0), type := 29, pos := "view.go:80", after := #[], guard := none }) (v := ?_) rfl (by kernel_rfl) (by kernel_rfl) (by kernel_rfl) (fun _ _ _ h => h) (Or.inl ⟨by rfl, ?_⟩) hHeld ?_; rotate_left 1; (intro w9 hSw; obtain ⟨q3, q4, q5, qv⟩ := hSw; have r3 := one_0 q3; have r4 := one_0 q4; have r5 := one_0 q5; have r0 := vc_0 qv; have r1 := vc_1 qv; have r2 := vc_2 qv; clear q3 q4 q5 qv; go_simp; first | done | with_reducible rfl); (try simp only [Act.put, List.setIfInBounds_toArray, List.set_cons_zero, List.set_cons_succ])
  refine wpAnyH_take (i := 5) (oi := { dst := some 9, op := Op.nilCheck (Operand.tmp 8), type := 0, pos := "view.go:80", after := #[{ on := 4, ground := Ground.data }], guard := none }) (v := ?_) rfl (by kernel_rfl) (by kernel_rfl) (by kernel_rfl) (fun _ _ _ h => h) (Or.inl ⟨by rfl, ?_⟩) hHeld ?_; rotate_left 1; (intro w9 hSw; obtain ⟨q3, q4, q5, qv⟩ := hSw; have r3 := one_0 q3; have r4 := one_0 q4; have r5 := one_0 q5; have r0 := vc_0 qv; have r1 := vc_1 qv; have r2 := vc_2 qv; clear q3 q4 q5 qv; go_simp; first | done | with_reducible rfl); (try simp only [Act.put, List.setIfInBounds_toArray, List.set_cons_zero, List.set_cons_succ])
  refine wpAnyH_take (i := 6) (oi := { dst := some 10, op := Op.fieldAddr 52 (Operand.tmp 9) 1, type := 0, pos := "view.go:80", after := #[{ on := 5, ground := Ground.data }], guard := none }) (v := ?_) rfl (by kernel_rfl) (by kernel_rfl) (by kernel_rfl) (fun _ _ _ h => h) (Or.inl ⟨by rfl, ?_⟩) hHeld ?_; rotate_left 1; (intro w9 hSw; obtain ⟨q3, q4, q5, qv⟩ := hSw; have r3 := one_0 q3; have r4 := one_0 q4; have r5 := one_0 q5; have r0 := vc_0 qv; have r1 := vc_1 qv; have r2 := vc_2 qv; clear q3 q4 q5 qv; go_simp; first | done | with_reducible rfl); (try simp only [Act.put, List.setIfInBounds_toArray, List.set_cons_zero, List.set_cons_succ])
  refine wpAnyH_take (i := 7) (oi := { dst := some 11, op := Op.load 3 (Operand.tmp 10), type := 3, pos := "view.go:80", after := #[{ on := 6, ground := Ground.data }], guard := none }) (v := ?_) rfl (by kernel_rfl) (by kernel_rfl) (by kernel_rfl) (fun _ _ _ h => h) (Or.inl ⟨by rfl, ?_⟩) hHeld ?_; rotate_left 1; (intro w9 hSw; obtain ⟨q3, q4, q5, qv⟩ := hSw; have r3 := one_0 q3; have r4 := one_0 q4; have r5 := one_0 q5; have r0 := vc_0 qv; have r1 := vc_1 qv; have r2 := vc_2 qv; clear q3 q4 q5 qv; go_simp; first | done | with_reducible rfl); (try simp only [Act.put, List.setIfInBounds_toArray, List.set_cons_zero, List.set_cons_succ])
  refine wpAnyH_take (i := 8) (oi := { dst := some 12, op := Op.load 3 (Operand.tmp 1), type := 3, pos := "view.go:80", after := #[], guard := none }) (v := ?_) rfl (by kernel_rfl) (by kernel_rfl) (by kernel_rfl) (fun _ _ _ h => h) (Or.inl ⟨by rfl, ?_⟩) hHeld ?_; rotate_left 1; (intro w9 hSw; obtain ⟨q3, q4, q5, qv⟩ := hSw; have r3 := one_0 q3; have r4 := one_0 q4; have r5 := one_0 q5; have r0 := vc_0 qv; have r1 := vc_1 qv; have r2 := vc_2 qv; clear q3 q4 q5 qv; go_simp; first | done | with_reducible rfl); (try simp only [Act.put, List.setIfInBounds_toArray, List.set_cons_zero, List.set_cons_succ])
  refine wpAnyH_take (i := 9) (oi := { dst := some 13, op := Op.binOp BinOp.add 3 (Operand.tmp 11) (Operand.tmp 12) 3, type := 3, pos := "view.go:80", after := #[{ on := 7, ground := Ground.data }, { on := 8, ground := Ground.data }], guard := none }) (v := .int .i64 (k : Int)) rfl (by kernel_rfl) (by kernel_rfl) (by kernel_rfl) (fun _ _ _ h => h) (Or.inl ⟨by rfl, ?_⟩) hHeld ?_; (intro w9 hSw; obtain ⟨q3, q4, q5, qv⟩ := hSw; clear q3 q4 q5 qv; go_simp; first | exact wrap_fit (by omega) (by omega) | done | with_reducible rfl); (try simp only [Act.put, List.setIfInBounds_toArray, List.set_cons_zero, List.set_cons_succ])
  refine wpAnyH_take (i := 10) (oi := { dst := some 14, op := Op.load 9 (Operand.tmp 2), type := 9, pos := "view.go:80", after := #[], guard := none }) (v := ?_) rfl (by kernel_rfl) (by kernel_rfl) (by kernel_rfl) (fun _ _ _ h => h) (Or.inl ⟨by rfl, ?_⟩) hHeld ?_; rotate_left 1; (intro w9 hSw; obtain ⟨q3, q4, q5, qv⟩ := hSw; have r3 := one_0 q3; have r4 := one_0 q4; have r5 := one_0 q5; have r0 := vc_0 qv; have r1 := vc_1 qv; have r2 := vc_2 qv; clear q3 q4 q5 qv; go_simp; first | done | with_reducible rfl); (try simp only [Act.put, List.setIfInBounds_toArray, List.set_cons_zero, List.set_cons_succ])
  refine wpAnyH_ready (rs := [11]) (by kernel_rfl) (by simp) ?_; refine AllReadyH.cons (o := { dst := some 15, op := Op.call { callee := Callee.value (Operand.func 23), args := #[Operand.tmp 7, Operand.tmp 13, Operand.tmp 14], argTypes := #[25, 3, 9] }, type := 26, pos := "view.go:80", after := #[{ on := 3, ground := Ground.data }, { on := 9, ground := Ground.data }, { on := 10, ground := Ground.data }], guard := none }) rfl (fun K hK => ?_) AllReadyH.nil; go_simp; refine (write_ok D.out.d.drew k HK.out s HS.out hW).mono ?_; rintro e w7 ⟨rfl, v7, hd7, hf7, _⟩; have D7 := Lib.hid (D.out.drew.upto hB hd7 hf7); (try go_wp2_with fail); refine hK.out _ _ ⟨not_fs D.out.drew.d hf7 X3.out (by decide), not_fs D.out.drew.d hf7 X4.out (by decide), not_fs D.out.drew.d hf7 X5.out (by decide), D7.out.v⟩ (fun hHeld => ?_); clear hK; (try simp only [Act.put, List.setIfInBounds_toArray, List.set_cons_zero, List.set_cons_succ])
  refine wpAnyH_take (i := 12) (oi := { dst := some 3, op := Op.assign (Operand.tmp 15), type := 26, pos := "view.go:80", after := #[{ on := 11, ground := Ground.data }, { on := 11, ground := Ground.chain }, { on := 0, ground := Ground.phase }, { on := 1, ground := Ground.phase }, { on := 2, ground := Ground.phase }, { on := 3, ground := Ground.phase }, { on := 4, ground := Ground.phase }, { on := 5, ground := Ground.phase }, { on := 6, ground := Ground.phase }, { on := 7, ground := Ground.phase }, { on := 8, ground := Ground.phase }, { on := 9, ground := Ground.phase }, { on := 10, ground := Ground.phase }, { on := 11, ground := Ground.phase }], guard := none }) (v := ?_) rfl (by kernel_rfl) (by kernel_rfl) (by kernel_rfl) (fun _ _ _ h => h) (Or.inl ⟨by rfl, ?_⟩) hHeld ?_; rotate_left 1; (intro w9 hSw; obtain ⟨q3, q4, q5, qv⟩ := hSw; have r3 := one_0 q3; have r4 := one_0 q4; have r5 := one_0 q5; have r0 := vc_0 qv; have r1 := vc_1 qv; have r2 := vc_2 qv; clear q3 q4 q5 qv; go_simp; first | done | with_reducible rfl); (try simp only [Act.put, List.setIfInBounds_toArray, List.set_cons_zero, List.set_cons_succ])
  refine wpAnyH_done (by kernel_rfl) ?_ _
  go_wp2
  go_ret
  exact ⟨rfl, v7, D7.out⟩
set_option maxHeartbeats 4000000 in
theorem cf_ok {B p g o : Nat} {v : Value} {L : List ByteArray} {W : List S79} {fr n fu st : Int} {de : Bool} {w0 w : World} (h : VW B p g o v L W fr n fu st de w0 w) (hB : w0.heap.size ≤ B) (hs : spanB L.length fr n = true) (hW : W.length ≤ 1000000) (b3 : Nat)
    (X3 : Hid (w.heap[b3]? = some (.cells #[.pointer (some ⟨p, 0, none⟩)] 29 (0, 0)))) :
    Calls Try.prog 28 #[.pointer (some ⟨b3, 0, none⟩)] w fun e w' => e = .returned (.int .i64 0) ∧ ∃ v', VW B p g o v' (setF L (inF fr n W)) (outF fr n W) fr n fu st de w0 w' := by
  have D := Lib.hid h
  have HS := Lib.hid hs
  clear h hs
  go_enter Try.func28, Try.ntmps28
  go_upto_region 1 with (fail)
  refine wp_region_held_drew (S := fun w' => w'.heap[b3]? = some (.cells #[.pointer (some ⟨p, 0, none⟩)] 29 (0, 0)) ∧ w'.heap[p]? = some (.cells (vc g fr n fu st de) 52 (0, 0))) (by kernel_rfl) (⟨X3.out, D.out.v⟩) (fun hHeld => ?_)
  refine wpAnyH_take (i := 0) (oi := { dst := some 2, op := Op.load 29 (Operand.tmp 0), type := 29, pos := "view.go:88", after := #[], guard := none }) (v := ?_) rfl (by kernel_rfl) (by kernel_rfl) (by kernel_rfl) (fun _ _ _ h => h) (Or.inl ⟨by rfl, ?_⟩) hHeld ?_; rotate_left 1; (intro w9 hSw; obtain ⟨q3, qv⟩ := hSw; have r3 := one_0 q3; have r0 := vc_0 qv; have r1 := vc_1 qv; have r2 := vc_2 qv; clear q3 qv; go_simp; first | done | with_reducible rfl); (try simp only [Act.put, List.setIfInBounds_toArray, List.set_cons_zero, List.set_cons_succ])
  refine wpAnyH_take (i := 1) (oi := { dst := some 3, op := Op.nilCheck (Operand.tmp 2), type := 0, pos := "view.go:88", after := #[{ on := 0, ground := Ground.data }], guard := none }) (v := ?_) rfl (by kernel_rfl) (by kernel_rfl) (by kernel_rfl) (fun _ _ _ h => h) (Or.inl ⟨by rfl, ?_⟩) hHeld ?_; rotate_left 1; (intro w9 hSw; obtain ⟨q3, qv⟩ := hSw; have r3 := one_0 q3; have r0 := vc_0 qv; have r1 := vc_1 qv; have r2 := vc_2 qv; clear q3 qv; go_simp; first | done | with_reducible rfl); (try simp only [Act.put, List.setIfInBounds_toArray, List.set_cons_zero, List.set_cons_succ])
  refine wpAnyH_take (i := 2) (oi := { dst := some 4, op := Op.fieldAddr 52 (Operand.tmp 3) 0, type := 0, pos := "view.go:88", after := #[{ on := 1, ground := Ground.data }], guard := none }) (v := ?_) rfl (by kernel_rfl) (by kernel_rfl) (by kernel_rfl) (fun _ _ _ h => h) (Or.inl ⟨by rfl, ?_⟩) hHeld ?_; rotate_left 1; (intro w9 hSw; obtain ⟨q3, qv⟩ := hSw; have r3 := one_0 q3; have r0 := vc_0 qv; have r1 := vc_1 qv; have r2 := vc_2 qv; clear q3 qv; go_simp; first | done | with_reducible rfl); (try simp only [Act.put, List.setIfInBounds_toArray, List.set_cons_zero, List.set_cons_succ])
  refine wpAnyH_take (i := 3) (oi := { dst := some 5, op := Op.load 25 (Operand.tmp 4), type := 25, pos := "view.go:88", after := #[{ on := 2, ground := Ground.data }], guard := none }) (v := ?_) rfl (by kernel_rfl) (by kernel_rfl) (by kernel_rfl) (fun _ _ _ h => h) (Or.inl ⟨by rfl, ?_⟩) hHeld ?_; rotate_left 1; (intro w9 hSw; obtain ⟨q3, qv⟩ := hSw; have r3 := one_0 q3; have r0 := vc_0 qv; have r1 := vc_1 qv; have r2 := vc_2 qv; clear q3 qv; go_simp; first | done | with_reducible rfl); (try simp only [Act.put, List.setIfInBounds_toArray, List.set_cons_zero, List.set_cons_succ])
  refine wpAnyH_take (i := 4) (oi := { dst := some 6, op := Op.load 29 (Operand.tmp 0), type := 29, pos := "view.go:88", after := #[], guard := none }) (v := ?_) rfl (by kernel_rfl) (by kernel_rfl) (by kernel_rfl) (fun _ _ _ h => h) (Or.inl ⟨by rfl, ?_⟩) hHeld ?_; rotate_left 1; (intro w9 hSw; obtain ⟨q3, qv⟩ := hSw; have r3 := one_0 q3; have r0 := vc_0 qv; have r1 := vc_1 qv; have r2 := vc_2 qv; clear q3 qv; go_simp; first | done | with_reducible rfl); (try simp only [Act.put, List.setIfInBounds_toArray, List.set_cons_zero, List.set_cons_succ])
  refine wpAnyH_take (i := 5) (oi := { dst := some 7, op := Op.nilCheck (Operand.tmp 6), type := 0, pos := "view.go:88", after := #[{ on := 4, ground := Ground.data }], guard := none }) (v := ?_) rfl (by kernel_rfl) (by kernel_rfl) (by kernel_rfl) (fun _ _ _ h => h) (Or.inl ⟨by rfl, ?_⟩) hHeld ?_; rotate_left 1; (intro w9 hSw; obtain ⟨q3, qv⟩ := hSw; have r3 := one_0 q3; have r0 := vc_0 qv; have r1 := vc_1 qv; have r2 := vc_2 qv; clear q3 qv; go_simp; first | done | with_reducible rfl); (try simp only [Act.put, List.setIfInBounds_toArray, List.set_cons_zero, List.set_cons_succ])
  refine wpAnyH_take (i := 6) (oi := { dst := some 8, op := Op.fieldAddr 52 (Operand.tmp 7) 1, type := 0, pos := "view.go:88", after := #[{ on := 5, ground := Ground.data }], guard := none }) (v := ?_) rfl (by kernel_rfl) (by kernel_rfl) (by kernel_rfl) (fun _ _ _ h => h) (Or.inl ⟨by rfl, ?_⟩) hHeld ?_; rotate_left 1; (intro w9 hSw; obtain ⟨q3, qv⟩ := hSw; have r3 := one_0 q3; have r0 := vc_0 qv; have r1 := vc_1 qv; have r2 := vc_2 qv; clear q3 qv; go_simp; first | done | with_reducible rfl); (try simp only [Act.put, List.setIfInBounds_toArray, List.set_cons_zero, List.set_cons_succ])
  refine wpAnyH_take (i := 7) (oi := { dst := some 9, op := Op.load 3 (Operand.tmp 8), type := 3, pos := "view.go:88", after := #[{ on := 6, ground := Ground.data }], guard := none }) (v := ?_) rfl (by kernel_rfl) (by kernel_rfl) (by kernel_rfl) (fun _ _ _ h => h) (Or.inl ⟨by rfl, ?_⟩) hHeld ?_; rotate_left 1; (intro w9 hSw; obtain ⟨q3, qv⟩ := hSw; have r3 := one_0 q3; have r0 := vc_0 qv; have r1 := vc_1 qv; have r2 := vc_2 qv; clear q3 qv; go_simp; first | done | with_reducible rfl); (try simp only [Act.put, List.setIfInBounds_toArray, List.set_cons_zero, List.set_cons_succ])
  refine wpAnyH_take (i := 8) (oi := { dst := some 10, op := Op.load 29 (Operand.tmp 0), type := 29, pos := "view.go:88", after := #[], guard := none }) (v := ?_) rfl (by kernel_rfl) (by kernel_rfl) (by kernel_rfl) (fun _ _ _ h => h) (Or.inl ⟨by rfl, ?_⟩) hHeld ?_; rotate_left 1; (intro w9 hSw; obtain ⟨q3, qv⟩ := hSw; have r3 := one_0 q3; have r0 := vc_0 qv; have r1 := vc_1 qv; have r2 := vc_2 qv; clear q3 qv; go_simp; first | done | with_reducible rfl); (try simp only [Act.put, List.setIfInBounds_toArray, List.set_cons_zero, List.set_cons_succ])
  refine wpAnyH_take (i := 9) (oi := { dst := some 11, op := Op.nilCheck (Operand.tmp 10), type := 0, pos := "view.go:88", after := #[{ on := 8, ground := Ground.data }], guard := none }) (v := ?_) rfl (by kernel_rfl) (by kernel_rfl) (by kernel_rfl) (fun _ _ _ h => h) (Or.inl ⟨by rfl, ?_⟩) hHeld ?_; rotate_left 1; (intro w9 hSw; obtain ⟨q3, qv⟩ := hSw; have r3 := one_0 q3; have r0 := vc_0 qv; have r1 := vc_1 qv; have r2 := vc_2 qv; clear q3 qv; go_simp; first | done | with_reducible rfl); (try simp only [Act.put, List.setIfInBounds_toArray, List.set_cons_zero, List.set_cons_succ])
  refine wpAnyH_take (i := 10) (oi := { dst := some 12, op := Op.fieldAddr 52 (Operand.tmp 11) 2, type := 0, pos := "view.go:88", after := #[{ on := 9, ground := Ground.data }], guard := none }) (v := ?_) rfl (by kernel_rfl) (by kernel_rfl) (by kernel_rfl) (fun _ _ _ h => h) (Or.inl ⟨by rfl, ?_⟩) hHeld ?_; rotate_left 1; (intro w9 hSw; obtain ⟨q3, qv⟩ := hSw; have r3 := one_0 q3; have r0 := vc_0 qv; have r1 := vc_1 qv; have r2 := vc_2 qv; clear q3 qv; go_simp; first | done | with_reducible rfl); (try simp only [Act.put, List.setIfInBounds_toArray, List.set_cons_zero, List.set_cons_succ])
  refine wpAnyH_take (i := 11) (oi := { dst := some 13, op := Op.load 3 (Operand.tmp 12), type := 3, pos := "view.go:88", after := #[{ on := 10, ground := Ground.data }], guard := none }) (v := ?_) rfl (by kernel_rfl) (by kernel_rfl) (by kernel_rfl) (fun _ _ _ h => h) (Or.inl ⟨by rfl, ?_⟩) hHeld ?_; rotate_left 1; (intro w9 hSw; obtain ⟨q3, qv⟩ := hSw; have r3 := one_0 q3; have r0 := vc_0 qv; have r1 := vc_1 qv; have r2 := vc_2 qv; clear q3 qv; go_simp; first | done | with_reducible rfl); (try simp only [Act.put, List.setIfInBounds_toArray, List.set_cons_zero, List.set_cons_succ])
  refine wpAnyH_ready (rs := [12]) (by kernel_rfl) (by simp) ?_; refine AllReadyH.cons (o := { dst := some 14, op := Op.call { callee := Callee.value (Operand.func 24), args := #[Operand.tmp 5, Operand.tmp 9, Operand.tmp 13], argTypes := #[25, 3, 3] }, type := 26, pos := "view.go:88", after := #[{ on := 3, ground := Ground.data }, { on := 7, ground := Ground.data }, { on := 11, ground := Ground.data }], guard := none }) rfl (fun K hK => ?_) AllReadyH.nil; go_simp; refine (flush_ok D.out.d.drew fr n HS.out hW).mono ?_; rintro e w7 ⟨rfl, v7, hd7, hf7, _⟩; have D7 := Lib.hid (D.out.drew.upto hB hd7 hf7); (try go_wp2_with fail); refine hK.out _ _ ⟨not_fs D.out.drew.d hf7 X3.out (by decide), D7.out.v⟩ (fun hHeld => ?_); clear hK; (try simp only [Act.put, List.setIfInBounds_toArray, List.set_cons_zero, List.set_cons_succ])
  refine wpAnyH_take (i := 13) (oi := { dst := some 1, op := Op.assign (Operand.tmp 14), type := 26, pos := "view.go:88", after := #[{ on := 12, ground := Ground.data }, { on := 12, ground := Ground.chain }, { on := 0, ground := Ground.phase }, { on := 1, ground := Ground.phase }, { on := 2, ground := Ground.phase }, { on := 3, ground := Ground.phase }, { on := 4, ground := Ground.phase }, { on := 5, ground := Ground.phase }, { on := 6, ground := Ground.phase }, { on := 7, ground := Ground.phase }, { on := 8, ground := Ground.phase }, { on := 9, ground := Ground.phase }, { on := 10, ground := Ground.phase }, { on := 11, ground := Ground.phase }, { on := 12, ground := Ground.phase }], guard := none }) (v := ?_) rfl (by kernel_rfl) (by kernel_rfl) (by kernel_rfl) (fun _ _ _ h => h) (Or.inl ⟨by rfl, ?_⟩) hHeld ?_; rotate_left 1; (intro w9 hSw; obtain ⟨q3, qv⟩ := hSw; have r3 := one_0 q3; have r0 := vc_0 qv; have r1 := vc_1 qv; have r2 := vc_2 qv; clear q3 qv; go_simp; first | done | with_reducible rfl); (try simp only [Act.put, List.setIfInBounds_toArray, List.set_cons_zero, List.set_cons_succ])
  refine wpAnyH_done (by kernel_rfl) ?_ _
  go_wp2
  go_ret
  exact ⟨rfl, v7, D7.out⟩
set_option maxHeartbeats 1000000 in
theorem stepW_p {B p g o : Nat} {v : Value} {L : List ByteArray} {W : List S79} {fr n fu st : Int} {w0 w : World} (h : VW B p g o v L W fr n fu st false w0 w) (hB : w0.heap.size ≤ B) (hp : w0.heap.size ≤ p) (hfu : 0 < fu) (hfl : -1 ≤ fu) (hfh : fu ≤ 9223372036854775807) (hst : 0 ≤ st) (hst2 : st ≤ 1000) (hW : W.length ≤ 1000000) (k : Nat) (at_ : Int) (hk : fr + at_ = (k : Int)) (hkl : k < L.length) (s : ByteArray) (hs : s.size = 64) (b3 b4 b5 : Nat) (X3 : w.heap[b3]? = some (.cells #[.pointer (some ⟨p, 0, none⟩)] 29 (0, 0))) (X4 : w.heap[b4]? = some (.cells #[.int .i64 at_] 3 (0, 0))) (X5 : w.heap[b5]? = some (.cells #[.string s] 9 (0, 0))) :
    Calls Try.prog 26 #[.pointer (some ⟨p, 0, none⟩), .func (.func 27) #[] #[.pointer (some ⟨b3, 0, none⟩), .pointer (some ⟨b4, 0, none⟩), .pointer (some ⟨b5, 0, none⟩)]] w fun e w' => e = .returned (.int .i64 0) ∧ ∃ v', VW B p g o v' L (W ++ [⟨(k : Int), s⟩]) fr n (fu - 1) (st + 1) false w0 w' := by
  have HV := Lib.hid (show VW B p g o v L W fr n (fu - 1) (st + 1) false w0 ((w.setCell ⟨p, 3, none⟩ (.int .i64 (fu - 1))).setCell ⟨p, 4, none⟩ (.int .i64 (st + 1))) from ((h.set3 hp (fu - 1)).set4 hp (st + 1)))
  have Y3 := Lib.hid ((set_far (set_far X3 h.v (by decide) 3 (.int .i64 (fu - 1))) ((heap_set h.v (i := 3) (.int .i64 (fu - 1)))) (by decide) 4 (.int .i64 (st + 1))))
  have Y4 := Lib.hid ((set_far (set_far X4 h.v (by decide) 3 (.int .i64 (fu - 1))) ((heap_set h.v (i := 3) (.int .i64 (fu - 1)))) (by decide) 4 (.int .i64 (st + 1))))
  have Y5 := Lib.hid ((set_far (set_far X5 h.v (by decide) 3 (.int .i64 (fu - 1))) ((heap_set h.v (i := 3) (.int .i64 (fu - 1)))) (by decide) 4 (.int .i64 (st + 1))))
  have c3 := h.c3
  have c4 := h.c4
  have c5 := h.c5
  have f3 := blk_free h.v 3
  have f4 := blk_free h.v 4
  have k1 : 0 ≤ st + 1 := by omega
  have t1 : (fu == 0) = false := by rw [beq_eq_false_iff_ne]; omega
  have t2 : decide (0 < fu) = true := by simp; omega
  clear h X3 X4 X5 
  go_enter Try.func26, Try.ntmps26
  go_wp2_with fail
  refine (cw_ok HV.out hB k at_ hk hkl s hs hW b3 b4 b5 Y3 Y4 Y5).mono ?_
  rintro e w1 ⟨rfl, v', hv⟩
  have HR := Lib.hid hv
  clear hv
  go_wp2
  go_ret
  exact ⟨rfl, v', HR.out⟩
set_option maxHeartbeats 1000000 in
theorem stepW_n {B p g o : Nat} {v : Value} {L : List ByteArray} {W : List S79} {fr n fu st : Int} {w0 w : World} (h : VW B p g o v L W fr n fu st false w0 w) (hB : w0.heap.size ≤ B) (hp : w0.heap.size ≤ p) (hfu : fu < 0) (hfl : -1 ≤ fu) (hfh : fu ≤ 9223372036854775807) (hst : 0 ≤ st) (hst2 : st ≤ 1000) (hW : W.length ≤ 1000000) (k : Nat) (at_ : Int) (hk : fr + at_ = (k : Int)) (hkl : k < L.length) (s : ByteArray) (hs : s.size = 64) (b3 b4 b5 : Nat) (X3 : w.heap[b3]? = some (.cells #[.pointer (some ⟨p, 0, none⟩)] 29 (0, 0))) (X4 : w.heap[b4]? = some (.cells #[.int .i64 at_] 3 (0, 0))) (X5 : w.heap[b5]? = some (.cells #[.string s] 9 (0, 0))) :
    Calls Try.prog 26 #[.pointer (some ⟨p, 0, none⟩), .func (.func 27) #[] #[.pointer (some ⟨b3, 0, none⟩), .pointer (some ⟨b4, 0, none⟩), .pointer (some ⟨b5, 0, none⟩)]] w fun e w' => e = .returned (.int .i64 0) ∧ ∃ v', VW B p g o v' L (W ++ [⟨(k : Int), s⟩]) fr n fu (st + 1) false w0 w' := by
  have HV := Lib.hid (show VW B p g o v L W fr n fu (st + 1) false w0 (w.setCell ⟨p, 4, none⟩ (.int .i64 (st + 1))) from (h.set4 hp (st + 1)))
  have Y3 := Lib.hid ((set_far X3 h.v (by decide) 4 (.int .i64 (st + 1))))
  have Y4 := Lib.hid ((set_far X4 h.v (by decide) 4 (.int .i64 (st + 1))))
  have Y5 := Lib.hid ((set_far X5 h.v (by decide) 4 (.int .i64 (st + 1))))
  have c3 := h.c3
  have c4 := h.c4
  have c5 := h.c5
  have f3 := blk_free h.v 3
  have f4 := blk_free h.v 4
  have k1 : 0 ≤ st + 1 := by omega
  have t1 : (fu == 0) = false := by rw [beq_eq_false_iff_ne]; omega
  have t2 : decide (0 < fu) = false := by simp; omega
  clear h X3 X4 X5 
  go_enter Try.func26, Try.ntmps26
  go_wp2_with fail
  refine (cw_ok HV.out hB k at_ hk hkl s hs hW b3 b4 b5 Y3 Y4 Y5).mono ?_
  rintro e w1 ⟨rfl, v', hv⟩
  have HR := Lib.hid hv
  clear hv
  go_wp2
  go_ret
  exact ⟨rfl, v', HR.out⟩
set_option maxHeartbeats 1000000 in
theorem stepF_p {B p g o : Nat} {v : Value} {L : List ByteArray} {W : List S79} {fr n fu st : Int} {w0 w : World} (h : VW B p g o v L W fr n fu st false w0 w) (hB : w0.heap.size ≤ B) (hp : w0.heap.size ≤ p) (hfu : 0 < fu) (hfl : -1 ≤ fu) (hfh : fu ≤ 9223372036854775807) (hst : 0 ≤ st) (hst2 : st ≤ 1000) (hW : W.length ≤ 1000000) (hs : spanB L.length fr n = true) (b3 : Nat) (X3 : w.heap[b3]? = some (.cells #[.pointer (some ⟨p, 0, none⟩)] 29 (0, 0))) :
    Calls Try.prog 26 #[.pointer (some ⟨p, 0, none⟩), .func (.func 28) #[] #[.pointer (some ⟨b3, 0, none⟩)]] w fun e w' => e = .returned (.int .i64 0) ∧ ∃ v', VW B p g o v' (setF L (inF fr n W)) (outF fr n W) fr n (fu - 1) (st + 1) false w0 w' := by
  have HV := Lib.hid (show VW B p g o v L W fr n (fu - 1) (st + 1) false w0 ((w.setCell ⟨p, 3, none⟩ (.int .i64 (fu - 1))).setCell ⟨p, 4, none⟩ (.int .i64 (st + 1))) from ((h.set3 hp (fu - 1)).set4 hp (st + 1)))
  have Y3 := Lib.hid ((set_far (set_far X3 h.v (by decide) 3 (.int .i64 (fu - 1))) ((heap_set h.v (i := 3) (.int .i64 (fu - 1)))) (by decide) 4 (.int .i64 (st + 1))))
  have c3 := h.c3
  have c4 := h.c4
  have c5 := h.c5
  have f3 := blk_free h.v 3
  have f4 := blk_free h.v 4
  have k1 : 0 ≤ st + 1 := by omega
  have t1 : (fu == 0) = false := by rw [beq_eq_false_iff_ne]; omega
  have t2 : decide (0 < fu) = true := by simp; omega
  clear h X3 
  go_enter Try.func26, Try.ntmps26
  go_wp2_with fail
  refine (cf_ok HV.out hB hs hW b3 Y3).mono ?_
  rintro e w1 ⟨rfl, v', hv⟩
  have HR := Lib.hid hv
  clear hv
  go_wp2
  go_ret
  exact ⟨rfl, v', HR.out⟩
set_option maxHeartbeats 1000000 in
theorem stepF_n {B p g o : Nat} {v : Value} {L : List ByteArray} {W : List S79} {fr n fu st : Int} {w0 w : World} (h : VW B p g o v L W fr n fu st false w0 w) (hB : w0.heap.size ≤ B) (hp : w0.heap.size ≤ p) (hfu : fu < 0) (hfl : -1 ≤ fu) (hfh : fu ≤ 9223372036854775807) (hst : 0 ≤ st) (hst2 : st ≤ 1000) (hW : W.length ≤ 1000000) (hs : spanB L.length fr n = true) (b3 : Nat) (X3 : w.heap[b3]? = some (.cells #[.pointer (some ⟨p, 0, none⟩)] 29 (0, 0))) :
    Calls Try.prog 26 #[.pointer (some ⟨p, 0, none⟩), .func (.func 28) #[] #[.pointer (some ⟨b3, 0, none⟩)]] w fun e w' => e = .returned (.int .i64 0) ∧ ∃ v', VW B p g o v' (setF L (inF fr n W)) (outF fr n W) fr n fu (st + 1) false w0 w' := by
  have HV := Lib.hid (show VW B p g o v L W fr n fu (st + 1) false w0 (w.setCell ⟨p, 4, none⟩ (.int .i64 (st + 1))) from (h.set4 hp (st + 1)))
  have Y3 := Lib.hid ((set_far X3 h.v (by decide) 4 (.int .i64 (st + 1))))
  have c3 := h.c3
  have c4 := h.c4
  have c5 := h.c5
  have f3 := blk_free h.v 3
  have f4 := blk_free h.v 4
  have k1 : 0 ≤ st + 1 := by omega
  have t1 : (fu == 0) = false := by rw [beq_eq_false_iff_ne]; omega
  have t2 : decide (0 < fu) = false := by simp; omega
  clear h X3 
  go_enter Try.func26, Try.ntmps26
  go_wp2_with fail
  refine (cf_ok HV.out hB hs hW b3 Y3).mono ?_
  rintro e w1 ⟨rfl, v', hv⟩
  have HR := Lib.hid hv
  clear hv
  go_wp2
  go_ret
  exact ⟨rfl, v', HR.out⟩
theorem step_dead {B p g o : Nat} {v : Value} {L : List ByteArray} {W : List S79} {fr n fu st : Int} {de : Bool} {w0 w : World} (h : VW B p g o v L W fr n fu st de w0 w) (hp : w0.heap.size ≤ p) (hd : de = true ∨ fu = 0) (F : Value) : Calls Try.prog 26 #[.pointer (some ⟨p, 0, none⟩), F] w fun e w' => e = .returned (.int .i64 21) ∧ VW B p g o v L W fr n fu st true w0 w' := by
  have c3 := h.c3
  have c5 := h.c5
  have f5 := blk_free h.v 5
  cases hz : (fu == 0) with
  | true =>
    have HV := Lib.hid (h.set5 hp true)
    clear h
    go_enter Try.func26, Try.ntmps26
    go_wp2
    go_ret
    exact ⟨rfl, HV.out⟩
  | false =>
    have hde : de = true := by
      rcases hd with h1 | h1
      · exact h1
      · rw [h1] at hz; cases hz
    subst hde
    have HV := Lib.hid h
    clear h
    go_enter Try.func26, Try.ntmps26
    go_wp2
    go_ret
    exact ⟨rfl, HV.out⟩
end Go.Proofs.Ytekcidfipdjfdaa.Own
