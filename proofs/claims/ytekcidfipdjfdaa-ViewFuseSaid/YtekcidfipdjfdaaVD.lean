/- Views: Waiting, and the small case. -/
import Derived.Test.YtekcidfipdjfdaaVC
namespace Go.Proofs.Ytekcidfipdjfdaa.Own
open Go.RowKit Go.Proofs.YtekcidfipdjfdaaW.PrintWords Go.Proofs.Ytekcidfipdjfdaa.PB
set_option maxRecDepth 100000
set_option linter.unusedSimpArgs false
set_option linter.unusedVariables false
set_option maxHeartbeats 4000000 in
theorem vwaiting_ok {B p g o : Nat} {v : Value} {L : List ByteArray} {W : List S79} {fr n fu st : Int} {de : Bool} {w0 w : World} (h : VW B p g o v L W fr n fu st de w0 w) (hW : W.length ≤ 1000000) : Calls Try.prog 19 #[.pointer (some ⟨p, 0, none⟩)] w fun e w' => e = .returned (.int .i64 (waitN L.length W fr n)) ∧ VW B p g o v L W fr n fu st de w0 w' := by
  have D := Lib.hid h
  clear h
  go_enter Try.func19, Try.ntmps19
  go_upto_region 3 with (fail)
  refine wp_region_held_drew (S := fun w' => VW B p g o v L W fr n fu st de w0 w') (by kernel_rfl) (D.out.drew) (fun hHeld => ?_)
  refine wpAnyH_take (i := 0) (oi := { dst := some 5, op := Op.move (Operand.tmp 0), type := 29, pos := "view.go:96", after := #[], guard := none }) (v := ?_) rfl (by kernel_rfl) (by kernel_rfl) (by kernel_rfl) (fun _ _ _ h => h) (Or.inl ⟨by rfl, ?_⟩) hHeld ?_; rotate_left 1; (intro w9 hSw; obtain ⟨qd, qv, qb⟩ := hSw; have r0 := vc_0 qv; have r1 := vc_1 qv; have r2 := vc_2 qv; clear qd qv qb; go_simp; first | done | with_reducible rfl); (try simp only [Act.put, List.setIfInBounds_toArray, List.set_cons_zero, List.set_cons_succ])
  refine wpAnyH_take (i := 1) (oi := { dst := some 6, op := Op.nilCheck (Operand.tmp 5), type := 0, pos := "view.go:96", after := #[{ on := 0, ground := Ground.data }], guard := none }) (v := ?_) rfl (by kernel_rfl) (by kernel_rfl) (by kernel_rfl) (fun _ _ _ h => h) (Or.inl ⟨by rfl, ?_⟩) hHeld ?_; rotate_left 1; (intro w9 hSw; obtain ⟨qd, qv, qb⟩ := hSw; have r0 := vc_0 qv; have r1 := vc_1 qv; have r2 := vc_2 qv; clear qd qv qb; go_simp; first | done | with_reducible rfl); (try simp only [Act.put, List.setIfInBounds_toArray, List.set_cons_zero, List.set_cons_succ])
  refine wpAnyH_take (i := 2) (oi := { dst := some 7, op := Op.fieldAddr 52 (Operand.tmp 6) 0, type := 0, pos := "view.go:96", after := #[{ on := 1, ground := Ground.data }], guard := none }) (v := ?_) rfl (by kernel_rfl) (by kernel_rfl) (by kernel_rfl) (fun _ _ _ h => h) (Or.inl ⟨by rfl, ?_⟩) hHeld ?_; rotate_left 1; (intro w9 hSw; obtain ⟨qd, qv, qb⟩ := hSw; have r0 := vc_0 qv; have r1 := vc_1 qv; have r2 := vc_2 qv; clear qd qv qb; go_simp; first | done | with_reducible rfl); (try simp only [Act.put, List.setIfInBounds_toArray, List.set_cons_zero, List.set_cons_succ])
  refine wpAnyH_take (i := 3) (oi := { dst := some 8, op := Op.load 25 (Operand.tmp 7), type := 25, pos := "view.go:96", after := #[{ on := 2, ground := Ground.data }], guard := none }) (v := ?_) rfl (by kernel_rfl) (by kernel_rfl) (by kernel_rfl) (fun _ _ _ h => h) (Or.inl ⟨by rfl, ?_⟩) hHeld ?_; rotate_left 1; (intro w9 hSw; obtain ⟨qd, qv, qb⟩ := hSw; have r0 := vc_0 qv; have r1 := vc_1 qv; have r2 := vc_2 qv; clear qd qv qb; go_simp; first | done | with_reducible rfl); (try simp only [Act.put, List.setIfInBounds_toArray, List.set_cons_zero, List.set_cons_succ])
  refine wpAnyH_take (i := 4) (oi := { dst := some 9, op := Op.move (Operand.tmp 0), type := 29, pos := "view.go:96", after := #[], guard := none }) (v := ?_) rfl (by kernel_rfl) (by kernel_rfl) (by kernel_rfl) (fun _ _ _ h => h) (Or.inl ⟨by rfl, ?_⟩) hHeld ?_; rotate_left 1; (intro w9 hSw; obtain ⟨qd, qv, qb⟩ := hSw; have r0 := vc_0 qv; have r1 := vc_1 qv; have r2 := vc_2 qv; clear qd qv qb; go_simp; first | done | with_reducible rfl); (try simp only [Act.put, List.setIfInBounds_toArray, List.set_cons_zero, List.set_cons_succ])
  refine wpAnyH_take (i := 5) (oi := { dst := some 10, op := Op.nilCheck (Operand.tmp 9), type := 0, pos := "view.go:96", after := #[{ on := 4, ground := Ground.data }], guard := none }) (v := ?_) rfl (by kernel_rfl) (by kernel_rfl) (by kernel_rfl) (fun _ _ _ h => h) (Or.inl ⟨by rfl, ?_⟩) hHeld ?_; rotate_left 1; (intro w9 hSw; obtain ⟨qd, qv, qb⟩ := hSw; have r0 := vc_0 qv; have r1 := vc_1 qv; have r2 := vc_2 qv; clear qd qv qb; go_simp; first | done | with_reducible rfl); (try simp only [Act.put, List.setIfInBounds_toArray, List.set_cons_zero, List.set_cons_succ])
  refine wpAnyH_take (i := 6) (oi := { dst := some 11, op := Op.fieldAddr 52 (Operand.tmp 10) 1, type := 0, pos := "view.go:96", after := #[{ on := 5, ground := Ground.data }], guard := none }) (v := ?_) rfl (by kernel_rfl) (by kernel_rfl) (by kernel_rfl) (fun _ _ _ h => h) (Or.inl ⟨by rfl, ?_⟩) hHeld ?_; rotate_left 1; (intro w9 hSw; obtain ⟨qd, qv, qb⟩ := hSw; have r0 := vc_0 qv; have r1 := vc_1 qv; have r2 := vc_2 qv; clear qd qv qb; go_simp; first | done | with_reducible rfl); (try simp only [Act.put, List.setIfInBounds_toArray, List.set_cons_zero, List.set_cons_succ])
  refine wpAnyH_take (i := 7) (oi := { dst := some 12, op := Op.load 3 (Operand.tmp 11), type := 3, pos := "view.go:96", after := #[{ on := 6, ground := Ground.data }], guard := none }) (v := ?_) rfl (by kernel_rfl) (by kernel_rfl) (by kernel_rfl) (fun _ _ _ h => h) (Or.inl ⟨by rfl, ?_⟩) hHeld ?_; rotate_left 1; (intro w9 hSw; obtain ⟨qd, qv, qb⟩ := hSw; have r0 := vc_0 qv; have r1 := vc_1 qv; have r2 := vc_2 qv; clear qd qv qb; go_simp; first | done | with_reducible rfl); (try simp only [Act.put, List.setIfInBounds_toArray, List.set_cons_zero, List.set_cons_succ])
  refine wpAnyH_take (i := 8) (oi := { dst := some 13, op := Op.move (Operand.tmp 0), type := 29, pos := "view.go:96", after := #[], guard := none }) (v := ?_) rfl (by kernel_rfl) (by kernel_rfl) (by kernel_rfl) (fun _ _ _ h => h) (Or.inl ⟨by rfl, ?_⟩) hHeld ?_; rotate_left 1; (intro w9 hSw; obtain ⟨qd, qv, qb⟩ := hSw; have r0 := vc_0 qv; have r1 := vc_1 qv; have r2 := vc_2 qv; clear qd qv qb; go_simp; first | done | with_reducible rfl); (try simp only [Act.put, List.setIfInBounds_toArray, List.set_cons_zero, List.set_cons_succ])
  refine wpAnyH_take (i := 9) (oi := { dst := some 14, op := Op.nilCheck (Operand.tmp 13), type := 0, pos := "view.go:96", after := #[{ on := 8, ground := Ground.data }], guard := none }) (v := ?_) rfl (by kernel_rfl) (by kernel_rfl) (by kernel_rfl) (fun _ _ _ h => h) (Or.inl ⟨by rfl, ?_⟩) hHeld ?_; rotate_left 1; (intro w9 hSw; obtain ⟨qd, qv, qb⟩ := hSw; have r0 := vc_0 qv; have r1 := vc_1 qv; have r2 := vc_2 qv; clear qd qv qb; go_simp; first | done | with_reducible rfl); (try simp only [Act.put, List.setIfInBounds_toArray, List.set_cons_zero, List.set_cons_succ])
  refine wpAnyH_take (i := 10) (oi := { dst := some 15, op := Op.fieldAddr 52 (Operand.tmp 14) 2, type := 0, pos := "view.go:96", after := #[{ on := 9, ground := Ground.data }], guard := none }) (v := ?_) rfl (by kernel_rfl) (by kernel_rfl) (by kernel_rfl) (fun _ _ _ h => h) (Or.inl ⟨by rfl, ?_⟩) hHeld ?_; rotate_left 1; (intro w9 hSw; obtain ⟨qd, qv, qb⟩ := hSw; have r0 := vc_0 qv; have r1 := vc_1 qv; have r2 := vc_2 qv; clear qd qv qb; go_simp; first | done | with_reducible rfl); (try simp only [Act.put, List.setIfInBounds_toArray, List.set_cons_zero, List.set_cons_succ])
  refine wpAnyH_take (i := 11) (oi := { dst := some 16, op := Op.load 3 (Operand.tmp 15), type := 3, pos := "view.go:96", after := #[{ on := 10, ground := Ground.data }], guard := none }) (v := ?_) rfl (by kernel_rfl) (by kernel_rfl) (by kernel_rfl) (fun _ _ _ h => h) (Or.inl ⟨by rfl, ?_⟩) hHeld ?_; rotate_left 1; (intro w9 hSw; obtain ⟨qd, qv, qb⟩ := hSw; have r0 := vc_0 qv; have r1 := vc_1 qv; have r2 := vc_2 qv; clear qd qv qb; go_simp; first | done | with_reducible rfl); (try simp only [Act.put, List.setIfInBounds_toArray, List.set_cons_zero, List.set_cons_succ])
  refine wpAnyH_ready (rs := [12]) (by kernel_rfl) (by simp) ?_; refine AllReadyH.cons (o := { dst := some 17, op := Op.call { callee := Callee.value (Operand.func 30), args := #[Operand.tmp 8, Operand.tmp 12, Operand.tmp 16], argTypes := #[25, 3, 3] }, type := 3, pos := "view.go:96", after := #[{ on := 3, ground := Ground.data }, { on := 7, ground := Ground.data }, { on := 11, ground := Ground.data }], guard := none }) rfl (fun K hK => ?_) AllReadyH.nil; go_simp; refine (waiting_any D.out.d.drew fr n hW).mono ?_; rintro e w7 ⟨rfl, bb⟩; (try go_wp2_with fail); refine hK.out _ _ (hHeld.below bb) (fun hHeld => ?_); clear hK; (try simp only [Act.put, List.setIfInBounds_toArray, List.set_cons_zero, List.set_cons_succ])
  refine wpAnyH_take (i := 13) (oi := { dst := some 2, op := Op.assign (Operand.tmp 17), type := 3, pos := "view.go:96", after := #[{ on := 12, ground := Ground.data }, { on := 12, ground := Ground.chain }, { on := 0, ground := Ground.phase }, { on := 1, ground := Ground.phase }, { on := 2, ground := Ground.phase }, { on := 3, ground := Ground.phase }, { on := 4, ground := Ground.phase }, { on := 5, ground := Ground.phase }, { on := 6, ground := Ground.phase }, { on := 7, ground := Ground.phase }, { on := 8, ground := Ground.phase }, { on := 9, ground := Ground.phase }, { on := 10, ground := Ground.phase }, { on := 11, ground := Ground.phase }, { on := 12, ground := Ground.phase }], guard := none }) (v := ?_) rfl (by kernel_rfl) (by kernel_rfl) (by kernel_rfl) (fun _ _ _ h => h) (Or.inl ⟨by rfl, ?_⟩) hHeld ?_; rotate_left 1; (intro w9 hSw; obtain ⟨qd, qv, qb⟩ := hSw; have r0 := vc_0 qv; have r1 := vc_1 qv; have r2 := vc_2 qv; clear qd qv qb; go_simp; first | done | with_reducible rfl); (try simp only [Act.put, List.setIfInBounds_toArray, List.set_cons_zero, List.set_cons_succ])
  refine wpAnyH_done (by kernel_rfl) ?_ _
  have R := Lib.hid hHeld
  clear hHeld
  go_wp2
  go_ret
  exact ⟨rfl, R.out⟩
def L16 : List ByteArray := List.replicate 16 zeroB
def Xa : List S79 := [⟨8, fillB 120⟩]
def Xb : List S79 := [⟨8, fillB 120⟩, ⟨11, fillB 121⟩]
theorem waitXb : waitN L16.length Xb 8 4 = 2 := by kernel_rfl
set_option maxHeartbeats 4000000 in
theorem eight_any (w : World) : Calls Try.prog 6 #[] w fun e w' => e = .returned (.bool true) ∧ Below w.heap.size w w' := by
  go_enter Try.func6, Try.ntmps6
  go_wp2_with fail
  refine (new_ok 16 w (by decide) (by decide)).mono ?_
  rintro e w1 ⟨rfl, hd, hb⟩
  have D1 := Lib.hid (show DS w.heap.size (w.heap.size + 1) w.heap.size (.slice none 0 0) L16 [] w1 from hd)
  have B1 := Lib.hid hb
  clear hd hb
  go_wp2_with fail
  refine (vnew_ok D1.out B1.out 8 4 (by decide) (by decide)).mono ?_
  rintro e w2 ⟨rfl, hv, hsz⟩
  have D2 := Lib.hid (show VW w.heap.size w1.heap.size (w.heap.size + 1) w.heap.size (.slice none 0 0) L16 [] 8 4 (-1) 0 false w w2 from hv)
  have HP := Lib.hid B1.out.size
  clear hv hsz
  generalize w1.heap.size = p at *
  go_wp2_with fail
  refine (fill_any 120 w2).mono ?_
  rintro e w3 ⟨rfl, b3⟩
  have D3 := Lib.hid (D2.out.below b3)
  clear b3
  go_wp2_with fail
  refine (vwrite_ok D3.out (Nat.le_refl _) HP.out (by decide) (by decide) (by decide) (by decide) (by decide) (by decide) 8 0 (by decide) (by decide) (by decide) (fillB 120) (fillB_size _)).mono ?_
  rintro e w4 ⟨rfl, v4, hv⟩
  have D4 := Lib.hid (show VW w.heap.size p (w.heap.size + 1) w.heap.size v4 L16 Xa 8 4 (-1) 1 false w w4 from hv)
  clear hv
  go_wp2_with fail
  refine (read_ok D4.out.d 8 (by decide)).mono ?_
  rintro e w5 ⟨rfl, b5⟩
  rw [show readF ((8 : Nat) : Int) (L16.getD 8 ByteArray.empty) Xa = fillB 120 from rfl]
  have D5 := Lib.hid (D4.out.below b5)
  clear b5
  go_wp2_with fail
  refine (fuse_ok D5.out HP.out 1 (by decide)).mono ?_
  rintro e w6 ⟨rfl, hv, _⟩
  have D6 := Lib.hid hv
  clear hv
  go_wp2_with fail
  refine (fill_any 121 w6).mono ?_
  rintro e w7 ⟨rfl, b7⟩
  have D7 := Lib.hid (D6.out.below b7)
  clear b7
  go_wp2_with fail
  refine (vwrite_ok D7.out (Nat.le_refl _) HP.out (by decide) (by decide) (by decide) (by decide) (by decide) (by decide) 11 3 (by decide) (by decide) (by decide) (fillB 121) (fillB_size _)).mono ?_
  rintro e w8 ⟨rfl, v8, hv⟩
  have D8 := Lib.hid (show VW w.heap.size p (w.heap.size + 1) w.heap.size v8 L16 Xb 8 4 0 2 false w w8 from hv)
  clear hv
  go_wp2_with fail
  refine (vflush_dead D8.out HP.out (Or.inr rfl)).mono ?_
  rintro e w9 ⟨rfl, hv⟩
  have D9 := Lib.hid hv
  clear hv
  go_wp2_with fail
  refine (dead_ok D9.out).mono ?_
  rintro e w10 ⟨rfl, rfl⟩
  go_wp2_with fail
  refine (fill_any 120 w9).mono ?_
  rintro e w11 ⟨rfl, b11⟩
  have D11 := Lib.hid (D9.out.below b11)
  clear b11
  go_wp2_with fail
  refine (steps_ok D11.out).mono ?_
  rintro e w12 ⟨rfl, rfl⟩
  go_wp2_with fail
  refine (vwaiting_ok D11.out (by decide)).mono ?_
  rintro e w13 ⟨rfl, hv⟩
  rw [waitXb]
  have D13 := Lib.hid hv
  clear hv
  go_wp2_with fail
  refine (vsize_ok D13.out).mono ?_
  rintro e w14 ⟨rfl, rfl⟩
  go_wp2
  go_ret
  exact ⟨rfl, D13.out.b⟩
end Go.Proofs.Ytekcidfipdjfdaa.Own
