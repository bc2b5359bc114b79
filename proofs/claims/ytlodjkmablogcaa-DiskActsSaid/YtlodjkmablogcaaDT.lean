/- A call, by the program. -/
import Derived.Test.YtlodjkmablogcaaDS
namespace Go.Proofs.Ytlodjkmablogcaa.Own
open Go.RowKit Go.Proofs.YtlodjkmablogcaaW.PrintWords Go.Proofs.Ytlodjkmablogcaa.PB
set_option maxRecDepth 100000
set_option linter.unusedSimpArgs false
set_option linter.unusedVariables false
/-- What a call makes of a disk, and an error. -/
def actP (L : List ByteArray) (W : List S79) (x : S25) : List ByteArray × List S79 × Int :=
  if x.f0 = 0 then (if isB L.length x.f1 then (if x.f2 ≤ 0 then (L, W ++ [⟨x.f1, fillB (UInt8.ofNat x.f3.toNat)⟩], 0) else (L, W, 1)) else (L, W, 20))
  else if x.f0 = 1 then (if spanB L.length x.f1 x.f2 then (setF L (inF x.f1 x.f2 W), outF x.f1 x.f2 W, 0) else (L, W, 20))
  else if x.f0 = 2 then (if spanB L.length x.f1 x.f2 then (crashF L (inF x.f1 x.f2 W) x.f4, outF x.f1 x.f2 W, 0) else (L, W, 20))
  else if isB L.length x.f1 then (L, W, 0) else (L, W, 20)
/-- The cells of a call. -/
def ac (x : S25) (KA : Option Addr) (kc : Nat) : Array Value := #[.int .i64 x.f0, .int .i64 x.f1, .int .i64 x.f2, .int .u8 x.f3, .slice KA x.f4.length kc]
theorem byte_of {a : Int} (h0 : 0 ≤ a) (h1 : a ≤ 255) : ((UInt8.ofNat a.toNat).toNat : Int) = a := by simp [UInt8.toNat_ofNat']; omega
/-- What a call asks of its input. -/
structure AOK (x : S25) : Prop where
  b0 : 0 ≤ x.f3
  b1 : x.f3 ≤ 255
  k : x.f4.length ≤ 40
  wf : ∀ q ∈ x.f4, (Lit.int .i64 q.f0).wf = true
theorem text_at (x : S25) (KA : Option Addr) (kc : Nat) (hx : AOK x) (w : World) : Calls Try.prog 22 #[.agg #[.int .i64 x.f0, .int .i64 x.f1, .int .i64 x.f2, .int .u8 x.f3, .slice KA x.f4.length kc]] w fun e w' => e = .returned (.string (textB (UInt8.ofNat x.f3.toNat) x.f2)) ∧ Below w.heap.size w w' := by
  have := text_any x.f0 x.f1 x.f2 (UInt8.ofNat x.f3.toNat) (.slice KA x.f4.length kc) w ⟨_, _, _, rfl⟩
  rwa [byte_of hx.b0 hx.b1] at this
/-- The box of a call. -/
structure AB (x : S25) (KA : Option Addr) (kc : Nat) (g : Nat) (w : World) : Prop where
  c0 : w.cell? ⟨g, 0, none⟩ = some (.int .i64 x.f0)
  c1 : w.cell? ⟨g, 1, none⟩ = some (.int .i64 x.f1)
  c2 : w.cell? ⟨g, 2, none⟩ = some (.int .i64 x.f2)
  c3 : w.cell? ⟨g, 3, none⟩ = some (.int .u8 x.f3)
  c4 : w.cell? ⟨g, 4, none⟩ = some (.slice KA x.f4.length kc)
theorem AB.of {x : S25} {KA : Option Addr} {kc g : Nat} {w : World} {t : TypeId} {fr : Nat × Nat} (h : w.heap[g]? = some (.cells (ac x KA kc) t fr)) : AB x KA kc g w := ⟨(blk_cell h 0).trans rfl, (blk_cell h 1).trans rfl, (blk_cell h 2).trans rfl, (blk_cell h 3).trans rfl, (blk_cell h 4).trans rfl⟩
theorem AB.lt {x : S25} {KA : Option Addr} {kc g : Nat} {w : World} (h : AB x KA kc g w) : g < w.heap.size := World.block_lt_of_cell? w _ h.c0
theorem AB.move {x : S25} {KA : Option Addr} {kc g : Nat} {w w1 : World} (h : AB x KA kc g w) (hm : w1.heap[g]? = w.heap[g]?) : AB x KA kc g w1 := by
  have key : ∀ j u, w.cell? ⟨g, j, none⟩ = some u → w1.cell? ⟨g, j, none⟩ = some u := fun j u hu => by rw [← hu]; simp only [World.cell?, hm]
  exact ⟨key _ _ h.c0, key _ _ h.c1, key _ _ h.c2, key _ _ h.c3, key _ _ h.c4⟩
theorem AB.below {x : S25} {KA : Option Addr} {kc g : Nat} {w w1 : World} (h : AB x KA kc g w) (hb : Below w.heap.size w w1) : AB x KA kc g w1 := h.move (hb.block g h.lt)
theorem AB.drew {x : S25} {KA : Option Addr} {kc g : Nat} {w : World} (h : AB x KA kc g w) : AB x KA kc g w.drew := h.move rfl
theorem NV.trans {v v1 v2 : Value} {w w1 : World} (h : NV v v1 w) (h1 : NV v1 v2 w1) (hs : w.heap.size ≤ w1.heap.size) : NV v v2 w := fun k hk => by
  rcases h1 k hk with h2 | h2
  · exact h k h2
  · exact Or.inr (by omega)
theorem write_oki {B g o : Nat} {v : Value} {L : List ByteArray} {W : List S79} {w : World} (h : DS B g o v L W w) (i : Int) (hi : isB L.length i = true) (s : ByteArray) (hs : s.size = 64) (hW : W.length ≤ 1000000) :
    Calls Try.prog 21 #[.pointer (some ⟨g, 0, none⟩), .int .i64 i, .string s] w fun e w' => e = .returned (.int .i64 0) ∧ ∃ v', DS B g o v' L (W ++ [⟨i, s⟩]) w' ∧ Fr (FS g o v) w w' ∧ NV v v' w := by
  obtain ⟨k, rfl, hk⟩ := isB_yes hi
  exact write_ok h k hk s hs hW
theorem read_oki {B g o : Nat} {v : Value} {L : List ByteArray} {W : List S79} {w : World} (h : DS B g o v L W w) (i : Int) (hi : isB L.length i = true) :
    Calls Try.prog 12 #[.pointer (some ⟨g, 0, none⟩), .int .i64 i] w fun e w' => e = .returned (.tuple #[.string (readF i (L.getD i.toNat ByteArray.empty) W), .int .i64 0]) ∧ Below w.heap.size w w' := by
  obtain ⟨k, rfl, hk⟩ := isB_yes hi
  exact read_ok h k hk
set_option maxHeartbeats 4000000 in
theorem done_any {B g o : Nat} {v : Value} {L : List ByteArray} {W : List S79} {w : World} (h : DS B g o v L W w) (x : S25) (hx : AOK x) (KA : Option Addr) (kc : Nat) (hkp : ∀ W', Fr (FS g o v) w W' → Kd.C k52 W' KA x.f4.length x.f4) (hW : W.length ≤ 1000) :
    Calls Try.prog 11 #[.pointer (some ⟨g, 0, none⟩), .agg #[.int .i64 x.f0, .int .i64 x.f1, .int .i64 x.f2, .int .u8 x.f3, .slice KA x.f4.length kc]] w fun e w' => e = .returned (.int .i64 (actP L W x).2.2) ∧ ∃ v', DS B g o v' (actP L W x).1 (actP L W x).2.1 w' ∧ Fr (FS g o v) w w' ∧ NV v v' w := by
  have BX : Below w.heap.size w (w.alloc (.cells (ac x KA kc) 25)) := (Below.refl _ _).alloc (Nat.le_refl _) _
  have D1 := Lib.hid (h.below BX)
  have F1 := Lib.hid (Fr.of_below (S := FS g o v) BX)
  have X := Lib.hid (AB.of (heap_new w (.cells (ac x KA kc) 25)))
  have HLT := Lib.hid (fs_lt h)
  have HKP := Lib.hid hkp; clear hkp
  have HX := Lib.hid hx; clear hx
  have c0 := X.out.c0
  have NB := Lib.hid (show ¬ FS g o v w.heap.size from fun hS => by have := HLT.out _ hS; omega)
  clear BX h
  by_cases k0 : x.f0 = 0
  · have k0' : (x.f0 == 0) = true := by rw [beq_iff_eq]; exact k0
    have HK0 := Lib.hid k0
    clear k0
    go_enter Try.func11, Try.ntmps11
    go_upto_region 3 with (fail)
    change Code.wp _ _ _ _ (w.alloc (.cells (ac x KA kc) 25))
    generalize w.alloc (.cells (ac x KA kc) 25) = W1 at *
    clear c0 k0'
    refine wp_region_held_drew (S := fun w' => AB x KA kc w.heap.size w') (by kernel_rfl) (X.out.drew) (fun hHeld => ?_)
    refine wpAnyH_take (i := 0) (oi := { dst := some 11, op := Op.move (Operand.tmp 0), type := 28, pos := "law.go:78", after := #[], guard := none }) (v := ?_) rfl (by kernel_rfl) (by kernel_rfl) (by kernel_rfl) (fun _ _ _ h => h) (Or.inl ⟨by rfl, ?_⟩) hHeld ?_; rotate_left 1; (intro w9 hSw; obtain ⟨q0, q1, q2, q3, q4⟩ := hSw; go_simp; first | done | with_reducible rfl); (try simp only [Act.put, List.setIfInBounds_toArray, List.set_cons_zero, List.set_cons_succ])
    refine wpAnyH_take (i := 1) (oi := { dst := some 12, op := Op.fieldAddr 25 (Operand.tmp 3) 1, type := 0, pos := "law.go:78", after := #[], guard := none }) (v := ?_) rfl (by kernel_rfl) (by kernel_rfl) (by kernel_rfl) (fun _ _ _ h => h) (Or.inl ⟨by rfl, ?_⟩) hHeld ?_; rotate_left 1; (intro w9 hSw; obtain ⟨q0, q1, q2, q3, q4⟩ := hSw; go_simp; first | done | with_reducible rfl); (try simp only [Act.put, List.setIfInBounds_toArray, List.set_cons_zero, List.set_cons_succ])
    refine wpAnyH_take (i := 2) (oi := { dst := some 13, op := Op.load 3 (Operand.tmp 12), type := 3, pos := "law.go:78", after := #[{ on := 1, ground := Ground.data }], guard := none }) (v := ?_) rfl (by kernel_rfl) (by kernel_rfl) (by kernel_rfl) (fun _ _ _ h => h) (Or.inl ⟨by rfl, ?_⟩) hHeld ?_; rotate_left 1; (intro w9 hSw; obtain ⟨q0, q1, q2, q3, q4⟩ := hSw; go_simp; first | done | with_reducible rfl); (try simp only [Act.put, List.setIfInBounds_toArray, List.set_cons_zero, List.set_cons_succ])
    refine wpAnyH_take (i := 3) (oi := { dst := some 14, op := Op.load 25 (Operand.tmp 3), type := 25, pos := "law.go:78", after := #[], guard := none }) (v := ?_) rfl (by kernel_rfl) (by kernel_rfl) (by kernel_rfl) (fun _ _ _ h => h) (Or.inl ⟨by rfl, ?_⟩) hHeld ?_; rotate_left 1; (intro w9 hSw; obtain ⟨q0, q1, q2, q3, q4⟩ := hSw; go_simp; first | done | with_reducible rfl); (try simp only [Act.put, List.setIfInBounds_toArray, List.set_cons_zero, List.set_cons_succ])
    refine wpAnyH_ready (rs := [4]) (by kernel_rfl) (by simp) ?_; refine AllReadyH.cons (o := { dst := some 15, op := Op.call { callee := Callee.value (Operand.func 22), args := #[Operand.tmp 14], argTypes := #[25] }, type := 9, pos := "law.go:78", after := #[{ on := 3, ground := Ground.data }], guard := none }) rfl (fun K hK => ?_) AllReadyH.nil; go_simp; refine (text_at x KA kc HX.out _).mono ?_; rintro e w4 ⟨rfl, b4⟩; have D4 := Lib.hid (D1.out.drew.below b4); have F4 := Lib.hid (F1.out.drew.below b4); have X4 := X.out.drew.below b4; clear b4; (try go_wp2_with fail); refine hK.out _ _ X4 (fun hHeld => ?_); clear hK X4; (try simp only [Act.put, List.setIfInBounds_toArray, List.set_cons_zero, List.set_cons_succ])
    cases hib : isB L.length x.f1 with
    | false =>
      have HA := Lib.hid (show actP L W x = (L, W, 20) by unfold actP; rw [if_pos HK0.out, hib]; rfl)
      have HIB := Lib.hid hib; clear hib
      refine wpAnyH_ready (rs := [5]) (by kernel_rfl) (by simp) ?_; refine AllReadyH.cons (o := { dst := some 16, op := Op.call { callee := Callee.value (Operand.func 21), args := #[Operand.tmp 11, Operand.tmp 13, Operand.tmp 15], argTypes := #[28, 3, 9] }, type := 29, pos := "law.go:78", after := #[{ on := 0, ground := Ground.data }, { on := 2, ground := Ground.data }, { on := 4, ground := Ground.data }, { on := 4, ground := Ground.chain }], guard := none }) rfl (fun K hK => ?_) AllReadyH.nil; go_simp; refine (write_bad D4.out x.f1 _ HIB.out).mono ?_; rintro e w5 ⟨rfl, rfl⟩; (try go_wp2_with fail); refine hK.out _ _ hHeld (fun hHeld => ?_); clear hK; (try simp only [Act.put, List.setIfInBounds_toArray, List.set_cons_zero, List.set_cons_succ])
      refine wpAnyH_take (i := 6) (oi := { dst := some 4, op := Op.assign (Operand.tmp 16), type := 29, pos := "law.go:78", after := #[{ on := 5, ground := Ground.data }, { on := 5, ground := Ground.chain }, { on := 0, ground := Ground.phase }, { on := 1, ground := Ground.phase }, { on := 2, ground := Ground.phase }, { on := 3, ground := Ground.phase }, { on := 4, ground := Ground.phase }, { on := 5, ground := Ground.phase }], guard := none }) (v := ?_) rfl (by kernel_rfl) (by kernel_rfl) (by kernel_rfl) (fun _ _ _ h => h) (Or.inl ⟨by rfl, ?_⟩) hHeld ?_; rotate_left 1; (intro w9 hSw; obtain ⟨q0, q1, q2, q3, q4⟩ := hSw; go_simp; first | done | with_reducible rfl); (try simp only [Act.put, List.setIfInBounds_toArray, List.set_cons_zero, List.set_cons_succ])
      refine wpAnyH_done (by kernel_rfl) ?_ _
      clear hHeld
      go_wp2
      go_ret
      exact ⟨by rw [HA.out]; rfl, v, by rw [HA.out]; exact D4.out, F4.out, NV.refl _ _⟩
    | true =>
      have HIB := Lib.hid hib
      by_cases h2 : x.f2 ≤ 0
      · have HA := Lib.hid (show actP L W x = (L, W ++ [⟨x.f1, fillB (UInt8.ofNat x.f3.toNat)⟩], 0) by unfold actP; rw [if_pos HK0.out, hib, if_pos rfl, if_pos h2])
        rw [textB_full h2]
        clear hib h2
        refine wpAnyH_ready (rs := [5]) (by kernel_rfl) (by simp) ?_; refine AllReadyH.cons (o := { dst := some 16, op := Op.call { callee := Callee.value (Operand.func 21), args := #[Operand.tmp 11, Operand.tmp 13, Operand.tmp 15], argTypes := #[28, 3, 9] }, type := 29, pos := "law.go:78", after := #[{ on := 0, ground := Ground.data }, { on := 2, ground := Ground.data }, { on := 4, ground := Ground.data }, { on := 4, ground := Ground.chain }], guard := none }) rfl (fun K hK => ?_) AllReadyH.nil; go_simp; refine (write_oki D4.out x.f1 HIB.out (fillB (UInt8.ofNat x.f3.toNat)) (fillB_size _) (by omega)).mono ?_; rintro e w5 ⟨rfl, v5, hd5, hf5, hn5⟩; have D5 := Lib.hid hd5; have F5 := Lib.hid (F4.out.trans hf5 (fun q hq => hq) (fun q hq => Or.inl hq)); have N5 := Lib.hid hn5; have FF := Lib.hid hf5; clear hd5 hf5 hn5; (try go_wp2_with fail); refine hK.out _ _ (hHeld.move (FF.out.block _ hHeld.lt NB.out)) (fun hHeld => ?_); clear hK; (try simp only [Act.put, List.setIfInBounds_toArray, List.set_cons_zero, List.set_cons_succ])
        refine wpAnyH_take (i := 6) (oi := { dst := some 4, op := Op.assign (Operand.tmp 16), type := 29, pos := "law.go:78", after := #[{ on := 5, ground := Ground.data }, { on := 5, ground := Ground.chain }, { on := 0, ground := Ground.phase }, { on := 1, ground := Ground.phase }, { on := 2, ground := Ground.phase }, { on := 3, ground := Ground.phase }, { on := 4, ground := Ground.phase }, { on := 5, ground := Ground.phase }], guard := none }) (v := ?_) rfl (by kernel_rfl) (by kernel_rfl) (by kernel_rfl) (fun _ _ _ h => h) (Or.inl ⟨by rfl, ?_⟩) hHeld ?_; rotate_left 1; (intro w9 hSw; obtain ⟨q0, q1, q2, q3, q4⟩ := hSw; go_simp; first | done | with_reducible rfl); (try simp only [Act.put, List.setIfInBounds_toArray, List.set_cons_zero, List.set_cons_succ])
        refine wpAnyH_done (by kernel_rfl) ?_ _
        clear hHeld
        go_wp2
        go_ret
        exact ⟨by rw [HA.out]; rfl, v5, by rw [HA.out]; exact D5.out, F5.out, (NV.refl v w).trans N5.out F4.out.size⟩
      · have HA := Lib.hid (show actP L W x = (L, W, 1) by unfold actP; rw [if_pos HK0.out, hib, if_pos rfl, if_neg h2])
        have HSH := Lib.hid (textB_short (c := UInt8.ofNat x.f3.toNat) (show 0 < x.f2 by omega))
        clear hib h2
        refine wpAnyH_ready (rs := [5]) (by kernel_rfl) (by simp) ?_; refine AllReadyH.cons (o := { dst := some 16, op := Op.call { callee := Callee.value (Operand.func 21), args := #[Operand.tmp 11, Operand.tmp 13, Operand.tmp 15], argTypes := #[28, 3, 9] }, type := 29, pos := "law.go:78", after := #[{ on := 0, ground := Ground.data }, { on := 2, ground := Ground.data }, { on := 4, ground := Ground.data }, { on := 4, ground := Ground.chain }], guard := none }) rfl (fun K hK => ?_) AllReadyH.nil; go_simp; refine (write_short D4.out x.f1 _ HIB.out HSH.out).mono ?_; rintro e w5 ⟨rfl, rfl⟩; (try go_wp2_with fail); refine hK.out _ _ hHeld (fun hHeld => ?_); clear hK; (try simp only [Act.put, List.setIfInBounds_toArray, List.set_cons_zero, List.set_cons_succ])
        refine wpAnyH_take (i := 6) (oi := { dst := some 4, op := Op.assign (Operand.tmp 16), type := 29, pos := "law.go:78", after := #[{ on := 5, ground := Ground.data }, { on := 5, ground := Ground.chain }, { on := 0, ground := Ground.phase }, { on := 1, ground := Ground.phase }, { on := 2, ground := Ground.phase }, { on := 3, ground := Ground.phase }, { on := 4, ground := Ground.phase }, { on := 5, ground := Ground.phase }], guard := none }) (v := ?_) rfl (by kernel_rfl) (by kernel_rfl) (by kernel_rfl) (fun _ _ _ h => h) (Or.inl ⟨by rfl, ?_⟩) hHeld ?_; rotate_left 1; (intro w9 hSw; obtain ⟨q0, q1, q2, q3, q4⟩ := hSw; go_simp; first | done | with_reducible rfl); (try simp only [Act.put, List.setIfInBounds_toArray, List.set_cons_zero, List.set_cons_succ])
        refine wpAnyH_done (by kernel_rfl) ?_ _
        clear hHeld
        go_wp2
        go_ret
        exact ⟨by rw [HA.out]; rfl, v, by rw [HA.out]; exact D4.out, F4.out, NV.refl _ _⟩
  · have k0' : (x.f0 == 0) = false := by rw [beq_eq_false_iff_ne]; exact k0
    have c1 := X.out.c1
    have c2 := X.out.c2
    have c4 := X.out.c4
    by_cases k1 : x.f0 = 1
    · have k1' : (x.f0 == 1) = true := by rw [beq_iff_eq]; exact k1
      have HK1 := Lib.hid (And.intro k0 k1)
      clear k0 k1
      go_enter Try.func11, Try.ntmps11
      go_wp2_with fail
      change Calls _ _ _ (w.alloc (.cells (ac x KA kc) 25)) _
      generalize w.alloc (.cells (ac x KA kc) 25) = W1 at *
      clear c0 c1 c2 c4
      cases hib : spanB L.length x.f1 x.f2 with
      | false =>
        have HA := Lib.hid (show actP L W x = (L, W, 20) by unfold actP; rw [if_neg HK1.out.1, if_pos HK1.out.2, hib]; rfl)
        refine (flush_bad D1.out x.f1 x.f2 hib).mono ?_
        rintro e w5 ⟨rfl, rfl⟩
        go_wp2
        go_ret
        exact ⟨by rw [HA.out]; first | done | rfl, v, by rw [HA.out]; exact D1.out, F1.out, NV.refl _ _⟩
      | true =>
        have HA := Lib.hid (show actP L W x = (setF L (inF x.f1 x.f2 W), outF x.f1 x.f2 W, 0) by unfold actP; rw [if_neg HK1.out.1, if_pos HK1.out.2, hib]; rfl)
        refine (flush_ok D1.out x.f1 x.f2 hib (by omega)).mono ?_
        rintro e w5 ⟨rfl, v5, hd5, hf5, hn5⟩
        have D5 := Lib.hid hd5; have F5 := Lib.hid (F1.out.trans hf5 (fun q hq => hq) (fun q hq => Or.inl hq)); have N5 := Lib.hid hn5
        clear hd5 hf5 hn5
        go_wp2
        go_ret
        exact ⟨by rw [HA.out]; first | done | rfl, v5, by rw [HA.out]; exact D5.out, F5.out, (NV.refl v w).trans N5.out F1.out.size⟩
    · have k1' : (x.f0 == 1) = false := by rw [beq_eq_false_iff_ne]; exact k1
      by_cases k2 : x.f0 = 2
      · have k2' : (x.f0 == 2) = true := by rw [beq_iff_eq]; exact k2
        have HK1 := Lib.hid (And.intro k0 (And.intro k1 k2))
        clear k0 k1 k2
        go_enter Try.func11, Try.ntmps11
        go_wp2_with fail
        change Calls _ _ _ (w.alloc (.cells (ac x KA kc) 25)) _
        generalize w.alloc (.cells (ac x KA kc) 25) = W1 at *
        clear c0 c1 c2 c4
        cases hib : spanB L.length x.f1 x.f2 with
        | false =>
          have HA := Lib.hid (show actP L W x = (L, W, 20) by unfold actP; rw [if_neg HK1.out.1, if_neg HK1.out.2.1, if_pos HK1.out.2.2, hib]; rfl)
          refine (crash_bad D1.out x.f1 x.f2 _ hib).mono ?_
          rintro e w5 ⟨rfl, rfl⟩
          go_wp2
          go_ret
          exact ⟨by rw [HA.out]; first | done | rfl, v, by rw [HA.out]; exact D1.out, F1.out, NV.refl _ _⟩
        | true =>
          have HA := Lib.hid (show actP L W x = (crashF L (inF x.f1 x.f2 W) x.f4, outF x.f1 x.f2 W, 0) by unfold actP; rw [if_neg HK1.out.1, if_neg HK1.out.2.1, if_pos HK1.out.2.2, hib]; rfl)
          refine (crash_ok D1.out x.f1 x.f2 hib (by omega) KA kc x.f4 (by have := HX.out.k; omega) (fun W' hf => HKP.out W' (F1.out.trans hf (fun q hq => hq) (fun q hq => Or.inl hq))) HX.out.wf).mono ?_
          rintro e w5 ⟨rfl, v5, hd5, hf5, hn5⟩
          have D5 := Lib.hid hd5; have F5 := Lib.hid (F1.out.trans hf5 (fun q hq => hq) (fun q hq => Or.inl hq)); have N5 := Lib.hid hn5
          clear hd5 hf5 hn5
          go_wp2
          go_ret
          exact ⟨by rw [HA.out]; first | done | rfl, v5, by rw [HA.out]; exact D5.out, F5.out, (NV.refl v w).trans N5.out F1.out.size⟩
      · have k2' : (x.f0 == 2) = false := by rw [beq_eq_false_iff_ne]; exact k2
        have HK1 := Lib.hid (And.intro k0 (And.intro k1 k2))
        clear k0 k1 k2
        go_enter Try.func11, Try.ntmps11
        go_wp2_with fail
        change Calls _ _ _ (w.alloc (.cells (ac x KA kc) 25)) _
        generalize w.alloc (.cells (ac x KA kc) 25) = W1 at *
        clear c0 c1 c2 c4
        cases hib : isB L.length x.f1 with
        | false =>
          have HA := Lib.hid (show actP L W x = (L, W, 20) by unfold actP; rw [if_neg HK1.out.1, if_neg HK1.out.2.1, if_neg HK1.out.2.2, hib]; rfl)
          refine (read_bad D1.out x.f1 hib).mono ?_
          rintro e w5 ⟨rfl, rfl⟩
          go_wp2
          go_ret
          exact ⟨by rw [HA.out]; first | done | rfl, v, by rw [HA.out]; exact D1.out, F1.out, NV.refl _ _⟩
        | true =>
          have HA := Lib.hid (show actP L W x = (L, W, 0) by unfold actP; rw [if_neg HK1.out.1, if_neg HK1.out.2.1, if_neg HK1.out.2.2, hib]; rfl)
          refine (read_oki D1.out x.f1 hib).mono ?_
          rintro e w5 ⟨rfl, b5⟩
          go_wp2
          go_ret
          exact ⟨by rw [HA.out]; first | done | rfl, v, by rw [HA.out]; exact D1.out.below b5, F1.out.below b5, NV.refl _ _⟩
end Go.Proofs.Ytlodjkmablogcaa.Own
