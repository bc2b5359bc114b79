/- The walk of DiskActs. -/
import Derived.Test.YtlodjkmablogcaaEA
import Derived.Test.YtlodjkmablogcaaDV
namespace Go.Proofs.Ytlodjkmablogcaa.Own
open Go.RowKit Go.Proofs.YtlodjkmablogcaaW.PrintWords Go.Proofs.Ytlodjkmablogcaa.PB
set_option maxRecDepth 100000
set_option linter.unusedSimpArgs false
set_option linter.unusedVariables false
theorem typed_fs {B g o : Nat} {v : Value} {L : List ByteArray} {W : List S79} {w : World} (h : DS B g o v L W w) {k : Nat} (hk : FS g o v k) : ∃ c t, w.heap[k]? = some (.cells c t (0, 0)) ∧ (t = 61 ∨ t = 63 ∨ t = 65) := by
  rcases hk with rfl | rfl | hk
  · exact ⟨_, _, h.blk, Or.inl rfl⟩
  · exact ⟨_, _, h.lie, Or.inr (Or.inl rfl)⟩
  · obtain ⟨inner, ho⟩ := Kd.R_own h.row
    obtain ⟨c, hc⟩ := own_typed ho k hk
    exact ⟨c, 65, hc, Or.inr (Or.inr rfl)⟩
theorem not_fs {B g o : Nat} {v : Value} {L : List ByteArray} {W : List S79} {w w1 : World} (h : DS B g o v L W w) (hf : Fr (FS g o v) w w1) {k t : Nat} {c : Array Value} (hb : w.heap[k]? = some (.cells c t (0, 0))) (ht : t ≠ 61 ∧ t ≠ 63 ∧ t ≠ 65) : w1.heap[k]? = some (.cells c t (0, 0)) :=
  (hf.block k (blk_lt hb) (fun hS => by
    obtain ⟨c', t', hc, ht'⟩ := typed_fs h hS
    rw [hb] at hc
    cases hc
    rcases ht' with e | e | e
    · exact absurd e ht.1
    · exact absurd e ht.2.1
    · exact absurd e ht.2.2)).trans hb
theorem DS.box39 {B g o : Nat} {v : Value} {L : List ByteArray} {W : List S79} {w : World} (h : DS B g o v L W w) {k : Nat} {c : Array Value} (hb : w.heap[k]? = some (.cells c 39 (0, 0))) (j : Nat) (u : Value) : DS B g o v L W (w.setCell ⟨k, j, none⟩ u) :=
  h.fr (S := fun x => x = k) ((Fr.refl _ w).set ⟨k, j, none⟩ u (Or.inl rfl)) (fun q hq e => by
    subst e
    obtain ⟨c', t', hc, ht⟩ := typed_fs h hq
    rw [hb] at hc
    cases hc
    revert ht
    decide)
theorem DW.put2 {B g o : Nat} {v a b u x : Value} {L : List ByteArray} {W : List S79} {w0 w : World} (h : DW B g o v L W w0 w) {k : Nat} (hb : w.heap[k]? = some (.cells #[a, b] 39 (0, 0))) (hk : w0.heap.size ≤ k) : DW B g o v L W w0 ((w.setCell ⟨k, 0, none⟩ u).setCell ⟨k, 1, none⟩ x) :=
  ⟨(h.d.box39 hb 0 u).box39 (heap_set hb (i := 0) u) 1 x, below_put2 h.b hk⟩
theorem two_0 {w : World} {k t : Nat} {a b : Value} (h : w.heap[k]? = some (.cells #[a, b] t (0, 0))) : w.cell? ⟨k, 0, none⟩ = some a := (blk_cell h 0).trans rfl
theorem two_1 {w : World} {k t : Nat} {a b : Value} (h : w.heap[k]? = some (.cells #[a, b] t (0, 0))) : w.cell? ⟨k, 1, none⟩ = some b := (blk_cell h 1).trans rfl
theorem DD.drew {B : Nat} {vL vW : Value} {L : List ByteArray} {W : List S79} {w : World} (h : DD B vL vW L W w) : DD B vL vW L W w.drew := h.below ((Below.refl _ _).drew)
theorem DD.prog {B B' g o : Nat} {v vL vW : Value} {L L' : List ByteArray} {W W' : List S79} {w w1 : World} (h : DD B vL vW L W w) (d : DS B' g o v L' W' w) (hf : Fr (FS g o v) w w1) : DD B vL vW L W w1 :=
  ⟨ok_all (Kd.R_move (Kd.R_bound h.l) (fun k hk => by
    obtain ⟨_, _, hlt, q, hq, c, hc⟩ := hk
    rw [hc]
    exact not_fs d hf hc (by simp [Kd.string, Kd.scalar] at hq; omega))), ok_all (Kd.R_move (Kd.R_bound h.w) (fun k hk => by
    obtain ⟨_, _, hlt, q, hq, c, hc⟩ := hk
    rw [hc]
    exact not_fs d hf hc (by simp [k79, Kd.iso, Kd.pair, Kd.int, Kd.string, Kd.scalar] at hq; omega)))⟩
set_option maxHeartbeats 16000000 in
theorem acts_mid (n : Nat) (A : Option Addr) (c : Nat) (l : List S25) (w : World) (hl : Kd.C k25 w A l.length l) (hc : l.length ≤ c) (hok : LOK l) (hlg : largeB l = false) (h1 : 1 ≤ n) (h20 : n ≤ 20) :
    Calls Try.prog 4 #[.int .i64 (n : Int), .slice A l.length c] w fun e w' => e = .returned (.bool true) ∧ Below w.heap.size w w' := by
  have HL := Lib.hid hl
  have HG := Lib.hid hlg
  have HSM := Lib.hid (small_of hlg).2
  have hl40 : (l.length : Int) ≤ 40 := by have := (small_of hlg).1; omega
  have HOK := Lib.hid hok
  have HMAX := Lib.hid (Kd.C_max hl)
  have H1 := Lib.hid h1
  have H20 := Lib.hid h20
  have n1 : (1 : Int) ≤ (n : Int) := by omega
  have n2 : (n : Int) ≤ 20 := by omega
  have n3 : decide ((20 : Int) < (n : Int)) = false := by simp; omega
  have n4 : decide ((n : Int) < 1) = false := by simp; omega
  have n5 : decide ((8192 : Int) < (n : Int)) = false := by simp; omega
  have n6 : decide (20 < n) = false := by simp; omega
  have n7 : decide (n < 1) = false := by simp; omega
  have n8 : decide (8192 < n) = false := by simp; omega
  clear hlg hok hl h1 h20
  go_enter Try.func4, Try.ntmps4
  go_wp2_with fail
  refine (large_any A c l _ HL.out hc).mono ?_
  rintro e wl ⟨rfl, b1⟩
  rw [HG.out]
  have B1 := Lib.hid b1
  clear b1
  go_wp2_with fail
  refine (new_ok n wl H1.out (by have := H20.out; omega)).mono ?_
  rintro e wm ⟨rfl, hd, hb⟩
  have E1 := Lib.hid (show DW wl.heap.size (wl.heap.size + 1) wl.heap.size (.slice none 0 0) (runP (L0 n) (l.take 0)).1 (runP (L0 n) (l.take 0)).2 w wm from ⟨hd, below_two B1.out hb⟩)
  have HWO := Lib.hid (show w.heap.size ≤ wl.heap.size from B1.out.size)
  clear hd hb
  generalize wl.heap.size + 1 = g at *
  generalize wl.heap.size = o at *
  go_wp2_with fail
  refine (docNew_any n (by have := H20.out; omega) wm).mono ?_
  rintro e wn ⟨u1, u2, rfl, hdd, bb⟩
  have P2 := Lib.hid (E1.out.below bb)
  have HBd := Lib.hid bb.size
  clear bb n1 n2 n3 n4 n5 n6 n7 n8
  obtain ⟨AL, cL, AW, cW, e1, e2, _, _, _, _⟩ := hdd.reads
  rw [List.length_replicate] at e1
  rw [List.length_nil] at e2
  subst e1 e2
  have BX := Lib.hid (show Below wn.heap.size wn (wn.alloc (.cells #[.slice AL n cL, .slice AW 0 cW] 39)) from (Below.refl _ _).alloc (Nat.le_refl _) _)
  have X3 := Lib.hid (heap_new wn (.cells #[.slice AL n cL, .slice AW 0 cW] 39))
  have P3 := Lib.hid (P2.out.below BX.out)
  have Q3 := Lib.hid (show DD wm.heap.size (.slice AL n cL) (.slice AW 0 cW) (runP (L0 n) (l.take 0)).1 (runP (L0 n) (l.take 0)).2 _ from hdd.below BX.out)
  have HS3 := Lib.hid (show wm.heap.size ≤ (wn.alloc (.cells #[.slice AL n cL, .slice AW 0 cW] 39)).heap.size by have := HBd.out; simp; omega)
  clear hdd
  have HQB := Lib.hid (show w.heap.size ≤ wn.heap.size from P2.out.b.size)
  generalize wm.heap.size = Bd at *
  go_upto_region 7 with (fail)
  generalize hw3 : wn.alloc (.cells #[.slice AL n cL, .slice AW 0 cW] 39) = w3 at *
  generalize hqb : wn.heap.size = qb at *
  clear hw3 hqb BX
  go_wp2_with fail
  go_loopw [46] (fun q wr => ∃ (k : Nat) (v u1 u2 : Value), k ≤ l.length ∧ q = .int .i64 k ∧ DW o g o v (runP (L0 n) (l.take k)).1 (runP (L0 n) (l.take k)).2 w wr ∧ DD Bd u1 u2 (runP (L0 n) (l.take k)).1 (runP (L0 n) (l.take k)).2 wr ∧ wr.heap[qb]? = some (.cells #[u1, u2] 39 (0, 0)) ∧ Bd ≤ wr.heap.size) (fun q _ => l.length - (intOf q).toNat)
  case atStart => exact ⟨0, _, _, _, by omega, rfl, P3.out, Q3.out, X3.out, HS3.out⟩
  case round =>
    obtain ⟨k, v, u1, u2, hk, rfl, hp, hq, hx, hs⟩ := hrel
    have P := Lib.hid hp; have Q := Lib.hid hq; have XX := Lib.hid hx; have SZ := Lib.hid hs
    clear hp hq hx hs
    by_cases hlt : k < l.length
    · have q1 : (0 : Int) ≤ (k : Int) := Int.natCast_nonneg _
      have q2 : (k : Int) < (l.length : Int) := by omega
      obtain ⟨b, off, KA, kc, rfl, x0, x1, x2, x3, x4, hkc0, _⟩ := at25 (Kd.C_below HL.out P.out.b) k hlt
      obtain ⟨_, _, KA', kc', e', _, _, _, _, y4, _, hkc⟩ := at25 HL.out k hlt
      have HKK := Lib.hid (show ∀ W', Below w.heap.size w W' → Kd.C k52 W' KA (l.getD k z25).f4.length (l.getD k z25).f4 from by
        injection e' with e'
        cases e'
        have h2 := (P.out.b.cell (p := ⟨b, off + k * 5 + 4, none⟩) (World.block_lt_of_cell? w _ y4)).trans y4
        rw [x4] at h2
        cases h2
        exact fun W' hb => Kd.C_below hkc hb)
      have HA := Lib.hid (LOK.at HOK.out HSM.out hlt)
      have HN := Lib.hid (runP_take (L := L0 n) hlt)
      have HWL := Lib.hid (show (runP (L0 n) (l.take k)).2.length ≤ 40 by have := runP_wlen (L0 n) l k; omega)
      have HSL := Lib.hid (show (runP (L0 n) (l.take k)).1.length = n by rw [runP_len]; simp [L0])
      have HKC := Lib.hid hkc0
      have HWN := Lib.hid (show (actP (runP (L0 n) (l.take k)).1 (runP (L0 n) (l.take k)).2 (l.getD k z25)).2.1.length ≤ 41 by have h1 := stepP_wlen (runP (L0 n) (l.take k)) (l.getD k z25); have h2 := runP_wlen (L0 n) l k; unfold stepP at h1; simp only at h1; omega)
      have HLN := Lib.hid (show (actP (runP (L0 n) (l.take k)).1 (runP (L0 n) (l.take k)).2 (l.getD k z25)).1.length ≤ 20 by have h1 := stepP_len (runP (L0 n) (l.take k)) (l.getD k z25); have h2 := runP_len (L0 n) l k; unfold stepP at h1; simp only at h1; have h3 : (L0 n).length = n := (by simp [L0]); have := H20.out; omega)
      clear y4 e' hkc hkc0
      generalize l.getD k z25 = y at *
      generalize runP (L0 n) (l.take k) = s at *
      have BY := Lib.hid (show Below wr.heap.size wr (wr.alloc (.cells (ac y KA kc) 25)) from (Below.refl _ _).alloc (Nat.le_refl _) _)
      have YB := Lib.hid (heap_new wr (.cells (ac y KA kc) 25))
      obtain ⟨z0, z1, z2, z3, z4⟩ := AB.of YB.out
      have P4 := Lib.hid (P.out.below BY.out)
      have Q4 := Lib.hid (Q.out.below BY.out)
      have X4 := Lib.hid (blk_below XX.out BY.out)
      have SZ4 := Lib.hid (Nat.le_trans SZ.out BY.out.size)
      have r0 := two_0 X4.out
      have r1 := two_1 X4.out
      unfold ac at r0 r1 z0 z1 z2 z3 z4
      go_wp2_with fail
      change Calls _ _ _ (wr.alloc (.cells (ac y KA kc) 25)) _
      refine (act_any Q4.out y HA.out KA kc HKC.out SZ4.out (by have := HSL.out; have := H20.out; omega) P4.out.d.l64 (by have := HWL.out; omega) P4.out.d.w64 (HKK.out _ P4.out.b)).mono ?_
      rintro e w6 ⟨v1, v2, rfl, hdd, bb⟩
      obtain ⟨A1, p1, A2, p2, e1, e2, _, _, _, _⟩ := hdd.reads
      obtain ⟨m1, hm1⟩ : ∃ m, (actP s.1 s.2 y).1.length = m := ⟨_, rfl⟩
      obtain ⟨m2, hm2⟩ : ∃ m, (actP s.1 s.2 y).2.1.length = m := ⟨_, rfl⟩
      rw [hm1] at e1
      rw [hm2] at e2
      subst e1 e2
      clear hm1 hm2
      have BZ := Lib.hid (show Below w6.heap.size w6 (w6.alloc (.cells #[.slice A1 m1 p1, .slice A2 m2 p2, .int .i64 (actP s.1 s.2 y).2.2] 42)) from (Below.refl _ _).alloc (Nat.le_refl _) _)
      have Z6 := Lib.hid (heap_new w6 (.cells #[.slice A1 m1 p1, .slice A2 m2 p2, .int .i64 (actP s.1 s.2 y).2.2] 42))
      have P6 := Lib.hid ((P4.out.below bb).below BZ.out)
      have Q6 := Lib.hid (hdd.below BZ.out)
      have X6 := Lib.hid (blk_below (blk_below X4.out bb) BZ.out)
      have YB6 := Lib.hid (blk_below (blk_below YB.out bb) BZ.out)
      have Y6 := Lib.hid (AB.of YB6.out)
      have SZ6 := Lib.hid (Nat.le_trans (Nat.le_trans SZ4.out bb.size) BZ.out.size)
      generalize hb9 : wr.heap.size = b9 at *
      generalize her : (actP s.1 s.2 y).2.2 = er at *
      have HER := Lib.hid her
      clear hdd bb r0 r1 z0 z1 z2 z3 z4 x0 x1 x2 x3 x4 her hb9 BY
      generalize wr.alloc (.cells (ac y KA kc) 25) = w4 at *
      clear P Q XX SZ
      go_upto_region 11 with (fail)
      have E6 := Lib.hid (show (w6.alloc (.cells #[.slice A1 m1 p1, .slice A2 m2 p2, .int .i64 er] 42)).cell? ⟨w6.heap.size, 2, none⟩ = some (.int .i64 er) from (blk_cell Z6.out 2).trans rfl)
      generalize w6.alloc (.cells #[.slice A1 m1 p1, .slice A2 m2 p2, .int .i64 er] 42) = W6 at *
      generalize w6.heap.size = b10 at *
      refine wp_region_held_drew (S := fun w' => AB y KA kc b9 w' ∧ w'.cell? ⟨b10, 2, none⟩ = some (.int .i64 er)) (by kernel_rfl) (⟨Y6.out.drew, E6.out⟩) (fun hHeld => ?_)
      refine wpAnyH_take (i := 0) (oi := { dst := some 53, op := Op.move (Operand.tmp 5), type := 28, pos := "law.go:125", after := #[], guard := none }) (v := ?_) rfl (by kernel_rfl) (by kernel_rfl) (by kernel_rfl) (fun _ _ _ h => h) (Or.inl ⟨by rfl, ?_⟩) hHeld ?_; rotate_left 1; (intro w9 hSw; obtain ⟨⟨q0, q1, q2, q3, q4⟩, q5⟩ := hSw; go_simp; first | done | with_reducible rfl); (try simp only [Act.put, List.setIfInBounds_toArray, List.set_cons_zero, List.set_cons_succ])
      refine wpAnyH_take (i := 1) (oi := { dst := some 54, op := Op.load 25 (Operand.tmp 9), type := 25, pos := "law.go:125", after := #[], guard := none }) (v := ?_) rfl (by kernel_rfl) (by kernel_rfl) (by kernel_rfl) (fun _ _ _ h => h) (Or.inl ⟨by rfl, ?_⟩) hHeld ?_; rotate_left 1; (intro w9 hSw; obtain ⟨⟨q0, q1, q2, q3, q4⟩, q5⟩ := hSw; go_simp; first | done | with_reducible rfl); (try simp only [Act.put, List.setIfInBounds_toArray, List.set_cons_zero, List.set_cons_succ])
      refine wpAnyH_take (i := 3) (oi := { dst := some 56, op := Op.fieldAddr 42 (Operand.tmp 10) 1, type := 0, pos := "law.go:125", after := #[], guard := none }) (v := ?_) rfl (by kernel_rfl) (by kernel_rfl) (by kernel_rfl) (fun _ _ _ h => h) (Or.inl ⟨by rfl, ?_⟩) hHeld ?_; rotate_left 1; (intro w9 hSw; obtain ⟨⟨q0, q1, q2, q3, q4⟩, q5⟩ := hSw; go_simp; first | done | with_reducible rfl); (try simp only [Act.put, List.setIfInBounds_toArray, List.set_cons_zero, List.set_cons_succ])
      refine wpAnyH_take (i := 4) (oi := { dst := some 57, op := Op.load 3 (Operand.tmp 56), type := 3, pos := "law.go:125", after := #[{ on := 3, ground := Ground.data }], guard := none }) (v := ?_) rfl (by kernel_rfl) (by kernel_rfl) (by kernel_rfl) (fun _ _ _ h => h) (Or.inl ⟨by rfl, ?_⟩) hHeld ?_; rotate_left 1; (intro w9 hSw; obtain ⟨⟨q0, q1, q2, q3, q4⟩, q5⟩ := hSw; go_simp; first | done | with_reducible rfl); (try simp only [Act.put, List.setIfInBounds_toArray, List.set_cons_zero, List.set_cons_succ])
      refine wpAnyH_ready (rs := [2]) (by kernel_rfl) (by simp) ?_; refine AllReadyH.cons (o := { dst := some 55, op := Op.call { callee := Callee.value (Operand.func 11), args := #[Operand.tmp 53, Operand.tmp 54], argTypes := #[28, 25] }, type := 29, pos := "law.go:125", after := #[{ on := 0, ground := Ground.data }, { on := 1, ground := Ground.data }], guard := none }) rfl (fun K hK => ?_) AllReadyH.nil; go_simp; refine (done_any P6.out.d.drew y HA.out KA kc (fun W' hf => HKK.out W' ((show DW o g o v s.1 s.2 w W6.drew from P6.out.below ((Below.refl _ _).drew)).to HWO.out hf)) (by have := HWL.out; omega)).mono ?_; rintro e w7 ⟨rfl, v7, hd7, hf7, _⟩; have P7 := Lib.hid ((show DW o g o v s.1 s.2 w W6.drew from P6.out.below ((Below.refl _ _).drew)).fr HWO.out hd7 hf7); have Q7 := Lib.hid (Q6.out.drew.prog P6.out.d.drew hf7); have X7 := Lib.hid ((not_fs P6.out.d.drew hf7 X6.out (by decide))); have Z7 := Lib.hid ((not_fs P6.out.d.drew hf7 Z6.out (by decide))); have Y7 := Lib.hid (not_fs P6.out.d.drew hf7 YB6.out (by decide)); have HS7 := Lib.hid (show W6.heap.size ≤ w7.heap.size from hf7.size); clear hd7 hf7; (try go_wp2_with fail); refine hK.out _ _ ⟨AB.of Y7.out, (blk_cell Z7.out 2).trans rfl⟩ (fun hHeld => ?_); clear hK; (try simp only [Act.put, List.setIfInBounds_toArray, List.set_cons_zero, List.set_cons_succ])
      refine wpAnyH_take (i := 5) (oi := { dst := some 58, op := Op.binOp BinOp.neq 3 (Operand.tmp 55) (Operand.tmp 57) 3, type := 4, pos := "law.go:125", after := #[{ on := 2, ground := Ground.data }, { on := 4, ground := Ground.data }], guard := none }) (v := ?_) rfl (by kernel_rfl) (by kernel_rfl) (by kernel_rfl) (fun _ _ _ h => h) (Or.inl ⟨by rfl, ?_⟩) hHeld ?_; rotate_left 1; (intro w9 hSw; obtain ⟨⟨q0, q1, q2, q3, q4⟩, q5⟩ := hSw; rw [HER.out]; go_simp; first | done | with_reducible rfl); (try simp only [Act.put, List.setIfInBounds_toArray, List.set_cons_zero, List.set_cons_succ])
      refine wpAnyH_done (by kernel_rfl) ?_ _
      clear P6 Q6 X6 Z6 YB6 Y6 E6 P4 Q4 X4 YB SZ4 HA HKK HKC hHeld
      have r0 := two_0 X7.out
      have r1 := two_1 X7.out
      have f0 := blk_free X7.out 0
      have f1 := blk_free X7.out 1
      have s0 := (blk_cell Z7.out 0).trans rfl
      have s1 := (blk_cell Z7.out 1).trans rfl
      go_upto_region 14 with (fail)
      have P8 := Lib.hid (P7.out.put2 X7.out HQB.out (u := .slice A1 m1 p1) (x := .slice A2 m2 p2))
      have Q8 := Lib.hid (Q7.out.put2 X7.out (u := .slice A1 m1 p1) (v := .slice A2 m2 p2))
      have X8 := Lib.hid (put2_heap X7.out (u := .slice A1 m1 p1) (v := .slice A2 m2 p2))
      have Y8 := Lib.hid (AB.of ((put2_far (show b9 ≠ qb by rintro rfl; have h1 := X7.out; rw [Y7.out] at h1; cases h1)).trans Y7.out) (w := (w7.setCell ⟨qb, 0, none⟩ (.slice A1 m1 p1)).setCell ⟨qb, 1, none⟩ (.slice A2 m2 p2)))
      have SZ8 := Lib.hid (show Bd ≤ ((w7.setCell ⟨qb, 0, none⟩ (.slice A1 m1 p1)).setCell ⟨qb, 1, none⟩ (.slice A2 m2 p2)).heap.size by have := SZ6.out; have := HS7.out; simp; omega)
      clear r0 r1 f0 f1 s0 s1 P7 Q7 X7 Z7 Y7 SZ6 HS7
      generalize (w7.setCell ⟨qb, 0, none⟩ (.slice A1 m1 p1)).setCell ⟨qb, 1, none⟩ (.slice A2 m2 p2) = W8 at *
      refine wp_region_held_drew (S := fun w' => AB y KA kc b9 w' ∧ w'.heap[qb]? = some (.cells #[.slice A1 m1 p1, .slice A2 m2 p2] 39 (0, 0)) ∧ W8.heap.size ≤ w'.heap.size ∧ Below W8.heap.size W8 w') (by kernel_rfl) (⟨Y8.out.drew, X8.out, Nat.le_refl _, (Below.refl _ _).drew⟩) (fun hHeld => ?_)
      refine wpAnyH_take (i := 0) (oi := { dst := some 61, op := Op.move (Operand.tmp 5), type := 28, pos := "law.go:129", after := #[], guard := none }) (v := ?_) rfl (by kernel_rfl) (by kernel_rfl) (by kernel_rfl) (fun _ _ _ h => h) (Or.inl ⟨by rfl, ?_⟩) hHeld ?_; rotate_left 1; (intro w9 hSw; obtain ⟨⟨q0, q1, q2, q3, q4⟩, q5, q7, q6⟩ := hSw; have r0 := two_0 q5; have r1 := two_1 q5; clear q5 q6 q7; go_simp; first | done | with_reducible rfl); (try simp only [Act.put, List.setIfInBounds_toArray, List.set_cons_zero, List.set_cons_succ])
      refine wpAnyH_take (i := 1) (oi := { dst := some 62, op := Op.load 39 (Operand.tmp 7), type := 39, pos := "law.go:129", after := #[], guard := none }) (v := ?_) rfl (by kernel_rfl) (by kernel_rfl) (by kernel_rfl) (fun _ _ _ h => h) (Or.inl ⟨by rfl, ?_⟩) hHeld ?_; rotate_left 1; (intro w9 hSw; obtain ⟨⟨q0, q1, q2, q3, q4⟩, q5, q7, q6⟩ := hSw; have r0 := two_0 q5; have r1 := two_1 q5; clear q5 q6 q7; go_simp; first | done | with_reducible rfl); (try simp only [Act.put, List.setIfInBounds_toArray, List.set_cons_zero, List.set_cons_succ])
      refine wpAnyH_ready (rs := [2]) (by kernel_rfl) (by simp) ?_; refine AllReadyH.cons (o := { dst := some 63, op := Op.call { callee := Callee.value (Operand.func 16), args := #[Operand.tmp 61, Operand.tmp 62], argTypes := #[28, 39] }, type := 4, pos := "law.go:129", after := #[{ on := 0, ground := Ground.data }, { on := 1, ground := Ground.data }], guard := none }) rfl (fun K hK => ?_) AllReadyH.nil; go_simp; refine (same_any P8.out.d.drew (show DD Bd (.slice A1 m1 p1) (.slice A2 m2 p2) _ _ W8.drew from Q8.out.drew) (by have := HWN.out; omega)).mono ?_; rintro e wa1 ⟨rfl, bb⟩; have P9 := Lib.hid (P8.out.d.below (((Below.refl _ _).drew).trans bb)); have Q9 := Lib.hid (Q8.out.below (((Below.refl _ _).drew).trans bb)); (try go_wp2_with fail); refine hK.out _ _ ⟨hHeld.1.below bb, blk_below hHeld.2.1 bb, Nat.le_trans hHeld.2.2.1 bb.size, below_two hHeld.2.2.2 bb⟩ (fun hHeld => ?_); clear hK bb; (try simp only [Act.put, List.setIfInBounds_toArray, List.set_cons_zero, List.set_cons_succ])
      refine wpAnyH_take (i := 3) (oi := { dst := some 64, op := Op.unOp UnOp.not 4 (Operand.tmp 63), type := 4, pos := "law.go:129", after := #[{ on := 2, ground := Ground.data }], guard := none }) (v := ?_) rfl (by kernel_rfl) (by kernel_rfl) (by kernel_rfl) (fun _ _ _ h => h) (Or.inl ⟨by rfl, ?_⟩) hHeld ?_; rotate_left 1; (intro w9 hSw; obtain ⟨⟨q0, q1, q2, q3, q4⟩, q5, q7, q6⟩ := hSw; have r0 := two_0 q5; have r1 := two_1 q5; clear q5 q6 q7; go_simp; first | done | with_reducible rfl); (try simp only [Act.put, List.setIfInBounds_toArray, List.set_cons_zero, List.set_cons_succ])
      refine wpAnyH_take (i := 4) (oi := { dst := some 65, op := Op.move (Operand.tmp 64), type := 4, pos := "law.go:129", after := #[{ on := 3, ground := Ground.data }, { on := 2, ground := Ground.chain }], guard := none }) (v := ?_) rfl (by kernel_rfl) (by kernel_rfl) (by kernel_rfl) (fun _ _ _ h => h) (Or.inl ⟨by rfl, ?_⟩) hHeld ?_; rotate_left 1; (intro w9 hSw; obtain ⟨⟨q0, q1, q2, q3, q4⟩, q5, q7, q6⟩ := hSw; have r0 := two_0 q5; have r1 := two_1 q5; clear q5 q6 q7; go_simp; first | done | with_reducible rfl); (try simp only [Act.put, List.setIfInBounds_toArray, List.set_cons_zero, List.set_cons_succ])
      refine wpAnyH_take (i := 5) (oi := { dst := some 66, op := Op.move (Operand.tmp 5), type := 28, pos := "law.go:129", after := #[{ on := 4, ground := Ground.guard }], guard := some (4, false) }) (v := ?_) rfl (by kernel_rfl) (by kernel_rfl) (by kernel_rfl) (fun _ _ _ h => h) (Or.inl ⟨by rfl, ?_⟩) hHeld ?_; rotate_left 1; (intro w9 hSw; obtain ⟨⟨q0, q1, q2, q3, q4⟩, q5, q7, q6⟩ := hSw; have r0 := two_0 q5; have r1 := two_1 q5; clear q5 q6 q7; go_simp; first | done | with_reducible rfl); (try simp only [Act.put, List.setIfInBounds_toArray, List.set_cons_zero, List.set_cons_succ])
      refine wpAnyH_take (i := 6) (oi := { dst := some 67, op := Op.fieldAddr 25 (Operand.tmp 9) 1, type := 0, pos := "law.go:129", after := #[{ on := 4, ground := Ground.guard }], guard := some (4, false) }) (v := ?_) rfl (by kernel_rfl) (by kernel_rfl) (by kernel_rfl) (fun _ _ _ h => h) (Or.inl ⟨by rfl, ?_⟩) hHeld ?_; rotate_left 1; (intro w9 hSw; obtain ⟨⟨q0, q1, q2, q3, q4⟩, q5, q7, q6⟩ := hSw; have r0 := two_0 q5; have r1 := two_1 q5; clear q5 q6 q7; go_simp; first | done | with_reducible rfl); (try simp only [Act.put, List.setIfInBounds_toArray, List.set_cons_zero, List.set_cons_succ])
      refine wpAnyH_take (i := 7) (oi := { dst := some 68, op := Op.load 3 (Operand.tmp 67), type := 3, pos := "law.go:129", after := #[{ on := 6, ground := Ground.data }, { on := 4, ground := Ground.guard }], guard := some (4, false) }) (v := ?_) rfl (by kernel_rfl) (by kernel_rfl) (by kernel_rfl) (fun _ _ _ h => h) (Or.inl ⟨by rfl, ?_⟩) hHeld ?_; rotate_left 1; (intro w9 hSw; obtain ⟨⟨q0, q1, q2, q3, q4⟩, q5, q7, q6⟩ := hSw; have r0 := two_0 q5; have r1 := two_1 q5; clear q5 q6 q7; go_simp; first | done | with_reducible rfl); (try simp only [Act.put, List.setIfInBounds_toArray, List.set_cons_zero, List.set_cons_succ])
      refine wpAnyH_take (i := 8) (oi := { dst := some 69, op := Op.fieldAddr 25 (Operand.tmp 9) 2, type := 0, pos := "law.go:129", after := #[{ on := 4, ground := Ground.guard }], guard := some (4, false) }) (v := ?_) rfl (by kernel_rfl) (by kernel_rfl) (by kernel_rfl) (fun _ _ _ h => h) (Or.inl ⟨by rfl, ?_⟩) hHeld ?_; rotate_left 1; (intro w9 hSw; obtain ⟨⟨q0, q1, q2, q3, q4⟩, q5, q7, q6⟩ := hSw; have r0 := two_0 q5; have r1 := two_1 q5; clear q5 q6 q7; go_simp; first | done | with_reducible rfl); (try simp only [Act.put, List.setIfInBounds_toArray, List.set_cons_zero, List.set_cons_succ])
      refine wpAnyH_take (i := 9) (oi := { dst := some 70, op := Op.load 3 (Operand.tmp 69), type := 3, pos := "law.go:129", after := #[{ on := 8, ground := Ground.data }, { on := 4, ground := Ground.guard }], guard := some (4, false) }) (v := ?_) rfl (by kernel_rfl) (by kernel_rfl) (by kernel_rfl) (fun _ _ _ h => h) (Or.inl ⟨by rfl, ?_⟩) hHeld ?_; rotate_left 1; (intro w9 hSw; obtain ⟨⟨q0, q1, q2, q3, q4⟩, q5, q7, q6⟩ := hSw; have r0 := two_0 q5; have r1 := two_1 q5; clear q5 q6 q7; go_simp; first | done | with_reducible rfl); (try simp only [Act.put, List.setIfInBounds_toArray, List.set_cons_zero, List.set_cons_succ])
      refine wpAnyH_take (i := 11) (oi := { dst := some 72, op := Op.load 39 (Operand.tmp 7), type := 39, pos := "law.go:129", after := #[{ on := 4, ground := Ground.guard }], guard := some (4, false) }) (v := ?_) rfl (by kernel_rfl) (by kernel_rfl) (by kernel_rfl) (fun _ _ _ h => h) (Or.inl ⟨by rfl, ?_⟩) hHeld ?_; rotate_left 1; (intro w9 hSw; obtain ⟨⟨q0, q1, q2, q3, q4⟩, q5, q7, q6⟩ := hSw; have r0 := two_0 q5; have r1 := two_1 q5; clear q5 q6 q7; go_simp; first | done | with_reducible rfl); (try simp only [Act.put, List.setIfInBounds_toArray, List.set_cons_zero, List.set_cons_succ])
      refine wpAnyH_take (i := 12) (oi := { dst := some 73, op := Op.load 25 (Operand.tmp 9), type := 25, pos := "law.go:129", after := #[{ on := 4, ground := Ground.guard }], guard := some (4, false) }) (v := ?_) rfl (by kernel_rfl) (by kernel_rfl) (by kernel_rfl) (fun _ _ _ h => h) (Or.inl ⟨by rfl, ?_⟩) hHeld ?_; rotate_left 1; (intro w9 hSw; obtain ⟨⟨q0, q1, q2, q3, q4⟩, q5, q7, q6⟩ := hSw; have r0 := two_0 q5; have r1 := two_1 q5; clear q5 q6 q7; go_simp; first | done | with_reducible rfl); (try simp only [Act.put, List.setIfInBounds_toArray, List.set_cons_zero, List.set_cons_succ])
      refine wpAnyH_ready (rs := [10]) (by kernel_rfl) (by simp) ?_; refine AllReadyH.cons (o := { dst := some 71, op := Op.call { callee := Callee.value (Operand.func 17), args := #[Operand.tmp 66, Operand.tmp 68, Operand.tmp 70], argTypes := #[28, 3, 3] }, type := 3, pos := "law.go:129", after := #[{ on := 5, ground := Ground.data }, { on := 7, ground := Ground.data }, { on := 9, ground := Ground.data }, { on := 4, ground := Ground.chain }, { on := 4, ground := Ground.guard }], guard := some (4, false) }) rfl (fun K hK => ?_) AllReadyH.nil; go_simp; refine (waiting_any P9.out y.f1 y.f2 (by have := HWN.out; omega)).mono ?_; rintro e wa2 ⟨rfl, bb⟩; have P10 := Lib.hid (P9.out.below bb); have Q10 := Lib.hid (Q9.out.below bb); (try go_wp2_with fail); refine hK.out _ _ ⟨hHeld.1.below bb, blk_below hHeld.2.1 bb, Nat.le_trans hHeld.2.2.1 bb.size, below_two hHeld.2.2.2 bb⟩ (fun hHeld => ?_); clear hK bb; (try simp only [Act.put, List.setIfInBounds_toArray, List.set_cons_zero, List.set_cons_succ])
      refine wpAnyH_ready (rs := [13]) (by kernel_rfl) (by simp) ?_; refine AllReadyH.cons (o := { dst := some 74, op := Op.call { callee := Callee.value (Operand.func 18), args := #[Operand.tmp 72, Operand.tmp 73], argTypes := #[39, 25] }, type := 3, pos := "law.go:129", after := #[{ on := 11, ground := Ground.data }, { on := 12, ground := Ground.data }, { on := 10, ground := Ground.chain }, { on := 4, ground := Ground.guard }], guard := some (4, false) }) rfl (fun K hK => ?_) AllReadyH.nil; go_simp; refine (docWaiting_any Q10.out y KA kc (by have := HLN.out; omega) (by have := HWN.out; omega) (fun z hz => ⟨(P10.out.w64 z hz).2.1, by have := (P10.out.w64 z hz).2.2; have := HLN.out; omega⟩)).mono ?_; rintro e wa3 ⟨rfl, bb⟩; (try go_wp2_with fail); refine hK.out _ _ ⟨hHeld.1.below bb, blk_below hHeld.2.1 bb, Nat.le_trans hHeld.2.2.1 bb.size, below_two hHeld.2.2.2 bb⟩ (fun hHeld => ?_); clear hK bb; (try simp only [Act.put, List.setIfInBounds_toArray, List.set_cons_zero, List.set_cons_succ])
      refine wpAnyH_take (i := 14) (oi := { dst := some 75, op := Op.binOp BinOp.neq 3 (Operand.tmp 71) (Operand.tmp 74) 3, type := 4, pos := "law.go:129", after := #[{ on := 10, ground := Ground.data }, { on := 13, ground := Ground.data }, { on := 4, ground := Ground.guard }], guard := some (4, false) }) (v := ?_) rfl (by kernel_rfl) (by kernel_rfl) (by kernel_rfl) (fun _ _ _ h => h) (Or.inl ⟨by rfl, ?_⟩) hHeld ?_; rotate_left 1; (intro w9 hSw; obtain ⟨⟨q0, q1, q2, q3, q4⟩, q5, q7, q6⟩ := hSw; have r0 := two_0 q5; have r1 := two_1 q5; clear q5 q6 q7; go_simp; first | done | with_reducible rfl); (try simp only [Act.put, List.setIfInBounds_toArray, List.set_cons_zero, List.set_cons_succ])
      refine wpAnyH_take (i := 15) (oi := { dst := some 76, op := Op.pick (Operand.tmp 65) (Operand.const (Value.bool true)) (Operand.tmp 75), type := 4, pos := "law.go:129", after := #[{ on := 4, ground := Ground.data }, { on := 14, ground := Ground.data }], guard := none }) (v := ?_) rfl (by kernel_rfl) (by kernel_rfl) (by kernel_rfl) (fun _ _ _ h => h) (Or.inl ⟨by rfl, ?_⟩) hHeld ?_; rotate_left 1; (intro w9 hSw; obtain ⟨⟨q0, q1, q2, q3, q4⟩, q5, q7, q6⟩ := hSw; have r0 := two_0 q5; have r1 := two_1 q5; clear q5 q6 q7; go_simp; first | done | with_reducible rfl); (try simp only [Act.put, List.setIfInBounds_toArray, List.set_cons_zero, List.set_cons_succ])
      refine wpAnyH_done (by kernel_rfl) ?_ _
      have P11 := Lib.hid (P8.out.below hHeld.2.2.2)
      have Q11 := Lib.hid (Q8.out.below hHeld.2.2.2)
      have X11 := Lib.hid hHeld.2.1
      have SZ11 := Lib.hid (Nat.le_trans SZ8.out hHeld.2.2.1)
      clear hHeld P8 Q8 X8 Y8 SZ8 P9 Q9 P10 Q10
      go_wp2_with fail
      go_roundw
      case rel => exact ⟨k + 1, v7, .slice A1 m1 p1, .slice A2 m2 p2, by omega, by go_num, by rw [HN.out]; exact P11.out, by rw [HN.out]; exact Q11.out, X11.out, SZ11.out⟩
      case measure => simp [intOf]; omega
    · obtain rfl : k = l.length := by omega
      rw [List.take_length] at P Q
      have HWL := Lib.hid (show (runP (L0 n) l).2.length ≤ 40 by have := runP_wlen (L0 n) l l.length; rw [List.take_length] at this; omega)
      generalize runP (L0 n) l = s at *
      obtain ⟨L, W⟩ := s
      simp only at P Q HWL
      clear hlt hk hl40
      have r0 := two_0 XX.out
      have r1 := two_1 XX.out
      go_wp2_with fail
      refine (same_any P.out.d Q.out (by have := HWL.out; omega)).mono ?_
      rintro e w7 ⟨rfl, b7⟩
      have P7 := Lib.hid (P.out.b.trans (b7.mono P.out.b.size))
      clear b7
      go_wp2_with fail
      refine (torn_any w7).mono ?_
      rintro e w8 ⟨rfl, b8⟩
      have BF := Lib.hid (below_two P7.out b8)
      clear b8 r0 r1
      go_wp2
      go_ret
      exact ⟨rfl, BF.out⟩
set_option maxHeartbeats 4000000 in
theorem acts_any (m : Int) (hm : (Lit.int .i64 m).wf = true) (A : Option Addr) (c : Nat) (l : List S25) (w : World) (hl : Kd.C k25 w A l.length l) (hc : l.length ≤ c) (hok : LOK l) :
    Calls Try.prog 4 #[.int .i64 m, .slice A l.length c] w fun e w' => e = .returned (.bool true) ∧ Below w.heap.size w w' := by
  have HL := Lib.hid hl
  have HOK := Lib.hid hok
  cases hlg : largeB l with
  | true =>
    have HG := Lib.hid hlg
    clear hlg hl hok
    go_enter Try.func4, Try.ntmps4
    go_wp2_with fail
    refine (large_any A c l w HL.out hc).mono ?_
    rintro e w1 ⟨rfl, b1⟩
    rw [HG.out]
    have B1 := Lib.hid b1; clear b1
    go_wp2_with fail
    refine (torn_any w1).mono ?_
    rintro e w2 ⟨rfl, b2⟩
    have B2 := Lib.hid (below_two B1.out b2); clear b2
    go_wp2
    go_ret
    exact ⟨rfl, B2.out⟩
  | false =>
    have HG := Lib.hid hlg
    by_cases hbig : 20 < m ∧ m ≤ 8192
    · have k1 : decide (20 < m) = true := decide_eq_true hbig.1
      have k2 : decide (m ≤ 8192) = true := decide_eq_true hbig.2
      clear hlg hl hok hbig
      go_enter Try.func4, Try.ntmps4
      go_wp2_with fail
      refine (large_any A c l w HL.out hc).mono ?_
      rintro e w1 ⟨rfl, b1⟩
      rw [HG.out]
      have B1 := Lib.hid b1; clear b1
      go_wp2_with fail
      refine (torn_any w1).mono ?_
      rintro e w2 ⟨rfl, b2⟩
      have B2 := Lib.hid (below_two B1.out b2); clear b2
      go_wp2
      go_ret
      exact ⟨rfl, B2.out⟩
    · by_cases hin : 1 ≤ m ∧ m ≤ 8192
      · obtain ⟨n, rfl⟩ : ∃ n : Nat, m = (n : Int) := ⟨m.toNat, by omega⟩
        exact acts_mid n A c l w hl hc hok hlg (by omega) (by omega)
      · have HBAD := Lib.hid (show m < 1 ∨ 8192 < m by omega)
        have k1 : (decide (20 < m) && decide (m ≤ 8192)) = false := by
          rw [Bool.and_eq_false_iff, decide_eq_false_iff_not, decide_eq_false_iff_not]
          omega
        have k2 : (decide (m < 1) || decide (8192 < m)) = true := by
          rw [Bool.or_eq_true, decide_eq_true_eq, decide_eq_true_eq]
          omega
        clear hlg hl hok hbig hin
        rcases HBAD.out with hlo | hhi
        · have q1 : decide (20 < m) = false := decide_eq_false (by omega)
          have q2 : decide (m < 1) = true := decide_eq_true hlo
          have q3 : decide (8192 < m) = false := decide_eq_false (by omega)
          clear k1 k2 hlo
          go_enter Try.func4, Try.ntmps4
          go_wp2_with fail
          refine (large_any A c l w HL.out hc).mono ?_
          rintro e w1 ⟨rfl, b1⟩
          rw [HG.out]
          have B1 := Lib.hid b1; clear b1
          go_wp2_with fail
          refine (new_bad m w1 HBAD.out).mono ?_
          rintro e w2 ⟨rfl, rfl⟩
          go_wp2_with fail
          refine (torn_any w1).mono ?_
          rintro e w3 ⟨rfl, b2⟩
          have B2 := Lib.hid (below_two B1.out b2); clear b2
          go_wp2
          go_ret
          exact ⟨rfl, B2.out⟩
        · have q1 : decide (20 < m) = true := decide_eq_true (by omega)
          have q2 : decide (m ≤ 8192) = false := decide_eq_false (by omega)
          have q3 : decide (8192 < m) = true := decide_eq_true hhi
          have q4 : decide (m < 1) = false := decide_eq_false (by omega)
          clear k1 k2 hhi
          go_enter Try.func4, Try.ntmps4
          go_wp2_with fail
          refine (large_any A c l w HL.out hc).mono ?_
          rintro e w1 ⟨rfl, b1⟩
          rw [HG.out]
          have B1 := Lib.hid b1; clear b1
          go_wp2_with fail
          refine (new_bad m w1 HBAD.out).mono ?_
          rintro e w2 ⟨rfl, rfl⟩
          go_wp2_with fail
          refine (torn_any w1).mono ?_
          rintro e w3 ⟨rfl, b2⟩
          have B2 := Lib.hid (below_two B1.out b2); clear b2
          go_wp2
          go_ret
          exact ⟨rfl, B2.out⟩
end Go.Proofs.Ytlodjkmablogcaa.Own
