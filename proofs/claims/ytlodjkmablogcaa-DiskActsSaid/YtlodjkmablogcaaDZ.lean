/- A call, by the document. -/
import Derived.Test.YtlodjkmablogcaaDY
namespace Go.Proofs.Ytlodjkmablogcaa.Own
open Go.RowKit Go.Proofs.YtlodjkmablogcaaW.PrintWords Go.Proofs.Ytlodjkmablogcaa.PB
set_option maxRecDepth 100000
set_option linter.unusedSimpArgs false
set_option linter.unusedVariables false
theorem put3_heap {w : World} {g : Nat} {a b c u v x : Value} {t : TypeId} (hb : w.heap[g]? = some (.cells #[a, b, c] t (0, 0))) : (((w.setCell ⟨g, 0, none⟩ u).setCell ⟨g, 1, none⟩ v).setCell ⟨g, 2, none⟩ x).heap[g]? = some (.cells #[u, v, x] t (0, 0)) := (heap_set (heap_set (heap_set hb (i := 0) _) (i := 1) _) (i := 2) _).trans rfl
theorem put3_far {w : World} {g k : Nat} {u v x : Value} (hk : k ≠ g) : (((w.setCell ⟨g, 0, none⟩ u).setCell ⟨g, 1, none⟩ v).setCell ⟨g, 2, none⟩ x).heap[k]? = w.heap[k]? := (heap_far _ _ _ hk).trans (put2_far hk)
theorem below_put3 {B g : Nat} {w0 w : World} {u v x : Value} (h : Below B w0 w) (hg : B ≤ g) : Below B w0 (((w.setCell ⟨g, 0, none⟩ u).setCell ⟨g, 1, none⟩ v).setCell ⟨g, 2, none⟩ x) := (below_put2 h hg).setCell (p := ⟨g, 2, none⟩) hg x
theorem DD.box' {B g t : Nat} {vL vW : Value} {L : List ByteArray} {W : List S79} {w : World} {cells : Array Value} (h : DD B vL vW L W w) (hb : w.heap[g]? = some (.cells cells t (0, 0))) (h9 : t ≠ 9) (h79 : t ≠ 79) (j : Nat) (u : Value) : DD B vL vW L W (w.setCell ⟨g, j, none⟩ u) :=
  ⟨Kd.R_set h.l hb (by intro q hq; simp [Kd.string, Kd.scalar] at hq; omega) j u, Kd.R_set h.w hb (by intro q hq; simp [k79, Kd.iso, Kd.pair, Kd.int, Kd.string, Kd.scalar] at hq; omega) j u⟩
theorem DD.put3 {B g : Nat} {vL vW a b c u v x : Value} {L : List ByteArray} {W : List S79} {w : World} (h : DD B vL vW L W w) (hb : w.heap[g]? = some (.cells #[a, b, c] 42 (0, 0))) : DD B vL vW L W (((w.setCell ⟨g, 0, none⟩ u).setCell ⟨g, 1, none⟩ v).setCell ⟨g, 2, none⟩ x) :=
  ((h.box' hb (by decide) (by decide) 0 u).box' (heap_set hb (i := 0) u) (by decide) (by decide) 1 v).box' (heap_set (heap_set hb (i := 0) u) (i := 1) v) (by decide) (by decide) 2 x
/-- The boxes of a call by the document. -/
structure BX3 (vL vW : Value) (x : S25) (KA : Option Addr) (kc : Nat) (w0 w : World) : Prop where
  b0 : w.heap[w0.heap.size]? = some (.cells #[vL, vW] 39 (0, 0))
  b1 : AB x KA kc (w0.heap.size + 1) w
  b2 : w.heap[w0.heap.size + 2]? = some (.cells #[.slice none 0 0, .slice none 0 0, .int .i64 0] 42 (0, 0))
  bel : Below w0.heap.size w0 w
theorem BX3.below {vL vW : Value} {x : S25} {KA : Option Addr} {kc : Nat} {w0 w w1 : World} (h : BX3 vL vW x KA kc w0 w) (hb : Below w.heap.size w w1) : BX3 vL vW x KA kc w0 w1 := ⟨blk_below h.b0 hb, h.b1.below hb, blk_below h.b2 hb, below_two h.bel hb⟩
theorem BX3.start (vL vW : Value) (x : S25) (KA : Option Addr) (kc : Nat) (w : World) : ∃ W1, ((w.alloc (.cells #[vL, vW] 39)).alloc (.cells (ac x KA kc) 25)).alloc (.cells #[.slice none 0 0, .slice none 0 0, .int .i64 0] 42) = W1 ∧ BX3 vL vW x KA kc w W1 := by
  have B1 : Below w.heap.size w (w.alloc (.cells #[vL, vW] 39)) := (Below.refl _ _).alloc (Nat.le_refl _) _
  have h1 : (w.alloc (.cells #[vL, vW] 39)).heap.size = w.heap.size + 1 := by simp
  have X0 := heap_new w (.cells #[vL, vW] 39)
  generalize w.alloc (.cells #[vL, vW] 39) = wa at *
  have B2 : Below wa.heap.size wa (wa.alloc (.cells (ac x KA kc) 25)) := (Below.refl _ _).alloc (Nat.le_refl _) _
  have h2 : (wa.alloc (.cells (ac x KA kc) 25)).heap.size = w.heap.size + 2 := by simp [h1]
  have X1 := heap_new wa (.cells (ac x KA kc) 25)
  rw [h1] at X1
  generalize wa.alloc (.cells (ac x KA kc) 25) = wb at *
  have B3 : Below wb.heap.size wb (wb.alloc (.cells #[.slice none 0 0, .slice none 0 0, .int .i64 0] 42)) := (Below.refl _ _).alloc (Nat.le_refl _) _
  have X2 := heap_new wb (.cells #[.slice none 0 0, .slice none 0 0, .int .i64 0] 42)
  rw [h2] at X2
  exact ⟨_, rfl, blk_below (blk_below X0 B2) B3, (AB.of X1).below B3, X2, below_two (below_two B1 B2) B3⟩
set_option maxHeartbeats 8000000 in
theorem act_any {B : Nat} {vL vW : Value} {L : List ByteArray} {W : List S79} {w : World} (h : DD B vL vW L W w) (x : S25) (hx : AOK x) (KA : Option Addr) (kc : Nat) (hkc : x.f4.length ≤ kc) (hB : B ≤ w.heap.size) (hL : L.length ≤ 8192) (hL64 : ∀ s ∈ L, s.size = 64) (hW : W.length ≤ 1000) (hw : ∀ x ∈ W, x.f1.size = 64 ∧ 0 ≤ x.f0 ∧ x.f0 < L.length) (hkp : Kd.C k52 w KA x.f4.length x.f4) :
    Calls Try.prog 15 #[.agg #[vL, vW], .agg #[.int .i64 x.f0, .int .i64 x.f1, .int .i64 x.f2, .int .u8 x.f3, .slice KA x.f4.length kc]] w fun e w' => ∃ v1 v2, e = .returned (.agg #[v1, v2, .int .i64 (actP L W x).2.2]) ∧ DD B v1 v2 (actP L W x).1 (actP L W x).2.1 w' ∧ Below w.heap.size w w' := by
  obtain ⟨AL, cL, AW, cW, rfl, rfl, _, _, _, _⟩ := h.reads
  obtain ⟨W1, hW1, hbx⟩ := BX3.start (.slice AL L.length cL) (.slice AW W.length cW) x KA kc w
  have HW1 := Lib.hid hW1
  have HB := Lib.hid hbx
  have HD := Lib.hid (h.below hbx.bel)
  have HX := Lib.hid hx; have HLS := Lib.hid hL64; have HWB := Lib.hid hw
  have HKP := Lib.hid hkp
  have HB1 := Lib.hid (show B ≤ W1.heap.size from Nat.le_trans hB hbx.bel.size)
  clear hx hL64 hw hkp h hbx hW1
  unfold ac at HW1
  have b0 := (blk_cell HB.out.b0 0).trans rfl
  have b1 := (blk_cell HB.out.b0 1).trans rfl
  obtain ⟨c0, c1, c2, c3, c4⟩ := HB.out.b1
  by_cases k0 : x.f0 = 0
  · have k0' : (x.f0 == 0) = true := by rw [beq_iff_eq]; exact k0
    have HK0 := Lib.hid k0
    clear k0
    go_enter Try.func15, Try.ntmps15
    go_upto_region 1 with (fail)
    rw [HW1.out]
    go_wp2_with fail
    refine (docIs_any HD.out x.f1).mono ?_
    rintro e w2 ⟨rfl, bb⟩
    have D2 := Lib.hid (HD.out.below bb)
    have B2 := Lib.hid (HB.out.below bb)
    clear bb
    clear b0 b1 c0 c1 c2 c3 c4
    cases hib : isB L.length x.f1 with
    | false =>
      have HA := Lib.hid (show actP L W x = (L, W, 20) by unfold actP; rw [if_pos HK0.out, hib]; rfl)
      clear hib
      have b0 := (blk_cell B2.out.b0 0).trans rfl
      have b1 := (blk_cell B2.out.b0 1).trans rfl
      obtain ⟨c0, c1, c2, c3, c4⟩ := B2.out.b1
      have e0 := (blk_cell B2.out.b2 0).trans rfl
      have e1 := (blk_cell B2.out.b2 1).trans rfl
      have e2 := (blk_cell B2.out.b2 2).trans rfl
      have f0 := blk_free B2.out.b2 0
      have f1 := blk_free B2.out.b2 1
      have f2 := blk_free B2.out.b2 2
      go_wp2
      refine bodyPost_ret (v := .agg #[.slice AL L.length cL, .slice AW W.length cW, .int .i64 20]) (results_cell_row Try.results15 _ _ (w.heap.size + 2) 42 _ (0, 0) _ rfl (put3_heap B2.out.b2) Try.underlying42 rfl (by kernel_rfl)) rfl ?_
      rw [HA.out]
      exact ⟨_, _, rfl, D2.out.put3 B2.out.b2, below_put3 B2.out.bel (by omega)⟩
    | true =>
      have HIB := Lib.hid hib; clear hib
      have b0 := (blk_cell B2.out.b0 0).trans rfl
      have b1 := (blk_cell B2.out.b0 1).trans rfl
      obtain ⟨c0, c1, c2, c3, c4⟩ := B2.out.b1
      go_wp2_with fail
      refine (text_at x KA kc HX.out _).mono ?_
      rintro e w3 ⟨rfl, bb⟩
      have D3 := Lib.hid (D2.out.below bb)
      have B3 := Lib.hid (B2.out.below bb)
      clear bb
      clear b0 b1 c0 c1 c2 c3 c4
      by_cases h2 : x.f2 ≤ 0
      · have HA := Lib.hid (show actP L W x = (L, W ++ [⟨x.f1, textB (UInt8.ofNat x.f3.toNat) x.f2⟩], 0) by unfold actP; rw [if_pos HK0.out, HIB.out, if_pos rfl, if_pos h2, textB_full h2])
        have TB := Lib.hid (textB_full (c := UInt8.ofNat x.f3.toNat) h2)
        have ts : ((textB (UInt8.ofNat x.f3.toNat) x.f2).size : Int) = 64 := by rw [TB.out, fillB_size]; rfl
        go_upto_region 7 with (fail)
        refine wp_region_held_drew (S := fun w' => w'.heap[w.heap.size]? = some (.cells #[.slice AL L.length cL, .slice AW W.length cW] 39 (0, 0)) ∧ AB x KA kc (w.heap.size + 1) w') (by kernel_rfl) (⟨B3.out.b0, B3.out.b1.drew⟩) (fun hHeld => ?_)
        refine wpAnyH_take (i := 0) (oi := { dst := some 22, op := Op.load 39 (Operand.tmp 2), type := 39, pos := "law.go:56", after := #[], guard := none }) (v := ?_) rfl (by kernel_rfl) (by kernel_rfl) (by kernel_rfl) (fun _ _ _ h => h) (Or.inl ⟨by rfl, ?_⟩) hHeld ?_; rotate_left 1; (intro w9 hSw; obtain ⟨q5, q0, q1, q2, q3, q4⟩ := hSw; have q6 := (blk_cell q5 0).trans rfl; have q7 := (blk_cell q5 1).trans rfl; clear q5; go_simp; first | done | with_reducible rfl); (try simp only [Act.put, List.setIfInBounds_toArray, List.set_cons_zero, List.set_cons_succ])
        refine wpAnyH_take (i := 1) (oi := { dst := some 23, op := Op.fieldAddr 25 (Operand.tmp 3) 1, type := 0, pos := "law.go:56", after := #[], guard := none }) (v := ?_) rfl (by kernel_rfl) (by kernel_rfl) (by kernel_rfl) (fun _ _ _ h => h) (Or.inl ⟨by rfl, ?_⟩) hHeld ?_; rotate_left 1; (intro w9 hSw; obtain ⟨q5, q0, q1, q2, q3, q4⟩ := hSw; have q6 := (blk_cell q5 0).trans rfl; have q7 := (blk_cell q5 1).trans rfl; clear q5; go_simp; first | done | with_reducible rfl); (try simp only [Act.put, List.setIfInBounds_toArray, List.set_cons_zero, List.set_cons_succ])
        refine wpAnyH_take (i := 2) (oi := { dst := some 24, op := Op.load 3 (Operand.tmp 23), type := 3, pos := "law.go:56", after := #[{ on := 1, ground := Ground.data }], guard := none }) (v := ?_) rfl (by kernel_rfl) (by kernel_rfl) (by kernel_rfl) (fun _ _ _ h => h) (Or.inl ⟨by rfl, ?_⟩) hHeld ?_; rotate_left 1; (intro w9 hSw; obtain ⟨q5, q0, q1, q2, q3, q4⟩ := hSw; have q6 := (blk_cell q5 0).trans rfl; have q7 := (blk_cell q5 1).trans rfl; clear q5; go_simp; first | done | with_reducible rfl); (try simp only [Act.put, List.setIfInBounds_toArray, List.set_cons_zero, List.set_cons_succ])
        refine wpAnyH_take (i := 3) (oi := { dst := some 25, op := Op.load 25 (Operand.tmp 3), type := 25, pos := "law.go:56", after := #[], guard := none }) (v := ?_) rfl (by kernel_rfl) (by kernel_rfl) (by kernel_rfl) (fun _ _ _ h => h) (Or.inl ⟨by rfl, ?_⟩) hHeld ?_; rotate_left 1; (intro w9 hSw; obtain ⟨q5, q0, q1, q2, q3, q4⟩ := hSw; have q6 := (blk_cell q5 0).trans rfl; have q7 := (blk_cell q5 1).trans rfl; clear q5; go_simp; first | done | with_reducible rfl); (try simp only [Act.put, List.setIfInBounds_toArray, List.set_cons_zero, List.set_cons_succ])
        refine wpAnyH_ready (rs := [4]) (by kernel_rfl) (by simp) ?_; refine AllReadyH.cons (o := { dst := some 26, op := Op.call { callee := Callee.value (Operand.func 22), args := #[Operand.tmp 25], argTypes := #[25] }, type := 9, pos := "law.go:56", after := #[{ on := 3, ground := Ground.data }], guard := none }) rfl (fun K hK => ?_) AllReadyH.nil; go_simp; refine (text_at x KA kc HX.out _).mono ?_; rintro e w4 ⟨rfl, bb⟩; have D4 := Lib.hid (D3.out.below ((Below.refl _ _).drew.trans bb)); have B4 := Lib.hid (B3.out.below ((Below.refl _ _).drew.trans bb)); clear bb; (try go_wp2_with fail); refine hK.out _ _ ⟨B4.out.b0, B4.out.b1⟩ (fun hHeld => ?_); clear hK; (try simp only [Act.put, List.setIfInBounds_toArray, List.set_cons_zero, List.set_cons_succ])
        refine wpAnyH_ready (rs := [5]) (by kernel_rfl) (by simp) ?_; refine AllReadyH.cons (o := { dst := some 27, op := Op.call { callee := Callee.value (Operand.func 27), args := #[Operand.tmp 22, Operand.tmp 24, Operand.tmp 26], argTypes := #[39, 3, 9] }, type := 39, pos := "law.go:56", after := #[{ on := 0, ground := Ground.data }, { on := 2, ground := Ground.data }, { on := 4, ground := Ground.data }, { on := 4, ground := Ground.chain }], guard := none }) rfl (fun K hK => ?_) AllReadyH.nil; go_simp; refine (docWrite_any AW cW W (.slice AL L.length cL) x.f1 _ w4 (Kd.R_reads' D4.out.w).2.2 ⟨_, _, _, rfl⟩ (by omega)).mono ?_; rintro e w5 ⟨v5, rfl, hR5, bb⟩; obtain ⟨A5, p5, e5⟩ := Kd.R_slice hR5; generalize hn5 : (W ++ [(⟨x.f1, _⟩ : S79)]).length = n5 at e5; subst e5; have N5 := Lib.hid hn5; clear hn5; have D5 := Lib.hid (show DD B (.slice AL L.length cL) (.slice A5 n5 p5) L (W ++ [⟨x.f1, _⟩]) w5 from ⟨Kd.R_below D4.out.l bb, Kd.R_lower hR5 (Nat.le_trans hB B4.out.bel.size)⟩); have B5 := Lib.hid (B4.out.below bb); clear bb hR5; (try go_wp2_with fail); refine hK.out _ _ ⟨B5.out.b0, B5.out.b1⟩ (fun hHeld => ?_); clear hK; (try simp only [Act.put, List.setIfInBounds_toArray, List.set_cons_zero, List.set_cons_succ])
        refine wpAnyH_take (i := 6) (oi := { dst := some 28, op := Op.build 42 #[(0, Operand.tmp 27), (1, Operand.const (Value.int IntKind.i64 0))], type := 42, pos := "law.go:56", after := #[{ on := 5, ground := Ground.data }], guard := none }) (v := ?_) rfl (by kernel_rfl) (by kernel_rfl) (by kernel_rfl) (fun _ _ _ h => h) (Or.inl ⟨by rfl, ?_⟩) hHeld ?_; rotate_left 1; (intro w9 hSw; obtain ⟨q5, q0, q1, q2, q3, q4⟩ := hSw; have q6 := (blk_cell q5 0).trans rfl; have q7 := (blk_cell q5 1).trans rfl; clear q5; go_simp; first | done | with_reducible rfl); (try simp only [Act.put, List.setIfInBounds_toArray, List.set_cons_zero, List.set_cons_succ])
        have e0 := (blk_cell B5.out.b2 0).trans rfl; have e1 := (blk_cell B5.out.b2 1).trans rfl; have e2 := (blk_cell B5.out.b2 2).trans rfl; have f0 := blk_free B5.out.b2 0; have f1 := blk_free B5.out.b2 1; have f2 := blk_free B5.out.b2 2
        refine wpAnyH_ready (rs := [7]) (by kernel_rfl) (by simp) ?_; refine AllReadyH.cons (o := { dst := none, op := Op.store 42 (Operand.tmp 4) (Operand.tmp 28), type := 0, pos := "law.go:56", after := #[{ on := 6, ground := Ground.data }, { on := 5, ground := Ground.chain }, { on := 0, ground := Ground.phase }, { on := 1, ground := Ground.phase }, { on := 2, ground := Ground.phase }, { on := 3, ground := Ground.phase }, { on := 4, ground := Ground.phase }, { on := 5, ground := Ground.phase }, { on := 6, ground := Ground.phase }], guard := none }) rfl (fun K hK => ?_) AllReadyH.nil; go_simp; refine hK.out _ _ ⟨(put3_far (by omega)).trans B5.out.b0, B5.out.b1.move (put3_far (by omega))⟩ (fun hHeld => ?_); clear hK; (try simp only [Act.put, List.setIfInBounds_toArray, List.set_cons_zero, List.set_cons_succ])
        refine wpAnyH_done (by kernel_rfl) ?_ _
        clear hHeld
        go_wp2
        refine bodyPost_ret (v := .agg #[.slice AL L.length cL, .slice A5 n5 p5, .int .i64 0]) (results_cell_row Try.results15 _ _ (w.heap.size + 2) 42 _ (0, 0) _ rfl (put3_heap B5.out.b2) Try.underlying42 rfl (by kernel_rfl)) rfl ?_
        rw [HA.out]
        exact ⟨_, _, rfl, D5.out.put3 B5.out.b2, below_put3 B5.out.bel (by omega)⟩
      · have HA := Lib.hid (show actP L W x = (L, W, 1) by unfold actP; rw [if_pos HK0.out, HIB.out, if_pos rfl, if_neg h2])
        have hsh := textB_short (c := UInt8.ofNat x.f3.toNat) (show 0 < x.f2 by omega)
        have ts : ((((textB (UInt8.ofNat x.f3.toNat) x.f2).size : Nat) : Int) != 64) = true := by rw [bne_iff_ne]; omega
        clear hsh
        have b0 := (blk_cell B3.out.b0 0).trans rfl
        have b1 := (blk_cell B3.out.b0 1).trans rfl
        obtain ⟨c0, c1, c2, c3, c4⟩ := B3.out.b1
        have e0 := (blk_cell B3.out.b2 0).trans rfl
        have e1 := (blk_cell B3.out.b2 1).trans rfl
        have e2 := (blk_cell B3.out.b2 2).trans rfl
        have f0 := blk_free B3.out.b2 0
        have f1 := blk_free B3.out.b2 1
        have f2 := blk_free B3.out.b2 2
        go_wp2
        refine bodyPost_ret (v := .agg #[.slice AL L.length cL, .slice AW W.length cW, .int .i64 1]) (results_cell_row Try.results15 _ _ (w.heap.size + 2) 42 _ (0, 0) _ rfl (put3_heap B3.out.b2) Try.underlying42 rfl (by kernel_rfl)) rfl ?_
        rw [HA.out]
        exact ⟨_, _, rfl, D3.out.put3 B3.out.b2, below_put3 B3.out.bel (by omega)⟩
  · have k0' : (x.f0 == 0) = false := by rw [beq_eq_false_iff_ne]; exact k0
    by_cases k1 : x.f0 = 1
    · have k1' : (x.f0 == 1) = true := by rw [beq_iff_eq]; exact k1
      have HK1 := Lib.hid (And.intro k0 k1)
      clear k0 k1
      go_enter Try.func15, Try.ntmps15
      go_upto_region 1 with (fail)
      rw [HW1.out]
      go_wp2_with fail
      refine (docSpan_any HD.out x.f1 x.f2 hL).mono ?_
      rintro e w2 ⟨rfl, bb⟩
      have D2 := Lib.hid (HD.out.below bb)
      have B2 := Lib.hid (HB.out.below bb)
      clear bb
      clear b0 b1 c0 c1 c2 c3 c4
      cases hib : spanB L.length x.f1 x.f2 with
      | false =>
        have HA := Lib.hid (show actP L W x = (L, W, 20) by unfold actP; rw [if_neg HK1.out.1, if_pos HK1.out.2, hib]; rfl)
        clear hib
        have b0 := (blk_cell B2.out.b0 0).trans rfl
        have b1 := (blk_cell B2.out.b0 1).trans rfl
        obtain ⟨c0, c1, c2, c3, c4⟩ := B2.out.b1
        have e0 := (blk_cell B2.out.b2 0).trans rfl
        have e1 := (blk_cell B2.out.b2 1).trans rfl
        have e2 := (blk_cell B2.out.b2 2).trans rfl
        have f0 := blk_free B2.out.b2 0
        have f1 := blk_free B2.out.b2 1
        have f2 := blk_free B2.out.b2 2
        go_wp2
        refine bodyPost_ret (v := .agg #[.slice AL L.length cL, .slice AW W.length cW, .int .i64 20]) (results_cell_row Try.results15 _ _ (w.heap.size + 2) 42 _ (0, 0) _ rfl (put3_heap B2.out.b2) Try.underlying42 rfl (by kernel_rfl)) rfl ?_
        rw [HA.out]
        exact ⟨_, _, rfl, D2.out.put3 B2.out.b2, below_put3 B2.out.bel (by omega)⟩
      | true =>
        have HA := Lib.hid (show actP L W x = (setF L (inF x.f1 x.f2 W), outF x.f1 x.f2 W, 0) by unfold actP; rw [if_neg HK1.out.1, if_pos HK1.out.2, hib]; rfl)
        obtain ⟨s1, s2, s3, s4⟩ := spanB_yes hib
        have s3' : x.f1 ≤ 8192 := by omega
        have s4' : x.f2 ≤ 8192 := by omega
        have HS := Lib.hid (And.intro s1 (And.intro s3' (And.intro s2 s4')))
        clear hib s1 s2 s3 s4 s3' s4'
        have b0 := (blk_cell B2.out.b0 0).trans rfl
        have b1 := (blk_cell B2.out.b0 1).trans rfl
        obtain ⟨c0, c1, c2, c3, c4⟩ := B2.out.b1
        go_wp2_with fail
        refine (docFlush_any D2.out x.f1 x.f2 (Nat.le_trans hB B2.out.bel.size) hL (by omega) (fun y hy => ⟨(HWB.out y hy).2.1, by have := (HWB.out y hy).2.2; omega⟩) HS.out.1 HS.out.2.1 HS.out.2.2.1 HS.out.2.2.2).mono ?_
        rintro e w3 ⟨v5, v6, rfl, hd5, bb⟩
        obtain ⟨A5, p5, A6, p6, e5, e6, _, _, _, _⟩ := hd5.reads
        generalize hn5 : List.length _ = n5 at e5
        generalize hn6 : List.length _ = n6 at e6
        subst e5 e6
        have D3 := Lib.hid hd5
        have B3 := Lib.hid (B2.out.below bb)
        clear bb hd5 b0 b1 c0 c1 c2 c3 c4
        have b0 := (blk_cell B3.out.b0 0).trans rfl
        have b1 := (blk_cell B3.out.b0 1).trans rfl
        obtain ⟨c0, c1, c2, c3, c4⟩ := B3.out.b1
        have e0 := (blk_cell B3.out.b2 0).trans rfl
        have e1 := (blk_cell B3.out.b2 1).trans rfl
        have e2 := (blk_cell B3.out.b2 2).trans rfl
        have f0 := blk_free B3.out.b2 0
        have f1 := blk_free B3.out.b2 1
        have f2 := blk_free B3.out.b2 2
        go_wp2
        refine bodyPost_ret (v := .agg #[.slice A5 n5 p5, .slice A6 n6 p6, .int .i64 0]) (results_cell_row Try.results15 _ _ (w.heap.size + 2) 42 _ (0, 0) _ rfl (put3_heap B3.out.b2) Try.underlying42 rfl (by kernel_rfl)) rfl ?_
        rw [HA.out]
        exact ⟨_, _, rfl, D3.out.put3 B3.out.b2, below_put3 B3.out.bel (by omega)⟩
    · have k1' : (x.f0 == 1) = false := by rw [beq_eq_false_iff_ne]; exact k1
      by_cases k2 : x.f0 = 2
      · have k2' : (x.f0 == 2) = true := by rw [beq_iff_eq]; exact k2
        have HK1 := Lib.hid (And.intro k0 (And.intro k1 k2))
        clear k0 k1 k2
        go_enter Try.func15, Try.ntmps15
        go_upto_region 1 with (fail)
        rw [HW1.out]
        go_wp2_with fail
        refine (docSpan_any HD.out x.f1 x.f2 hL).mono ?_
        rintro e w2 ⟨rfl, bb⟩
        have D2 := Lib.hid (HD.out.below bb)
        have B2 := Lib.hid (HB.out.below bb)
        clear bb
        clear b0 b1 c0 c1 c2 c3 c4
        cases hib : spanB L.length x.f1 x.f2 with
        | false =>
          have HA := Lib.hid (show actP L W x = (L, W, 20) by unfold actP; rw [if_neg HK1.out.1, if_neg HK1.out.2.1, if_pos HK1.out.2.2, hib]; rfl)
          clear hib
          have b0 := (blk_cell B2.out.b0 0).trans rfl
          have b1 := (blk_cell B2.out.b0 1).trans rfl
          obtain ⟨c0, c1, c2, c3, c4⟩ := B2.out.b1
          have e0 := (blk_cell B2.out.b2 0).trans rfl
          have e1 := (blk_cell B2.out.b2 1).trans rfl
          have e2 := (blk_cell B2.out.b2 2).trans rfl
          have f0 := blk_free B2.out.b2 0
          have f1 := blk_free B2.out.b2 1
          have f2 := blk_free B2.out.b2 2
          go_wp2
          refine bodyPost_ret (v := .agg #[.slice AL L.length cL, .slice AW W.length cW, .int .i64 20]) (results_cell_row Try.results15 _ _ (w.heap.size + 2) 42 _ (0, 0) _ rfl (put3_heap B2.out.b2) Try.underlying42 rfl (by kernel_rfl)) rfl ?_
          rw [HA.out]
          exact ⟨_, _, rfl, D2.out.put3 B2.out.b2, below_put3 B2.out.bel (by omega)⟩
        | true =>
          have HA := Lib.hid (show actP L W x = (crashF L (inF x.f1 x.f2 W) x.f4, outF x.f1 x.f2 W, 0) by unfold actP; rw [if_neg HK1.out.1, if_neg HK1.out.2.1, if_pos HK1.out.2.2, hib]; rfl)
          obtain ⟨s1, s2, s3, s4⟩ := spanB_yes hib
          have s3' : x.f1 ≤ 8192 := by omega
          have s4' : x.f2 ≤ 8192 := by omega
          have HS := Lib.hid (And.intro s1 (And.intro s3' (And.intro s2 s4')))
          clear hib s1 s2 s3 s4 s3' s4'
          have b0 := (blk_cell B2.out.b0 0).trans rfl
          have b1 := (blk_cell B2.out.b0 1).trans rfl
          obtain ⟨c0, c1, c2, c3, c4⟩ := B2.out.b1
          go_wp2_with fail
          refine (docCrash_any D2.out x.f1 x.f2 (Nat.le_trans hB B2.out.bel.size) hL HLS.out (by omega) HWB.out HS.out.1 HS.out.2.1 HS.out.2.2.1 HS.out.2.2.2 KA kc x.f4 (by have := HX.out.k; omega) hkc (Kd.C_below HKP.out B2.out.bel)).mono ?_
          rintro e w3 ⟨v5, v6, rfl, hd5, bb⟩
          obtain ⟨A5, p5, A6, p6, e5, e6, _, _, _, _⟩ := hd5.reads
          generalize hn5 : List.length _ = n5 at e5
          generalize hn6 : List.length _ = n6 at e6
          subst e5 e6
          have D3 := Lib.hid hd5
          have B3 := Lib.hid (B2.out.below bb)
          clear bb hd5 b0 b1 c0 c1 c2 c3 c4
          have b0 := (blk_cell B3.out.b0 0).trans rfl
          have b1 := (blk_cell B3.out.b0 1).trans rfl
          obtain ⟨c0, c1, c2, c3, c4⟩ := B3.out.b1
          have e0 := (blk_cell B3.out.b2 0).trans rfl
          have e1 := (blk_cell B3.out.b2 1).trans rfl
          have e2 := (blk_cell B3.out.b2 2).trans rfl
          have f0 := blk_free B3.out.b2 0
          have f1 := blk_free B3.out.b2 1
          have f2 := blk_free B3.out.b2 2
          go_wp2
          refine bodyPost_ret (v := .agg #[.slice A5 n5 p5, .slice A6 n6 p6, .int .i64 0]) (results_cell_row Try.results15 _ _ (w.heap.size + 2) 42 _ (0, 0) _ rfl (put3_heap B3.out.b2) Try.underlying42 rfl (by kernel_rfl)) rfl ?_
          rw [HA.out]
          exact ⟨_, _, rfl, D3.out.put3 B3.out.b2, below_put3 B3.out.bel (by omega)⟩
      · have k2' : (x.f0 == 2) = false := by rw [beq_eq_false_iff_ne]; exact k2
        have HK1 := Lib.hid (And.intro k0 (And.intro k1 k2))
        clear k0 k1 k2
        go_enter Try.func15, Try.ntmps15
        go_upto_region 1 with (fail)
        rw [HW1.out]
        go_wp2_with fail
        refine (docIs_any HD.out x.f1).mono ?_
        rintro e w2 ⟨rfl, bb⟩
        have D2 := Lib.hid (HD.out.below bb)
        have B2 := Lib.hid (HB.out.below bb)
        clear bb
        clear b0 b1 c0 c1 c2 c3 c4
        cases hib : isB L.length x.f1 with
        | false =>
          have HA := Lib.hid (show actP L W x = (L, W, 20) by unfold actP; rw [if_neg HK1.out.1, if_neg HK1.out.2.1, if_neg HK1.out.2.2, hib]; rfl)
          clear hib
          have b0 := (blk_cell B2.out.b0 0).trans rfl
          have b1 := (blk_cell B2.out.b0 1).trans rfl
          obtain ⟨c0, c1, c2, c3, c4⟩ := B2.out.b1
          have e0 := (blk_cell B2.out.b2 0).trans rfl
          have e1 := (blk_cell B2.out.b2 1).trans rfl
          have e2 := (blk_cell B2.out.b2 2).trans rfl
          have f0 := blk_free B2.out.b2 0
          have f1 := blk_free B2.out.b2 1
          have f2 := blk_free B2.out.b2 2
          go_wp2
          refine bodyPost_ret (v := .agg #[.slice AL L.length cL, .slice AW W.length cW, .int .i64 20]) (results_cell_row Try.results15 _ _ (w.heap.size + 2) 42 _ (0, 0) _ rfl (put3_heap B2.out.b2) Try.underlying42 rfl (by kernel_rfl)) rfl ?_
          rw [HA.out]
          exact ⟨_, _, rfl, D2.out.put3 B2.out.b2, below_put3 B2.out.bel (by omega)⟩
        | true =>
          have HA := Lib.hid (show actP L W x = (L, W, 0) by unfold actP; rw [if_neg HK1.out.1, if_neg HK1.out.2.1, if_neg HK1.out.2.2, hib]; rfl)
          clear hib
          have b0 := (blk_cell B2.out.b0 0).trans rfl
          have b1 := (blk_cell B2.out.b0 1).trans rfl
          obtain ⟨c0, c1, c2, c3, c4⟩ := B2.out.b1
          have e0 := (blk_cell B2.out.b2 0).trans rfl
          have e1 := (blk_cell B2.out.b2 1).trans rfl
          have e2 := (blk_cell B2.out.b2 2).trans rfl
          have f0 := blk_free B2.out.b2 0
          have f1 := blk_free B2.out.b2 1
          have f2 := blk_free B2.out.b2 2
          go_wp2
          refine bodyPost_ret (v := .agg #[.slice AL L.length cL, .slice AW W.length cW, .int .i64 0]) (results_cell_row Try.results15 _ _ (w.heap.size + 2) 42 _ (0, 0) _ rfl (put3_heap B2.out.b2) Try.underlying42 rfl (by kernel_rfl)) rfl ?_
          rw [HA.out]
          exact ⟨_, _, rfl, D2.out.put3 B2.out.b2, below_put3 B2.out.bel (by omega)⟩
end Go.Proofs.Ytlodjkmablogcaa.Own
