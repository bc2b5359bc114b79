/- The law PoolActs. -/
import Derived.Test.YtfcpjnikblleaaaSpec
import Derived.Test.YtfcpjnikblleaaaTypes
namespace Go.Proofs.Ytfcpjnikblleaaa
open Go.RowKit
set_option maxRecDepth 100000
set_option linter.unusedSimpArgs false
set_option linter.unusedVariables false
theorem St.from {W W0 w : World} {g o n : Nat} {ep ct : Int} {L : List Int} (h : St W0 g o n ep ct L w) (hb : Below W.heap.size W W0) : St W g o n ep ct L w :=
  ⟨by have := hb.size; have := h.g0; omega, by have := hb.size; have := h.o0; omega, h.ne, h.len, h.n64, h.pool, h.own, below_two hb h.bel⟩
structure LS (y b c : Nat) (W : World) (g o n ep ct : Nat) (L : List Int) (w : World) : Prop where
  st : St W g o n ep ct L w
  rr : RR b n L w
  bg : b ≠ g
  bo : b ≠ o
  yb : w.heap[y]? = some (.cells #[.slice (some ⟨b, 0, none⟩) n c, .int .i64 ep, .int .i64 ct] 40 (0, 0))
  yg : y ≠ g
  yo : y ≠ o
  yy : y ≠ b
  y0 : W.heap.size ≤ y
theorem St.far {W w : World} {g o n : Nat} {ep ct : Int} {L : List Int} (h : St W g o n ep ct L w) {p : Addr} (v : Value) (hg : g ≠ p.block) (ho : o ≠ p.block) (h0 : W.heap.size ≤ p.block) : St W g o n ep ct L (w.setCell p v) :=
  ⟨h.g0, h.o0, h.ne, h.len, h.n64, (heap_far _ _ _ hg).trans h.pool, (heap_far _ _ _ ho).trans h.own, h.bel.setCell h0 _⟩
/-- In a round: the pool, the document's row, the boxes of w and of the act. -/
structure LT (y z b c : Nat) (v0 v1 v2 : Value) (W : World) (g o n ep ct0 ct : Nat) (R L : List Int) (w : World) : Prop where
  st : St W g o n ep ct L w
  rr : RR b n R w
  bg : b ≠ g
  bo : b ≠ o
  yb : w.heap[y]? = some (.cells #[.slice (some ⟨b, 0, none⟩) n c, .int .i64 ep, .int .i64 ct0] 40 (0, 0))
  yg : y ≠ g
  yo : y ≠ o
  yy : y ≠ b
  y0 : W.heap.size ≤ y
  zb : w.heap[z]? = some (.cells #[v0, v1, v2] 43 (0, 0))
  zg : z ≠ g
  zo : z ≠ o
theorem LS.act {y b c : Nat} {W : World} {g o n ep ct : Nat} {L : List Int} {w : World} (h : LS y b c W g o n ep ct L w) (v0 v1 v2 : Value) : LT y w.heap.size b c v0 v1 v2 W g o n ep ct ct L L (w.alloc (.cells #[v0, v1, v2] 43)) := by
  have hb : Below w.heap.size w (w.alloc (.cells #[v0, v1, v2] 43)) := (Below.refl _ _).alloc (Nat.le_refl _) _
  have h1 := blk_lt h.st.pool
  have h2 := blk_lt h.st.own
  exact ⟨h.st.below hb, h.rr.below hb h.rr.lt, h.bg, h.bo, blk_below h.yb hb, h.yg, h.yo, h.yy, h.y0, heap_new _ _, by omega, by omega⟩
theorem LT.lift {y z b c : Nat} {v0 v1 v2 : Value} {W : World} {g o n ep ct0 ct ct2 : Nat} {R L L2 : List Int} {w : World} (h : LT y z b c v0 v1 v2 W g o n ep ct0 ct R L w) {f : Nat} {args : Array Value} {v : Value}
    (hs : ∀ X : List (Nat × Obj), Sx X W g o n ep ct L w → Calls Try.prog f args w fun e w' => e = .returned v ∧ Sx X W g o n ep ct2 L2 w') :
    Calls Try.prog f args w fun e w' => e = .returned v ∧ LT y z b c v0 v1 v2 W g o n ep ct0 ct2 R L2 w' := by
  obtain ⟨cur, fz, hb, hcur⟩ := h.rr.blk
  have hX : Sx [(y, .cells #[.slice (some ⟨b, 0, none⟩) n c, .int .i64 ep, .int .i64 ct0] 40 (0, 0)), (z, .cells #[v0, v1, v2] 43 (0, 0)), (b, .cells cur 3 fz)] W g o n ep ct L w := by
    refine ⟨h.st, fun p hp => ?_⟩
    simp only [List.mem_cons, List.not_mem_nil, or_false] at hp
    rcases hp with rfl | rfl | rfl
    · exact ⟨h.yg, h.yo, h.yb⟩
    · exact ⟨h.zg, h.zo, h.zb⟩
    · exact ⟨h.bg, h.bo, hb⟩
  refine (hs _ hX).mono ?_
  rintro e w' ⟨rfl, hx⟩
  have e1 := (hx.ext _ (List.mem_cons_self)).2.2
  have e2 := (hx.ext _ (List.mem_cons_of_mem _ (List.mem_cons_self))).2.2
  have e3 := (hx.ext _ (List.mem_cons_of_mem _ (List.mem_cons_of_mem _ (List.mem_cons_self)))).2.2
  exact ⟨rfl, hx.toSt, ⟨h.rr.len, h.rr.n64, cur, fz, e3, hcur⟩, h.bg, h.bo, e1, h.yg, h.yo, h.yy, h.y0, e2, h.zg, h.zo⟩
/-- Behind the document's call: w's box still holds the old pool. -/
structure LU (y z b5 : Nat) (q : Value) (ct0 : Nat) (v0 v1 v2 : Value) (W : World) (g o n ep ct : Nat) (L : List Int) (w : World) : Prop where
  st : St W g o n ep ct L w
  rr : RR b5 n L w
  bg : b5 ≠ g
  bo : b5 ≠ o
  yb : w.heap[y]? = some (.cells #[q, .int .i64 ep, .int .i64 ct0] 40 (0, 0))
  yg : y ≠ g
  yo : y ≠ o
  yy : y ≠ b5
  y0 : W.heap.size ≤ y
  zb : w.heap[z]? = some (.cells #[v0, v1, v2] 43 (0, 0))
theorem LT.after {y z b c b5 : Nat} {v0 v1 v2 : Value} {W : World} {g o n ep ct0 ct : Nat} {R L : List Int} {w w' : World} (h : LT y z b c v0 v1 v2 W g o n ep ct0 ct R L w) (ha : After b n L w w' b5) : LU y z b5 (.slice (some ⟨b, 0, none⟩) n c) ct0 v0 v1 v2 W g o n ep ct L w' := by
  obtain ⟨hr, hb, hor⟩ := ha
  have h1 := blk_lt h.st.pool
  have h2 := blk_lt h.st.own
  have h3 := blk_lt h.yb
  refine ⟨h.st.below hb, hr, ?_, ?_, blk_below h.yb hb, h.yg, h.yo, ?_, h.y0, blk_below h.zb hb⟩
  · rcases hor with rfl | h5
    · exact h.bg
    · omega
  · rcases hor with rfl | h5
    · exact h.bo
    · omega
  · rcases hor with rfl | h5
    · exact h.yy
    · omega
theorem LU.below {y z b5 : Nat} {q : Value} {ct0 : Nat} {v0 v1 v2 : Value} {W : World} {g o n ep ct : Nat} {L : List Int} {w w' : World} (h : LU y z b5 q ct0 v0 v1 v2 W g o n ep ct L w) (hb : Below w.heap.size w w') : LU y z b5 q ct0 v0 v1 v2 W g o n ep ct L w' :=
  ⟨h.st.below hb, h.rr.below hb h.rr.lt, h.bg, h.bo, blk_below h.yb hb, h.yg, h.yo, h.yy, h.y0, blk_below h.zb hb⟩
theorem LU.store {y z b5 : Nat} {q : Value} {ct0 : Nat} {v0 v1 v2 : Value} {W : World} {g o n ep ct : Nat} {L : List Int} {w : World} (h : LU y z b5 q ct0 v0 v1 v2 W g o n ep ct L w) (c5 : Nat) : LS y b5 c5 W g o n ep ct L (((w.setCell ⟨y, 0, none⟩ (.slice (some ⟨b5, 0, none⟩) n c5)).setCell ⟨y, 1, none⟩ (.int .i64 ep)).setCell ⟨y, 2, none⟩ (.int .i64 ct)) :=
  ⟨((h.st.far _ h.yg.symm h.yo.symm h.y0).far _ h.yg.symm h.yo.symm h.y0).far _ h.yg.symm h.yo.symm h.y0,
   ((h.rr.far h.yy.symm).far h.yy.symm).far h.yy.symm, h.bg, h.bo,
   by rw [heap_set (heap_set (heap_set h.yb _) _) _]; rfl, h.yg, h.yo, h.yy, h.y0⟩
theorem told_cells {w : World} {B c : Nat} {a : Option Addr} {xs : List Int} (h : w.ownsRow B 3 1 (.slice a xs.length c) xs.length (xs.map iv)) : 0 < xs.length → ∃ b, a = some ⟨b, 0, none⟩ ∧ ∀ i, i < xs.length → w.cell? ⟨b, i, none⟩ = some (iv (xs.getD i 0)) := by
  intro hp
  obtain ⟨a2, c2, he, hc⟩ := told_len h
  injection he with e1 e2 e3
  subst e1
  obtain ⟨b, hb, _, _, hh⟩ := hc hp
  exact ⟨b, hb, hh⟩
theorem told_later {w w1 : World} {B c : Nat} {a : Option Addr} {xs : List Int} (h : w.ownsRow B 3 1 (.slice a xs.length c) xs.length (xs.map iv)) (hb : Below w.heap.size w w1) : 0 < xs.length → ∃ b, a = some ⟨b, 0, none⟩ ∧ ∀ i, i < xs.length → w1.cell? ⟨b, i, none⟩ = some (iv (xs.getD i 0)) := by
  intro hp
  obtain ⟨b, e, hh⟩ := told_cells h hp
  exact ⟨b, e, fun i hi => cell_below (hh i hi) hb (World.block_lt_of_cell? w _ (hh i hi))⟩
theorem LS.below {y b c : Nat} {W : World} {g o n ep ct : Nat} {L : List Int} {w w' : World} (h : LS y b c W g o n ep ct L w) (hb : Below w.heap.size w w') : LS y b c W g o n ep ct L w' :=
  ⟨h.st.below hb, h.rr.below hb h.rr.lt, h.bg, h.bo, blk_below h.yb hb, h.yg, h.yo, h.yy, h.y0⟩
abbrev SJ (y z b n c : Nat) (ep ct lg : Int) (w w1 : World) : Prop := w1.cell? ⟨y, 0, none⟩ = some (.slice (some ⟨b, 0, none⟩) n c) ∧ w1.cell? ⟨y, 1, none⟩ = some (.int .i64 ep) ∧ w1.cell? ⟨y, 2, none⟩ = some (.int .i64 ct) ∧ w1.cell? ⟨z, 2, none⟩ = some (.int .i64 lg) ∧ Below w.heap.size w w1
theorem SJ.keep {y z b n c : Nat} {ep ct lg : Int} {w w1 w2 : World} (h : SJ y z b n c ep ct lg w w1) (hb : Below w1.heap.size w1 w2) : SJ y z b n c ep ct lg w w2 := ⟨keep_cell h.1 hb, keep_cell h.2.1 hb, keep_cell h.2.2.1 hb, keep_cell h.2.2.2.1 hb, below_two h.2.2.2.2 hb⟩
theorem SJ.drew {y z b n c : Nat} {ep ct lg : Int} {w w1 : World} (h : SJ y z b n c ep ct lg w w1) : SJ y z b n c ep ct lg w w1.drew := ⟨h.1, h.2.1, h.2.2.1, h.2.2.2.1, h.2.2.2.2.drew⟩
theorem SJ.bel {y z b n c : Nat} {ep ct lg : Int} {w w1 : World} (h : SJ y z b n c ep ct lg w w1) : Below w.heap.size w w1 := h.2.2.2.2
/-- Behind the document's Claim or Give: the pool is not yet turned; the answer lies in a block of its own. -/
structure LV (y z b5 ta : Nat) (q : Value) (ct0 : Nat) (v0 v1 v2 : Value) (TT : Array Value) (W : World) (g o n ep ct : Nat) (L R : List Int) (w : World) : Prop where
  st : St W g o n ep ct L w
  rr : RR b5 n R w
  bg : b5 ≠ g
  bo : b5 ≠ o
  yb : w.heap[y]? = some (.cells #[q, .int .i64 ep, .int .i64 ct0] 40 (0, 0))
  yg : y ≠ g
  yo : y ≠ o
  yy : y ≠ b5
  y0 : W.heap.size ≤ y
  zb : w.heap[z]? = some (.cells #[v0, v1, v2] 43 (0, 0))
  zg : z ≠ g
  zo : z ≠ o
  tb : w.heap[ta]? = some (.cells TT 48 (0, 0))
  tg : ta ≠ g
  to : ta ≠ o
theorem LT.ans {y z b c b5 : Nat} {v0 v1 v2 : Value} {TT : Array Value} {W : World} {g o n ep ct0 ct : Nat} {R L L2 : List Int} {w w' : World} (h : LT y z b c v0 v1 v2 W g o n ep ct0 ct R L w) (ha : After b n L2 w w' b5) : LV y z b5 w'.heap.size (.slice (some ⟨b, 0, none⟩) n c) ct0 v0 v1 v2 TT W g o n ep ct L L2 (w'.alloc (.cells TT 48)) := by
  obtain ⟨hr, hb, hor⟩ := ha
  have h1 := blk_lt h.st.pool
  have h2 := blk_lt h.st.own
  have h3 := blk_lt h.yb
  have hs := hb.size
  have ba : Below w'.heap.size w' (w'.alloc (.cells TT 48)) := (Below.refl _ _).alloc (Nat.le_refl _) _
  refine ⟨(h.st.below hb).below ba, hr.below ba hr.lt, ?_, ?_, blk_below (blk_below h.yb hb) ba, h.yg, h.yo, ?_, h.y0, blk_below (blk_below h.zb hb) ba, h.zg, h.zo, heap_new _ _, by omega, by omega⟩
  · rcases hor with rfl | h5
    · exact h.bg
    · omega
  · rcases hor with rfl | h5
    · exact h.bo
    · omega
  · rcases hor with rfl | h5
    · exact h.yy
    · omega
theorem LV.drew {y z b5 ta : Nat} {q : Value} {ct0 : Nat} {v0 v1 v2 : Value} {TT : Array Value} {W : World} {g o n ep ct : Nat} {L R : List Int} {w : World} (h : LV y z b5 ta q ct0 v0 v1 v2 TT W g o n ep ct L R w) : LV y z b5 ta q ct0 v0 v1 v2 TT W g o n ep ct L R w.drew :=
  ⟨h.st.drew, ⟨h.rr.len, h.rr.n64, h.rr.blk⟩, h.bg, h.bo, h.yb, h.yg, h.yo, h.yy, h.y0, h.zb, h.zg, h.zo, h.tb, h.tg, h.to⟩
theorem LV.lift {y z b5 ta : Nat} {q : Value} {ct0 : Nat} {v0 v1 v2 : Value} {TT : Array Value} {W : World} {g o n ep ct : Nat} {L L2 R : List Int} {w : World} (h : LV y z b5 ta q ct0 v0 v1 v2 TT W g o n ep ct L R w) {f : Nat} {args : Array Value} {v : Value}
    (hs : ∀ X : List (Nat × Obj), Sx X W g o n ep ct L w → Calls Try.prog f args w fun e w' => e = .returned v ∧ Sx X W g o n ep ct L2 w') :
    Calls Try.prog f args w fun e w' => e = .returned v ∧ LV y z b5 ta q ct0 v0 v1 v2 TT W g o n ep ct L2 R w' := by
  obtain ⟨cur, fz, hb, hcur⟩ := h.rr.blk
  have hX : Sx [(y, .cells #[q, .int .i64 ep, .int .i64 ct0] 40 (0, 0)), (z, .cells #[v0, v1, v2] 43 (0, 0)), (b5, .cells cur 3 fz), (ta, .cells TT 48 (0, 0))] W g o n ep ct L w := by
    refine ⟨h.st, fun p hp => ?_⟩
    simp only [List.mem_cons, List.not_mem_nil, or_false] at hp
    rcases hp with rfl | rfl | rfl | rfl
    · exact ⟨h.yg, h.yo, h.yb⟩
    · exact ⟨h.zg, h.zo, h.zb⟩
    · exact ⟨h.bg, h.bo, hb⟩
    · exact ⟨h.tg, h.to, h.tb⟩
  refine (hs _ hX).mono ?_
  rintro e w' ⟨rfl, hx⟩
  have e1 := (hx.ext _ (List.mem_cons_self)).2.2
  have e2 := (hx.ext _ (List.mem_cons_of_mem _ (List.mem_cons_self))).2.2
  have e3 := (hx.ext _ (List.mem_cons_of_mem _ (List.mem_cons_of_mem _ (List.mem_cons_self)))).2.2
  have e4 := (hx.ext _ (List.mem_cons_of_mem _ (List.mem_cons_of_mem _ (List.mem_cons_of_mem _ (List.mem_cons_self))))).2.2
  exact ⟨rfl, hx.toSt, ⟨h.rr.len, h.rr.n64, cur, fz, e3, hcur⟩, h.bg, h.bo, e1, h.yg, h.yo, h.yy, h.y0, e2, h.zg, h.zo, e4, h.tg, h.to⟩
theorem LV.lu {y z b5 ta : Nat} {q : Value} {ct0 : Nat} {v0 v1 v2 : Value} {TT : Array Value} {W : World} {g o n ep ct : Nat} {L : List Int} {w : World} (h : LV y z b5 ta q ct0 v0 v1 v2 TT W g o n ep ct L L w) : LU y z b5 q ct0 v0 v1 v2 W g o n ep ct L w :=
  ⟨h.st, h.rr, h.bg, h.bo, h.yb, h.yg, h.yo, h.yy, h.y0, h.zb⟩
abbrev KS (z ta : Nat) (sg lg err : Int) (w : World) : Prop := w.cell? ⟨z, 1, none⟩ = some (.int .i64 sg) ∧ w.cell? ⟨z, 2, none⟩ = some (.int .i64 lg) ∧ w.cell? ⟨ta, 3, none⟩ = some (.int .i64 err)
theorem KS.drew {z ta : Nat} {sg lg err : Int} {w : World} (h : KS z ta sg lg err w) : KS z ta sg lg err w.drew := h
theorem LV.ks {y z b5 ta : Nat} {q : Value} {ct0 : Nat} {v0 s : Value} {sg lg err : Int} {t1 t2 : Value} {W : World} {g o n ep ct : Nat} {L R : List Int} {w : World} (h : LV y z b5 ta q ct0 v0 (.int .i64 sg) (.int .i64 lg) #[s, t1, t2, .int .i64 err] W g o n ep ct L R w) : KS z ta sg lg err w := by
  have a1 := blk_cell h.zb 1
  have a2 := blk_cell h.zb 2
  have a3 := blk_cell h.tb 3
  exact ⟨by simpa using a1, by simpa using a2, by simpa using a3⟩
theorem act_at {w : World} {a : Option Addr} {len k : Nat} {zs : List PAct} (h : Row w 3 PAct.cells a len zs) (hk : k < len) : ∃ (x : PAct) (b off : Nat), a = some ⟨b, off, none⟩ ∧ b < w.heap.size ∧ w.cell? ⟨b, off + k * 3, none⟩ = some (.int .i64 x.kind) ∧ w.cell? ⟨b, off + k * 3 + 1, none⟩ = some (.int .i64 x.seg) ∧ w.cell? ⟨b, off + k * 3 + 2, none⟩ = some (.int .i64 x.log) := by
  obtain ⟨hl, hm, hc⟩ := h
  obtain ⟨b, off, ha, hb, hh⟩ := hc (by omega)
  have hk2 : k < zs.length := by omega
  have hx := hh k hk2
  exact ⟨zs[k], b, off, ha, hb, hx 0 (by simp [PAct.cells]), hx 1 (by simp [PAct.cells]), hx 2 (by simp [PAct.cells])⟩
set_option maxHeartbeats 8000000 in
theorem acts_main (n ep : Nat) (a : Option Addr) (len cap : Nat) (zs : List PAct) (w : World) (hr : Row w 3 PAct.cells a len zs) (hlen : len ≤ 60) (h6 : 6 ≤ n) (h64 : n ≤ 64) (hep : ep ≤ 65535) :
    Calls Try.prog 5 #[.agg #[.int .i64 (n : Int), .int .i64 (ep : Int)], .slice a len cap] w fun e w' => e = .returned (.bool true) ∧ Below w.heap.size w w' := by
  have He := Lib.hid hep; clear hep
  go_enter Try.func5, Try.ntmps5
  go_wp2_with fail
  have b0 : Below w.heap.size w (w.alloc (Obj.cells #[Value.int IntKind.i64 ↑n, Value.int IntKind.i64 ↑ep] 36)) := (Below.refl _ _).alloc (Nat.le_refl _) _
  have hq := heap_new w (Obj.cells #[Value.int IntKind.i64 ↑n, Value.int IntKind.i64 ↑ep] 36)
  generalize w.alloc _ = w0 at *
  have Hq := Lib.hid hq; clear hq
  refine (new_ok n ep _ h6 h64 He.out).mono ?_
  rintro e w1 ⟨rfl, h⟩
  have Hq1 := Lib.hid (blk_below Hq.out h.bel)
  have H1 := Lib.hid (h.from b0)
  clear Hq b0 h
  generalize hg : w0.heap.size + 1 = g at *
  generalize ho : w0.heap.size = o at *
  clear hg ho
  have q0 := blk_cell Hq1.out 0
  have q1 := blk_cell Hq1.out 1
  simp at q0 q1
  go_wp2_with fail
  refine (may_yes _ _ _ (by omega) (by omega) (by omega) (by have := He.out; omega)).mono ?_
  rintro e w2 ⟨rfl, rfl⟩
  go_wp2_with fail
  refine (rnew_ok n ep _ h64).mono ?_
  rintro e w2 ⟨b, c, rfl, hb, hrr, b2⟩
  unfold rp
  go_wp2_with fail
  have hyb := heap_new w2 (Obj.cells #[Value.slice (some ⟨b, 0, none⟩) n c, Value.int IntKind.i64 (ep : Int), Value.int IntKind.i64 0] 40)
  have hbb := hrr.lt
  have hgl := blk_lt H1.out.pool
  have hol := blk_lt H1.out.own
  have b3 : Below w2.heap.size w2 (w2.alloc (Obj.cells #[Value.slice (some ⟨b, 0, none⟩) n c, Value.int IntKind.i64 (ep : Int), Value.int IntKind.i64 0] 40)) := (Below.refl _ _).alloc (Nat.le_refl _) _
  have hsz := b2.size
  have L0 := Lib.hid (show LS w2.heap.size b c w g o n ep 0 (List.replicate n 0) (w2.alloc (Obj.cells #[Value.slice (some ⟨b, 0, none⟩) n c, Value.int IntKind.i64 (ep : Int), Value.int IntKind.i64 0] 40)) from
    ⟨(H1.out.below b2).below b3, hrr.below b3 hbb, by omega, by omega, hyb, by omega, by omega, by omega, by have := H1.out.bel.size; omega⟩)
  generalize hW3 : w2.alloc _ = w3 at *
  generalize hy : w2.heap.size = y at *
  clear hW3 hyb b3 hy hrr b2 q0 q1 Hq1 H1
  clear hbb hgl hol hsz hb
  go_loopw [50] (fun i wr => ∃ (k : Nat) (b c ct : Nat) (L : List Int), k ≤ len ∧ i = .int .i64 k ∧ ct ≤ 65536 ∧ LS y b c w g o n ep ct L wr) (fun i _ => len - (intOf i).toNat)
  case atStart => exact ⟨0, b, c, 0, _, by omega, rfl, by decide, L0.out⟩
  case round =>
    clear L0
    obtain ⟨k, b, c, ct, L, hk, rfl, hct, hL⟩ := hrel
    have Hct := Lib.hid hct; clear hct
    have HL := Lib.hid hL; clear hL
    by_cases hlt : k < len
    · obtain ⟨x, ab, off, ha, hab, hx0, hx1, hx2⟩ := act_at hr hlt
      subst ha
      have hbw := HL.out.st.bel
      have c0 := (hbw.cell (p := ⟨ab, off + k * 3, none⟩) hab).trans hx0
      have c1 := (hbw.cell (p := ⟨ab, off + k * 3 + 1, none⟩) hab).trans hx1
      have c2 := (hbw.cell (p := ⟨ab, off + k * 3 + 2, none⟩) hab).trans hx2
      clear hx0 hx1 hx2 hbw
      obtain ⟨kd, sg, lg⟩ := x
      dsimp only at c0 c1 c2
      have y0 := blk_cell HL.out.yb 0
      have y1 := blk_cell HL.out.yb 1
      have y2 := blk_cell HL.out.yb 2
      simp at y0 y1 y2
      by_cases hk0 : kd = 0
      · subst hk0
        obtain ⟨seg, stamp, err, L2, ct2, hct2, hp, hd⟩ := take_spec n ep ct L lg He.out Hct.out
        have Hct2 := Lib.hid hct2; clear hct2
        have Hp := Lib.hid hp; have Hd := Lib.hid hd; clear hp hd
        go_wp2_with fail
        have T1 := Lib.hid (HL.out.act (Value.int IntKind.i64 0) (Value.int IntKind.i64 sg) (Value.int IntKind.i64 lg))
        generalize hz : wr.heap.size = z at *
        generalize wr.alloc _ = w4 at *
        clear hz HL y0 y1 y2 c0 c1 c2
        refine (T1.out.lift (fun X => Hp.out X _ _ _ _)).mono ?_
        rintro e w5 ⟨rfl, h⟩
        have T2 := Lib.hid h; clear h T1
        have y0 := blk_cell T2.out.yb 0
        have y1 := blk_cell T2.out.yb 1
        have y2 := blk_cell T2.out.yb 2
        have z0 := blk_cell T2.out.zb 0
        have z1 := blk_cell T2.out.zb 1
        have z2 := blk_cell T2.out.zb 2
        simp at y0 y1 y2 z0 z1 z2
        go_wp2_with fail
        refine (Hd.out b c _ T2.out.rr).mono ?_
        rintro e w6 ⟨b5, c5, rfl, haf⟩
        have T3 := Lib.hid (T2.out.after haf)
        clear y0 y1 y2 z0 z1 z2 haf T2
        have z0 := blk_cell T3.out.zb 0
        have z1 := blk_cell T3.out.zb 1
        have z2 := blk_cell T3.out.zb 2
        have y0 := blk_cell T3.out.yb 0
        have y1 := blk_cell T3.out.yb 1
        have y2 := blk_cell T3.out.yb 2
        have m1 : ¬ y = w6.heap.size := by have := blk_lt T3.out.yb; omega
        have m2 : ¬ w6.heap.size = y := by omega
        have m3 : ¬ z = w6.heap.size := by have := blk_lt T3.out.zb; omega
        have m4 : ¬ w6.heap.size = z := by omega
        have f0 := blk_free T3.out.yb 0
        have f1 := blk_free T3.out.yb 1
        have f2 := blk_free T3.out.yb 2
        have hzy : z ≠ y := by intro e; have h1 := T3.out.zb; have h2 := T3.out.yb; rw [e] at h1; rw [h1] at h2; injection h2 with h3; injection h3 with h4 h5; cases h5
        have yl := blk_lt T3.out.yb
        have zl := blk_lt T3.out.zb
        simp at z0 z1 z2 y0 y1 y2
        go_wp2_with fail
        have zk := T3.out.zb
        have L5 := (T3.out.store c5)
        have zk2 : ((((w6.setCell ⟨y, 0, none⟩ (.slice (some ⟨b5, 0, none⟩) n c5)).setCell ⟨y, 1, none⟩ (.int .i64 ep)).setCell ⟨y, 2, none⟩ (.int .i64 ct2))).heap[z]? = some (.cells #[Value.int IntKind.i64 0, Value.int IntKind.i64 sg, Value.int IntKind.i64 lg] 43 (0, 0)) := by
          rw [heap_far _ _ _ hzy, heap_far _ _ _ hzy, heap_far _ _ _ hzy]; exact zk
        generalize (((w6.setCell ⟨y, 0, none⟩ (.slice (some ⟨b5, 0, none⟩) n c5)).setCell ⟨y, 1, none⟩ (.int .i64 ep)).setCell ⟨y, 2, none⟩ (.int .i64 ct2)) = w7 at *
        clear zk T3 z0 z1 z2 y0 y1 y2 m1 m2 m3 m4 f0 f1 f2 yl zl
        have b8 : Below w7.heap.size w7 (w7.alloc (Obj.cells #[Value.slice (some ⟨b5, 0, none⟩) n c5, Value.int IntKind.i64 (ep : Int), Value.int IntKind.i64 (ct2 : Int), Value.int IntKind.i64 seg, Value.int IntKind.u32 stamp, Value.int IntKind.i64 err] 45)) := (Below.refl _ _).alloc (Nat.le_refl _) _
        have L8 := Lib.hid (L5.below b8)
        have zk3 := Lib.hid (blk_below zk2 b8)
        generalize w7.alloc _ = w8 at *
        clear zk2 L5 b8
        have z2 := blk_cell zk3.out 2
        have y0 := blk_cell L8.out.yb 0
        have y1 := blk_cell L8.out.yb 1
        have y2 := blk_cell L8.out.yb 2
        simp at z2 y0 y1 y2
        have sj : SJ y z b5 n c5 ep ct2 lg w8 w8 := ⟨y0, y1, y2, z2, Below.refl _ _⟩
        clear y0 y1 y2 z2
        have hblt := Lib.hid L8.out.rr.lt
        have hle64 := Nat.le_trans (idx_length (isLog lg) L2 n) h64
        go_region_held3 (fun w' => SJ y z b5 n c5 ep ct2 lg w8 w')
          ((first | assumption | exact SJ.keep (by assumption) (by assumption) | exact SJ.drew (by assumption)))
          (first
            | (go_at_call 19; refine (same_any (L8.out.st.below (SJ.bel (by assumption))) (L8.out.rr.below (SJ.bel (by assumption)) hblt.out) c5 ep ct2).mono ?_; rintro e w4 ⟨rfl, bel⟩)
            | (go_at_call 12; refine (Of_any (L8.out.st.below (SJ.bel (by assumption))) lg).mono ?_; rintro e w4 ⟨⟨a5, c6, rfl, hown5⟩, _, bel5⟩)
            | (go_at_call 21; refine (rOf_any (L8.out.rr.below (SJ.bel (by assumption)) hblt.out) c5 ep ct2 lg).mono ?_; rintro e w4 ⟨a6, c7, rfl, hown6, bel6⟩)
            | (go_at_call 20; refine (ints_same (xs := idxTo (isLog lg) L2 n) (told_later hown5 bel6) (told_cells hown6) hle64).mono ?_; rintro e w4 ⟨rfl, bel⟩))
        have hfin := SJ.bel (show SJ y z b5 n c5 ep ct2 lg w8 _ by assumption)
        have L9 := Lib.hid (L8.out.below hfin)
        go_split_ands
        go_wp2
        go_roundw
        case rel => exact ⟨k + 1, b5, c5, ct2, L2, by omega, by go_num, Hct2.out, L9.out⟩
        case measure => simp [intOf]; omega
      · by_cases hk1 : kd = 1
        · subst hk1
          obtain ⟨err, L2, hp, hd⟩ := claim_spec n ep ct L sg lg
          have Hp := Lib.hid hp; have Hd := Lib.hid hd; clear hp hd
          have yl := blk_lt HL.out.yb
          have yn1 : ¬ y = wr.heap.size := by omega
          have yn2 : ¬ wr.heap.size = y := by omega
          go_wp2_with fail
          have T1 := Lib.hid (HL.out.act (Value.int IntKind.i64 1) (Value.int IntKind.i64 sg) (Value.int IntKind.i64 lg))
          generalize hz : wr.heap.size = z at *
          generalize wr.alloc _ = w4 at *
          clear hz HL y0 y1 y2 c0 c1 c2 yl yn1 yn2
          refine (Hd.out b c _ T1.out.rr).mono ?_
          rintro e w6 ⟨b5, c5, rfl, haf⟩
          have T3 := Lib.hid (T1.out.ans (TT := #[.slice (some ⟨b5, 0, none⟩) n c5, .int .i64 ep, .int .i64 ct, .int .i64 err]) haf)
          clear haf T1
          generalize hta : w6.heap.size = ta at *
          go_wp2_with fail
          generalize w6.alloc _ = w8 at *
          have ks : KS z ta sg lg err w8 := T3.out.ks
          go_region_held3 (fun w' => KS z ta sg lg err w')
            ((first | assumption | exact LV.ks (by assumption) | exact KS.drew (by assumption)))
            (first
              | (go_at_call 17; refine (LV.lift (by first | exact T3.out | exact T3.out.drew | exact T3.out.drew.drew) (fun X => Hp.out X _ _ _ _)).mono ?_; rintro e w9 ⟨rfl, hv⟩))
          have T5 := Lib.hid hv.lu
          have TK := Lib.hid hv.tb
          clear hv
          have y0 := blk_cell T5.out.yb 0
          have y1 := blk_cell T5.out.yb 1
          have y2 := blk_cell T5.out.yb 2
          have f0 := blk_free T5.out.yb 0
          have f1 := blk_free T5.out.yb 1
          have f2 := blk_free T5.out.yb 2
          have t0 := blk_cell TK.out 0
          have t1 := blk_cell TK.out 1
          have t2 := blk_cell TK.out 2
          have hzy : z ≠ y := by intro e; have h1 := T5.out.zb; have h2 := T5.out.yb; rw [e] at h1; rw [h1] at h2; injection h2 with h3; injection h3 with h4 h5; cases h5
          simp at y0 y1 y2 t0 t1 t2
          try go_split_ands
          go_wp2_with fail
          have zk := T5.out.zb
          have L5 := (T5.out.store c5)
          have zk2 : ((((w9.setCell ⟨y, 0, none⟩ (.slice (some ⟨b5, 0, none⟩) n c5)).setCell ⟨y, 1, none⟩ (.int .i64 ep)).setCell ⟨y, 2, none⟩ (.int .i64 ct))).heap[z]? = some (.cells #[Value.int IntKind.i64 1, Value.int IntKind.i64 sg, Value.int IntKind.i64 lg] 43 (0, 0)) := by
            rw [heap_far _ _ _ hzy, heap_far _ _ _ hzy, heap_far _ _ _ hzy]; exact zk
          generalize hw10 : (((w9.setCell ⟨y, 0, none⟩ (.slice (some ⟨b5, 0, none⟩) n c5)).setCell ⟨y, 1, none⟩ (.int .i64 ep)).setCell ⟨y, 2, none⟩ (.int .i64 ct)) = w10 at *
          clear hw10 zk T5 TK y0 y1 y2 f0 f1 f2 t0 t1 t2
          have L8 := Lib.hid L5
          have z2 := blk_cell zk2 2
          have y0 := blk_cell L8.out.yb 0
          have y1 := blk_cell L8.out.yb 1
          have y2 := blk_cell L8.out.yb 2
          simp at z2 y0 y1 y2
          clear zk2 L5
          have sj : SJ y z b5 n c5 ep ct lg w10 w10 := ⟨y0, y1, y2, z2, Below.refl _ _⟩
          clear y0 y1 y2 z2
          have hblt := Lib.hid L8.out.rr.lt
          have hle64 := Nat.le_trans (idx_length (isLog lg) L2 n) h64
          go_region_held3 (fun w' => SJ y z b5 n c5 ep ct lg w10 w')
            ((first | assumption | exact SJ.keep (by assumption) (by assumption) | exact SJ.drew (by assumption)))
            (first
              | (go_at_call 19; refine (same_any (L8.out.st.below (SJ.bel (by assumption))) (L8.out.rr.below (SJ.bel (by assumption)) hblt.out) c5 ep ct).mono ?_; rintro e w4 ⟨rfl, bel⟩)
              | (go_at_call 12; refine (Of_any (L8.out.st.below (SJ.bel (by assumption))) lg).mono ?_; rintro e w4 ⟨⟨a5, c6, rfl, hown5⟩, _, bel5⟩)
              | (go_at_call 21; refine (rOf_any (L8.out.rr.below (SJ.bel (by assumption)) hblt.out) c5 ep ct lg).mono ?_; rintro e w4 ⟨a6, c7, rfl, hown6, bel6⟩)
              | (go_at_call 20; refine (ints_same (xs := idxTo (isLog lg) L2 n) (told_later hown5 bel6) (told_cells hown6) hle64).mono ?_; rintro e w4 ⟨rfl, bel⟩))
          have hfin := SJ.bel (show SJ y z b5 n c5 ep ct lg w10 _ by assumption)
          have L9 := Lib.hid (L8.out.below hfin)
          go_split_ands
          go_wp2
          go_roundw
          case rel => exact ⟨k + 1, b5, c5, ct, L2, by omega, by go_num, Hct.out, L9.out⟩
          case measure => simp [intOf]; omega
        · obtain ⟨err, L2, hp, hd⟩ := give_spec n ep ct L sg
          have Hp := Lib.hid hp; have Hd := Lib.hid hd; clear hp hd
          have yl := blk_lt HL.out.yb
          have yn1 : ¬ y = wr.heap.size := by omega
          have yn2 : ¬ wr.heap.size = y := by omega
          go_wp2_with fail
          have T1 := Lib.hid (HL.out.act (Value.int IntKind.i64 kd) (Value.int IntKind.i64 sg) (Value.int IntKind.i64 lg))
          generalize hz : wr.heap.size = z at *
          generalize wr.alloc _ = w4 at *
          clear hz HL y0 y1 y2 c0 c1 c2 yl yn1 yn2
          refine (Hd.out b c _ T1.out.rr).mono ?_
          rintro e w6 ⟨b5, c5, rfl, haf⟩
          have T3 := Lib.hid (T1.out.ans (TT := #[.slice (some ⟨b5, 0, none⟩) n c5, .int .i64 ep, .int .i64 ct, .int .i64 err]) haf)
          clear haf T1
          generalize hta : w6.heap.size = ta at *
          go_wp2_with fail
          generalize w6.alloc _ = w8 at *
          have ks : KS z ta sg lg err w8 := T3.out.ks
          go_region_held3 (fun w' => KS z ta sg lg err w')
            ((first | assumption | exact LV.ks (by assumption) | exact KS.drew (by assumption)))
            (first
              | (go_at_call 10; refine (LV.lift (by first | exact T3.out | exact T3.out.drew | exact T3.out.drew.drew) (fun X => Hp.out X _ _ _ _)).mono ?_; rintro e w9 ⟨rfl, hv⟩))
          have T5 := Lib.hid hv.lu
          have TK := Lib.hid hv.tb
          clear hv
          have y0 := blk_cell T5.out.yb 0
          have y1 := blk_cell T5.out.yb 1
          have y2 := blk_cell T5.out.yb 2
          have f0 := blk_free T5.out.yb 0
          have f1 := blk_free T5.out.yb 1
          have f2 := blk_free T5.out.yb 2
          have t0 := blk_cell TK.out 0
          have t1 := blk_cell TK.out 1
          have t2 := blk_cell TK.out 2
          have hzy : z ≠ y := by intro e; have h1 := T5.out.zb; have h2 := T5.out.yb; rw [e] at h1; rw [h1] at h2; injection h2 with h3; injection h3 with h4 h5; cases h5
          simp at y0 y1 y2 t0 t1 t2
          try go_split_ands
          go_wp2_with fail
          have zk := T5.out.zb
          have L5 := (T5.out.store c5)
          have zk2 : ((((w9.setCell ⟨y, 0, none⟩ (.slice (some ⟨b5, 0, none⟩) n c5)).setCell ⟨y, 1, none⟩ (.int .i64 ep)).setCell ⟨y, 2, none⟩ (.int .i64 ct))).heap[z]? = some (.cells #[Value.int IntKind.i64 kd, Value.int IntKind.i64 sg, Value.int IntKind.i64 lg] 43 (0, 0)) := by
            rw [heap_far _ _ _ hzy, heap_far _ _ _ hzy, heap_far _ _ _ hzy]; exact zk
          generalize hw10 : (((w9.setCell ⟨y, 0, none⟩ (.slice (some ⟨b5, 0, none⟩) n c5)).setCell ⟨y, 1, none⟩ (.int .i64 ep)).setCell ⟨y, 2, none⟩ (.int .i64 ct)) = w10 at *
          clear hw10 zk T5 TK y0 y1 y2 f0 f1 f2 t0 t1 t2
          have L8 := Lib.hid L5
          have z2 := blk_cell zk2 2
          have y0 := blk_cell L8.out.yb 0
          have y1 := blk_cell L8.out.yb 1
          have y2 := blk_cell L8.out.yb 2
          simp at z2 y0 y1 y2
          clear zk2 L5
          have sj : SJ y z b5 n c5 ep ct lg w10 w10 := ⟨y0, y1, y2, z2, Below.refl _ _⟩
          clear y0 y1 y2 z2
          have hblt := Lib.hid L8.out.rr.lt
          have hle64 := Nat.le_trans (idx_length (isLog lg) L2 n) h64
          go_region_held3 (fun w' => SJ y z b5 n c5 ep ct lg w10 w')
            ((first | assumption | exact SJ.keep (by assumption) (by assumption) | exact SJ.drew (by assumption)))
            (first
              | (go_at_call 19; refine (same_any (L8.out.st.below (SJ.bel (by assumption))) (L8.out.rr.below (SJ.bel (by assumption)) hblt.out) c5 ep ct).mono ?_; rintro e w4 ⟨rfl, bel⟩)
              | (go_at_call 12; refine (Of_any (L8.out.st.below (SJ.bel (by assumption))) lg).mono ?_; rintro e w4 ⟨⟨a5, c6, rfl, hown5⟩, _, bel5⟩)
              | (go_at_call 21; refine (rOf_any (L8.out.rr.below (SJ.bel (by assumption)) hblt.out) c5 ep ct lg).mono ?_; rintro e w4 ⟨a6, c7, rfl, hown6, bel6⟩)
              | (go_at_call 20; refine (ints_same (xs := idxTo (isLog lg) L2 n) (told_later hown5 bel6) (told_cells hown6) hle64).mono ?_; rintro e w4 ⟨rfl, bel⟩))
          have hfin := SJ.bel (show SJ y z b5 n c5 ep ct lg w10 _ by assumption)
          have L9 := Lib.hid (L8.out.below hfin)
          go_split_ands
          go_wp2
          go_roundw
          case rel => exact ⟨k + 1, b5, c5, ct, L2, by omega, by go_num, Hct.out, L9.out⟩
          case measure => simp [intOf]; omega
    · obtain rfl : k = len := by omega
      have y0 := blk_cell HL.out.yb 0
      have y1 := blk_cell HL.out.yb 1
      have y2 := blk_cell HL.out.yb 2
      simp at y0 y1 y2
      go_wp2_with fail
      first
        | (refine (same_any HL.out.st HL.out.rr c ep ct).mono ?_
           rintro e w5 ⟨rfl, b5⟩
           have B5 := Lib.hid (below_two HL.out.st.bel b5)
           clear y0 y1 y2 b5
           go_wp2_with (go_at_call 7; refine (six_any _).mono ?_; rintro e w7 ⟨rfl, b7⟩)
           go_ret
           exact ⟨rfl, below_two B5.out b7⟩)
theorem poolActs_walk (q : List Int) (a : Option Addr) (len cap : Nat) (zs : List PAct) (w : World) (hl : q.length = 2) (hq : ∀ z ∈ q, (Lit.int .i64 z).wf = true) (hr : Row w 3 PAct.cells a len zs) (hu : ∀ x ∈ zs, x.ok w) :
    Calls Try.prog 5 #[.agg (q.map (Value.int .i64)).toArray, .slice a len cap] w fun e w' => e = .returned (.bool true) ∧ Below w.heap.size w w' := by
  clear hq hu
  obtain ⟨n, ep, rfl⟩ : ∃ n ep, q = [n, ep] := by
    match q, hl with
    | [n, ep], _ => exact ⟨n, ep, rfl⟩
  show Calls Try.prog 5 #[.agg #[.int .i64 n, .int .i64 ep], .slice a len cap] w _
  by_cases h60 : 60 < len
  · have hm := hr.2.1
    unfold maxLen at hm
    have hm' : (len : Int) ≤ 9223372036854775807 := by omega
    clear hr hm
    go_enter Try.func5, Try.ntmps5
    go_wp2_with (go_at_call 7; refine (six_any _).mono ?_; rintro e w7 ⟨rfl, b7⟩)
    go_ret
    exact ⟨rfl, below_two ((Below.refl _ _).alloc (Nat.le_refl _) _) b7⟩
  · by_cases hp : 6 ≤ n ∧ n ≤ 64 ∧ 0 ≤ ep ∧ ep ≤ 65535
    · obtain ⟨x, rfl⟩ := Int.eq_ofNat_of_zero_le (show 0 ≤ n by omega)
      obtain ⟨y, rfl⟩ := Int.eq_ofNat_of_zero_le (show 0 ≤ ep by omega)
      exact acts_main x y a len cap zs w hr (by omega) (by omega) (by omega) (by omega)
    · have h60' : (len : Int) ≤ 60 := by omega
      have Hp := Lib.hid hp
      clear hp hr h60
      go_enter Try.func5, Try.ntmps5
      go_wp2_with fail
      refine (new_no n ep _ Hp.out).mono ?_
      rintro e w1 ⟨rfl, rfl⟩
      go_wp2_with fail
      refine (may_no n ep _ Hp.out).mono ?_
      rintro e w1 ⟨rfl, rfl⟩
      go_wp2_with (go_at_call 7; refine (six_any _).mono ?_; rintro e w7 ⟨rfl, b7⟩)
      go_ret
      exact ⟨rfl, below_two ((Below.refl _ _).alloc (Nat.le_refl _) _) b7⟩
end Go.Proofs.Ytfcpjnikblleaaa
