/- The disk: a crash. -/
import Derived.Test.YtlodjkmablogcaaDH
import Derived.Maps.OwnOps
import Derived.Maps.Views
namespace Go.Proofs.Ytlodjkmablogcaa.Own
open Go.RowKit Go.Maps Go.Proofs.YtlodjkmablogcaaW.PrintWords Go.Proofs.Ytlodjkmablogcaa.PB
set_option maxRecDepth 100000
set_option linter.unusedSimpArgs false
set_option linter.unusedVariables false
theorem law3 : Keyed Try.prog 3 := int_keyed Try.underlying3
theorem zero3 (w : World) : (zeroValue 3).run Try.prog w = .ok (.int .i64 0) w := by kernel_rfl
/-- A map of numbers, as what it tells of each number. -/
def MP (b n : Nat) (m : Int → Int) (w : World) : Prop := ∃ D : DataW Unit, IsMap D ∧ w.ownsMap Try.prog 3 (plainElem Try.prog 3) b n D ∧ ∀ key : Int, D.atKey (.int .i64 key) (.lit (.int .i64 0)) = .lit (.int .i64 (m key))
theorem MP.lt {b n : Nat} {m : Int → Int} {w : World} (h : MP b n m w) : ∃ es c, w.heap[b]? = some (.map es c) := by
  obtain ⟨D, _, ⟨es, c, hb, _⟩, _⟩ := h
  exact ⟨es, c, hb⟩
theorem MP.move {b n : Nat} {m : Int → Int} {w w1 : World} (h : MP b n m w) (hb : w1.heap[b]? = w.heap[b]?) : MP b n m w1 := by
  obtain ⟨D, hD, ⟨es, c, h1, h2⟩, h3⟩ := h
  exact ⟨D, hD, ⟨es, c, hb.trans h1, h2⟩, h3⟩
theorem MP.made (w : World) : MP w.heap.size 0 (fun _ => 0) (w.alloc (.map #[] 0)) := ⟨_, isMap_empty, World.ownsMap_made w Try.prog 3 _, fun key => rfl⟩
theorem MP.lookup {b n : Nat} {m : Int → Int} {w : World} (h : MP b n m w) (key : Int) (hk : (Lit.int .i64 key).wf = true) : (Instr.lookup 76 (.map (some b)) (.int .i64 key) false).run Try.prog w = .ok (.int .i64 (m key)) w := by
  obtain ⟨D, _, hown, hat⟩ := h
  obtain ⟨c, hrun, hc, _⟩ := hown.lookup_int law3 Try.underlying76 Try.underlying3 (zero3 w) (keyOf_int_mk Try.underlying3 hk)
  rw [hat] at hc
  injection hc with hc
  injection hc with _ hc
  rw [hrun, hc]
theorem MP.update {b n : Nat} {m : Int → Int} {w : World} (h : MP b n m w) (hn : n < maxLen) (key v : Int) (hk : (Lit.int .i64 key).wf = true) (hv : (Lit.int .i64 v).wf = true) :
    ∃ w', (Instr.mapUpdate 76 (.map (some b)) (.int .i64 key) (.int .i64 v)).run Try.prog w = .ok () w' ∧ MP b (n + 1) (fun q => if q = key then v else m q) w' ∧ w.grownBy w' (some b) := by
  obtain ⟨D, hD, hown, hat⟩ := h
  obtain ⟨w', hrun, h1, h2⟩ := hown.update law3 Try.underlying76 hn (keyOf_int_mk Try.underlying3 hk) (plainElem_int Try.underlying3 hv)
  refine ⟨w', hrun, ⟨_, hD.put _ _, h1, fun q => ?_⟩, h2⟩
  by_cases e : q = key
  · subst e
    show _ = DataW.lit (Lit.int .i64 (if q = q then v else m q))
    rw [if_pos rfl]
    exact atKey_put_same hD (show WideAt.IsKeyLit (.int .i64 q) from trivial) _ _
  · show _ = DataW.lit (Lit.int .i64 (if q = key then v else m q))
    rw [if_neg e, atKey_put_other (by intro h; injection h with _ h; exact e h)]
    exact hat q
theorem wpList_mapUpdate76 {ops : Array Oper} {rest : List Oper} {o : Oper} {a : Act} {w : World} {Q : Exit → Act → World → Prop} (hg : o.guard = none) (mo x v : Operand) (hop : o.op = Op.mapUpdate 76 mo x v) {b n : Nat} {m : Int → Int} (h : MP b n m w) (hn : n < maxLen)
    (key u : Int) (hk : (Lit.int .i64 key).wf = true) (hv : (Lit.int .i64 u).wf = true) (hm : a.eval mo = .map (some b)) (hx : a.eval x = .int .i64 key) (hu : a.eval v = .int .i64 u)
    (hK : ∀ w', MP b (n + 1) (fun q => if q = key then u else m q) w' → w.grownBy w' (some b) → wpList Try.prog ops Q rest (a.put o.dst undef) w') : wpList Try.prog ops Q (o :: rest) a w := by
  refine wpList_plain hg fun K' hK' => ?_
  obtain ⟨w', hrun, r1, r2⟩ := h.update hn key u hk hv
  unfold Oper.wp
  simp [execOp, hop, hm, hx, hu, hrun, Result.andThen]
  exact hK' _ _ (hK w' r1 r2)
/-- What one keep makes of the sectors, and of the first write of each that may still be kept. -/
def cstep (X : List S79) (s : List ByteArray × (Int → Int)) (q : S52) : List ByteArray × (Int → Int) :=
  if 0 ≤ q.f0 ∧ q.f0 < X.length ∧ s.2 (X.getD q.f0.toNat z79).f0 ≤ q.f0 then
    (s.1.set (X.getD q.f0.toNat z79).f0.toNat (keepB (X.getD q.f0.toNat z79).f1 (s.1.getD (X.getD q.f0.toNat z79).f0.toNat ByteArray.empty) (clampN q.f1)), fun i => if i = (X.getD q.f0.toNat z79).f0 then q.f0 + 1 else s.2 i)
  else s
def crashS (L : List ByteArray) (X : List S79) (ks : List S52) : List ByteArray × (Int → Int) := ks.foldl (cstep X) (L, fun _ => 0)
def crashF (L : List ByteArray) (X : List S79) (ks : List S52) : List ByteArray := (crashS L X ks).1
theorem crashS_take {L : List ByteArray} {X : List S79} {ks : List S52} {k : Nat} (hk : k < ks.length) : crashS L X (ks.take (k + 1)) = cstep X (crashS L X (ks.take k)) (ks.getD k z52) := by
  unfold crashS
  rw [take_getD ks z52 hk, List.foldl_append]
  rfl
theorem crashS_len (X : List S79) (ks : List S52) : ∀ s : List ByteArray × (Int → Int), ((ks.foldl (cstep X) s).1).length = s.1.length := by
  induction ks with
  | nil => intro s; rfl
  | cons q ks ih =>
    intro s
    rw [List.foldl_cons, ih]
    unfold cstep
    split
    · rw [List.length_set]
    · rfl
theorem cstep_no {X : List S79} {s : List ByteArray × (Int → Int)} {idx by_ : Int} (h : ¬ (0 ≤ idx ∧ idx < X.length ∧ s.2 (X.getD idx.toNat z79).f0 ≤ idx)) : cstep X s ⟨idx, by_⟩ = s := by
  unfold cstep
  exact if_neg h
theorem cstep_yes {X : List S79} {s : List ByteArray × (Int → Int)} {p : Nat} {by_ : Int} (h1 : p < X.length) (h2 : s.2 (X.getD p z79).f0 ≤ (p : Int)) : cstep X s ⟨(p : Int), by_⟩ = (s.1.set (X.getD p z79).f0.toNat (keepB (X.getD p z79).f1 (s.1.getD (X.getD p z79).f0.toNat ByteArray.empty) (clampN by_)), fun i => if i = (X.getD p z79).f0 then (p : Int) + 1 else s.2 i) := by
  unfold cstep
  simp only [Int.toNat_natCast]
  exact if_pos ⟨by omega, by omega, h2⟩
theorem crash_bad {B g o : Nat} {v : Value} {L : List ByteArray} {W : List S79} {w : World} (h : DS B g o v L W w) (i j : Int) (K : Value) (hs : spanB L.length i j = false) :
    Calls Try.prog 20 #[.pointer (some ⟨g, 0, none⟩), .int .i64 i, .int .i64 j, K] w fun e w' => e = .returned (.int .i64 20) ∧ w = w' := by
  have HS := Lib.hid hs; clear hs
  go_enter Try.func20, Try.ntmps20
  go_wp2_with fail
  refine (span_any h i j).mono ?_
  rintro e w7 ⟨rfl, rfl⟩
  rw [HS.out]
  go_wp2
  go_ret
  exact ⟨rfl, rfl⟩
theorem Two.map {B b : Nat} {v u : Value} {X Y : List S79} {w w1 : World} (h : Two B v u X Y w) (hg : w.grownBy w1 (some b)) {es c} (hm : w.heap[b]? = some (.map es c)) : Two B v u X Y w1 :=
  ⟨Kd.R_mono (Kd.R_move (Kd.R_bound h.a) (fun k hk => hg.block k hk.2.2.1 (fun e => by
      injection e with e
      obtain ⟨_, _, _, q, _, cells, hc⟩ := hk
      rw [e, hm] at hc
      cases hc))) (fun _ hk => hk.1),
   Kd.R_mono (Kd.R_move (Kd.R_bound h.b) (fun k hk => hg.block k hk.2.2.1 (fun e => by
      injection e with e
      obtain ⟨_, _, _, q, _, cells, hc⟩ := hk
      rw [e, hm] at hc
      cases hc))) (fun _ hk => hk.1)⟩
/-- The state of a crash at the head of a round. -/
structure CR (B g o : Nat) (v : Value) (W : List S79) (A : Option Addr) (c : Nat) (u : Value) (X Y : List S79) (mb n : Nat) (s : List ByteArray × (Int → Int)) (w wr : World) : Prop where
  ds : DS B g o v s.1 W wr
  two : Two w.heap.size (.slice A X.length c) u X Y wr
  fr : Fr (FS g o v) w wr
  mp : MP mb n s.2 wr
  mlo : w.heap.size ≤ mb
theorem CR.below {B g o : Nat} {v : Value} {W : List S79} {A : Option Addr} {c : Nat} {u : Value} {X Y : List S79} {mb n : Nat} {s : List ByteArray × (Int → Int)} {w wr w1 : World} (h : CR B g o v W A c u X Y mb n s w wr) (hb : Below wr.heap.size wr w1) : CR B g o v W A c u X Y mb n s w w1 :=
  ⟨h.ds.below hb, h.two.below hb, h.fr.below hb, h.mp.move (by obtain ⟨es, c, hm⟩ := h.mp.lt; exact hb.block mb (blk_lt hm)), h.mlo⟩
theorem wf_small {a : Int} (h0 : 0 ≤ a) (h1 : a ≤ 8192) : (Lit.int .i64 a).wf = true := by
  simp [Lit.wf, IntKind.min, IntKind.max, IntKind.signed, IntKind.bits]
  omega
theorem wf_mid {a : Int} (h0 : 0 ≤ a) (h1 : a ≤ 1000001) : (Lit.int .i64 a).wf = true := by
  simp [Lit.wf, IntKind.min, IntKind.max, IntKind.signed, IntKind.bits]
  omega
theorem MP.mono {b n n' : Nat} {m : Int → Int} {w : World} (h : MP b n m w) (hn : n ≤ n') : MP b n' m w := by
  obtain ⟨D, hD, h1, h2⟩ := h
  exact ⟨D, hD, h1.mono hn, h2⟩
theorem CR.mono {B g o : Nat} {v : Value} {W : List S79} {A : Option Addr} {c : Nat} {u : Value} {X Y : List S79} {mb n n' : Nat} {s : List ByteArray × (Int → Int)} {w wr : World} (h : CR B g o v W A c u X Y mb n s w wr) (hn : n ≤ n') : CR B g o v W A c u X Y mb n' s w wr := ⟨h.ds, h.two, h.fr, h.mp.mono hn, h.mlo⟩
set_option maxHeartbeats 4000000 in
theorem crash_ok {B g o : Nat} {v : Value} {L : List ByteArray} {W : List S79} {w : World} (h : DS B g o v L W w) (i j : Int) (hs : spanB L.length i j = true) (hW : W.length ≤ 1000000) (KA : Option Addr) (kc : Nat) (ks : List S52) (hks : ks.length ≤ 1000)
    (hkp : ∀ W', Fr (FS g o v) w W' → Kd.C k52 W' KA ks.length ks) (hwf : ∀ q ∈ ks, (Lit.int .i64 q.f0).wf = true) :
    Calls Try.prog 20 #[.pointer (some ⟨g, 0, none⟩), .int .i64 i, .int .i64 j, .slice KA ks.length kc] w fun e w' => e = .returned (.int .i64 0) ∧ ∃ v', DS B g o v' (crashF L (inF i j W) ks) (outF i j W) w' ∧ Fr (FS g o v) w w' ∧ NV v v' w := by
  have hsp := spanB_yes hs
  have hf := h.few
  have HS := Lib.hid hs; clear hs
  have H := Lib.hid h; clear h
  have HKP := Lib.hid hkp; clear hkp
  have HWF := Lib.hid hwf; clear hwf
  have HKS := Lib.hid hks; clear hks
  obtain ⟨h1, h2, h3, h4⟩ := hsp
  have h3' : i ≤ 8192 := by omega
  clear h3 h4 h2 hf
  have hmm := @run_makeMap Try.prog
  go_enter Try.func20, Try.ntmps20
  go_wp2_with fail
  refine (span_any H.out i j).mono ?_
  rintro e w7 ⟨rfl, rfl⟩
  rw [HS.out]
  go_wp2_with fail
  refine (part_any H.out i j h1 h3' hW).mono ?_
  rintro e w1 ⟨v1, u1, rfl, htwo, bel⟩
  obtain ⟨A, c, rfl, hlc, hC⟩ := Kd.R_reads htwo.a
  have hmax := Kd.C_max hC
  have HX := Lib.hid (show ∀ x ∈ inF i j W, x ∈ W from fun x hx => (List.mem_filter.1 hx).1)
  have HLT := Lib.hid (fs_lt H.out)
  have HY := Lib.hid (show ∀ x ∈ outF i j W, x ∈ W from fun x hx => (List.mem_filter.1 hx).1)
  have HXL := Lib.hid (show (inF i j W).length ≤ 1000000 from Nat.le_trans (in_all i j W) hW)
  generalize hX : inF i j W = X at *
  generalize hY : outF i j W = Y at *
  have EX := Lib.hid hX; have EY := Lib.hid hY; clear hX hY
  have BM : Below w1.heap.size w1 (w1.alloc (.map #[] 0)) := (Below.refl _ _).alloc (Nat.le_refl _) _
  have C0 := Lib.hid (show CR B g o v W A c u1 X Y w1.heap.size 0 (L, fun _ => 0) w (w1.alloc (.map #[] 0)) from ⟨(H.out.below bel).below BM, htwo.below BM, (Fr.of_below bel).below BM, MP.made w1, bel.size⟩)
  clear htwo bel hC h1 h3' hW BM
  go_wp2_with fail
  generalize hW2 : w1.alloc (.map #[] 0) = w2 at *
  generalize hmb : w1.heap.size = mb at *
  have HMB := Lib.hid hmb; clear hmb hW2 hmm
  go_loopw [34] (fun q wr => ∃ k : Nat, k ≤ ks.length ∧ q = .int .i64 k ∧ CR B g o v W A c u1 X Y mb k (crashS L X (ks.take k)) w wr) (fun q _ => ks.length - (intOf q).toNat)
  case atStart => exact ⟨0, by omega, rfl, C0.out⟩
  case round =>
    obtain ⟨k, hk, rfl, hcr⟩ := hrel
    have HC := Lib.hid hcr; clear hcr
    have hkl : (ks.length : Int) ≤ 1000 := by have := HKS.out; omega
    by_cases hlt : k < ks.length
    · have q1 : (0 : Int) ≤ (k : Int) := Int.natCast_nonneg _
      have q2 : (k : Int) < (ks.length : Int) := by omega
      obtain ⟨ad, rfl, x0, x1⟩ := at_T52 (HKP.out wr HC.out.fr) (k : Int) q1 q2
      rw [Int.toNat_natCast] at x0 x1
      have HWQ := Lib.hid (HWF.out (ks.getD k z52) (by rw [List.getD_eq_getElem?_getD, List.getElem?_eq_getElem hlt]; exact List.getElem_mem hlt))
      have HN := Lib.hid (crashS_take (L := L) (X := X) hlt)
      rw [show rd_T52 ks (k : Int) = ks.getD k z52 by unfold rd_T52; rw [Int.toNat_natCast]] at x0 x1
      generalize ks.getD k z52 = q at *
      obtain ⟨idx, by_⟩ := q
      simp only at x0 x1
      have HSL := Lib.hid (show (crashS L X (ks.take k)).1.length = L.length from crashS_len X (ks.take k) (L, fun _ => 0))
      generalize hS : crashS L X (ks.take k) = S at *
      clear hS
      have BB1 : Below wr.heap.size wr (wr.alloc (.cells #[.int .i64 idx, .int .i64 by_] 52)) := (Below.refl _ _).alloc (Nat.le_refl _) _
      have C1 := Lib.hid (HC.out.below BB1)
      have y0 := (blk_cell (heap_new wr (.cells #[.int .i64 idx, .int .i64 by_] 52)) 0).trans rfl
      have y1 := (blk_cell (heap_new wr (.cells #[.int .i64 idx, .int .i64 by_] 52)) 1).trans rfl
      have YB := Lib.hid (heap_new wr (.cells #[.int .i64 idx, .int .i64 by_] 52))
      clear BB1
      go_upto_region 10 with (fail)
      generalize hW1 : wr.alloc (.cells #[.int .i64 idx, .int .i64 by_] 52) = W1 at *
      generalize hqx : wr.heap.size = qx at *
      clear hW1 hqx x0 x1
      by_cases i1 : idx < 0
      · go_wp2_with fail
        go_roundw
        case rel => exact ⟨k + 1, by omega, by go_num, by rw [HN.out, cstep_no (by omega)]; exact C1.out.mono (by omega)⟩
        case measure => simp [intOf]; omega
      · by_cases i2 : (X.length : Int) ≤ idx
        · have i1' : decide (idx < 0) = false := by simp; omega
          go_wp2_with fail
          go_roundw
          case rel => exact ⟨k + 1, by omega, by go_num, by rw [HN.out, cstep_no (by omega)]; exact C1.out.mono (by omega)⟩
          case measure => simp [intOf]; omega
        · obtain ⟨p, rfl⟩ := Int.eq_ofNat_of_zero_le (show 0 ≤ idx by omega)
          have hp : p < X.length := by omega
          have i3 : (p : Int) < (X.length : Int) := by omega
          have i4 : (0 : Int) ≤ (p : Int) := by omega
          clear i1 i2
          have i1' : decide ((p : Int) < 0) = false := by simp
          have i2' : decide ((X.length : Int) ≤ (p : Int)) = false := by simp; omega
          obtain ⟨_, _, hC⟩ := Kd.R_reads' C1.out.two.a
          obtain ⟨ad, rfl, h6, hR, hsp⟩ := at65 hC p hp
          clear hC
          obtain ⟨b, off, sp⟩ := ad
          subst hsp
          have hx0 := H.out.w64 (X.getD p z79) (HX.out _ (by rw [List.getD_eq_getElem?_getD, List.getElem?_eq_getElem hp]; exact List.getElem_mem hp))
          have HCY := Lib.hid (fun hh => cstep_yes (X := X) (s := S) (by_ := by_) hp hh)
          have HCN := Lib.hid (fun hh : ¬ S.2 (X.getD p z79).f0 ≤ (p : Int) => cstep_no (X := X) (s := S) (idx := (p : Int)) (by_ := by_) (by rw [Int.toNat_natCast]; exact fun h => hh h.2.2))
          have HR := Lib.hid hR; clear hR
          have H6 := Lib.hid h6; clear h6
          generalize X.getD p z79 = x at *
          obtain ⟨at_, hat⟩ := Int.eq_ofNat_of_zero_le hx0.2.1
          have hlen : S.1.length = L.length := by have := HSL.out; exact this
          have hxM : at_ < S.1.length := by have := hx0.2.2; omega
          have p1 : (0 : Int) ≤ (at_ : Int) := Int.natCast_nonneg _
          have p2 : (at_ : Int) ≤ 8192 := by have := C1.out.ds.few; omega
          obtain ⟨f0, f1⟩ := x
          simp only at hat
          subst hat
          clear hx0 hlen
          go_upto_region 11 with (fail)
          have BB2 : Below W1.heap.size W1 (W1.alloc (.cells (wc ⟨(at_ : Int), f1⟩).toArray 65)) := (Below.refl _ _).alloc (Nat.le_refl _) _
          have C2 := Lib.hid (C1.out.below BB2)
          have hqlt : qx < W1.heap.size := blk_lt YB.out
          have z0 := (BB2.cell (p := ⟨qx, 0, none⟩) hqlt).trans y0
          have z1 := (BB2.cell (p := ⟨qx, 1, none⟩) hqlt).trans y1
          have kb := box65_at W1 ⟨(at_ : Int), f1⟩
          have KW := Lib.hid (box65_whole W1 ⟨(at_ : Int), f1⟩)
          have KBK := Lib.hid (heap_new W1 (.cells (wc ⟨(at_ : Int), f1⟩).toArray 65))
          have ZB := Lib.hid (blk_below YB.out BB2)
          clear BB2
          go_upto_region 12 with (first | (refine wpList_load65 rfl (.tmp 51) rfl b (off + p * 65) ⟨(at_ : Int), f1⟩ rfl HR.out H6.out ?_) | (refine wpList_box65 rfl rfl rfl 14 (.tmp 52) rfl rfl rfl ⟨(at_ : Int), f1⟩ rfl rfl H6.out ?_))
          generalize hW2 : W1.alloc (.cells (wc ⟨(at_ : Int), f1⟩).toArray 65) = W2 at *
          generalize hbx : W1.heap.size = bx at *
          clear y0 y1 hW2 hbx hqlt
          have kl := C2.out.mp.lookup (at_ : Int) (wf_small p1 p2)
          by_cases hle : S.2 (at_ : Int) ≤ (p : Int)
          · have HYY := Lib.hid (HCY.out hle)
            have hz : ∀ es' c', W2.heap[bx]? ≠ some (.map es' c') := fun es' c' e => by rw [KBK.out] at e; cases e
            have hz2 : ∀ es' c', W2.heap[qx]? ≠ some (.map es' c') := fun es' c' e => by rw [ZB.out] at e; cases e
            obtain ⟨mes, mck, hmap⟩ := C2.out.mp.lt
            have HNB := Lib.hid (show some bx ≠ some mb from fun e => by injection e with e; subst e; exact hz _ _ hmap)
            have HNQ := Lib.hid (show some qx ≠ some mb from fun e => by injection e with e; subst e; exact hz2 _ _ hmap)
            have HMAP := Lib.hid hmap
            clear hz hz2 hmap
            go_upto_region 14 with (at_mapUpdate; refine wpList_mapUpdate76 rfl (.tmp 60) (.tmp 62) (.tmp 65) rfl C2.out.mp (by unfold maxLen; omega) (at_ : Int) ((p : Int) + 1) (wf_small p1 p2) (wf_mid (by omega) (by have := HXL.out; omega)) rfl rfl rfl ?_; intro W3 hM3 hG3)
            have z1' := Lib.hid ((blk_cell ((hG3.block qx (blk_lt ZB.out) HNQ.out).trans ZB.out) 1).trans rfl)
            have KW3 := Lib.hid (range_grown KW.out hG3 HNB.out)
            have Q1 := z1'.out
            have C3 := Lib.hid (show CR B g o v W (some ⟨b, off, none⟩) c u1 X Y mb (k + 1) (S.1, fun i => if i = (at_ : Int) then (p : Int) + 1 else S.2 i) w W3 from
              ⟨C2.out.ds.fr ((Fr.refl (fun q => q = mb) W2).grown hG3 (fun q hq => Or.inl (by injection hq with hq; exact hq.symm))) (fun q hq e => by have := HLT.out q hq; have := C2.out.mlo; omega),
               C2.out.two.map hG3 HMAP.out, C2.out.fr.grown hG3 (fun q hq => Or.inr (by injection hq with hq; have := C2.out.mlo; omega)), hM3, C2.out.mlo⟩)
            clear hM3 hG3 kl z0 z1 kb
            go_wp2_with (refine wpList_load65 rfl (.tmp 14) rfl bx 0 ⟨(at_ : Int), f1⟩ rfl KW3.out H6.out ?_)
            refine (keep_ok C3.out.ds at_ hxM f1 H6.out by_).mono ?_
            rintro e W5 ⟨rfl, hd5, hf5⟩
            have C5 := Lib.hid (show CR B g o v W (some ⟨b, off, none⟩) c u1 X Y mb (k + 1) (S.1.set at_ (keepB f1 (S.1.getD at_ ByteArray.empty) (clampN by_)), fun i => if i = (at_ : Int) then (p : Int) + 1 else S.2 i) w W5 from
              ⟨hd5, C3.out.two.fr hf5 (fun q hq hS => by have := HLT.out q hS; omega), C3.out.fr.trans hf5 (fun q hq => hq) (fun q hq => Or.inl hq),
               C3.out.mp.move (by obtain ⟨es', c', hm'⟩ := C3.out.mp.lt; exact hf5.block mb (blk_lt hm') (fun hS => by have := HLT.out mb hS; have := C3.out.mlo; omega)), C3.out.mlo⟩)
            clear hd5 hf5 Q1
            go_wp2_with fail
            go_roundw
            case rel => exact ⟨k + 1, by omega, by go_num, by rw [HN.out, HYY.out]; simp only [Int.toNat_natCast]; exact C5.out⟩
            case measure => simp [intOf]; omega
          · have hle' : decide (S.2 (at_ : Int) ≤ (p : Int)) = false := by simpa using hle
            go_wp2_with fail
            go_roundw
            case rel => exact ⟨k + 1, by omega, by go_num, by rw [HN.out, HCN.out hle]; exact C2.out.mono (by omega)⟩
            case measure => simp [intOf]; omega
    · obtain rfl : k = ks.length := by omega
      rw [List.take_length] at HC
      clear hlt hk
      have D := Lib.hid HC.out.ds
      have T := Lib.hid HC.out.two
      have F := Lib.hid HC.out.fr
      have c0 := (blk_cell D.out.blk 0).trans rfl
      have c1 := (blk_cell D.out.blk 1).trans rfl
      have f1 := blk_free D.out.blk 1
      obtain ⟨A2, c2, e2⟩ := Kd.R_slice T.out.b
      generalize hn2 : Y.length = n2 at e2
      subst e2
      go_wp2
      go_ret
      have ex := EX.out
      have ey := EY.out
      subst ex ey
      refine ⟨rfl, .slice A2 n2 c2, ⟨?_, ?_, ?_, D.out.log, D.out.loo, D.out.ne, D.out.l64, ?_, D.out.few⟩, ?_, ?_⟩
      · exact (heap_set D.out.blk (i := 1) _).trans rfl
      · exact (heap_far _ _ _ D.out.ne).trans D.out.lie
      · have hR : Kd.R k65 65 wr w.heap.size (fun q => q ≠ g ∧ q ≠ o) (.slice A2 n2 c2) (outF i j W) := Kd.R_mono (Kd.R_bound T.out.b) (fun q hq => ⟨fun e => by have := HLT.out g (Or.inl rfl); have := hq.2.1; omega, fun e => by have := HLT.out o (Or.inr (Or.inl rfl)); have := hq.2.1; omega⟩)
        exact Kd.R_far (Kd.R_lower hR (by have := H.out.log; have := HLT.out g (Or.inl rfl); omega)) (fun q hq => hq.1) _
      · intro x hx
        show _ ∧ _ ∧ x.f0 < ((crashS L (inF i j W) ks).1.length : Int)
        rw [show (crashS L (inF i j W) ks).1.length = L.length from crashS_len (inF i j W) ks (L, fun _ => 0)]
        exact H.out.w64 x (HY.out x hx)
      · exact F.out.set _ _ (Or.inl (Or.inl rfl))
      · intro q hq
        exact Or.inr (Kd.R_base T.out.b q hq)
end Go.Proofs.Ytlodjkmablogcaa.Own
