/- weighlockref16.Same, by hand: two lists of records, held one beside the other. -/
import Derived.Test.YtakbgaiedenikaaBase
import Derived.Test.YtakbgaiedenikaaPBx2
namespace Go.Proofs.Ytakbgaiedenikaa.Sm
open Go.RowKit Go.Proofs.YtakbgaiedenikaaW.PrintWords Go.Proofs.Ytakbgaiedenikaa.PB
set_option maxRecDepth 100000
set_option linter.unusedSimpArgs false
set_option linter.unusedVariables false
def eqR (x y : S54) : Bool := (x.f0 == y.f0 && (x.f1 == y.f1 && (x.f2.toList == y.f2.toList && (x.f3.toList == y.f3.toList && (x.f4 == y.f4 && (x.f5 == y.f5 && (x.f6 == y.f6 && (x.f7 == y.f7))))))))
theorem eqR_refl (x : S54) : eqR x x = true := by simp [eqR]
theorem bytes_eq {a b : ByteArray} (h : a.toList = b.toList) : a = b := by
  rw [Go.ByteArray.toList_eq, Go.ByteArray.toList_eq] at h
  apply ByteArray.ext
  rw [← Array.toArray_toList (xs := a.data), ← Array.toArray_toList (xs := b.data), h]
theorem eqR_eq {x y : S54} (h : eqR x y = true) : x = y := by
  obtain ⟨a, b, c, d, e, f, g, i⟩ := x
  obtain ⟨a', b', c', d', e', f', g', i'⟩ := y
  simp [eqR] at h
  obtain ⟨rfl, rfl, h3, h4, rfl, rfl, rfl, rfl⟩ := h
  rw [bytes_eq h3, bytes_eq h4]
theorem eqRec (d : Nat) (w : World) (x0 y0 : Int) (x1 y1 : Int) (x2 y2 : ByteArray) (x3 y3 : ByteArray) (x4 y4 : Bool) (x5 y5 : Int) (x6 y6 : Int) (x7 y7 : Int) :
    (Op.equalIn (d + 2) 54 (.agg #[.int .i64 x0, .int .i64 x1, .string x2, .string x3, .bool x4, .int .i64 x5, .int .i64 x6, .int .i64 x7]) (.agg #[.int .i64 y0, .int .i64 y1, .string y2, .string y3, .bool y4, .int .i64 y5, .int .i64 y6, .int .i64 y7])).run Try.prog w = .ok (x0 == y0 && (x1 == y1 && (x2.toList == y2.toList && (x3.toList == y3.toList && (x4 == y4 && (x5 == y5 && (x6 == y6 && (x7 == y7)))))))) w := by
  refine eqA_of Try.underlying54 (by kernel_rfl) ?_
  refine eqf_cons (by rfl) (by go_simp; rfl) (by go_simp; rfl) (by go_simp) ?_
  refine eqf_cons (by rfl) (by go_simp; rfl) (by go_simp; rfl) (by go_simp) ?_
  refine eqf_cons (by rfl) (by go_simp; rfl) (by go_simp; rfl) (by go_simp) ?_
  refine eqf_cons (by rfl) (by go_simp; rfl) (by go_simp; rfl) (by go_simp) ?_
  refine eqf_cons (by rfl) (by go_simp; rfl) (by go_simp; rfl) (by go_simp) ?_
  refine eqf_cons (by rfl) (by go_simp; rfl) (by go_simp; rfl) (by go_simp) ?_
  refine eqf_cons (by rfl) (by go_simp; rfl) (by go_simp; rfl) (by go_simp) ?_
  exact eqf_last (by rfl) (by go_simp; rfl) (by go_simp; rfl) (by go_simp)
def agR (x : S54) : Value := .agg #[.int .i64 x.f0, .int .i64 x.f1, .string x.f2, .string x.f3, .bool x.f4, .int .i64 x.f5, .int .i64 x.f6, .int .i64 x.f7]
theorem neqRec (w : World) (x y : S54) : (binOp .neq 54 (agR x) (agR y)).run Try.prog w = .ok (.bool (!eqR x y)) w := by
  unfold agR eqR
  simp only [binOp]
  simp [Op.equal, Op.maxDepth, eqRec 9998 w]
def sameFrom (l0 l1 : List S54) (k : Nat) : Bool := (List.range k).all fun i => eqR (rd_T54 l0 (i : Int)) (rd_T54 l1 (i : Int))
def sameB (l0 l1 : List S54) : Bool := decide (l0.length = l1.length) && sameFrom l0 l1 l0.length
theorem sameFrom_succ (l0 l1 : List S54) (k : Nat) : sameFrom l0 l1 (k + 1) = (sameFrom l0 l1 k && eqR (rd_T54 l0 (k : Int)) (rd_T54 l1 (k : Int))) := by
  unfold sameFrom
  rw [List.range_succ, List.all_append]
  simp
theorem sameFrom_no {l0 l1 : List S54} {k n : Nat} (h : eqR (rd_T54 l0 (k : Int)) (rd_T54 l1 (k : Int)) = false) (hk : k < n) : sameFrom l0 l1 n = false := by
  unfold sameFrom
  rw [List.all_eq_false]
  exact ⟨k, List.mem_range.2 hk, by rw [h]; simp⟩
theorem sameB_refl (l : List S54) : sameB l l = true := by
  unfold sameB sameFrom
  simp [eqR_refl]
theorem rd_same (l : List S54) (m : Nat) (h : m < l.length) : rd_T54 l (m : Int) = l[m] := by
  unfold rd_T54
  rw [Int.toNat_natCast, List.getD_eq_getElem?_getD, List.getElem?_eq_getElem h]; rfl
theorem sameB_eq {l0 l1 : List S54} (h : sameB l0 l1 = true) : l0 = l1 := by
  unfold sameB sameFrom at h
  rw [Bool.and_eq_true, decide_eq_true_eq, List.all_eq_true] at h
  apply List.ext_getElem h.1
  intro i h1 h2
  have := eqR_eq (h.2 i (List.mem_range.2 h1))
  rwa [rd_same l0 i h1, rd_same l1 i h2] at this
set_option maxHeartbeats 2000000 in
theorem same_any (A0 : Option Addr) (c0 : Nat) (l0 : List S54) (A1 : Option Addr) (c1 : Nat) (l1 : List S54) (w : World) (h0 : Kd.C k54 w A0 l0.length l0) (h1 : Kd.C k54 w A1 l1.length l1) :
    Calls Try.prog 34 #[.slice A0 l0.length c0, .slice A1 l1.length c1] w fun e w' => e = .returned (.bool (sameB l0 l1)) ∧ Below w.heap.size w w' := by
  have hmax : l0.length ≤ 9223372036854775807 := h0.2.1
  have H0 := Lib.hid h0; clear h0
  have H1 := Lib.hid h1; clear h1
  by_cases he : l0.length = l1.length
  · have hb : ((l0.length : Int) != (l1.length : Int)) = false := by rw [bne_eq_false_iff_eq]; omega
    have hs : sameB l0 l1 = sameFrom l0 l1 l0.length := by unfold sameB; simp [he]
    rw [hs]
    have HE := Lib.hid he; clear he hs
    go_enter Try.func34, Try.ntmps34
    go_wp2_with fail
    go_loopw [14] (fun x wr => ∃ k : Nat, k ≤ l0.length ∧ x = .int .i64 k ∧ sameFrom l0 l1 k = true ∧ Below w.heap.size w wr) (fun x _ => l0.length - (intOf x).toNat)
    case atStart => exact ⟨0, by omega, rfl, by simp [sameFrom], Below.refl _ _⟩
    case round =>
      obtain ⟨k, hk, rfl, hyes, bel⟩ := hrel
      have Bel := Lib.hid bel; clear bel
      have Hy := Lib.hid hyes; clear hyes
      clear hb
      by_cases hlt : k < l0.length
      · have hlt1 : k < l1.length := by have := HE.out; omega
        obtain ⟨ad, rfl, c00, c01, c02, c03, c04, c05, c06, c07⟩ := at_T54 (Kd.C_below H0.out Bel.out) (k : Int) (by omega) (by omega)
        obtain ⟨ae, rfl, d00, d01, d02, d03, d04, d05, d06, d07⟩ := at_T54 (Kd.C_below H1.out Bel.out) (k : Int) (by omega) (by omega)
        rw [Int.toNat_natCast] at c00 c01 c02 c03 c04 c05 c06 c07 d00 d01 d02 d03 d04 d05 d06 d07
        have hsucc := sameFrom_succ l0 l1 k
        have hbad : eqR (rd_T54 l0 (k : Int)) (rd_T54 l1 (k : Int)) = false → sameFrom l0 l1 l0.length = false := fun h => sameFrom_no h hlt
        rw [Hy.out, Bool.true_and] at hsucc
        generalize rd_T54 l0 (k : Int) = p at *
        generalize rd_T54 l1 (k : Int) = q at *
        have hq : ∀ W : World, (binOp .neq 54 (.agg #[.int .i64 p.f0, .int .i64 p.f1, .string p.f2, .string p.f3, .bool p.f4, .int .i64 p.f5, .int .i64 p.f6, .int .i64 p.f7]) (.agg #[.int .i64 q.f0, .int .i64 q.f1, .string q.f2, .string q.f3, .bool q.f4, .int .i64 q.f5, .int .i64 q.f6, .int .i64 q.f7])).run Try.prog W = .ok (.bool (!eqR p q)) W := fun W => neqRec W p q
        have Hsucc := Lib.hid hsucc; clear hsucc
        have Hbad := Lib.hid hbad; clear hbad
        obtain ⟨p0, p1, p2, p3, p4, p5, p6, p7⟩ := p
        obtain ⟨q0, q1, q2, q3, q4, q5, q6, q7⟩ := q
        simp only at c00 c01 c02 c03 c04 c05 c06 c07 d00 d01 d02 d03 d04 d05 d06 d07 hq
        have hk0 : (0 : Int) ≤ (k : Int) := by omega
        have hk1 : (k : Int) < (l0.length : Int) := by omega
        have hk2 : (k : Int) < (l1.length : Int) := by omega
        have hd : decide ((k : Int) < (l0.length : Int)) = true := by simpa using hk1
        have lt2 := World.block_lt_of_cell? _ _ d00
        go_wp2_with fail
        have B1 := Lib.hid (Bel.out.alloc Bel.out.size (.cells #[.int .i64 p0, .int .i64 p1, .string p2, .string p3, .bool p4, .int .i64 p5, .int .i64 p6, .int .i64 p7] 54))
        have hN := Own.heap_new wr (.cells #[.int .i64 p0, .int .i64 p1, .string p2, .string p3, .bool p4, .int .i64 p5, .int .i64 p6, .int .i64 p7] 54)
        have hO : ∀ (a : Addr), a.block < wr.heap.size → (wr.alloc (.cells #[.int .i64 p0, .int .i64 p1, .string p2, .string p3, .bool p4, .int .i64 p5, .int .i64 p6, .int .i64 p7] 54)).cell? a = wr.cell? a := fun a hb => (((Below.refl wr.heap.size wr).alloc (Nat.le_refl _) _).cell (p := a) hb)
        generalize wr.alloc _ = W1 at *
        have g0 := Own.blk_cell hN 0
        have g1 := Own.blk_cell hN 1
        have g2 := Own.blk_cell hN 2
        have g3 := Own.blk_cell hN 3
        have g4 := Own.blk_cell hN 4
        have g5 := Own.blk_cell hN 5
        have g6 := Own.blk_cell hN 6
        have g7 := Own.blk_cell hN 7
        simp at g0 g1 g2 g3 g4 g5 g6 g7
        replace d00 := (hO _ lt2).trans d00
        replace d01 := (hO ⟨(ae.add (k * 8)).block, (ae.add (k * 8)).off + 1, none⟩ lt2).trans d01
        replace d02 := (hO ⟨(ae.add (k * 8)).block, (ae.add (k * 8)).off + 2, none⟩ lt2).trans d02
        replace d03 := (hO ⟨(ae.add (k * 8)).block, (ae.add (k * 8)).off + 3, none⟩ lt2).trans d03
        replace d04 := (hO ⟨(ae.add (k * 8)).block, (ae.add (k * 8)).off + 4, none⟩ lt2).trans d04
        replace d05 := (hO ⟨(ae.add (k * 8)).block, (ae.add (k * 8)).off + 5, none⟩ lt2).trans d05
        replace d06 := (hO ⟨(ae.add (k * 8)).block, (ae.add (k * 8)).off + 6, none⟩ lt2).trans d06
        replace d07 := (hO ⟨(ae.add (k * 8)).block, (ae.add (k * 8)).off + 7, none⟩ lt2).trans d07
        clear hN c00 c01 c02 c03 c04 c05 c06 c07 hO
        cases hb : eqR ⟨p0, p1, p2, p3, p4, p5, p6, p7⟩ ⟨q0, q1, q2, q3, q4, q5, q6, q7⟩ with
        | false =>
          rw [hb] at hq
          have hx := Hbad.out hb
          have Hx := Lib.hid hx; clear hx hb
          simp only [Bool.not_false] at hq
          go_quiet (fail)
          have B2 := Lib.hid (pw_below_drewN B1.out nq)
          generalize W1.drewN nq = W2 at *
          go_wp2
          go_ret
          exact ⟨by rw [Hx.out]; rfl, B2.out⟩
        | true =>
          rw [hb] at hq
          have hx : sameFrom l0 l1 (k + 1) = true := by rw [Hsucc.out, hb]
          have Hx := Lib.hid hx; clear hx hb
          simp only [Bool.not_true] at hq
          go_quiet (fail)
          have B2 := Lib.hid (pw_below_drewN B1.out nq)
          generalize W1.drewN nq = W2 at *
          go_wp2
          go_roundw
          case rel => exact ⟨k + 1, by omega, by go_num, Hx.out, B2.out⟩
          case measure => simp [intOf]; omega
      · have hd : decide ((k : Int) < (l0.length : Int)) = false := by simp; omega
        obtain rfl : k = l0.length := by omega
        go_wp2
        go_ret
        exact ⟨by rw [Hy.out]; rfl, Bel.out⟩
  · have hb : ((l0.length : Int) != (l1.length : Int)) = true := by rw [bne_iff_ne]; omega
    have hs : sameB l0 l1 = false := by unfold sameB; simp [he]
    rw [hs]
    clear he hs
    go_enter Try.func34, Try.ntmps34
    go_wp2
    go_ret
    exact ⟨rfl, Below.refl _ _⟩
end Go.Proofs.Ytakbgaiedenikaa.Sm
