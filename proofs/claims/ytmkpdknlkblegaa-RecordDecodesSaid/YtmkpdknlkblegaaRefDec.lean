/- weighlockref16.numbers, by hand. -/
import Derived.Test.YtmkpdknlkblegaaRefUn
import Derived.Test.YtmkpdknlkblegaaRecd3
import Derived.Deep.Cut
namespace Go.Proofs.Ytmkpdknlkblegaa.Rd
open Go.RowKit Go.Proofs.YtmkpdknlkblegaaW.PrintWords Go.Proofs.Ytmkpdknlkblegaa.PB
set_option maxRecDepth 100000
set_option linter.unusedSimpArgs false
set_option linter.unusedVariables false
def NumPost (s : ByteArray) (w : World) (e : Ending) (w' : World) : Prop :=
  Below w.heap.size w w' ∧ match numsTo s 6 with
  | none => ∃ c0 c1 c2 c3 c4 c5 : Int, e = .returned (.tuple #[.agg #[.int .i64 c0, .int .i64 c1, .int .i64 c2, .int .i64 c3, .int .i64 c4, .int .i64 c5], .int .i64 (-1)])
  | some (l, a) => e = .returned (.tuple #[.agg (arrC l), .int .i64 (a : Int)])
structure NS (o : Nat) (l : List Nat) (W w : World) : Prop where
  out : w.heap[o]? = some (.cells (arrC []) 57 (0, 0))
  arr : w.heap[o + 1]? = some (.cells (arrC l) 57 (0, 0))
  bel : Below o W w
theorem NS.below {o : Nat} {l : List Nat} {W w w1 : World} (h : NS o l W w) (hb : Below w.heap.size w w1) : NS o l W w1 := ⟨Own.blk_below h.out hb, Own.blk_below h.arr hb, h.bel.trans (hb.mono (Nat.le_of_lt (Own.blk_lt h.out)))⟩
theorem NS.put {o : Nat} {l : List Nat} {W w : World} (h : NS o l W w) (hl : l.length < 6) (v : Nat) : NS o (l ++ [v]) W (w.setCell ⟨o + 1, l.length, none⟩ (.int .i64 (v : Int))) :=
  ⟨(Own.heap_far _ _ _ (by simp)).trans h.out, by rw [arrC_snoc hl]; exact Own.heap_set h.arr _, h.bel.setCell (by simp) _⟩
theorem arr6 (l : List Nat) (h : l.length ≤ 6) : ∃ c0 c1 c2 c3 c4 c5 : Int, arrC l = #[.int .i64 c0, .int .i64 c1, .int .i64 c2, .int .i64 c3, .int .i64 c4, .int .i64 c5] := by
  have hs : (arrC l).size = 6 := by unfold arrC; simp; omega
  have h0 := arrC_get (l := l) (k := 0) (by omega) h
  have h1 := arrC_get (l := l) (k := 1) (by omega) h
  have h2 := arrC_get (l := l) (k := 2) (by omega) h
  have h3 := arrC_get (l := l) (k := 3) (by omega) h
  have h4 := arrC_get (l := l) (k := 4) (by omega) h
  have h5 := arrC_get (l := l) (k := 5) (by omega) h
  generalize arrC l = A at *
  obtain ⟨A⟩ := A
  rcases A with _ | ⟨a0, _ | ⟨a1, _ | ⟨a2, _ | ⟨a3, _ | ⟨a4, _ | ⟨a5, _ | ⟨a6, A⟩⟩⟩⟩⟩⟩⟩ <;> simp at hs h0 h1 h2 h3 h4 h5
  subst h0 h1 h2 h3 h4 h5
  exact ⟨_, _, _, _, _, _, rfl⟩
theorem cells6 {o : Nat} {w : World} {c0 c1 c2 c3 c4 c5 : Value} {t : TypeId} (h : w.heap[o]? = some (.cells #[c0, c1, c2, c3, c4, c5] t (0, 0))) : w.cell? ⟨o, 0, none⟩ = some c0 ∧ w.cell? ⟨o, 1, none⟩ = some c1 ∧ w.cell? ⟨o, 2, none⟩ = some c2 ∧ w.cell? ⟨o, 3, none⟩ = some c3 ∧ w.cell? ⟨o, 4, none⟩ = some c4 ∧ w.cell? ⟨o, 5, none⟩ = some c5 :=
  ⟨by rw [Own.blk_cell h]; rfl, by rw [Own.blk_cell h]; rfl, by rw [Own.blk_cell h]; rfl, by rw [Own.blk_cell h]; rfl, by rw [Own.blk_cell h]; rfl, by rw [Own.blk_cell h]; rfl⟩
theorem frees6 {o : Nat} {w : World} {c : Array Value} {t : TypeId} (h : w.heap[o]? = some (.cells c t (0, 0))) : w.frozen? ⟨o, 0, none⟩ = false ∧ w.frozen? ⟨o, 1, none⟩ = false ∧ w.frozen? ⟨o, 2, none⟩ = false ∧ w.frozen? ⟨o, 3, none⟩ = false ∧ w.frozen? ⟨o, 4, none⟩ = false ∧ w.frozen? ⟨o, 5, none⟩ = false :=
  ⟨Own.blk_free h 0, Own.blk_free h 1, Own.blk_free h 2, Own.blk_free h 3, Own.blk_free h 4, Own.blk_free h 5⟩
theorem fill6 {o : Nat} {w : World} {v0 v1 v2 v3 v4 v5 : Value} {t : TypeId} (h : w.heap[o]? = some (.cells #[v0, v1, v2, v3, v4, v5] t (0, 0))) (u0 u1 u2 u3 u4 u5 : Value) : ((((((w.setCell ⟨o, 0, none⟩ u0).setCell ⟨o, 1, none⟩ u1).setCell ⟨o, 2, none⟩ u2).setCell ⟨o, 3, none⟩ u3).setCell ⟨o, 4, none⟩ u4).setCell ⟨o, 5, none⟩ u5).heap[o]? = some (.cells #[u0, u1, u2, u3, u4, u5] t (0, 0)) := by
  have := Own.heap_set (i := 5) (Own.heap_set (i := 4) (Own.heap_set (i := 3) (Own.heap_set (i := 2) (Own.heap_set (i := 1) (Own.heap_set (i := 0) h u0) u1) u2) u3) u4) u5
  simpa using this
theorem below6 {B o : Nat} {W w : World} (h : Below B W w) (hb : B ≤ o) (u0 u1 u2 u3 u4 u5 : Value) : Below B W ((((((w.setCell ⟨o, 0, none⟩ u0).setCell ⟨o, 1, none⟩ u1).setCell ⟨o, 2, none⟩ u2).setCell ⟨o, 3, none⟩ u3).setCell ⟨o, 4, none⟩ u4).setCell ⟨o, 5, none⟩ u5) :=
  ((((((h.setCell (show B ≤ (⟨o, 0, none⟩ : Addr).block from hb) u0).setCell (show B ≤ (⟨o, 1, none⟩ : Addr).block from hb) u1).setCell (show B ≤ (⟨o, 2, none⟩ : Addr).block from hb) u2).setCell (show B ≤ (⟨o, 3, none⟩ : Addr).block from hb) u3).setCell (show B ≤ (⟨o, 4, none⟩ : Addr).block from hb) u4).setCell (show B ≤ (⟨o, 5, none⟩ : Addr).block from hb) u5)
set_option maxHeartbeats 4000000 in
theorem numbers_any {s : ByteArray} (w : World) (hm : s.size ≤ 9223372036854775807) :
    Calls Try.prog 29 #[.string s] w (NumPost s w) := by
  have hns : NS w.heap.size [] w ((w.alloc (.cells (arrC []) 57)).alloc (.cells (arrC []) 57)) := by
    have a0 := Own.heap_new w (.cells (arrC []) 57)
    have a1 := Own.heap_new (w.alloc (.cells (arrC []) 57)) (.cells (arrC []) 57)
    rw [show (w.alloc (.cells (arrC []) 57)).heap.size = w.heap.size + 1 by simp] at a1
    exact ⟨(Own.heap_old _ _ (Own.blk_lt a0)).trans a0, a1, ((Below.refl _ w).alloc (Nat.le_refl _) _).alloc (by simp) _⟩
  have HNS := Lib.hid hns; clear hns
  go_enter Try.func29, Try.ntmps29
  go_wp2_with fail
  go_loopw [9, 5] (fun x y wr => ∃ (k : Nat) (l : List Nat) (a : Nat), k ≤ 6 ∧ x = .int .i64 (k : Int) ∧ y = .int .i64 (a : Int) ∧ numsTo s k = some (l, a) ∧ NS w.heap.size l w wr) (fun x _ _ => 6 - (intOf x).toNat)
  case atStart => exact ⟨0, [], 0, by omega, rfl, rfl, rfl, HNS.out⟩
  case round =>
    obtain ⟨k, l, a, hk, rfl, rfl, hn, ns⟩ := hrel
    obtain ⟨hl, ha, hv⟩ := numsTo_le hn
    have Hn := Lib.hid hn; clear hn
    have Ns := Lib.hid ns; clear ns
    have Hv := Lib.hid hv; clear hv
    have Hl := Lib.hid hl; clear hl
    clear HNS
    have ha0 : (0 : Int) ≤ (a : Int) := by omega
    have ha1 : (a : Int) ≤ (s.size : Int) := by omega
    by_cases hlt : k < 6
    · have hk0 : (0 : Int) ≤ (k : Int) := by omega
      have hk1 : (k : Int) < 6 := by omega
      obtain ⟨kk, hkk⟩ := Ev.rounds (refUnchain_ev (s.extract a s.size))
      rw [cut_list] at hkk
      obtain ⟨u, hu⟩ : ∃ u, Own.unchain (s.data.toList.drop a) = u := ⟨_, rfl⟩
      rw [hu] at hkk
      obtain ⟨v, n, e⟩ := u
      have Hkk : Hid (weighlockref01_Unchain.f kk (s.extract a s.size) = some ((v : Int), (n : Int), (e : Int))) := hkk
      clear hkk
      have Hu := Lib.hid hu; clear hu
      go_wp2_with fail
      refine (weighlockref01_Unchain.calls kk _ _ _ _ _ Hkk.out).mono ?_
      rintro e2 w1 ⟨rfl, b1⟩
      have N1 := Lib.hid (Ns.out.below b1); clear b1
      go_upto_region 7 with (fail)
      have hG := Own.heap_new w1 (.cells #[.int .u64 (v : Int), .int .i64 (n : Int), .int .i64 (e : Int)] 71)
      have hN2 := N1.out.below ((Below.refl _ w1).alloc (Nat.le_refl _) (.cells #[.int .u64 (v : Int), .int .i64 (n : Int), .int .i64 (e : Int)] 71))
      have hgx : w.heap.size + 1 < w1.heap.size := Own.blk_lt N1.out.arr
      generalize w1.alloc _ = W2 at *
      generalize w1.heap.size = gx at *
      have g0 : W2.cell? ⟨gx, 0, none⟩ = some (.int .u64 (v : Int)) := by rw [Own.blk_cell hG]; rfl
      have g1 : W2.cell? ⟨gx, 1, none⟩ = some (.int .i64 (n : Int)) := by rw [Own.blk_cell hG]; rfl
      have g2 : W2.cell? ⟨gx, 2, none⟩ = some (.int .i64 (e : Int)) := by rw [Own.blk_cell hG]; rfl
      have N2 := Lib.hid hN2; clear hN2 N1 Ns
      have HG := Lib.hid hG; clear hG
      by_cases he : e = 0
      · subst he
        by_cases hv1 : v ≤ 1099511627776
        · have hv2 : ¬ (1099511627776 : Int) < (v : Int) := by omega
          have hnum : num s a = some (v, a + n) := by unfold num; rw [Hu.out]; simp [hv1]
          obtain ⟨hlt2, hle2, _⟩ := num_le ha hnum
          have hnx : numsTo s (k + 1) = some (l ++ [v], a + n) := by rw [numsTo, Hn.out]; simp only; rw [hnum]
          have Hnx := Lib.hid hnx; clear hnx hnum
          have hc : W2.cell? ⟨w.heap.size + 1, k, none⟩ = some (.int .i64 ((l.getD k 0 : Nat) : Int)) := by rw [Own.blk_cell N2.out.arr]; exact arrC_get hlt (by have := Hl.out; omega)
          have hf := Own.blk_free N2.out.arr k
          have R2 := N2.out.put (by have := Hl.out; omega) v
          rw [Hl.out] at R2
          have HR2 := Lib.hid R2; clear R2
          generalize ((l.getD k 0 : Nat) : Int) = c0 at hc
          have hw : IntKind.i64.wrap (v : Int) = v := IntWalk.i64_in _ (by omega)
          have na : ¬ w.heap.size + 1 = gx := by omega
          have nb : ¬ gx = w.heap.size + 1 := by omega
          go_wp2
          go_roundw
          case rel => exact ⟨k + 1, l ++ [v], a + n, by omega, by go_num, by go_num, Hnx.out, HR2.out⟩
          case measure => simp [intOf]; omega
        · have hv2 : (1099511627776 : Int) < (v : Int) := by omega
          have hnone : numsTo s 6 = none := by
            have h1 : num s a = none := by
              unfold num
              rw [Hu.out]
              simp only
              rw [if_neg (by omega)]
            exact numsTo_none (k := k + 1) (by rw [numsTo, Hn.out]; simp only; rw [h1]) (by omega)
          have Hnone := Lib.hid hnone; clear hnone
          obtain ⟨c0, c1, c2, c3, c4, c5, hc⟩ := arr6 l (by have := Hl.out; omega)
          have harr := N2.out.arr
          rw [hc] at harr
          obtain ⟨x0, x1, x2, x3, x4, x5⟩ := cells6 harr
          obtain ⟨z0, z1, z2, z3, z4, z5⟩ := cells6 (show W2.heap[w.heap.size]? = some (.cells #[.int .i64 0, .int .i64 0, .int .i64 0, .int .i64 0, .int .i64 0, .int .i64 0] 57 (0, 0)) from N2.out.out)
          obtain ⟨f0, f1, f2, f3, f4, f5⟩ := frees6 N2.out.out
          clear harr hc
          go_wp2
          clear x0 x1 x2 x3 x4 x5 z0 z1 z2 z3 z4 z5 f0 f1 f2 f3 f4 f5
          have hf := fill6 (show W2.heap[w.heap.size]? = some (.cells #[.int .i64 0, .int .i64 0, .int .i64 0, .int .i64 0, .int .i64 0, .int .i64 0] 57 (0, 0)) from N2.out.out) (.int .i64 c0) (.int .i64 c1) (.int .i64 c2) (.int .i64 c3) (.int .i64 c4) (.int .i64 c5)
          have hBf := below6 N2.out.bel (Nat.le_refl _) (.int .i64 c0) (.int .i64 c1) (.int .i64 c2) (.int .i64 c3) (.int .i64 c4) (.int .i64 c5)
          generalize (((((W2.setCell ⟨w.heap.size, 0, none⟩ (.int .i64 c0)).setCell ⟨w.heap.size, 1, none⟩ _).setCell ⟨w.heap.size, 2, none⟩ _).setCell ⟨w.heap.size, 3, none⟩ _).setCell ⟨w.heap.size, 4, none⟩ _).setCell ⟨w.heap.size, 5, none⟩ _ = W3 at *
          obtain ⟨y0, y1, y2, y3, y4, y5⟩ := cells6 hf
          clear hf
          refine bodyPost_ret (v := .tuple #[.agg #[.int .i64 c0, .int .i64 c1, .int .i64 c2, .int .i64 c3, .int .i64 c4, .int .i64 c5], .int .i64 (-1)]) ?_ rfl ?_
          · simp [results, Try.results29, go_sem, y0, y1, y2, y3, y4, y5]
          · unfold NumPost
            exact ⟨hBf, by rw [Hnone.out]; exact ⟨_, _, _, _, _, _, rfl⟩⟩
      · have h1 : ((e : Int) == 0) = false := by rw [beq_eq_false_iff_ne]; omega
        have h2 : ((e : Int) != 0) = true := by rw [bne_iff_ne]; omega
        have hnone : numsTo s 6 = none := by
          have h1 : num s a = none := by
            unfold num
            rw [Hu.out]
            simp only
            rw [if_neg (by omega)]
          exact numsTo_none (k := k + 1) (by rw [numsTo, Hn.out]; simp only; rw [h1]) (by omega)
        have Hnone := Lib.hid hnone; clear hnone
        obtain ⟨c0, c1, c2, c3, c4, c5, hc⟩ := arr6 l (by have := Hl.out; omega)
        have harr := N2.out.arr
        rw [hc] at harr
        obtain ⟨x0, x1, x2, x3, x4, x5⟩ := cells6 harr
        obtain ⟨z0, z1, z2, z3, z4, z5⟩ := cells6 (show W2.heap[w.heap.size]? = some (.cells #[.int .i64 0, .int .i64 0, .int .i64 0, .int .i64 0, .int .i64 0, .int .i64 0] 57 (0, 0)) from N2.out.out)
        obtain ⟨f0, f1, f2, f3, f4, f5⟩ := frees6 N2.out.out
        clear harr hc
        go_wp2
        clear x0 x1 x2 x3 x4 x5 z0 z1 z2 z3 z4 z5 f0 f1 f2 f3 f4 f5
        have hf := fill6 (show W2.heap[w.heap.size]? = some (.cells #[.int .i64 0, .int .i64 0, .int .i64 0, .int .i64 0, .int .i64 0, .int .i64 0] 57 (0, 0)) from N2.out.out) (.int .i64 c0) (.int .i64 c1) (.int .i64 c2) (.int .i64 c3) (.int .i64 c4) (.int .i64 c5)
        have hBf := below6 N2.out.bel (Nat.le_refl _) (.int .i64 c0) (.int .i64 c1) (.int .i64 c2) (.int .i64 c3) (.int .i64 c4) (.int .i64 c5)
        generalize (((((W2.setCell ⟨w.heap.size, 0, none⟩ (.int .i64 c0)).setCell ⟨w.heap.size, 1, none⟩ _).setCell ⟨w.heap.size, 2, none⟩ _).setCell ⟨w.heap.size, 3, none⟩ _).setCell ⟨w.heap.size, 4, none⟩ _).setCell ⟨w.heap.size, 5, none⟩ _ = W3 at *
        obtain ⟨y0, y1, y2, y3, y4, y5⟩ := cells6 hf
        clear hf
        refine bodyPost_ret (v := .tuple #[.agg #[.int .i64 c0, .int .i64 c1, .int .i64 c2, .int .i64 c3, .int .i64 c4, .int .i64 c5], .int .i64 (-1)]) ?_ rfl ?_
        · simp [results, Try.results29, go_sem, y0, y1, y2, y3, y4, y5]
        · unfold NumPost
          exact ⟨hBf, by rw [Hnone.out]; exact ⟨_, _, _, _, _, _, rfl⟩⟩
    · obtain rfl : k = 6 := by omega
      have hd : decide (((6 : Nat) : Int) < 6) = false := by decide
      obtain ⟨c0, c1, c2, c3, c4, c5, hc⟩ := arr6 l (by have := Hl.out; omega)
      have harr := Ns.out.arr
      rw [hc] at harr
      obtain ⟨x0, x1, x2, x3, x4, x5⟩ := cells6 harr
      obtain ⟨z0, z1, z2, z3, z4, z5⟩ := cells6 (show wr.heap[w.heap.size]? = some (.cells #[.int .i64 0, .int .i64 0, .int .i64 0, .int .i64 0, .int .i64 0, .int .i64 0] 57 (0, 0)) from Ns.out.out)
      obtain ⟨f0, f1, f2, f3, f4, f5⟩ := frees6 Ns.out.out
      have Hc := Lib.hid hc
      clear harr hc
      go_wp2
      clear x0 x1 x2 x3 x4 x5 z0 z1 z2 z3 z4 z5 f0 f1 f2 f3 f4 f5
      have hf := fill6 (show wr.heap[w.heap.size]? = some (.cells #[.int .i64 0, .int .i64 0, .int .i64 0, .int .i64 0, .int .i64 0, .int .i64 0] 57 (0, 0)) from Ns.out.out) (.int .i64 c0) (.int .i64 c1) (.int .i64 c2) (.int .i64 c3) (.int .i64 c4) (.int .i64 c5)
      have hBf := below6 Ns.out.bel (Nat.le_refl _) (.int .i64 c0) (.int .i64 c1) (.int .i64 c2) (.int .i64 c3) (.int .i64 c4) (.int .i64 c5)
      generalize (((((wr.setCell ⟨w.heap.size, 0, none⟩ (.int .i64 c0)).setCell ⟨w.heap.size, 1, none⟩ _).setCell ⟨w.heap.size, 2, none⟩ _).setCell ⟨w.heap.size, 3, none⟩ _).setCell ⟨w.heap.size, 4, none⟩ _).setCell ⟨w.heap.size, 5, none⟩ _ = W3 at *
      obtain ⟨y0, y1, y2, y3, y4, y5⟩ := cells6 hf
      clear hf
      refine bodyPost_ret (v := .tuple #[.agg #[.int .i64 c0, .int .i64 c1, .int .i64 c2, .int .i64 c3, .int .i64 c4, .int .i64 c5], .int .i64 (a : Int)]) ?_ rfl ?_
      · simp [results, Try.results29, go_sem, y0, y1, y2, y3, y4, y5]
      · unfold NumPost
        exact ⟨hBf, by rw [Hn.out]; simp only; rw [Hc.out]⟩
end Go.Proofs.Ytmkpdknlkblegaa.Rd
