/- record.Decode, by hand. -/
import Derived.Test.YtmkpdknlkblegaaRecd2
namespace Go.Proofs.Ytmkpdknlkblegaa.Rd
open Go.RowKit Go.Proofs.YtmkpdknlkblegaaW.PrintWords Go.Proofs.Ytmkpdknlkblegaa.PB
set_option maxRecDepth 100000
set_option linter.unusedSimpArgs false
set_option linter.unusedVariables false
def agR (r : S23) : Value := .agg #[.int .i64 r.f0, .int .i64 r.f1, .string r.f2, .string r.f3, .bool r.f4, .int .i64 r.f5, .int .i64 r.f6, .int .i64 r.f7]
theorem Rpost.none {g : Nat} {s : ByteArray} {w w' : World} {e : Ending} (h : Rpost g s w e w') (hd : decR s = none) : e = .returned (.tuple #[.agg zrec, .bool false]) ∧ ∀ B, B ≤ g → Below B w w' := by unfold Rpost at h; rw [hd] at h; exact h
theorem Rpost.some {g : Nat} {s : ByteArray} {w w' : World} {e : Ending} {r : S23} {c : Nat} (h : Rpost g s w e w') (hd : decR s = some (r, c)) : e = .returned (.tuple #[agR r, .bool true]) ∧ RB g s c w' ∧ ∀ B, B ≤ g → Below B w w' := by unfold Rpost at h; rw [hd] at h; exact h
theorem fill8 {o : Nat} {w : World} {v0 v1 v2 v3 v4 v5 v6 v7 : Value} {t : TypeId} (h : w.heap[o]? = some (.cells #[v0, v1, v2, v3, v4, v5, v6, v7] t (0, 0))) (u0 u1 u2 u3 u4 u5 u6 u7 : Value) : ((((((((w.setCell ⟨o, 0, none⟩ u0).setCell ⟨o, 1, none⟩ u1).setCell ⟨o, 2, none⟩ u2).setCell ⟨o, 3, none⟩ u3).setCell ⟨o, 4, none⟩ u4).setCell ⟨o, 5, none⟩ u5).setCell ⟨o, 6, none⟩ u6).setCell ⟨o, 7, none⟩ u7).heap[o]? = some (.cells #[u0, u1, u2, u3, u4, u5, u6, u7] t (0, 0)) := by
  have := Own.heap_set (i := 7) (Own.heap_set (i := 6) (Own.heap_set (i := 5) (Own.heap_set (i := 4) (Own.heap_set (i := 3) (Own.heap_set (i := 2) (Own.heap_set (i := 1) (Own.heap_set (i := 0) h u0) u1) u2) u3) u4) u5) u6) u7
  simpa using this
theorem below8 {B o : Nat} {W w : World} (h : Below B W w) (hb : B ≤ o) (u0 u1 u2 u3 u4 u5 u6 u7 : Value) : Below B W ((((((((w.setCell ⟨o, 0, none⟩ u0).setCell ⟨o, 1, none⟩ u1).setCell ⟨o, 2, none⟩ u2).setCell ⟨o, 3, none⟩ u3).setCell ⟨o, 4, none⟩ u4).setCell ⟨o, 5, none⟩ u5).setCell ⟨o, 6, none⟩ u6).setCell ⟨o, 7, none⟩ u7) :=
  ((((((((h.setCell (show B ≤ (⟨o, 0, none⟩ : Addr).block from hb) u0).setCell (show B ≤ (⟨o, 1, none⟩ : Addr).block from hb) u1).setCell (show B ≤ (⟨o, 2, none⟩ : Addr).block from hb) u2).setCell (show B ≤ (⟨o, 3, none⟩ : Addr).block from hb) u3).setCell (show B ≤ (⟨o, 4, none⟩ : Addr).block from hb) u4).setCell (show B ≤ (⟨o, 5, none⟩ : Addr).block from hb) u5).setCell (show B ≤ (⟨o, 6, none⟩ : Addr).block from hb) u6).setCell (show B ≤ (⟨o, 7, none⟩ : Addr).block from hb) u7)
set_option maxHeartbeats 4000000 in
theorem decode_none {s : ByteArray} (w : World) (hm : s.size ≤ 9223372036854775807) (hd : decR s = none) :
    Calls Try.prog 14 #[.string s] w fun e w' => e = .returned (.tuple #[.agg zrec, .int .i64 0, .int .i64 4]) ∧ Below w.heap.size w w' := by
  have Hd := Lib.hid hd; clear hd
  go_enter Try.func14, Try.ntmps14
  go_wp2_with fail
  have hb : RB (w.heap.size + 1) s 0 ((w.alloc (.cells zrec 23)).alloc (.cells #[.string s, .int .i64 0] 52)) := by
    have := Own.heap_new (w.alloc (.cells zrec 23)) (.cells #[.string s, .int .i64 0] 52)
    rwa [show (w.alloc (.cells zrec 23)).heap.size = w.heap.size + 1 by simp] at this
  have hz : ((w.alloc (.cells zrec 23)).alloc (.cells #[.string s, .int .i64 0] 52)).heap[w.heap.size]? = some (.cells zrec 23 (0, 0)) := (Own.heap_old _ _ (by simp)).trans (Own.heap_new w _)
  have hB : Below w.heap.size w ((w.alloc (.cells zrec 23)).alloc (.cells #[.string s, .int .i64 0] 52)) := ((Below.refl _ w).alloc (Nat.le_refl _) _).alloc (by simp) _
  have hsz : ((w.alloc (.cells zrec 23)).alloc (.cells #[.string s, .int .i64 0] 52)).heap.size = w.heap.size + 2 := by simp
  change Calls _ _ _ ((w.alloc (.cells zrec 23)).alloc (.cells #[.string s, .int .i64 0] 52)) _
  generalize (w.alloc (.cells zrec 23)).alloc (.cells #[.string s, .int .i64 0] 52) = W0 at *
  refine (record_any _ hb hm).mono ?_
  intro e w1 hp
  obtain ⟨rfl, hbel⟩ := hp.none Hd.out
  have hz1 := ((hbel (w.heap.size + 1) (Nat.le_refl _)).block w.heap.size (by omega)).trans hz
  have hB1 := Lib.hid (hB.trans (hbel w.heap.size (by omega)))
  have hs1 : w.heap.size < w1.heap.size := Own.blk_lt hz1
  clear hp hbel hz hb hB hsz
  have HZ := Lib.hid hz1; clear hz1
  unfold zrec
  go_upto_region 4 with (fail)
  have hz2 := (Own.heap_old w1 (.cells #[.int .i64 0, .int .i64 0, .string ⟨#[]⟩, .string ⟨#[]⟩, .bool false, .int .i64 0, .int .i64 0, .int .i64 0] 23) (Own.blk_lt HZ.out)).trans HZ.out
  have hB2 := hB1.out.alloc (o := .cells #[.int .i64 0, .int .i64 0, .string ⟨#[]⟩, .string ⟨#[]⟩, .bool false, .int .i64 0, .int .i64 0, .int .i64 0] 23) hB1.out.size
  generalize w1.alloc _ = W1 at *
  clear HZ hB1 hs1
  have HZ := Lib.hid hz2; clear hz2
  have hB1 := Lib.hid hB2; clear hB2
  obtain ⟨z0, z1, z2, z3, z4, z5, z6, z7⟩ := zcells HZ.out
  obtain ⟨f0, f1, f2, f3, f4, f5, f6, f7⟩ := ofrees HZ.out
  go_wp2
  clear z0 z1 z2 z3 z4 z5 z6 z7 f0 f1 f2 f3 f4 f5 f6 f7
  have hf := fill8 HZ.out (.int .i64 0) (.int .i64 0) (.string ⟨#[]⟩) (.string ⟨#[]⟩) (.bool false) (.int .i64 0) (.int .i64 0) (.int .i64 0)
  have hBf := below8 hB1.out (Nat.le_refl _) (.int .i64 0) (.int .i64 0) (.string ⟨#[]⟩) (.string ⟨#[]⟩) (.bool false) (.int .i64 0) (.int .i64 0) (.int .i64 0)
  generalize (((((((W1.setCell ⟨w.heap.size, 0, none⟩ (.int .i64 0)).setCell ⟨w.heap.size, 1, none⟩ _).setCell ⟨w.heap.size, 2, none⟩ _).setCell ⟨w.heap.size, 3, none⟩ _).setCell ⟨w.heap.size, 4, none⟩ _).setCell ⟨w.heap.size, 5, none⟩ _).setCell ⟨w.heap.size, 6, none⟩ _).setCell ⟨w.heap.size, 7, none⟩ _ = W2 at *
  clear hB1 HZ
  obtain ⟨y0, y1, y2, y3, y4, y5, y6, y7⟩ := ocells hf
  clear hf
  exact bodyPost_ret (v := .tuple #[.agg #[.int .i64 0, .int .i64 0, .string ⟨#[]⟩, .string ⟨#[]⟩, .bool false, .int .i64 0, .int .i64 0, .int .i64 0], .int .i64 0, .int .i64 4]) (by simp [results, Try.results14, go_sem, y0, y1, y2, y3, y4, y5, y6, y7]) rfl ⟨rfl, hBf⟩
set_option maxHeartbeats 4000000 in
theorem decode_some {s : ByteArray} {r : S23} {c : Nat} (w : World) (hm : s.size ≤ 9223372036854775807) (hd : decR s = some (r, c)) :
    Calls Try.prog 14 #[.string s] w fun e w' => e = .returned (.tuple #[agR r, .int .i64 (c : Int), .int .i64 0]) ∧ Below w.heap.size w w' := by
  have Hd := Lib.hid hd; clear hd
  go_enter Try.func14, Try.ntmps14
  go_wp2_with fail
  have hb : RB (w.heap.size + 1) s 0 ((w.alloc (.cells zrec 23)).alloc (.cells #[.string s, .int .i64 0] 52)) := by
    have := Own.heap_new (w.alloc (.cells zrec 23)) (.cells #[.string s, .int .i64 0] 52)
    rwa [show (w.alloc (.cells zrec 23)).heap.size = w.heap.size + 1 by simp] at this
  have hz : ((w.alloc (.cells zrec 23)).alloc (.cells #[.string s, .int .i64 0] 52)).heap[w.heap.size]? = some (.cells zrec 23 (0, 0)) := (Own.heap_old _ _ (by simp)).trans (Own.heap_new w _)
  have hB : Below w.heap.size w ((w.alloc (.cells zrec 23)).alloc (.cells #[.string s, .int .i64 0] 52)) := ((Below.refl _ w).alloc (Nat.le_refl _) _).alloc (by simp) _
  have hsz : ((w.alloc (.cells zrec 23)).alloc (.cells #[.string s, .int .i64 0] 52)).heap.size = w.heap.size + 2 := by simp
  change Calls _ _ _ ((w.alloc (.cells zrec 23)).alloc (.cells #[.string s, .int .i64 0] 52)) _
  generalize (w.alloc (.cells zrec 23)).alloc (.cells #[.string s, .int .i64 0] 52) = W0 at *
  refine (record_any _ hb hm).mono ?_
  intro e w1 hp
  obtain ⟨rfl, hrb, hbel⟩ := hp.some Hd.out
  have hz1 := ((hbel (w.heap.size + 1) (Nat.le_refl _)).block w.heap.size (by omega)).trans hz
  have hB1 := Lib.hid (hB.trans (hbel w.heap.size (by omega)))
  have hs1 : w.heap.size < w1.heap.size := Own.blk_lt hz1
  have hs2 : w.heap.size + 1 < w1.heap.size := Own.blk_lt hrb
  clear hp hbel hz hb hB hsz
  obtain ⟨z0, z1, z2, z3, z4, z5, z6, z7⟩ := zcells hz1
  obtain ⟨f0, f1, f2, f3, f4, f5, f6, f7⟩ := ofrees hz1
  have k0 : w1.cell? ⟨w.heap.size + 1, 0, none⟩ = some (.string s) := by rw [Own.blk_cell hrb]; rfl
  have k1 : w1.cell? ⟨w.heap.size + 1, 1, none⟩ = some (.int .i64 (c : Int)) := by rw [Own.blk_cell hrb]; rfl
  have na : ¬ w.heap.size = w1.heap.size := by omega
  have nb : ¬ w1.heap.size = w.heap.size := by omega
  have nc : ¬ w.heap.size + 1 = w1.heap.size := by omega
  have nd : ¬ w1.heap.size = w.heap.size + 1 := by omega
  have HZ := Lib.hid hz1; clear hz1
  have HR := Lib.hid hrb; clear hrb
  obtain ⟨r0, r1, r2, r3, r4, r5, r6, r7⟩ := r
  have Hd2 := Hd; clear Hd
  unfold agR
  simp only
  go_wp2_with fail
  have hx := Own.heap_new w1 (.cells #[.int .i64 r0, .int .i64 r1, .string r2, .string r3, .bool r4, .int .i64 r5, .int .i64 r6, .int .i64 r7] 23)
  have hz2 := (Own.heap_old w1 (.cells #[.int .i64 r0, .int .i64 r1, .string r2, .string r3, .bool r4, .int .i64 r5, .int .i64 r6, .int .i64 r7] 23) (Own.blk_lt HZ.out)).trans HZ.out
  have hr2 := (Own.heap_old w1 (.cells #[.int .i64 r0, .int .i64 r1, .string r2, .string r3, .bool r4, .int .i64 r5, .int .i64 r6, .int .i64 r7] 23) (Own.blk_lt HR.out)).trans HR.out
  have hB2 := hB1.out.alloc (o := .cells #[.int .i64 r0, .int .i64 r1, .string r2, .string r3, .bool r4, .int .i64 r5, .int .i64 r6, .int .i64 r7] 23) hB1.out.size
  clear z0 z1 z2 z3 z4 z5 z6 z7 f0 f1 f2 f3 f4 f5 f6 f7 k0 k1
  generalize w1.alloc _ = W2 at *
  generalize w1.heap.size = gx at *
  obtain ⟨z0, z1, z2, z3, z4, z5, z6, z7⟩ := ocells hx
  obtain ⟨f0, f1, f2, f3, f4, f5, f6, f7⟩ := ofrees hz2
  obtain ⟨y0, y1, y2, y3, y4, y5, y6, y7⟩ := zcells hz2
  have k0 : W2.cell? ⟨w.heap.size + 1, 0, none⟩ = some (.string s) := by rw [Own.blk_cell hr2]; rfl
  have k1 : W2.cell? ⟨w.heap.size + 1, 1, none⟩ = some (.int .i64 (c : Int)) := by rw [Own.blk_cell hr2]; rfl
  have HX := Lib.hid hx; have HZ2 := Lib.hid hz2; have HR2 := Lib.hid hr2; have HB2 := Lib.hid hB2
  clear hx hz2 hr2 hB2 HZ HR hB1
  go_region
  all_goals
    clear z0 z1 z2 z3 z4 z5 z6 z7 f0 f1 f2 f3 f4 f5 f6 f7 y0 y1 y2 y3 y4 y5 y6 y7 k0 k1
    have hf := fill8 HZ2.out (.int .i64 r0) (.int .i64 r1) (.string r2) (.string r3) (.bool r4) (.int .i64 r5) (.int .i64 r6) (.int .i64 r7)
    have hBf := below8 HB2.out (Nat.le_refl _) (.int .i64 r0) (.int .i64 r1) (.string r2) (.string r3) (.bool r4) (.int .i64 r5) (.int .i64 r6) (.int .i64 r7)
    generalize (((((((W2.setCell ⟨w.heap.size, 0, none⟩ (.int .i64 r0)).setCell ⟨w.heap.size, 1, none⟩ _).setCell ⟨w.heap.size, 2, none⟩ _).setCell ⟨w.heap.size, 3, none⟩ _).setCell ⟨w.heap.size, 4, none⟩ _).setCell ⟨w.heap.size, 5, none⟩ _).setCell ⟨w.heap.size, 6, none⟩ _).setCell ⟨w.heap.size, 7, none⟩ _ = W3 at *
    obtain ⟨y0, y1, y2, y3, y4, y5, y6, y7⟩ := ocells hf
    clear hf
    go_wp2
    exact bodyPost_ret (v := .tuple #[.agg #[.int .i64 r0, .int .i64 r1, .string r2, .string r3, .bool r4, .int .i64 r5, .int .i64 r6, .int .i64 r7], .int .i64 (c : Int), .int .i64 0]) (by simp [results, Try.results14, go_sem, y0, y1, y2, y3, y4, y5, y6, y7]) rfl ⟨rfl, by first | exact hBf.drew | exact hBf⟩
end Go.Proofs.Ytmkpdknlkblegaa.Rd
