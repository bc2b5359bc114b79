/- weighlockref16.Decode, by hand. -/
import Derived.Test.YtmkpdknlkblegaaRefDec
import Derived.Test.YtmkpdknlkblegaaRdr
namespace Go.Proofs.Ytmkpdknlkblegaa.Rd
open Go.RowKit Go.Proofs.YtmkpdknlkblegaaW.PrintWords Go.Proofs.Ytmkpdknlkblegaa.PB
set_option maxRecDepth 100000
set_option linter.unusedSimpArgs false
set_option linter.unusedVariables false
def zgot : Array Value := #[.int .i64 0, .int .i64 0, .string ⟨#[]⟩, .string ⟨#[]⟩, .bool false, .int .i64 0, .int .i64 0, .int .i64 0, .int .i64 0, .bool false]
theorem fill10 {o : Nat} {w : World} {v0 v1 v2 v3 v4 v5 v6 v7 v8 v9 : Value} {t : TypeId} (h : w.heap[o]? = some (.cells #[v0, v1, v2, v3, v4, v5, v6, v7, v8, v9] t (0, 0))) (u0 u1 u2 u3 u4 u5 u6 u7 u8 u9 : Value) : ((((((((((w.setCell ⟨o, 0, none⟩ u0).setCell ⟨o, 1, none⟩ u1).setCell ⟨o, 2, none⟩ u2).setCell ⟨o, 3, none⟩ u3).setCell ⟨o, 4, none⟩ u4).setCell ⟨o, 5, none⟩ u5).setCell ⟨o, 6, none⟩ u6).setCell ⟨o, 7, none⟩ u7).setCell ⟨o, 8, none⟩ u8).setCell ⟨o, 9, none⟩ u9).heap[o]? = some (.cells #[u0, u1, u2, u3, u4, u5, u6, u7, u8, u9] t (0, 0)) := by
  have := (Own.heap_set (i := 9) (Own.heap_set (i := 8) (Own.heap_set (i := 7) (Own.heap_set (i := 6) (Own.heap_set (i := 5) (Own.heap_set (i := 4) (Own.heap_set (i := 3) (Own.heap_set (i := 2) (Own.heap_set (i := 1) (Own.heap_set (i := 0) h u0) u1) u2) u3) u4) u5) u6) u7) u8) u9)
  simpa using this
theorem below10 {B o : Nat} {W w : World} (h : Below B W w) (hb : B ≤ o) (u0 u1 u2 u3 u4 u5 u6 u7 u8 u9 : Value) : Below B W ((((((((((w.setCell ⟨o, 0, none⟩ u0).setCell ⟨o, 1, none⟩ u1).setCell ⟨o, 2, none⟩ u2).setCell ⟨o, 3, none⟩ u3).setCell ⟨o, 4, none⟩ u4).setCell ⟨o, 5, none⟩ u5).setCell ⟨o, 6, none⟩ u6).setCell ⟨o, 7, none⟩ u7).setCell ⟨o, 8, none⟩ u8).setCell ⟨o, 9, none⟩ u9) :=
  ((((((((((h.setCell (show B ≤ (⟨o, 0, none⟩ : Addr).block from hb) u0).setCell (show B ≤ (⟨o, 1, none⟩ : Addr).block from hb) u1).setCell (show B ≤ (⟨o, 2, none⟩ : Addr).block from hb) u2).setCell (show B ≤ (⟨o, 3, none⟩ : Addr).block from hb) u3).setCell (show B ≤ (⟨o, 4, none⟩ : Addr).block from hb) u4).setCell (show B ≤ (⟨o, 5, none⟩ : Addr).block from hb) u5).setCell (show B ≤ (⟨o, 6, none⟩ : Addr).block from hb) u6).setCell (show B ≤ (⟨o, 7, none⟩ : Addr).block from hb) u7).setCell (show B ≤ (⟨o, 8, none⟩ : Addr).block from hb) u8).setCell (show B ≤ (⟨o, 9, none⟩ : Addr).block from hb) u9)
theorem cells10 {o : Nat} {w : World} {v0 v1 v2 v3 v4 v5 v6 v7 v8 v9 : Value} {t : TypeId} (h : w.heap[o]? = some (.cells #[v0, v1, v2, v3, v4, v5, v6, v7, v8, v9] t (0, 0))) : w.cell? ⟨o, 0, none⟩ = some v0 ∧ w.cell? ⟨o, 1, none⟩ = some v1 ∧ w.cell? ⟨o, 2, none⟩ = some v2 ∧ w.cell? ⟨o, 3, none⟩ = some v3 ∧ w.cell? ⟨o, 4, none⟩ = some v4 ∧ w.cell? ⟨o, 5, none⟩ = some v5 ∧ w.cell? ⟨o, 6, none⟩ = some v6 ∧ w.cell? ⟨o, 7, none⟩ = some v7 ∧ w.cell? ⟨o, 8, none⟩ = some v8 ∧ w.cell? ⟨o, 9, none⟩ = some v9 :=
  ⟨by rw [Own.blk_cell h]; rfl, by rw [Own.blk_cell h]; rfl, by rw [Own.blk_cell h]; rfl, by rw [Own.blk_cell h]; rfl, by rw [Own.blk_cell h]; rfl, by rw [Own.blk_cell h]; rfl, by rw [Own.blk_cell h]; rfl, by rw [Own.blk_cell h]; rfl, by rw [Own.blk_cell h]; rfl, by rw [Own.blk_cell h]; rfl⟩
theorem frees10 {o : Nat} {w : World} {c : Array Value} {t : TypeId} (h : w.heap[o]? = some (.cells c t (0, 0))) : w.frozen? ⟨o, 0, none⟩ = false ∧ w.frozen? ⟨o, 1, none⟩ = false ∧ w.frozen? ⟨o, 2, none⟩ = false ∧ w.frozen? ⟨o, 3, none⟩ = false ∧ w.frozen? ⟨o, 4, none⟩ = false ∧ w.frozen? ⟨o, 5, none⟩ = false ∧ w.frozen? ⟨o, 6, none⟩ = false ∧ w.frozen? ⟨o, 7, none⟩ = false ∧ w.frozen? ⟨o, 8, none⟩ = false ∧ w.frozen? ⟨o, 9, none⟩ = false :=
  ⟨Own.blk_free h 0, Own.blk_free h 1, Own.blk_free h 2, Own.blk_free h 3, Own.blk_free h 4, Own.blk_free h 5, Own.blk_free h 6, Own.blk_free h 7, Own.blk_free h 8, Own.blk_free h 9⟩
structure DS (o : Nat) (W w : World) : Prop where
  out : w.heap[o]? = some (.cells zgot 35 (0, 0))
  bel : Below o W w
theorem DS.below {o : Nat} {W w w1 : World} (h : DS o W w) (hb : Below w.heap.size w w1) : DS o W w1 := ⟨Own.blk_below h.out hb, h.bel.trans (hb.mono (Nat.le_of_lt (Own.blk_lt h.out)))⟩
def gotV : Option (S23 × Nat) → Value
  | none => .agg zgot
  | some (r, c) => .agg #[.int .i64 r.f0, .int .i64 r.f1, .string r.f2, .string r.f3, .bool r.f4, .int .i64 r.f5, .int .i64 r.f6, .int .i64 r.f7, .int .i64 (c : Int), .bool true]
def GPost (s : ByteArray) (w : World) (e : Ending) (w' : World) : Prop := e = .returned (gotV (decR s)) ∧ Below w.heap.size w w'
set_option maxHeartbeats 8000000 in
theorem refdec_any {s : ByteArray} (w : World) (hm : s.size ≤ 9223372036854775807) :
    Calls Try.prog 16 #[.string s] w (GPost s w) := by
  have hds : DS w.heap.size w (w.alloc (.cells zgot 35)) := ⟨Own.heap_new w _, (Below.refl _ w).alloc (Nat.le_refl _) _⟩
  have D0 := Lib.hid hds; clear hds
  go_enter Try.func16, Try.ntmps16
  go_wp2_with fail
  refine (numbers_any _ hm).mono ?_
  rintro e w1 ⟨b1, hp⟩
  have D1 := Lib.hid (D0.out.below b1); clear b1 D0
  cases hn : numsTo s 6 with
  | none =>
    rw [hn] at hp
    obtain ⟨c0, c1, c2, c3, c4, c5, rfl⟩ := hp
    have Hd : Hid (decR s = none) := by show decR s = none; unfold decR; rw [hn]
    clear hn
    go_upto_region 3 with (fail)
    have hD2 := D1.out.below ((Below.refl _ w1).alloc (Nat.le_refl _) (.cells #[.int .i64 c0, .int .i64 c1, .int .i64 c2, .int .i64 c3, .int .i64 c4, .int .i64 c5] 57))
    generalize w1.alloc _ = W2 at *
    have D2 := Lib.hid hD2; clear hD2 D1
    obtain ⟨y0, y1, y2, y3, y4, y5, y6, y7, y8, y9⟩ := cells10 (show W2.heap[w.heap.size]? = some (.cells #[.int .i64 0, .int .i64 0, .string ⟨#[]⟩, .string ⟨#[]⟩, .bool false, .int .i64 0, .int .i64 0, .int .i64 0, .int .i64 0, .bool false] 35 (0, 0)) from D2.out.out)
    obtain ⟨f0, f1, f2, f3, f4, f5, f6, f7, f8, f9⟩ := frees10 D2.out.out
    go_wp2
    clear y0 y1 y2 y3 y4 y5 y6 y7 y8 y9 f0 f1 f2 f3 f4 f5 f6 f7 f8 f9
    have hf := fill10 (show W2.heap[w.heap.size]? = some (.cells #[.int .i64 0, .int .i64 0, .string ⟨#[]⟩, .string ⟨#[]⟩, .bool false, .int .i64 0, .int .i64 0, .int .i64 0, .int .i64 0, .bool false] 35 (0, 0)) from D2.out.out) (.int .i64 0) (.int .i64 0) (.string ⟨#[]⟩) (.string ⟨#[]⟩) (.bool false) (.int .i64 0) (.int .i64 0) (.int .i64 0) (.int .i64 0) (.bool false)
    have hBf := below10 D2.out.bel (Nat.le_refl _) (.int .i64 0) (.int .i64 0) (.string ⟨#[]⟩) (.string ⟨#[]⟩) (.bool false) (.int .i64 0) (.int .i64 0) (.int .i64 0) (.int .i64 0) (.bool false)
    generalize (((((((((W2.setCell ⟨w.heap.size, 0, none⟩ _).setCell ⟨w.heap.size, 1, none⟩ _).setCell ⟨w.heap.size, 2, none⟩ _).setCell ⟨w.heap.size, 3, none⟩ _).setCell ⟨w.heap.size, 4, none⟩ _).setCell ⟨w.heap.size, 5, none⟩ _).setCell ⟨w.heap.size, 6, none⟩ _).setCell ⟨w.heap.size, 7, none⟩ _).setCell ⟨w.heap.size, 8, none⟩ _).setCell ⟨w.heap.size, 9, none⟩ _ = WF at *
    obtain ⟨y0, y1, y2, y3, y4, y5, y6, y7, y8, y9⟩ := cells10 hf
    clear hf
    refine bodyPost_ret (v := .agg #[.int .i64 0, .int .i64 0, .string ⟨#[]⟩, .string ⟨#[]⟩, .bool false, .int .i64 0, .int .i64 0, .int .i64 0, .int .i64 0, .bool false]) ?_ rfl ?_
    · simp [results, Try.results16, go_sem, y0, y1, y2, y3, y4, y5, y6, y7, y8, y9]
    · unfold GPost; rw [Hd.out]; exact ⟨rfl, hBf⟩
  | some p =>
    obtain ⟨l, a⟩ := p
    rw [hn] at hp
    obtain ⟨hl, ha, hv⟩ := numsTo_le hn
    obtain ⟨a0, a1, a2, a3, a4, a5, rfl⟩ := list6 hl
    have hp2 : e = .returned (.tuple #[.agg #[.int .i64 (a0 : Int), .int .i64 (a1 : Int), .int .i64 (a2 : Int), .int .i64 (a3 : Int), .int .i64 (a4 : Int), .int .i64 (a5 : Int)], .int .i64 (a : Int)]) := hp
    subst hp2
    clear hp hl hv
    have Hn := Lib.hid hn; clear hn
    have ha0 : ¬ (a : Int) < 0 := by omega
    have ha1 : (0 : Int) ≤ (a : Int) := by omega
    have ha2 : (a : Int) ≤ (s.size : Int) := by omega
    by_cases h5 : a5 ≤ 1
    · have h5' : ¬ (1 : Int) < (a5 : Int) := by omega
      go_wp2_with fail
      have hD2 := D1.out.below ((Below.refl _ w1).alloc (Nat.le_refl _) (.cells #[.int .i64 (a0 : Int), .int .i64 (a1 : Int), .int .i64 (a2 : Int), .int .i64 (a3 : Int), .int .i64 (a4 : Int), .int .i64 (a5 : Int)] 57))
      have hN2 := Own.heap_new w1 (.cells #[.int .i64 (a0 : Int), .int .i64 (a1 : Int), .int .i64 (a2 : Int), .int .i64 (a3 : Int), .int .i64 (a4 : Int), .int .i64 (a5 : Int)] 57)
      have lt2 : w.heap.size < w1.heap.size := Own.blk_lt D1.out.out
      generalize w1.alloc _ = W2 at *
      generalize w1.heap.size = gn at *
      have D2 := Lib.hid hD2; clear hD2 D1
      have N2 := Lib.hid hN2; clear hN2
      cases ht1 : txt s a with
      | none =>
        have Hd : Hid (decR s = none) := decR_txt1 Hn.out ht1
        obtain ⟨e3, hu, he3⟩ := txt_none ha ht1
        obtain ⟨k1, hk1⟩ := Ev.rounds (refUntext_ev (s.extract a s.size) (by rw [cut_size]; omega))
        rw [hu] at hk1
        have Hk1 := Lib.hid hk1; clear hk1 hu ht1
        have q1 : ((e3 : Int) == 0) = false := by rw [beq_eq_false_iff_ne]; exact he3
        have q2 : ((e3 : Int) != 0) = true := by rw [bne_iff_ne]; exact he3
        refine (weighlockref01_Untext.calls k1 _ _ _ _ _ Hk1.out).mono ?_
        rintro e w3 ⟨rfl, b3⟩
        have D3 := Lib.hid (D2.out.below b3); clear b3 D2 N2
        go_upto_region 6 with (fail)
        have hD4 := D3.out.below ((Below.refl _ w3).alloc (Nat.le_refl _) (.cells #[.string ⟨#[]⟩, .int .i64 0, .int .i64 e3] 61))
        generalize w3.alloc _ = W4 at *
        have D4 := Lib.hid hD4; clear hD4 D3
        obtain ⟨y0, y1, y2, y3, y4, y5, y6, y7, y8, y9⟩ := cells10 (show W4.heap[w.heap.size]? = some (.cells #[.int .i64 0, .int .i64 0, .string ⟨#[]⟩, .string ⟨#[]⟩, .bool false, .int .i64 0, .int .i64 0, .int .i64 0, .int .i64 0, .bool false] 35 (0, 0)) from D4.out.out)
        obtain ⟨f0, f1, f2, f3, f4, f5, f6, f7, f8, f9⟩ := frees10 D4.out.out
        go_wp2
        clear y0 y1 y2 y3 y4 y5 y6 y7 y8 y9 f0 f1 f2 f3 f4 f5 f6 f7 f8 f9
        have hf := fill10 (show W4.heap[w.heap.size]? = some (.cells #[.int .i64 0, .int .i64 0, .string ⟨#[]⟩, .string ⟨#[]⟩, .bool false, .int .i64 0, .int .i64 0, .int .i64 0, .int .i64 0, .bool false] 35 (0, 0)) from D4.out.out) (.int .i64 0) (.int .i64 0) (.string ⟨#[]⟩) (.string ⟨#[]⟩) (.bool false) (.int .i64 0) (.int .i64 0) (.int .i64 0) (.int .i64 0) (.bool false)
        have hBf := below10 D4.out.bel (Nat.le_refl _) (.int .i64 0) (.int .i64 0) (.string ⟨#[]⟩) (.string ⟨#[]⟩) (.bool false) (.int .i64 0) (.int .i64 0) (.int .i64 0) (.int .i64 0) (.bool false)
        generalize (((((((((W4.setCell ⟨w.heap.size, 0, none⟩ _).setCell ⟨w.heap.size, 1, none⟩ _).setCell ⟨w.heap.size, 2, none⟩ _).setCell ⟨w.heap.size, 3, none⟩ _).setCell ⟨w.heap.size, 4, none⟩ _).setCell ⟨w.heap.size, 5, none⟩ _).setCell ⟨w.heap.size, 6, none⟩ _).setCell ⟨w.heap.size, 7, none⟩ _).setCell ⟨w.heap.size, 8, none⟩ _).setCell ⟨w.heap.size, 9, none⟩ _ = WF at *
        obtain ⟨y0, y1, y2, y3, y4, y5, y6, y7, y8, y9⟩ := cells10 hf
        clear hf
        refine bodyPost_ret (v := .agg #[.int .i64 0, .int .i64 0, .string ⟨#[]⟩, .string ⟨#[]⟩, .bool false, .int .i64 0, .int .i64 0, .int .i64 0, .int .i64 0, .bool false]) ?_ rfl ?_
        · simp [results, Try.results16, go_sem, y0, y1, y2, y3, y4, y5, y6, y7, y8, y9]
        · unfold GPost; rw [Hd.out]; exact ⟨rfl, hBf⟩
      | some q =>
        obtain ⟨key, b⟩ := q
        obtain ⟨hu, hab, hbs⟩ := txt_some ha ht1
        have Ht1 := Lib.hid ht1; clear ht1
        obtain ⟨k1, hk1⟩ := Ev.rounds (refUntext_ev (s.extract a s.size) (by rw [cut_size]; omega))
        rw [hu] at hk1
        have Hk1 := Lib.hid hk1; clear hk1 hu
        obtain ⟨d, hd⟩ : ∃ d, (b : Int) - (a : Int) = d := ⟨_, rfl⟩
        rw [hd] at Hk1
        have hw1 : IntKind.i64.wrap ((a : Int) + d) = (b : Int) := by rw [show (a : Int) + d = b by omega]; exact IntWalk.i64_in _ (by omega)
        have hw2 : wrap64 ((a : Int) + d) = (b : Int) := by rw [show (a : Int) + d = b by omega]; exact Pu.wrap_id (by omega) (by omega)
        have hd0 : 0 ≤ d := by omega
        have hd1 : d ≤ 9223372036854775807 := by omega
        have hb1 : (0 : Int) ≤ (b : Int) := by omega
        have hb2 : (b : Int) ≤ (s.size : Int) := by omega
        have Hd0 := Lib.hid hd; clear hd
        refine (weighlockref01_Untext.calls k1 _ _ _ _ _ Hk1.out).mono ?_
        rintro e w3 ⟨rfl, b3⟩
        have D3 := Lib.hid (D2.out.below b3)
        have N3 := Lib.hid (Own.blk_below N2.out b3)
        have lt3 : gn < w3.heap.size := Own.blk_lt N3.out
        clear b3 D2 N2
        go_upto_region 7 with (fail)
        have hD4 := D3.out.below ((Below.refl _ w3).alloc (Nat.le_refl _) (.cells #[.string key, .int .i64 d, .int .i64 0] 61))
        have hN4 := (Own.heap_old w3 (.cells #[.string key, .int .i64 d, .int .i64 0] 61) (Own.blk_lt N3.out)).trans N3.out
        have hK4 := Own.heap_new w3 (.cells #[.string key, .int .i64 d, .int .i64 0] 61)
        generalize w3.alloc _ = W4 at *
        generalize w3.heap.size = gk at *
        have D4 := Lib.hid hD4; clear hD4 D3
        have N4 := Lib.hid hN4; clear hN4 N3
        have k0 : W4.cell? ⟨gk, 0, none⟩ = some (.string key) := by rw [Own.blk_cell hK4]; rfl
        have k1c : W4.cell? ⟨gk, 1, none⟩ = some (.int .i64 d) := by rw [Own.blk_cell hK4]; rfl
        have K4 := Lib.hid hK4; clear hK4
        go_wp2_with fail
        cases ht2 : txt s b with
        | none =>
          have Hd : Hid (decR s = none) := decR_txt2 Hn.out Ht1.out ht2
          obtain ⟨e3, hu, he3⟩ := txt_none hbs ht2
          obtain ⟨k2, hk2⟩ := Ev.rounds (refUntext_ev (s.extract b s.size) (by rw [cut_size]; omega))
          rw [hu] at hk2
          have Hk2 := Lib.hid hk2; clear hk2 hu ht2
          have q1 : ((e3 : Int) == 0) = false := by rw [beq_eq_false_iff_ne]; exact he3
          have q2 : ((e3 : Int) != 0) = true := by rw [bne_iff_ne]; exact he3
          refine (weighlockref01_Untext.calls k2 _ _ _ _ _ Hk2.out).mono ?_
          rintro e w5 ⟨rfl, b5⟩
          have D5 := Lib.hid (D4.out.below b5); clear b5 D4 N4 K4 k0 k1c
          go_upto_region 9 with (fail)
          have hD6 := D5.out.below ((Below.refl _ w5).alloc (Nat.le_refl _) (.cells #[.string ⟨#[]⟩, .int .i64 0, .int .i64 e3] 61))
          generalize w5.alloc _ = W6 at *
          have D6 := Lib.hid hD6; clear hD6 D5
          obtain ⟨y0, y1, y2, y3, y4, y5, y6, y7, y8, y9⟩ := cells10 (show W6.heap[w.heap.size]? = some (.cells #[.int .i64 0, .int .i64 0, .string ⟨#[]⟩, .string ⟨#[]⟩, .bool false, .int .i64 0, .int .i64 0, .int .i64 0, .int .i64 0, .bool false] 35 (0, 0)) from D6.out.out)
          obtain ⟨f0, f1, f2, f3, f4, f5, f6, f7, f8, f9⟩ := frees10 D6.out.out
          go_wp2
          clear y0 y1 y2 y3 y4 y5 y6 y7 y8 y9 f0 f1 f2 f3 f4 f5 f6 f7 f8 f9
          have hf := fill10 (show W6.heap[w.heap.size]? = some (.cells #[.int .i64 0, .int .i64 0, .string ⟨#[]⟩, .string ⟨#[]⟩, .bool false, .int .i64 0, .int .i64 0, .int .i64 0, .int .i64 0, .bool false] 35 (0, 0)) from D6.out.out) (.int .i64 0) (.int .i64 0) (.string ⟨#[]⟩) (.string ⟨#[]⟩) (.bool false) (.int .i64 0) (.int .i64 0) (.int .i64 0) (.int .i64 0) (.bool false)
          have hBf := below10 D6.out.bel (Nat.le_refl _) (.int .i64 0) (.int .i64 0) (.string ⟨#[]⟩) (.string ⟨#[]⟩) (.bool false) (.int .i64 0) (.int .i64 0) (.int .i64 0) (.int .i64 0) (.bool false)
          generalize (((((((((W6.setCell ⟨w.heap.size, 0, none⟩ _).setCell ⟨w.heap.size, 1, none⟩ _).setCell ⟨w.heap.size, 2, none⟩ _).setCell ⟨w.heap.size, 3, none⟩ _).setCell ⟨w.heap.size, 4, none⟩ _).setCell ⟨w.heap.size, 5, none⟩ _).setCell ⟨w.heap.size, 6, none⟩ _).setCell ⟨w.heap.size, 7, none⟩ _).setCell ⟨w.heap.size, 8, none⟩ _).setCell ⟨w.heap.size, 9, none⟩ _ = WF at *
          obtain ⟨y0, y1, y2, y3, y4, y5, y6, y7, y8, y9⟩ := cells10 hf
          clear hf
          refine bodyPost_ret (v := .agg #[.int .i64 0, .int .i64 0, .string ⟨#[]⟩, .string ⟨#[]⟩, .bool false, .int .i64 0, .int .i64 0, .int .i64 0, .int .i64 0, .bool false]) ?_ rfl ?_
          · simp [results, Try.results16, go_sem, y0, y1, y2, y3, y4, y5, y6, y7, y8, y9]
          · unfold GPost; rw [Hd.out]; exact ⟨rfl, hBf⟩
        | some q2 =>
          obtain ⟨val, c⟩ := q2
          obtain ⟨hu, hbc, hcs⟩ := txt_some hbs ht2
          have Hend := Lib.hid (decR_end Hn.out Ht1.out ht2)
          clear ht2
          obtain ⟨k2, hk2⟩ := Ev.rounds (refUntext_ev (s.extract b s.size) (by rw [cut_size]; omega))
          rw [hu] at hk2
          have Hk2 := Lib.hid hk2; clear hk2 hu
          obtain ⟨d2, hd2⟩ : ∃ d2, (c : Int) - (b : Int) = d2 := ⟨_, rfl⟩
          rw [hd2] at Hk2
          have hw3 : IntKind.i64.wrap ((b : Int) + d2) = (c : Int) := by rw [show (b : Int) + d2 = c by omega]; exact IntWalk.i64_in _ (by omega)
          have hw4 : wrap64 ((b : Int) + d2) = (c : Int) := by rw [show (b : Int) + d2 = c by omega]; exact Pu.wrap_id (by omega) (by omega)
          have hd20 : 0 ≤ d2 := by omega
          have hd21 : d2 ≤ 9223372036854775807 := by omega
          have Hd2 := Lib.hid hd2; clear hd2
          refine (weighlockref01_Untext.calls k2 _ _ _ _ _ Hk2.out).mono ?_
          rintro e w5 ⟨rfl, b5⟩
          have D5 := Lib.hid (D4.out.below b5)
          have N5 := Lib.hid (Own.blk_below N4.out b5)
          have K5 := Lib.hid (Own.blk_below K4.out b5)
          have lt5 : gk < w5.heap.size := Own.blk_lt K5.out
          clear b5 D4 N4 K4 k0 k1c
          go_upto_region 10 with (fail)
          have hD6 := D5.out.below ((Below.refl _ w5).alloc (Nat.le_refl _) (.cells #[.string val, .int .i64 d2, .int .i64 0] 61))
          have hN6 := (Own.heap_old w5 (.cells #[.string val, .int .i64 d2, .int .i64 0] 61) (Own.blk_lt N5.out)).trans N5.out
          have hK6 := (Own.heap_old w5 (.cells #[.string val, .int .i64 d2, .int .i64 0] 61) (Own.blk_lt K5.out)).trans K5.out
          have hV6 := Own.heap_new w5 (.cells #[.string val, .int .i64 d2, .int .i64 0] 61)
          generalize w5.alloc _ = W6 at *
          generalize w5.heap.size = gv at *
          have D6 := Lib.hid hD6; clear hD6 D5 N5 K5
          obtain ⟨x0, x1, x2, x3, x4, x5⟩ := cells6 hN6
          have k0 : W6.cell? ⟨gk, 0, none⟩ = some (.string key) := by rw [Own.blk_cell hK6]; rfl
          have v0 : W6.cell? ⟨gv, 0, none⟩ = some (.string val) := by rw [Own.blk_cell hV6]; rfl
          have K6 := Lib.hid hK6; clear hK6
          have V6 := Lib.hid hV6; clear hV6
          clear hN6
          obtain ⟨fl, hfl⟩ : ∃ fl, decide (a5 = 1) = fl := ⟨_, rfl⟩
          have q5 : ((a5 : Int) == 1) = fl := by rw [← hfl]; by_cases h : a5 = 1 <;> simp [h]; omega
          have Hfl := Lib.hid hfl; clear hfl
          have emk : mkR [a0, a1, a2, a3, a4, a5] key val = ⟨a0, a1, key, val, fl, a2, a3, a4⟩ := by rw [← Hfl.out]; rfl
          obtain ⟨km, hkm⟩ := Ev.rounds (PuB.refMay_ev ⟨a0, a1, key, val, fl, a2, a3, a4⟩)
          go_upto_region 11 with (fail)
          have hD7 := D6.out.below ((Below.refl _ W6).alloc (Nat.le_refl _) (.cells #[.int .i64 (a0 : Int), .int .i64 (a1 : Int), .string key, .string val, .bool fl, .int .i64 (a2 : Int), .int .i64 (a3 : Int), .int .i64 (a4 : Int)] 23))
          have hK7 := (Own.heap_old W6 (.cells #[.int .i64 (a0 : Int), .int .i64 (a1 : Int), .string key, .string val, .bool fl, .int .i64 (a2 : Int), .int .i64 (a3 : Int), .int .i64 (a4 : Int)] 23) (Own.blk_lt K6.out)).trans K6.out
          have hV7 := (Own.heap_old W6 (.cells #[.int .i64 (a0 : Int), .int .i64 (a1 : Int), .string key, .string val, .bool fl, .int .i64 (a2 : Int), .int .i64 (a3 : Int), .int .i64 (a4 : Int)] 23) (Own.blk_lt V6.out)).trans V6.out
          have hR7 := Own.heap_new W6 (.cells #[.int .i64 (a0 : Int), .int .i64 (a1 : Int), .string key, .string val, .bool fl, .int .i64 (a2 : Int), .int .i64 (a3 : Int), .int .i64 (a4 : Int)] 23)
          have lt6 : gv < W6.heap.size := Own.blk_lt V6.out
          clear x0 x1 x2 x3 x4 x5 k0 v0
          generalize W6.alloc _ = W7 at *
          generalize W6.heap.size = gr at *
          have D7 := Lib.hid hD7; clear hD7 D6 K6 V6
          have K7 := Lib.hid hK7; clear hK7
          have V7 := Lib.hid hV7; clear hV7
          obtain ⟨r0, r1, r2, r3, r4, r5, r6, r7⟩ := ocells hR7
          have R7 := Lib.hid hR7; clear hR7
          cases hmb : PuB.mayB ⟨a0, a1, key, val, fl, a2, a3, a4⟩ with
          | false =>
            have Hd : Hid (decR s = none) := by have := Hend.out; rw [emk, if_neg (by rw [hmb]; simp)] at this; exact this
            rw [hmb] at hkm
            have Hk := Lib.hid hkm; clear hkm hmb emk Hend
            go_wp2_with fail
            refine (weighlockref16_May.calls km _ _ _ _ _ _ _ _ _ _ Hk.out).mono ?_
            rintro e w8 ⟨rfl, b8⟩
            have D8 := Lib.hid (D7.out.below b8); clear b8 D7 K7 V7 R7 r0 r1 r2 r3 r4 r5 r6 r7
            obtain ⟨y0, y1, y2, y3, y4, y5, y6, y7, y8, y9⟩ := cells10 (show w8.heap[w.heap.size]? = some (.cells #[.int .i64 0, .int .i64 0, .string ⟨#[]⟩, .string ⟨#[]⟩, .bool false, .int .i64 0, .int .i64 0, .int .i64 0, .int .i64 0, .bool false] 35 (0, 0)) from D8.out.out)
            obtain ⟨f0, f1, f2, f3, f4, f5, f6, f7, f8, f9⟩ := frees10 D8.out.out
            go_wp2
            clear y0 y1 y2 y3 y4 y5 y6 y7 y8 y9 f0 f1 f2 f3 f4 f5 f6 f7 f8 f9
            have hf := fill10 (show w8.heap[w.heap.size]? = some (.cells #[.int .i64 0, .int .i64 0, .string ⟨#[]⟩, .string ⟨#[]⟩, .bool false, .int .i64 0, .int .i64 0, .int .i64 0, .int .i64 0, .bool false] 35 (0, 0)) from D8.out.out) (.int .i64 0) (.int .i64 0) (.string ⟨#[]⟩) (.string ⟨#[]⟩) (.bool false) (.int .i64 0) (.int .i64 0) (.int .i64 0) (.int .i64 0) (.bool false)
            have hBf := below10 D8.out.bel (Nat.le_refl _) (.int .i64 0) (.int .i64 0) (.string ⟨#[]⟩) (.string ⟨#[]⟩) (.bool false) (.int .i64 0) (.int .i64 0) (.int .i64 0) (.int .i64 0) (.bool false)
            generalize (((((((((w8.setCell ⟨w.heap.size, 0, none⟩ _).setCell ⟨w.heap.size, 1, none⟩ _).setCell ⟨w.heap.size, 2, none⟩ _).setCell ⟨w.heap.size, 3, none⟩ _).setCell ⟨w.heap.size, 4, none⟩ _).setCell ⟨w.heap.size, 5, none⟩ _).setCell ⟨w.heap.size, 6, none⟩ _).setCell ⟨w.heap.size, 7, none⟩ _).setCell ⟨w.heap.size, 8, none⟩ _).setCell ⟨w.heap.size, 9, none⟩ _ = WF at *
            obtain ⟨y0, y1, y2, y3, y4, y5, y6, y7, y8, y9⟩ := cells10 hf
            clear hf
            refine bodyPost_ret (v := .agg #[.int .i64 0, .int .i64 0, .string ⟨#[]⟩, .string ⟨#[]⟩, .bool false, .int .i64 0, .int .i64 0, .int .i64 0, .int .i64 0, .bool false]) ?_ rfl ?_
            · simp [results, Try.results16, go_sem, y0, y1, y2, y3, y4, y5, y6, y7, y8, y9]
            · unfold GPost; rw [Hd.out]; exact ⟨rfl, hBf⟩
          | true =>
            have Hd : Hid (decR s = some (⟨a0, a1, key, val, fl, a2, a3, a4⟩, c)) := by have := Hend.out; rw [emk, if_pos ⟨by simpa using h5, hmb⟩] at this; exact this
            rw [hmb] at hkm
            have Hk := Lib.hid hkm; clear hkm hmb emk Hend
            go_wp2_with fail
            refine (weighlockref16_May.calls km _ _ _ _ _ _ _ _ _ _ Hk.out).mono ?_
            rintro e w8 ⟨rfl, b8⟩
            have D8 := Lib.hid (D7.out.below b8)
            obtain ⟨r0, r1, r2, r3, r4, r5, r6, r7⟩ := ocells (Own.blk_below R7.out b8)
            have k1c : w8.cell? ⟨gk, 1, none⟩ = some (.int .i64 d) := by rw [Own.blk_cell (Own.blk_below K7.out b8)]; rfl
            have v1c : w8.cell? ⟨gv, 1, none⟩ = some (.int .i64 d2) := by rw [Own.blk_cell (Own.blk_below V7.out b8)]; rfl
            clear b8 D7 K7 V7 R7
            obtain ⟨y0, y1, y2, y3, y4, y5, y6, y7, y8, y9⟩ := cells10 (show w8.heap[w.heap.size]? = some (.cells #[.int .i64 0, .int .i64 0, .string ⟨#[]⟩, .string ⟨#[]⟩, .bool false, .int .i64 0, .int .i64 0, .int .i64 0, .int .i64 0, .bool false] 35 (0, 0)) from D8.out.out)
            obtain ⟨f0, f1, f2, f3, f4, f5, f6, f7, f8, f9⟩ := frees10 D8.out.out
            go_wp2
            clear y0 y1 y2 y3 y4 y5 y6 y7 y8 y9 f0 f1 f2 f3 f4 f5 f6 f7 f8 f9
            have hf := fill10 (show w8.heap[w.heap.size]? = some (.cells #[.int .i64 0, .int .i64 0, .string ⟨#[]⟩, .string ⟨#[]⟩, .bool false, .int .i64 0, .int .i64 0, .int .i64 0, .int .i64 0, .bool false] 35 (0, 0)) from D8.out.out) (.int .i64 (a0 : Int)) (.int .i64 (a1 : Int)) (.string key) (.string val) (.bool fl) (.int .i64 (a2 : Int)) (.int .i64 (a3 : Int)) (.int .i64 (a4 : Int)) (.int .i64 (c : Int)) (.bool true)
            have hBf := below10 D8.out.bel (Nat.le_refl _) (.int .i64 (a0 : Int)) (.int .i64 (a1 : Int)) (.string key) (.string val) (.bool fl) (.int .i64 (a2 : Int)) (.int .i64 (a3 : Int)) (.int .i64 (a4 : Int)) (.int .i64 (c : Int)) (.bool true)
            generalize (((((((((w8.setCell ⟨w.heap.size, 0, none⟩ _).setCell ⟨w.heap.size, 1, none⟩ _).setCell ⟨w.heap.size, 2, none⟩ _).setCell ⟨w.heap.size, 3, none⟩ _).setCell ⟨w.heap.size, 4, none⟩ _).setCell ⟨w.heap.size, 5, none⟩ _).setCell ⟨w.heap.size, 6, none⟩ _).setCell ⟨w.heap.size, 7, none⟩ _).setCell ⟨w.heap.size, 8, none⟩ _).setCell ⟨w.heap.size, 9, none⟩ _ = WF at *
            obtain ⟨y0, y1, y2, y3, y4, y5, y6, y7, y8, y9⟩ := cells10 hf
            clear hf
            refine bodyPost_ret (v := .agg #[.int .i64 (a0 : Int), .int .i64 (a1 : Int), .string key, .string val, .bool fl, .int .i64 (a2 : Int), .int .i64 (a3 : Int), .int .i64 (a4 : Int), .int .i64 (c : Int), .bool true]) ?_ rfl ?_
            · simp [results, Try.results16, go_sem, y0, y1, y2, y3, y4, y5, y6, y7, y8, y9]
            · unfold GPost; rw [Hd.out]; exact ⟨rfl, hBf⟩
    · have h5' : (1 : Int) < (a5 : Int) := by omega
      have Hd : Hid (decR s = none) := by
        show decR s = none
        cases ht1 : txt s a with
        | none => exact decR_txt1 Hn.out ht1
        | some q =>
          obtain ⟨key, b⟩ := q
          cases ht2 : txt s b with
          | none => exact decR_txt2 Hn.out ht1 ht2
          | some q2 => rw [decR_end Hn.out ht1 (val := q2.1) (c := q2.2) ht2, if_neg (by intro h; exact h5 (by simpa using h.1))]
      clear h5
      go_upto_region 3 with (fail)
      have hD2 := D1.out.below ((Below.refl _ w1).alloc (Nat.le_refl _) (.cells #[.int .i64 (a0 : Int), .int .i64 (a1 : Int), .int .i64 (a2 : Int), .int .i64 (a3 : Int), .int .i64 (a4 : Int), .int .i64 (a5 : Int)] 57))
      generalize w1.alloc _ = W2 at *
      have D2 := Lib.hid hD2; clear hD2 D1
      obtain ⟨y0, y1, y2, y3, y4, y5, y6, y7, y8, y9⟩ := cells10 (show W2.heap[w.heap.size]? = some (.cells #[.int .i64 0, .int .i64 0, .string ⟨#[]⟩, .string ⟨#[]⟩, .bool false, .int .i64 0, .int .i64 0, .int .i64 0, .int .i64 0, .bool false] 35 (0, 0)) from D2.out.out)
      obtain ⟨f0, f1, f2, f3, f4, f5, f6, f7, f8, f9⟩ := frees10 D2.out.out
      go_wp2
      clear y0 y1 y2 y3 y4 y5 y6 y7 y8 y9 f0 f1 f2 f3 f4 f5 f6 f7 f8 f9
      have hf := fill10 (show W2.heap[w.heap.size]? = some (.cells #[.int .i64 0, .int .i64 0, .string ⟨#[]⟩, .string ⟨#[]⟩, .bool false, .int .i64 0, .int .i64 0, .int .i64 0, .int .i64 0, .bool false] 35 (0, 0)) from D2.out.out) (.int .i64 0) (.int .i64 0) (.string ⟨#[]⟩) (.string ⟨#[]⟩) (.bool false) (.int .i64 0) (.int .i64 0) (.int .i64 0) (.int .i64 0) (.bool false)
      have hBf := below10 D2.out.bel (Nat.le_refl _) (.int .i64 0) (.int .i64 0) (.string ⟨#[]⟩) (.string ⟨#[]⟩) (.bool false) (.int .i64 0) (.int .i64 0) (.int .i64 0) (.int .i64 0) (.bool false)
      generalize (((((((((W2.setCell ⟨w.heap.size, 0, none⟩ _).setCell ⟨w.heap.size, 1, none⟩ _).setCell ⟨w.heap.size, 2, none⟩ _).setCell ⟨w.heap.size, 3, none⟩ _).setCell ⟨w.heap.size, 4, none⟩ _).setCell ⟨w.heap.size, 5, none⟩ _).setCell ⟨w.heap.size, 6, none⟩ _).setCell ⟨w.heap.size, 7, none⟩ _).setCell ⟨w.heap.size, 8, none⟩ _).setCell ⟨w.heap.size, 9, none⟩ _ = WF at *
      obtain ⟨y0, y1, y2, y3, y4, y5, y6, y7, y8, y9⟩ := cells10 hf
      clear hf
      refine bodyPost_ret (v := .agg #[.int .i64 0, .int .i64 0, .string ⟨#[]⟩, .string ⟨#[]⟩, .bool false, .int .i64 0, .int .i64 0, .int .i64 0, .int .i64 0, .bool false]) ?_ rfl ?_
      · simp [results, Try.results16, go_sem, y0, y1, y2, y3, y4, y5, y6, y7, y8, y9]
      · unfold GPost; rw [Hd.out]; exact ⟨rfl, hBf⟩
end Go.Proofs.Ytmkpdknlkblegaa.Rd
