/- Several texts of this claim in one. -/
import Derived.Test.YtmkpdknlkblegaaRdr
import Derived.Test.YtmkpdknlkblegaaPBy
import Derived.Test.YtmkpdknlkblegaaRecA
import Derived.Deep.Cut
/- What the document's Unchain and Untext tell, out of the printed functions: the same. -/
namespace Go.Proofs.Ytmkpdknlkblegaa.Rd
open Go.RowKit Go.Proofs.YtmkpdknlkblegaaW.PrintWords Go.Proofs.YtmkpdknlkblegaaW.PrintMore Go.Proofs.Ytmkpdknlkblegaa.PB Go.Proofs.Ytmkpdknlkblegaa.Pu
set_option linter.unusedSimpArgs false
set_option linter.unusedVariables false
/-- The number of the first bytes' low bits. -/
def V (s : ByteArray) : Nat → Nat
  | 0 => 0
  | m + 1 => V s m + (s.data.toList.getD m 0).toNat % 128 * 128 ^ m
theorem V_lt (s : ByteArray) : ∀ m, V s m < 128 ^ m
  | 0 => by simp [V]
  | m + 1 => by
    have := V_lt s m
    have h2 := Nat.mul_le_mul_right (128 ^ m) (show (s.data.toList.getD m 0).toNat % 128 ≤ 127 by omega)
    rw [V, Nat.pow_succ]
    omega
theorem byte_at (s : ByteArray) (m : Nat) (h : m < s.size) : s.data.toList.getD m 0 = s[m] := by
  rw [List.getD_eq_getElem?_getD, List.getElem?_eq_getElem (by rw [Array.length_toList]; exact h)]; rfl
theorem horner (s : ByteArray) (n : Nat) (hn : n < s.size) (hn9 : n ≤ 9) (m : Nat) : ∀ (acc : Nat), m ≤ n + 1 → acc * 128 ^ m + V s m < 18446744073709551616 →
    Ev (fun k => weighlockref01_Unchain.l1 k s (n : Int) (acc : Int) ((m : Int) - 1)) (((acc * 128 ^ m + V s m : Nat) : Int), (n : Int) + 1, 0) := by
  induction m with
  | zero =>
    intro acc hm hb
    refine Ev.step (fun k => weighlockref01_Unchain.l1.eq_2 ..) (Ev.neg (by omega) ?_)
    rw [wrap_id (by omega) (by omega)]
    exact Ev.get (Ev.now _) (by simp [V])
  | succ m ih =>
    intro acc hm hb
    have hlt : m < s.size := by omega
    rw [show ((m + 1 : Nat) : Int) - 1 = (m : Int) by omega]
    refine Ev.step (fun k => weighlockref01_Unchain.l1.eq_2 ..) (Ev.pos (by omega) (Ev.pos (by omega) (Ev.pos (by omega) ?_)))
    rw [bt_get s m hlt]
    have hV : V s (m + 1) = V s m + s[m].toNat % 128 * 128 ^ m := by rw [V, byte_at s m hlt]
    rw [hV] at hb ⊢
    generalize s[m] = b at *
    have e1 : acc * 128 ^ (m + 1) + (V s m + b.toNat % 128 * 128 ^ m) = (128 * acc + b.toNat % 128) * 128 ^ m + V s m := by
      rw [Nat.pow_succ, Nat.mul_comm (128 ^ m) 128, ← Nat.mul_assoc, Nat.mul_comm acc 128, Nat.add_mul]; omega
    rw [e1] at hb ⊢
    have hp : 1 ≤ 128 ^ m := Nat.one_le_pow _ _ (by decide)
    have hle := Nat.mul_le_mul_left (128 * acc + b.toNat % 128) hp
    have hb8 := b.toNat_lt
    have t1 : Int.tmod (b.toNat : Int) 128 = ((b.toNat % 128 : Nat) : Int) := by rw [Int.tmod_eq_emod_of_nonneg (by omega)]; omega
    rw [t1, wraps_u64 ((b.toNat % 128 : Nat) : Int) (by omega) (by omega), wraps_u64 (128 * (acc : Int)) (by omega) (by omega), wraps_u64 (128 * (acc : Int) + ((b.toNat % 128 : Nat) : Int)) (by omega) (by omega), wrap_id (a := (m : Int) - 1) (by omega) (by omega)]
    have := ih (128 * acc + b.toNat % 128) (by omega) hb
    rw [show ((128 * acc + b.toNat % 128 : Nat) : Int) = 128 * (acc : Int) + ((b.toNat % 128 : Nat) : Int) by omega] at this
    exact this
theorem refloop (s : ByteArray) (f : Nat) : ∀ (i : Nat), i + f = 10 → i ≤ s.size → Ev (fun k => weighlockref01_Unchain.l0 k s (i : Int)) (T3 (Own.unch (s.data.toList.drop i) i (V s i) f)) := by
  have h9 := Own.p128_9
  have j2t : ∀ i : Nat, Ev (fun k => weighlockref01_Unchain.j2 k s (i : Int) true) (0, 0, 4) := fun i => Ev.step (fun k => weighlockref01_Unchain.j2.eq_2 ..) (Ev.pos rfl (Ev.now _))
  induction f with
  | zero =>
    intro i hi hs
    obtain rfl : i = 10 := by omega
    refine Ev.get ?_ (show ((0 : Int), (0 : Int), (4 : Int)) = _ by rw [Own.unch]; rfl)
    have j1 : Ev (fun k => weighlockref01_Unchain.j1 k s ((10 : Nat) : Int)) (0, 0, 4) := Ev.step (fun k => weighlockref01_Unchain.j1.eq_2 ..) (Ev.pos (by omega) (j2t 10))
    refine Ev.step (fun k => weighlockref01_Unchain.l0.eq_2 ..) ?_
    by_cases h : (((10 : Nat) : Int)) < (s.size : Int)
    · exact Ev.pos h (Ev.neg (by omega) j1)
    · exact Ev.neg h j1
  | succ f ih =>
    intro i hi hs
    by_cases he : i = s.size
    · subst he
      rw [List.drop_of_length_le (by rw [Array.length_toList]; exact Nat.le_refl _)]
      refine Ev.get ?_ (show ((0 : Int), (0 : Int), (3 : Int)) = _ by rw [Own.unch]; rfl)
      have j2 : Ev (fun k => weighlockref01_Unchain.j2 k s (s.size : Int) false) (0, 0, 3) := Ev.step (fun k => weighlockref01_Unchain.j2.eq_2 ..) (Ev.neg (by decide) (Ev.pos rfl (Ev.now _)))
      have j1 : Ev (fun k => weighlockref01_Unchain.j1 k s (s.size : Int)) (0, 0, 3) := by
        refine Ev.step (fun k => weighlockref01_Unchain.j1.eq_2 ..) (Ev.neg (by omega) ?_)
        by_cases h : (s.size : Int) = 9
        · exact Ev.pos h (Ev.neg (by omega) j2)
        · exact Ev.neg h j2
      exact Ev.step (fun k => weighlockref01_Unchain.l0.eq_2 ..) (Ev.neg (by omega) j1)
    · have hlt : i < s.size := by omega
      have hld : i < s.data.toList.length := by rw [Array.length_toList]; exact hlt
      have hget : s.data.toList[i] = s[i] := rfl
      have hVs : V s (i + 1) = V s i + s[i].toNat % 128 * 128 ^ i := by rw [V, byte_at s i hlt]
      have hVi := V_lt s i
      have hor := horner s i hlt (by omega) (i + 1) 0 (Nat.le_refl _)
      rw [show (((i + 1 : Nat) : Int)) - 1 = (i : Int) by omega, Nat.zero_mul, Nat.zero_add, hVs] at hor
      have hbt := bt_get s i hlt
      rw [List.drop_eq_getElem_cons hld, hget, Own.unch]
      generalize s[i] = b at *
      have hb8 := b.toNat_lt
      by_cases hbig : 128 ≤ b.toNat
      · refine Ev.step (fun k => weighlockref01_Unchain.l0.eq_2 ..) (Ev.pos (by omega) (Ev.pos (by omega) (Ev.pos (by omega) ?_)))
        rw [hbt, wrap_id (by omega) (by omega)]
        refine Ev.pos (by omega) ?_
        by_cases e9 : i = 9
        · rw [if_pos (.inl ⟨e9, by omega⟩)]
          subst e9
          obtain rfl : f = 0 := by omega
          exact Ev.get (ih 10 (by omega) (by omega)) (by rw [Own.unch])
        · rw [if_neg (by omega), if_neg (by omega)]
          have := ih (i + 1) (by omega) (by omega)
          rw [hVs, show b.toNat % 128 = b.toNat - 128 by omega] at this
          exact this
      · have toj1 : Ev (fun k => weighlockref01_Unchain.j1 k s (i : Int)) (T3 (if (i = 9 ∧ 1 < b.toNat) ∨ (b.toNat = 0 ∧ 0 < i) then (0, 0, 4) else if b.toNat < 128 then (V s i + b.toNat * 128 ^ i, i + 1, 0) else Own.unch (s.data.toList.drop (i + 1)) (i + 1) (V s i + (b.toNat - 128) * 128 ^ i) f)) := by
          have j3 : ∀ fl : Bool, fl = decide (b.toNat = 0 ∧ 0 < i) → ¬ (i = 9 ∧ 1 < b.toNat) → Ev (fun k => weighlockref01_Unchain.j3 k s (i : Int) fl) (T3 (if (i = 9 ∧ 1 < b.toNat) ∨ (b.toNat = 0 ∧ 0 < i) then (0, 0, 4) else if b.toNat < 128 then (V s i + b.toNat * 128 ^ i, i + 1, 0) else Own.unch (s.data.toList.drop (i + 1)) (i + 1) (V s i + (b.toNat - 128) * 128 ^ i) f)) := by
            intro fl hfl hn9
            refine Ev.step (fun k => weighlockref01_Unchain.j3.eq_2 ..) ?_
            by_cases h0 : b.toNat = 0 ∧ 0 < i
            · rw [if_pos (.inr h0)]
              exact Ev.pos (by rw [hfl]; simpa using h0) (Ev.now _)
            · rw [if_neg (by intro h; rcases h with h | h; exact hn9 h; exact h0 h), if_pos (by omega)]
              refine Ev.neg (by rw [hfl]; simpa using h0) ?_
              rw [Nat.mod_eq_of_lt (by omega)] at hor
              refine Ev.get (hor ?_) rfl
              by_cases e : i = 9
              · subst e; rw [h9] at hVi ⊢; omega
              · have h8 : 128 ^ i ≤ 128 ^ 8 := Own.p128_le (by omega)
                have e8 : 128 ^ 8 = 72057594037927936 := by decide
                have := Nat.mul_le_mul (show b.toNat ≤ 127 by omega) h8
                omega
          have j2 : ∀ fl : Bool, fl = decide (i = 9 ∧ 1 < b.toNat) → Ev (fun k => weighlockref01_Unchain.j2 k s (i : Int) fl) (T3 (if (i = 9 ∧ 1 < b.toNat) ∨ (b.toNat = 0 ∧ 0 < i) then (0, 0, 4) else if b.toNat < 128 then (V s i + b.toNat * 128 ^ i, i + 1, 0) else Own.unch (s.data.toList.drop (i + 1)) (i + 1) (V s i + (b.toNat - 128) * 128 ^ i) f)) := by
            intro fl hfl
            refine Ev.step (fun k => weighlockref01_Unchain.j2.eq_2 ..) ?_
            by_cases h1 : i = 9 ∧ 1 < b.toNat
            · rw [if_pos (.inl h1)]
              exact Ev.pos (by rw [hfl]; simpa using h1) (Ev.now _)
            · refine Ev.neg (by rw [hfl]; simpa using h1) (Ev.neg (by omega) ?_)
              by_cases hi0 : 0 < i
              · refine Ev.pos (by omega) (Ev.pos (by omega) (Ev.pos (by omega) ?_))
                rw [hbt]
                exact j3 _ (by by_cases h : b.toNat = 0 <;> simp [h, hi0]) h1
              · exact Ev.neg (by omega) (j3 _ (by simp; omega) h1)
          refine Ev.step (fun k => weighlockref01_Unchain.j1.eq_2 ..) (Ev.neg (by omega) ?_)
          by_cases e9 : i = 9
          · refine Ev.pos (by omega) (Ev.pos (by omega) (Ev.pos (by omega) ?_))
            subst e9
            rw [show (bt s 9) = (b.toNat : Int) from hbt]
            exact j2 _ (by apply decide_eq_decide.2; omega)
          · exact Ev.neg (by omega) (j2 _ (by simp; omega))
        refine Ev.step (fun k => weighlockref01_Unchain.l0.eq_2 ..) (Ev.pos (by omega) ?_)
        by_cases h10 : (i : Int) < 10
        · refine Ev.pos h10 (Ev.pos (by omega) ?_)
          rw [hbt]
          exact Ev.neg (by omega) toj1
        · exact Ev.neg h10 toj1
theorem refUnchain_ev (s : ByteArray) : Ev (fun k => weighlockref01_Unchain.f k s) (T3 (Own.unchain s.data.toList)) := by
  have := refloop s 10 0 (by omega) (by omega)
  rw [List.drop_zero] at this
  exact this
theorem refUntext_ev (t : ByteArray) (hm : t.size ≤ 9223372036854775807) : Ev (fun k => weighlockref01_Untext.f k t) (untxt t) := by
  unfold weighlockref01_Untext.f untxt
  have h := refUnchain_ev t
  generalize hu : Own.unchain t.data.toList = u at *
  obtain ⟨v, n, e⟩ := u
  refine Ev.bind (show Ev _ ((v : Int), (n : Int), (e : Int)) from h) ?_
  simp only
  by_cases he : e = 0
  · subst he
    obtain ⟨r, hr, hn, _⟩ := Own.unchain_bwd hu
    have hl := congrArg List.length hr
    rw [Array.length_toList, List.length_append] at hl
    have hsz : t.data.size = t.size := rfl
    refine Ev.pos rfl ?_
    by_cases hv : 1099511627776 < v
    · exact Ev.pos (by omega) (Ev.get (Ev.now _) (by rw [if_pos rfl, if_pos hv]))
    · refine Ev.neg (by omega) ?_
      rw [wrap_id (a := (t.size : Int) - (n : Int)) (by omega) (by omega), wrap_id (a := (v : Int)) (by omega) (by omega)]
      by_cases hlen : t.size < n + v
      · exact Ev.pos (by omega) (Ev.get (Ev.now _) (by rw [if_pos rfl, if_neg hv, if_pos hlen]))
      · refine Ev.neg (by omega) ?_
        rw [wrap_id (a := (n : Int) + (v : Int)) (by omega) (by omega)]
        refine Ev.pos (by omega) (Ev.pos (by omega) (Ev.pos (by omega) (Ev.get (Ev.now _) ?_)))
        rw [if_pos rfl, if_neg hv, if_neg hlen]
        simp only [Int.toNat_natCast, Prod.mk.injEq, and_true, Int.natCast_add]
        rw [show ((n : Int) + (v : Int)).toNat = n + v by omega]
  · exact Ev.neg (by omega) (Ev.get (Ev.now _) (by rw [if_neg he]))
end Go.Proofs.Ytmkpdknlkblegaa.Rd
/- weighlockref16.numbers, by hand. -/
namespace Go.Proofs.Ytmkpdknlkblegaa.Rd
open Go.RowKit Go.Proofs.YtmkpdknlkblegaaW.PrintWords Go.Proofs.Ytmkpdknlkblegaa.PB
set_option maxRecDepth 100000
set_option linter.unusedSimpArgs false
set_option linter.unusedVariables false
def NumPost (s : ByteArray) (w : World) (e : Ending) (w' : World) : Prop :=
  Below w.heap.size w w' ∧ match numsTo s 6 with
  | none => ∃ c0 c1 c2 c3 c4 c5 : Int, e = .returned (.tuple #[.agg #[.int .i64 c0, .int .i64 c1, .int .i64 c2, .int .i64 c3, .int .i64 c4, .int .i64 c5], .int .i64 (-1)])
  | some (l, a) => e = .returned (.tuple #[.agg (arrC l), .int .i64 (a : Int)])
structure NS (o : Nat) (l : List Nat) (W w : World) : Prop where
  out : w.heap[o]? = some (.cells (arrC []) 57 (0, 0))
  arr : w.heap[o + 1]? = some (.cells (arrC l) 57 (0, 0))
  bel : Below o W w
theorem NS.below {o : Nat} {l : List Nat} {W w w1 : World} (h : NS o l W w) (hb : Below w.heap.size w w1) : NS o l W w1 := ⟨Own.blk_below h.out hb, Own.blk_below h.arr hb, h.bel.trans (hb.mono (Nat.le_of_lt (Own.blk_lt h.out)))⟩
theorem NS.put {o : Nat} {l : List Nat} {W w : World} (h : NS o l W w) (hl : l.length < 6) (v : Nat) : NS o (l ++ [v]) W (w.setCell ⟨o + 1, l.length, none⟩ (.int .i64 (v : Int))) :=
  ⟨(Own.heap_far _ _ _ (by simp)).trans h.out, by rw [arrC_snoc hl]; exact Own.heap_set h.arr _, h.bel.setCell (by simp) _⟩
theorem arr6 (l : List Nat) (h : l.length ≤ 6) : ∃ c0 c1 c2 c3 c4 c5 : Int, arrC l = #[.int .i64 c0, .int .i64 c1, .int .i64 c2, .int .i64 c3, .int .i64 c4, .int .i64 c5] := by
  have hs : (arrC l).size = 6 := by unfold arrC; simp; omega
  have h0 := arrC_get (l := l) (k := 0) (by omega) h
  have h1 := arrC_get (l := l) (k := 1) (by omega) h
  have h2 := arrC_get (l := l) (k := 2) (by omega) h
  have h3 := arrC_get (l := l) (k := 3) (by omega) h
  have h4 := arrC_get (l := l) (k := 4) (by omega) h
  have h5 := arrC_get (l := l) (k := 5) (by omega) h
  generalize arrC l = A at *
  obtain ⟨A⟩ := A
  rcases A with _ | ⟨a0, _ | ⟨a1, _ | ⟨a2, _ | ⟨a3, _ | ⟨a4, _ | ⟨a5, _ | ⟨a6, A⟩⟩⟩⟩⟩⟩⟩ <;> simp at hs h0 h1 h2 h3 h4 h5
  subst h0 h1 h2 h3 h4 h5
  exact ⟨_, _, _, _, _, _, rfl⟩
theorem cells6 {o : Nat} {w : World} {c0 c1 c2 c3 c4 c5 : Value} {t : TypeId} (h : w.heap[o]? = some (.cells #[c0, c1, c2, c3, c4, c5] t (0, 0))) : w.cell? ⟨o, 0, none⟩ = some c0 ∧ w.cell? ⟨o, 1, none⟩ = some c1 ∧ w.cell? ⟨o, 2, none⟩ = some c2 ∧ w.cell? ⟨o, 3, none⟩ = some c3 ∧ w.cell? ⟨o, 4, none⟩ = some c4 ∧ w.cell? ⟨o, 5, none⟩ = some c5 :=
  ⟨by rw [Own.blk_cell h]; rfl, by rw [Own.blk_cell h]; rfl, by rw [Own.blk_cell h]; rfl, by rw [Own.blk_cell h]; rfl, by rw [Own.blk_cell h]; rfl, by rw [Own.blk_cell h]; rfl⟩
theorem frees6 {o : Nat} {w : World} {c : Array Value} {t : TypeId} (h : w.heap[o]? = some (.cells c t (0, 0))) : w.frozen? ⟨o, 0, none⟩ = false ∧ w.frozen? ⟨o, 1, none⟩ = false ∧ w.frozen? ⟨o, 2, none⟩ = false ∧ w.frozen? ⟨o, 3, none⟩ = false ∧ w.frozen? ⟨o, 4, none⟩ = false ∧ w.frozen? ⟨o, 5, none⟩ = false :=
  ⟨Own.blk_free h 0, Own.blk_free h 1, Own.blk_free h 2, Own.blk_free h 3, Own.blk_free h 4, Own.blk_free h 5⟩
theorem fill6 {o : Nat} {w : World} {v0 v1 v2 v3 v4 v5 : Value} {t : TypeId} (h : w.heap[o]? = some (.cells #[v0, v1, v2, v3, v4, v5] t (0, 0))) (u0 u1 u2 u3 u4 u5 : Value) : ((((((w.setCell ⟨o, 0, none⟩ u0).setCell ⟨o, 1, none⟩ u1).setCell ⟨o, 2, none⟩ u2).setCell ⟨o, 3, none⟩ u3).setCell ⟨o, 4, none⟩ u4).setCell ⟨o, 5, none⟩ u5).heap[o]? = some (.cells #[u0, u1, u2, u3, u4, u5] t (0, 0)) := by
  have := Own.heap_set (i := 5) (Own.heap_set (i := 4) (Own.heap_set (i := 3) (Own.heap_set (i := 2) (Own.heap_set (i := 1) (Own.heap_set (i := 0) h u0) u1) u2) u3) u4) u5
  simpa using this
theorem below6 {B o : Nat} {W w : World} (h : Below B W w) (hb : B ≤ o) (u0 u1 u2 u3 u4 u5 : Value) : Below B W ((((((w.setCell ⟨o, 0, none⟩ u0).setCell ⟨o, 1, none⟩ u1).setCell ⟨o, 2, none⟩ u2).setCell ⟨o, 3, none⟩ u3).setCell ⟨o, 4, none⟩ u4).setCell ⟨o, 5, none⟩ u5) :=
  ((((((h.setCell (show B ≤ (⟨o, 0, none⟩ : Addr).block from hb) u0).setCell (show B ≤ (⟨o, 1, none⟩ : Addr).block from hb) u1).setCell (show B ≤ (⟨o, 2, none⟩ : Addr).block from hb) u2).setCell (show B ≤ (⟨o, 3, none⟩ : Addr).block from hb) u3).setCell (show B ≤ (⟨o, 4, none⟩ : Addr).block from hb) u4).setCell (show B ≤ (⟨o, 5, none⟩ : Addr).block from hb) u5)
set_option maxHeartbeats 4000000 in
theorem numbers_any {s : ByteArray} (w : World) (hm : s.size ≤ 9223372036854775807) :
    Calls Try.prog 29 #[.string s] w (NumPost s w) := by
  have hns : NS w.heap.size [] w ((w.alloc (.cells (arrC []) 57)).alloc (.cells (arrC []) 57)) := by
    have a0 := Own.heap_new w (.cells (arrC []) 57)
    have a1 := Own.heap_new (w.alloc (.cells (arrC []) 57)) (.cells (arrC []) 57)
    rw [show (w.alloc (.cells (arrC []) 57)).heap.size = w.heap.size + 1 by simp] at a1
    exact ⟨(Own.heap_old _ _ (Own.blk_lt a0)).trans a0, a1, ((Below.refl _ w).alloc (Nat.le_refl _) _).alloc (by simp) _⟩
  have HNS := Lib.hid hns; clear hns
  go_enter Try.func29, Try.ntmps29
  go_wp2_with fail
  go_loopw [9, 5] (fun x y wr => ∃ (k : Nat) (l : List Nat) (a : Nat), k ≤ 6 ∧ x = .int .i64 (k : Int) ∧ y = .int .i64 (a : Int) ∧ numsTo s k = some (l, a) ∧ NS w.heap.size l w wr) (fun x _ _ => 6 - (intOf x).toNat)
  case atStart => exact ⟨0, [], 0, by omega, rfl, rfl, rfl, HNS.out⟩
  case round =>
    obtain ⟨k, l, a, hk, rfl, rfl, hn, ns⟩ := hrel
    obtain ⟨hl, ha, hv⟩ := numsTo_le hn
    have Hn := Lib.hid hn; clear hn
    have Ns := Lib.hid ns; clear ns
    have Hv := Lib.hid hv; clear hv
    have Hl := Lib.hid hl; clear hl
    clear HNS
    have ha0 : (0 : Int) ≤ (a : Int) := by omega
    have ha1 : (a : Int) ≤ (s.size : Int) := by omega
    by_cases hlt : k < 6
    · have hk0 : (0 : Int) ≤ (k : Int) := by omega
      have hk1 : (k : Int) < 6 := by omega
      obtain ⟨kk, hkk⟩ := Ev.rounds (refUnchain_ev (s.extract a s.size))
      rw [cut_list] at hkk
      obtain ⟨u, hu⟩ : ∃ u, Own.unchain (s.data.toList.drop a) = u := ⟨_, rfl⟩
      rw [hu] at hkk
      obtain ⟨v, n, e⟩ := u
      have Hkk : Hid (weighlockref01_Unchain.f kk (s.extract a s.size) = some ((v : Int), (n : Int), (e : Int))) := hkk
      clear hkk
      have Hu := Lib.hid hu; clear hu
      go_wp2_with fail
      refine (weighlockref01_Unchain.calls kk _ _ _ _ _ Hkk.out).mono ?_
      rintro e2 w1 ⟨rfl, b1⟩
      have N1 := Lib.hid (Ns.out.below b1); clear b1
      go_upto_region 7 with (fail)
      have hG := Own.heap_new w1 (.cells #[.int .u64 (v : Int), .int .i64 (n : Int), .int .i64 (e : Int)] 71)
      have hN2 := N1.out.below ((Below.refl _ w1).alloc (Nat.le_refl _) (.cells #[.int .u64 (v : Int), .int .i64 (n : Int), .int .i64 (e : Int)] 71))
      have hgx : w.heap.size + 1 < w1.heap.size := Own.blk_lt N1.out.arr
      generalize w1.alloc _ = W2 at *
      generalize w1.heap.size = gx at *
      have g0 : W2.cell? ⟨gx, 0, none⟩ = some (.int .u64 (v : Int)) := by rw [Own.blk_cell hG]; rfl
      have g1 : W2.cell? ⟨gx, 1, none⟩ = some (.int .i64 (n : Int)) := by rw [Own.blk_cell hG]; rfl
      have g2 : W2.cell? ⟨gx, 2, none⟩ = some (.int .i64 (e : Int)) := by rw [Own.blk_cell hG]; rfl
      have N2 := Lib.hid hN2; clear hN2 N1 Ns
      have HG := Lib.hid hG; clear hG
      by_cases he : e = 0
      · subst he
        by_cases hv1 : v ≤ 1099511627776
        · have hv2 : ¬ (1099511627776 : Int) < (v : Int) := by omega
          have hnum : num s a = some (v, a + n) := by unfold num; rw [Hu.out]; simp [hv1]
          obtain ⟨hlt2, hle2, _⟩ := num_le ha hnum
          have hnx : numsTo s (k + 1) = some (l ++ [v], a + n) := by rw [numsTo, Hn.out]; simp only; rw [hnum]
          have Hnx := Lib.hid hnx; clear hnx hnum
          have hc : W2.cell? ⟨w.heap.size + 1, k, none⟩ = some (.int .i64 ((l.getD k 0 : Nat) : Int)) := by rw [Own.blk_cell N2.out.arr]; exact arrC_get hlt (by have := Hl.out; omega)
          have hf := Own.blk_free N2.out.arr k
          have R2 := N2.out.put (by have := Hl.out; omega) v
          rw [Hl.out] at R2
          have HR2 := Lib.hid R2; clear R2
          generalize ((l.getD k 0 : Nat) : Int) = c0 at hc
          have hw : IntKind.i64.wrap (v : Int) = v := IntWalk.i64_in _ (by omega)
          have na : ¬ w.heap.size + 1 = gx := by omega
          have nb : ¬ gx = w.heap.size + 1 := by omega
          go_wp2
          go_roundw
          case rel => exact ⟨k + 1, l ++ [v], a + n, by omega, by go_num, by go_num, Hnx.out, HR2.out⟩
          case measure => simp [intOf]; omega
        · have hv2 : (1099511627776 : Int) < (v : Int) := by omega
          have hnone : numsTo s 6 = none := by
            have h1 : num s a = none := by
              unfold num
              rw [Hu.out]
              simp only
              rw [if_neg (by omega)]
            exact numsTo_none (k := k + 1) (by rw [numsTo, Hn.out]; simp only; rw [h1]) (by omega)
          have Hnone := Lib.hid hnone; clear hnone
          obtain ⟨c0, c1, c2, c3, c4, c5, hc⟩ := arr6 l (by have := Hl.out; omega)
          have harr := N2.out.arr
          rw [hc] at harr
          obtain ⟨x0, x1, x2, x3, x4, x5⟩ := cells6 harr
          obtain ⟨z0, z1, z2, z3, z4, z5⟩ := cells6 (show W2.heap[w.heap.size]? = some (.cells #[.int .i64 0, .int .i64 0, .int .i64 0, .int .i64 0, .int .i64 0, .int .i64 0] 57 (0, 0)) from N2.out.out)
          obtain ⟨f0, f1, f2, f3, f4, f5⟩ := frees6 N2.out.out
          clear harr hc
          go_wp2
          clear x0 x1 x2 x3 x4 x5 z0 z1 z2 z3 z4 z5 f0 f1 f2 f3 f4 f5
          have hf := fill6 (show W2.heap[w.heap.size]? = some (.cells #[.int .i64 0, .int .i64 0, .int .i64 0, .int .i64 0, .int .i64 0, .int .i64 0] 57 (0, 0)) from N2.out.out) (.int .i64 c0) (.int .i64 c1) (.int .i64 c2) (.int .i64 c3) (.int .i64 c4) (.int .i64 c5)
          have hBf := below6 N2.out.bel (Nat.le_refl _) (.int .i64 c0) (.int .i64 c1) (.int .i64 c2) (.int .i64 c3) (.int .i64 c4) (.int .i64 c5)
          generalize (((((W2.setCell ⟨w.heap.size, 0, none⟩ (.int .i64 c0)).setCell ⟨w.heap.size, 1, none⟩ _).setCell ⟨w.heap.size, 2, none⟩ _).setCell ⟨w.heap.size, 3, none⟩ _).setCell ⟨w.heap.size, 4, none⟩ _).setCell ⟨w.heap.size, 5, none⟩ _ = W3 at *
          obtain ⟨y0, y1, y2, y3, y4, y5⟩ := cells6 hf
          clear hf
          refine bodyPost_ret (v := .tuple #[.agg #[.int .i64 c0, .int .i64 c1, .int .i64 c2, .int .i64 c3, .int .i64 c4, .int .i64 c5], .int .i64 (-1)]) ?_ rfl ?_
          · simp [results, Try.results29, go_sem, y0, y1, y2, y3, y4, y5]
          · unfold NumPost
            exact ⟨hBf, by rw [Hnone.out]; exact ⟨_, _, _, _, _, _, rfl⟩⟩
      · have h1 : ((e : Int) == 0) = false := by rw [beq_eq_false_iff_ne]; omega
        have h2 : ((e : Int) != 0) = true := by rw [bne_iff_ne]; omega
        have hnone : numsTo s 6 = none := by
          have h1 : num s a = none := by
            unfold num
            rw [Hu.out]
            simp only
            rw [if_neg (by omega)]
          exact numsTo_none (k := k + 1) (by rw [numsTo, Hn.out]; simp only; rw [h1]) (by omega)
        have Hnone := Lib.hid hnone; clear hnone
        obtain ⟨c0, c1, c2, c3, c4, c5, hc⟩ := arr6 l (by have := Hl.out; omega)
        have harr := N2.out.arr
        rw [hc] at harr
        obtain ⟨x0, x1, x2, x3, x4, x5⟩ := cells6 harr
        obtain ⟨z0, z1, z2, z3, z4, z5⟩ := cells6 (show W2.heap[w.heap.size]? = some (.cells #[.int .i64 0, .int .i64 0, .int .i64 0, .int .i64 0, .int .i64 0, .int .i64 0] 57 (0, 0)) from N2.out.out)
        obtain ⟨f0, f1, f2, f3, f4, f5⟩ := frees6 N2.out.out
        clear harr hc
        go_wp2
        clear x0 x1 x2 x3 x4 x5 z0 z1 z2 z3 z4 z5 f0 f1 f2 f3 f4 f5
        have hf := fill6 (show W2.heap[w.heap.size]? = some (.cells #[.int .i64 0, .int .i64 0, .int .i64 0, .int .i64 0, .int .i64 0, .int .i64 0] 57 (0, 0)) from N2.out.out) (.int .i64 c0) (.int .i64 c1) (.int .i64 c2) (.int .i64 c3) (.int .i64 c4) (.int .i64 c5)
        have hBf := below6 N2.out.bel (Nat.le_refl _) (.int .i64 c0) (.int .i64 c1) (.int .i64 c2) (.int .i64 c3) (.int .i64 c4) (.int .i64 c5)
        generalize (((((W2.setCell ⟨w.heap.size, 0, none⟩ (.int .i64 c0)).setCell ⟨w.heap.size, 1, none⟩ _).setCell ⟨w.heap.size, 2, none⟩ _).setCell ⟨w.heap.size, 3, none⟩ _).setCell ⟨w.heap.size, 4, none⟩ _).setCell ⟨w.heap.size, 5, none⟩ _ = W3 at *
        obtain ⟨y0, y1, y2, y3, y4, y5⟩ := cells6 hf
        clear hf
        refine bodyPost_ret (v := .tuple #[.agg #[.int .i64 c0, .int .i64 c1, .int .i64 c2, .int .i64 c3, .int .i64 c4, .int .i64 c5], .int .i64 (-1)]) ?_ rfl ?_
        · simp [results, Try.results29, go_sem, y0, y1, y2, y3, y4, y5]
        · unfold NumPost
          exact ⟨hBf, by rw [Hnone.out]; exact ⟨_, _, _, _, _, _, rfl⟩⟩
    · obtain rfl : k = 6 := by omega
      have hd : decide (((6 : Nat) : Int) < 6) = false := by decide
      obtain ⟨c0, c1, c2, c3, c4, c5, hc⟩ := arr6 l (by have := Hl.out; omega)
      have harr := Ns.out.arr
      rw [hc] at harr
      obtain ⟨x0, x1, x2, x3, x4, x5⟩ := cells6 harr
      obtain ⟨z0, z1, z2, z3, z4, z5⟩ := cells6 (show wr.heap[w.heap.size]? = some (.cells #[.int .i64 0, .int .i64 0, .int .i64 0, .int .i64 0, .int .i64 0, .int .i64 0] 57 (0, 0)) from Ns.out.out)
      obtain ⟨f0, f1, f2, f3, f4, f5⟩ := frees6 Ns.out.out
      have Hc := Lib.hid hc
      clear harr hc
      go_wp2
      clear x0 x1 x2 x3 x4 x5 z0 z1 z2 z3 z4 z5 f0 f1 f2 f3 f4 f5
      have hf := fill6 (show wr.heap[w.heap.size]? = some (.cells #[.int .i64 0, .int .i64 0, .int .i64 0, .int .i64 0, .int .i64 0, .int .i64 0] 57 (0, 0)) from Ns.out.out) (.int .i64 c0) (.int .i64 c1) (.int .i64 c2) (.int .i64 c3) (.int .i64 c4) (.int .i64 c5)
      have hBf := below6 Ns.out.bel (Nat.le_refl _) (.int .i64 c0) (.int .i64 c1) (.int .i64 c2) (.int .i64 c3) (.int .i64 c4) (.int .i64 c5)
      generalize (((((wr.setCell ⟨w.heap.size, 0, none⟩ (.int .i64 c0)).setCell ⟨w.heap.size, 1, none⟩ _).setCell ⟨w.heap.size, 2, none⟩ _).setCell ⟨w.heap.size, 3, none⟩ _).setCell ⟨w.heap.size, 4, none⟩ _).setCell ⟨w.heap.size, 5, none⟩ _ = W3 at *
      obtain ⟨y0, y1, y2, y3, y4, y5⟩ := cells6 hf
      clear hf
      refine bodyPost_ret (v := .tuple #[.agg #[.int .i64 c0, .int .i64 c1, .int .i64 c2, .int .i64 c3, .int .i64 c4, .int .i64 c5], .int .i64 (a : Int)]) ?_ rfl ?_
      · simp [results, Try.results29, go_sem, y0, y1, y2, y3, y4, y5]
      · unfold NumPost
        exact ⟨hBf, by rw [Hn.out]; simp only; rw [Hc.out]⟩
end Go.Proofs.Ytmkpdknlkblegaa.Rd
/- weighlockref16.Decode, by hand. -/
namespace Go.Proofs.Ytmkpdknlkblegaa.Rd
open Go.RowKit Go.Proofs.YtmkpdknlkblegaaW.PrintWords Go.Proofs.Ytmkpdknlkblegaa.PB
set_option maxRecDepth 100000
set_option linter.unusedSimpArgs false
set_option linter.unusedVariables false
def zgot : Array Value := #[.int .i64 0, .int .i64 0, .string ⟨#[]⟩, .string ⟨#[]⟩, .bool false, .int .i64 0, .int .i64 0, .int .i64 0, .int .i64 0, .bool false]
theorem fill10 {o : Nat} {w : World} {v0 v1 v2 v3 v4 v5 v6 v7 v8 v9 : Value} {t : TypeId} (h : w.heap[o]? = some (.cells #[v0, v1, v2, v3, v4, v5, v6, v7, v8, v9] t (0, 0))) (u0 u1 u2 u3 u4 u5 u6 u7 u8 u9 : Value) : ((((((((((w.setCell ⟨o, 0, none⟩ u0).setCell ⟨o, 1, none⟩ u1).setCell ⟨o, 2, none⟩ u2).setCell ⟨o, 3, none⟩ u3).setCell ⟨o, 4, none⟩ u4).setCell ⟨o, 5, none⟩ u5).setCell ⟨o, 6, none⟩ u6).setCell ⟨o, 7, none⟩ u7).setCell ⟨o, 8, none⟩ u8).setCell ⟨o, 9, none⟩ u9).heap[o]? = some (.cells #[u0, u1, u2, u3, u4, u5, u6, u7, u8, u9] t (0, 0)) := by
  have := (Own.heap_set (i := 9) (Own.heap_set (i := 8) (Own.heap_set (i := 7) (Own.heap_set (i := 6) (Own.heap_set (i := 5) (Own.heap_set (i := 4) (Own.heap_set (i := 3) (Own.heap_set (i := 2) (Own.heap_set (i := 1) (Own.heap_set (i := 0) h u0) u1) u2) u3) u4) u5) u6) u7) u8) u9)
  simpa using this
theorem below10 {B o : Nat} {W w : World} (h : Below B W w) (hb : B ≤ o) (u0 u1 u2 u3 u4 u5 u6 u7 u8 u9 : Value) : Below B W ((((((((((w.setCell ⟨o, 0, none⟩ u0).setCell ⟨o, 1, none⟩ u1).setCell ⟨o, 2, none⟩ u2).setCell ⟨o, 3, none⟩ u3).setCell ⟨o, 4, none⟩ u4).setCell ⟨o, 5, none⟩ u5).setCell ⟨o, 6, none⟩ u6).setCell ⟨o, 7, none⟩ u7).setCell ⟨o, 8, none⟩ u8).setCell ⟨o, 9, none⟩ u9) :=
  ((((((((((h.setCell (show B ≤ (⟨o, 0, none⟩ : Addr).block from hb) u0).setCell (show B ≤ (⟨o, 1, none⟩ : Addr).block from hb) u1).setCell (show B ≤ (⟨o, 2, none⟩ : Addr).block from hb) u2).setCell (show B ≤ (⟨o, 3, none⟩ : Addr).block from hb) u3).setCell (show B ≤ (⟨o, 4, none⟩ : Addr).block from hb) u4).setCell (show B ≤ (⟨o, 5, none⟩ : Addr).block from hb) u5).setCell (show B ≤ (⟨o, 6, none⟩ : Addr).block from hb) u6).setCell (show B ≤ (⟨o, 7, none⟩ : Addr).block from hb) u7).setCell (show B ≤ (⟨o, 8, none⟩ : Addr).block from hb) u8).setCell (show B ≤ (⟨o, 9, none⟩ : Addr).block from hb) u9)
theorem cells10 {o : Nat} {w : World} {v0 v1 v2 v3 v4 v5 v6 v7 v8 v9 : Value} {t : TypeId} (h : w.heap[o]? = some (.cells #[v0, v1, v2, v3, v4, v5, v6, v7, v8, v9] t (0, 0))) : w.cell? ⟨o, 0, none⟩ = some v0 ∧ w.cell? ⟨o, 1, none⟩ = some v1 ∧ w.cell? ⟨o, 2, none⟩ = some v2 ∧ w.cell? ⟨o, 3, none⟩ = some v3 ∧ w.cell? ⟨o, 4, none⟩ = some v4 ∧ w.cell? ⟨o, 5, none⟩ = some v5 ∧ w.cell? ⟨o, 6, none⟩ = some v6 ∧ w.cell? ⟨o, 7, none⟩ = some v7 ∧ w.cell? ⟨o, 8, none⟩ = some v8 ∧ w.cell? ⟨o, 9, none⟩ = some v9 :=
  ⟨by rw [Own.blk_cell h]; rfl, by rw [Own.blk_cell h]; rfl, by rw [Own.blk_cell h]; rfl, by rw [Own.blk_cell h]; rfl, by rw [Own.blk_cell h]; rfl, by rw [Own.blk_cell h]; rfl, by rw [Own.blk_cell h]; rfl, by rw [Own.blk_cell h]; rfl, by rw [Own.blk_cell h]; rfl, by rw [Own.blk_cell h]; rfl⟩
theorem frees10 {o : Nat} {w : World} {c : Array Value} {t : TypeId} (h : w.heap[o]? = some (.cells c t (0, 0))) : w.frozen? ⟨o, 0, none⟩ = false ∧ w.frozen? ⟨o, 1, none⟩ = false ∧ w.frozen? ⟨o, 2, none⟩ = false ∧ w.frozen? ⟨o, 3, none⟩ = false ∧ w.frozen? ⟨o, 4, none⟩ = false ∧ w.frozen? ⟨o, 5, none⟩ = false ∧ w.frozen? ⟨o, 6, none⟩ = false ∧ w.frozen? ⟨o, 7, none⟩ = false ∧ w.frozen? ⟨o, 8, none⟩ = false ∧ w.frozen? ⟨o, 9, none⟩ = false :=
  ⟨Own.blk_free h 0, Own.blk_free h 1, Own.blk_free h 2, Own.blk_free h 3, Own.blk_free h 4, Own.blk_free h 5, Own.blk_free h 6, Own.blk_free h 7, Own.blk_free h 8, Own.blk_free h 9⟩
structure DS (o : Nat) (W w : World) : Prop where
  out : w.heap[o]? = some (.cells zgot 35 (0, 0))
  bel : Below o W w
theorem DS.below {o : Nat} {W w w1 : World} (h : DS o W w) (hb : Below w.heap.size w w1) : DS o W w1 := ⟨Own.blk_below h.out hb, h.bel.trans (hb.mono (Nat.le_of_lt (Own.blk_lt h.out)))⟩
def gotV : Option (S23 × Nat) → Value
  | none => .agg zgot
  | some (r, c) => .agg #[.int .i64 r.f0, .int .i64 r.f1, .string r.f2, .string r.f3, .bool r.f4, .int .i64 r.f5, .int .i64 r.f6, .int .i64 r.f7, .int .i64 (c : Int), .bool true]
def GPost (s : ByteArray) (w : World) (e : Ending) (w' : World) : Prop := e = .returned (gotV (decR s)) ∧ Below w.heap.size w w'
set_option maxHeartbeats 8000000 in
theorem refdec_any {s : ByteArray} (w : World) (hm : s.size ≤ 9223372036854775807) :
    Calls Try.prog 16 #[.string s] w (GPost s w) := by
  have hds : DS w.heap.size w (w.alloc (.cells zgot 35)) := ⟨Own.heap_new w _, (Below.refl _ w).alloc (Nat.le_refl _) _⟩
  have D0 := Lib.hid hds; clear hds
  go_enter Try.func16, Try.ntmps16
  go_wp2_with fail
  refine (numbers_any _ hm).mono ?_
  rintro e w1 ⟨b1, hp⟩
  have D1 := Lib.hid (D0.out.below b1); clear b1 D0
  cases hn : numsTo s 6 with
  | none =>
    rw [hn] at hp
    obtain ⟨c0, c1, c2, c3, c4, c5, rfl⟩ := hp
    have Hd : Hid (decR s = none) := by show decR s = none; unfold decR; rw [hn]
    clear hn
    go_upto_region 3 with (fail)
    have hD2 := D1.out.below ((Below.refl _ w1).alloc (Nat.le_refl _) (.cells #[.int .i64 c0, .int .i64 c1, .int .i64 c2, .int .i64 c3, .int .i64 c4, .int .i64 c5] 57))
    generalize w1.alloc _ = W2 at *
    have D2 := Lib.hid hD2; clear hD2 D1
    obtain ⟨y0, y1, y2, y3, y4, y5, y6, y7, y8, y9⟩ := cells10 (show W2.heap[w.heap.size]? = some (.cells #[.int .i64 0, .int .i64 0, .string ⟨#[]⟩, .string ⟨#[]⟩, .bool false, .int .i64 0, .int .i64 0, .int .i64 0, .int .i64 0, .bool false] 35 (0, 0)) from D2.out.out)
    obtain ⟨f0, f1, f2, f3, f4, f5, f6, f7, f8, f9⟩ := frees10 D2.out.out
    go_wp2
    clear y0 y1 y2 y3 y4 y5 y6 y7 y8 y9 f0 f1 f2 f3 f4 f5 f6 f7 f8 f9
    have hf := fill10 (show W2.heap[w.heap.size]? = some (.cells #[.int .i64 0, .int .i64 0, .string ⟨#[]⟩, .string ⟨#[]⟩, .bool false, .int .i64 0, .int .i64 0, .int .i64 0, .int .i64 0, .bool false] 35 (0, 0)) from D2.out.out) (.int .i64 0) (.int .i64 0) (.string ⟨#[]⟩) (.string ⟨#[]⟩) (.bool false) (.int .i64 0) (.int .i64 0) (.int .i64 0) (.int .i64 0) (.bool false)
    have hBf := below10 D2.out.bel (Nat.le_refl _) (.int .i64 0) (.int .i64 0) (.string ⟨#[]⟩) (.string ⟨#[]⟩) (.bool false) (.int .i64 0) (.int .i64 0) (.int .i64 0) (.int .i64 0) (.bool false)
    generalize (((((((((W2.setCell ⟨w.heap.size, 0, none⟩ _).setCell ⟨w.heap.size, 1, none⟩ _).setCell ⟨w.heap.size, 2, none⟩ _).setCell ⟨w.heap.size, 3, none⟩ _).setCell ⟨w.heap.size, 4, none⟩ _).setCell ⟨w.heap.size, 5, none⟩ _).setCell ⟨w.heap.size, 6, none⟩ _).setCell ⟨w.heap.size, 7, none⟩ _).setCell ⟨w.heap.size, 8, none⟩ _).setCell ⟨w.heap.size, 9, none⟩ _ = WF at *
    obtain ⟨y0, y1, y2, y3, y4, y5, y6, y7, y8, y9⟩ := cells10 hf
    clear hf
    refine bodyPost_ret (v := .agg #[.int .i64 0, .int .i64 0, .string ⟨#[]⟩, .string ⟨#[]⟩, .bool false, .int .i64 0, .int .i64 0, .int .i64 0, .int .i64 0, .bool false]) ?_ rfl ?_
    · simp [results, Try.results16, go_sem, y0, y1, y2, y3, y4, y5, y6, y7, y8, y9]
    · unfold GPost; rw [Hd.out]; exact ⟨rfl, hBf⟩
  | some p =>
    obtain ⟨l, a⟩ := p
    rw [hn] at hp
    obtain ⟨hl, ha, hv⟩ := numsTo_le hn
    obtain ⟨a0, a1, a2, a3, a4, a5, rfl⟩ := list6 hl
    have hp2 : e = .returned (.tuple #[.agg #[.int .i64 (a0 : Int), .int .i64 (a1 : Int), .int .i64 (a2 : Int), .int .i64 (a3 : Int), .int .i64 (a4 : Int), .int .i64 (a5 : Int)], .int .i64 (a : Int)]) := hp
    subst hp2
    clear hp hl hv
    have Hn := Lib.hid hn; clear hn
    have ha0 : ¬ (a : Int) < 0 := by omega
    have ha1 : (0 : Int) ≤ (a : Int) := by omega
    have ha2 : (a : Int) ≤ (s.size : Int) := by omega
    by_cases h5 : a5 ≤ 1
    · have h5' : ¬ (1 : Int) < (a5 : Int) := by omega
      go_wp2_with fail
      have hD2 := D1.out.below ((Below.refl _ w1).alloc (Nat.le_refl _) (.cells #[.int .i64 (a0 : Int), .int .i64 (a1 : Int), .int .i64 (a2 : Int), .int .i64 (a3 : Int), .int .i64 (a4 : Int), .int .i64 (a5 : Int)] 57))
      have hN2 := Own.heap_new w1 (.cells #[.int .i64 (a0 : Int), .int .i64 (a1 : Int), .int .i64 (a2 : Int), .int .i64 (a3 : Int), .int .i64 (a4 : Int), .int .i64 (a5 : Int)] 57)
      have lt2 : w.heap.size < w1.heap.size := Own.blk_lt D1.out.out
      generalize w1.alloc _ = W2 at *
      generalize w1.heap.size = gn at *
      have D2 := Lib.hid hD2; clear hD2 D1
      have N2 := Lib.hid hN2; clear hN2
      cases ht1 : txt s a with
      | none =>
        have Hd : Hid (decR s = none) := decR_txt1 Hn.out ht1
        obtain ⟨e3, hu, he3⟩ := txt_none ha ht1
        obtain ⟨k1, hk1⟩ := Ev.rounds (refUntext_ev (s.extract a s.size) (by rw [cut_size]; omega))
        rw [hu] at hk1
        have Hk1 := Lib.hid hk1; clear hk1 hu ht1
        have q1 : ((e3 : Int) == 0) = false := by rw [beq_eq_false_iff_ne]; exact he3
        have q2 : ((e3 : Int) != 0) = true := by rw [bne_iff_ne]; exact he3
        refine (weighlockref01_Untext.calls k1 _ _ _ _ _ Hk1.out).mono ?_
        rintro e w3 ⟨rfl, b3⟩
        have D3 := Lib.hid (D2.out.below b3); clear b3 D2 N2
        go_upto_region 6 with (fail)
        have hD4 := D3.out.below ((Below.refl _ w3).alloc (Nat.le_refl _) (.cells #[.string ⟨#[]⟩, .int .i64 0, .int .i64 e3] 61))
        generalize w3.alloc _ = W4 at *
        have D4 := Lib.hid hD4; clear hD4 D3
        obtain ⟨y0, y1, y2, y3, y4, y5, y6, y7, y8, y9⟩ := cells10 (show W4.heap[w.heap.size]? = some (.cells #[.int .i64 0, .int .i64 0, .string ⟨#[]⟩, .string ⟨#[]⟩, .bool false, .int .i64 0, .int .i64 0, .int .i64 0, .int .i64 0, .bool false] 35 (0, 0)) from D4.out.out)
        obtain ⟨f0, f1, f2, f3, f4, f5, f6, f7, f8, f9⟩ := frees10 D4.out.out
        go_wp2
        clear y0 y1 y2 y3 y4 y5 y6 y7 y8 y9 f0 f1 f2 f3 f4 f5 f6 f7 f8 f9
        have hf := fill10 (show W4.heap[w.heap.size]? = some (.cells #[.int .i64 0, .int .i64 0, .string ⟨#[]⟩, .string ⟨#[]⟩, .bool false, .int .i64 0, .int .i64 0, .int .i64 0, .int .i64 0, .bool false] 35 (0, 0)) from D4.out.out) (.int .i64 0) (.int .i64 0) (.string ⟨#[]⟩) (.string ⟨#[]⟩) (.bool false) (.int .i64 0) (.int .i64 0) (.int .i64 0) (.int .i64 0) (.bool false)
        have hBf := below10 D4.out.bel (Nat.le_refl _) (.int .i64 0) (.int .i64 0) (.string ⟨#[]⟩) (.string ⟨#[]⟩) (.bool false) (.int .i64 0) (.int .i64 0) (.int .i64 0) (.int .i64 0) (.bool false)
        generalize (((((((((W4.setCell ⟨w.heap.size, 0, none⟩ _).setCell ⟨w.heap.size, 1, none⟩ _).setCell ⟨w.heap.size, 2, none⟩ _).setCell ⟨w.heap.size, 3, none⟩ _).setCell ⟨w.heap.size, 4, none⟩ _).setCell ⟨w.heap.size, 5, none⟩ _).setCell ⟨w.heap.size, 6, none⟩ _).setCell ⟨w.heap.size, 7, none⟩ _).setCell ⟨w.heap.size, 8, none⟩ _).setCell ⟨w.heap.size, 9, none⟩ _ = WF at *
        obtain ⟨y0, y1, y2, y3, y4, y5, y6, y7, y8, y9⟩ := cells10 hf
        clear hf
        refine bodyPost_ret (v := .agg #[.int .i64 0, .int .i64 0, .string ⟨#[]⟩, .string ⟨#[]⟩, .bool false, .int .i64 0, .int .i64 0, .int .i64 0, .int .i64 0, .bool false]) ?_ rfl ?_
        · simp [results, Try.results16, go_sem, y0, y1, y2, y3, y4, y5, y6, y7, y8, y9]
        · unfold GPost; rw [Hd.out]; exact ⟨rfl, hBf⟩
      | some q =>
        obtain ⟨key, b⟩ := q
        obtain ⟨hu, hab, hbs⟩ := txt_some ha ht1
        have Ht1 := Lib.hid ht1; clear ht1
        obtain ⟨k1, hk1⟩ := Ev.rounds (refUntext_ev (s.extract a s.size) (by rw [cut_size]; omega))
        rw [hu] at hk1
        have Hk1 := Lib.hid hk1; clear hk1 hu
        obtain ⟨d, hd⟩ : ∃ d, (b : Int) - (a : Int) = d := ⟨_, rfl⟩
        rw [hd] at Hk1
        have hw1 : IntKind.i64.wrap ((a : Int) + d) = (b : Int) := by rw [show (a : Int) + d = b by omega]; exact IntWalk.i64_in _ (by omega)
        have hw2 : wrap64 ((a : Int) + d) = (b : Int) := by rw [show (a : Int) + d = b by omega]; exact Pu.wrap_id (by omega) (by omega)
        have hd0 : 0 ≤ d := by omega
        have hd1 : d ≤ 9223372036854775807 := by omega
        have hb1 : (0 : Int) ≤ (b : Int) := by omega
        have hb2 : (b : Int) ≤ (s.size : Int) := by omega
        have Hd0 := Lib.hid hd; clear hd
        refine (weighlockref01_Untext.calls k1 _ _ _ _ _ Hk1.out).mono ?_
        rintro e w3 ⟨rfl, b3⟩
        have D3 := Lib.hid (D2.out.below b3)
        have N3 := Lib.hid (Own.blk_below N2.out b3)
        have lt3 : gn < w3.heap.size := Own.blk_lt N3.out
        clear b3 D2 N2
        go_upto_region 7 with (fail)
        have hD4 := D3.out.below ((Below.refl _ w3).alloc (Nat.le_refl _) (.cells #[.string key, .int .i64 d, .int .i64 0] 61))
        have hN4 := (Own.heap_old w3 (.cells #[.string key, .int .i64 d, .int .i64 0] 61) (Own.blk_lt N3.out)).trans N3.out
        have hK4 := Own.heap_new w3 (.cells #[.string key, .int .i64 d, .int .i64 0] 61)
        generalize w3.alloc _ = W4 at *
        generalize w3.heap.size = gk at *
        have D4 := Lib.hid hD4; clear hD4 D3
        have N4 := Lib.hid hN4; clear hN4 N3
        have k0 : W4.cell? ⟨gk, 0, none⟩ = some (.string key) := by rw [Own.blk_cell hK4]; rfl
        have k1c : W4.cell? ⟨gk, 1, none⟩ = some (.int .i64 d) := by rw [Own.blk_cell hK4]; rfl
        have K4 := Lib.hid hK4; clear hK4
        go_wp2_with fail
        cases ht2 : txt s b with
        | none =>
          have Hd : Hid (decR s = none) := decR_txt2 Hn.out Ht1.out ht2
          obtain ⟨e3, hu, he3⟩ := txt_none hbs ht2
          obtain ⟨k2, hk2⟩ := Ev.rounds (refUntext_ev (s.extract b s.size) (by rw [cut_size]; omega))
          rw [hu] at hk2
          have Hk2 := Lib.hid hk2; clear hk2 hu ht2
          have q1 : ((e3 : Int) == 0) = false := by rw [beq_eq_false_iff_ne]; exact he3
          have q2 : ((e3 : Int) != 0) = true := by rw [bne_iff_ne]; exact he3
          refine (weighlockref01_Untext.calls k2 _ _ _ _ _ Hk2.out).mono ?_
          rintro e w5 ⟨rfl, b5⟩
          have D5 := Lib.hid (D4.out.below b5); clear b5 D4 N4 K4 k0 k1c
          go_upto_region 9 with (fail)
          have hD6 := D5.out.below ((Below.refl _ w5).alloc (Nat.le_refl _) (.cells #[.string ⟨#[]⟩, .int .i64 0, .int .i64 e3] 61))
          generalize w5.alloc _ = W6 at *
          have D6 := Lib.hid hD6; clear hD6 D5
          obtain ⟨y0, y1, y2, y3, y4, y5, y6, y7, y8, y9⟩ := cells10 (show W6.heap[w.heap.size]? = some (.cells #[.int .i64 0, .int .i64 0, .string ⟨#[]⟩, .string ⟨#[]⟩, .bool false, .int .i64 0, .int .i64 0, .int .i64 0, .int .i64 0, .bool false] 35 (0, 0)) from D6.out.out)
          obtain ⟨f0, f1, f2, f3, f4, f5, f6, f7, f8, f9⟩ := frees10 D6.out.out
          go_wp2
          clear y0 y1 y2 y3 y4 y5 y6 y7 y8 y9 f0 f1 f2 f3 f4 f5 f6 f7 f8 f9
          have hf := fill10 (show W6.heap[w.heap.size]? = some (.cells #[.int .i64 0, .int .i64 0, .string ⟨#[]⟩, .string ⟨#[]⟩, .bool false, .int .i64 0, .int .i64 0, .int .i64 0, .int .i64 0, .bool false] 35 (0, 0)) from D6.out.out) (.int .i64 0) (.int .i64 0) (.string ⟨#[]⟩) (.string ⟨#[]⟩) (.bool false) (.int .i64 0) (.int .i64 0) (.int .i64 0) (.int .i64 0) (.bool false)
          have hBf := below10 D6.out.bel (Nat.le_refl _) (.int .i64 0) (.int .i64 0) (.string ⟨#[]⟩) (.string ⟨#[]⟩) (.bool false) (.int .i64 0) (.int .i64 0) (.int .i64 0) (.int .i64 0) (.bool false)
          generalize (((((((((W6.setCell ⟨w.heap.size, 0, none⟩ _).setCell ⟨w.heap.size, 1, none⟩ _).setCell ⟨w.heap.size, 2, none⟩ _).setCell ⟨w.heap.size, 3, none⟩ _).setCell ⟨w.heap.size, 4, none⟩ _).setCell ⟨w.heap.size, 5, none⟩ _).setCell ⟨w.heap.size, 6, none⟩ _).setCell ⟨w.heap.size, 7, none⟩ _).setCell ⟨w.heap.size, 8, none⟩ _).setCell ⟨w.heap.size, 9, none⟩ _ = WF at *
          obtain ⟨y0, y1, y2, y3, y4, y5, y6, y7, y8, y9⟩ := cells10 hf
          clear hf
          refine bodyPost_ret (v := .agg #[.int .i64 0, .int .i64 0, .string ⟨#[]⟩, .string ⟨#[]⟩, .bool false, .int .i64 0, .int .i64 0, .int .i64 0, .int .i64 0, .bool false]) ?_ rfl ?_
          · simp [results, Try.results16, go_sem, y0, y1, y2, y3, y4, y5, y6, y7, y8, y9]
          · unfold GPost; rw [Hd.out]; exact ⟨rfl, hBf⟩
        | some q2 =>
          obtain ⟨val, c⟩ := q2
          obtain ⟨hu, hbc, hcs⟩ := txt_some hbs ht2
          have Hend := Lib.hid (decR_end Hn.out Ht1.out ht2)
          clear ht2
          obtain ⟨k2, hk2⟩ := Ev.rounds (refUntext_ev (s.extract b s.size) (by rw [cut_size]; omega))
          rw [hu] at hk2
          have Hk2 := Lib.hid hk2; clear hk2 hu
          obtain ⟨d2, hd2⟩ : ∃ d2, (c : Int) - (b : Int) = d2 := ⟨_, rfl⟩
          rw [hd2] at Hk2
          have hw3 : IntKind.i64.wrap ((b : Int) + d2) = (c : Int) := by rw [show (b : Int) + d2 = c by omega]; exact IntWalk.i64_in _ (by omega)
          have hw4 : wrap64 ((b : Int) + d2) = (c : Int) := by rw [show (b : Int) + d2 = c by omega]; exact Pu.wrap_id (by omega) (by omega)
          have hd20 : 0 ≤ d2 := by omega
          have hd21 : d2 ≤ 9223372036854775807 := by omega
          have Hd2 := Lib.hid hd2; clear hd2
          refine (weighlockref01_Untext.calls k2 _ _ _ _ _ Hk2.out).mono ?_
          rintro e w5 ⟨rfl, b5⟩
          have D5 := Lib.hid (D4.out.below b5)
          have N5 := Lib.hid (Own.blk_below N4.out b5)
          have K5 := Lib.hid (Own.blk_below K4.out b5)
          have lt5 : gk < w5.heap.size := Own.blk_lt K5.out
          clear b5 D4 N4 K4 k0 k1c
          go_upto_region 10 with (fail)
          have hD6 := D5.out.below ((Below.refl _ w5).alloc (Nat.le_refl _) (.cells #[.string val, .int .i64 d2, .int .i64 0] 61))
          have hN6 := (Own.heap_old w5 (.cells #[.string val, .int .i64 d2, .int .i64 0] 61) (Own.blk_lt N5.out)).trans N5.out
          have hK6 := (Own.heap_old w5 (.cells #[.string val, .int .i64 d2, .int .i64 0] 61) (Own.blk_lt K5.out)).trans K5.out
          have hV6 := Own.heap_new w5 (.cells #[.string val, .int .i64 d2, .int .i64 0] 61)
          generalize w5.alloc _ = W6 at *
          generalize w5.heap.size = gv at *
          have D6 := Lib.hid hD6; clear hD6 D5 N5 K5
          obtain ⟨x0, x1, x2, x3, x4, x5⟩ := cells6 hN6
          have k0 : W6.cell? ⟨gk, 0, none⟩ = some (.string key) := by rw [Own.blk_cell hK6]; rfl
          have v0 : W6.cell? ⟨gv, 0, none⟩ = some (.string val) := by rw [Own.blk_cell hV6]; rfl
          have K6 := Lib.hid hK6; clear hK6
          have V6 := Lib.hid hV6; clear hV6
          clear hN6
          obtain ⟨fl, hfl⟩ : ∃ fl, decide (a5 = 1) = fl := ⟨_, rfl⟩
          have q5 : ((a5 : Int) == 1) = fl := by rw [← hfl]; by_cases h : a5 = 1 <;> simp [h]; omega
          have Hfl := Lib.hid hfl; clear hfl
          have emk : mkR [a0, a1, a2, a3, a4, a5] key val = ⟨a0, a1, key, val, fl, a2, a3, a4⟩ := by rw [← Hfl.out]; rfl
          obtain ⟨km, hkm⟩ := Ev.rounds (PuB.refMay_ev ⟨a0, a1, key, val, fl, a2, a3, a4⟩)
          go_upto_region 11 with (fail)
          have hD7 := D6.out.below ((Below.refl _ W6).alloc (Nat.le_refl _) (.cells #[.int .i64 (a0 : Int), .int .i64 (a1 : Int), .string key, .string val, .bool fl, .int .i64 (a2 : Int), .int .i64 (a3 : Int), .int .i64 (a4 : Int)] 23))
          have hK7 := (Own.heap_old W6 (.cells #[.int .i64 (a0 : Int), .int .i64 (a1 : Int), .string key, .string val, .bool fl, .int .i64 (a2 : Int), .int .i64 (a3 : Int), .int .i64 (a4 : Int)] 23) (Own.blk_lt K6.out)).trans K6.out
          have hV7 := (Own.heap_old W6 (.cells #[.int .i64 (a0 : Int), .int .i64 (a1 : Int), .string key, .string val, .bool fl, .int .i64 (a2 : Int), .int .i64 (a3 : Int), .int .i64 (a4 : Int)] 23) (Own.blk_lt V6.out)).trans V6.out
          have hR7 := Own.heap_new W6 (.cells #[.int .i64 (a0 : Int), .int .i64 (a1 : Int), .string key, .string val, .bool fl, .int .i64 (a2 : Int), .int .i64 (a3 : Int), .int .i64 (a4 : Int)] 23)
          have lt6 : gv < W6.heap.size := Own.blk_lt V6.out
          clear x0 x1 x2 x3 x4 x5 k0 v0
          generalize W6.alloc _ = W7 at *
          generalize W6.heap.size = gr at *
          have D7 := Lib.hid hD7; clear hD7 D6 K6 V6
          have K7 := Lib.hid hK7; clear hK7
          have V7 := Lib.hid hV7; clear hV7
          obtain ⟨r0, r1, r2, r3, r4, r5, r6, r7⟩ := ocells hR7
          have R7 := Lib.hid hR7; clear hR7
          cases hmb : PuB.mayB ⟨a0, a1, key, val, fl, a2, a3, a4⟩ with
          | false =>
            have Hd : Hid (decR s = none) := by have := Hend.out; rw [emk, if_neg (by rw [hmb]; simp)] at this; exact this
            rw [hmb] at hkm
            have Hk := Lib.hid hkm; clear hkm hmb emk Hend
            go_wp2_with fail
            refine (weighlockref16_May.calls km _ _ _ _ _ _ _ _ _ _ Hk.out).mono ?_
            rintro e w8 ⟨rfl, b8⟩
            have D8 := Lib.hid (D7.out.below b8); clear b8 D7 K7 V7 R7 r0 r1 r2 r3 r4 r5 r6 r7
            obtain ⟨y0, y1, y2, y3, y4, y5, y6, y7, y8, y9⟩ := cells10 (show w8.heap[w.heap.size]? = some (.cells #[.int .i64 0, .int .i64 0, .string ⟨#[]⟩, .string ⟨#[]⟩, .bool false, .int .i64 0, .int .i64 0, .int .i64 0, .int .i64 0, .bool false] 35 (0, 0)) from D8.out.out)
            obtain ⟨f0, f1, f2, f3, f4, f5, f6, f7, f8, f9⟩ := frees10 D8.out.out
            go_wp2
            clear y0 y1 y2 y3 y4 y5 y6 y7 y8 y9 f0 f1 f2 f3 f4 f5 f6 f7 f8 f9
            have hf := fill10 (show w8.heap[w.heap.size]? = some (.cells #[.int .i64 0, .int .i64 0, .string ⟨#[]⟩, .string ⟨#[]⟩, .bool false, .int .i64 0, .int .i64 0, .int .i64 0, .int .i64 0, .bool false] 35 (0, 0)) from D8.out.out) (.int .i64 0) (.int .i64 0) (.string ⟨#[]⟩) (.string ⟨#[]⟩) (.bool false) (.int .i64 0) (.int .i64 0) (.int .i64 0) (.int .i64 0) (.bool false)
            have hBf := below10 D8.out.bel (Nat.le_refl _) (.int .i64 0) (.int .i64 0) (.string ⟨#[]⟩) (.string ⟨#[]⟩) (.bool false) (.int .i64 0) (.int .i64 0) (.int .i64 0) (.int .i64 0) (.bool false)
            generalize (((((((((w8.setCell ⟨w.heap.size, 0, none⟩ _).setCell ⟨w.heap.size, 1, none⟩ _).setCell ⟨w.heap.size, 2, none⟩ _).setCell ⟨w.heap.size, 3, none⟩ _).setCell ⟨w.heap.size, 4, none⟩ _).setCell ⟨w.heap.size, 5, none⟩ _).setCell ⟨w.heap.size, 6, none⟩ _).setCell ⟨w.heap.size, 7, none⟩ _).setCell ⟨w.heap.size, 8, none⟩ _).setCell ⟨w.heap.size, 9, none⟩ _ = WF at *
            obtain ⟨y0, y1, y2, y3, y4, y5, y6, y7, y8, y9⟩ := cells10 hf
            clear hf
            refine bodyPost_ret (v := .agg #[.int .i64 0, .int .i64 0, .string ⟨#[]⟩, .string ⟨#[]⟩, .bool false, .int .i64 0, .int .i64 0, .int .i64 0, .int .i64 0, .bool false]) ?_ rfl ?_
            · simp [results, Try.results16, go_sem, y0, y1, y2, y3, y4, y5, y6, y7, y8, y9]
            · unfold GPost; rw [Hd.out]; exact ⟨rfl, hBf⟩
          | true =>
            have Hd : Hid (decR s = some (⟨a0, a1, key, val, fl, a2, a3, a4⟩, c)) := by have := Hend.out; rw [emk, if_pos ⟨by simpa using h5, hmb⟩] at this; exact this
            rw [hmb] at hkm
            have Hk := Lib.hid hkm; clear hkm hmb emk Hend
            go_wp2_with fail
            refine (weighlockref16_May.calls km _ _ _ _ _ _ _ _ _ _ Hk.out).mono ?_
            rintro e w8 ⟨rfl, b8⟩
            have D8 := Lib.hid (D7.out.below b8)
            obtain ⟨r0, r1, r2, r3, r4, r5, r6, r7⟩ := ocells (Own.blk_below R7.out b8)
            have k1c : w8.cell? ⟨gk, 1, none⟩ = some (.int .i64 d) := by rw [Own.blk_cell (Own.blk_below K7.out b8)]; rfl
            have v1c : w8.cell? ⟨gv, 1, none⟩ = some (.int .i64 d2) := by rw [Own.blk_cell (Own.blk_below V7.out b8)]; rfl
            clear b8 D7 K7 V7 R7
            obtain ⟨y0, y1, y2, y3, y4, y5, y6, y7, y8, y9⟩ := cells10 (show w8.heap[w.heap.size]? = some (.cells #[.int .i64 0, .int .i64 0, .string ⟨#[]⟩, .string ⟨#[]⟩, .bool false, .int .i64 0, .int .i64 0, .int .i64 0, .int .i64 0, .bool false] 35 (0, 0)) from D8.out.out)
            obtain ⟨f0, f1, f2, f3, f4, f5, f6, f7, f8, f9⟩ := frees10 D8.out.out
            go_wp2
            clear y0 y1 y2 y3 y4 y5 y6 y7 y8 y9 f0 f1 f2 f3 f4 f5 f6 f7 f8 f9
            have hf := fill10 (show w8.heap[w.heap.size]? = some (.cells #[.int .i64 0, .int .i64 0, .string ⟨#[]⟩, .string ⟨#[]⟩, .bool false, .int .i64 0, .int .i64 0, .int .i64 0, .int .i64 0, .bool false] 35 (0, 0)) from D8.out.out) (.int .i64 (a0 : Int)) (.int .i64 (a1 : Int)) (.string key) (.string val) (.bool fl) (.int .i64 (a2 : Int)) (.int .i64 (a3 : Int)) (.int .i64 (a4 : Int)) (.int .i64 (c : Int)) (.bool true)
            have hBf := below10 D8.out.bel (Nat.le_refl _) (.int .i64 (a0 : Int)) (.int .i64 (a1 : Int)) (.string key) (.string val) (.bool fl) (.int .i64 (a2 : Int)) (.int .i64 (a3 : Int)) (.int .i64 (a4 : Int)) (.int .i64 (c : Int)) (.bool true)
            generalize (((((((((w8.setCell ⟨w.heap.size, 0, none⟩ _).setCell ⟨w.heap.size, 1, none⟩ _).setCell ⟨w.heap.size, 2, none⟩ _).setCell ⟨w.heap.size, 3, none⟩ _).setCell ⟨w.heap.size, 4, none⟩ _).setCell ⟨w.heap.size, 5, none⟩ _).setCell ⟨w.heap.size, 6, none⟩ _).setCell ⟨w.heap.size, 7, none⟩ _).setCell ⟨w.heap.size, 8, none⟩ _).setCell ⟨w.heap.size, 9, none⟩ _ = WF at *
            obtain ⟨y0, y1, y2, y3, y4, y5, y6, y7, y8, y9⟩ := cells10 hf
            clear hf
            refine bodyPost_ret (v := .agg #[.int .i64 (a0 : Int), .int .i64 (a1 : Int), .string key, .string val, .bool fl, .int .i64 (a2 : Int), .int .i64 (a3 : Int), .int .i64 (a4 : Int), .int .i64 (c : Int), .bool true]) ?_ rfl ?_
            · simp [results, Try.results16, go_sem, y0, y1, y2, y3, y4, y5, y6, y7, y8, y9]
            · unfold GPost; rw [Hd.out]; exact ⟨rfl, hBf⟩
    · have h5' : (1 : Int) < (a5 : Int) := by omega
      have Hd : Hid (decR s = none) := by
        show decR s = none
        cases ht1 : txt s a with
        | none => exact decR_txt1 Hn.out ht1
        | some q =>
          obtain ⟨key, b⟩ := q
          cases ht2 : txt s b with
          | none => exact decR_txt2 Hn.out ht1 ht2
          | some q2 => rw [decR_end Hn.out ht1 (val := q2.1) (c := q2.2) ht2, if_neg (by intro h; exact h5 (by simpa using h.1))]
      clear h5
      go_upto_region 3 with (fail)
      have hD2 := D1.out.below ((Below.refl _ w1).alloc (Nat.le_refl _) (.cells #[.int .i64 (a0 : Int), .int .i64 (a1 : Int), .int .i64 (a2 : Int), .int .i64 (a3 : Int), .int .i64 (a4 : Int), .int .i64 (a5 : Int)] 57))
      generalize w1.alloc _ = W2 at *
      have D2 := Lib.hid hD2; clear hD2 D1
      obtain ⟨y0, y1, y2, y3, y4, y5, y6, y7, y8, y9⟩ := cells10 (show W2.heap[w.heap.size]? = some (.cells #[.int .i64 0, .int .i64 0, .string ⟨#[]⟩, .string ⟨#[]⟩, .bool false, .int .i64 0, .int .i64 0, .int .i64 0, .int .i64 0, .bool false] 35 (0, 0)) from D2.out.out)
      obtain ⟨f0, f1, f2, f3, f4, f5, f6, f7, f8, f9⟩ := frees10 D2.out.out
      go_wp2
      clear y0 y1 y2 y3 y4 y5 y6 y7 y8 y9 f0 f1 f2 f3 f4 f5 f6 f7 f8 f9
      have hf := fill10 (show W2.heap[w.heap.size]? = some (.cells #[.int .i64 0, .int .i64 0, .string ⟨#[]⟩, .string ⟨#[]⟩, .bool false, .int .i64 0, .int .i64 0, .int .i64 0, .int .i64 0, .bool false] 35 (0, 0)) from D2.out.out) (.int .i64 0) (.int .i64 0) (.string ⟨#[]⟩) (.string ⟨#[]⟩) (.bool false) (.int .i64 0) (.int .i64 0) (.int .i64 0) (.int .i64 0) (.bool false)
      have hBf := below10 D2.out.bel (Nat.le_refl _) (.int .i64 0) (.int .i64 0) (.string ⟨#[]⟩) (.string ⟨#[]⟩) (.bool false) (.int .i64 0) (.int .i64 0) (.int .i64 0) (.int .i64 0) (.bool false)
      generalize (((((((((W2.setCell ⟨w.heap.size, 0, none⟩ _).setCell ⟨w.heap.size, 1, none⟩ _).setCell ⟨w.heap.size, 2, none⟩ _).setCell ⟨w.heap.size, 3, none⟩ _).setCell ⟨w.heap.size, 4, none⟩ _).setCell ⟨w.heap.size, 5, none⟩ _).setCell ⟨w.heap.size, 6, none⟩ _).setCell ⟨w.heap.size, 7, none⟩ _).setCell ⟨w.heap.size, 8, none⟩ _).setCell ⟨w.heap.size, 9, none⟩ _ = WF at *
      obtain ⟨y0, y1, y2, y3, y4, y5, y6, y7, y8, y9⟩ := cells10 hf
      clear hf
      refine bodyPost_ret (v := .agg #[.int .i64 0, .int .i64 0, .string ⟨#[]⟩, .string ⟨#[]⟩, .bool false, .int .i64 0, .int .i64 0, .int .i64 0, .int .i64 0, .bool false]) ?_ rfl ?_
      · simp [results, Try.results16, go_sem, y0, y1, y2, y3, y4, y5, y6, y7, y8, y9]
      · unfold GPost; rw [Hd.out]; exact ⟨rfl, hBf⟩
end Go.Proofs.Ytmkpdknlkblegaa.Rd
