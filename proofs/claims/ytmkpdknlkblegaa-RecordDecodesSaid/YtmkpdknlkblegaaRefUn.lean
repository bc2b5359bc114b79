/- What the document's Unchain and Untext tell, out of the printed functions: the same. -/
import Derived.Test.YtmkpdknlkblegaaRdr
namespace Go.Proofs.Ytmkpdknlkblegaa.Rd
open Go.RowKit Go.Proofs.YtmkpdknlkblegaaW.PrintWords Go.Proofs.YtmkpdknlkblegaaW.PrintMore Go.Proofs.Ytmkpdknlkblegaa.PB Go.Proofs.Ytmkpdknlkblegaa.Pu
set_option linter.unusedSimpArgs false
set_option linter.unusedVariables false
/-- The number of the first bytes' low bits. -/
def V (s : ByteArray) : Nat → Nat
  | 0 => 0
  | m + 1 => V s m + (s.data.toList.getD m 0).toNat % 128 * 128 ^ m
theorem V_lt (s : ByteArray) : ∀ m, V s m < 128 ^ m
  | 0 => by simp [V]
  | m + 1 => by
    have := V_lt s m
    have h2 := Nat.mul_le_mul_right (128 ^ m) (show (s.data.toList.getD m 0).toNat % 128 ≤ 127 by omega)
    rw [V, Nat.pow_succ]
    omega
theorem byte_at (s : ByteArray) (m : Nat) (h : m < s.size) : s.data.toList.getD m 0 = s[m] := by
  rw [List.getD_eq_getElem?_getD, List.getElem?_eq_getElem (by rw [Array.length_toList]; exact h)]; rfl
theorem horner (s : ByteArray) (n : Nat) (hn : n < s.size) (hn9 : n ≤ 9) (m : Nat) : ∀ (acc : Nat), m ≤ n + 1 → acc * 128 ^ m + V s m < 18446744073709551616 →
    Ev (fun k => weighlockref01_Unchain.l1 k s (n : Int) (acc : Int) ((m : Int) - 1)) (((acc * 128 ^ m + V s m : Nat) : Int), (n : Int) + 1, 0) := by
  induction m with
  | zero =>
    intro acc hm hb
    refine Ev.step (fun k => weighlockref01_Unchain.l1.eq_2 ..) (Ev.neg (by omega) ?_)
    rw [wrap_id (by omega) (by omega)]
    exact Ev.get (Ev.now _) (by simp [V])
  | succ m ih =>
    intro acc hm hb
    have hlt : m < s.size := by omega
    rw [show ((m + 1 : Nat) : Int) - 1 = (m : Int) by omega]
    refine Ev.step (fun k => weighlockref01_Unchain.l1.eq_2 ..) (Ev.pos (by omega) (Ev.pos (by omega) (Ev.pos (by omega) ?_)))
    rw [bt_get s m hlt]
    have hV : V s (m + 1) = V s m + s[m].toNat % 128 * 128 ^ m := by rw [V, byte_at s m hlt]
    rw [hV] at hb ⊢
    generalize s[m] = b at *
    have e1 : acc * 128 ^ (m + 1) + (V s m + b.toNat % 128 * 128 ^ m) = (128 * acc + b.toNat % 128) * 128 ^ m + V s m := by
      rw [Nat.pow_succ, Nat.mul_comm (128 ^ m) 128, ← Nat.mul_assoc, Nat.mul_comm acc 128, Nat.add_mul]; omega
    rw [e1] at hb ⊢
    have hp : 1 ≤ 128 ^ m := Nat.one_le_pow _ _ (by decide)
    have hle := Nat.mul_le_mul_left (128 * acc + b.toNat % 128) hp
    have hb8 := b.toNat_lt
    have t1 : Int.tmod (b.toNat : Int) 128 = ((b.toNat % 128 : Nat) : Int) := by rw [Int.tmod_eq_emod_of_nonneg (by omega)]; omega
    rw [t1, wraps_u64 ((b.toNat % 128 : Nat) : Int) (by omega) (by omega), wraps_u64 (128 * (acc : Int)) (by omega) (by omega), wraps_u64 (128 * (acc : Int) + ((b.toNat % 128 : Nat) : Int)) (by omega) (by omega), wrap_id (a := (m : Int) - 1) (by omega) (by omega)]
    have := ih (128 * acc + b.toNat % 128) (by omega) hb
    rw [show ((128 * acc + b.toNat % 128 : Nat) : Int) = 128 * (acc : Int) + ((b.toNat % 128 : Nat) : Int) by omega] at this
    exact this
theorem refloop (s : ByteArray) (f : Nat) : ∀ (i : Nat), i + f = 10 → i ≤ s.size → Ev (fun k => weighlockref01_Unchain.l0 k s (i : Int)) (T3 (Own.unch (s.data.toList.drop i) i (V s i) f)) := by
  have h9 := Own.p128_9
  have j2t : ∀ i : Nat, Ev (fun k => weighlockref01_Unchain.j2 k s (i : Int) true) (0, 0, 4) := fun i => Ev.step (fun k => weighlockref01_Unchain.j2.eq_2 ..) (Ev.pos rfl (Ev.now _))
  induction f with
  | zero =>
    intro i hi hs
    obtain rfl : i = 10 := by omega
    refine Ev.get ?_ (show ((0 : Int), (0 : Int), (4 : Int)) = _ by rw [Own.unch]; rfl)
    have j1 : Ev (fun k => weighlockref01_Unchain.j1 k s ((10 : Nat) : Int)) (0, 0, 4) := Ev.step (fun k => weighlockref01_Unchain.j1.eq_2 ..) (Ev.pos (by omega) (j2t 10))
    refine Ev.step (fun k => weighlockref01_Unchain.l0.eq_2 ..) ?_
    by_cases h : (((10 : Nat) : Int)) < (s.size : Int)
    · exact Ev.pos h (Ev.neg (by omega) j1)
    · exact Ev.neg h j1
  | succ f ih =>
    intro i hi hs
    by_cases he : i = s.size
    · subst he
      rw [List.drop_of_length_le (by rw [Array.length_toList]; exact Nat.le_refl _)]
      refine Ev.get ?_ (show ((0 : Int), (0 : Int), (3 : Int)) = _ by rw [Own.unch]; rfl)
      have j2 : Ev (fun k => weighlockref01_Unchain.j2 k s (s.size : Int) false) (0, 0, 3) := Ev.step (fun k => weighlockref01_Unchain.j2.eq_2 ..) (Ev.neg (by decide) (Ev.pos rfl (Ev.now _)))
      have j1 : Ev (fun k => weighlockref01_Unchain.j1 k s (s.size : Int)) (0, 0, 3) := by
        refine Ev.step (fun k => weighlockref01_Unchain.j1.eq_2 ..) (Ev.neg (by omega) ?_)
        by_cases h : (s.size : Int) = 9
        · exact Ev.pos h (Ev.neg (by omega) j2)
        · exact Ev.neg h j2
      exact Ev.step (fun k => weighlockref01_Unchain.l0.eq_2 ..) (Ev.neg (by omega) j1)
    · have hlt : i < s.size := by omega
      have hld : i < s.data.toList.length := by rw [Array.length_toList]; exact hlt
      have hget : s.data.toList[i] = s[i] := rfl
      have hVs : V s (i + 1) = V s i + s[i].toNat % 128 * 128 ^ i := by rw [V, byte_at s i hlt]
      have hVi := V_lt s i
      have hor := horner s i hlt (by omega) (i + 1) 0 (Nat.le_refl _)
      rw [show (((i + 1 : Nat) : Int)) - 1 = (i : Int) by omega, Nat.zero_mul, Nat.zero_add, hVs] at hor
      have hbt := bt_get s i hlt
      rw [List.drop_eq_getElem_cons hld, hget, Own.unch]
      generalize s[i] = b at *
      have hb8 := b.toNat_lt
      by_cases hbig : 128 ≤ b.toNat
      · refine Ev.step (fun k => weighlockref01_Unchain.l0.eq_2 ..) (Ev.pos (by omega) (Ev.pos (by omega) (Ev.pos (by omega) ?_)))
        rw [hbt, wrap_id (by omega) (by omega)]
        refine Ev.pos (by omega) ?_
        by_cases e9 : i = 9
        · rw [if_pos (.inl ⟨e9, by omega⟩)]
          subst e9
          obtain rfl : f = 0 := by omega
          exact Ev.get (ih 10 (by omega) (by omega)) (by rw [Own.unch])
        · rw [if_neg (by omega), if_neg (by omega)]
          have := ih (i + 1) (by omega) (by omega)
          rw [hVs, show b.toNat % 128 = b.toNat - 128 by omega] at this
          exact this
      · have toj1 : Ev (fun k => weighlockref01_Unchain.j1 k s (i : Int)) (T3 (if (i = 9 ∧ 1 < b.toNat) ∨ (b.toNat = 0 ∧ 0 < i) then (0, 0, 4) else if b.toNat < 128 then (V s i + b.toNat * 128 ^ i, i + 1, 0) else Own.unch (s.data.toList.drop (i + 1)) (i + 1) (V s i + (b.toNat - 128) * 128 ^ i) f)) := by
          have j3 : ∀ fl : Bool, fl = decide (b.toNat = 0 ∧ 0 < i) → ¬ (i = 9 ∧ 1 < b.toNat) → Ev (fun k => weighlockref01_Unchain.j3 k s (i : Int) fl) (T3 (if (i = 9 ∧ 1 < b.toNat) ∨ (b.toNat = 0 ∧ 0 < i) then (0, 0, 4) else if b.toNat < 128 then (V s i + b.toNat * 128 ^ i, i + 1, 0) else Own.unch (s.data.toList.drop (i + 1)) (i + 1) (V s i + (b.toNat - 128) * 128 ^ i) f)) := by
            intro fl hfl hn9
            refine Ev.step (fun k => weighlockref01_Unchain.j3.eq_2 ..) ?_
            by_cases h0 : b.toNat = 0 ∧ 0 < i
            · rw [if_pos (.inr h0)]
              exact Ev.pos (by rw [hfl]; simpa using h0) (Ev.now _)
            · rw [if_neg (by intro h; rcases h with h | h; exact hn9 h; exact h0 h), if_pos (by omega)]
              refine Ev.neg (by rw [hfl]; simpa using h0) ?_
              rw [Nat.mod_eq_of_lt (by omega)] at hor
              refine Ev.get (hor ?_) rfl
              by_cases e : i = 9
              · subst e; rw [h9] at hVi ⊢; omega
              · have h8 : 128 ^ i ≤ 128 ^ 8 := Own.p128_le (by omega)
                have e8 : 128 ^ 8 = 72057594037927936 := by decide
                have := Nat.mul_le_mul (show b.toNat ≤ 127 by omega) h8
                omega
          have j2 : ∀ fl : Bool, fl = decide (i = 9 ∧ 1 < b.toNat) → Ev (fun k => weighlockref01_Unchain.j2 k s (i : Int) fl) (T3 (if (i = 9 ∧ 1 < b.toNat) ∨ (b.toNat = 0 ∧ 0 < i) then (0, 0, 4) else if b.toNat < 128 then (V s i + b.toNat * 128 ^ i, i + 1, 0) else Own.unch (s.data.toList.drop (i + 1)) (i + 1) (V s i + (b.toNat - 128) * 128 ^ i) f)) := by
            intro fl hfl
            refine Ev.step (fun k => weighlockref01_Unchain.j2.eq_2 ..) ?_
            by_cases h1 : i = 9 ∧ 1 < b.toNat
            · rw [if_pos (.inl h1)]
              exact Ev.pos (by rw [hfl]; simpa using h1) (Ev.now _)
            · refine Ev.neg (by rw [hfl]; simpa using h1) (Ev.neg (by omega) ?_)
              by_cases hi0 : 0 < i
              · refine Ev.pos (by omega) (Ev.pos (by omega) (Ev.pos (by omega) ?_))
                rw [hbt]
                exact j3 _ (by by_cases h : b.toNat = 0 <;> simp [h, hi0]) h1
              · exact Ev.neg (by omega) (j3 _ (by simp; omega) h1)
          refine Ev.step (fun k => weighlockref01_Unchain.j1.eq_2 ..) (Ev.neg (by omega) ?_)
          by_cases e9 : i = 9
          · refine Ev.pos (by omega) (Ev.pos (by omega) (Ev.pos (by omega) ?_))
            subst e9
            rw [show (bt s 9) = (b.toNat : Int) from hbt]
            exact j2 _ (by apply decide_eq_decide.2; omega)
          · exact Ev.neg (by omega) (j2 _ (by simp; omega))
        refine Ev.step (fun k => weighlockref01_Unchain.l0.eq_2 ..) (Ev.pos (by omega) ?_)
        by_cases h10 : (i : Int) < 10
        · refine Ev.pos h10 (Ev.pos (by omega) ?_)
          rw [hbt]
          exact Ev.neg (by omega) toj1
        · exact Ev.neg h10 toj1
theorem refUnchain_ev (s : ByteArray) : Ev (fun k => weighlockref01_Unchain.f k s) (T3 (Own.unchain s.data.toList)) := by
  have := refloop s 10 0 (by omega) (by omega)
  rw [List.drop_zero] at this
  exact this
theorem refUntext_ev (t : ByteArray) (hm : t.size ≤ 9223372036854775807) : Ev (fun k => weighlockref01_Untext.f k t) (untxt t) := by
  unfold weighlockref01_Untext.f untxt
  have h := refUnchain_ev t
  generalize hu : Own.unchain t.data.toList = u at *
  obtain ⟨v, n, e⟩ := u
  refine Ev.bind (show Ev _ ((v : Int), (n : Int), (e : Int)) from h) ?_
  simp only
  by_cases he : e = 0
  · subst he
    obtain ⟨r, hr, hn, _⟩ := Own.unchain_bwd hu
    have hl := congrArg List.length hr
    rw [Array.length_toList, List.length_append] at hl
    have hsz : t.data.size = t.size := rfl
    refine Ev.pos rfl ?_
    by_cases hv : 1099511627776 < v
    · exact Ev.pos (by omega) (Ev.get (Ev.now _) (by rw [if_pos rfl, if_pos hv]))
    · refine Ev.neg (by omega) ?_
      rw [wrap_id (a := (t.size : Int) - (n : Int)) (by omega) (by omega), wrap_id (a := (v : Int)) (by omega) (by omega)]
      by_cases hlen : t.size < n + v
      · exact Ev.pos (by omega) (Ev.get (Ev.now _) (by rw [if_pos rfl, if_neg hv, if_pos hlen]))
      · refine Ev.neg (by omega) ?_
        rw [wrap_id (a := (n : Int) + (v : Int)) (by omega) (by omega)]
        refine Ev.pos (by omega) (Ev.pos (by omega) (Ev.pos (by omega) (Ev.get (Ev.now _) ?_)))
        rw [if_pos rfl, if_neg hv, if_neg hlen]
        simp only [Int.toNat_natCast, Prod.mk.injEq, and_true, Int.natCast_add]
        rw [show ((n : Int) + (v : Int)).toNat = n + v by omega]
  · exact Ev.neg (by omega) (Ev.get (Ev.now _) (by rw [if_neg he]))
end Go.Proofs.Ytmkpdknlkblegaa.Rd
