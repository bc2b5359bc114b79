/- Several texts of this claim in one. -/
import Derived.Test.YtmkpdknlkblegaaEv
import Derived.Test.YtmkpdknlkblegaaPBx
import Derived.Test.YtmkpdknlkblegaaBase
import Derived.Laws.BitsLemmas
import Derived.Recover
import Derived.WalkLawsBesides
/- Which records may be: the program's and the document's answer, as one test. -/
namespace Go.Proofs.Ytmkpdknlkblegaa.PuB
open Go.RowKit Go.Proofs.YtmkpdknlkblegaaW.PrintWords Go.Proofs.Ytmkpdknlkblegaa.Pu Go.Proofs.Ytmkpdknlkblegaa.PB
set_option linter.unusedSimpArgs false
set_option linter.unusedVariables false
def upB (a b : Int) : Bool := decide (0 ≤ a ∧ a ≤ b)
theorem upB_iff {a b : Int} : upB a b = true ↔ 0 ≤ a ∧ a ≤ b := by unfold upB; simp
def restB (x : S23) : Bool := (!(decide (x.f5 = 0) && !decide (x.f6 = 0))) && decide (x.f2.size ≤ 32) && decide (x.f3.size ≤ 200) && (!x.f4 || (decide (0 < x.f2.size) && decide (x.f3.size = 0)))
def mayB (x : S23) : Bool := upB x.f0 1048576 && (upB x.f1 1099511627776 && (upB x.f5 1099511627776 && (upB x.f6 1099511627776 && (upB x.f7 1099511627776 && restB x))))
theorem mayB_iff (x : S23) : mayB x = true ↔ (0 ≤ x.f0 ∧ x.f0 ≤ 1048576) ∧ (0 ≤ x.f1 ∧ x.f1 ≤ 1099511627776) ∧ (0 ≤ x.f5 ∧ x.f5 ≤ 1099511627776) ∧ (0 ≤ x.f6 ∧ x.f6 ≤ 1099511627776) ∧ (0 ≤ x.f7 ∧ x.f7 ≤ 1099511627776) ∧ restB x = true := by
  unfold mayB; simp only [Bool.and_eq_true, upB_iff]
theorem restB_iff (x : S23) : restB x = true ↔ (x.f5 = 0 → x.f6 = 0) ∧ x.f2.size ≤ 32 ∧ x.f3.size ≤ 200 ∧ (x.f4 = true → 0 < x.f2.size ∧ x.f3.size = 0) := by
  unfold restB
  by_cases h1 : x.f5 = 0 <;> by_cases h2 : x.f6 = 0 <;> by_cases h3 : x.f4 = true <;> simp [h1, h2, h3, and_assoc]
end Go.Proofs.Ytmkpdknlkblegaa.PuB
/- Which records may be, by the program. -/
namespace Go.Proofs.Ytmkpdknlkblegaa.PuB
open Go.RowKit Go.Proofs.YtmkpdknlkblegaaW.PrintWords Go.Proofs.Ytmkpdknlkblegaa.Pu Go.Proofs.Ytmkpdknlkblegaa.PB
set_option linter.unusedSimpArgs false
set_option linter.unusedVariables false
theorem recUp_eq (a b : Int) : record_upTo.f a b = some (upB a b) := by
  unfold record_upTo.f upB
  by_cases h : 0 ≤ a
  · rw [if_pos h]; simp [h]
  · rw [if_neg h]; simp [h]
theorem recJ2 (k : Nat) (b : Bool) (x : S23) (hb : b = (decide (x.f5 = 0) && !decide (x.f6 = 0))) : record_May.j2 (k + 1) b x.f0 x.f1 x.f2 x.f3 x.f4 x.f5 x.f6 x.f7 = some (restB x) := by
  obtain ⟨a, b, c, d, e, f, g, h⟩ := x
  subst hb
  rw [record_May.j2]
  unfold restB
  have q9 : (c.toList = ([] : List UInt8)) = (c.size = 0) := propext (str_nil c)
  have q10 : (d.toList == ([] : List UInt8)) = decide (d.size = 0) := by
    by_cases h : d.size = 0
    · rw [(str_nil d).2 h]; simp [h]
    · have := mt (str_nil d).1 h
      simp [h, this]
  simp only [q9, q10]
  generalize c.size = m
  generalize d.size = n
  have q3 : ((m : Int) > 32) = (32 < m) := by apply propext; omega
  have q4 : ((n : Int) > 200) = (200 < n) := by apply propext; omega
  have q7 : (32 < m) = ¬ (m ≤ 32) := by apply propext; omega
  have q8 : (200 < n) = ¬ (n ≤ 200) := by apply propext; omega
  have q11 : (0 < m) = ¬ (m = 0) := by apply propext; omega
  simp only [q3, q4, q7, q8, q11]
  by_cases h1 : f = 0 <;> by_cases h2 : g = 0 <;> by_cases h3 : m ≤ 32 <;> by_cases h4 : n ≤ 200 <;> by_cases h5 : m = 0 <;> cases e <;> simp [h1, h2, h3, h4, h5]
theorem recMay_ev (x : S23) : Ev (fun k => record_May.f k x.f0 x.f1 x.f2 x.f3 x.f4 x.f5 x.f6 x.f7) (mayB x) := by
  refine ⟨3, fun k hk => ?_⟩
  obtain ⟨k, rfl⟩ : ∃ m, k = m + 3 := ⟨k - 3, by omega⟩
  unfold record_May.f mayB
  simp only [recUp_eq, Option.bind_some]
  have j2 : ∀ b, b = (decide (x.f5 = 0) && !decide (x.f6 = 0)) → record_May.j2 (k + 1) b x.f0 x.f1 x.f2 x.f3 x.f4 x.f5 x.f6 x.f7 = some (restB x) := fun b hb => recJ2 k b x hb
  have j1t : record_May.j1 (k + 2) true x.f0 x.f1 x.f2 x.f3 x.f4 x.f5 x.f6 x.f7 = some false := by rw [record_May.j1, if_pos rfl]
  have j1f : record_May.j1 (k + 2) false x.f0 x.f1 x.f2 x.f3 x.f4 x.f5 x.f6 x.f7 = some (restB x) := by
    rw [record_May.j1, if_neg (by decide)]
    by_cases h : x.f5 = 0
    · rw [if_pos h, j2 _ (by by_cases h6 : x.f6 = 0 <;> simp [h, h6])]
    · rw [if_neg h, j2 _ (by simp [h])]
  have j0t : record_May.j0 (k + 3) true x.f0 x.f1 x.f2 x.f3 x.f4 x.f5 x.f6 x.f7 = some false := by rw [record_May.j0, if_pos rfl]
  have j0f : record_May.j0 (k + 3) false x.f0 x.f1 x.f2 x.f3 x.f4 x.f5 x.f6 x.f7 = some (upB x.f5 1099511627776 && (upB x.f6 1099511627776 && (upB x.f7 1099511627776 && restB x))) := by
    rw [record_May.j0, if_neg (by decide)]
    simp only [recUp_eq, Option.bind_some]
    cases upB x.f5 1099511627776 <;> cases upB x.f6 1099511627776 <;> cases upB x.f7 1099511627776 <;> simp [j1t, j1f]
  cases upB x.f0 1048576 <;> cases upB x.f1 1099511627776 <;> simp [j0t, j0f]
end Go.Proofs.Ytmkpdknlkblegaa.PuB
/- Which records may be, by the document. -/
namespace Go.Proofs.Ytmkpdknlkblegaa.PuB
open Go.RowKit Go.Proofs.YtmkpdknlkblegaaW.PrintWords Go.Proofs.Ytmkpdknlkblegaa.Pu Go.Proofs.Ytmkpdknlkblegaa.PB
set_option linter.unusedSimpArgs false
set_option linter.unusedVariables false
theorem refUp_eq (a b : Int) : weighlockref16_upTo.f a b = some (upB a b) := by
  unfold weighlockref16_upTo.f upB
  by_cases h : 0 ≤ a
  · rw [if_pos h]; simp [h]
  · rw [if_neg h]; simp [h]
theorem refJ_true (k : Nat) (a b : Int) (c d : ByteArray) (e : Bool) (f g h : Int) : weighlockref16_May.j0 (k + 1) true a b c d e f g h = some false := by rw [weighlockref16_May.j0, if_pos rfl]
theorem refJ_false (k : Nat) (x : S23) : weighlockref16_May.j0 (k + 1) false x.f0 x.f1 x.f2 x.f3 x.f4 x.f5 x.f6 x.f7 = some (restB x) := by
  obtain ⟨a, b, c, d, e, f, g, h⟩ := x
  rw [weighlockref16_May.j0, if_neg (by decide)]
  unfold restB
  simp only
  generalize c.size = m
  generalize d.size = n
  have q3 : ((m : Int) > 32) = (32 < m) := by apply propext; omega
  have q4 : ((n : Int) > 200) = (200 < n) := by apply propext; omega
  have q5 : ((m : Int) > 0) = (0 < m) := by apply propext; omega
  have q6 : ((n : Int) == 0) = decide (n = 0) := by by_cases h : n = 0 <;> simp [h]
  have q7 : (32 < m) = ¬ (m ≤ 32) := by apply propext; omega
  have q8 : (200 < n) = ¬ (n ≤ 200) := by apply propext; omega
  simp only [q3, q4, q5, q6, q7, q8]
  by_cases h1 : f = 0 <;> by_cases h2 : g = 0 <;> by_cases h3 : m ≤ 32 <;> by_cases h4 : n ≤ 200 <;> by_cases h5 : 0 < m <;> cases e <;> simp [h1, h2, h3, h4, h5]
theorem refMay_ev (x : S23) : Ev (fun k => weighlockref16_May.f k x.f0 x.f1 x.f2 x.f3 x.f4 x.f5 x.f6 x.f7) (mayB x) := by
  refine ⟨1, fun k hk => ?_⟩
  obtain ⟨k, rfl⟩ : ∃ m, k = m + 1 := ⟨k - 1, by omega⟩
  unfold weighlockref16_May.f mayB
  simp only [refUp_eq, Option.bind_some]
  cases upB x.f0 1048576 <;> cases upB x.f1 1099511627776 <;> cases upB x.f5 1099511627776 <;> cases upB x.f6 1099511627776 <;> cases upB x.f7 1099511627776 <;> simp [refJ_true, refJ_false]
end Go.Proofs.Ytmkpdknlkblegaa.PuB
/- What nums.Unchain tells, out of the printed functions. -/
namespace Go.Proofs.Ytmkpdknlkblegaa.Rd
open Go.RowKit Go.Proofs.YtmkpdknlkblegaaW.PrintWords Go.Proofs.YtmkpdknlkblegaaW.PrintMore Go.Proofs.Ytmkpdknlkblegaa.PB Go.Proofs.Ytmkpdknlkblegaa.Pu
set_option linter.unusedSimpArgs false
set_option linter.unusedVariables false
def T3 (x : Nat × Nat × Nat) : Int × Int × Int := ((x.1 : Int), (x.2.1 : Int), (x.2.2 : Int))
theorem bt_get (s : ByteArray) (i : Nat) (h : i < s.size) : bt s (i : Int) = ((s[i]'h).toNat : Int) := by
  unfold bt
  rw [dif_pos (by rw [Int.toNat_natCast]; exact h)]
  rfl
theorem and127 (b : Nat) (h : b < 256) : Go.bits .and .u8 (b : Int) 127 = ((b % 128 : Nat) : Int) := by
  have := Go.bits_mask .u8 8 (by decide) Go.wraps_u8 7 (by decide) (b : Int) (by omega) (by omega)
  rw [show ((2 : Int) ^ 7 - 1) = 127 by decide] at this
  rw [this]; omega
theorem wraps_u64 (n : Int) (h₀ : 0 ≤ n) (h₁ : n < 2 ^ 64) : IntKind.u64.wrap n = n := by rw [IntKind.wrap_u64]; exact Int.emod_eq_of_lt h₀ (by simpa using h₁)
theorem or_hi (v x i : Nat) (hv : v < 2 ^ i) (hx : x * 2 ^ i < 18446744073709551616) (hi : i ≤ 63) : Go.bits .or .u64 (v : Int) ((x * 2 ^ i : Nat) : Int) = ((v + x * 2 ^ i : Nat) : Int) := by
  have hv2 : v < 2 ^ 64 := Nat.lt_of_lt_of_le hv (Nat.pow_le_pow_right (by decide) (by omega))
  have h := (Go.bits_nat .u64 64 (by decide) wraps_u64 v (x * 2 ^ i) hv2 (by simpa using hx)).2
  rw [h, Nat.or_comm, Nat.mul_comm x, ← Nat.two_pow_add_eq_or_of_lt hv, Nat.add_comm]
theorem shl_chain (x i : Nat) (hi : i ≤ 9) (hx : x * 128 ^ i < 18446744073709551616) : shl .u64 (x : Int) (7 * (i : Int)) = ((x * 2 ^ (7 * i) : Nat) : Int) := by
  have e : (7 * (i : Int)).toNat = 7 * i := by omega
  unfold shl
  rw [e, Nat.min_eq_left (by simp [IntKind.bits]; omega)]
  rw [show (128 : Nat) = 2 ^ 7 from rfl, ← Nat.pow_mul] at hx
  rw [show ((x : Int) * 2 ^ (7 * i)) = ((x * 2 ^ (7 * i) : Nat) : Int) by push_cast; rfl]
  exact wraps_u64 _ (by omega) (by exact_mod_cast hx)
theorem unchain_loop (s : ByteArray) (f : Nat) : ∀ (i v : Nat), i + f = 10 → i ≤ s.size → v < 128 ^ i →
    Ev (fun k => nums_Unchain.l0 k s (v : Int) (i : Int)) (T3 (Own.unch (s.data.toList.drop i) i v f)) := by
  induction f with
  | zero =>
    intro i v hi hs hv
    exact Ev.step (fun k => nums_Unchain.l0.eq_2 ..) (Ev.neg (by omega) (Ev.get (Ev.now (0, 0, 4)) (by rw [Own.unch]; rfl)))
  | succ f ih =>
    intro i v hi hs hv
    refine Ev.step (fun k => nums_Unchain.l0.eq_2 ..) (Ev.pos (by omega) ?_)
    by_cases he : i = s.size
    · refine Ev.pos (by omega) ?_
      rw [List.drop_of_length_le (by rw [Array.length_toList]; show s.size ≤ i; omega)]
      exact Ev.now _
    · have hlt : i < s.size := by omega
      have hld : i < s.data.toList.length := by rw [Array.length_toList]; exact hlt
      refine Ev.neg (by omega) (Ev.pos (by omega) (Ev.pos (by omega) ?_))
      rw [bt_get s i hlt, List.drop_eq_getElem_cons hld]
      have hget : s.data.toList[i] = s[i] := rfl
      rw [hget, Own.unch]
      have hb := s[i].toNat_lt
      generalize s[i] = b at *
      have h9 := Own.p128_9
      have j2 : ∀ fl : Bool, fl = decide (b.toNat = 0 ∧ 0 < i) → ¬ (i = 9 ∧ 1 < b.toNat) → Ev (fun k => nums_Unchain.j2 k s (v : Int) (i : Int) (b.toNat : Int) (i : Int) fl) (T3 (if (i = 9 ∧ 1 < b.toNat) ∨ (b.toNat = 0 ∧ 0 < i) then (0, 0, 4) else if b.toNat < 128 then (v + b.toNat * 128 ^ i, i + 1, 0) else Own.unch (s.data.toList.drop (i + 1)) (i + 1) (v + (b.toNat - 128) * 128 ^ i) f)) := by
        intro fl hfl hn9
        refine Ev.step (fun k => nums_Unchain.j2.eq_2 ..) ?_
        by_cases h0 : b.toNat = 0 ∧ 0 < i
        · rw [if_pos (.inr h0)]
          exact Ev.pos (by rw [hfl]; simpa using h0) (Ev.now _)
        · rw [if_neg (by intro h; rcases h with h | h; exact hn9 h; exact h0 h)]
          refine Ev.neg (by rw [hfl]; simpa using h0) ?_
          have hi9 : i ≤ 9 := by omega
          rw [wrap_id (a := 7 * (i : Int)) (by omega) (by omega)]
          refine Ev.pos (by omega) ?_
          have hxb : b.toNat % 128 * 128 ^ i < 18446744073709551616 := by
            by_cases e : i = 9
            · subst e; rw [h9]; omega
            · have h8 : 128 ^ i ≤ 128 ^ 8 := Own.p128_le (by omega)
              have e8 : 128 ^ 8 = 72057594037927936 := by decide
              have := Nat.mul_le_mul (show b.toNat % 128 ≤ 127 by omega) h8
              omega
          have e2 : (128 : Nat) ^ i = 2 ^ (7 * i) := by rw [show (128 : Nat) = 2 ^ 7 from rfl, ← Nat.pow_mul]
          rw [and127 b.toNat hb, wraps_u64 ((b.toNat % 128 : Nat) : Int) (by omega) (by omega), shl_chain _ i hi9 hxb]
          rw [e2] at hv hxb
          rw [or_hi v (b.toNat % 128) (7 * i) hv hxb (by omega), ← e2]
          by_cases h1 : b.toNat < 128
          · rw [if_pos h1, wrap_id (a := (i : Int) + 1) (by omega) (by omega)]
            refine Ev.pos (by omega) (Ev.get (Ev.now _) ?_)
            rw [Nat.mod_eq_of_lt h1]
            rfl
          · rw [if_neg h1, wrap_id (a := (i : Int) + 1) (by omega) (by omega)]
            refine Ev.neg (by omega) ?_
            rw [show b.toNat % 128 = b.toNat - 128 by omega]
            refine ih (i + 1) _ (by omega) (by omega) ?_
            rw [← e2] at hv
            rw [Nat.pow_succ]
            have := Nat.mul_le_mul_right (128 ^ i) (show b.toNat - 128 ≤ 127 by omega)
            omega
      have j1 : ∀ fl : Bool, fl = decide (i = 9 ∧ 1 < b.toNat) → Ev (fun k => nums_Unchain.j1 k s (v : Int) (i : Int) (b.toNat : Int) (i : Int) fl) (T3 (if (i = 9 ∧ 1 < b.toNat) ∨ (b.toNat = 0 ∧ 0 < i) then (0, 0, 4) else if b.toNat < 128 then (v + b.toNat * 128 ^ i, i + 1, 0) else Own.unch (s.data.toList.drop (i + 1)) (i + 1) (v + (b.toNat - 128) * 128 ^ i) f)) := by
        intro fl hfl
        refine Ev.step (fun k => nums_Unchain.j1.eq_2 ..) ?_
        by_cases h1 : i = 9 ∧ 1 < b.toNat
        · rw [if_pos (.inl h1)]
          exact Ev.pos (by rw [hfl]; simpa using h1) (Ev.now _)
        · refine Ev.neg (by rw [hfl]; simpa using h1) ?_
          by_cases h0 : b.toNat = 0
          · exact Ev.pos (by omega) (j2 _ (by apply decide_eq_decide.2; omega) h1)
          · exact Ev.neg (by omega) (j2 _ (by simp; omega) h1)
      by_cases e9 : i = 9
      · exact Ev.pos (by omega) (j1 _ (by apply decide_eq_decide.2; omega))
      · exact Ev.neg (by omega) (j1 _ (by simp; omega))
theorem unchain_ev (s : ByteArray) : Ev (fun k => nums_Unchain.f k s) (T3 (Own.unchain s.data.toList)) := by
  have := unchain_loop s 10 0 0 (by omega) (by omega) (by decide)
  rw [List.drop_zero] at this
  exact this
/-- The text with which bytes begin. -/
def untxt (t : ByteArray) : ByteArray × Int × Int :=
  let u := Own.unchain t.data.toList
  if u.2.2 = 0 then (if 1099511627776 < u.1 then (⟨#[]⟩, 0, 2) else if t.size < u.2.1 + u.1 then (⟨#[]⟩, 0, 3) else (t.extract u.2.1 (u.2.1 + u.1), ((u.2.1 + u.1 : Nat) : Int), 0)) else (⟨#[]⟩, 0, (u.2.2 : Int))
theorem untext_ev (t : ByteArray) (hm : t.size ≤ 9223372036854775807) : Ev (fun k => nums_Untext.f k t) (untxt t) := by
  unfold nums_Untext.f untxt
  have h := unchain_ev t
  generalize hu : Own.unchain t.data.toList = u at *
  obtain ⟨v, n, e⟩ := u
  refine Ev.bind (show Ev _ ((v : Int), (n : Int), (e : Int)) from h) ?_
  simp only
  by_cases he : e = 0
  · subst he
    obtain ⟨r, hr, hn, _⟩ := Own.unchain_bwd hu
    have hl := congrArg List.length hr
    rw [Array.length_toList, List.length_append] at hl
    have hsz : t.data.size = t.size := rfl
    refine Ev.pos rfl ?_
    by_cases hv : 1099511627776 < v
    · exact Ev.pos (by omega) (Ev.get (Ev.now _) (by rw [if_pos rfl, if_pos hv]))
    · refine Ev.neg (by omega) ?_
      rw [wrap_id (a := (t.size : Int) - (n : Int)) (by omega) (by omega), wrap_id (a := (v : Int)) (by omega) (by omega), wraps_u64 ((t.size : Int) - (n : Int)) (by omega) (by omega)]
      by_cases hlen : t.size < n + v
      · exact Ev.pos (by omega) (Ev.get (Ev.now _) (by rw [if_pos rfl, if_neg hv, if_pos hlen]))
      · refine Ev.neg (by omega) ?_
        rw [wrap_id (a := (n : Int) + (v : Int)) (by omega) (by omega)]
        refine Ev.pos (by omega) (Ev.pos (by omega) (Ev.pos (by omega) (Ev.get (Ev.now _) ?_)))
        rw [if_pos rfl, if_neg hv, if_neg hlen]
        simp only [Int.toNat_natCast, Prod.mk.injEq, and_true, Int.natCast_add]
        rw [show ((n : Int) + (v : Int)).toNat = n + v by omega]
  · exact Ev.neg (by omega) (Ev.get (Ev.now _) (by rw [if_neg he]))
end Go.Proofs.Ytmkpdknlkblegaa.Rd
/- The reader of records: number and text, by hand: they panic where there is none. -/
namespace Go.Proofs.Ytmkpdknlkblegaa.Rd
open Go.RowKit Go.Proofs.YtmkpdknlkblegaaW.PrintWords Go.Proofs.Ytmkpdknlkblegaa.PB
set_option maxRecDepth 100000
set_option linter.unusedSimpArgs false
set_option linter.unusedVariables false
theorem toSame {P : Program} {f : FuncId} {args : Array Value} {w : World} {n : Nat} {v : Value} (h : Calls P f args (w.drewN n) fun e w' => e = .returned v ∧ Drawn0 (w.drewN n) w') : Calls P f args (w.drewN n) fun e w'' => e = .returned v ∧ ∃ m, w'' = w.drewN m :=
  Calls.quiet_of (h.mono fun _ _ ⟨he, ⟨⟨m, hm⟩⟩⟩ => ⟨he, m, hm⟩)
/-- A number at a place, and where it ends. -/
def num (s : ByteArray) (at_ : Nat) : Option (Nat × Nat) :=
  let u := Own.unchain (s.data.toList.drop at_)
  if u.2.2 = 0 ∧ u.1 ≤ 1099511627776 then some (u.1, at_ + u.2.1) else none
theorem cut_list (s : ByteArray) (a : Nat) : (s.extract a s.size).data.toList = s.data.toList.drop a := by
  rw [ByteArray.data_extract, Array.toList_extract, List.extract_eq_take_drop, List.take_of_length_le]
  rw [List.length_drop, Array.length_toList]; exact Nat.le_refl _
def RB (g : Nat) (s : ByteArray) (at_ : Nat) (w : World) : Prop := w.heap[g]? = some (.cells #[.string s, .int .i64 (at_ : Int)] 52 (0, 0))
theorem num_some {s : ByteArray} {at_ v b : Nat} (h : num s at_ = some (v, b)) : ∃ n, Own.unchain (s.data.toList.drop at_) = (v, n, 0) ∧ b = at_ + n ∧ v ≤ 1099511627776 := by
  unfold num at h
  generalize Own.unchain (s.data.toList.drop at_) = u at h
  obtain ⟨u1, u2, u3⟩ := u
  simp only at h
  by_cases hc : u3 = 0 ∧ u1 ≤ 1099511627776
  · rw [if_pos hc] at h
    simp only [Option.some.injEq, Prod.mk.injEq] at h
    obtain ⟨rfl, rfl⟩ := h
    exact ⟨u2, by rw [hc.1], rfl, hc.2⟩
  · rw [if_neg hc] at h; cases h
theorem num_none {s : ByteArray} {at_ : Nat} (h : num s at_ = none) : ∃ u1 u2 u3, Own.unchain (s.data.toList.drop at_) = (u1, u2, u3) ∧ (u3 ≠ 0 ∨ 1099511627776 < u1) := by
  unfold num at h
  generalize hu : Own.unchain (s.data.toList.drop at_) = u at h
  obtain ⟨u1, u2, u3⟩ := u
  simp only at h
  by_cases hc : u3 = 0 ∧ u1 ≤ 1099511627776
  · rw [if_pos hc] at h; cases h
  · exact ⟨u1, u2, u3, rfl, by omega⟩
theorem num_le {s : ByteArray} {at_ v b : Nat} (hs : at_ ≤ s.size) (h : num s at_ = some (v, b)) : at_ < b ∧ b ≤ s.size ∧ v ≤ 1099511627776 := by
  obtain ⟨n, hu, rfl, hv⟩ := num_some h
  obtain ⟨r, hr, hn, _⟩ := Own.unchain_bwd hu
  have hl := congrArg List.length hr
  have hp := Own.chainL_pos v
  rw [List.length_drop, Array.length_toList, List.length_append] at hl
  have : s.data.size = s.size := rfl
  omega
set_option maxHeartbeats 1000000 in
theorem number_ok {g : Nat} {s : ByteArray} {at_ v b : Nat} (w : World) (hb : RB g s at_ w) (hs : at_ ≤ s.size) (hm : s.size ≤ 9223372036854775807) (h : num s at_ = some (v, b)) :
    Calls Try.prog 34 #[.pointer (some ⟨g, 0, none⟩)] w fun e w' => e = .returned (.int .i64 (v : Int)) ∧ ∃ n, w' = (w.setCell ⟨g, 1, none⟩ (.int .i64 (b : Int))).drewN n := by
  obtain ⟨hlt, hle, hv⟩ := num_le hs h
  obtain ⟨n, hu, rfl, _⟩ := num_some h
  obtain ⟨k, hk⟩ := Ev.rounds (unchain_ev (s.extract at_ s.size))
  rw [cut_list, hu] at hk
  clear h
  have Hk := Lib.hid hk; clear hk hu
  have c0 := Own.blk_cell hb 0
  have c1 := Own.blk_cell hb 1
  have f1 := Own.blk_free hb 1
  simp at c0 c1
  have Hb := Lib.hid hb; clear hb
  have hs0 : (0 : Int) ≤ (at_ : Int) := by omega
  have hs1 : (at_ : Int) ≤ (s.size : Int) := by omega
  have hv1 : ¬ (1099511627776 : Int) < (v : Int) := by omega
  have hw : IntKind.i64.wrap (v : Int) = v := IntWalk.i64_in _ (by omega)
  go_enter Try.func34, Try.ntmps34
  go_wp2_with fail
  go_quiet ((go_at_call 38; exact toSame (nums_Unchain.calls k _ _ _ _ _ Hk.out)))
  go_wp2
  go_ret
  exact ⟨rfl, _, rfl⟩
set_option maxHeartbeats 1000000 in
theorem number_bad {g : Nat} {s : ByteArray} {at_ : Nat} (w : World) (hb : RB g s at_ w) (hs : at_ ≤ s.size) (hm : s.size ≤ 9223372036854775807) (h : num s at_ = none) :
    Calls Try.prog 34 #[.pointer (some ⟨g, 0, none⟩)] w fun e w' => e = .panicked [{ v := .iface 66 (.agg #[]), recovered := false }] ∧ ∃ n, w' = w.drewN n := by
  obtain ⟨u1, u2, u3, hu, hbad⟩ := num_none h
  obtain ⟨k, hk⟩ := Ev.rounds (unchain_ev (s.extract at_ s.size))
  rw [cut_list, hu] at hk
  clear h
  have Hk := Lib.hid hk; clear hk hu
  have c0 := Own.blk_cell hb 0
  have c1 := Own.blk_cell hb 1
  have f1 := Own.blk_free hb 1
  simp at c0 c1
  have Hb := Lib.hid hb; clear hb
  have hs0 : (0 : Int) ≤ (at_ : Int) := by omega
  have hs1 : (at_ : Int) ≤ (s.size : Int) := by omega
  by_cases h3 : u3 = 0
  · have h1 : (1099511627776 : Int) < (u1 : Int) := by omega
    subst h3
    clear hbad
    go_enter Try.func34, Try.ntmps34
    go_wp2_with fail
    go_quiet ((go_at_call 38; exact toSame (nums_Unchain.calls k _ _ _ _ _ Hk.out)))
    go_wp2
    exact ⟨rfl, rfl, _, rfl⟩
  · have h1 : ((u3 : Int) == 0) = false := by rw [beq_eq_false_iff_ne]; omega
    have h2 : ((u3 : Int) != 0) = true := by rw [bne_iff_ne]; omega
    clear hbad h3
    go_enter Try.func34, Try.ntmps34
    go_wp2_with fail
    go_quiet ((go_at_call 38; exact toSame (nums_Unchain.calls k _ _ _ _ _ Hk.out)))
    go_wp2
    exact ⟨rfl, rfl, _, rfl⟩
/-- A text at a place, and where it ends. -/
def txt (s : ByteArray) (at_ : Nat) : Option (ByteArray × Nat) :=
  let u := Own.unchain (s.data.toList.drop at_)
  if u.2.2 = 0 ∧ u.1 ≤ 1099511627776 ∧ at_ + u.2.1 + u.1 ≤ s.size then some (s.extract (at_ + u.2.1) (at_ + u.2.1 + u.1), at_ + u.2.1 + u.1) else none
theorem cut_size (s : ByteArray) (a : Nat) : (s.extract a s.size).size = s.size - a := by rw [ByteArray.size_extract]; omega
theorem cut_cut (s : ByteArray) (a n v : Nat) (h : a + n + v ≤ s.size) : (s.extract a s.size).extract n (n + v) = s.extract (a + n) (a + n + v) := by
  apply ByteArray.ext
  rw [← Array.toArray_toList (xs := ((s.extract a s.size).extract n (n + v)).data), ← Array.toArray_toList (xs := (s.extract (a + n) (a + n + v)).data)]
  congr 1
  rw [ByteArray.data_extract, Array.toList_extract, List.extract_eq_take_drop, cut_list, ByteArray.data_extract, Array.toList_extract, List.extract_eq_take_drop, List.drop_drop]
  congr 1
  omega
theorem txt_some {s : ByteArray} {at_ b : Nat} {t : ByteArray} (hs : at_ ≤ s.size) (h : txt s at_ = some (t, b)) : untxt (s.extract at_ s.size) = (t, (b : Int) - (at_ : Int), 0) ∧ at_ < b ∧ b ≤ s.size := by
  unfold txt at h
  unfold untxt
  rw [cut_list, cut_size]
  generalize hu : Own.unchain (s.data.toList.drop at_) = u at h
  obtain ⟨v, n, e⟩ := u
  simp only at h ⊢
  by_cases hc : e = 0 ∧ v ≤ 1099511627776 ∧ at_ + n + v ≤ s.size
  · rw [if_pos hc] at h
    simp only [Option.some.injEq, Prod.mk.injEq] at h
    obtain ⟨rfl, rfl⟩ := h
    obtain ⟨rfl, hv, hl⟩ := hc
    obtain ⟨r, hr, hn, _⟩ := Own.unchain_bwd hu
    have hp := Own.chainL_pos v
    refine ⟨?_, by omega, hl⟩
    rw [if_pos rfl, if_neg (by omega), if_neg (by omega), cut_cut s at_ n v hl]
    simp only [Prod.mk.injEq, true_and, and_true]
    omega
  · rw [if_neg hc] at h; cases h
theorem txt_none {s : ByteArray} {at_ : Nat} (hs : at_ ≤ s.size) (h : txt s at_ = none) : ∃ e : Int, untxt (s.extract at_ s.size) = (⟨#[]⟩, 0, e) ∧ e ≠ 0 := by
  unfold txt at h
  unfold untxt
  rw [cut_list, cut_size]
  generalize hu : Own.unchain (s.data.toList.drop at_) = u at h
  obtain ⟨v, n, e⟩ := u
  simp only at h ⊢
  by_cases hc : e = 0 ∧ v ≤ 1099511627776 ∧ at_ + n + v ≤ s.size
  · rw [if_pos hc] at h; cases h
  · by_cases he : e = 0
    · rw [if_pos he]
      by_cases hv : 1099511627776 < v
      · exact ⟨2, by rw [if_pos hv], by decide⟩
      · rw [if_neg hv, if_pos (by omega)]
        exact ⟨3, rfl, by decide⟩
    · exact ⟨e, by rw [if_neg he], by omega⟩
set_option maxHeartbeats 1000000 in
theorem text_ok {g : Nat} {s t : ByteArray} {at_ b : Nat} (w : World) (hb : RB g s at_ w) (hs : at_ ≤ s.size) (hm : s.size ≤ 9223372036854775807) (h : txt s at_ = some (t, b)) :
    Calls Try.prog 35 #[.pointer (some ⟨g, 0, none⟩)] w fun e w' => e = .returned (.string t) ∧ ∃ n, w' = (w.setCell ⟨g, 1, none⟩ (.int .i64 (b : Int))).drewN n := by
  obtain ⟨hu, hlt, hle⟩ := txt_some hs h
  obtain ⟨k, hk⟩ := Ev.rounds (untext_ev (s.extract at_ s.size) (by rw [cut_size]; omega))
  rw [hu] at hk
  clear h
  have Hk := Lib.hid hk; clear hk hu
  have c0 := Own.blk_cell hb 0
  have c1 := Own.blk_cell hb 1
  have f1 := Own.blk_free hb 1
  simp at c0 c1
  have Hb := Lib.hid hb; clear hb
  have hs0 : (0 : Int) ≤ (at_ : Int) := by omega
  have hs1 : (at_ : Int) ≤ (s.size : Int) := by omega
  obtain ⟨d, hd⟩ : ∃ d, (b : Int) - (at_ : Int) = d := ⟨_, rfl⟩
  rw [hd] at Hk
  have he : (at_ : Int) + d = (b : Int) := by omega
  have hd0 : 0 ≤ d := by omega
  have hd1 : d ≤ 9223372036854775807 := by omega
  have hw : IntKind.i64.wrap ((at_ : Int) + d) = (b : Int) := by rw [he]; exact IntWalk.i64_in _ (by omega)
  have hw2 : wrap64 ((at_ : Int) + d) = (b : Int) := by rw [he]; exact Pu.wrap_id (by omega) (by omega)
  clear hd
  have He := Lib.hid he; clear he
  go_enter Try.func35, Try.ntmps35
  go_wp2_with fail
  go_quiet ((go_at_call 39; exact toSame (nums_Untext.calls k _ _ _ _ _ Hk.out)))
  go_wp2
  go_ret
  exact ⟨rfl, _, rfl⟩
set_option maxHeartbeats 1000000 in
theorem text_bad {g : Nat} {s : ByteArray} {at_ : Nat} (w : World) (hb : RB g s at_ w) (hs : at_ ≤ s.size) (hm : s.size ≤ 9223372036854775807) (h : txt s at_ = none) :
    Calls Try.prog 35 #[.pointer (some ⟨g, 0, none⟩)] w fun e w' => e = .panicked [{ v := .iface 66 (.agg #[]), recovered := false }] ∧ ∃ n, w' = w.drewN n := by
  obtain ⟨u3, hu, hbad⟩ := txt_none hs h
  obtain ⟨k, hk⟩ := Ev.rounds (untext_ev (s.extract at_ s.size) (by rw [cut_size]; omega))
  rw [hu] at hk
  clear h
  have Hk := Lib.hid hk; clear hk hu
  have c0 := Own.blk_cell hb 0
  have c1 := Own.blk_cell hb 1
  have f1 := Own.blk_free hb 1
  simp at c0 c1
  have Hb := Lib.hid hb; clear hb
  have hs0 : (0 : Int) ≤ (at_ : Int) := by omega
  have hs1 : (at_ : Int) ≤ (s.size : Int) := by omega
  have h1 : ((u3 : Int) == 0) = false := by rw [beq_eq_false_iff_ne]; exact hbad
  have h2 : ((u3 : Int) != 0) = true := by rw [bne_iff_ne]; exact hbad
  clear hbad
  go_enter Try.func35, Try.ntmps35
  go_wp2_with fail
  go_quiet ((go_at_call 39; exact toSame (nums_Untext.calls k _ _ _ _ _ Hk.out)))
  go_wp2
  exact ⟨rfl, rfl, _, rfl⟩
end Go.Proofs.Ytmkpdknlkblegaa.Rd
