/- The laws of the batches over lists and numbers alone. -/
import Derived.Test.YtgpbfipobgbgnaaPu
import Derived.Test.YtgpbfipobgbgnaaPAx11
namespace Go.Proofs.Ytgpbfipobgbgnaa.Pu
open Go.RowKit Go.Proofs.YtgpbfipobgbgnaaW.PrintWords Go.Proofs.YtgpbfipobgbgnaaW.PrintMore Go.Proofs.Ytgpbfipobgbgnaa.PA
set_option linter.unusedSimpArgs false
set_option linter.unusedVariables false
theorem mk_append (tick prod from_ : Int) (a b : List S26) : ∀ (off seq : Int), mk tick prod from_ off seq (a ++ b) = (mk tick prod from_ off seq a).bind fun x => (mk tick prod from_ (off + a.length) (if prod = 0 then seq else seq + a.length) b).map fun y => x ++ y := by
  induction a with
  | nil => intro off seq; simp [mk]
  | cons p a ih =>
    intro off seq
    rw [List.cons_append, mk, mk]
    by_cases h : mayB ⟨off, tick, p.f0, p.f1, p.f2, prod, seq, from_⟩ = true
    · rw [if_pos h, if_pos h, ih]
      have e1 : off + 1 + (a.length : Int) = off + ((p :: a).length : Int) := by simp; omega
      have e2 : (if prod = 0 then (if prod = 0 then seq else seq + 1) else (if prod = 0 then seq else seq + 1) + (a.length : Int)) = if prod = 0 then seq else seq + ((p :: a).length : Int) := by
        by_cases hp : prod = 0 <;> simp [hp]; omega
      rw [e1, e2]
      cases mk tick prod from_ (off + 1) (if prod = 0 then seq else seq + 1) a with
      | none => rfl
      | some x => cases mk tick prod from_ (off + ((p :: a).length : Int)) (if prod = 0 then seq else seq + ((p :: a).length : Int)) b <;> rfl
    · rw [if_neg h, if_neg h]; rfl
theorem mk_len (tick prod from_ : Int) (a : List S26) : ∀ (off seq : Int) (x : List S31), mk tick prod from_ off seq a = some x → x.length = a.length := by
  induction a with
  | nil => intro off seq x h; cases h; rfl
  | cons p a ih =>
    intro off seq x h
    rw [mk] at h
    split at h
    · cases hm : mk tick prod from_ (off + 1) (if prod = 0 then seq else seq + 1) a with
      | none => rw [hm] at h; cases h
      | some y => rw [hm] at h; cases h; simp [ih _ _ _ hm]
    · cases h
theorem batchParts_ev (off tick : Int) (key val : ByteArray) (gone : Bool) (prod seq from_ : Int) (a b : List S26) : Ev (fun k => weighlocklaw17_BatchParts.f k off tick key val gone prod seq from_ a b) true := by
  have h3 : Ev (fun k => weighlocklaw17_BatchParts.j0 k a b true off tick key val gone prod seq from_) true :=
    Ev.step (fun k => weighlocklaw17_BatchParts.j0.eq_2 ..) (Ev.pos rfl (Ev.bind two_ev (Ev.now _)))
  unfold weighlocklaw17_BatchParts.f
  obtain ⟨ra, la1, la2⟩ := large_ev a
  obtain ⟨rb, lb1, lb2⟩ := large_ev b
  refine Ev.bind la1 ?_
  cases ra with
  | true => exact Ev.pos rfl h3
  | false =>
  refine Ev.neg (by decide) (Ev.bind lb1 ?_)
  cases rb with
  | true => exact Ev.pos rfl h3
  | false =>
  refine Ev.neg (by decide) ?_
  obtain ⟨ha30, hax⟩ := la2 rfl
  obtain ⟨hb30, hbx⟩ := lb2 rfl
  have ha : bnd a := ⟨by omega, hax⟩
  have hb : bnd b := ⟨by omega, hbx⟩
  by_cases hk : (key.size : Int) > 300
  · exact Ev.pos hk h3
  refine Ev.neg hk ?_
  by_cases hv : (val.size : Int) > 300
  · exact Ev.pos hv h3
  refine Ev.neg hv (Ev.bind (refRight_ev a ha) ?_)
  by_cases ra0 : rightN a = 0
  · refine Ev.pos ra0 (Ev.bind (refRight_ev b hb) ?_)
    by_cases rb0 : rightN b = 0
    · rw [rb0]
      have hab : bnd (a ++ b) := ⟨by rw [List.length_append]; omega, fun x hx => by rcases List.mem_append.1 hx with h | h; exact hax x h; exact hbx x h⟩
      have hane : a ≠ [] := by rintro rfl; revert ra0; decide
      refine Ev.step (fun k => weighlocklaw17_BatchParts.j0.eq_2 ..) (Ev.neg (by decide) (Ev.pos (by simp; omega) (Ev.bind (Ev.cst rfl) (Ev.pos (by simp; omega) ?_))))
      rw [List.nil_append]
      refine Ev.bind (recs_ev off tick key val gone prod seq from_ (a ++ b) hab) ?_
      by_cases hw : rightN (a ++ b) = 0
      · rw [if_pos hw]
        cases hx : mk tick prod from_ off seq a with
        | none =>
          rw [mk_append, hx]
          exact Ev.neg (by simp [res]) (Ev.bind two_ev (Ev.now _))
        | some x =>
          cases hy : mk tick prod from_ (off + a.length) (if prod = 0 then seq else seq + a.length) b with
          | none =>
            rw [mk_append, hx, Option.bind_some, hy]
            exact Ev.neg (by simp [res]) (Ev.bind two_ev (Ev.now _))
          | some y =>
            rw [mk_append, hx, Option.bind_some, hy]
            have hxl := mk_len _ _ _ _ _ _ _ hx
            have hyl := mk_len _ _ _ _ _ _ _ hy
            obtain ⟨p, t, rfl⟩ : ∃ p t, a = p :: t := by
              cases a with
              | nil => exact absurd rfl hane
              | cons p t => exact ⟨p, t, rfl⟩
            have hm1 : mayB ⟨off, tick, p.f0, p.f1, p.f2, prod, seq, from_⟩ = true := by
              apply Classical.byContradiction
              intro hc
              rw [mk, if_neg hc] at hx
              cases hx
            have hbd := may_bd hm1
            simp only at hbd
            have r1 := recs_ev off tick key val gone prod seq from_ (p :: t) ha
            rw [if_pos ra0, hx] at r1
            refine Ev.pos rfl (Ev.bind r1 ?_)
            have fin : Ev (fun k => (weighlockref16_Same.f (res [] (Option.map (fun y => x ++ y) (some y))).1 (([] : List S31) ++ x ++ ([] ++ y))).bind fun t176 => if t176 = true then ((weighlocklaw17_two.f k).bind fun t177 => some t177) else some false) true := by
              have e : (res [] (Option.map (fun y => x ++ y) (some y))).1 = x ++ y := by simp [res]
              rw [e, List.nil_append, List.nil_append]
              exact Ev.bind (same_ev _) (Ev.pos rfl (Ev.bind two_ev (Ev.now _)))
            have r2 := recs_ev (off + ((p :: t).length : Int)) tick key val gone prod (if prod = 0 then seq else seq + ((p :: t).length : Int)) from_ b hb
            rw [if_pos rb0, hy] at r2
            rw [wrap_id (a := off + ((p :: t).length : Int)) (by omega) (by omega)]
            have l1 : (res [] (some x)).1.length = x.length := by simp [res]
            have l2 : (res [] (some y)).1.length = y.length := by simp [res]
            by_cases hp : prod = 0
            · rw [if_pos hp] at r2
              refine Ev.pos hp (Ev.bind r2 (Ev.pos (by rw [l1]; simp; omega) (Ev.bind (Ev.cst rfl) (Ev.pos (by rw [l2]; simp [res]; omega) (Ev.pos rfl (Ev.pos rfl fin))))))
            · rw [if_neg hp] at r2
              rw [wrap_id (a := seq + ((p :: t).length : Int)) (by omega) (by omega)]
              refine Ev.neg hp (Ev.bind r2 (Ev.pos (by rw [l1]; simp; omega) (Ev.bind (Ev.cst rfl) (Ev.pos (by rw [l2]; simp [res]; omega) (Ev.pos rfl (Ev.pos rfl fin))))))
      · rw [if_neg hw]
        exact Ev.neg hw (Ev.bind two_ev (Ev.now _))
    · rw [show (rightN b != 0) = true from by simpa using rb0]
      exact h3
  · exact Ev.neg ra0 h3
end Go.Proofs.Ytgpbfipobgbgnaa.Pu
