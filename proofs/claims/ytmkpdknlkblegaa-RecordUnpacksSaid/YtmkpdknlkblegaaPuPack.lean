/- Many records over lists alone: Pack, Wrong and the document's Pack. -/
import Derived.Test.YtmkpdknlkblegaaPuOne
import Derived.Test.YtmkpdknlkblegaaPuEnc
import Derived.Test.YtmkpdknlkblegaaPAx18
import Derived.Test.YtmkpdknlkblegaaPW
namespace Go.Proofs.Ytmkpdknlkblegaa.Pu
open Go.RowKit Go.Proofs.YtmkpdknlkblegaaW.PrintWords Go.Proofs.YtmkpdknlkblegaaW.PrintMore Go.Proofs.Ytmkpdknlkblegaa.PA
set_option linter.unusedSimpArgs false
set_option linter.unusedVariables false
def R (l : List S23) (m : Nat) : S23 := rd_T23 l (m : Int)
theorem R_eq (l : List S23) (m : Nat) (h : m < l.length) : R l m = l[m] := rd23 l m h
def okAt (l : List S23) (m : Nat) : Prop := mayA (R l m) = true ∧ (0 < m → (R l (m - 1)).f0 < (R l m).f0)
def allOk (l : List S23) : Prop := ∀ m, m < l.length → okAt l m
theorem cat_take (l : List S23) (m : Nat) (h : m < l.length) : cat (l.take (m + 1)) = cat (l.take m) ++ recA (R l m) := by
  rw [R_eq l m h, List.take_succ_eq_append_getElem h, cat, cat, List.flatMap_append]
  simp
theorem cat_le (l : List S23) (m : Nat) (hm : m ≤ l.length) (h : ∀ j, j < m → okAt l j) : (cat (l.take m)).length ≤ 263 * m := by
  induction m with
  | zero => simp [cat]
  | succ m ih =>
    have h1 := ih (by omega) (fun j hj => h j (by omega))
    have h2 := (h m (by omega)).1
    have h3 := recA_le _ h2
    rw [may_iff] at h2
    rw [cat_take l m (by omega), List.length_append]
    omega
open Classical in
noncomputable def packF (l : List S23) : ByteArray × Int := if allOk l then (if 8 < l.length ∨ 773 < (cat (l.take 8)).length then (⟨#[]⟩, 2) else (Own.sB (cat (l.take 8)), 0)) else (⟨#[]⟩, 1)
open Classical in
noncomputable def wrongF (l : List S23) : Int := if allOk l then (if l.length = 0 then 1 else if 8 < l.length ∨ 773 < (cat l).length then 2 else 0) else 1
theorem pack_loop (l : List S23) (hl : l.length ≤ 1000) (d : Nat) : ∀ m, l.length - m = d → m ≤ l.length → (∀ j, j < m → okAt l j) → Ev (fun k => record_Pack.l0 k l (Own.sB (cat (l.take (min 8 m)))) l (l.length : Int) (m : Int)) (packF l) := by
  induction d with
  | zero =>
    intro m hd hm hk
    obtain rfl : m = l.length := by omega
    have ha : allOk l := fun j hj => hk j hj
    refine Ev.step (fun k => record_Pack.l0.eq_2 ..) (Ev.neg (by omega) ?_)
    unfold packF
    rw [if_pos ha]
    by_cases h8 : 8 < l.length
    · rw [if_pos (Or.inl h8)]; exact Ev.pos (by omega) (Ev.now _)
    · have e : cat (l.take (min 8 l.length)) = cat (l.take 8) := by rw [Nat.min_eq_right (by omega), List.take_of_length_le (Nat.le_refl _), List.take_of_length_le (by omega)]
      rw [e]
      refine Ev.neg (by omega) ?_
      rw [Own.sB_size]
      by_cases hz : 773 < (cat (l.take 8)).length
      · rw [if_pos (Or.inr hz)]; exact Ev.pos (by omega) (Ev.now _)
      · rw [if_neg (show ¬ (8 < l.length ∨ 773 < (cat (l.take 8)).length) by omega)]; exact Ev.neg (by omega) (Ev.now _)
  | succ d ih =>
    intro m hd hm hk
    have hlt : m < l.length := by omega
    have hbad : ∀ (c : Bool) (h : ¬ okAt l m), c = true → Ev (fun k => record_Pack.j1 k l (Own.sB (cat (l.take (min 8 m)))) (m : Int) l (l.length : Int) (m : Int) c (R l m).f0 (R l m).f1 (R l m).f2 (R l m).f3 (R l m).f4 (R l m).f5 (R l m).f6 (R l m).f7) (packF l) := by
      intro c h hc
      unfold packF
      rw [if_neg (fun ha => h (ha m hlt))]
      exact Ev.step (fun k => record_Pack.j1.eq_2 ..) (Ev.pos hc (Ev.now _))
    have hgood : ∀ (c : Bool) (h : okAt l m), c = false → Ev (fun k => record_Pack.j1 k l (Own.sB (cat (l.take (min 8 m)))) (m : Int) l (l.length : Int) (m : Int) c (R l m).f0 (R l m).f1 (R l m).f2 (R l m).f3 (R l m).f4 (R l m).f5 (R l m).f6 (R l m).f7) (packF l) := by
      intro c h hc
      have hn := ih (m + 1) (by omega) (by omega) (fun j hj => by
        rcases Nat.lt_or_ge j m with h1 | h1
        · exact hk j h1
        · obtain rfl : j = m := by omega
          exact h)
      refine Ev.step (fun k => record_Pack.j1.eq_2 ..) (Ev.neg (by rw [hc]; decide) ?_)
      rw [wrap_id (by omega) (by omega)]
      by_cases h8 : m < 8
      · refine Ev.pos (by omega) ?_
        simp only [enc_eq _ h.1, Option.bind_some]
        have hz := cat_le l m (by omega) hk
        have hr := recA_le _ h.1
        have hmm := h.1
        rw [may_iff] at hmm
        rw [Nat.min_eq_right (by omega)]
        refine Ev.pos (by rw [Own.sB_size, Own.sB_size]; omega) ?_
        rw [Own.sB_append, ← cat_take l m hlt]
        rwa [Nat.min_eq_right (show m + 1 ≤ 8 by omega)] at hn
      · refine Ev.neg (by omega) ?_
        rw [Nat.min_eq_left (show 8 ≤ m by omega)]
        rwa [Nat.min_eq_left (show 8 ≤ m + 1 by omega)] at hn
    refine Ev.step (fun k => record_Pack.l0.eq_2 ..) (Ev.pos (by omega) (Ev.pos (by omega) (Ev.pos (by omega) ?_)))
    have hmm : record_May.f (rd_T23 l (m : Int)).f0 (rd_T23 l (m : Int)).f1 (rd_T23 l (m : Int)).f2 (rd_T23 l (m : Int)).f3 (rd_T23 l (m : Int)).f4 (rd_T23 l (m : Int)).f5 (rd_T23 l (m : Int)).f6 (rd_T23 l (m : Int)).f7 = some (mayA (R l m)) := rfl
    simp only [hmm, Option.bind_some]
    by_cases hm1 : mayA (R l m) = true
    · refine Ev.pos hm1 ?_
      by_cases h0 : 0 < m
      · have hw : wrap64 ((m : Int) - 1) = ((m - 1 : Nat) : Int) := by rw [wrap_id (by omega) (by omega)]; omega
        rw [hw]
        refine Ev.pos (by omega) (Ev.pos (by omega) (Ev.pos (by omega) ?_))
        by_cases hc : (R l m).f0 ≤ (R l (m - 1)).f0
        · exact hbad _ (fun h => by have := h.2 h0; omega) (by simpa [R] using hc)
        · exact hgood _ ⟨hm1, fun _ => by omega⟩ (by simpa [R] using hc)
      · exact Ev.neg (by omega) (hgood false ⟨hm1, fun h => absurd h h0⟩ rfl)
    · exact Ev.neg hm1 (hbad true (fun h => hm1 h.1) rfl)
theorem pack_ev (l : List S23) (hl : l.length ≤ 1000) (h0 : l ≠ []) : Ev (fun k => record_Pack.f k l) (packF l) := by
  unfold record_Pack.f
  have : l.length ≠ 0 := fun h => h0 (List.eq_nil_of_length_eq_zero h)
  exact Ev.neg (by omega) (pack_loop l hl _ 0 rfl (by omega) (fun j hj => absurd hj (by omega)))
theorem wrong_loop (l : List S23) (hl : l.length ≤ 1000) (d : Nat) : ∀ m, l.length - m = d → m ≤ l.length → (∀ j, j < m → okAt l j) → Ev (fun k => weighlockref16_Wrong.l0 k l ((cat (l.take m)).length : Int) l (l.length : Int) (m : Int)) (wrongF l) := by
  induction d with
  | zero =>
    intro m hd hm hk
    obtain rfl : m = l.length := by omega
    have ha : allOk l := fun j hj => hk j hj
    refine Ev.step (fun k => weighlockref16_Wrong.l0.eq_2 ..) (Ev.neg (by omega) ?_)
    unfold wrongF
    rw [if_pos ha, List.take_of_length_le (Nat.le_refl _)]
    by_cases h0 : l.length = 0
    · rw [if_pos h0]; exact Ev.pos (by omega) (Ev.now _)
    · rw [if_neg h0]
      refine Ev.neg (by omega) ?_
      by_cases h8 : 8 < l.length
      · rw [if_pos (Or.inl h8)]; exact Ev.pos (by omega) (Ev.now _)
      · refine Ev.neg (by omega) ?_
        by_cases hz : 773 < (cat l).length
        · rw [if_pos (Or.inr hz)]; exact Ev.pos (by omega) (Ev.now _)
        · rw [if_neg (show ¬ (8 < l.length ∨ 773 < (cat l).length) by omega)]; exact Ev.neg (by omega) (Ev.now _)
  | succ d ih =>
    intro m hd hm hk
    have hlt : m < l.length := by omega
    have hgood : ∀ (h : okAt l m), Ev (fun k => (weighlockref16_Encode.f k (rd_T23 l (m : Int)).f0 (rd_T23 l (m : Int)).f1 (rd_T23 l (m : Int)).f2 (rd_T23 l (m : Int)).f3 (rd_T23 l (m : Int)).f4 (rd_T23 l (m : Int)).f5 (rd_T23 l (m : Int)).f6 (rd_T23 l (m : Int)).f7).bind fun t => weighlockref16_Wrong.l0 k l (wrap64 (((cat (l.take m)).length : Int) + (t.size : Int))) l (l.length : Int) (wrap64 ((m : Int) + 1))) (wrongF l) := by
      intro h
      have hn := ih (m + 1) (by omega) (by omega) (fun j hj => by
        rcases Nat.lt_or_ge j m with h1 | h1
        · exact hk j h1
        · obtain rfl : j = m := by omega
          exact h)
      refine Ev.bind (refEnc_ev _ _ _ _ _ _ _ _ h.1) ?_
      have hz := cat_le l m (by omega) hk
      have hr := recA_le _ h.1
      have hmm := h.1
      rw [may_iff] at hmm
      rw [cat_take l m hlt, List.length_append] at hn
      have e : (Own.sB (Own.recL (rd_T23 l (m : Int)).f0.toNat (rd_T23 l (m : Int)).f1.toNat (rd_T23 l (m : Int)).f5.toNat (rd_T23 l (m : Int)).f6.toNat (rd_T23 l (m : Int)).f7.toNat (rd_T23 l (m : Int)).f4 (rd_T23 l (m : Int)).f2 (rd_T23 l (m : Int)).f3)).size = (recA (R l m)).length := Own.sB_size _
      rw [e, wrap_id (by omega) (by omega), wrap_id (by omega) (by omega)]
      rw [show (((cat (l.take m)).length + (recA (R l m)).length : Nat) : Int) = ((cat (l.take m)).length : Int) + ((recA (R l m)).length : Int) by omega] at hn
      exact hn
    refine Ev.step (fun k => weighlockref16_Wrong.l0.eq_2 ..) (Ev.pos (by omega) (Ev.pos (by omega) (Ev.pos (by omega) ?_)))
    have hmm : weighlockref16_May.f (rd_T23 l (m : Int)).f0 (rd_T23 l (m : Int)).f1 (rd_T23 l (m : Int)).f2 (rd_T23 l (m : Int)).f3 (rd_T23 l (m : Int)).f4 (rd_T23 l (m : Int)).f5 (rd_T23 l (m : Int)).f6 (rd_T23 l (m : Int)).f7 = some (mayA (R l m)) := rfl
    simp only [hmm, Option.bind_some]
    by_cases hm1 : mayA (R l m) = true
    · refine Ev.pos hm1 ?_
      by_cases h0 : 0 < m
      · have hw : wrap64 ((m : Int) - 1) = ((m - 1 : Nat) : Int) := by rw [wrap_id (by omega) (by omega)]; omega
        simp only [hw]
        refine Ev.pos (by omega) (Ev.pos (by omega) (Ev.pos (by omega) ?_))
        by_cases hc : (R l m).f0 ≤ (R l (m - 1)).f0
        · refine Ev.pos hc (Ev.get (Ev.now _) ?_)
          unfold wrongF
          rw [if_neg (fun ha => by have := (ha m hlt).2 h0; omega)]
        · exact Ev.neg hc (hgood ⟨hm1, fun _ => by omega⟩)
      · exact Ev.neg (by omega) (hgood ⟨hm1, fun h => absurd h h0⟩)
    · refine Ev.neg hm1 (Ev.get (Ev.now _) ?_)
      unfold wrongF
      rw [if_neg (fun ha => hm1 (ha m hlt).1)]
theorem wrong_ev (l : List S23) (hl : l.length ≤ 1000) : Ev (fun k => weighlockref16_Wrong.f k l) (wrongF l) := by
  unfold weighlockref16_Wrong.f
  exact wrong_loop l hl _ 0 rfl (by omega) (fun j hj => absurd hj (by omega))
theorem refpack_ev (l : List S23) (hl : l.length ≤ 1000) (ha : allOk l) : Ev (fun k => weighlockref16_Pack.f k l) (Own.sB (cat l)) := by
  have key : ∀ (d m : Nat), l.length - m = d → m ≤ l.length → Ev (fun k => weighlockref16_Pack.l0 k (Own.sB (cat (l.take m))) l (l.length : Int) (m : Int)) (Own.sB (cat l)) := by
    intro d
    induction d with
    | zero =>
      intro m hd hm
      obtain rfl : m = l.length := by omega
      rw [List.take_of_length_le (Nat.le_refl _)]
      exact Ev.step (fun k => weighlockref16_Pack.l0.eq_2 ..) (Ev.neg (by omega) (Ev.now _))
    | succ d ih =>
      intro m hd hm
      have hlt : m < l.length := by omega
      have h := ha m hlt
      have hn := ih (m + 1) (by omega) (by omega)
      have hz := cat_le l m (by omega) (fun j hj => ha j (by omega))
      have hr := recA_le _ h.1
      have hmm := h.1
      rw [may_iff] at hmm
      refine Ev.step (fun k => weighlockref16_Pack.l0.eq_2 ..) (Ev.pos (by omega) (Ev.pos (by omega) (Ev.pos (by omega) (Ev.bind (refEnc_ev _ _ _ _ _ _ _ _ h.1) ?_))))
      have e : Own.sB (Own.recL (rd_T23 l (m : Int)).f0.toNat (rd_T23 l (m : Int)).f1.toNat (rd_T23 l (m : Int)).f5.toNat (rd_T23 l (m : Int)).f6.toNat (rd_T23 l (m : Int)).f7.toNat (rd_T23 l (m : Int)).f4 (rd_T23 l (m : Int)).f2 (rd_T23 l (m : Int)).f3) = Own.sB (recA (R l m)) := rfl
      rw [e, wrap_id (by omega) (by omega)]
      refine Ev.pos (by rw [Own.sB_size, Own.sB_size]; omega) ?_
      rw [Own.sB_append, ← cat_take l m hlt]
      exact hn
  unfold weighlockref16_Pack.f
  exact key _ 0 rfl (by omega)
theorem allOk_may {l : List S23} (h : allOk l) : ∀ x ∈ l, mayA x = true := by
  intro x hx
  obtain ⟨j, hj, rfl⟩ := List.getElem_of_mem hx
  rw [← R_eq l j hj]
  exact (h j hj).1
theorem allOk_inc {l : List S23} (h : allOk l) : Inc l := by
  intro m hm
  have := (h (m + 1) hm).2 (by omega)
  rwa [Nat.add_sub_cancel, R_eq l m (by omega), R_eq l (m + 1) hm] at this
end Go.Proofs.Ytmkpdknlkblegaa.Pu
