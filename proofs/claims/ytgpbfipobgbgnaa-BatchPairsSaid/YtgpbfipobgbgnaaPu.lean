/- The laws of the batches over lists and numbers alone. -/
import Derived.Test.YtgpbfipobgbgnaaPMayRec
import Derived.Test.YtgpbfipobgbgnaaPAx10
namespace Go.Proofs.Ytgpbfipobgbgnaa.Pu
open Go.RowKit Go.Proofs.YtgpbfipobgbgnaaW.PrintWords Go.Proofs.YtgpbfipobgbgnaaW.PrintMore Go.Proofs.Ytgpbfipobgbgnaa.PA
set_option linter.unusedSimpArgs false
set_option linter.unusedVariables false
theorem rd26 (l : List S26) (m : Nat) (h : m < l.length) : rd_T26 l (m : Int) = l[m] := by
  unfold rd_T26
  rw [Int.toNat_natCast, List.getD_eq_getElem?_getD, List.getElem?_eq_getElem h]; rfl
theorem rd31 (l : List S31) (m : Nat) (h : m < l.length) : rd_T31 l (m : Int) = l[m] := by
  unfold rd_T31
  rw [Int.toNat_natCast, List.getD_eq_getElem?_getD, List.getElem?_eq_getElem h]; rfl
def W : List S26 → Int
  | [] => 0
  | x :: l => ((x.f0.size : Int) + (x.f1.size : Int)) + W l
theorem W_snoc (l : List S26) (x : S26) : W (l ++ [x]) = W l + ((x.f0.size : Int) + (x.f1.size : Int)) := by
  induction l with
  | nil => simp [W]
  | cons y l ih => rw [List.cons_append, W, ih, W]; omega
theorem W_append (l m : List S26) : W (l ++ m) = W l + W m := by
  induction l with
  | nil => simp [W]
  | cons y l ih => rw [List.cons_append, W, ih, W]; omega
def bnd (l : List S26) : Prop := l.length ≤ 60 ∧ ∀ x ∈ l, x.f0.size ≤ 300 ∧ x.f1.size ≤ 300
theorem W_bd {l : List S26} (h : ∀ x ∈ l, x.f0.size ≤ 300 ∧ x.f1.size ≤ 300) : 0 ≤ W l ∧ W l ≤ 600 * l.length := by
  induction l with
  | nil => simp [W]
  | cons y l ih =>
    have h1 := ih (fun x hx => h x (List.mem_cons_of_mem _ hx))
    have h2 := h y List.mem_cons_self
    rw [W, List.length_cons]
    omega
theorem take_bd {l : List S26} (h : ∀ x ∈ l, x.f0.size ≤ 300 ∧ x.f1.size ≤ 300) (m : Nat) : ∀ x ∈ l.take m, x.f0.size ≤ 300 ∧ x.f1.size ≤ 300 := fun x hx => h x (List.mem_of_mem_take hx)
theorem large_ev (l : List S26) : ∃ r, Ev (fun k => weighlocklaw17_large.f k l) r ∧ (r = false → l.length ≤ 30 ∧ ∀ x ∈ l, x.f0.size ≤ 300 ∧ x.f1.size ≤ 300) := by
  unfold weighlocklaw17_large.f
  by_cases h : (l.length : Int) > 30
  · exact ⟨true, Ev.pos h (Ev.now true), fun h => by cases h⟩
  · have key : ∀ (d m : Nat), l.length - m = d → m ≤ l.length → (∀ x ∈ l.take m, x.f0.size ≤ 300 ∧ x.f1.size ≤ 300) → ∃ r, Ev (fun k => weighlocklaw17_large.l0 k l (l.length : Int) (m : Int)) r ∧ (r = false → ∀ x ∈ l, x.f0.size ≤ 300 ∧ x.f1.size ≤ 300) := by
      intro d
      induction d with
      | zero =>
        intro m hd hm hg
        obtain rfl : m = l.length := by omega
        rw [List.take_of_length_le (Nat.le_refl _)] at hg
        exact ⟨false, Ev.step (fun k => weighlocklaw17_large.l0.eq_2 ..) (Ev.neg (by omega) (Ev.now false)), fun _ => hg⟩
      | succ d ih =>
        intro m hd hm hg
        have hlt : m < l.length := by omega
        by_cases h1 : (l[m].f0.size : Int) > 300
        · refine ⟨true, ?_, fun h => by cases h⟩
          refine Ev.step (fun k => weighlocklaw17_large.l0.eq_2 ..) (Ev.pos (by omega) (Ev.pos (by omega) (Ev.pos (by omega) ?_)))
          rw [rd26 l m hlt]
          exact Ev.pos h1 (Ev.now true)
        · by_cases h2 : (l[m].f1.size : Int) > 300
          · refine ⟨true, ?_, fun h => by cases h⟩
            refine Ev.step (fun k => weighlocklaw17_large.l0.eq_2 ..) (Ev.pos (by omega) (Ev.pos (by omega) (Ev.pos (by omega) ?_)))
            rw [rd26 l m hlt]
            exact Ev.neg h1 (Ev.pos h2 (Ev.now true))
          · obtain ⟨r, e1, e2⟩ := ih (m + 1) (by omega) (by omega) (by
              intro x hx
              rw [List.take_succ_eq_append_getElem hlt, List.mem_append, List.mem_singleton] at hx
              rcases hx with hx | rfl
              · exact hg x hx
              · omega)
            refine ⟨r, ?_, e2⟩
            refine Ev.step (fun k => weighlocklaw17_large.l0.eq_2 ..) (Ev.pos (by omega) (Ev.pos (by omega) (Ev.pos (by omega) ?_)))
            rw [rd26 l m hlt, wrap_id (by omega) (by omega)]
            exact Ev.neg h1 (Ev.neg h2 e1)
    obtain ⟨r, e1, e2⟩ := key l.length 0 (by omega) (by omega) (by simp)
    exact ⟨r, Ev.neg h e1, fun hr => ⟨by omega, e2 hr⟩⟩
theorem weight_ev (l : List S26) (h : bnd l) : Ev (fun k => batch_Weight.f k l) (W l) := by
  have key : ∀ (d m : Nat), l.length - m = d → m ≤ l.length → Ev (fun k => batch_Weight.l0 k (W (l.take m)) l (l.length : Int) (m : Int)) (W l) := by
    intro d
    induction d with
    | zero =>
      intro m hd hm
      obtain rfl : m = l.length := by omega
      rw [List.take_of_length_le (Nat.le_refl _)]
      exact Ev.step (fun k => batch_Weight.l0.eq_2 ..) (Ev.neg (by omega) (Ev.now _))
    | succ d ih =>
      intro m hd hm
      have hlt : m < l.length := by omega
      have hb := W_bd (take_bd h.2 m)
      have hl := List.length_take_le m l
      have hx := h.2 l[m] (List.getElem_mem hlt)
      have h60 := h.1
      refine Ev.step (fun k => batch_Weight.l0.eq_2 ..) (Ev.pos (by omega) (Ev.pos (by omega) (Ev.pos (by omega) ?_)))
      rw [rd26 l m hlt, wrap_id (a := (m : Int) + 1) (by omega) (by omega), wrap_id (a := (l[m].f0.size : Int) + (l[m].f1.size : Int)) (by omega) (by omega), wrap_id (by omega) (by omega), ← W_snoc, ← List.take_succ_eq_append_getElem hlt]
      exact ih (m + 1) (by omega) (by omega)
  exact key l.length 0 (by omega) (by omega)
/-- Which pairs may not be. -/
def wr (x : S26) : Bool := Rt.wrongB (cvP x)
theorem wr_eq (x : S26) : wr x = (decide (32 < x.f0.size) || (decide (200 < x.f1.size) || (x.f2 && (decide (x.f0.size = 0) || decide (0 < x.f1.size))))) := by
  obtain ⟨a, b, c⟩ := x
  unfold wr Rt.wrongB PB.batch_wrong.f cvP
  simp only
  have q9 : (a.toList = ([] : List UInt8)) = (a.size = 0) := propext (str_nil a)
  have q10 : (b.toList != ([] : List UInt8)) = decide (0 < b.size) := by
    by_cases h : b.size = 0
    · rw [(str_nil b).2 h]; simp [h]
    · have := mt (str_nil b).1 h
      have h2 : 0 < b.size := by omega
      simp [h2, this]
  simp only [q9, q10]
  generalize a.size = m
  generalize b.size = n
  have q3 : ((m : Int) > 32) = (32 < m) := by apply propext; omega
  have q4 : ((n : Int) > 200) = (200 < n) := by apply propext; omega
  simp only [q3, q4]
  by_cases h1 : 32 < m <;> by_cases h2 : 200 < n <;> by_cases h3 : m = 0 <;> cases c <;> simp [h1, h2, h3]
theorem wsum_eq {l : List S26} (h : bnd l) : Rt.wsum (l.map cvP) = W l := by
  have key : ∀ (m : Nat), m ≤ l.length → ((l.take m).map cvP).foldl (fun n x => wrap64 (n + wrap64 ((x.f0.size : Int) + (x.f1.size : Int)))) 0 = W (l.take m) := by
    intro m
    induction m with
    | zero => intro _; simp [W]
    | succ m ih =>
      intro hm
      have hlt : m < l.length := by omega
      have hb := W_bd (take_bd h.2 m)
      have hl := List.length_take_le m l
      have hx := h.2 l[m] (List.getElem_mem hlt)
      have h60 := h.1
      rw [List.take_succ_eq_append_getElem hlt, List.map_append, List.foldl_append, ih (by omega), W_snoc]
      show wrap64 (_ + wrap64 ((l[m].f0.size : Int) + (l[m].f1.size : Int))) = _
      rw [wrap_id (a := (l[m].f0.size : Int) + (l[m].f1.size : Int)) (by omega) (by omega), wrap_id (by omega) (by omega)]
  have := key l.length (Nat.le_refl _)
  rw [List.take_of_length_le (Nat.le_refl _)] at this
  exact this
def rightN (l : List S26) : Int := if l.length = 0 ∨ l.any wr = true then 1 else if 8 < l.length ∨ 500 < W l then 2 else 0
theorem right_eq {l : List S26} (h : bnd l) : batch_Right.f l = some (rightN l) := by
  unfold batch_Right.f Rt.rightF Rt.rightL rightN
  rw [wsum_eq h, List.length_map, List.any_map]
  rfl
theorem refRight_ev (l : List S26) (h : bnd l) : Ev (fun k => weighlockref17_Right.f k l) (rightN l) := by
  have hend : (l.any wr = false) → Ev (fun k => weighlockref17_Right.l0 k l (W l) l (l.length : Int) (l.length : Int)) (rightN l) := by
    intro hn
    refine Ev.step (fun k => weighlockref17_Right.l0.eq_2 ..) (Ev.neg (by omega) ?_)
    by_cases h0 : l.length = 0
    · exact Ev.pos (by omega) (Ev.get (Ev.now 1) (by unfold rightN; rw [if_pos (.inl h0)]))
    · refine Ev.neg (by omega) ?_
      have e : rightN l = if 8 < l.length ∨ 500 < W l then 2 else 0 := by unfold rightN; rw [if_neg (by rw [hn]; simp; intro e; rw [e] at h0; exact h0 rfl)]
      by_cases h8 : 8 < l.length
      · exact Ev.pos (by omega) (Ev.get (Ev.now 2) (by rw [e, if_pos (.inl h8)]))
      · by_cases h5 : 500 < W l
        · exact Ev.neg (by omega) (Ev.pos (by omega) (Ev.get (Ev.now 2) (by rw [e, if_pos (.inr h5)])))
        · exact Ev.neg (by omega) (Ev.neg (by omega) (Ev.get (Ev.now 0) (by rw [e, if_neg (by omega)])))
  have key : ∀ (d m : Nat), l.length - m = d → m ≤ l.length → (l.take m).any wr = false → Ev (fun k => weighlockref17_Right.l0 k l (W (l.take m)) l (l.length : Int) (m : Int)) (rightN l) := by
    intro d
    induction d with
    | zero =>
      intro m hd hm hn
      obtain rfl : m = l.length := by omega
      rw [List.take_of_length_le (Nat.le_refl _)] at hn ⊢
      exact hend hn
    | succ d ih =>
      intro m hd hm hn
      have hlt : m < l.length := by omega
      have hb := W_bd (take_bd h.2 m)
      have hl := List.length_take_le m l
      have hx := h.2 l[m] (List.getElem_mem hlt)
      have h60 := h.1
      have hw := wr_eq l[m]
      have bad : wr l[m] = true → rightN l = 1 := fun hb => by
        unfold rightN; rw [if_pos (.inr (List.any_eq_true.2 ⟨l[m], List.getElem_mem hlt, hb⟩))]
      have good : wr l[m] = false → Ev (fun k => weighlockref17_Right.l0 k l (wrap64 ((wrap64 (W (l.take m) + (l[m].f0.size : Int))) + (l[m].f1.size : Int))) l (l.length : Int) (wrap64 ((m : Int) + 1))) (rightN l) := by
        intro hg
        rw [wrap_id (a := (m : Int) + 1) (by omega) (by omega), wrap_id (a := W (l.take m) + (l[m].f0.size : Int)) (by omega) (by omega), wrap_id (by omega) (by omega), Int.add_assoc, ← W_snoc, ← List.take_succ_eq_append_getElem hlt]
        exact ih (m + 1) (by omega) (by omega) (by rw [List.take_succ_eq_append_getElem hlt, List.any_append, hn]; simp [hg])
      refine Ev.step (fun k => weighlockref17_Right.l0.eq_2 ..) (Ev.pos (by omega) (Ev.pos (by omega) (Ev.pos (by omega) ?_)))
      rw [rd26 l m hlt]
      generalize l[m] = x at *
      obtain ⟨a, b, c⟩ := x
      simp only at *
      by_cases h1 : 32 < a.size
      · exact Ev.pos (by omega) (Ev.get (Ev.now 1) (bad (by rw [hw]; simp [h1])).symm)
      · refine Ev.neg (by omega) ?_
        by_cases h2 : 200 < b.size
        · exact Ev.pos (by omega) (Ev.get (Ev.now 1) (bad (by rw [hw]; simp [h2])).symm)
        · refine Ev.neg (by omega) ?_
          cases c with
          | false => exact Ev.neg (by decide) (good (by rw [hw]; simp [h1, h2]))
          | true =>
            refine Ev.pos rfl ?_
            by_cases h3 : a.size = 0
            · exact Ev.pos (by omega) (Ev.get (Ev.now 1) (bad (by rw [hw]; simp [h3])).symm)
            · refine Ev.neg (by omega) ?_
              by_cases h4 : 0 < b.size
              · exact Ev.pos (by omega) (Ev.get (Ev.now 1) (bad (by rw [hw]; simp [h4])).symm)
              · exact Ev.neg (by omega) (good (by rw [hw]; simp [h1, h2, h3, h4]))
  exact key l.length 0 (by omega) (by omega) (by simp)
/-- The records of pairs. -/
def mk (tick prod from_ : Int) : Int → Int → List S26 → Option (List S31)
  | _, _, [] => some []
  | off, seq, p :: l => if mayB ⟨off, tick, p.f0, p.f1, p.f2, prod, seq, from_⟩ = true then (mk tick prod from_ (off + 1) (if prod = 0 then seq else seq + 1) l).map (fun t => ⟨off, tick, p.f0, p.f1, p.f2, prod, seq, from_⟩ :: t) else none
def res (acc : List S31) : Option (List S31) → List S31 × Int
  | none => ([], 20)
  | some l => (acc ++ l, 0)
theorem may_bd {x : S31} (h : mayB x = true) : 0 ≤ x.f0 ∧ x.f0 ≤ 1048576 ∧ 0 ≤ x.f6 ∧ x.f6 ≤ 1099511627776 := by
  have := (mayB_iff x).1 h; omega
theorem recs_loop (tick prod from_ : Int) (key val : ByteArray) (gone : Bool) (l : List S26) (h60 : l.length ≤ 1000) (d : Nat) : ∀ (m : Nat) (acc : List S31) (off seq : Int), l.length - m = d → m ≤ l.length → acc.length ≤ m →
    Ev (fun k => batch_Records.l0 k acc l (l.length : Int) (m : Int) off tick key val gone prod seq from_) (res acc (mk tick prod from_ off seq (l.drop m))) := by
  induction d with
  | zero =>
    intro m acc off seq hd hm hacc
    obtain rfl : m = l.length := by omega
    rw [List.drop_of_length_le (Nat.le_refl _)]
    exact Ev.step (fun k => batch_Records.l0.eq_2 ..) (Ev.neg (by omega) (Ev.get (Ev.now _) (by simp [mk, res])))
  | succ d ih =>
    intro m acc off seq hd hm hacc
    have hlt : m < l.length := by omega
    refine Ev.step (fun k => batch_Records.l0.eq_2 ..) (Ev.pos (by omega) (Ev.pos (by omega) (Ev.pos (by omega) ?_)))
    rw [rd26 l m hlt, List.drop_eq_getElem_cons hlt]
    refine Ev.bind (recMay_ev ⟨off, tick, l[m].f0, l[m].f1, l[m].f2, prod, seq, from_⟩) ?_
    rw [mk]
    by_cases hm2 : mayB ⟨off, tick, l[m].f0, l[m].f1, l[m].f2, prod, seq, from_⟩ = true
    · have hb := may_bd hm2
      simp only at hb
      rw [if_pos hm2]
      refine Ev.pos hm2 (Ev.pos (by omega) (Ev.bind (Ev.cst rfl) ?_))
      have step : ∀ sq : Int, res acc ((mk tick prod from_ (off + 1) sq (l.drop (m + 1))).map (fun t => ⟨off, tick, l[m].f0, l[m].f1, l[m].f2, prod, seq, from_⟩ :: t)) = res (acc ++ [⟨off, tick, l[m].f0, l[m].f1, l[m].f2, prod, seq, from_⟩]) (mk tick prod from_ (off + 1) sq (l.drop (m + 1))) := by
        intro sq
        cases mk tick prod from_ (off + 1) sq (l.drop (m + 1)) <;> simp [res]
      rw [step, wrap_id (a := (m : Int) + 1) (by omega) (by omega), wrap_id (a := off + 1) (by omega) (by omega), wrap_id (a := seq + 1) (by omega) (by omega)]
      by_cases hp : prod = 0
      · rw [if_pos hp]
        exact Ev.pos hp (ih (m + 1) _ _ _ (by omega) (by omega) (by simp; omega))
      · rw [if_neg hp]
        exact Ev.neg hp (ih (m + 1) _ _ _ (by omega) (by omega) (by simp; omega))
    · rw [if_neg hm2]
      exact Ev.neg hm2 (Ev.now _)
theorem recs_ev (off tick : Int) (key val : ByteArray) (gone : Bool) (prod seq from_ : Int) (l : List S26) (h : bnd l) :
    Ev (fun k => batch_Records.f k off tick key val gone prod seq from_ l) (if rightN l = 0 then res [] (mk tick prod from_ off seq l) else ([], rightN l)) := by
  unfold batch_Records.f
  refine Ev.bind (Ev.cst (right_eq h)) ?_
  by_cases h0 : rightN l = 0
  · rw [if_pos h0]
    refine Ev.pos h0 ?_
    have := recs_loop tick prod from_ key val gone l (by have := h.1; omega) l.length 0 [] off seq (by omega) (by omega) (by simp)
    rwa [List.drop_zero] at this
  · rw [if_neg h0]
    exact Ev.neg h0 (Ev.now _)
theorem same_ev (l : List S31) : Ev (fun _ => weighlockref16_Same.f l l) true := Ev.cst (by unfold weighlockref16_Same.f; rw [Sm.sameB_refl])
def pa : S26 := ⟨⟨#[97]⟩, ⟨#[120]⟩, false⟩
def pb : S26 := ⟨⟨#[98]⟩, ⟨#[]⟩, true⟩
theorem two_ev : Ev (fun k => weighlocklaw17_two.f k) true := by
  have hb : bnd [pa, pb] := ⟨by simp, by intro x hx; simp at hx; rcases hx with rfl | rfl <;> decide⟩
  have hr : rightN [pa, pb] = 0 := by simp [rightN, wr_eq, W, pa, pb, show (⟨#[97]⟩ : ByteArray).size = 1 from rfl, show (⟨#[98]⟩ : ByteArray).size = 1 from rfl, show (⟨#[120]⟩ : ByteArray).size = 1 from rfl, show (⟨#[]⟩ : ByteArray).size = 0 from rfl]
  have hm : mk 3 2 0 5 9 [pa, pb] = some [⟨5, 3, ⟨#[97]⟩, ⟨#[120]⟩, false, 2, 9, 0⟩, ⟨6, 3, ⟨#[98]⟩, ⟨#[]⟩, true, 2, 10, 0⟩] := by rfl
  have h1 := recs_ev 5 3 ⟨#[]⟩ ⟨#[]⟩ false 2 9 0 [pa, pb] hb
  rw [if_pos hr, hm] at h1
  unfold weighlocklaw17_two.f
  refine Ev.bind (Ev.cst rfl) ?_
  refine Ev.bind h1 (Ev.pos rfl ?_)
  refine Ev.bind (same_ev _) (Ev.pos rfl ?_)
  refine Ev.bind (weight_ev [pa, pb] hb) (Ev.get (Ev.now _) ?_)
  decide
theorem batchRight_ev (l : List S26) : Ev (fun k => weighlocklaw17_BatchRight.f k l) true := by
  obtain ⟨r, h1, h2⟩ := large_ev l
  unfold weighlocklaw17_BatchRight.f
  refine Ev.bind h1 ?_
  cases r with
  | true => exact Ev.pos rfl (Ev.bind two_ev (Ev.now _))
  | false =>
    obtain ⟨h30, hx⟩ := h2 rfl
    have hb : bnd l := ⟨by omega, hx⟩
    refine Ev.neg (by decide) ?_
    have key : ∀ (d m : Nat), l.length - m = d → m ≤ l.length → Ev (fun k => weighlocklaw17_BatchRight.l0 k l (W (l.take m)) l (l.length : Int) (m : Int)) true := by
      intro d
      induction d with
      | zero =>
        intro m hd hm
        obtain rfl : m = l.length := by omega
        rw [List.take_of_length_le (Nat.le_refl _)]
        refine Ev.step (fun k => weighlocklaw17_BatchRight.l0.eq_2 ..) (Ev.neg (by omega) ?_)
        refine Ev.bind (Ev.cst (right_eq hb)) (Ev.bind (refRight_ev l hb) (Ev.pos rfl ?_))
        exact Ev.bind (weight_ev l hb) (Ev.pos rfl (Ev.bind two_ev (Ev.now _)))
      | succ d ih =>
        intro m hd hm
        have hlt : m < l.length := by omega
        have hbb := W_bd (take_bd hx m)
        have hl := List.length_take_le m l
        have hxx := hx l[m] (List.getElem_mem hlt)
        refine Ev.step (fun k => weighlocklaw17_BatchRight.l0.eq_2 ..) (Ev.pos (by omega) (Ev.pos (by omega) (Ev.pos (by omega) ?_)))
        rw [rd26 l m hlt]
        refine Ev.pos (by omega) ?_
        rw [wrap_id (a := (m : Int) + 1) (by omega) (by omega), ByteArray.size_append, wrap_id (by omega) (by omega), Int.natCast_add, ← W_snoc, ← List.take_succ_eq_append_getElem hlt]
        exact ih (m + 1) (by omega) (by omega)
    exact key l.length 0 (by omega) (by omega)
end Go.Proofs.Ytgpbfipobgbgnaa.Pu
