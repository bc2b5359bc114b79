/- Several texts of this claim in one. -/
import Derived.Test.YtmkpdknlkblegaaPuPack
import Derived.Test.YtmkpdknlkblegaaPAx23
import Derived.Test.YtmkpdknlkblegaaPuDec
import Derived.Test.YtmkpdknlkblegaaPAx16
import Derived.Test.YtmkpdknlkblegaaPAx24
/- Unpack over any bytes: the program's and the document's. -/
namespace Go.Proofs.Ytmkpdknlkblegaa.Pu
open Go.RowKit Go.Proofs.YtmkpdknlkblegaaW.PrintWords Go.Proofs.YtmkpdknlkblegaaW.PrintMore Go.Proofs.Ytmkpdknlkblegaa.PA
set_option linter.unusedSimpArgs false
set_option linter.unusedVariables false
def Parse (s : ByteArray) (l : List S23) : Prop := Rd.bl s = cat l ∧ ∀ x ∈ l, mayA x = true
theorem recA_pos (x : S23) : 0 < (recA x).length := by have := recA_ge x; omega
theorem parse_nil {s : ByteArray} (h : s.size = 0) : Parse s [] := ⟨List.eq_nil_of_length_eq_zero (by rw [← Rd.bl_size]; exact h), fun x hx => by cases hx⟩
theorem parse_none {s : ByteArray} {l : List S23} (hz : s.size ≠ 0) (hd : decA s = none) : ¬ Parse s l := by
  rintro ⟨h1, h2⟩
  cases l with
  | nil => exact hz (by rw [Rd.bl_size, h1]; rfl)
  | cons y t =>
    rw [cat, List.flatMap_cons] at h1
    rw [decA_of h1 (h2 y List.mem_cons_self)] at hd
    cases hd
theorem rest_bl {s : ByteArray} {x : S23} {r : List UInt8} (h : Rd.bl s = recA x ++ r) : Rd.bl (s.extract (recA x).length s.size) = r := by
  rw [Rd.bl_extract, h, List.drop_left, Rd.bl_size, h, List.length_append, Nat.add_sub_cancel_left, List.take_length]
theorem parse_some {s : ByteArray} {x : S23} {c : Nat} {l : List S23} (hz : s.size ≠ 0) (hd : decA s = some (x, c)) (h : Parse s l) : ∃ t, l = x :: t ∧ Parse (s.extract c s.size) t := by
  obtain ⟨h1, h2⟩ := h
  cases l with
  | nil => exact absurd (by rw [Rd.bl_size, h1]; rfl) hz
  | cons y t =>
    rw [cat, List.flatMap_cons] at h1
    have := decA_of h1 (h2 y List.mem_cons_self)
    rw [hd] at this
    simp only [Option.some.injEq, Prod.mk.injEq] at this
    obtain ⟨rfl, rfl⟩ := this
    exact ⟨t, rfl, rest_bl h1, fun z hz => h2 z (List.mem_cons_of_mem _ hz)⟩
theorem parse_cons {s : ByteArray} {x : S23} {c : Nat} {t : List S23} (hd : decA s = some (x, c)) (h : Parse (s.extract c s.size) t) : Parse s (x :: t) := by
  obtain ⟨hm, r, h1, rfl⟩ := decA_to hd
  obtain ⟨g1, g2⟩ := h
  rw [rest_bl h1] at g1
  refine ⟨by rw [h1, g1, cat, cat, List.flatMap_cons], fun z hz => ?_⟩
  rcases List.mem_cons.1 hz with rfl | hz
  · exact hm
  · exact g2 z hz
theorem parse_one (l : List S23) : ∀ (s : ByteArray) (l' : List S23), Parse s l → Parse s l' → l = l' := by
  induction l with
  | nil =>
    intro s l' h h'
    cases l' with
    | nil => rfl
    | cons y t =>
      exfalso
      have h1 := h.1.symm.trans h'.1
      rw [cat, cat, List.flatMap_cons] at h1
      have := congrArg List.length h1
      rw [List.length_append] at this
      have := recA_pos y
      simp at *
      omega
  | cons x t ih =>
    intro s l' h h'
    have hx := h.2 x List.mem_cons_self
    have h1 := h.1
    rw [cat, List.flatMap_cons] at h1
    have hd := decA_of h1 hx
    have hz : s.size ≠ 0 := by rw [Rd.bl_size, h1, List.length_append]; have := recA_pos x; omega
    obtain ⟨t1, e1, p1⟩ := parse_some hz hd h
    obtain ⟨t2, e2, p2⟩ := parse_some hz hd h'
    cases e1
    rw [e2, ih _ _ p1 p2]
theorem dec_size {s : ByteArray} {x : S23} {c : Nat} (hd : decA s = some (x, c)) : 0 < c ∧ c ≤ s.size ∧ (s.extract c s.size).size = s.size - c := by
  obtain ⟨hm, r, h1, rfl⟩ := decA_to hd
  have := recA_pos x
  have h2 : s.size = (recA x).length + r.length := by rw [Rd.bl_size, h1, List.length_append]
  exact ⟨this, by omega, by rw [ByteArray.size_extract]; omega⟩
theorem inc_snoc {out : List S23} {x : S23} (hi : Inc out) (h : 0 < out.length → (rd_T23 out ((out.length - 1 : Nat) : Int)).f0 < x.f0) : Inc (out ++ [x]) := by
  intro m hm
  rw [List.length_append, List.length_singleton] at hm
  by_cases h1 : m + 1 < out.length
  · rw [List.getElem_append_left (by omega), List.getElem_append_left h1]
    exact hi m h1
  · have h2 : m + 1 = out.length := by omega
    have h3 := h (by omega)
    rw [rd23 out _ (by omega)] at h3
    rw [List.getElem_append_left (by omega), List.getElem_append_right (by omega)]
    have e : out.length - 1 = m := by omega
    simp only [e] at h3
    simpa [h2] using h3
theorem inc_last {out t : List S23} {x : S23} (hi : Inc (out ++ x :: t)) (h0 : 0 < out.length) : out[out.length - 1].f0 < x.f0 := by
  have hj := hi (out.length - 1) (by rw [List.length_append, List.length_cons]; omega)
  rw [List.getElem_append_left (by omega)] at hj
  have e2 : (out ++ x :: t)[out.length - 1 + 1]'(by rw [List.length_append, List.length_cons]; omega) = x := by
    have : out.length - 1 + 1 = out.length := by omega
    simp only [this]
    rw [List.getElem_append_right (Nat.le_refl _)]
    simp
  rwa [e2] at hj
theorem unp_loop (n : Nat) : ∀ (s : ByteArray) (out : List S23), s.size ≤ n → s.size ≤ 1000 → Inc out → out.length ≤ 8 →
    (∃ l, Parse s l ∧ Inc (out ++ l) ∧ (out ++ l).length ≤ 8) ∨ Ev (fun k => record_Unpack.l0 k s out) ([], 4) := by
  induction n with
  | zero => intro s out hn hz hi hl; exact Or.inl ⟨[], parse_nil (by omega), by rwa [List.append_nil], by rwa [List.append_nil]⟩
  | succ n ih =>
    intro s out hn hz hi hl
    by_cases h0 : s.size = 0
    · exact Or.inl ⟨[], parse_nil h0, by rwa [List.append_nil], by rwa [List.append_nil]⟩
    cases hd : decA s with
    | none =>
      refine Or.inr (Ev.step (fun k => record_Unpack.l0.eq_2 ..) (Ev.neg (by rw [str_nil]; exact h0) ?_))
      simp only [dec_eq s (by omega), hd, Option.bind_some]
      exact Ev.neg (by decide) (Ev.now _)
    | some q =>
      obtain ⟨x, c⟩ := q
      obtain ⟨c1, c2, c3⟩ := dec_size hd
      have hx : (⟨x.f0, x.f1, x.f2, x.f3, x.f4, x.f5, x.f6, x.f7⟩ : S23) = x := rfl
      by_cases h8 : out.length = 8
      · refine Or.inr (Ev.step (fun k => record_Unpack.l0.eq_2 ..) (Ev.neg (by rw [str_nil]; exact h0) ?_))
        simp only [dec_eq s (by omega), hd, Option.bind_some]
        exact Ev.pos (by first | rfl | trivial) (Ev.pos (by omega) (Ev.now _))
      have key : (0 < out.length → (rd_T23 out ((out.length - 1 : Nat) : Int)).f0 < x.f0) → (∃ l, Parse s l ∧ Inc (out ++ l) ∧ (out ++ l).length ≤ 8) ∨ Ev (fun k => if out.length < 1759218604441 then (if (0 : Int) ≤ (c : Int) then (if (c : Int) ≤ (s.size : Int) then (record_Unpack.l0 k (s.extract ((c : Int)).toNat s.size) (out ++ [x])) else none) else none) else none) ([], 4) := by
        intro g
        have gi := inc_snoc hi g
        clear g
        rcases ih (s.extract c s.size) (out ++ [x]) (by omega) (by omega) gi (by rw [List.length_append, List.length_singleton]; omega) with ⟨l, p, q1, q2⟩ | he
        · rw [List.append_assoc, List.singleton_append] at q1 q2
          exact Or.inl ⟨x :: l, parse_cons hd p, q1, q2⟩
        · refine Or.inr (Ev.pos (by omega) (Ev.pos (by omega) (Ev.pos (by omega) ?_)))
          rw [Int.toNat_natCast]
          exact he
      by_cases hg : 0 < out.length
      · have hlt : out.length - 1 < out.length := by omega
        have hw : wrap64 ((out.length : Int) - 1) = ((out.length - 1 : Nat) : Int) := by rw [wrap_id (by omega) (by omega)]; omega
        by_cases hc : x.f0 ≤ (rd_T23 out ((out.length - 1 : Nat) : Int)).f0
        · refine Or.inr (Ev.step (fun k => record_Unpack.l0.eq_2 ..) (Ev.neg (by rw [str_nil]; exact h0) ?_))
          simp only [dec_eq s (by omega), hd, Option.bind_some, hw]
          exact Ev.pos (by first | rfl | trivial) (Ev.neg (by omega) (Ev.pos (by omega) (Ev.pos (by omega) (Ev.pos (by omega) (Ev.pos hc (Ev.now _))))))
        · rcases key (fun _ => by omega) with h | h
          · exact Or.inl h
          · refine Or.inr (Ev.step (fun k => record_Unpack.l0.eq_2 ..) (Ev.neg (by rw [str_nil]; exact h0) ?_))
            simp only [dec_eq s (by omega), hd, Option.bind_some, hw]
            exact Ev.pos (by first | rfl | trivial) (Ev.neg (by omega) (Ev.pos (by omega) (Ev.pos (by omega) (Ev.pos (by omega) (Ev.neg hc h)))))
      · rcases key (fun g => absurd g hg) with h | h
        · exact Or.inl h
        · refine Or.inr (Ev.step (fun k => record_Unpack.l0.eq_2 ..) (Ev.neg (by rw [str_nil]; exact h0) ?_))
          simp only [dec_eq s (by omega), hd, Option.bind_some]
          exact Ev.pos (by first | rfl | trivial) (Ev.neg (by omega) (Ev.neg (by omega) h))
end Go.Proofs.Ytmkpdknlkblegaa.Pu
/- The document's Decode is the program's, as a list law. -/
namespace Go.Proofs.Ytmkpdknlkblegaa.Pu
open Go.RowKit Go.Proofs.YtmkpdknlkblegaaW.PrintWords Go.Proofs.YtmkpdknlkblegaaW.PrintMore Go.Proofs.Ytmkpdknlkblegaa.PA
set_option linter.unusedSimpArgs false
set_option linter.unusedVariables false
theorem rdec_eq (s : ByteArray) (hs : s.size ≤ 9223372036854775807) : weighlockref16_Decode.f s = some (match decA s with | none => (0, 0, ⟨#[]⟩, ⟨#[]⟩, false, 0, 0, 0, 0, false) | some (r, c) => (r.f0, r.f1, r.f2, r.f3, r.f4, r.f5, r.f6, r.f7, (c : Int), true)) := by
  unfold weighlockref16_Decode.f decA
  rw [if_pos hs]
  cases Rd.decR s <;> rfl
end Go.Proofs.Ytmkpdknlkblegaa.Pu
/- RecordUnpacks over strings alone. -/
namespace Go.Proofs.Ytmkpdknlkblegaa.Pu
open Go.RowKit Go.Proofs.YtmkpdknlkblegaaW.PrintWords Go.Proofs.YtmkpdknlkblegaaW.PrintMore Go.Proofs.Ytmkpdknlkblegaa.PA
set_option linter.unusedSimpArgs false
set_option linter.unusedVariables false
/-- What the document's loop tells. -/
noncomputable def outF (l : List S23) : List S23 × Bool := if wrongF l = 0 then (l, true) else ([], false)
theorem end_ev (l : List S23) (hl : l.length ≤ 1000) : Ev (fun k => (weighlockref16_Wrong.f k l).bind fun t => if t = 0 then some (l, true) else some (([] : List S23), false)) (outF l) := by
  refine Ev.bind (wrong_ev l hl) ?_
  by_cases h : wrongF l = 0
  · have e : outF l = (l, true) := if_pos h
    rw [e]; exact Ev.pos h (Ev.now _)
  · have e : outF l = ([], false) := if_neg h
    rw [e]; exact Ev.neg h (Ev.now _)
theorem runp_loop (n : Nat) : ∀ (s : ByteArray) (out : List S23) (i : Nat), s.size ≤ n → s.size ≤ 1000 → out.length = i → i ≤ 100 →
    (∃ l, Parse s l ∧ Ev (fun k => weighlockref16_Unpack.l0 k out s (i : Int)) (outF (out ++ l))) ∨ ((∀ l, Parse s l → 100 < i + l.length) ∧ Ev (fun k => weighlockref16_Unpack.l0 k out s (i : Int)) ([], false)) := by
  induction n with
  | zero =>
    intro s out i hn hz ho hi
    have h0 : s.size = 0 := by omega
    refine Or.inl ⟨[], parse_nil h0, ?_⟩
    rw [List.append_nil]
    refine Ev.step (fun k => weighlockref16_Unpack.l0.eq_2 ..) ?_
    by_cases h : (i : Int) < 100
    · exact Ev.pos h (Ev.pos ((str_nil s).2 h0) (end_ev out (by omega)))
    · exact Ev.neg h (Ev.pos ((str_nil s).2 h0) (end_ev out (by omega)))
  | succ n ih =>
    intro s out i hn hz ho hi
    by_cases h0 : s.size = 0
    · refine Or.inl ⟨[], parse_nil h0, ?_⟩
      rw [List.append_nil]
      refine Ev.step (fun k => weighlockref16_Unpack.l0.eq_2 ..) ?_
      by_cases h : (i : Int) < 100
      · exact Ev.pos h (Ev.pos ((str_nil s).2 h0) (end_ev out (by omega)))
      · exact Ev.neg h (Ev.pos ((str_nil s).2 h0) (end_ev out (by omega)))
    by_cases h : (i : Int) < 100
    · cases hd : decA s with
      | none =>
        refine Or.inr ⟨fun l p => absurd p (parse_none h0 hd), Ev.step (fun k => weighlockref16_Unpack.l0.eq_2 ..) (Ev.pos h (Ev.neg (by rw [str_nil]; exact h0) ?_))⟩
        simp only [rdec_eq s (by omega), hd, Option.bind_some]
        exact Ev.neg (by decide) (Ev.now _)
      | some q =>
        obtain ⟨x, c⟩ := q
        obtain ⟨c1, c2, c3⟩ := dec_size hd
        have hstep : ∀ r, Ev (fun k => weighlockref16_Unpack.l0 k (out ++ [x]) (s.extract c s.size) ((i + 1 : Nat) : Int)) r → Ev (fun k => weighlockref16_Unpack.l0 k out s (i : Int)) r := by
          intro r hr
          refine Ev.step (fun k => weighlockref16_Unpack.l0.eq_2 ..) (Ev.pos h (Ev.neg (by rw [str_nil]; exact h0) ?_))
          simp only [rdec_eq s (by omega), hd, Option.bind_some]
          refine Ev.pos (by first | rfl | trivial) (Ev.pos (by omega) (Ev.pos (by omega) (Ev.pos (by omega) ?_)))
          rw [Int.toNat_natCast, wrap_id (by omega) (by omega)]
          exact hr
        rcases ih (s.extract c s.size) (out ++ [x]) (i + 1) (by omega) (by omega) (by rw [List.length_append, List.length_singleton]; omega) (by omega) with ⟨l, p, he⟩ | ⟨p, he⟩
        · rw [List.append_assoc, List.singleton_append] at he
          exact Or.inl ⟨x :: l, parse_cons hd p, hstep _ he⟩
        · refine Or.inr ⟨fun l pl => ?_, hstep _ he⟩
          obtain ⟨t, rfl, pt⟩ := parse_some h0 hd pl
          have := p t pt
          rw [List.length_cons]; omega
    · refine Or.inr ⟨fun l p => ?_, Ev.step (fun k => weighlockref16_Unpack.l0.eq_2 ..) (Ev.neg h (Ev.neg (by rw [str_nil]; exact h0) (Ev.now _)))⟩
      cases l with
      | nil => exact absurd (by rw [Rd.bl_size, p.1]; rfl) h0
      | cons y t => rw [List.length_cons]; omega
theorem wrong_zero {l : List S23} : wrongF l = 0 ↔ allOk l ∧ l ≠ [] ∧ l.length ≤ 8 ∧ (cat l).length ≤ 773 := by
  unfold wrongF
  by_cases ha : allOk l
  · rw [if_pos ha]
    by_cases h0 : l.length = 0
    · rw [if_pos h0]
      exact ⟨fun h => absurd h (by decide), fun h => absurd (List.eq_nil_of_length_eq_zero h0) h.2.1⟩
    · rw [if_neg h0]
      by_cases h8 : 8 < l.length ∨ 773 < (cat l).length
      · rw [if_pos h8]; exact ⟨fun h => absurd h (by decide), fun h => by omega⟩
      · rw [if_neg h8]; exact ⟨fun _ => ⟨ha, fun h => h0 (by rw [h]; rfl), by omega, by omega⟩, fun _ => rfl⟩
  · rw [if_neg ha]; exact ⟨fun h => absurd h (by decide), fun h => absurd h.1 ha⟩
theorem ok_of {l : List S23} (h : ∀ x ∈ l, mayA x = true) (hi : Inc l) : allOk l := by
  intro m hm
  refine ⟨by rw [R_eq l m hm]; exact h _ (List.getElem_mem hm), fun h0 => ?_⟩
  have := hi (m - 1) (by omega)
  rw [R_eq l (m - 1) (by omega), R_eq l m hm]
  have e : m - 1 + 1 = m := by omega
  simpa [e] using this
theorem unpack_bad (s : ByteArray) (h9 : s.size ≤ 900) (h : ∀ l, Parse s l → wrongF l ≠ 0) : Ev (fun k => record_Unpack.f k s) ([], 4) := by
  unfold record_Unpack.f
  by_cases h0 : s.size = 0
  · exact Ev.pos ((str_nil s).2 h0) (Ev.step (fun k => record_Unpack.j0.eq_2 ..) (Ev.pos rfl (Ev.now _)))
  refine Ev.neg (by rw [str_nil]; exact h0) (Ev.step (fun k => record_Unpack.j0.eq_2 ..) ?_)
  by_cases h7 : (s.size : Int) > 773
  · exact Ev.pos (by simpa using h7) (Ev.now _)
  refine Ev.neg (by simpa using h7) ?_
  rcases unp_loop s.size s [] (Nat.le_refl _) (by omega) (by intro m hm; simp at hm) (by simp) with ⟨l, p, q1, q2⟩ | he
  · rw [List.nil_append] at q1 q2
    refine absurd (wrong_zero.2 ⟨ok_of p.2 q1, ?_, q2, ?_⟩) (h l p)
    · rintro rfl; exact h0 (by rw [Rd.bl_size, p.1]; rfl)
    · rw [← p.1, ← Rd.bl_size]; omega
  · exact he
theorem unpacks_ev (s : ByteArray) : Ev (fun k => weighlocklaw16_RecordUnpacks.f k s) true := by
  unfold weighlocklaw16_RecordUnpacks.f
  by_cases h : (s.size : Int) > 900
  · exact Ev.pos h (Ev.bind one_ev (Ev.now _))
  refine Ev.neg h ?_
  have hsame : ∀ l, weighlockref16_Same.f l l = some true := fun l => congrArg some (Sm.sameB_refl _)
  have hf : ∀ r, Ev (fun k => weighlockref16_Unpack.l0 k [] s ((0 : Nat) : Int)) r → Ev (fun k => weighlockref16_Unpack.f k s) r := fun r hr => by unfold weighlockref16_Unpack.f; exact hr
  have hbad : Ev (fun k => record_Unpack.f k s) ([], 4) → Ev (fun k => weighlockref16_Unpack.f k s) ([], false) → Ev (fun k => (record_Unpack.f k s).bind fun bt => (weighlockref16_Unpack.f k s).bind fun bu => (if ((bt.2 == 0) != bu.2) = true then (weighlocklaw16_RecordUnpacks.j0 k s bt.1 true bu.1 bu.2) else (if bt.2 = 0 then ((weighlockref16_Same.f bt.1 bu.1).bind fun t => (weighlocklaw16_RecordUnpacks.j0 k s bt.1 (!t) bu.1 bu.2)) else (if bt.2 = 4 then ((weighlockref16_Same.f bt.1 bu.1).bind fun t => (weighlocklaw16_RecordUnpacks.j0 k s bt.1 (!t) bu.1 bu.2)) else (weighlocklaw16_RecordUnpacks.j0 k s bt.1 true bu.1 bu.2))))) true := by
    intro h1 h2
    refine Ev.bind h1 (Ev.bind h2 (Ev.neg (by decide) (Ev.neg (by decide) (Ev.pos rfl ?_))))
    simp only [hsame, Option.bind_some]
    exact Ev.step (fun k => weighlocklaw16_RecordUnpacks.j0.eq_2 ..) (Ev.neg (by decide) (Ev.neg (by decide) (Ev.bind one_ev (Ev.now _))))
  rcases runp_loop s.size s [] 0 (Nat.le_refl _) (by omega) rfl (by omega) with ⟨l, p, he⟩ | ⟨p, he⟩
  · rw [List.nil_append] at he
    by_cases hw : wrongF l = 0
    · have hw' := wrong_zero.1 hw
      obtain ⟨ha, hn, hl, hc⟩ := hw'
      have hz : s.size = (cat l).length := by rw [Rd.bl_size, p.1]
      have h1 := unpack_ok l s p.1 hn p.2 (allOk_inc ha) hl (by omega)
      have h2 := hf _ (Ev.get he (show outF l = (l, true) from if_pos hw))
      refine Ev.bind h1 (Ev.bind h2 (Ev.neg (show ¬ (((0 : Int) == 0) != true) = true by decide) (Ev.pos rfl ?_)))
      simp only [hsame, Option.bind_some]
      have hp : packF l = (Own.sB (cat l), 0) := by unfold packF; rw [if_pos ha, List.take_of_length_le hl, if_neg (by omega)]
      have hs : Own.sB (cat l) = s := by rw [← p.1]; exact Own.sB_of s
      refine Ev.step (fun k => weighlocklaw16_RecordUnpacks.j0.eq_2 ..) (Ev.neg (by decide) (Ev.pos rfl (Ev.bind (Ev.get (pack_ev l (by omega) hn) hp) (Ev.pos rfl ?_))))
      rw [hs]
      exact Ev.pos rfl (Ev.bind one_ev (Ev.now _))
    · exact hbad (unpack_bad s (by omega) (fun l' p' => by rw [← parse_one l s l' p p']; exact hw)) (hf _ (Ev.get he (show outF l = ([], false) from if_neg hw)))
  · refine hbad (unpack_bad s (by omega) (fun l' p' hw => ?_)) (hf _ he)
    have := p l' p'
    have := (wrong_zero.1 hw).2.2.1
    omega
end Go.Proofs.Ytmkpdknlkblegaa.Pu
/- The walk of the law RecordUnpacks: the printed contract and the pure law. -/
namespace Go.Proofs.Ytmkpdknlkblegaa.Own
open Go.RowKit Go.Proofs.YtmkpdknlkblegaaW.PrintWords
set_option linter.unusedVariables false
theorem recordUnpacks_walk (a0 : ByteArray) (w : World) (w0 : a0.size ≤ 140737488351232) : Calls Try.prog 7 #[.string a0] w fun e w' => e = .returned (.bool true) ∧ Below w.heap.size w w' := by
  obtain ⟨k, hk⟩ := Ev.rounds (Pu.unpacks_ev a0)
  exact PA.weighlocklaw16_RecordUnpacks.calls k a0 true w hk rfl
end Go.Proofs.Ytmkpdknlkblegaa.Own
