/- Who fetches again and again: plain laws, and what the program tells. -/
import Derived.Test.YtmkipdleggkkkaaPO
namespace Go.Proofs.Ytmkipdleggkkkaa.Own
open Go.RowKit Go.Proofs.YtmkipdleggkkkaaW.PrintWords Go.Proofs.YtmkipdleggkkkaaW.PrintLast Go.Proofs.YtmkipdleggkkkaaW.PrintMore Go.Proofs.Ytmkipdleggkkkaa.Pu
set_option maxRecDepth 100000
set_option linter.unusedSimpArgs false
set_option linter.unusedVariables false
/-- More of what holds at all times. -/
structure IV2 (s : DSt) : Prop where
  sn : s.st ≤ s.nx
  sm : s.st ≤ s.mr
  lo : ∀ x ∈ s.l, s.st ≤ x.f0
theorem IV2.act {s : DSt} (h : IV2 s) (kd n m : Int) (xs : List PB.S45) : IV2 (actS s kd n m xs).1 := by
  unfold actS
  by_cases h0 : kd = 0
  · rw [if_pos h0]
    cases hm : mayAll xs with
    | false => rw [appS_bad hm]; exact h
    | true =>
      cases hr : riseB xs s.nx with
      | false => rw [appS_low hm hr]; exact h
      | true =>
        rw [appS_ok hm hr]
        have hs := riseB_spec xs s.nx ((mayAll_iff xs).1 hm) hr
        exact ⟨Int.le_trans h.sn hs.2.2, h.sm, fun x hx => by
          rcases List.mem_append.1 hx with hx | hx
          · exact h.lo x hx
          · exact Int.le_trans h.sn (hs.2.1 x hx).1⟩
  rw [if_neg h0]
  by_cases h1 : kd = 1
  · rw [if_pos h1]
    unfold trimS
    by_cases hb : n < s.st ∨ s.nx < n
    · rw [if_pos hb]; exact h
    · rw [if_neg hb]
      have hx1 : s.mr ≤ max s.mr n ∧ n ≤ max s.mr n := by omega
      exact ⟨by show n ≤ s.nx; omega, hx1.2, fun x hx => by have := (List.mem_filter.1 hx).2; simpa using this⟩
  rw [if_neg h1]
  by_cases h2 : kd = 2
  · rw [if_pos h2]
    cases hm : mayAll xs with
    | false => rw [repS_bad hm]; exact h
    | true =>
      cases hr : riseB xs s.st with
      | false => rw [repS_low hm hr]; exact h
      | true =>
        have hs := riseB_spec xs s.st ((mayAll_iff xs).1 hm) hr
        by_cases h00 : xs.length = 0
        · rw [repS_ok hm hr (Or.inl h00)]; exact ⟨h.sn, h.sm, fun x hx => (hs.2.1 x hx).1⟩
        · by_cases hx : (PB.rd_T45 xs ((xs.length - 1 : Nat) : Int)).f0 < s.nx
          · rw [repS_ok hm hr (Or.inr ⟨by omega, hx⟩)]; exact ⟨h.sn, h.sm, fun x hx => (hs.2.1 x hx).1⟩
          · rw [repS_over hm (by omega) (by omega)]; exact h
  rw [if_neg h2]
  by_cases h3 : kd = 3
  · rw [if_pos h3]
    unfold setS
    by_cases hb : 0 < s.l.length ∨ s.nx ≠ 0
    · rw [if_pos hb]; exact h
    · rw [if_neg hb]
      by_cases hc : n < 0 ∨ n > m ∨ m > 1048577
      · rw [if_pos hc]; exact h
      · rw [if_neg hc]; exact ⟨by show n ≤ m; omega, by show n ≤ m; omega, by intro x hx; cases hx⟩
  rw [if_neg h3]
  by_cases h4 : kd = 4
  · rw [if_pos h4]; exact ⟨h.sn, h.sn, h.lo⟩
  · rw [if_neg h4]; exact h
/-- The records below the mark. -/
def belowD (l : List PB.S45) (mk : Int) : List PB.S45 := l.filter fun x => decide (x.f0 < mk)
theorem belowD_take (l : List PB.S45) (a : Int) (k : Nat) (hk : k < l.length) : belowD (l.take (k + 1)) a = if (PB.rd_T45 l (k : Int)).f0 < a then belowD (l.take k) a ++ [PB.rd_T45 l (k : Int)] else belowD (l.take k) a := by
  unfold belowD
  rw [List.take_succ_eq_append_getElem hk, List.filter_append, rd_get l k hk]
  by_cases h : l[k].f0 < a
  · rw [if_pos h]; simp [h]
  · rw [if_neg h]; simp [h]
theorem belowD_len (l : List PB.S45) (a : Int) (k : Nat) : (belowD (l.take k) a).length ≤ l.length := by
  unfold belowD
  exact Nat.le_trans (List.length_filter_le _ _) (by rw [List.length_take]; omega)
/-- What is still to be told, from an offset on. -/
def restD (l : List PB.S45) (a mk : Int) : List PB.S45 := belowD (fromD l a) mk
theorem restD_start {s : DSt} (h : IV2 s) : restD s.l s.st s.mr = belowD s.l s.mr := by
  unfold restD
  congr 1
  unfold fromD
  rw [List.filter_eq_self]
  intro x hx
  have := h.lo x hx
  simpa using this
theorem restD_end (l : List PB.S45) (mk : Int) : restD l mk mk = [] := by
  unfold restD belowD fromD
  rw [List.filter_eq_nil_iff]
  intro x hx
  have := (List.mem_filter.1 hx).2
  simp at this ⊢
  exact this
theorem restD_len (l : List PB.S45) (a mk : Int) : (restD l a mk).length ≤ l.length := by
  unfold restD belowD fromD
  exact Nat.le_trans (List.length_filter_le _ _) (List.length_filter_le _ _)
/-- A round of who fetches again and again. -/
def GoStep (s : DSt) (a most : Int) (F : List PB.S45) (on : Int) : Prop :=
  a < on ∧ on ≤ s.mr ∧ (F.length : Int) ≤ most ∧ F.length ≤ 16 ∧ F ++ restD s.l on s.mr = restD s.l a s.mr ∧ (F.length = 0 → on = s.mr)
theorem go_step {s : DSt} (hi : IV s) {a most on : Int} {N m k : Nat} (ha : a < s.mr) (hN : most = (N : Int) ∧ 1 ≤ N ∧ N < 16 ∨ most = 16 ∧ N = 16 ∨ 16 < most ∧ N = 16) (hm : cutAt s.l a m) (hk : k ≤ (s.l.drop m).length) (hkN : k ≤ N) (hlow : ∀ t, t < k → (PB.rd_T45 (s.l.drop m) (t : Int)).f0 < s.mr)
    (hstop : k = (s.l.drop m).length ∨ k = N ∨ s.mr ≤ (PB.rd_T45 (s.l.drop m) (k : Int)).f0) (hon : on = (if k = 0 then s.mr else wrap64 ((PB.rd_T45 (s.l.drop m) ((k - 1 : Nat) : Int)).f0 + 1))) : GoStep s a most ((s.l.drop m).take k) on := by
  have hd := cut_from_eq hm
  have hsd : (s.l.drop m).Pairwise (fun x y => x.f0 < y.f0) := ((risen_iff s.l).1 hi.ris).drop
  have hsl := (risen_iff s.l).1 hi.ris
  have hlt : ((s.l.drop m).take k).length = k := by rw [List.length_take]; omega
  have htake : belowD ((s.l.drop m).take k) s.mr = (s.l.drop m).take k := by
    unfold belowD
    rw [List.filter_eq_self]
    intro x hx
    obtain ⟨i, hi2, rfl⟩ := List.getElem_of_mem hx
    rw [hlt] at hi2
    rw [List.getElem_take]
    have := hlow i hi2
    rw [rd_get _ i (by omega)] at this
    simpa using this
  have hra : restD s.l a s.mr = (s.l.drop m).take k ++ belowD ((s.l.drop m).drop k) s.mr := by
    have e0 : belowD ((s.l.drop m).take k ++ (s.l.drop m).drop k) s.mr = belowD ((s.l.drop m).take k) s.mr ++ belowD ((s.l.drop m).drop k) s.mr := by unfold belowD; rw [List.filter_append]
    rw [List.take_append_drop, htake] at e0
    unfold restD
    rw [← hd, e0]
  have hNm : (N : Int) ≤ most ∧ N ≤ 16 ∧ 1 ≤ N := by omega
  unfold GoStep
  rw [hlt, hra]
  by_cases h0 : k = 0
  · rw [if_pos h0] at hon
    subst hon
    refine ⟨ha, Int.le_refl _, by omega, by omega, ?_, fun _ => rfl⟩
    rw [restD_end]
    congr 1
    subst h0
    symm
    unfold belowD
    rw [List.filter_eq_nil_iff]
    intro x hx
    rw [List.drop_zero] at hx
    obtain ⟨i, hi2, rfl⟩ := List.getElem_of_mem hx
    rcases hstop with h | h | h
    · omega
    · omega
    · rw [show ((0 : Nat) : Int) = ((0 : Nat) : Int) from rfl, rd_get _ 0 (by omega)] at h
      rcases Nat.eq_zero_or_pos i with rfl | hp
      · simpa using h
      · have := (List.pairwise_iff_getElem.1 hsd) 0 i (by omega) hi2 hp
        exact fun hc => by have := of_decide_eq_true hc; omega
  · rw [if_neg h0] at hon
    have hk1 : k - 1 < (s.l.drop m).length := by omega
    have hl1 := List.length_drop (i := m) (l := s.l)
    have hlast := hlow (k - 1) (by omega)
    rw [rd_get _ (k - 1) hk1] at hon hlast
    have hmem : (s.l.drop m)[k - 1] ∈ s.l := List.mem_of_mem_drop (List.getElem_mem _)
    rw [wrap_off (may_off (hi.may _ hmem))] at hon
    have hge : a ≤ (s.l.drop m)[k - 1].f0 := by
      rw [List.getElem_drop]
      have := hm.2.2 (m + (k - 1)) (by omega) (by omega)
      rwa [rd_get s.l _ (by omega)] at this
    refine ⟨by omega, by omega, by omega, by omega, ?_, fun h => absurd h h0⟩
    congr 1
    have hcut : cutAt s.l on (m + k) := by
      refine ⟨by omega, fun t ht => ?_, fun t h1 h2 => ?_⟩
      · rw [rd_get s.l t (by omega), hon, List.getElem_drop]
        rcases Nat.lt_or_ge t (m + (k - 1)) with h | h
        · have := (List.pairwise_iff_getElem.1 hsl) t (m + (k - 1)) (by omega) (by omega) h
          omega
        · have e : t = m + (k - 1) := by omega
          subst e; omega
      · rw [rd_get s.l t h2, hon, List.getElem_drop]
        have := (List.pairwise_iff_getElem.1 hsl) (m + (k - 1)) t (by omega) h2 (by omega)
        omega
    unfold restD
    rw [← cut_from_eq hcut, List.drop_drop]
/-- What the program tells in a round. -/
theorem pgoC {B g : Nat} {v : Value} {s : DSt} {w : World} (h : PS B g v s.l s.st s.nx s.mr w) (hi : IV s) (hl : s.l.length ≤ 60000) (a most : Int) (h1 : s.st ≤ a) (h2 : a < s.mr) (h3 : 1 ≤ most) :
    Calls Try.prog 21 #[.pointer (some ⟨g, 0, none⟩), .int .i64 a, .int .i64 most] w fun e w' => ∃ (u : Value) (F : List PB.S45) (on : Int), e = .returned (.tuple #[u, .int .i64 on, .int .i64 0]) ∧ Kd.R PB.k45 45 w' w.heap.size (fun _ => True) u F ∧ Below w.heap.size w w' ∧ GoStep s a most F on := by
  obtain ⟨N, hN⟩ : ∃ N : Nat, most = (N : Int) ∧ 1 ≤ N ∧ N < 16 ∨ most = 16 ∧ N = 16 ∨ 16 < most ∧ N = 16 := by
    by_cases q : most < 16
    · exact ⟨most.toNat, Or.inl ⟨by omega, by omega, by omega⟩⟩
    · by_cases q2 : most = 16
      · exact ⟨16, Or.inr (Or.inl ⟨q2, rfl⟩)⟩
      · exact ⟨16, Or.inr (Or.inr ⟨by omega, rfl⟩)⟩
  refine (fetch_ok h a most N (by omega) (by omega) hN hl hi.ris).mono ?_
  rintro e w' ⟨m, k, u, on, q1, q2, q3, q4, q5, q6, rfl, q7, q8⟩
  exact ⟨u, _, on, rfl, q7, q8, go_step hi h2 hN q1 q2 q3 q4 q5 q6⟩
end Go.Proofs.Ytmkipdleggkkkaa.Own
