/- Several texts of this claim in one. -/
import Derived.Test.YtmkipdleggkkkaaUc
import Derived.Test.YtmkipdleggkkkaaMay
import Derived.Test.YtmkipdleggkkkaaPBx3
/- The walks of the document's Set, Replace and Trim. -/
namespace Go.Proofs.Ytmkipdleggkkkaa.Own
open Go.RowKit Go.Proofs.YtmkipdleggkkkaaW.PrintWords Go.Proofs.YtmkipdleggkkkaaW.PrintLast Go.Proofs.YtmkipdleggkkkaaW.PrintMore Go.Proofs.Ytmkipdleggkkkaa.Pu
set_option maxRecDepth 100000
set_option linter.unusedSimpArgs false
set_option linter.unusedVariables false
attribute [local go_sem] max2_int min2_int max_two min_two max_three min_three max_four min_four
/-- What the document's calls hand back. -/
def dv (A : Option Addr) (ln c : Nat) (st nx mk er : Int) : Value := .agg #[.slice A ln c, .int .i64 st, .int .i64 nx, .int .i64 mk, .int .i64 er]
theorem dset_state (A : Option Addr) (ln c : Nat) (st nx mk : Int) (a b : Int) (w : World) (hl : 0 < ln ∨ nx ≠ 0) :
    Calls Try.prog 34 #[.agg #[.slice A ln c, .int .i64 st, .int .i64 nx, .int .i64 mk], .int .i64 a, .int .i64 b] w fun e w' => e = .returned (dv A ln c st nx mk 7) ∧ Below w.heap.size w w' := by
  by_cases h0 : 0 < ln
  · have e1 : decide ((ln : Int) > 0) = true := by rw [decide_eq_true_iff]; omega
    have e2 : (0 : Int) < (ln : Int) := by omega
    have e3 : ¬ ln = 0 := by omega
    clear hl
    go_enter Try.func34, Try.ntmps34
    go_wp2
    all_goals
      refine bodyPost_ret (v := dv A ln c st nx mk 7) (by simp [results, Try.results34, go_sem, dv, *]) rfl ?_
      exact ⟨rfl, ((Below.refl _ _).alloc (Nat.le_refl _) _).alloc (by simp) _⟩
  · have e1 : decide ((ln : Int) > 0) = false := by rw [decide_eq_false_iff_not]; omega
    have e2 : ¬ (0 : Int) < (ln : Int) := by omega
    obtain rfl : ln = 0 := by omega
    have e4 : (nx != 0) = true := by rw [bne_iff_ne]; rcases hl with h | h; exact absurd h h0; exact h
    have e5 : ¬ nx = 0 := by rwa [bne_iff_ne] at e4
    clear hl
    go_enter Try.func34, Try.ntmps34
    go_wp2
    all_goals
      refine bodyPost_ret (v := dv A 0 c st nx mk 7) (by simp [results, Try.results34, go_sem, dv, *]) rfl ?_
      exact ⟨rfl, ((Below.refl _ _).alloc (Nat.le_refl _) _).alloc (by simp) _⟩
theorem dset_arg (A : Option Addr) (c : Nat) (st mk : Int) (a b : Int) (w : World) (hl : a < 0 ∨ a > b ∨ b > 1048577) :
    Calls Try.prog 34 #[.agg #[.slice A 0 c, .int .i64 st, .int .i64 0, .int .i64 mk], .int .i64 a, .int .i64 b] w fun e w' => e = .returned (dv A 0 c st 0 mk 1) ∧ Below w.heap.size w w' := by
  by_cases h0 : a < 0
  · clear hl
    go_enter Try.func34, Try.ntmps34
    go_wp2
    all_goals
      refine bodyPost_ret (v := dv A 0 c st 0 mk 1) (by simp [results, Try.results34, go_sem, dv, *]) rfl ?_
      exact ⟨rfl, ((Below.refl _ _).alloc (Nat.le_refl _) _).alloc (by simp) _⟩
  · by_cases h1 : a > b
    · clear hl
      go_enter Try.func34, Try.ntmps34
      go_wp2
      all_goals
        refine bodyPost_ret (v := dv A 0 c st 0 mk 1) (by simp [results, Try.results34, go_sem, dv, *]) rfl ?_
        exact ⟨rfl, ((Below.refl _ _).alloc (Nat.le_refl _) _).alloc (by simp) _⟩
    · have h2 : b > 1048577 := by omega
      clear hl
      go_enter Try.func34, Try.ntmps34
      go_wp2
      all_goals
        refine bodyPost_ret (v := dv A 0 c st 0 mk 1) (by simp [results, Try.results34, go_sem, dv, *]) rfl ?_
        exact ⟨rfl, ((Below.refl _ _).alloc (Nat.le_refl _) _).alloc (by simp) _⟩
theorem dset_ok (A : Option Addr) (c : Nat) (st mk : Int) (a b : Int) (w : World) (h0 : 0 ≤ a) (h1 : a ≤ b) (h2 : b ≤ 1048577) :
    Calls Try.prog 34 #[.agg #[.slice A 0 c, .int .i64 st, .int .i64 0, .int .i64 mk], .int .i64 a, .int .i64 b] w fun e w' => e = .returned (dv none 0 0 a b b 0) ∧ Below w.heap.size w w' := by
  go_enter Try.func34, Try.ntmps34
  go_wp2
  all_goals
    refine bodyPost_ret (v := dv none 0 0 a b b 0) (by simp [results, Try.results34, go_sem, dv, *]) rfl ?_
    exact ⟨rfl, ((Below.refl _ _).alloc (Nat.le_refl _) _).alloc (by simp) _⟩
theorem dmay_ev (l : List PB.S45) (hl : l.length ≤ 60000) : ∀ (n k : Nat), k + n = l.length → Ev (fun q => PB.weighlockref19_may.l0 q l (l.length : Int) (k : Int)) ((l.drop k).all fun x => PuB.mayB x) := by
  intro n
  induction n with
  | zero =>
    intro k h
    rw [List.drop_of_length_le (by omega)]
    exact Ev.step (fun q => PB.weighlockref19_may.l0.eq_2 ..) (Ev.neg (by omega) (Ev.cst rfl))
  | succ n ih =>
    intro k h
    have hk : k < l.length := by omega
    refine Ev.step (fun q => PB.weighlockref19_may.l0.eq_2 ..) (Ev.pos (by omega) (Ev.pos (by omega) (Ev.pos (by omega) ?_)))
    rw [rd_get l k hk, List.drop_eq_getElem_cons hk, List.all_cons]
    refine Ev.bind (PuB.refMay_ev l[k]) ?_
    cases hx : PuB.mayB l[k] with
    | false => exact Ev.neg (by decide) (Ev.cst rfl)
    | true =>
      refine Ev.pos rfl ?_
      have hw : wrap64 ((k : Int) + 1) = ((k + 1 : Nat) : Int) := by unfold wrap64; omega
      rw [hw, Bool.true_and]
      exact ih (k + 1) (by omega)
theorem dmay_any (A : Option Addr) (c : Nat) (l : List PB.S45) (w : World) (hr : Kd.C PB.k45 w A l.length l) (hc : l.length ≤ c) (hl : l.length ≤ 60000) :
    Calls Try.prog 40 #[.slice A l.length c] w fun e w' => e = .returned (.bool (l.all fun x => PuB.mayB x)) ∧ Below w.heap.size w w' := by
  obtain ⟨k, hk⟩ := Ev.rounds (dmay_ev l hl l.length 0 (by omega))
  exact PB.weighlockref19_may.calls k A c l _ w hr hc (by unfold PB.weighlockref19_may.f; exact hk)
/-- Is an offset not above the one before it? -/
def lowD : Option Int → Int → Bool
  | none, _ => false
  | some y, x => decide (x ≤ y)
/-- Do offsets rise behind one, from one on, all below another? -/
def riseD : List PB.S45 → Option Int → Int → Int → Bool
  | [], _, _, _ => true
  | x :: t, p, a, b => if x.f0 < a then false else if x.f0 ≥ b then false else if lowD p x.f0 = true then false else riseD t (some x.f0) a b
theorem drise_ev (l : List PB.S45) (a b : Int) (hl : l.length ≤ 60000) : ∀ (n k : Nat), k + n = l.length → Ev (fun q => PB.weighlockref19_rise.l0 q l a b l (l.length : Int) (k : Int)) (riseD (l.drop k) (if k = 0 then none else some (PB.rd_T45 l ((k - 1 : Nat) : Int)).f0) a b) := by
  intro n
  induction n with
  | zero =>
    intro k h
    rw [List.drop_of_length_le (by omega)]
    exact Ev.step (fun q => PB.weighlockref19_rise.l0.eq_2 ..) (Ev.neg (by omega) (Ev.cst rfl))
  | succ n ih =>
    intro k h
    have hk : k < l.length := by omega
    refine Ev.step (fun q => PB.weighlockref19_rise.l0.eq_2 ..) (Ev.pos (by omega) (Ev.pos (by omega) (Ev.pos (by omega) ?_)))
    have hw : wrap64 ((k : Int) + 1) = ((k + 1 : Nat) : Int) := by unfold wrap64; omega
    have hi := ih (k + 1) (by omega)
    rw [if_neg (Nat.succ_ne_zero k), Nat.add_sub_cancel] at hi
    rw [List.drop_eq_getElem_cons hk, riseD, hw]
    rw [rd_get l k hk] at hi ⊢
    by_cases h1 : l[k].f0 < a
    · rw [if_pos h1]; exact Ev.pos h1 (Ev.cst rfl)
    rw [if_neg h1]
    refine Ev.neg h1 ?_
    by_cases h2 : l[k].f0 ≥ b
    · rw [if_pos h2]; exact Ev.pos h2 (Ev.cst rfl)
    rw [if_neg h2]
    refine Ev.neg h2 ?_
    by_cases h0 : k = 0
    · subst h0
      rw [if_pos rfl, if_neg (by simp [lowD])]
      refine Ev.neg (by omega) ?_
      exact hi
    · rw [if_neg h0]
      have hm : wrap64 ((k : Int) - 1) = ((k - 1 : Nat) : Int) := by unfold wrap64; omega
      refine Ev.pos (by omega) ?_
      rw [hm]
      refine Ev.pos (by omega) (Ev.pos (by omega) ?_)
      by_cases h3 : l[k].f0 ≤ (PB.rd_T45 l ((k - 1 : Nat) : Int)).f0
      · rw [if_pos (by simpa [lowD] using h3)]; exact Ev.pos h3 (Ev.cst rfl)
      · rw [if_neg (by simpa [lowD] using h3)]; exact Ev.neg h3 hi
theorem drise_any (A : Option Addr) (c : Nat) (l : List PB.S45) (a b : Int) (w : World) (hr : Kd.C PB.k45 w A l.length l) (hc : l.length ≤ c) (hl : l.length ≤ 60000) :
    Calls Try.prog 41 #[.slice A l.length c, .int .i64 a, .int .i64 b] w fun e w' => e = .returned (.bool (riseD l none a b)) ∧ Below w.heap.size w w' := by
  obtain ⟨k, hk⟩ := Ev.rounds (drise_ev l a b hl l.length 0 (by omega))
  exact PB.weighlockref19_rise.calls k A c l a b _ w hr hc (by unfold PB.weighlockref19_rise.f; exact hk)
theorem drep_bad (A : Option Addr) (ln c : Nat) (st nx mk : Int) (A2 : Option Addr) (c2 : Nat) (xs : List PB.S45) (w : World) (hr : Kd.C PB.k45 w A2 xs.length xs) (hc : xs.length ≤ c2) (hl : xs.length ≤ 60000) (hb : (xs.all fun x => PuB.mayB x) = false) :
    Calls Try.prog 33 #[.agg #[.slice A ln c, .int .i64 st, .int .i64 nx, .int .i64 mk], .slice A2 xs.length c2] w fun e w' => e = .returned (dv A ln c st nx mk 1) ∧ Below w.heap.size w w' := by
  have b1 : Below w.heap.size w ((w.alloc (.cells #[.slice A ln c, .int .i64 st, .int .i64 nx, .int .i64 mk] 35)).alloc (.cells #[.slice none 0 0, .int .i64 0, .int .i64 0, .int .i64 0, .int .i64 0] 41)) := ((Below.refl _ _).alloc (Nat.le_refl _) _).alloc (by simp) _
  have hb0 : ((w.alloc (.cells #[.slice A ln c, .int .i64 st, .int .i64 nx, .int .i64 mk] 35)).alloc (.cells #[.slice none 0 0, .int .i64 0, .int .i64 0, .int .i64 0, .int .i64 0] 41)).heap[w.heap.size]? = some (.cells #[.slice A ln c, .int .i64 st, .int .i64 nx, .int .i64 mk] 35 (0, 0)) := by rw [heap_old _ _ (by simp), heap_new]
  have hb1 : ((w.alloc (.cells #[.slice A ln c, .int .i64 st, .int .i64 nx, .int .i64 mk] 35)).alloc (.cells #[.slice none 0 0, .int .i64 0, .int .i64 0, .int .i64 0, .int .i64 0] 41)).heap[w.heap.size + 1]? = some (.cells #[.slice none 0 0, .int .i64 0, .int .i64 0, .int .i64 0, .int .i64 0] 41 (0, 0)) := by simpa using heap_new (w.alloc (.cells #[.slice A ln c, .int .i64 st, .int .i64 nx, .int .i64 mk] 35)) (.cells #[.slice none 0 0, .int .i64 0, .int .i64 0, .int .i64 0, .int .i64 0] 41)
  have B1 := Lib.hid b1; clear b1
  have HB0 := Lib.hid hb0; clear hb0
  have HB1 := Lib.hid hb1; clear hb1
  go_enter Try.func33, Try.ntmps33
  go_wp2_with fail
  refine (dmay_any A2 c2 xs _ (Kd.C_below hr B1.out) hc hl).mono ?_
  rintro e w2 ⟨rfl, b2⟩
  rw [hb]
  have HQ := Lib.hid (blk_below HB0.out b2)
  have HS := Lib.hid (blk_below HB1.out b2)
  have B2 := Lib.hid (below_two B1.out b2); clear b2
  have q0 := blk_cell HQ.out 0
  have q1 := blk_cell HQ.out 1
  have q2 := blk_cell HQ.out 2
  have q3 := blk_cell HQ.out 3
  have r0 := blk_cell HS.out 0
  have f0 := blk_free HS.out 0
  have r1 := blk_cell HS.out 1
  have f1 := blk_free HS.out 1
  have r2 := blk_cell HS.out 2
  have f2 := blk_free HS.out 2
  have r3 := blk_cell HS.out 3
  have f3 := blk_free HS.out 3
  have r4 := blk_cell HS.out 4
  have f4 := blk_free HS.out 4
  simp at q0 q1 q2 q3 r0 r1 r2 r3 r4
  go_wp2
  refine bodyPost_ret (v := dv A ln c st nx mk 1) (by simp [results, Try.results33, go_sem, dv, *]) rfl ?_
  exact ⟨rfl, below_set (below_set (below_set (below_set (below_set B2.out (by omega)) (by omega)) (by omega)) (by omega)) (by omega)⟩
theorem drep_low (A : Option Addr) (ln c : Nat) (st nx mk : Int) (A2 : Option Addr) (c2 : Nat) (xs : List PB.S45) (w : World) (hr : Kd.C PB.k45 w A2 xs.length xs) (hc : xs.length ≤ c2) (hl : xs.length ≤ 60000) (hb : (xs.all fun x => PuB.mayB x) = true) (hi : riseD xs none st nx = false) :
    Calls Try.prog 33 #[.agg #[.slice A ln c, .int .i64 st, .int .i64 nx, .int .i64 mk], .slice A2 xs.length c2] w fun e w' => e = .returned (dv A ln c st nx mk 34) ∧ Below w.heap.size w w' := by
  have b1 : Below w.heap.size w ((w.alloc (.cells #[.slice A ln c, .int .i64 st, .int .i64 nx, .int .i64 mk] 35)).alloc (.cells #[.slice none 0 0, .int .i64 0, .int .i64 0, .int .i64 0, .int .i64 0] 41)) := ((Below.refl _ _).alloc (Nat.le_refl _) _).alloc (by simp) _
  have hb0 : ((w.alloc (.cells #[.slice A ln c, .int .i64 st, .int .i64 nx, .int .i64 mk] 35)).alloc (.cells #[.slice none 0 0, .int .i64 0, .int .i64 0, .int .i64 0, .int .i64 0] 41)).heap[w.heap.size]? = some (.cells #[.slice A ln c, .int .i64 st, .int .i64 nx, .int .i64 mk] 35 (0, 0)) := by rw [heap_old _ _ (by simp), heap_new]
  have hb1 : ((w.alloc (.cells #[.slice A ln c, .int .i64 st, .int .i64 nx, .int .i64 mk] 35)).alloc (.cells #[.slice none 0 0, .int .i64 0, .int .i64 0, .int .i64 0, .int .i64 0] 41)).heap[w.heap.size + 1]? = some (.cells #[.slice none 0 0, .int .i64 0, .int .i64 0, .int .i64 0, .int .i64 0] 41 (0, 0)) := by simpa using heap_new (w.alloc (.cells #[.slice A ln c, .int .i64 st, .int .i64 nx, .int .i64 mk] 35)) (.cells #[.slice none 0 0, .int .i64 0, .int .i64 0, .int .i64 0, .int .i64 0] 41)
  have B1 := Lib.hid b1; clear b1
  have HB0 := Lib.hid hb0; clear hb0
  have HB1 := Lib.hid hb1; clear hb1
  go_enter Try.func33, Try.ntmps33
  go_wp2_with fail
  refine (dmay_any A2 c2 xs _ (Kd.C_below hr B1.out) hc hl).mono ?_
  rintro e w2 ⟨rfl, b2⟩
  rw [hb]
  have HQ := Lib.hid (blk_below HB0.out b2)
  have HS := Lib.hid (blk_below HB1.out b2)
  have B2 := Lib.hid (below_two B1.out b2); clear b2
  have HR2 := Lib.hid (Kd.C_below hr B2.out)
  have q1 := blk_cell HQ.out 1
  have q2 := blk_cell HQ.out 2
  simp at q1 q2
  go_wp2_with fail
  refine (drise_any A2 c2 xs st nx _ HR2.out hc hl).mono ?_
  rintro e w3 ⟨rfl, b3⟩
  rw [hi]
  have HQ3 := Lib.hid (blk_below HQ.out b3)
  have HS3 := Lib.hid (blk_below HS.out b3)
  have B3 := Lib.hid (below_two B2.out b3); clear b3 q1 q2
  have q0 := blk_cell HQ3.out 0
  have q1 := blk_cell HQ3.out 1
  have q2 := blk_cell HQ3.out 2
  have q3 := blk_cell HQ3.out 3
  have r0 := blk_cell HS3.out 0
  have f0 := blk_free HS3.out 0
  have r1 := blk_cell HS3.out 1
  have f1 := blk_free HS3.out 1
  have r2 := blk_cell HS3.out 2
  have f2 := blk_free HS3.out 2
  have r3 := blk_cell HS3.out 3
  have f3 := blk_free HS3.out 3
  have r4 := blk_cell HS3.out 4
  have f4 := blk_free HS3.out 4
  simp at q0 q1 q2 q3 r0 r1 r2 r3 r4
  go_wp2
  refine bodyPost_ret (v := dv A ln c st nx mk 34) (by simp [results, Try.results33, go_sem, dv, *]) rfl ?_
  exact ⟨rfl, below_set (below_set (below_set (below_set (below_set B3.out (by omega)) (by omega)) (by omega)) (by omega)) (by omega)⟩
theorem drep_ok (A : Option Addr) (ln c : Nat) (st nx mk : Int) (A2 : Option Addr) (c2 : Nat) (xs : List PB.S45) (w : World) (hr : Kd.C PB.k45 w A2 xs.length xs) (hc : xs.length ≤ c2) (hl : xs.length ≤ 60000) (hb : (xs.all fun x => PuB.mayB x) = true) (hi : riseD xs none st nx = true) :
    Calls Try.prog 33 #[.agg #[.slice A ln c, .int .i64 st, .int .i64 nx, .int .i64 mk], .slice A2 xs.length c2] w fun e w' => e = .returned (dv A2 xs.length c2 st nx mk 0) ∧ Below w.heap.size w w' := by
  have b1 : Below w.heap.size w ((w.alloc (.cells #[.slice A ln c, .int .i64 st, .int .i64 nx, .int .i64 mk] 35)).alloc (.cells #[.slice none 0 0, .int .i64 0, .int .i64 0, .int .i64 0, .int .i64 0] 41)) := ((Below.refl _ _).alloc (Nat.le_refl _) _).alloc (by simp) _
  have hb0 : ((w.alloc (.cells #[.slice A ln c, .int .i64 st, .int .i64 nx, .int .i64 mk] 35)).alloc (.cells #[.slice none 0 0, .int .i64 0, .int .i64 0, .int .i64 0, .int .i64 0] 41)).heap[w.heap.size]? = some (.cells #[.slice A ln c, .int .i64 st, .int .i64 nx, .int .i64 mk] 35 (0, 0)) := by rw [heap_old _ _ (by simp), heap_new]
  have hb1 : ((w.alloc (.cells #[.slice A ln c, .int .i64 st, .int .i64 nx, .int .i64 mk] 35)).alloc (.cells #[.slice none 0 0, .int .i64 0, .int .i64 0, .int .i64 0, .int .i64 0] 41)).heap[w.heap.size + 1]? = some (.cells #[.slice none 0 0, .int .i64 0, .int .i64 0, .int .i64 0, .int .i64 0] 41 (0, 0)) := by simpa using heap_new (w.alloc (.cells #[.slice A ln c, .int .i64 st, .int .i64 nx, .int .i64 mk] 35)) (.cells #[.slice none 0 0, .int .i64 0, .int .i64 0, .int .i64 0, .int .i64 0] 41)
  have B1 := Lib.hid b1; clear b1
  have HB0 := Lib.hid hb0; clear hb0
  have HB1 := Lib.hid hb1; clear hb1
  go_enter Try.func33, Try.ntmps33
  go_wp2_with fail
  refine (dmay_any A2 c2 xs _ (Kd.C_below hr B1.out) hc hl).mono ?_
  rintro e w2 ⟨rfl, b2⟩
  rw [hb]
  have HQ := Lib.hid (blk_below HB0.out b2)
  have HS := Lib.hid (blk_below HB1.out b2)
  have B2 := Lib.hid (below_two B1.out b2); clear b2
  have HR2 := Lib.hid (Kd.C_below hr B2.out)
  have q1 := blk_cell HQ.out 1
  have q2 := blk_cell HQ.out 2
  simp at q1 q2
  go_wp2_with fail
  refine (drise_any A2 c2 xs st nx _ HR2.out hc hl).mono ?_
  rintro e w3 ⟨rfl, b3⟩
  rw [hi]
  have HQ3 := Lib.hid (blk_below HQ.out b3)
  have HS3 := Lib.hid (blk_below HS.out b3)
  have B3 := Lib.hid (below_two B2.out b3); clear b3 q1 q2
  have q0 := blk_cell HQ3.out 0
  have q1 := blk_cell HQ3.out 1
  have q2 := blk_cell HQ3.out 2
  have q3 := blk_cell HQ3.out 3
  have r0 := blk_cell HS3.out 0
  have f0 := blk_free HS3.out 0
  have r1 := blk_cell HS3.out 1
  have f1 := blk_free HS3.out 1
  have r2 := blk_cell HS3.out 2
  have f2 := blk_free HS3.out 2
  have r3 := blk_cell HS3.out 3
  have f3 := blk_free HS3.out 3
  have r4 := blk_cell HS3.out 4
  have f4 := blk_free HS3.out 4
  simp at q0 q1 q2 q3 r0 r1 r2 r3 r4
  go_wp2
  refine bodyPost_ret (v := dv A2 xs.length c2 st nx mk 0) (by simp [results, Try.results33, go_sem, dv, *]) rfl ?_
  exact ⟨rfl, below_set (below_set (below_set (below_set (below_set B3.out (by omega)) (by omega)) (by omega)) (by omega)) (by omega)⟩
theorem dtrim_off (A : Option Addr) (ln c : Nat) (st nx mk : Int) (a : Int) (w : World) (hb : a < st ∨ nx < a) :
    Calls Try.prog 32 #[.agg #[.slice A ln c, .int .i64 st, .int .i64 nx, .int .i64 mk], .int .i64 a] w fun e w' => e = .returned (dv A ln c st nx mk 34) ∧ Below w.heap.size w w' := by
  by_cases h1 : a < st
  · have e1 : decide (a < st) = true := decide_eq_true h1
    clear hb
    go_enter Try.func32, Try.ntmps32
    go_wp2
    all_goals
      refine bodyPost_ret (v := dv A ln c st nx mk 34) (by simp [results, Try.results32, go_sem, dv, *]) rfl ?_
      exact ⟨rfl, ((Below.refl _ _).alloc (Nat.le_refl _) _).alloc (by simp) _⟩
  · have e1 : decide (a < st) = false := decide_eq_false h1
    have h2 : nx < a := by omega
    have e2 : decide (a > nx) = true := decide_eq_true h2
    clear hb
    go_enter Try.func32, Try.ntmps32
    go_wp2
    all_goals
      refine bodyPost_ret (v := dv A ln c st nx mk 34) (by simp [results, Try.results32, go_sem, dv, *]) rfl ?_
      exact ⟨rfl, ((Below.refl _ _).alloc (Nat.le_refl _) _).alloc (by simp) _⟩
theorem farRow {w : World} {n g : Nat} {v : Value} {l : List PB.S45} (h : Kd.R PB.k45 45 w n (fun _ => True) v l) (hg : g < n) (i : Nat) (u : Value) : Kd.R PB.k45 45 (w.setCell ⟨g, i, none⟩ u) n (fun _ => True) v l :=
  Kd.R_mono (Kd.R_far (newRow h (Nat.le_refl _) hg) (fun k hk => hk) u) (fun _ _ => trivial)
/-- The records from an offset on. -/
def fromD (l : List PB.S45) (a : Int) : List PB.S45 := l.filter fun x => decide (x.f0 ≥ a)
theorem fromD_take (l : List PB.S45) (a : Int) (k : Nat) (hk : k < l.length) : fromD (l.take (k + 1)) a = if (PB.rd_T45 l (k : Int)).f0 ≥ a then fromD (l.take k) a ++ [PB.rd_T45 l (k : Int)] else fromD (l.take k) a := by
  unfold fromD
  rw [List.take_succ_eq_append_getElem hk, List.filter_append, rd_get l k hk]
  by_cases h : l[k].f0 ≥ a
  · rw [if_pos h]; simp [h]
  · rw [if_neg h]; simp [h]
theorem fromD_len (l : List PB.S45) (a : Int) (k : Nat) : (fromD (l.take k) a).length ≤ l.length := by
  unfold fromD
  exact Nat.le_trans (List.length_filter_le _ _) (by rw [List.length_take]; omega)
set_option maxHeartbeats 2000000 in
theorem dtrim_ok (A : Option Addr) (c : Nat) (l : List PB.S45) (st nx mk : Int) (a : Int) (w : World) (hr : Kd.C PB.k45 w A l.length l) (hc : l.length ≤ c) (hl : l.length ≤ 60000) (h1 : ¬ a < st) (h2 : ¬ nx < a) :
    Calls Try.prog 32 #[.agg #[.slice A l.length c, .int .i64 st, .int .i64 nx, .int .i64 mk], .int .i64 a] w fun e w' => ∃ A' c', e = .returned (dv A' (fromD l a).length c' a nx (max mk a) 0) ∧ (fromD l a).length ≤ c' ∧ Kd.R PB.k45 45 w' w.heap.size (fun _ => True) (.slice A' (fromD l a).length c') (fromD l a) ∧ Below w.heap.size w w' := by
  have b1 : Below w.heap.size w ((w.alloc (.cells #[.slice A l.length c, .int .i64 st, .int .i64 nx, .int .i64 mk] 35)).alloc (.cells #[.slice none 0 0, .int .i64 0, .int .i64 0, .int .i64 0, .int .i64 0] 41)) := ((Below.refl _ _).alloc (Nat.le_refl _) _).alloc (by simp) _
  have hb0 : ((w.alloc (.cells #[.slice A l.length c, .int .i64 st, .int .i64 nx, .int .i64 mk] 35)).alloc (.cells #[.slice none 0 0, .int .i64 0, .int .i64 0, .int .i64 0, .int .i64 0] 41)).heap[w.heap.size]? = some (.cells #[.slice A l.length c, .int .i64 st, .int .i64 nx, .int .i64 mk] 35 (0, 0)) := by rw [heap_old _ _ (by simp), heap_new]
  have hb1 : ((w.alloc (.cells #[.slice A l.length c, .int .i64 st, .int .i64 nx, .int .i64 mk] 35)).alloc (.cells #[.slice none 0 0, .int .i64 0, .int .i64 0, .int .i64 0, .int .i64 0] 41)).heap[w.heap.size + 1]? = some (.cells #[.slice none 0 0, .int .i64 0, .int .i64 0, .int .i64 0, .int .i64 0] 41 (0, 0)) := by simpa using heap_new (w.alloc (.cells #[.slice A l.length c, .int .i64 st, .int .i64 nx, .int .i64 mk] 35)) (.cells #[.slice none 0 0, .int .i64 0, .int .i64 0, .int .i64 0, .int .i64 0] 41)
  have B1 := Lib.hid b1; clear b1
  have HB0 := Lib.hid hb0; clear hb0
  have HB1 := Lib.hid hb1; clear hb1
  have e1 : decide (a < st) = false := decide_eq_false h1
  have e2 : decide (a > nx) = false := decide_eq_false h2
  have HR := Lib.hid (Kd.C_below hr B1.out); clear hr
  go_enter Try.func32, Try.ntmps32
  go_wp2_with fail
  have HLT := Lib.hid (show w.heap.size + 1 < ((w.alloc (.cells #[.slice A l.length c, .int .i64 st, .int .i64 nx, .int .i64 mk] 35)).alloc (.cells #[.slice none 0 0, .int .i64 0, .int .i64 0, .int .i64 0, .int .i64 0] 41)).heap.size by simp)
  generalize hW : (w.alloc (.cells #[.slice A l.length c, .int .i64 st, .int .i64 nx, .int .i64 mk] 35)).alloc (.cells #[.slice none 0 0, .int .i64 0, .int .i64 0, .int .i64 0, .int .i64 0] 41) = W1 at *
  clear hW
  go_loopw [23, 5] (fun i o wr => ∃ k : Nat, k ≤ l.length ∧ i = .int .i64 (k : Int) ∧ Kd.R PB.k45 45 wr W1.heap.size (fun _ => True) o (fromD (l.take k) a) ∧ Below W1.heap.size W1 wr) (fun i _ _ => l.length - (intOf i).toNat)
  case atStart => exact ⟨0, Nat.zero_le _, rfl, by rw [List.take_zero]; exact Kd.R_nil _ _ _ _ _, Below.refl _ _⟩
  case round =>
    obtain ⟨k, hk, rfl, hR, bel⟩ := hrel
    have Bel := Lib.hid bel; clear bel
    have HRk := Lib.hid hR
    obtain ⟨Ao, co, rfl⟩ := Kd.R_slice hR
    have hRc := (Kd.R_reads' hR).2.1
    clear hR
    by_cases hlt : k < l.length
    · have p1 : (0 : Int) ≤ (k : Int) := Int.natCast_nonneg _
      have p2 : (k : Int) < (l.length : Int) := by omega
      have hw : wrap64 ((k : Int) + 1) = ((k + 1 : Nat) : Int) := by unfold wrap64; omega
      obtain ⟨ad, ea, x0, x1, x2, x3, x4, x5, x6, x7⟩ := PB.at_T45 (Kd.C_below HR.out Bel.out) (k : Int) p1 p2
      cases ea
      rw [Int.toNat_natCast] at x0 x1 x2 x3 x4 x5 x6 x7
      have ht := fromD_take l a k hlt
      have hfl := fromD_len l a k
      generalize PB.rd_T45 l (k : Int) = x at *
      generalize hF : fromD (l.take k) a = F at *
      clear hF
      have HW := Lib.hid hw; clear hw
      by_cases hx : x.f0 ≥ a
      · have hx1 : decide (x.f0 ≥ a) = true := decide_eq_true hx
        rw [if_pos hx] at ht
        have HT := Lib.hid ht; clear ht
        have BE := Lib.hid (below_two Bel.out ((Below.refl _ wr).alloc (Nat.le_refl _) (.cells #[.int .i64 x.f0, .int .i64 x.f1, .string x.f2, .string x.f3, .bool x.f4, .int .i64 x.f5, .int .i64 x.f6, .int .i64 x.f7] 45)))
        have RE := Lib.hid (Kd.R_below HRk.out ((Below.refl _ wr).alloc (Nat.le_refl _) (.cells #[.int .i64 x.f0, .int .i64 x.f1, .string x.f2, .string x.f3, .bool x.f4, .int .i64 x.f5, .int .i64 x.f6, .int .i64 x.f7] 45)))
        go_upto_region 8 with (fail)
        have hbx := heap_new wr (.cells #[.int .i64 x.f0, .int .i64 x.f1, .string x.f2, .string x.f3, .bool x.f4, .int .i64 x.f5, .int .i64 x.f6, .int .i64 x.f7] 45)
        clear x0 x1 x2 x3 x4 x5 x6 x7
        generalize hW0 : (wr.alloc (.cells #[.int .i64 x.f0, .int .i64 x.f1, .string x.f2, .string x.f3, .bool x.f4, .int .i64 x.f5, .int .i64 x.f6, .int .i64 x.f7] 45)) = W0 at *
        clear hW0
        generalize wr.heap.size = bx at *
        have HBX := Lib.hid hbx; clear hbx
        have y0 := blk_cell HBX.out 0
        have y1 := blk_cell HBX.out 1
        have y2 := blk_cell HBX.out 2
        have y3 := blk_cell HBX.out 3
        have y4 := blk_cell HBX.out 4
        have y5 := blk_cell HBX.out 5
        have y6 := blk_cell HBX.out 6
        have y7 := blk_cell HBX.out 7
        simp at y0 y1 y2 y3 y4 y5 y6 y7
        go_wp2_with (at_builtin; refine Kd.R_append PB.k45 (w0 := W1) W1.heap.size rfl (.tmp 31) (.tmp 33) 22 45 z0 80 rfl Try.underlying22 info45 rfl (by decide) (by omega) (.slice Ao F.length co) F x [.int .i64 x.f0, .int .i64 x.f1, .string x.f2, .string x.f3, .bool x.f4, .int .i64 x.f5, .int .i64 x.f6, .int .i64 x.f7] (fun _ => True) (fun _ => False) rfl rfl (PB.k45_mkM _ _ _ x) (fun q hq => hq.elim) (fun _ _ => trivial) RE.out BE.out BE.out.size (by omega) ?_)
        intro v1 w1 hR1 hB1 hg1 ha1
        obtain ⟨A1, c1, rfl⟩ := Kd.R_slice hR1
        have HR1 := Lib.hid hR1; clear hR1
        have HB1' := Lib.hid hB1; clear hB1
        clear hg1 ha1
        have hw := HW.out
        go_wp2
        go_roundw
        case rel => exact ⟨k + 1, by omega, by go_num, by rw [HT.out]; exact HR1.out, HB1'.out⟩
        case measure => simp [intOf]; omega
      · have hx1 : decide (x.f0 ≥ a) = false := decide_eq_false hx
        rw [if_neg hx] at ht
        have HT := Lib.hid ht; clear ht
        have BE := Lib.hid (below_two Bel.out ((Below.refl _ wr).alloc (Nat.le_refl _) (.cells #[.int .i64 x.f0, .int .i64 x.f1, .string x.f2, .string x.f3, .bool x.f4, .int .i64 x.f5, .int .i64 x.f6, .int .i64 x.f7] 45)))
        have RE := Lib.hid (Kd.R_below HRk.out ((Below.refl _ wr).alloc (Nat.le_refl _) (.cells #[.int .i64 x.f0, .int .i64 x.f1, .string x.f2, .string x.f3, .bool x.f4, .int .i64 x.f5, .int .i64 x.f6, .int .i64 x.f7] 45)))
        have hw := HW.out
        go_wp2
        go_roundw
        case rel => exact ⟨k + 1, by omega, by go_num, by rw [HT.out]; exact RE.out, BE.out⟩
        case measure => simp [intOf]; omega
    · obtain rfl : k = l.length := by omega
      have p2 : ¬ (l.length : Int) < (l.length : Int) := by omega
      have HRL := HRk.out
      rw [List.take_length] at HRL hRc
      rw [List.take_length]
      have HRK := Lib.hid HRL; clear HRL HRk
      have HQ3 := Lib.hid (blk_below HB0.out Bel.out)
      have HS3 := Lib.hid (blk_below HB1.out Bel.out)
      have B3 := Lib.hid (below_two B1.out Bel.out)
      have q0 := blk_cell HQ3.out 0
      have q1 := blk_cell HQ3.out 1
      have q2 := blk_cell HQ3.out 2
      have q3 := blk_cell HQ3.out 3
      have r0 := blk_cell HS3.out 0
      have f0 := blk_free HS3.out 0
      have r1 := blk_cell HS3.out 1
      have f1 := blk_free HS3.out 1
      have r2 := blk_cell HS3.out 2
      have f2 := blk_free HS3.out 2
      have r3 := blk_cell HS3.out 3
      have f3 := blk_free HS3.out 3
      have r4 := blk_cell HS3.out 4
      have f4 := blk_free HS3.out 4
      simp at q0 q1 q2 q3 r0 r1 r2 r3 r4
      go_wp2
      all_goals
        refine bodyPost_ret (v := dv Ao (fromD l a).length co a nx (max mk a) 0) (by (try simp [results, Try.results32, go_sem, dv, *]); (try omega)) rfl ?_
        exact ⟨Ao, co, rfl, hRc, Kd.R_lower (farRow (farRow (farRow (farRow (farRow HRK.out HLT.out _ _) HLT.out _ _) HLT.out _ _) HLT.out _ _) HLT.out _ _) B1.out.size, below_set (below_set (below_set (below_set (below_set B3.out (by omega)) (by omega)) (by omega)) (by omega)) (by omega)⟩
end Go.Proofs.Ytmkipdleggkkkaa.Own
/- The walk of the document's Append. -/
namespace Go.Proofs.Ytmkipdleggkkkaa.Own
open Go.RowKit Go.Proofs.YtmkipdleggkkkaaW.PrintWords Go.Proofs.YtmkipdleggkkkaaW.PrintLast Go.Proofs.YtmkipdleggkkkaaW.PrintMore Go.Proofs.Ytmkipdleggkkkaa.Pu
set_option maxRecDepth 100000
set_option linter.unusedSimpArgs false
set_option linter.unusedVariables false
theorem dapp_bad (A : Option Addr) (ln c : Nat) (st nx mk : Int) (A2 : Option Addr) (c2 : Nat) (xs : List PB.S45) (w : World) (hr : Kd.C PB.k45 w A2 xs.length xs) (hc : xs.length ≤ c2) (hl : xs.length ≤ 60000) (hb : (xs.all fun x => PuB.mayB x) = false) :
    Calls Try.prog 31 #[.agg #[.slice A ln c, .int .i64 st, .int .i64 nx, .int .i64 mk], .slice A2 xs.length c2] w fun e w' => e = .returned (dv A ln c st nx mk 1) ∧ Below w.heap.size w w' := by
  have b1 : Below w.heap.size w ((w.alloc (.cells #[.slice A ln c, .int .i64 st, .int .i64 nx, .int .i64 mk] 35)).alloc (.cells #[.slice none 0 0, .int .i64 0, .int .i64 0, .int .i64 0, .int .i64 0] 41)) := ((Below.refl _ _).alloc (Nat.le_refl _) _).alloc (by simp) _
  have hb0 : ((w.alloc (.cells #[.slice A ln c, .int .i64 st, .int .i64 nx, .int .i64 mk] 35)).alloc (.cells #[.slice none 0 0, .int .i64 0, .int .i64 0, .int .i64 0, .int .i64 0] 41)).heap[w.heap.size]? = some (.cells #[.slice A ln c, .int .i64 st, .int .i64 nx, .int .i64 mk] 35 (0, 0)) := by rw [heap_old _ _ (by simp), heap_new]
  have hb1 : ((w.alloc (.cells #[.slice A ln c, .int .i64 st, .int .i64 nx, .int .i64 mk] 35)).alloc (.cells #[.slice none 0 0, .int .i64 0, .int .i64 0, .int .i64 0, .int .i64 0] 41)).heap[w.heap.size + 1]? = some (.cells #[.slice none 0 0, .int .i64 0, .int .i64 0, .int .i64 0, .int .i64 0] 41 (0, 0)) := by simpa using heap_new (w.alloc (.cells #[.slice A ln c, .int .i64 st, .int .i64 nx, .int .i64 mk] 35)) (.cells #[.slice none 0 0, .int .i64 0, .int .i64 0, .int .i64 0, .int .i64 0] 41)
  have B1 := Lib.hid b1; clear b1
  have HB0 := Lib.hid hb0; clear hb0
  have HB1 := Lib.hid hb1; clear hb1
  go_enter Try.func31, Try.ntmps31
  go_wp2_with fail
  refine (dmay_any A2 c2 xs _ (Kd.C_below hr B1.out) hc hl).mono ?_
  rintro e w2 ⟨rfl, b2⟩
  rw [hb]
  have HQ := Lib.hid (blk_below HB0.out b2)
  have HS := Lib.hid (blk_below HB1.out b2)
  have B2 := Lib.hid (below_two B1.out b2); clear b2
  have q0 := blk_cell HQ.out 0
  have q1 := blk_cell HQ.out 1
  have q2 := blk_cell HQ.out 2
  have q3 := blk_cell HQ.out 3
  have r0 := blk_cell HS.out 0
  have f0 := blk_free HS.out 0
  have r1 := blk_cell HS.out 1
  have f1 := blk_free HS.out 1
  have r2 := blk_cell HS.out 2
  have f2 := blk_free HS.out 2
  have r3 := blk_cell HS.out 3
  have f3 := blk_free HS.out 3
  have r4 := blk_cell HS.out 4
  have f4 := blk_free HS.out 4
  simp at q0 q1 q2 q3 r0 r1 r2 r3 r4
  go_wp2
  refine bodyPost_ret (v := dv A ln c st nx mk 1) (by simp [results, Try.results31, go_sem, dv, *]) rfl ?_
  exact ⟨rfl, below_set (below_set (below_set (below_set (below_set B2.out (by omega)) (by omega)) (by omega)) (by omega)) (by omega)⟩
theorem dapp_low (A : Option Addr) (ln c : Nat) (st nx mk : Int) (A2 : Option Addr) (c2 : Nat) (xs : List PB.S45) (w : World) (hr : Kd.C PB.k45 w A2 xs.length xs) (hc : xs.length ≤ c2) (hl : xs.length ≤ 60000) (hb : (xs.all fun x => PuB.mayB x) = true) (hi : riseD xs none nx 1073741824 = false) :
    Calls Try.prog 31 #[.agg #[.slice A ln c, .int .i64 st, .int .i64 nx, .int .i64 mk], .slice A2 xs.length c2] w fun e w' => e = .returned (dv A ln c st nx mk 34) ∧ Below w.heap.size w w' := by
  have b1 : Below w.heap.size w ((w.alloc (.cells #[.slice A ln c, .int .i64 st, .int .i64 nx, .int .i64 mk] 35)).alloc (.cells #[.slice none 0 0, .int .i64 0, .int .i64 0, .int .i64 0, .int .i64 0] 41)) := ((Below.refl _ _).alloc (Nat.le_refl _) _).alloc (by simp) _
  have hb0 : ((w.alloc (.cells #[.slice A ln c, .int .i64 st, .int .i64 nx, .int .i64 mk] 35)).alloc (.cells #[.slice none 0 0, .int .i64 0, .int .i64 0, .int .i64 0, .int .i64 0] 41)).heap[w.heap.size]? = some (.cells #[.slice A ln c, .int .i64 st, .int .i64 nx, .int .i64 mk] 35 (0, 0)) := by rw [heap_old _ _ (by simp), heap_new]
  have hb1 : ((w.alloc (.cells #[.slice A ln c, .int .i64 st, .int .i64 nx, .int .i64 mk] 35)).alloc (.cells #[.slice none 0 0, .int .i64 0, .int .i64 0, .int .i64 0, .int .i64 0] 41)).heap[w.heap.size + 1]? = some (.cells #[.slice none 0 0, .int .i64 0, .int .i64 0, .int .i64 0, .int .i64 0] 41 (0, 0)) := by simpa using heap_new (w.alloc (.cells #[.slice A ln c, .int .i64 st, .int .i64 nx, .int .i64 mk] 35)) (.cells #[.slice none 0 0, .int .i64 0, .int .i64 0, .int .i64 0, .int .i64 0] 41)
  have B1 := Lib.hid b1; clear b1
  have HB0 := Lib.hid hb0; clear hb0
  have HB1 := Lib.hid hb1; clear hb1
  go_enter Try.func31, Try.ntmps31
  go_wp2_with fail
  refine (dmay_any A2 c2 xs _ (Kd.C_below hr B1.out) hc hl).mono ?_
  rintro e w2 ⟨rfl, b2⟩
  rw [hb]
  have HQ := Lib.hid (blk_below HB0.out b2)
  have HS := Lib.hid (blk_below HB1.out b2)
  have B2 := Lib.hid (below_two B1.out b2); clear b2
  have HR2 := Lib.hid (Kd.C_below hr B2.out)
  have q1 := blk_cell HQ.out 1
  have q2 := blk_cell HQ.out 2
  simp at q1 q2
  go_wp2_with fail
  refine (drise_any A2 c2 xs nx 1073741824 _ HR2.out hc hl).mono ?_
  rintro e w3 ⟨rfl, b3⟩
  rw [hi]
  have HQ3 := Lib.hid (blk_below HQ.out b3)
  have HS3 := Lib.hid (blk_below HS.out b3)
  have HR3 := Lib.hid (Kd.C_below HR2.out b3)
  have B3 := Lib.hid (below_two B2.out b3); clear b3 q1 q2
  have q0 := blk_cell HQ3.out 0
  have q1 := blk_cell HQ3.out 1
  have q2 := blk_cell HQ3.out 2
  have q3 := blk_cell HQ3.out 3
  have r0 := blk_cell HS3.out 0
  have f0 := blk_free HS3.out 0
  have r1 := blk_cell HS3.out 1
  have f1 := blk_free HS3.out 1
  have r2 := blk_cell HS3.out 2
  have f2 := blk_free HS3.out 2
  have r3 := blk_cell HS3.out 3
  have f3 := blk_free HS3.out 3
  have r4 := blk_cell HS3.out 4
  have f4 := blk_free HS3.out 4
  simp at q0 q1 q2 q3 r0 r1 r2 r3 r4
  go_wp2
  refine bodyPost_ret (v := dv A ln c st nx mk 34) (by simp [results, Try.results31, go_sem, dv, *]) rfl ?_
  exact ⟨rfl, below_set (below_set (below_set (below_set (below_set B3.out (by omega)) (by omega)) (by omega)) (by omega)) (by omega)⟩
theorem dapp_none (A : Option Addr) (ln c : Nat) (st nx mk : Int) (A2 : Option Addr) (c2 : Nat) (xs : List PB.S45) (w : World) (hr : Kd.C PB.k45 w A2 xs.length xs) (hc : xs.length ≤ c2) (hl : xs.length ≤ 60000) (h0 : xs.length = 0) (hb : (xs.all fun x => PuB.mayB x) = true) (hi : riseD xs none nx 1073741824 = true) :
    Calls Try.prog 31 #[.agg #[.slice A ln c, .int .i64 st, .int .i64 nx, .int .i64 mk], .slice A2 xs.length c2] w fun e w' => e = .returned (dv A ln c st nx mk 0) ∧ Below w.heap.size w w' := by
  have b1 : Below w.heap.size w ((w.alloc (.cells #[.slice A ln c, .int .i64 st, .int .i64 nx, .int .i64 mk] 35)).alloc (.cells #[.slice none 0 0, .int .i64 0, .int .i64 0, .int .i64 0, .int .i64 0] 41)) := ((Below.refl _ _).alloc (Nat.le_refl _) _).alloc (by simp) _
  have hb0 : ((w.alloc (.cells #[.slice A ln c, .int .i64 st, .int .i64 nx, .int .i64 mk] 35)).alloc (.cells #[.slice none 0 0, .int .i64 0, .int .i64 0, .int .i64 0, .int .i64 0] 41)).heap[w.heap.size]? = some (.cells #[.slice A ln c, .int .i64 st, .int .i64 nx, .int .i64 mk] 35 (0, 0)) := by rw [heap_old _ _ (by simp), heap_new]
  have hb1 : ((w.alloc (.cells #[.slice A ln c, .int .i64 st, .int .i64 nx, .int .i64 mk] 35)).alloc (.cells #[.slice none 0 0, .int .i64 0, .int .i64 0, .int .i64 0, .int .i64 0] 41)).heap[w.heap.size + 1]? = some (.cells #[.slice none 0 0, .int .i64 0, .int .i64 0, .int .i64 0, .int .i64 0] 41 (0, 0)) := by simpa using heap_new (w.alloc (.cells #[.slice A ln c, .int .i64 st, .int .i64 nx, .int .i64 mk] 35)) (.cells #[.slice none 0 0, .int .i64 0, .int .i64 0, .int .i64 0, .int .i64 0] 41)
  have B1 := Lib.hid b1; clear b1
  have HB0 := Lib.hid hb0; clear hb0
  have HB1 := Lib.hid hb1; clear hb1
  have H0 := Lib.hid h0; clear h0
  go_enter Try.func31, Try.ntmps31
  go_wp2_with fail
  refine (dmay_any A2 c2 xs _ (Kd.C_below hr B1.out) hc hl).mono ?_
  rintro e w2 ⟨rfl, b2⟩
  rw [hb]
  have HQ := Lib.hid (blk_below HB0.out b2)
  have HS := Lib.hid (blk_below HB1.out b2)
  have B2 := Lib.hid (below_two B1.out b2); clear b2
  have HR2 := Lib.hid (Kd.C_below hr B2.out)
  have q1 := blk_cell HQ.out 1
  have q2 := blk_cell HQ.out 2
  simp at q1 q2
  go_wp2_with fail
  refine (drise_any A2 c2 xs nx 1073741824 _ HR2.out hc hl).mono ?_
  rintro e w3 ⟨rfl, b3⟩
  rw [hi]
  have HQ3 := Lib.hid (blk_below HQ.out b3)
  have HS3 := Lib.hid (blk_below HS.out b3)
  have HR3 := Lib.hid (Kd.C_below HR2.out b3)
  have B3 := Lib.hid (below_two B2.out b3); clear b3 q1 q2
  have q0 := blk_cell HQ3.out 0
  have q1 := blk_cell HQ3.out 1
  have q2 := blk_cell HQ3.out 2
  have q3 := blk_cell HQ3.out 3
  have r0 := blk_cell HS3.out 0
  have f0 := blk_free HS3.out 0
  have r1 := blk_cell HS3.out 1
  have f1 := blk_free HS3.out 1
  have r2 := blk_cell HS3.out 2
  have f2 := blk_free HS3.out 2
  have r3 := blk_cell HS3.out 3
  have f3 := blk_free HS3.out 3
  have r4 := blk_cell HS3.out 4
  have f4 := blk_free HS3.out 4
  simp at q0 q1 q2 q3 r0 r1 r2 r3 r4
  have h0 := H0.out
  have z1 : ((xs.length : Int) == 0) = true := by rw [beq_iff_eq]; omega
  have z2 : (xs.length : Int) = 0 := by omega
  go_wp2
  refine bodyPost_ret (v := dv A ln c st nx mk 0) (by simp [results, Try.results31, go_sem, dv, *]) rfl ?_
  exact ⟨rfl, below_set (below_set (below_set (below_set (below_set B3.out (by omega)) (by omega)) (by omega)) (by omega)) (by omega)⟩
set_option maxHeartbeats 2000000 in
theorem dapp_ok (A : Option Addr) (c : Nat) (l : List PB.S45) (st nx mk : Int) (A2 : Option Addr) (c2 : Nat) (xs : List PB.S45) (w : World) (hrl : Kd.C PB.k45 w A l.length l) (hcl : l.length ≤ c) (hll : l.length ≤ 60000) (hr : Kd.C PB.k45 w A2 xs.length xs) (hc : xs.length ≤ c2) (hl : xs.length ≤ 60000) (h0 : 0 < xs.length) (hb : (xs.all fun x => PuB.mayB x) = true) (hi : riseD xs none nx 1073741824 = true) :
    Calls Try.prog 31 #[.agg #[.slice A l.length c, .int .i64 st, .int .i64 nx, .int .i64 mk], .slice A2 xs.length c2] w fun e w' => ∃ A' c', e = .returned (dv A' (l ++ xs).length c' st (wrap64 ((PB.rd_T45 xs ((xs.length - 1 : Nat) : Int)).f0 + 1)) mk 0) ∧ (l ++ xs).length ≤ c' ∧ Kd.R PB.k45 45 w' w.heap.size (fun _ => True) (.slice A' (l ++ xs).length c') (l ++ xs) ∧ Below w.heap.size w w' := by
  have b1 : Below w.heap.size w ((w.alloc (.cells #[.slice A l.length c, .int .i64 st, .int .i64 nx, .int .i64 mk] 35)).alloc (.cells #[.slice none 0 0, .int .i64 0, .int .i64 0, .int .i64 0, .int .i64 0] 41)) := ((Below.refl _ _).alloc (Nat.le_refl _) _).alloc (by simp) _
  have hb0 : ((w.alloc (.cells #[.slice A l.length c, .int .i64 st, .int .i64 nx, .int .i64 mk] 35)).alloc (.cells #[.slice none 0 0, .int .i64 0, .int .i64 0, .int .i64 0, .int .i64 0] 41)).heap[w.heap.size]? = some (.cells #[.slice A l.length c, .int .i64 st, .int .i64 nx, .int .i64 mk] 35 (0, 0)) := by rw [heap_old _ _ (by simp), heap_new]
  have hb1 : ((w.alloc (.cells #[.slice A l.length c, .int .i64 st, .int .i64 nx, .int .i64 mk] 35)).alloc (.cells #[.slice none 0 0, .int .i64 0, .int .i64 0, .int .i64 0, .int .i64 0] 41)).heap[w.heap.size + 1]? = some (.cells #[.slice none 0 0, .int .i64 0, .int .i64 0, .int .i64 0, .int .i64 0] 41 (0, 0)) := by simpa using heap_new (w.alloc (.cells #[.slice A l.length c, .int .i64 st, .int .i64 nx, .int .i64 mk] 35)) (.cells #[.slice none 0 0, .int .i64 0, .int .i64 0, .int .i64 0, .int .i64 0] 41)
  have B1 := Lib.hid b1; clear b1
  have HB0 := Lib.hid hb0; clear hb0
  have HB1 := Lib.hid hb1; clear hb1
  have HRL := Lib.hid (Kd.C_below hrl B1.out); clear hrl
  have HLT := Lib.hid (show w.heap.size + 1 < ((w.alloc (.cells #[.slice A l.length c, .int .i64 st, .int .i64 nx, .int .i64 mk] 35)).alloc (.cells #[.slice none 0 0, .int .i64 0, .int .i64 0, .int .i64 0, .int .i64 0] 41)).heap.size by simp)
  go_enter Try.func31, Try.ntmps31
  go_wp2_with fail
  refine (dmay_any A2 c2 xs _ (Kd.C_below hr B1.out) hc hl).mono ?_
  rintro e w2 ⟨rfl, b2⟩
  rw [hb]
  have HRL2 := Lib.hid (Kd.C_below HRL.out b2)
  have HLT2 := Lib.hid (Nat.lt_of_lt_of_le HLT.out b2.size)
  have HQ := Lib.hid (blk_below HB0.out b2)
  have HS := Lib.hid (blk_below HB1.out b2)
  have B2 := Lib.hid (below_two B1.out b2); clear b2
  have HR2 := Lib.hid (Kd.C_below hr B2.out)
  have q1 := blk_cell HQ.out 1
  have q2 := blk_cell HQ.out 2
  simp at q1 q2
  go_wp2_with fail
  refine (drise_any A2 c2 xs nx 1073741824 _ HR2.out hc hl).mono ?_
  rintro e w3 ⟨rfl, b3⟩
  rw [hi]
  have HQ3 := Lib.hid (blk_below HQ.out b3)
  have HS3 := Lib.hid (blk_below HS.out b3)
  have HR3 := Lib.hid (Kd.C_below HR2.out b3)
  have HRL3 := Lib.hid (Kd.C_below HRL2.out b3)
  have HLT3 := Lib.hid (Nat.lt_of_lt_of_le HLT2.out b3.size)
  have B3 := Lib.hid (below_two B2.out b3); clear b3 q1 q2
  have z1 : ((xs.length : Int) == 0) = false := by rw [beq_eq_false_iff_ne]; omega
  have z2 : ¬ (xs.length : Int) = 0 := by omega
  have z3 : ¬ xs.length = 0 := by omega
  have q0 := blk_cell HQ3.out 0
  simp at q0
  clear HRL HRL2 HR2 HQ HS HLT HLT2 hr HB0 HB1 hi hb
  go_wp2_with (at_builtin; refine Kd.R_append_rows PB.k45 (w0 := w3) w3.heap.size rfl (.tmp 23) (.tmp 25) 22 45 z0 80 rfl Try.underlying22 info45 rfl (by decide) (by omega) (.slice none 0 0) [] l A l.length c (fun _ => True) (fun _ => False) rfl rfl (Kd.R_nil _ _ _ _ _) HRL3.out (fun x cs h => KM45 h) (fun k hk => hk.elim) (fun _ _ => trivial) (Below.refl _ _) (Nat.le_refl _) (by simp; omega) ?_)
  intro v4 w4 hR4 hB4 hg4 ha4
  have HR4 := Lib.hid hR4
  obtain ⟨A4, c4, rfl⟩ := Kd.R_slice hR4
  have C4 := Lib.hid (Kd.C_below HR3.out hB4)
  have B4 := Lib.hid hB4
  clear hR4 hB4 hg4 ha4 q0
  go_wp2_with (at_builtin; refine Kd.R_append_rows PB.k45 (w0 := w3) w3.heap.size rfl (.tmp 27) (.tmp 28) 22 45 z0 80 rfl Try.underlying22 info45 rfl (by decide) (by omega) (.slice A4 l.length c4) l xs A2 xs.length c2 (fun _ => True) (fun _ => False) rfl rfl HR4.out C4.out (fun x cs h => KM45 h) (fun k hk => hk.elim) (fun _ _ => trivial) B4.out B4.out.size (by omega) ?_)
  intro v5 w5 hR5 hB5 hg5 ha5
  have HR5 := Lib.hid hR5
  obtain ⟨A5, c5, rfl⟩ := Kd.R_slice hR5
  have hc5 := (Kd.R_reads' hR5).2.1
  have C5 := Lib.hid (Kd.C_below HR3.out hB5)
  have B5 := Lib.hid (below_two B3.out hB5)
  have HQ5 := Lib.hid (blk_below HQ3.out hB5)
  have HS5 := Lib.hid (blk_below HS3.out hB5)
  clear hR5 hB5 hg5 ha5 C4 B4 HR4 HQ3 HS3
  have z4 : wrap64 ((xs.length : Int) - 1) = ((xs.length - 1 : Nat) : Int) := by unfold wrap64; omega
  have zw : IntKind.i64.wrap ((xs.length - 1 : Nat) : Int) = ((xs.length - 1 : Nat) : Int) := by rw [i64_w]; unfold wrap64; omega
  have z5 : (xs.length : Int) - 1 = ((xs.length - 1 : Nat) : Int) := by omega
  have z6 : ((xs.length - 1 : Nat) : Int) < (xs.length : Int) := by omega
  have z7 : (0 : Int) ≤ ((xs.length - 1 : Nat) : Int) := Int.natCast_nonneg _
  obtain ⟨ad, ea, x0, _⟩ := PB.at_T45 C5.out ((xs.length - 1 : Nat) : Int) z7 z6
  cases ea
  rw [Int.toNat_natCast] at x0
  generalize hy : (PB.rd_T45 xs ((xs.length - 1 : Nat) : Int)).f0 = y at *
  have HY := Lib.hid hy; clear hy
  have q0 := blk_cell HQ5.out 0
  have q1 := blk_cell HQ5.out 1
  have q2 := blk_cell HQ5.out 2
  have q3 := blk_cell HQ5.out 3
  have r0 := blk_cell HS5.out 0
  have f0 := blk_free HS5.out 0
  have r1 := blk_cell HS5.out 1
  have f1 := blk_free HS5.out 1
  have r2 := blk_cell HS5.out 2
  have f2 := blk_free HS5.out 2
  have r3 := blk_cell HS5.out 3
  have f3 := blk_free HS5.out 3
  have r4 := blk_cell HS5.out 4
  have f4 := blk_free HS5.out 4
  simp at q0 q1 q2 q3 r0 r1 r2 r3 r4
  go_wp2_with fail
  go_still_tail 15, (by kernel_rfl)
  change wpList _ _ _ _ _ w5.drew
  go_wp2
  refine bodyPost_ret (v := dv A5 (l.length + xs.length) c5 st (wrap64 (y + 1)) mk 0) (by simp [results, Try.results31, go_sem, dv, *]) rfl ?_
  rw [List.length_append] at hc5 HR5 ⊢
  rw [HY.out]
  refine ⟨A5, c5, rfl, hc5, ?_, ?_⟩
  · refine Kd.R_lower ?_ B3.out.size
    refine Kd.R_drew ?_
    iterate 5 refine farRow ?_ HLT3.out _ _
    exact HR5.out
  · refine Below.drew ?_
    iterate 5 refine below_set (w := w) (g := w.heap.size + 1) ?_ (Nat.le_succ _)
    exact B5.out
end Go.Proofs.Ytmkipdleggkkkaa.Own
/- What a call comes to by the document: plain, and the walk of act. -/
namespace Go.Proofs.Ytmkipdleggkkkaa.Own
open Go.RowKit Go.Proofs.YtmkipdleggkkkaaW.PrintWords Go.Proofs.YtmkipdleggkkkaaW.PrintLast Go.Proofs.YtmkipdleggkkkaaW.PrintMore Go.Proofs.Ytmkipdleggkkkaa.Pu
set_option maxRecDepth 100000
set_option linter.unusedSimpArgs false
set_option linter.unusedVariables false
/-- A partition, by the document. -/
structure DSt where
  l : List PB.S45
  st : Int
  nx : Int
  mr : Int
def mayAll (xs : List PB.S45) : Bool := xs.all fun x => PuB.mayB x
def appS (s : DSt) (xs : List PB.S45) : DSt × Int :=
  if mayAll xs = false then (s, 1) else if riseD xs none s.nx 1073741824 = false then (s, 34) else if xs.length = 0 then (s, 0)
  else (⟨s.l ++ xs, s.st, wrap64 ((PB.rd_T45 xs ((xs.length - 1 : Nat) : Int)).f0 + 1), s.mr⟩, 0)
def trimS (s : DSt) (a : Int) : DSt × Int := if a < s.st ∨ s.nx < a then (s, 34) else (⟨fromD s.l a, a, s.nx, max s.mr a⟩, 0)
def repS (s : DSt) (xs : List PB.S45) : DSt × Int :=
  if mayAll xs = false then (s, 1) else if riseD xs none s.st s.nx = false then (s, 34) else (⟨xs, s.st, s.nx, s.mr⟩, 0)
def setS (s : DSt) (a b : Int) : DSt × Int :=
  if 0 < s.l.length ∨ s.nx ≠ 0 then (s, 7) else if a < 0 ∨ a > b ∨ b > 1048577 then (s, 1) else (⟨[], a, b, b⟩, 0)
def actS (s : DSt) (kd n m : Int) (xs : List PB.S45) : DSt × Int :=
  if kd = 0 then appS s xs else if kd = 1 then trimS s n else if kd = 2 then repS s xs else if kd = 3 then setS s n m else if kd = 4 then (⟨s.l, s.st, s.nx, s.nx⟩, 0) else (s, 0)
/-- A row's block, where it has places, is one of these. -/
def Src (S : Nat → Prop) (A : Option Addr) (n : Nat) : Prop := 0 < n → ∀ ad, A = some ad → S ad.block
theorem C_frame {w w1 : World} {A : Option Addr} {l : List PB.S45} (h : Kd.C PB.k45 w A l.length l) (hf : 0 < l.length → ∀ ad, A = some ad → w1.heap[ad.block]? = w.heap[ad.block]?) : Kd.C PB.k45 w1 A l.length l := by
  obtain ⟨h1, h2, h3⟩ := h
  refine ⟨h1, h2, fun hp => ?_⟩
  obtain ⟨ad, ea, hc⟩ := h3 hp
  refine ⟨ad, ea, fun j p hj => ?_⟩
  obtain ⟨cs, hl, hk, hcell⟩ := hc j p hj
  obtain rfl := PB.k45_open hk
  refine ⟨_, hl, PB.k45_mk _ p, fun i u hi => ?_⟩
  have := hcell i u hi
  have hb : (ad.add (j * PB.k45.sz + i)).block = ad.block := by unfold Addr.add; split <;> rfl
  rw [← this]
  simp only [World.cell?, hb, hf hp ad ea]
theorem C_set {w : World} {A : Option Addr} {l : List PB.S45} {g : Nat} (h : Kd.C PB.k45 w A l.length l) (hs : Src (fun b => b ≠ g) A l.length) (i : Nat) (u : Value) : Kd.C PB.k45 (w.setCell ⟨g, i, none⟩ u) A l.length l :=
  C_frame h (fun hp ad ea => heap_far _ _ _ (hs hp ad ea))
theorem C_fr {w w1 : World} {A : Option Addr} {l : List PB.S45} {g : Nat} {v : Value} (h : Kd.C PB.k45 w A l.length l) (hf : Fr g v w w1) (hs : Src (fun b => b ≠ g ∧ some b ≠ v.ownBlock) A l.length) : Kd.C PB.k45 w1 A l.length l :=
  C_frame h (fun hp ad ea => by
    subst ea
    exact hf.block _ (Kd.C_lt h hp (by decide)) (hs hp ad rfl).1 (hs hp ad rfl).2)
theorem Src.mono {S S2 : Nat → Prop} {A : Option Addr} {n : Nat} (h : Src S A n) (hs : ∀ b, S b → S2 b) : Src S2 A n := fun hp ad ea => hs _ (h hp ad ea)
theorem src_old {w : World} {A : Option Addr} {l : List PB.S45} (h : Kd.C PB.k45 w A l.length l) : Src (fun b => b < w.heap.size) A l.length := fun hp ad ea => by subst ea; exact Kd.C_lt h hp (by decide)
theorem src_new {w : World} {A : Option Addr} {n c B : Nat} {ok : Nat → Prop} {l : List PB.S45} (h : Kd.R PB.k45 45 w B ok (.slice A n c) l) : Src (fun b => B ≤ b) A n := fun hp ad ea => by
  subst ea
  exact ((Kd.R_bound h).1 ad.block (by simp [Value.ownBlock])).2.1
/-- What a call of the document's hands back. -/
def DocIs (S : Nat → Prop) (s : DSt) (er : Int) (w : World) (e : Ending) (w' : World) : Prop :=
  ∃ A c, e = .returned (dv A s.l.length c s.st s.nx s.mr er) ∧ s.l.length ≤ c ∧ Kd.C PB.k45 w' A s.l.length s.l ∧ Src S A s.l.length ∧ Below w.heap.size w w'
section
variable {S : Nat → Prop} {A : Option Addr} {c : Nat} {s : DSt} {w : World}
theorem same_doc (hC : Kd.C PB.k45 w A s.l.length s.l) (hc : s.l.length ≤ c) (hS : Src S A s.l.length) {er : Int} {e : Ending} {w' : World} (h : e = .returned (dv A s.l.length c s.st s.nx s.mr er) ∧ Below w.heap.size w w') : DocIs S s er w e w' :=
  ⟨A, c, h.1, hc, Kd.C_below hC h.2, hS, h.2⟩
theorem appC (hC : Kd.C PB.k45 w A s.l.length s.l) (hc : s.l.length ≤ c) (hl : s.l.length ≤ 60000) (hS : Src S A s.l.length) (hN : ∀ b, w.heap.size ≤ b → S b) (A2 : Option Addr) (c2 : Nat) (xs : List PB.S45) (hx : Kd.C PB.k45 w A2 xs.length xs) (hc2 : xs.length ≤ c2) (hl2 : xs.length ≤ 60000) :
    Calls Try.prog 31 #[.agg #[.slice A s.l.length c, .int .i64 s.st, .int .i64 s.nx, .int .i64 s.mr], .slice A2 xs.length c2] w fun e w' => DocIs S (appS s xs).1 (appS s xs).2 w e w' := by
  unfold appS
  cases hm : mayAll xs with
  | false => rw [if_pos rfl]; exact (dapp_bad A s.l.length c s.st s.nx s.mr A2 c2 xs w hx hc2 hl2 hm).mono (fun e w' h => same_doc hC hc hS h)
  | true =>
    rw [if_neg (by decide)]
    cases hr : riseD xs none s.nx 1073741824 with
    | false => rw [if_pos rfl]; exact (dapp_low A s.l.length c s.st s.nx s.mr A2 c2 xs w hx hc2 hl2 hm hr).mono (fun e w' h => same_doc hC hc hS h)
    | true =>
      rw [if_neg (by decide)]
      by_cases h0 : xs.length = 0
      · rw [if_pos h0]; exact (dapp_none A s.l.length c s.st s.nx s.mr A2 c2 xs w hx hc2 hl2 h0 hm hr).mono (fun e w' h => same_doc hC hc hS h)
      · rw [if_neg h0]
        refine (dapp_ok A c s.l s.st s.nx s.mr A2 c2 xs w hC hc hl hx hc2 hl2 (by omega) hm hr).mono ?_
        rintro e w' ⟨A', c', rfl, h1, h2, h3⟩
        exact ⟨A', c', rfl, h1, (Kd.R_reads' h2).2.2, (src_new h2).mono hN, h3⟩
theorem trimC (hC : Kd.C PB.k45 w A s.l.length s.l) (hc : s.l.length ≤ c) (hl : s.l.length ≤ 60000) (hS : Src S A s.l.length) (hN : ∀ b, w.heap.size ≤ b → S b) (a : Int) :
    Calls Try.prog 32 #[.agg #[.slice A s.l.length c, .int .i64 s.st, .int .i64 s.nx, .int .i64 s.mr], .int .i64 a] w fun e w' => DocIs S (trimS s a).1 (trimS s a).2 w e w' := by
  unfold trimS
  by_cases h : a < s.st ∨ s.nx < a
  · rw [if_pos h]; exact (dtrim_off A s.l.length c s.st s.nx s.mr a w h).mono (fun e w' h => same_doc hC hc hS h)
  · rw [if_neg h]
    refine (dtrim_ok A c s.l s.st s.nx s.mr a w hC hc hl (fun h1 => h (Or.inl h1)) (fun h1 => h (Or.inr h1))).mono ?_
    rintro e w' ⟨A', c', rfl, h1, h2, h3⟩
    exact ⟨A', c', rfl, h1, (Kd.R_reads' h2).2.2, (src_new h2).mono hN, h3⟩
theorem repC (hC : Kd.C PB.k45 w A s.l.length s.l) (hc : s.l.length ≤ c) (hl : s.l.length ≤ 60000) (hS : Src S A s.l.length) (A2 : Option Addr) (c2 : Nat) (xs : List PB.S45) (hx : Kd.C PB.k45 w A2 xs.length xs) (hc2 : xs.length ≤ c2) (hl2 : xs.length ≤ 60000) (hS2 : Src S A2 xs.length) :
    Calls Try.prog 33 #[.agg #[.slice A s.l.length c, .int .i64 s.st, .int .i64 s.nx, .int .i64 s.mr], .slice A2 xs.length c2] w fun e w' => DocIs S (repS s xs).1 (repS s xs).2 w e w' := by
  unfold repS
  cases hm : mayAll xs with
  | false => rw [if_pos rfl]; exact (drep_bad A s.l.length c s.st s.nx s.mr A2 c2 xs w hx hc2 hl2 hm).mono (fun e w' h => same_doc hC hc hS h)
  | true =>
    rw [if_neg (by decide)]
    cases hr : riseD xs none s.st s.nx with
    | false => rw [if_pos rfl]; exact (drep_low A s.l.length c s.st s.nx s.mr A2 c2 xs w hx hc2 hl2 hm hr).mono (fun e w' h => same_doc hC hc hS h)
    | true =>
      rw [if_neg (by decide)]
      exact (drep_ok A s.l.length c s.st s.nx s.mr A2 c2 xs w hx hc2 hl2 hm hr).mono (fun e w' h => ⟨A2, c2, h.1, hc2, Kd.C_below hx h.2, hS2, h.2⟩)
theorem setC (hC : Kd.C PB.k45 w A s.l.length s.l) (hc : s.l.length ≤ c) (hS : Src S A s.l.length) (a b : Int) :
    Calls Try.prog 34 #[.agg #[.slice A s.l.length c, .int .i64 s.st, .int .i64 s.nx, .int .i64 s.mr], .int .i64 a, .int .i64 b] w fun e w' => DocIs S (setS s a b).1 (setS s a b).2 w e w' := by
  unfold setS
  by_cases h : 0 < s.l.length ∨ s.nx ≠ 0
  · rw [if_pos h]; exact (dset_state A s.l.length c s.st s.nx s.mr a b w h).mono (fun e w' h => same_doc hC hc hS h)
  · rw [if_neg h]
    have h0 : s.l.length = 0 := by omega
    have h1 : s.nx = 0 := by omega
    by_cases h2 : a < 0 ∨ a > b ∨ b > 1048577
    · rw [if_pos h2]
      have := dset_arg A c s.st s.mr a b w h2
      rw [← h0] at this
      have e : (Value.int .i64 0) = (.int .i64 s.nx) := by rw [h1]
      rw [h1]
      refine this.mono (fun e w' h => same_doc hC hc hS (by rw [h1]; exact h))
    · rw [if_neg h2, h0, h1]
      exact (dset_ok A c s.st s.mr a b w (by omega) (by omega) (by omega)).mono (fun e w' h => ⟨none, 0, h.1, by simp, ⟨rfl, by simp, fun hp => by simp at hp⟩, fun hp => by simp at hp, h.2⟩)
end
end Go.Proofs.Ytmkipdleggkkkaa.Own
/- The program's partition does as the document's: plain laws. -/
namespace Go.Proofs.Ytmkipdleggkkkaa.Own
open Go.RowKit Go.Proofs.YtmkipdleggkkkaaW.PrintWords Go.Proofs.YtmkipdleggkkkaaW.PrintLast Go.Proofs.YtmkipdleggkkkaaW.PrintMore Go.Proofs.Ytmkipdleggkkkaa.Pu
set_option maxRecDepth 100000
set_option linter.unusedSimpArgs false
set_option linter.unusedVariables false
theorem may_off {x : PB.S45} (h : PuB.mayB x = true) : 0 ≤ x.f0 ∧ x.f0 ≤ 1048576 := by
  rw [PuB.mayB_iff] at h
  exact h.1
theorem mayAll_iff (xs : List PB.S45) : mayAll xs = true ↔ ∀ x ∈ xs, PuB.mayB x = true := by unfold mayAll; rw [List.all_eq_true]
theorem bad_iff (xs : List PB.S45) : decide (∃ x ∈ xs, PuB.mayB x = false) = !mayAll xs := by
  cases h : mayAll xs with
  | true => exact (nobad_iff xs).2 ((mayAll_iff xs).1 h)
  | false =>
    cases hb : decide (∃ x ∈ xs, PuB.mayB x = false) with
    | true => rfl
    | false => rw [(mayAll_iff xs).2 ((nobad_iff xs).1 hb)] at h; cases h
theorem wrap_off {a : Int} (h : 0 ≤ a ∧ a ≤ 1048576) : wrap64 (a + 1) = a + 1 := by unfold wrap64; omega
theorem riseD_some (b : Int) (xs : List PB.S45) : ∀ (a y : Int), (∀ x ∈ xs, PuB.mayB x = true) → a ≤ y + 1 → riseD xs (some y) a b = (riseB xs (y + 1) && xs.all fun x => decide (x.f0 < b)) := by
  induction xs with
  | nil => intro a y _ _; rfl
  | cons x t ih =>
    intro a y hm ha
    have hx := wrap_off (may_off (hm x (List.mem_cons_self ..)))
    have ht := ih a x.f0 (fun z hz => hm z (List.mem_cons_of_mem _ hz))
    rw [riseD, riseB, List.all_cons]
    by_cases h1 : x.f0 < a
    · rw [if_pos h1, if_pos (by omega)]; rfl
    rw [if_neg h1]
    by_cases h2 : x.f0 ≥ b
    · rw [if_pos h2, show decide (x.f0 < b) = false by rw [decide_eq_false_iff_not]; omega]; simp
    rw [if_neg h2, show decide (x.f0 < b) = true by rw [decide_eq_true_iff]; omega]
    by_cases h3 : x.f0 ≤ y
    · rw [if_pos (by simpa [lowD] using h3), if_pos (by omega)]; rfl
    · rw [if_neg (by simpa [lowD] using h3), if_neg (by omega), ht (by omega), hx]; simp
theorem riseD_none (b a : Int) (xs : List PB.S45) (hm : ∀ x ∈ xs, PuB.mayB x = true) : riseD xs none a b = (riseB xs a && xs.all fun x => decide (x.f0 < b)) := by
  cases xs with
  | nil => rfl
  | cons x t =>
    have hx := wrap_off (may_off (hm x (List.mem_cons_self ..)))
    rw [riseD, riseB, List.all_cons]
    by_cases h1 : x.f0 < a
    · rw [if_pos h1, if_pos h1]; rfl
    rw [if_neg h1, if_neg h1]
    by_cases h2 : x.f0 ≥ b
    · rw [if_pos h2, show decide (x.f0 < b) = false by rw [decide_eq_false_iff_not]; omega]; simp
    rw [if_neg h2, show decide (x.f0 < b) = true by rw [decide_eq_true_iff]; omega, if_neg (by simp [lowD]), riseD_some b t a x.f0 (fun z hz => hm z (List.mem_cons_of_mem _ hz)) (by omega), hx]; simp
theorem riseB_spec (xs : List PB.S45) : ∀ a : Int, (∀ x ∈ xs, PuB.mayB x = true) → riseB xs a = true → xs.Pairwise (fun x y => x.f0 < y.f0) ∧ (∀ x ∈ xs, a ≤ x.f0 ∧ x.f0 < nxt xs a) ∧ a ≤ nxt xs a := by
  induction xs with
  | nil => intro a _ _; exact ⟨List.Pairwise.nil, ⟨(by intro x hx; cases hx), Int.le_refl _⟩⟩
  | cons x t ih =>
    intro a hm h
    have hx := wrap_off (may_off (hm x (List.mem_cons_self ..)))
    rw [riseB] at h
    by_cases h1 : x.f0 < a
    · rw [if_pos h1] at h; cases h
    rw [if_neg h1, hx] at h
    obtain ⟨p, q, r⟩ := ih (x.f0 + 1) (fun z hz => hm z (List.mem_cons_of_mem _ hz)) h
    have e : nxt (x :: t) a = nxt t (x.f0 + 1) := by show nxt t (wrap64 (x.f0 + 1)) = _; rw [hx]
    rw [e]
    refine ⟨List.Pairwise.cons (fun z hz => by have := (q z hz).1; omega) p, fun z hz => ?_, by omega⟩
    rcases List.mem_cons.1 hz with rfl | hz
    · omega
    · have := q z hz; omega
theorem risen_iff (l : List PB.S45) : risen l ↔ l.Pairwise (fun x y => x.f0 < y.f0) := by
  rw [List.pairwise_iff_getElem]
  constructor
  · intro h i j hi hj hij
    have := h i j hij hj
    rwa [rd_get l i hi, rd_get l j hj] at this
  · intro h i j hij hj
    rw [rd_get l i (by omega), rd_get l j hj]
    exact h i j (by omega) hj hij
theorem nxt_last (xs : List PB.S45) (a : Int) (h0 : 0 < xs.length) : nxt xs a = wrap64 ((PB.rd_T45 xs ((xs.length - 1 : Nat) : Int)).f0 + 1) := by
  have := nxt_take xs a (xs.length - 1) (by omega)
  rwa [show xs.length - 1 + 1 = xs.length by omega, List.take_length] at this
theorem cut_from_eq {l : List PB.S45} {a : Int} {m : Nat} (h : cutAt l a m) : l.drop m = fromD l a := by
  unfold fromD
  have e : l.filter (fun x => decide (x.f0 ≥ a)) = (l.take m).filter (fun x => decide (x.f0 ≥ a)) ++ (l.drop m).filter (fun x => decide (x.f0 ≥ a)) := by rw [← List.filter_append, List.take_append_drop]
  rw [e, List.filter_eq_nil_iff.2, List.filter_eq_self.2, List.nil_append]
  · intro x hx
    obtain ⟨i, hi, rfl⟩ := List.getElem_of_mem hx
    rw [List.length_drop] at hi
    rw [List.getElem_drop, decide_eq_true_iff]
    have := h.2.2 (m + i) (by omega) (by omega)
    rwa [rd_get l (m + i) (by omega)] at this
  · intro x hx
    obtain ⟨i, hi, rfl⟩ := List.getElem_of_mem hx
    rw [List.length_take] at hi
    rw [List.getElem_take]
    have := h.2.1 i (by omega)
    rw [rd_get l i (by omega)] at this
    simp; omega
/-- What holds of a partition at all times. -/
structure IV (s : DSt) : Prop where
  may : ∀ x ∈ s.l, PuB.mayB x = true
  ris : risen s.l
  lt : ∀ x ∈ s.l, x.f0 < s.nx
theorem IV.app {s : DSt} (h : IV s) {xs : List PB.S45} (hm : mayAll xs = true) (hr : riseB xs s.nx = true) : IV ⟨s.l ++ xs, s.st, nxt xs s.nx, s.mr⟩ := by
  have hm' := (mayAll_iff xs).1 hm
  obtain ⟨p, q, r⟩ := riseB_spec xs s.nx hm' hr
  refine ⟨fun x hx => ?_, ?_, fun x hx => ?_⟩
  · rcases List.mem_append.1 hx with hx | hx
    · exact h.may x hx
    · exact hm' x hx
  · show risen (s.l ++ xs)
    rw [risen_iff, List.pairwise_append]
    exact ⟨(risen_iff _).1 h.ris, p, fun x hx y hy => by have := h.lt x hx; have := (q y hy).1; omega⟩
  · rcases List.mem_append.1 hx with hx | hx
    · exact Int.lt_of_lt_of_le (h.lt x hx) r
    · exact (q x hx).2
theorem appS_ok {s : DSt} {xs : List PB.S45} (hm : mayAll xs = true) (hr : riseB xs s.nx = true) : appS s xs = (⟨s.l ++ xs, s.st, nxt xs s.nx, s.mr⟩, 0) := by
  have hm' := (mayAll_iff xs).1 hm
  unfold appS
  rw [if_neg (by rw [hm]; decide), riseD_none _ _ _ hm', hr, List.all_eq_true.2 (fun x hx => by have := (may_off (hm' x hx)).2; rw [decide_eq_true_iff]; omega), if_neg (by decide)]
  by_cases h0 : xs.length = 0
  · have : xs = [] := List.eq_nil_of_length_eq_zero h0
    subst this
    rw [if_pos h0, List.append_nil]
    rfl
  · rw [if_neg h0, nxt_last xs s.nx (by omega)]
theorem appS_low {s : DSt} {xs : List PB.S45} (hm : mayAll xs = true) (hr : riseB xs s.nx = false) : appS s xs = (s, 34) := by
  unfold appS
  rw [if_neg (by rw [hm]; decide), riseD_none _ _ _ ((mayAll_iff xs).1 hm), hr, if_pos (by rfl)]
theorem appS_bad {s : DSt} {xs : List PB.S45} (hm : mayAll xs = false) : appS s xs = (s, 1) := by
  unfold appS
  rw [if_pos hm]
theorem IV.trim {s : DSt} (h : IV s) (a : Int) : IV ⟨fromD s.l a, a, s.nx, max s.mr a⟩ :=
  ⟨fun x hx => h.may x (List.mem_filter.1 hx).1, (risen_iff _).2 (((risen_iff _).1 h.ris).filter _), fun x hx => h.lt x (List.mem_filter.1 hx).1⟩
theorem last_all {xs : List PB.S45} (a b : Int) (hm : ∀ x ∈ xs, PuB.mayB x = true) (hr : riseB xs a = true) (h0 : 0 < xs.length) (hx : (PB.rd_T45 xs ((xs.length - 1 : Nat) : Int)).f0 < b) : (xs.all fun x => decide (x.f0 < b)) = true := by
  rw [List.all_eq_true]
  intro x hxm
  rw [decide_eq_true_iff]
  have h1 := ((riseB_spec xs a hm hr).2.1 x hxm).2
  rw [nxt_last xs a h0, wrap_off (may_off (hm _ (by rw [rd_get xs _ (by omega)]; exact List.getElem_mem _)))] at h1
  omega
theorem repS_ok {s : DSt} {xs : List PB.S45} (hm : mayAll xs = true) (hr : riseB xs s.st = true) (hx : xs.length = 0 ∨ 0 < xs.length ∧ (PB.rd_T45 xs ((xs.length - 1 : Nat) : Int)).f0 < s.nx) : repS s xs = (⟨xs, s.st, s.nx, s.mr⟩, 0) := by
  have hm' := (mayAll_iff xs).1 hm
  unfold repS
  rw [if_neg (by rw [hm]; decide), riseD_none _ _ _ hm', hr]
  rcases hx with h0 | ⟨h0, hx⟩
  · have : xs = [] := List.eq_nil_of_length_eq_zero h0
    subst this
    rfl
  · rw [last_all s.st s.nx hm' hr h0 hx, if_neg (by decide)]
theorem IV.rep {s : DSt} {xs : List PB.S45} (hm : mayAll xs = true) (hr : riseB xs s.st = true) (hx : xs.length = 0 ∨ 0 < xs.length ∧ (PB.rd_T45 xs ((xs.length - 1 : Nat) : Int)).f0 < s.nx) : IV ⟨xs, s.st, s.nx, s.mr⟩ := by
  have hm' := (mayAll_iff xs).1 hm
  refine ⟨hm', (risen_iff _).2 (riseB_spec xs s.st hm' hr).1, fun x hxm => ?_⟩
  rcases hx with h0 | ⟨h0, hx⟩
  · have : xs = [] := List.eq_nil_of_length_eq_zero h0
    subst this
    cases hxm
  · simpa using List.all_eq_true.1 (last_all s.st s.nx hm' hr h0 hx) x hxm
theorem repS_low {s : DSt} {xs : List PB.S45} (hm : mayAll xs = true) (hr : riseB xs s.st = false) : repS s xs = (s, 34) := by
  unfold repS
  rw [if_neg (by rw [hm]; decide), riseD_none _ _ _ ((mayAll_iff xs).1 hm), hr, if_pos (by rfl)]
theorem repS_over {s : DSt} {xs : List PB.S45} (hm : mayAll xs = true) (h0 : 0 < xs.length) (hx : s.nx ≤ (PB.rd_T45 xs ((xs.length - 1 : Nat) : Int)).f0) : repS s xs = (s, 34) := by
  unfold repS
  rw [if_neg (by rw [hm]; decide), riseD_none _ _ _ ((mayAll_iff xs).1 hm), if_pos]
  rw [Bool.and_eq_false_iff]
  refine Or.inr ?_
  rw [List.all_eq_false]
  refine ⟨xs[xs.length - 1], List.getElem_mem _, ?_⟩
  rw [rd_get xs (xs.length - 1) (by omega)] at hx
  simp; omega
theorem repS_bad {s : DSt} {xs : List PB.S45} (hm : mayAll xs = false) : repS s xs = (s, 1) := by
  unfold repS
  rw [if_pos hm]
end Go.Proofs.Ytmkipdleggkkkaa.Own
