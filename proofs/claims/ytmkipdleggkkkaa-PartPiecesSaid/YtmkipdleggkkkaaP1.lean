/- The walks of slices.IndexFunc and slices.ContainsFunc with part's odd, and of slices.Clone. -/
import Derived.Test.YtmkipdleggkkkaaOpen
import Derived.Test.YtmkipdleggkkkaaPMayRecB
import Derived.Test.YtmkipdleggkkkaaPBx2
namespace Go.Proofs.Ytmkipdleggkkkaa.Own
open Go.RowKit Go.Proofs.YtmkipdleggkkkaaW.PrintWords
set_option maxRecDepth 100000
set_option linter.unusedSimpArgs false
set_option linter.unusedVariables false
/-- A record's cells. -/
def rc (x : PB.S45) : Array Value := #[.int .i64 x.f0, .int .i64 x.f1, .string x.f2, .string x.f3, .bool x.f4, .int .i64 x.f5, .int .i64 x.f6, .int .i64 x.f7]
theorem odd_any (x : PB.S45) (w : World) : Calls Try.prog 26 #[.agg #[.int .i64 x.f0, .int .i64 x.f1, .string x.f2, .string x.f3, .bool x.f4, .int .i64 x.f5, .int .i64 x.f6, .int .i64 x.f7]] w fun e w' => e = .returned (.bool (!PuB.mayB x)) ∧ Below w.heap.size w w' := by
  obtain ⟨k, hk⟩ := Ev.rounds (PuB.recMay_ev x)
  refine PB.part_odd.calls k _ _ _ _ _ _ _ _ _ w ?_
  unfold PB.part_odd.f
  rw [hk]
  rfl
/-- The place of the first odd record, or -1. -/
def idxOdd : List PB.S45 → Nat → Int
  | [], _ => -1
  | x :: t, i => if PuB.mayB x = true then idxOdd t (i + 1) else (i : Int)
theorem idxOdd_pos (l : List PB.S45) : ∀ i, (0 ≤ idxOdd l i) ↔ ∃ x ∈ l, PuB.mayB x = false := by
  induction l with
  | nil => intro i; simp [idxOdd]
  | cons x t ih =>
    intro i
    unfold idxOdd
    by_cases h : PuB.mayB x = true
    · rw [if_pos h, ih (i + 1)]
      simp [h]
    · rw [if_neg h]
      have : PuB.mayB x = false := by simpa using h
      simp [this]
theorem idxOdd_drop (l : List PB.S45) (k : Nat) (hk : k < l.length) : idxOdd (l.drop k) k = if PuB.mayB (PB.rd_T45 l (k : Int)) = true then idxOdd (l.drop (k + 1)) (k + 1) else (k : Int) := by
  rw [List.drop_eq_getElem_cons hk, idxOdd]
  have : PB.rd_T45 l (k : Int) = l[k] := by
    unfold PB.rd_T45
    simp [hk]
  rw [this]
theorem index_any (A : Option Addr) (c : Nat) (l : List PB.S45) (w : World) (hr : Kd.C PB.k45 w A l.length l) (hc : l.length ≤ c) (hl : l.length ≤ 60000) :
    Calls Try.prog 37 #[.slice A l.length c, .func (.func 26) #[] #[]] w fun e w' => e = .returned (.int .i64 (idxOdd l 0)) ∧ Below w.heap.size w w' := by
  have HR := Lib.hid hr; clear hr
  go_enter Try.func37, Try.ntmps37
  go_wp2_with fail
  go_loopw [8] (fun i wr => ∃ k : Nat, k ≤ l.length ∧ i = .int .i64 k ∧ idxOdd l 0 = idxOdd (l.drop k) k ∧ Below w.heap.size w wr) (fun i _ => l.length - (intOf i).toNat)
  case atStart => exact ⟨0, Nat.zero_le _, rfl, by rw [List.drop_zero], Below.refl _ _⟩
  case round =>
    obtain ⟨k, hk, rfl, he, bel⟩ := hrel
    have Bel := Lib.hid bel; clear bel
    have He := Lib.hid he; clear he
    by_cases hlt : k < l.length
    · have p1 : (0 : Int) ≤ (k : Int) := Int.natCast_nonneg _
      have p2 : (k : Int) < (l.length : Int) := by omega
      have hd := idxOdd_drop l k hlt
      have hw : wrap64 ((k : Int) + 1) = ((k + 1 : Nat) : Int) := by unfold wrap64; omega
      obtain ⟨ad, e1, x0, x1, x2, x3, x4, x5, x6, x7⟩ := PB.at_T45 HR.out (k : Int) p1 p2
      cases e1
      rw [Int.toNat_natCast] at x0 x1 x2 x3 x4 x5 x6 x7
      replace x0 := (Bel.out.cell (World.block_lt_of_cell? w _ x0)).trans x0
      replace x1 := (Bel.out.cell (World.block_lt_of_cell? w _ x1)).trans x1
      replace x2 := (Bel.out.cell (World.block_lt_of_cell? w _ x2)).trans x2
      replace x3 := (Bel.out.cell (World.block_lt_of_cell? w _ x3)).trans x3
      replace x4 := (Bel.out.cell (World.block_lt_of_cell? w _ x4)).trans x4
      replace x5 := (Bel.out.cell (World.block_lt_of_cell? w _ x5)).trans x5
      replace x6 := (Bel.out.cell (World.block_lt_of_cell? w _ x6)).trans x6
      replace x7 := (Bel.out.cell (World.block_lt_of_cell? w _ x7)).trans x7
      generalize PB.rd_T45 l (k : Int) = x at *
      have Hd := Lib.hid hd; clear hd
      go_wp2_with fail
      refine (odd_any x _).mono ?_
      rintro e w2 ⟨rfl, b2⟩
      have B2 := Lib.hid (below_two Bel.out b2); clear b2
      cases hx : PuB.mayB x with
      | true =>
        have hd := Hd.out
        rw [hx, if_pos rfl] at hd
        have Hd2 := Lib.hid hd; clear hd
        clear Hd
        go_wp2
        go_roundw
        case rel => exact ⟨k + 1, by omega, by go_num, He.out.trans Hd2.out, B2.out⟩
        case measure => simp [intOf]; omega
      | false =>
        have hd := Hd.out
        rw [hx, if_neg (by decide)] at hd
        have Hd2 := Lib.hid (He.out.trans hd); clear hd
        clear Hd
        go_wp2
        go_ret
        exact ⟨ret_int (k := .i64) Hd2.out.symm, B2.out⟩
    · have e : idxOdd l 0 = -1 := by rw [He.out, List.drop_of_length_le (by omega)]; rfl
      have E := Lib.hid e; clear e
      have p2 : ¬ (k : Int) < (l.length : Int) := by omega
      go_wp2
      go_ret
      exact ⟨ret_int (k := .i64) E.out.symm, Bel.out⟩
theorem contains_any (A : Option Addr) (c : Nat) (l : List PB.S45) (w : World) (hr : Kd.C PB.k45 w A l.length l) (hc : l.length ≤ c) (hl : l.length ≤ 60000) :
    Calls Try.prog 25 #[.slice A l.length c, .func (.func 26) #[] #[]] w fun e w' => e = .returned (.bool (decide (∃ x ∈ l, PuB.mayB x = false))) ∧ Below w.heap.size w w' := by
  go_enter Try.func25, Try.ntmps25
  go_wp2_with fail
  refine (index_any A c l _ hr hc hl).mono ?_
  rintro e w2 ⟨rfl, b2⟩
  have e1 : decide (0 ≤ idxOdd l 0) = decide (∃ x ∈ l, PuB.mayB x = false) := by simp only [idxOdd_pos]
  obtain ⟨b, hb⟩ : ∃ b, decide (∃ x ∈ l, PuB.mayB x = false) = b := ⟨_, rfl⟩
  rw [hb] at e1
  have e2 : decide (idxOdd l 0 ≥ 0) = b := e1
  have Hb := Lib.hid hb; clear hb
  go_wp2
  go_ret
  exact ⟨congrArg (fun t => Ending.returned (Value.bool t)) Hb.out.symm, b2⟩
def z0 : Value := .agg #[.int .i64 0, .int .i64 0, .string ⟨#[]⟩, .string ⟨#[]⟩, .bool false, .int .i64 0, .int .i64 0, .int .i64 0]
theorem info45 : (Try.prog.info? 45).map (fun i => (i.zero, i.size, i.bytes)) = some (some z0, 8, 80) := by kernel_rfl
theorem R_empty (w : World) (B : Nat) (ok : Nat → Prop) (g : Nat) (hg : w.heap[g]? = some (.cells #[] 45 (0, 0))) (hB : B ≤ g) (hok : ok g) : Kd.R PB.k45 45 w B ok (.slice (some ⟨g, 0, none⟩) 0 0) [] :=
  ⟨fun k hk => by have : g = k := by simpa [Value.ownBlock] using hk
                  exact this ▸ hok, [], ⟨rfl, Or.inr ⟨g, 0, #[], rfl, hB, hg, Nat.le_refl _, Nat.zero_le _, by simp, by simp⟩⟩, Reps.none _ _⟩
theorem KM45 {w : World} {base : Nat} {okp : Nat → Prop} {x : PB.S45} {cs : List Value} (h : PB.k45.K w x cs) : PB.k45.M w base okp x cs := by
  obtain rfl := PB.k45_open h
  exact PB.k45_mkM w base okp x
/-- What a copy of a row leaves: the new row, of a block that was not there. -/
theorem clone_any (A : Option Addr) (c : Nat) (l : List PB.S45) (w : World) (hr : Kd.C PB.k45 w A l.length l) (hc : l.length ≤ c) (hl : l.length ≤ 60000) :
    Calls Try.prog 28 #[.slice A l.length c] w fun e w' => ∃ v, e = .returned v ∧ Kd.R PB.k45 45 w' w.heap.size (fun _ => True) v l ∧ Below w.heap.size w w' := by
  cases A with
  | none =>
    have h0 : l = [] := by
      cases l with
      | nil => rfl
      | cons x t =>
        obtain ⟨ad, e1, _⟩ := PB.at_T45 hr (0 : Int) (by omega) (by simp)
        cases e1
    subst h0
    clear hr
    have k1 : ∀ W : World, (binOp BinOp.eql 22 (.slice none 0 c) (.slice none 0 0)).run Try.prog W = .ok (.bool true) W := fun W => rfl
    go_enter Try.func28, Try.ntmps28
    go_wp2
    refine bodyPost_ret (v := .slice none 0 0) (by simp [results, Try.results28, go_sem]) rfl ?_
    exact ⟨.slice none 0 0, rfl, Kd.R_nil _ _ _ _ _, Below.refl _ _⟩
  | some ad =>
    have HR := Lib.hid hr; clear hr
    have k1 : ∀ W : World, (binOp BinOp.eql 22 (.slice (some ad) l.length c) (.slice none 0 0)).run Try.prog W = .ok (.bool false) W := fun W => rfl
    go_enter Try.func28, Try.ntmps28
    go_wp2_with (at_builtin; refine Kd.R_append_rows PB.k45 (w0 := w) w.heap.size rfl (.tmp 5) (.tmp 6) 22 45 z0 80 rfl Try.underlying22 info45 rfl (by decide) (by omega) (.slice (some ⟨w.heap.size, 0, none⟩) 0 0) [] l (some ad) l.length c (fun _ => True) (fun _ => False) rfl rfl (R_empty _ _ _ _ (heap_new _ _) (Nat.le_refl _) trivial) (Kd.C_below HR.out ((Below.refl _ _).alloc (Nat.le_refl _) _)) (fun x cs h => KM45 h) (fun k hk => hk.elim) (fun _ _ => trivial) ((Below.refl _ _).alloc (Nat.le_refl _) _) (by simp) (by simp; omega) ?_)
    intro v1 w1 hR hB hg hat
    go_wp2
    refine bodyPost_ret (v := v1) (by simp [results, Try.results28, go_sem]) rfl ?_
    exact ⟨v1, rfl, by simpa using hR, hB⟩
end Go.Proofs.Ytmkipdleggkkkaa.Own
