/- Rising offsets. -/
import Derived.Test.YtmkipdleggkkkaaP2
namespace Go.Proofs.Ytmkipdleggkkkaa.Own
open Go.RowKit Go.Proofs.YtmkipdleggkkkaaW.PrintWords Go.Proofs.Ytmkipdleggkkkaa.Pu
set_option maxRecDepth 100000
set_option linter.unusedSimpArgs false
set_option linter.unusedVariables false
/-- Do offsets rise, from one on? -/
def riseB : List PB.S45 → Int → Bool
  | [], _ => true
  | x :: t, a => if x.f0 < a then false else riseB t (wrap64 (x.f0 + 1))
theorem rd_get (l : List PB.S45) (k : Nat) (hk : k < l.length) : PB.rd_T45 l (k : Int) = l[k] := by
  unfold PB.rd_T45
  simp [hk]
theorem rise_ev (l : List PB.S45) (hl : l.length ≤ 60000) : ∀ (n k : Nat) (a : Int), k + n = l.length → Ev (fun q => PB.part_rise.l0 q a l (l.length : Int) (k : Int)) (riseB (l.drop k) a) := by
  intro n
  induction n with
  | zero =>
    intro k a h
    rw [List.drop_of_length_le (by omega)]
    exact Ev.step (fun q => PB.part_rise.l0.eq_2 ..) (Ev.neg (by omega) (Ev.cst rfl))
  | succ n ih =>
    intro k a h
    have hk : k < l.length := by omega
    refine Ev.step (fun q => PB.part_rise.l0.eq_2 ..) (Ev.pos (by omega) (Ev.pos (by omega) (Ev.pos (by omega) ?_)))
    rw [rd_get l k hk, List.drop_eq_getElem_cons hk, riseB]
    by_cases hx : l[k].f0 < a
    · rw [if_pos hx]; exact Ev.pos hx (Ev.cst rfl)
    · rw [if_neg hx]
      refine Ev.neg hx ?_
      have hw : wrap64 ((k : Int) + 1) = ((k + 1 : Nat) : Int) := by unfold wrap64; omega
      rw [hw]
      exact ih (k + 1) _ (by omega)
theorem rise_any (A : Option Addr) (c : Nat) (l : List PB.S45) (a : Int) (w : World) (hr : Kd.C PB.k45 w A l.length l) (hc : l.length ≤ c) (hl : l.length ≤ 60000) :
    Calls Try.prog 27 #[.slice A l.length c, .int .i64 a] w fun e w' => e = .returned (.bool (riseB l a)) ∧ Below w.heap.size w w' := by
  obtain ⟨k, hk⟩ := Ev.rounds (rise_ev l hl l.length 0 a (by omega))
  exact PB.part_rise.calls k A c l a _ w hr hc (by unfold PB.part_rise.f; exact hk)
theorem append_low (B g : Nat) (v : Value) (l : List PB.S45) (st nx mk : Int) (A : Option Addr) (c : Nat) (xs : List PB.S45) (w : World) (h : PS B g v l st nx mk w) (hr : Kd.C PB.k45 w A xs.length xs) (hc : xs.length ≤ c) (hl : xs.length ≤ 60000)
    (hb : decide (∃ x ∈ xs, PuB.mayB x = false) = false) (hi : riseB xs nx = false) :
    Calls Try.prog 9 #[.pointer (some ⟨g, 0, none⟩), .slice A xs.length c] w fun e w' => e = .returned (.int .i64 34) ∧ Below w.heap.size w w' := by
  go_enter Try.func9, Try.ntmps9
  go_wp2_with fail
  refine (contains_any A c xs _ hr hc hl).mono ?_
  rintro e w2 ⟨rfl, b2⟩
  rw [hb]
  have q2 := blk_cell (h.below b2).blk 2
  simp at q2
  go_wp2_with fail
  refine (rise_any A c xs nx _ (Kd.C_below hr b2) hc hl).mono ?_
  rintro e w3 ⟨rfl, b3⟩
  rw [hi]
  have B3 := Lib.hid (below_two b2 b3)
  go_wp2
  go_ret
  exact ⟨rfl, B3.out⟩
end Go.Proofs.Ytmkipdleggkkkaa.Own
