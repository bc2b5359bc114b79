/- batch.Right, by hand: it hands a function to slices.ContainsFunc. -/
import Derived.Test.YtgpbfipobgbgnaaKit
import Derived.Test.YtgpbfipobgbgnaaPBx
import Derived.Test.YtgpbfipobgbgnaaEv
namespace Go.Proofs.Ytgpbfipobgbgnaa.Rt
open Go.RowKit Go.Proofs.YtgpbfipobgbgnaaW.PrintWords Go.Proofs.Ytgpbfipobgbgnaa.PB
set_option maxRecDepth 100000
set_option linter.unusedSimpArgs false
set_option linter.unusedVariables false
theorem fn15 (a b : ByteArray) (c r : Bool) (w : World) (h : batch_wrong.f a b c = some r) :
    Calls Try.prog 15 #[.agg #[.string a, .string b, .bool c]] w fun e w' => e = .returned (.bool r) ∧ Below w.heap.size w w' := by
  have H := Lib.hid h
  clear h
  go_enter Try.func15, Try.ntmps15
  go_wp2_with fail
  refine (batch_wrong.calls a b c r _ H.out).mono ?_
  rintro e w1 ⟨rfl, b1⟩
  go_wp2
  go_ret
  exact ⟨rfl, Own.below_two ((Below.refl _ w).alloc (Nat.le_refl _) _) b1⟩
def wrongB (x : S26) : Bool := (batch_wrong.f x.f0 x.f1 x.f2).getD false
theorem wrong_some (x : S26) : batch_wrong.f x.f0 x.f1 x.f2 = some (wrongB x) := by
  unfold wrongB batch_wrong.f
  repeat' split
  all_goals rfl
theorem rd_get (l : List S26) (m : Nat) (h : m < l.length) : rd_T26 l (m : Int) = l[m] := by
  unfold rd_T26
  rw [Int.toNat_natCast, List.getD_eq_getElem?_getD, List.getElem?_eq_getElem h]; rfl
def Idx (l : List S26) (w : World) (e : Ending) (w' : World) : Prop := ∃ i : Int, e = .returned (.int .i64 i) ∧ (0 ≤ i ↔ l.any wrongB = true) ∧ Below w.heap.size w w'
set_option maxHeartbeats 1000000 in
theorem index_any (A : Option Addr) (c : Nat) (l : List S26) (w : World) (hr : Kd.C k26 w A l.length l) :
    Calls Try.prog 18 #[.slice A l.length c, .func (.func 15) #[] #[]] w (Idx l w) := by
  have hmax : l.length ≤ 9223372036854775807 := hr.2.1
  have HR := Lib.hid hr; clear hr
  go_enter Try.func18, Try.ntmps18
  go_wp2_with fail
  go_loopw [8] (fun x wr => ∃ k : Nat, k ≤ l.length ∧ x = .int .i64 k ∧ (l.take k).any wrongB = false ∧ Below w.heap.size w wr) (fun x _ => l.length - (intOf x).toNat)
  case atStart => exact ⟨0, by omega, rfl, rfl, Below.refl _ _⟩
  case round =>
    obtain ⟨k, hk, rfl, hno, bel⟩ := hrel
    have Bel := Lib.hid bel; clear bel
    have Hno := Lib.hid hno; clear hno
    by_cases hlt : k < l.length
    · obtain ⟨ad, rfl, c0, c1, c2⟩ := at_T26 (Kd.C_below HR.out Bel.out) (k : Int) (by omega) (by omega)
      rw [rd_get l k hlt, Int.toNat_natCast] at c0 c1 c2
      have hw := wrong_some l[k]
      have hsnoc : (l.take (k + 1)).any wrongB = ((l.take k).any wrongB || wrongB l[k]) := by rw [List.take_succ_eq_append_getElem hlt, List.any_append]; simp
      have Hs := Lib.hid hsnoc; clear hsnoc
      have hall : wrongB l[k] = true → l.any wrongB = true := fun h => List.any_eq_true.2 ⟨l[k], List.getElem_mem hlt, h⟩
      have Ha := Lib.hid hall; clear hall
      have Hw := Lib.hid hw; clear hw
      obtain ⟨p, hp⟩ : ∃ p, p = l[k] := ⟨_, rfl⟩
      rw [← hp] at c0 c1 c2
      obtain ⟨p0, p1, p2⟩ := p
      have Hp := Lib.hid hp; clear hp
      have hk0 : (0 : Int) ≤ (k : Int) := by omega
      have hk1 : (k : Int) < (l.length : Int) := by omega
      have hd : decide ((k : Int) < (l.length : Int)) = true := by simpa using hk1
      have hwp : batch_wrong.f p0 p1 p2 = some (wrongB l[k]) := by have h1 := Hw.out; rw [← Hp.out] at h1 ⊢; exact h1
      have Hwp := Lib.hid hwp; clear hwp
      go_wp2_with fail
      refine (fn15 p0 p1 p2 _ _ Hwp.out).mono ?_
      rintro e w1 ⟨rfl, b1⟩
      have B1 := Lib.hid (Own.below_two Bel.out b1); clear b1 Bel
      by_cases hb : wrongB l[k] = true
      · have hx := Ha.out hb
        have Hx := Lib.hid hx; clear hx
        go_wp2
        go_ret
        exact ⟨k, rfl, ⟨fun _ => Hx.out, fun _ => by omega⟩, B1.out⟩
      · have hb2 : wrongB l[k] = false := by simpa using hb
        have hx : (l.take (k + 1)).any wrongB = false := by rw [Hs.out, Hno.out, hb2]; rfl
        have Hx := Lib.hid hx; clear hx hb
        go_wp2
        go_roundw
        case rel => exact ⟨k + 1, by omega, by go_num, Hx.out, B1.out⟩
        case measure => simp [intOf]; omega
    · have hd : decide ((k : Int) < (l.length : Int)) = false := by simp; omega
      obtain rfl : k = l.length := by omega
      have hn : l.any wrongB = false := by have := Hno.out; rwa [List.take_of_length_le (Nat.le_refl _)] at this
      have Hn := Lib.hid hn; clear hn Hno
      go_wp2
      go_ret
      exact ⟨-1, rfl, ⟨fun h => by omega, fun h => by rw [Hn.out] at h; cases h⟩, Bel.out⟩
theorem contains_any (A : Option Addr) (c : Nat) (l : List S26) (w : World) (hr : Kd.C k26 w A l.length l) :
    Calls Try.prog 14 #[.slice A l.length c, .func (.func 15) #[] #[]] w fun e w' => e = .returned (.bool (l.any wrongB)) ∧ Below w.heap.size w w' := by
  have HR := Lib.hid hr; clear hr
  go_enter Try.func14, Try.ntmps14
  go_wp2_with fail
  refine (index_any A c l _ HR.out).mono ?_
  rintro e w1 ⟨i, rfl, hi, b1⟩
  have B1 := Lib.hid b1; clear b1
  have HI := Lib.hid hi; clear hi
  go_wp2
  go_ret
  refine ⟨?_, B1.out⟩
  have : decide (0 ≤ i) = l.any wrongB := by
    cases h : l.any wrongB with
    | true => simpa using HI.out.2 h
    | false => 
      have := mt HI.out.1 (by rw [h]; simp)
      simpa using this
  rw [← this]
  rfl
/-- Why pairs are no batch: the number of an error. -/
def rightL (l : List S26) (wt : Int) : Int := if l.length = 0 ∨ l.any wrongB = true then 1 else if 8 < l.length ∨ 500 < wt then 2 else 0
set_option maxHeartbeats 1000000 in
theorem right_any (k : Nat) (A : Option Addr) (c : Nat) (l : List S26) (wt : Int) (w : World) (hr : Kd.C k26 w A l.length l) (hc : l.length ≤ c) (hwt : batch_Weight.f k l = some wt) :
    Calls Try.prog 8 #[.slice A l.length c] w fun e w' => e = .returned (.int .i64 (rightL l wt)) ∧ Below w.heap.size w w' := by
  have HR := Lib.hid hr; clear hr
  have HW := Lib.hid hwt; clear hwt
  have HC := Lib.hid hc; clear hc
  by_cases h0 : l.length = 0
  · have e : rightL l wt = 1 := by unfold rightL; rw [if_pos (.inl h0)]
    rw [e]
    have hb : ((l.length : Int) == 0) = true := by simp [h0]
    clear e h0
    go_enter Try.func8, Try.ntmps8
    go_wp2
    go_ret
    exact ⟨rfl, Below.refl _ _⟩
  · have hb : ((l.length : Int) == 0) = false := by rw [beq_eq_false_iff_ne]; omega
    by_cases h1 : l.any wrongB = true
    · have e : rightL l wt = 1 := by unfold rightL; rw [if_pos (.inr h1)]
      rw [e]
      have H1 := Lib.hid h1; clear h1 h0 e
      go_enter Try.func8, Try.ntmps8
      go_wp2_with fail
      refine (contains_any A c l _ HR.out).mono ?_
      rintro e w1 ⟨rfl, b1⟩
      have B1 := Lib.hid b1; clear b1
      rw [H1.out]
      go_wp2
      go_ret
      exact ⟨rfl, B1.out⟩
    · have h1' : l.any wrongB = false := by simpa using h1
      have H1 := Lib.hid h1'
      by_cases h2 : 8 < l.length
      · have e : rightL l wt = 2 := by unfold rightL; rw [if_neg (by simp [h0, h1]), if_pos (.inl h2)]
        rw [e]
        have hd : decide ((8 : Int) < (l.length : Int)) = true := by simp; omega
        have hd2 : (8 : Int) < (l.length : Int) := by omega
        clear h1 h1' h0 e h2
        go_enter Try.func8, Try.ntmps8
        go_wp2_with fail
        refine (contains_any A c l _ HR.out).mono ?_
        rintro e w1 ⟨rfl, b1⟩
        have B1 := Lib.hid b1; clear b1
        rw [H1.out]
        go_wp2
        go_ret
        exact ⟨rfl, B1.out⟩
      · have hd : decide ((8 : Int) < (l.length : Int)) = false := by simp; omega
        have hd2 : ¬ (8 : Int) < (l.length : Int) := by omega
        obtain ⟨res, he⟩ : ∃ res, rightL l wt = res := ⟨_, rfl⟩
        have e : rightL l wt = if 500 < wt then 2 else 0 := by
          unfold rightL; rw [if_neg (by simp [h0, h1])]
          by_cases h3 : 500 < wt
          · rw [if_pos (.inr h3), if_pos h3]
          · rw [if_neg (by omega), if_neg h3]
        rw [e]
        clear h1 h1' h0 e he h2
        by_cases h3 : 500 < wt
        all_goals
          go_enter Try.func8, Try.ntmps8
          go_wp2_with fail
          refine (contains_any A c l _ HR.out).mono ?_
          rintro e w1 ⟨rfl, b1⟩
          have B1 := Lib.hid b1; clear b1
          rw [H1.out]
          go_wp2_with fail
          refine (batch_Weight.calls k A c l wt _ (Kd.C_below HR.out B1.out) HC.out HW.out).mono ?_
          rintro e w2 ⟨rfl, b2⟩
          have B2 := Lib.hid (by first | exact Own.below_two B1.out b2 | exact Own.below_two B1.out (b2.below)); clear b2
          go_wp2
          go_ret
          exact ⟨rfl, B2.out⟩
/-- How many bytes pairs have, as the code reckons it. -/
def wsum (l : List S26) : Int := l.foldl (fun n x => wrap64 (n + wrap64 ((x.f0.size : Int) + (x.f1.size : Int)))) 0
theorem weight_ev (l : List S26) (hl : l.length ≤ 9223372036854775807) : Ev (fun k => batch_Weight.f k l) (wsum l) := by
  have key : ∀ (d m : Nat) (n : Int), l.length - m = d → m ≤ l.length → n = (l.take m).foldl (fun n x => wrap64 (n + wrap64 ((x.f0.size : Int) + (x.f1.size : Int)))) 0 → Ev (fun k => batch_Weight.l0 k n l (l.length : Int) (m : Int)) (wsum l) := by
    intro d
    induction d with
    | zero =>
      intro m n hd hm hn
      obtain rfl : m = l.length := by omega
      refine Ev.step (fun k => batch_Weight.l0.eq_2 ..) ?_
      refine Pu.Ev.neg (by omega) ?_
      rw [hn, List.take_of_length_le (Nat.le_refl _)]
      exact Ev.now _
    | succ d ih =>
      intro m n hd hm hn
      have hlt : m < l.length := by omega
      refine Ev.step (fun k => batch_Weight.l0.eq_2 ..) ?_
      refine Pu.Ev.pos (by omega) (Pu.Ev.pos (by omega) (Pu.Ev.pos (by omega) ?_))
      rw [rd_get l m hlt, Pu.wrap_id (a := (m : Int) + 1) (by omega) (by omega)]
      refine ih (m + 1) _ (by omega) (by omega) ?_
      rw [List.take_succ_eq_append_getElem hlt, List.foldl_append, ← hn]
      rfl
  unfold batch_Weight.f
  exact key l.length 0 0 (by omega) (by omega) rfl
def rightF (l : List S26) : Int := rightL l (wsum l)
theorem right_all (A : Option Addr) (c : Nat) (l : List S26) (w : World) (hr : Kd.C k26 w A l.length l) (hc : l.length ≤ c) :
    Calls Try.prog 8 #[.slice A l.length c] w fun e w' => e = .returned (.int .i64 (rightF l)) ∧ Below w.heap.size w w' := by
  obtain ⟨k, hk⟩ := Ev.rounds (weight_ev l hr.2.1)
  exact right_any k A c l _ w hr hc hk
end Go.Proofs.Ytgpbfipobgbgnaa.Rt
