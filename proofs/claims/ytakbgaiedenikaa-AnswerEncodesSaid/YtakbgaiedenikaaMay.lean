/- Several texts of this claim in one. -/
import Derived.Test.YtakbgaiedenikaaWMore
import Derived.Test.YtakbgaiedenikaaWWords
import Derived.Test.YtakbgaiedenikaaPBx2
import Derived.Test.YtakbgaiedenikaaPBx3
/- Answers that are there from some number of rounds on: small laws. -/
namespace Go.Proofs.Ytakbgaiedenikaa.Pu
open Go.RowKit Go.Proofs.YtakbgaiedenikaaW.PrintWords
theorem Ev.pos {α : Type} {c : Prop} [Decidable c] {f g : Nat → Option α} {r : α} (hc : c) (h : Ev f r) : Ev (fun k => if c then f k else g k) r := Ev.congr (fun k => by rw [if_pos hc]) h
theorem Ev.neg {α : Type} {c : Prop} [Decidable c] {f g : Nat → Option α} {r : α} (hc : ¬ c) (h : Ev g r) : Ev (fun k => if c then f k else g k) r := Ev.congr (fun k => by rw [if_neg hc]) h
theorem Ev.cst {α : Type} {x : Option α} {r : α} (h : x = some r) : Ev (fun _ => x) r := ⟨0, fun _ _ => h⟩
theorem Ev.get {α : Type} {g : Nat → Option α} {r q : α} (h : Ev g r) (hq : r = q) : Ev g q := hq ▸ h
theorem wrap_id {a : Int} (h0 : -9223372036854775808 ≤ a) (h1 : a ≤ 9223372036854775807) : wrap64 a = a := by unfold wrap64; omega
theorem str_nil (s : ByteArray) : s.toList = ([] : List UInt8) ↔ s.size = 0 := by
  rw [Go.ByteArray.toList_eq]
  have h : s.data.toList.length = s.size := by rw [Array.length_toList]; rfl
  constructor
  · intro e; rw [← h, e]; rfl
  · intro e; exact List.eq_nil_of_length_eq_zero (by omega)
end Go.Proofs.Ytakbgaiedenikaa.Pu
/- Which records may be: the program's and the document's answer, as one test. -/
namespace Go.Proofs.Ytakbgaiedenikaa.PuB
open Go.RowKit Go.Proofs.YtakbgaiedenikaaW.PrintWords Go.Proofs.Ytakbgaiedenikaa.Pu Go.Proofs.Ytakbgaiedenikaa.PB
set_option linter.unusedSimpArgs false
set_option linter.unusedVariables false
def upB (a b : Int) : Bool := decide (0 ≤ a ∧ a ≤ b)
theorem upB_iff {a b : Int} : upB a b = true ↔ 0 ≤ a ∧ a ≤ b := by unfold upB; simp
def restB (x : S54) : Bool := (!(decide (x.f5 = 0) && !decide (x.f6 = 0))) && decide (x.f2.size ≤ 32) && decide (x.f3.size ≤ 200) && (!x.f4 || (decide (0 < x.f2.size) && decide (x.f3.size = 0)))
def mayB (x : S54) : Bool := upB x.f0 1048576 && (upB x.f1 1099511627776 && (upB x.f5 1099511627776 && (upB x.f6 1099511627776 && (upB x.f7 1099511627776 && restB x))))
theorem mayB_iff (x : S54) : mayB x = true ↔ (0 ≤ x.f0 ∧ x.f0 ≤ 1048576) ∧ (0 ≤ x.f1 ∧ x.f1 ≤ 1099511627776) ∧ (0 ≤ x.f5 ∧ x.f5 ≤ 1099511627776) ∧ (0 ≤ x.f6 ∧ x.f6 ≤ 1099511627776) ∧ (0 ≤ x.f7 ∧ x.f7 ≤ 1099511627776) ∧ restB x = true := by
  unfold mayB; simp only [Bool.and_eq_true, upB_iff]
theorem restB_iff (x : S54) : restB x = true ↔ (x.f5 = 0 → x.f6 = 0) ∧ x.f2.size ≤ 32 ∧ x.f3.size ≤ 200 ∧ (x.f4 = true → 0 < x.f2.size ∧ x.f3.size = 0) := by
  unfold restB
  by_cases h1 : x.f5 = 0 <;> by_cases h2 : x.f6 = 0 <;> by_cases h3 : x.f4 = true <;> simp [h1, h2, h3, and_assoc]
end Go.Proofs.Ytakbgaiedenikaa.PuB
/- Which records may be, by the program. -/
namespace Go.Proofs.Ytakbgaiedenikaa.PuB
open Go.RowKit Go.Proofs.YtakbgaiedenikaaW.PrintWords Go.Proofs.Ytakbgaiedenikaa.Pu Go.Proofs.Ytakbgaiedenikaa.PB
set_option linter.unusedSimpArgs false
set_option linter.unusedVariables false
theorem recUp_eq (a b : Int) : record_upTo.f a b = some (upB a b) := by
  unfold record_upTo.f upB
  by_cases h : 0 ≤ a
  · rw [if_pos h]; simp [h]
  · rw [if_neg h]; simp [h]
theorem recJ2 (k : Nat) (b : Bool) (x : S54) (hb : b = (decide (x.f5 = 0) && !decide (x.f6 = 0))) : record_May.j2 (k + 1) b x.f0 x.f1 x.f2 x.f3 x.f4 x.f5 x.f6 x.f7 = some (restB x) := by
  obtain ⟨a, b, c, d, e, f, g, h⟩ := x
  subst hb
  rw [record_May.j2]
  unfold restB
  have q9 : (c.toList = ([] : List UInt8)) = (c.size = 0) := propext (str_nil c)
  have q10 : (d.toList == ([] : List UInt8)) = decide (d.size = 0) := by
    by_cases h : d.size = 0
    · rw [(str_nil d).2 h]; simp [h]
    · have := mt (str_nil d).1 h
      simp [h, this]
  simp only [q9, q10]
  generalize c.size = m
  generalize d.size = n
  have q3 : ((m : Int) > 32) = (32 < m) := by apply propext; omega
  have q4 : ((n : Int) > 200) = (200 < n) := by apply propext; omega
  have q7 : (32 < m) = ¬ (m ≤ 32) := by apply propext; omega
  have q8 : (200 < n) = ¬ (n ≤ 200) := by apply propext; omega
  have q11 : (0 < m) = ¬ (m = 0) := by apply propext; omega
  simp only [q3, q4, q7, q8, q11]
  by_cases h1 : f = 0 <;> by_cases h2 : g = 0 <;> by_cases h3 : m ≤ 32 <;> by_cases h4 : n ≤ 200 <;> by_cases h5 : m = 0 <;> cases e <;> simp [h1, h2, h3, h4, h5]
theorem recMay_ev (x : S54) : Ev (fun k => record_May.f k x.f0 x.f1 x.f2 x.f3 x.f4 x.f5 x.f6 x.f7) (mayB x) := by
  refine ⟨3, fun k hk => ?_⟩
  obtain ⟨k, rfl⟩ : ∃ m, k = m + 3 := ⟨k - 3, by omega⟩
  unfold record_May.f mayB
  simp only [recUp_eq, Option.bind_some]
  have j2 : ∀ b, b = (decide (x.f5 = 0) && !decide (x.f6 = 0)) → record_May.j2 (k + 1) b x.f0 x.f1 x.f2 x.f3 x.f4 x.f5 x.f6 x.f7 = some (restB x) := fun b hb => recJ2 k b x hb
  have j1t : record_May.j1 (k + 2) true x.f0 x.f1 x.f2 x.f3 x.f4 x.f5 x.f6 x.f7 = some false := by rw [record_May.j1, if_pos rfl]
  have j1f : record_May.j1 (k + 2) false x.f0 x.f1 x.f2 x.f3 x.f4 x.f5 x.f6 x.f7 = some (restB x) := by
    rw [record_May.j1, if_neg (by decide)]
    by_cases h : x.f5 = 0
    · rw [if_pos h, j2 _ (by by_cases h6 : x.f6 = 0 <;> simp [h, h6])]
    · rw [if_neg h, j2 _ (by simp [h])]
  have j0t : record_May.j0 (k + 3) true x.f0 x.f1 x.f2 x.f3 x.f4 x.f5 x.f6 x.f7 = some false := by rw [record_May.j0, if_pos rfl]
  have j0f : record_May.j0 (k + 3) false x.f0 x.f1 x.f2 x.f3 x.f4 x.f5 x.f6 x.f7 = some (upB x.f5 1099511627776 && (upB x.f6 1099511627776 && (upB x.f7 1099511627776 && restB x))) := by
    rw [record_May.j0, if_neg (by decide)]
    simp only [recUp_eq, Option.bind_some]
    cases upB x.f5 1099511627776 <;> cases upB x.f6 1099511627776 <;> cases upB x.f7 1099511627776 <;> simp [j1t, j1f]
  cases upB x.f0 1048576 <;> cases upB x.f1 1099511627776 <;> simp [j0t, j0f]
end Go.Proofs.Ytakbgaiedenikaa.PuB
/- What record.encode is at a record that may be. -/
namespace Go.Proofs.Ytakbgaiedenikaa.PuB
open Go.RowKit Go.Proofs.YtakbgaiedenikaaW.PrintWords Go.Proofs.Ytakbgaiedenikaa.Pu Go.Proofs.Ytakbgaiedenikaa.PB
set_option linter.unusedSimpArgs false
set_option linter.unusedVariables false
theorem enc_eq (x : S54) (h : mayB x = true) : record_encode.f x.f0 x.f1 x.f2 x.f3 x.f4 x.f5 x.f6 x.f7 = some (Own.sB (Own.recL x.f0.toNat x.f1.toNat x.f5.toNat x.f6.toNat x.f7.toNat x.f4 x.f2 x.f3)) := by
  rw [mayB_iff] at h
  obtain ⟨⟨a, b⟩, ⟨c, d⟩, ⟨e, f⟩, ⟨g, i⟩, ⟨j, l⟩, m⟩ := h
  rw [restB_iff] at m
  unfold record_encode.f
  rw [if_pos ⟨a, by omega, c, d, e, f, g, i, j, l, m.2.1, m.2.2.1⟩]
end Go.Proofs.Ytakbgaiedenikaa.PuB
/- Which answers may be. -/
namespace Go.Proofs.Ytakbgaiedenikaa.PuB
open Go.RowKit Go.Proofs.YtakbgaiedenikaaW.PrintWords Go.Proofs.Ytakbgaiedenikaa.Pu Go.Proofs.Ytakbgaiedenikaa.PB
set_option linter.unusedSimpArgs false
set_option linter.unusedVariables false
theorem ansUp_eq (a b : Int) : answer_upTo.f a b = some (upB a b) := by
  unfold answer_upTo.f upB
  by_cases h : 0 ≤ a
  · rw [if_pos h]; simp [h]
  · rw [if_neg (by omega)]; simp [h]
def endB (id kd cd a b : Int) : Bool := upB id 65535 && (upB kd 255 && (upB cd 255 && (upB a 1099511627776 && upB b 1099511627776)))
def ansB (id kd cd a b : Int) (rs : List S54) (ns : List ByteArray) (ks : List Int) : Bool := rs.all mayB && (ns.all (fun n => decide (n.size ≤ 64)) && (ks.all (fun z => upB z 1099511627776) && endB id kd cd a b))
theorem rd54 (l : List S54) (j : Nat) (h : j < l.length) : rd_T54 l (j : Int) = l[j] := by
  unfold rd_T54; simp [List.getD_eq_getElem?_getD, List.getElem?_eq_getElem h]
theorem rdS (l : List ByteArray) (j : Nat) (h : j < l.length) : rdOf ByteArray.empty l (j : Int) = l[j] := by
  unfold rdOf; simp [List.getD_eq_getElem?_getD, List.getElem?_eq_getElem h]
theorem rdI (l : List Int) (j : Nat) (h : j < l.length) : rd l (j : Int) = l[j] := by
  unfold rd; simp [List.getD_eq_getElem?_getD, List.getElem?_eq_getElem h]
theorem wrap_succ {j : Nat} (h : j ≤ 1000000) : wrap64 ((j : Int) + 1) = ((j + 1 : Nat) : Int) := by rw [wrap_id (by omega) (by omega)]; omega
theorem ans_l2 (id kd cd a b : Int) (rs : List S54) (ns : List ByteArray) (ks : List Int) (hl : ks.length ≤ 1000000) : ∀ d j, j + d = ks.length → Ev (fun k => answer_May.l2 k ks (ks.length : Int) (j : Int) id kd cd a b rs ns ks) ((ks.drop j).all (fun z => upB z 1099511627776) && endB id kd cd a b) := by
  intro d
  induction d with
  | zero =>
    intro j hj
    refine Ev.step (fun k => answer_May.l2.eq_2 ..) (Ev.neg (by omega) ?_)
    rw [List.drop_of_length_le (by omega)]
    simp only [ansUp_eq, Option.bind_some, List.all_nil, Bool.true_and]
    unfold endB
    generalize upB id 65535 = b1
    generalize upB kd 255 = b2
    generalize upB cd 255 = b3
    generalize upB a 1099511627776 = b4
    generalize upB b 1099511627776 = b5
    cases b1 <;> cases b2 <;> cases b3 <;> cases b4 <;> exact Ev.now _
  | succ d ih =>
    intro j hj
    have hlt : j < ks.length := by omega
    refine Ev.step (fun k => answer_May.l2.eq_2 ..) (Ev.pos (by omega) (Ev.pos (by omega) (Ev.pos (by omega) ?_)))
    simp only [ansUp_eq, Option.bind_some]
    rw [rdI ks j hlt, List.drop_eq_getElem_cons hlt, List.all_cons]
    cases hu : upB ks[j] 1099511627776 with
    | false => exact Ev.neg (by decide) (Ev.get (Ev.now _) (by simp))
    | true =>
      refine Ev.pos rfl ?_
      rw [wrap_succ (by omega), Bool.true_and]
      exact ih (j + 1) (by omega)
theorem ans_l1 (id kd cd a b : Int) (rs : List S54) (ns : List ByteArray) (ks : List Int) (hn : ns.length ≤ 1000000) (hl : ks.length ≤ 1000000) : ∀ d j, j + d = ns.length → Ev (fun k => answer_May.l1 k ns (ns.length : Int) (j : Int) id kd cd a b rs ns ks) ((ns.drop j).all (fun n => decide (n.size ≤ 64)) && (ks.all (fun z => upB z 1099511627776) && endB id kd cd a b)) := by
  intro d
  induction d with
  | zero =>
    intro j hj
    refine Ev.step (fun k => answer_May.l1.eq_2 ..) (Ev.neg (by omega) ?_)
    rw [List.drop_of_length_le (by omega)]
    simp only [List.all_nil, Bool.true_and]
    exact ans_l2 id kd cd a b rs ns ks hl ks.length 0 (by omega)
  | succ d ih =>
    intro j hj
    have hlt : j < ns.length := by omega
    refine Ev.step (fun k => answer_May.l1.eq_2 ..) (Ev.pos (by omega) (Ev.pos (by omega) (Ev.pos (by omega) ?_)))
    rw [rdS ns j hlt, List.drop_eq_getElem_cons hlt, List.all_cons]
    by_cases hu : ns[j].size ≤ 64
    · refine Ev.neg (by omega) ?_
      rw [wrap_succ (by omega), decide_eq_true hu, Bool.true_and]
      exact ih (j + 1) (by omega)
    · exact Ev.pos (by omega) (Ev.get (Ev.now _) (by rw [decide_eq_false hu]; simp))
theorem ans_l0 (id kd cd a b : Int) (rs : List S54) (ns : List ByteArray) (ks : List Int) (hr : rs.length ≤ 1000000) (hn : ns.length ≤ 1000000) (hl : ks.length ≤ 1000000) : ∀ d j, j + d = rs.length → Ev (fun k => answer_May.l0 k rs (rs.length : Int) (j : Int) id kd cd a b rs ns ks) ((rs.drop j).all mayB && (ns.all (fun n => decide (n.size ≤ 64)) && (ks.all (fun z => upB z 1099511627776) && endB id kd cd a b))) := by
  intro d
  induction d with
  | zero =>
    intro j hj
    refine Ev.step (fun k => answer_May.l0.eq_2 ..) (Ev.neg (by omega) ?_)
    rw [List.drop_of_length_le (by omega)]
    simp only [List.all_nil, Bool.true_and]
    exact ans_l1 id kd cd a b rs ns ks hn hl ns.length 0 (by omega)
  | succ d ih =>
    intro j hj
    have hlt : j < rs.length := by omega
    refine Ev.step (fun k => answer_May.l0.eq_2 ..) (Ev.pos (by omega) (Ev.pos (by omega) (Ev.pos (by omega) ?_)))
    rw [rd54 rs j hlt, List.drop_eq_getElem_cons hlt, List.all_cons]
    refine Ev.bind (recMay_ev _) ?_
    cases hu : mayB rs[j] with
    | false => exact Ev.neg (by decide) (Ev.get (Ev.now _) (by simp))
    | true =>
      refine Ev.pos rfl ?_
      rw [wrap_succ (by omega), Bool.true_and]
      exact ih (j + 1) (by omega)
theorem ansMay_ev (id kd cd a b : Int) (rs : List S54) (ns : List ByteArray) (ks : List Int) (hr : rs.length ≤ 1000000) (hn : ns.length ≤ 1000000) (hl : ks.length ≤ 1000000) : Ev (fun k => answer_May.f k id kd cd a b rs ns ks) (ansB id kd cd a b rs ns ks) :=
  ans_l0 id kd cd a b rs ns ks hr hn hl rs.length 0 (by omega)
end Go.Proofs.Ytakbgaiedenikaa.PuB
