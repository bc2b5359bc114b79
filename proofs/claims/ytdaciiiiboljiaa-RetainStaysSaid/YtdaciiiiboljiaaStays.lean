/- The law RetainStays over lists and numbers alone. -/
import Derived.Test.YtdaciiiiboljiaaPMay
namespace Go.Proofs.Ytdaciiiiboljiaa.Pu
open Go.RowKit Go.Proofs.YtdaciiiiboljiaaW.PrintWords Go.Proofs.YtdaciiiiboljiaaW.PrintMore Go.Proofs.Ytdaciiiiboljiaa.PRetainStays
set_option linter.unusedSimpArgs false
set_option linter.unusedVariables false
/-- One record more, from behind: bytes, the start, and whether it is over. -/
def stp (now age size : Int) (x : S28) (st : Int × Int × Bool) : Int × Int × Bool :=
  if st.2.2 = true then st else if 0 < size ∧ size < st.1 + szR x then (st.1 + szR x, st.2.1, true) else if 0 < age ∧ age < now - x.f1 then (st.1 + szR x, st.2.1, false) else (st.1 + szR x, x.f0, false)
def go (now age size : Int) (l : List S28) (st : Int × Int × Bool) : Int × Int × Bool := l.foldr (stp now age size) st
def start (now age size next : Int) (l : List S28) : Int := (go now age size l (0, next, false)).2.1
theorem go_brk (now age size b s : Int) : ∀ l, go now age size l (b, s, true) = (b, s, true)
  | [] => rfl
  | x :: l => by
    show stp now age size x (go now age size l (b, s, true)) = _
    rw [go_brk now age size b s l]; rfl
theorem go_snoc (now age size : Int) (l : List S28) (x : S28) (st : Int × Int × Bool) : go now age size (l ++ [x]) st = go now age size l (stp now age size x st) := by
  unfold go; rw [List.foldr_append]; rfl
theorem go_cons (now age size : Int) (l : List S28) (x : S28) (st : Int × Int × Bool) : go now age size (x :: l) st = stp now age size x (go now age size l st) := rfl
theorem rd_get (l : List S28) (m : Nat) (h : m < l.length) : rd_T28 l (m : Int) = l[m] := by
  unfold rd_T28
  rw [Int.toNat_natCast, List.getD_eq_getElem?_getD, List.getElem?_eq_getElem h]; rfl
theorem szR_nonneg (x : S28) : 0 ≤ szR x := by unfold szR; split <;> omega
theorem recL_len {x : S28} (h : mayB x = true) : (Own.recL x.f0.toNat x.f1.toNat x.f5.toNat x.f6.toNat x.f7.toNat x.f4 x.f2 x.f3).length ≤ 400 := by
  rw [mayB_iff] at h
  obtain ⟨a, b, c, d, e, f⟩ := h
  rw [restB_iff] at f
  unfold Own.recL
  simp only [List.length_append]
  have h1 := Own.chainL_len10 (v := x.f0.toNat) (by omega)
  have h2 := Own.chainL_len10 (v := x.f1.toNat) (by omega)
  have h3 := Own.chainL_len10 (v := x.f5.toNat) (by omega)
  have h4 := Own.chainL_len10 (v := x.f6.toNat) (by omega)
  have h5 := Own.chainL_len10 (v := x.f7.toNat) (by omega)
  have h6 := Own.chainL_len10 (v := if x.f4 = true then 1 else 0) (by split <;> omega)
  have h7 := Own.textL_length x.f2 (by omega)
  have h8 := Own.textL_length x.f3 (by omega)
  omega
theorem szR_le (x : S28) : szR x ≤ 400 := by
  unfold szR
  split
  · rename_i h; have := recL_len h; omega
  · omega
theorem loop_ev (l : List S28) (now age size : Int) (hn : 0 ≤ now ∧ now ≤ 1099511627776) (hl : ∀ x ∈ l, 0 ≤ x.f1 ∧ x.f1 ≤ 1099511627776) (h40 : l.length ≤ 1000000) (m : Nat) : ∀ (b s : Int), m ≤ l.length → 0 ≤ b → b + 400 * m ≤ 1000000000 →
    Ev (fun k => retain_Start.l0 k l now age size s b ((m : Int) - 1)) ((go now age size (l.take m) (b, s, false)).2.1) := by
  induction m with
  | zero =>
    intro b s hm hb hbb
    refine Ev.step (fun k => retain_Start.l0.eq_2 ..) ?_
    exact Ev.neg (by omega) (Ev.now s)
  | succ m ih =>
    intro b s hm hb hbb
    have hlt : m < l.length := by omega
    have hx := hl l[m] (List.getElem_mem hlt)
    have e0 : ((m + 1 : Nat) : Int) - 1 = (m : Int) := by omega
    rw [e0]
    refine Ev.step (fun k => retain_Start.l0.eq_2 ..) ?_
    refine Ev.pos (by omega) (Ev.pos (by omega) (Ev.pos (by omega) ?_))
    rw [rd_get l m hlt]
    refine Ev.bind (recSize_ev l[m]) ?_
    have s0 := szR_nonneg l[m]
    have s1 := szR_le l[m]
    rw [wrap_id (a := b + szR l[m]) (by omega) (by omega)]
    rw [List.take_succ_eq_append_getElem hlt, go_snoc]
    have key : Ev (fun k => retain_Start.j1 k l now age size s (b + szR l[m]) (m : Int) (decide (0 < size ∧ size < b + szR l[m]))) ((go now age size (l.take m) (stp now age size l[m] (b, s, false))).2.1) := by
      refine Ev.step (fun k => retain_Start.j1.eq_2 ..) ?_
      by_cases h1 : 0 < size ∧ size < b + szR l[m]
      · refine Ev.pos (by simpa using h1) ?_
        have : stp now age size l[m] (b, s, false) = (b + szR l[m], s, true) := by unfold stp; rw [if_neg (by simp), if_pos h1]
        rw [this, go_brk]
        exact Ev.now s
      · refine Ev.neg (by simpa using h1) ?_
        have e1 : stp now age size l[m] (b, s, false) = if 0 < age ∧ age < now - l[m].f1 then (b + szR l[m], s, false) else (b + szR l[m], l[m].f0, false) := by
          show (if _ then _ else _) = _
          rw [if_neg (by simp), if_neg h1]
        rw [e1, rd_get l m hlt, wrap_id (a := now - l[m].f1) (by omega) (by omega), wrap_id (a := (m : Int) - 1) (by omega) (by omega)]
        by_cases h2 : age > 0
        · refine Ev.pos h2 (Ev.pos (by omega) (Ev.pos (by omega) ?_))
          by_cases h3 : now - l[m].f1 > age
          · rw [if_pos ⟨h2, h3⟩]
            exact Ev.pos h3 (ih _ _ (by omega) (by omega) (by omega))
          · rw [if_neg (by omega)]
            exact Ev.neg h3 (ih _ _ (by omega) (by omega) (by omega))
        · refine Ev.neg h2 (Ev.pos (by omega) (Ev.pos (by omega) ?_))
          rw [if_neg (by omega)]
          exact ih _ _ (by omega) (by omega) (by omega)
    by_cases h1 : size > 0
    · refine Ev.pos h1 ?_
      rw [show decide (b + szR l[m] > size) = decide (0 < size ∧ size < b + szR l[m]) from by apply decide_eq_decide.2; omega]
      exact key
    · refine Ev.neg h1 ?_
      rw [show decide (0 < size ∧ size < b + szR l[m]) = false from by simp; omega] at key
      exact key
def cl (a : Int) : Int := mn (mx a 0) 1099511627776
theorem cl_bd (a : Int) : 0 ≤ cl a ∧ cl a ≤ 1099511627776 := by unfold cl mn mx; split <;> split <;> omega
theorem cl_mono {a b : Int} (h : a ≤ b) : cl a ≤ cl b := by unfold cl mn mx; (repeat' split) <;> omega
theorem start_ev (l : List S28) (next now age size : Int) (hl : ∀ x ∈ l, 0 ≤ x.f1 ∧ x.f1 ≤ 1099511627776) (h40 : l.length ≤ 1000000) :
    Ev (fun k => retain_Start.f k l next now age size) (start (cl now) (cl age) (cl size) next l) := by
  unfold retain_Start.f
  refine Ev.bind (Ev.cst (show retain_clamp.f now = some (cl now) from rfl)) ?_
  refine Ev.bind (Ev.cst (show retain_clamp.f age = some (cl age) from rfl)) ?_
  refine Ev.bind (Ev.cst (show retain_clamp.f size = some (cl size) from rfl)) ?_
  have h := loop_ev l (cl now) (cl age) (cl size) (cl_bd now) hl h40 l.length 0 next (Nat.le_refl _) (by omega) (by omega)
  rw [List.take_of_length_le (Nat.le_refl _)] at h
  rw [wrap_id (by omega) (by omega)]
  exact h
/-- The records' offsets rise. -/
def rise (l : List S28) : Prop := l.Pairwise fun x y => x.f0 < y.f0
def good (l : List S28) (m : Nat) : Prop := (∀ (j : Nat) (h : j < l.length), j < m → mayB l[j] = true) ∧ ∀ (j : Nat) (h : j + 1 < l.length), j + 1 < m → l[j].f0 < l[j + 1].f0
theorem may_loop (l : List S28) (h40 : l.length ≤ 40) (d : Nat) : ∀ m, l.length - m = d → m ≤ l.length → good l m → ∃ r, Ev (fun k => weighlocklaw20_may.l0 k l l (l.length : Int) (m : Int)) r ∧ (r = true → good l l.length) := by
  induction d with
  | zero =>
    intro m hd hm hg
    obtain rfl : m = l.length := by omega
    refine ⟨true, ?_, fun _ => hg⟩
    refine Ev.step (fun k => weighlocklaw20_may.l0.eq_2 ..) ?_
    exact Ev.neg (by omega) (Ev.now true)
  | succ d ih =>
    intro m hd hm hg
    have hlt : m < l.length := by omega
    by_cases hmay : mayB l[m] = true
    · have next : good l (m + 1) → ∃ r, Ev (fun k => weighlocklaw20_may.l0 k l l (l.length : Int) (wrap64 ((m : Int) + 1))) r ∧ (r = true → good l l.length) := by
        intro hg'
        rw [wrap_id (by omega) (by omega)]
        exact ih (m + 1) (by omega) (by omega) hg'
      by_cases hm0 : 0 < m
      · obtain ⟨j, rfl⟩ : ∃ j, m = j + 1 := ⟨m - 1, by omega⟩
        have ew : wrap64 (((j + 1 : Nat) : Int) - 1) = (j : Int) := by rw [wrap_id (by omega) (by omega)]; omega
        by_cases ho : l[j + 1].f0 ≤ l[j].f0
        · refine ⟨false, ?_, fun h => by cases h⟩
          refine Ev.step (fun k => weighlocklaw20_may.l0.eq_2 ..) ?_
          refine Ev.pos (by omega) (Ev.pos (by omega) (Ev.pos (by omega) ?_))
          rw [rd_get l (j + 1) hlt]
          refine Ev.bind (refMay_ev _) (Ev.pos hmay (Ev.pos (by omega) ?_))
          rw [ew, rd_get l j (by omega)]
          exact Ev.pos (by omega) (Ev.pos (by omega) (Ev.pos ho (Ev.now false)))
        · obtain ⟨r, h1, h2⟩ := next ⟨fun i hi hi2 => by
            by_cases e : i = j + 1
            · subst e; exact hmay
            · exact hg.1 i hi (by omega), fun i hi hi2 => by
            by_cases e : i = j
            · subst e; omega
            · exact hg.2 i hi (by omega)⟩
          refine ⟨r, ?_, h2⟩
          refine Ev.step (fun k => weighlocklaw20_may.l0.eq_2 ..) ?_
          refine Ev.pos (by omega) (Ev.pos (by omega) (Ev.pos (by omega) ?_))
          rw [rd_get l (j + 1) hlt]
          refine Ev.bind (refMay_ev _) (Ev.pos hmay (Ev.pos (by omega) ?_))
          rw [ew, rd_get l j (by omega)]
          exact Ev.pos (by omega) (Ev.pos (by omega) (Ev.neg ho h1))
      · obtain ⟨r, h1, h2⟩ := next ⟨fun i hi hi2 => by
          obtain rfl : i = m := by omega
          exact hmay, fun i hi hi2 => by omega⟩
        refine ⟨r, ?_, h2⟩
        refine Ev.step (fun k => weighlocklaw20_may.l0.eq_2 ..) ?_
        refine Ev.pos (by omega) (Ev.pos (by omega) (Ev.pos (by omega) ?_))
        rw [rd_get l m hlt]
        exact Ev.bind (refMay_ev _) (Ev.pos hmay (Ev.neg (by omega) h1))
    · refine ⟨false, ?_, fun h => by cases h⟩
      refine Ev.step (fun k => weighlocklaw20_may.l0.eq_2 ..) ?_
      refine Ev.pos (by omega) (Ev.pos (by omega) (Ev.pos (by omega) ?_))
      rw [rd_get l m hlt]
      exact Ev.bind (refMay_ev _) (Ev.neg hmay (Ev.now false))
theorem good_rise {l : List S28} (h : good l l.length) : rise l ∧ ∀ x ∈ l, mayB x = true := by
  refine ⟨?_, fun x hx => ?_⟩
  · unfold rise
    rw [List.pairwise_iff_getElem]
    intro i j hi hj hij
    induction j with
    | zero => omega
    | succ j ih =>
      have h2 := h.2 j hj hj
      by_cases e : i = j
      · subst e; exact h2
      · have := ih (by omega) (by omega); omega
  · obtain ⟨i, hi, rfl⟩ := List.getElem_of_mem hx
    exact h.1 i hi hi
theorem may_ev (l : List S28) : ∃ r, Ev (fun k => weighlocklaw20_may.f k l) r ∧ (r = true → l.length ≤ 40 ∧ rise l ∧ ∀ x ∈ l, mayB x = true) := by
  unfold weighlocklaw20_may.f
  by_cases h : (l.length : Int) > 40
  · exact ⟨false, Ev.pos h (Ev.now false), fun h => by cases h⟩
  · obtain ⟨r, h1, h2⟩ := may_loop l (by omega) l.length 0 (by omega) (by omega) ⟨fun j _ h => by omega, fun j _ h => by omega⟩
    exact ⟨r, Ev.neg h h1, fun e => ⟨by omega, good_rise (h2 e)⟩⟩
theorem behind_loop (l : List S28) (a : Int) (h40 : l.length ≤ 40) (d : Nat) : ∀ m acc, l.length - m = d → m ≤ l.length → acc.length ≤ m → Ev (fun k => weighlocklaw20_behind.l0 k a acc l (l.length : Int) (m : Int)) (acc ++ (l.drop m).filter fun x => decide (a ≤ x.f0)) := by
  induction d with
  | zero =>
    intro m acc hd hm hacc
    obtain rfl : m = l.length := by omega
    refine Ev.step (fun k => weighlocklaw20_behind.l0.eq_2 ..) ?_
    rw [List.drop_of_length_le (Nat.le_refl _), List.filter_nil, List.append_nil]
    exact Ev.neg (by omega) (Ev.now acc)
  | succ d ih =>
    intro m acc hd hm hacc
    have hlt : m < l.length := by omega
    refine Ev.step (fun k => weighlocklaw20_behind.l0.eq_2 ..) ?_
    refine Ev.pos (by omega) (Ev.pos (by omega) (Ev.pos (by omega) ?_))
    rw [rd_get l m hlt, wrap_id (by omega) (by omega), List.drop_eq_getElem_cons hlt, List.filter_cons]
    by_cases h : l[m].f0 ≥ a
    · rw [if_pos (by simpa using h)]
      refine Ev.pos h (Ev.pos (by omega) ?_)
      have := ih (m + 1) (acc ++ [l[m]]) (by omega) (by omega) (by simp; omega)
      rw [List.append_assoc, List.singleton_append] at this
      exact this
    · rw [if_neg (by simpa using h)]
      exact Ev.neg h (ih (m + 1) acc (by omega) (by omega) (by omega))
theorem behind_ev (l : List S28) (a : Int) (h40 : l.length ≤ 40) : Ev (fun k => weighlocklaw20_behind.f k l a) (l.filter fun x => decide (a ≤ x.f0)) := by
  have := behind_loop l a h40 l.length 0 [] (by omega) (by omega) (by simp)
  rw [List.nil_append, List.drop_zero] at this
  exact this
/- The laws of the start. -/
theorem start_ge {now age size next m : Int} {l : List S28} (hl : ∀ x ∈ l, m ≤ x.f0) (hn : m ≤ next) : m ≤ start now age size next l := by
  unfold start
  induction l with
  | nil => exact hn
  | cons x l ih =>
    have ih := ih (fun y hy => hl y (List.mem_cons_of_mem _ hy))
    have hx := hl x List.mem_cons_self
    rw [go_cons]
    unfold stp
    split
    · exact ih
    · split
      · exact ih
      · split
        · exact ih
        · exact hx
def headOf (next : Int) : List S28 → Int
  | [] => next
  | x :: _ => x.f0
theorem start_all {now next : Int} : ∀ (l : List S28), (go now 0 0 l (0, next, false)).2.2 = false ∧ start now 0 0 next l = headOf next l
  | [] => ⟨rfl, rfl⟩
  | x :: l => by
    have ih := (start_all (now := now) (next := next) l).1
    unfold start
    rw [go_cons]
    unfold stp
    rw [if_neg (by rw [ih]; decide), if_neg (by omega), if_neg (by omega)]
    exact ⟨rfl, rfl⟩
theorem go_same (n1 n2 age size next : Int) : ∀ (l : List S28), (go n1 age size l (0, next, false)).1 = (go n2 age size l (0, next, false)).1 ∧ (go n1 age size l (0, next, false)).2.2 = (go n2 age size l (0, next, false)).2.2
  | [] => ⟨rfl, rfl⟩
  | x :: l => by
    obtain ⟨h1, h2⟩ := go_same n1 n2 age size next l
    rw [go_cons, go_cons]
    unfold stp
    rw [h1, h2]
    by_cases c1 : (go n2 age size l (0, next, false)).2.2 = true
    · rw [if_pos c1, if_pos c1]; exact ⟨h1, h2⟩
    · rw [if_neg c1, if_neg c1]
      by_cases c2 : 0 < size ∧ size < (go n2 age size l (0, next, false)).1 + szR x
      · rw [if_pos c2, if_pos c2]; exact ⟨rfl, rfl⟩
      · rw [if_neg c2, if_neg c2]
        constructor <;> (split <;> split <;> rfl)
theorem start_mono {n1 n2 age size next : Int} (hn : n1 ≤ n2) {l : List S28} (hr : rise l) (hx : ∀ x ∈ l, x.f0 ≤ next) : start n1 age size next l ≤ start n2 age size next l := by
  unfold start
  induction l with
  | nil => exact Int.le_refl _
  | cons x l ih =>
    unfold rise at hr
    rw [List.pairwise_cons] at hr
    have ih := ih hr.2 (fun y hy => hx y (List.mem_cons_of_mem _ hy))
    obtain ⟨g1, g2⟩ := go_same n1 n2 age size next l
    have hge : x.f0 ≤ start n2 age size next l := start_ge (fun y hy => Int.le_of_lt (hr.1 y hy)) (hx x List.mem_cons_self)
    unfold start at hge
    rw [go_cons, go_cons]
    unfold stp
    rw [g1, g2]
    by_cases c1 : (go n2 age size l (0, next, false)).2.2 = true
    · rw [if_pos c1, if_pos c1]; exact ih
    · rw [if_neg c1, if_neg c1]
      by_cases c2 : 0 < size ∧ size < (go n2 age size l (0, next, false)).1 + szR x
      · rw [if_pos c2, if_pos c2]; exact ih
      · rw [if_neg c2, if_neg c2]
        by_cases c3 : 0 < age ∧ age < n1 - x.f1
        · rw [if_pos c3, if_pos (by omega)]; exact ih
        · rw [if_neg c3]
          by_cases c4 : 0 < age ∧ age < n2 - x.f1
          · rw [if_pos c4]; exact hge
          · rw [if_neg c4]; exact Int.le_refl _
theorem start_again {now age size next : Int} {l : List S28} (hr : rise l) (hx : ∀ x ∈ l, x.f0 < next) :
    start now age size next (l.filter fun x => decide (start now age size next l ≤ x.f0)) = start now age size next l := by
  induction l with
  | nil => rfl
  | cons x l ih =>
    unfold rise at hr
    rw [List.pairwise_cons] at hr
    have ih := ih hr.2 (fun y hy => hx y (List.mem_cons_of_mem _ hy))
    have hgt : x.f0 + 1 ≤ start now age size next l := start_ge (fun y hy => hr.1 y hy) (hx x List.mem_cons_self)
    have same : start now age size next (x :: l) = start now age size next l → start now age size next ((x :: l).filter fun y => decide (start now age size next (x :: l) ≤ y.f0)) = start now age size next (x :: l) := by
      intro e
      rw [e, List.filter_cons, if_neg (by simp; omega)]
      exact ih
    by_cases c1 : (go now age size l (0, next, false)).2.2 = true
    · apply same
      unfold start
      rw [go_cons]; unfold stp; rw [if_pos c1]
    · by_cases c2 : 0 < size ∧ size < (go now age size l (0, next, false)).1 + szR x
      · apply same
        unfold start
        rw [go_cons]; unfold stp; rw [if_neg c1, if_pos c2]
      · by_cases c3 : 0 < age ∧ age < now - x.f1
        · apply same
          unfold start
          rw [go_cons]; unfold stp; rw [if_neg c1, if_neg c2, if_pos c3]
        · have e : start now age size next (x :: l) = x.f0 := by
            unfold start
            rw [go_cons]; unfold stp; rw [if_neg c1, if_neg c2, if_neg c3]
          rw [e]
          have hall : (x :: l).filter (fun y => decide (x.f0 ≤ y.f0)) = x :: l := by
            rw [List.filter_eq_self]
            intro y hy
            rcases List.mem_cons.1 hy with rfl | hy
            · simp
            · have := hr.1 y hy; simp; omega
          rw [hall, e]
def ra : S28 := ⟨4, 1, ⟨#[]⟩, ⟨#[]⟩, false, 0, 0, 0⟩
def rb : S28 := ⟨5, 5, ⟨#[]⟩, ⟨#[]⟩, false, 0, 0, 0⟩
def rc : S28 := ⟨6, 3, ⟨#[]⟩, ⟨#[]⟩, false, 0, 0, 0⟩
theorem sz_abc : szR ra = 8 ∧ szR rb = 8 ∧ szR rc = 8 := by
  refine ⟨?_, ?_, ?_⟩ <;>
  · unfold szR
    rw [if_pos (by decide)]
    simp [ra, rb, rc, Own.recL, Own.textL, Own.chainL_lt, show (⟨#[]⟩ : ByteArray).size = 0 from rfl]
theorem three_ev : Ev (fun k => weighlocklaw20_three.f k) true := by
  obtain ⟨sa, sb, sc⟩ := sz_abc
  have st := fun (now age size : Int) => start_ev [ra, rb, rc] 7 now age size (by intro x hx; simp at hx; rcases hx with rfl | rfl | rfl <;> decide) (by simp)
  unfold weighlocklaw20_three.f
  refine Ev.bind (Ev.cst rfl) ?_
  refine Ev.bind (st 10 6 0) (Ev.pos ?_ ?_)
  · simp [start, go, stp, sa, sb, sc, cl, mn, mx, show ra.f0 = 4 from rfl, show rb.f0 = 5 from rfl, show rc.f0 = 6 from rfl, show ra.f1 = 1 from rfl, show rb.f1 = 5 from rfl, show rc.f1 = 3 from rfl]
  refine Ev.bind (st 10 0 8) (Ev.pos ?_ ?_)
  · simp [start, go, stp, sa, sb, sc, cl, mn, mx, show ra.f0 = 4 from rfl, show rb.f0 = 5 from rfl, show rc.f0 = 6 from rfl, show ra.f1 = 1 from rfl, show rb.f1 = 5 from rfl, show rc.f1 = 3 from rfl]
  refine Ev.bind (st 10 0 7) (Ev.pos ?_ ?_)
  · simp [start, go, stp, sa, sb, sc, cl, mn, mx, show ra.f0 = 4 from rfl, show rb.f0 = 5 from rfl, show rc.f0 = 6 from rfl, show ra.f1 = 1 from rfl, show rb.f1 = 5 from rfl, show rc.f1 = 3 from rfl]
  refine Ev.bind (st 10 0 0) (Ev.pos ?_ ?_)
  · simp [start, go, stp, sa, sb, sc, cl, mn, mx, show ra.f0 = 4 from rfl, show rb.f0 = 5 from rfl, show rc.f0 = 6 from rfl, show ra.f1 = 1 from rfl, show rb.f1 = 5 from rfl, show rc.f1 = 3 from rfl]
  refine Ev.bind (Ev.cst (show retain_Right.f 6 0 = some true by decide)) (Ev.pos rfl ?_)
  exact Ev.bind (Ev.cst (show retain_Right.f (-1) 0 = some false by decide)) (Ev.now _)
theorem stays_ev (l : List S28) (now age size later : Int) : Ev (fun k => weighlocklaw20_RetainStays.f k l now age size later) true := by
  obtain ⟨r, h1, h2⟩ := may_ev l
  have h3 : Ev (fun k => weighlocklaw20_RetainStays.j0 k l later true now age size) true := by
    refine Ev.step (fun k => weighlocklaw20_RetainStays.j0.eq_2 ..) ?_
    exact Ev.pos rfl (Ev.bind three_ev (Ev.now _))
  unfold weighlocklaw20_RetainStays.f
  refine Ev.bind h1 ?_
  by_cases hr : r = true
  · refine Ev.pos hr ?_
    obtain ⟨h40, hrise, hmay⟩ := h2 hr
    by_cases hl : later < now
    · rw [decide_eq_true hl]; exact h3
    · rw [decide_eq_false hl]
      have hb : ∀ x ∈ l, (0 ≤ x.f0 ∧ x.f0 ≤ 1048576) ∧ (0 ≤ x.f1 ∧ x.f1 ≤ 1099511627776) := fun x hx => by
        have := (mayB_iff x).1 (hmay x hx); exact ⟨this.1, this.2.1⟩
      have hb1 : ∀ x ∈ l, 0 ≤ x.f1 ∧ x.f1 ≤ 1099511627776 := fun x hx => (hb x hx).2
      have key : ∀ first, headOf 2097152 l = first → Ev (fun k => weighlocklaw20_RetainStays.j1 k l later 2097152 first now age size) true := by
        intro first hf
        refine Ev.step (fun k => weighlocklaw20_RetainStays.j1.eq_2 ..) ?_
        refine Ev.bind (start_ev l 2097152 now age size hb1 (by omega)) ?_
        refine Ev.bind (behind_ev l _ h40) ?_
        refine Ev.bind (start_ev _ 2097152 now age size (fun x hx => hb1 x ((List.mem_filter.1 hx).1)) (by have := List.length_filter_le (fun x : S28 => decide (start (cl now) (cl age) (cl size) 2097152 l ≤ x.f0)) l; omega)) ?_
        refine Ev.bind (start_ev l 2097152 later age size hb1 (by omega)) ?_
        refine Ev.bind (start_ev l 2097152 now 0 0 hb1 (by omega)) ?_
        have e0 : cl 0 = 0 := by decide
        refine Ev.pos (by rw [e0, (start_all l).2]; exact hf) (Ev.pos ?_ (Ev.pos ?_ (Ev.pos ?_ (Ev.bind three_ev (Ev.now _)))))
        · rw [← hf]
          apply start_ge
          · cases l with
            | nil => intro x hx; cases hx
            | cons y l =>
              intro x hx
              unfold rise at hrise
              rw [List.pairwise_cons] at hrise
              rcases List.mem_cons.1 hx with rfl | hx
              · exact Int.le_refl _
              · exact Int.le_of_lt (hrise.1 x hx)
          · cases l with
            | nil => exact Int.le_refl _
            | cons y l => have := (hb y List.mem_cons_self).1; show y.f0 ≤ 2097152; omega
        · exact start_again hrise (fun x hx => by have := (hb x hx).1; omega)
        · exact start_mono (cl_mono (by omega)) hrise (fun x hx => by have := (hb x hx).1; omega)
      refine Ev.step (fun k => weighlocklaw20_RetainStays.j0.eq_2 ..) ?_
      refine Ev.neg (by decide) ?_
      cases l with
      | nil => exact Ev.neg (by simp) (key _ rfl)
      | cons y l => exact Ev.pos (by simp) (Ev.pos (by simp) (key _ rfl))
  · exact Ev.neg hr h3
end Go.Proofs.Ytdaciiiiboljiaa.Pu
