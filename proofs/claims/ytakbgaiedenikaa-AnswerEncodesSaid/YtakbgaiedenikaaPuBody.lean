/- What the document says of an answer: may it be, is it large, and its bytes. -/
import Derived.Test.YtakbgaiedenikaaMay
import Derived.Test.YtakbgaiedenikaaPMayRefB
import Derived.Test.YtakbgaiedenikaaPBx5
import Derived.Test.YtakbgaiedenikaaPBx8
import Derived.Test.YtakbgaiedenikaaPuEnc
import Derived.Test.YtakbgaiedenikaaDecB
namespace Go.Proofs.Ytakbgaiedenikaa.PuB
open Go.RowKit Go.Proofs.YtakbgaiedenikaaW.PrintWords Go.Proofs.Ytakbgaiedenikaa.Pu Go.Proofs.Ytakbgaiedenikaa.PB
set_option linter.unusedSimpArgs false
set_option linter.unusedVariables false
theorem ransUp_eq (a b : Int) : weighlockref35_upTo.f a b = some (upB a b) := by
  unfold weighlockref35_upTo.f upB
  by_cases h : 0 ≤ a
  · rw [if_pos h]; simp [h]
  · rw [if_neg (by omega)]; simp [h]
theorem rans_l2 (id kd cd a b : Int) (rs : List S54) (ns : List ByteArray) (ks : List Int) (hl : ks.length ≤ 1000000) : ∀ d j, j + d = ks.length → Ev (fun k => weighlockref35_May.l2 k ks (ks.length : Int) (j : Int) id kd cd a b rs ns ks) ((ks.drop j).all (fun z => upB z 1099511627776) && endB id kd cd a b) := by
  intro d
  induction d with
  | zero =>
    intro j hj
    refine Ev.step (fun k => weighlockref35_May.l2.eq_2 ..) (Ev.neg (by omega) ?_)
    rw [List.drop_of_length_le (by omega)]
    simp only [ransUp_eq, Option.bind_some, List.all_nil, Bool.true_and]
    unfold endB
    generalize upB id 65535 = b1
    generalize upB kd 255 = b2
    generalize upB cd 255 = b3
    generalize upB a 1099511627776 = b4
    generalize upB b 1099511627776 = b5
    cases b1 <;> cases b2 <;> cases b3 <;> cases b4 <;> exact Ev.now _
  | succ d ih =>
    intro j hj
    have hlt : j < ks.length := by omega
    refine Ev.step (fun k => weighlockref35_May.l2.eq_2 ..) (Ev.pos (by omega) (Ev.pos (by omega) (Ev.pos (by omega) ?_)))
    simp only [ransUp_eq, Option.bind_some]
    rw [rdI ks j hlt, List.drop_eq_getElem_cons hlt, List.all_cons]
    cases hu : upB ks[j] 1099511627776 with
    | false => exact Ev.neg (by decide) (Ev.get (Ev.now _) (by simp))
    | true =>
      refine Ev.pos rfl ?_
      rw [wrap_succ (by omega), Bool.true_and]
      exact ih (j + 1) (by omega)
theorem rans_l1 (id kd cd a b : Int) (rs : List S54) (ns : List ByteArray) (ks : List Int) (hn : ns.length ≤ 1000000) (hl : ks.length ≤ 1000000) : ∀ d j, j + d = ns.length → Ev (fun k => weighlockref35_May.l1 k ns (ns.length : Int) (j : Int) id kd cd a b rs ns ks) ((ns.drop j).all (fun n => decide (n.size ≤ 64)) && (ks.all (fun z => upB z 1099511627776) && endB id kd cd a b)) := by
  intro d
  induction d with
  | zero =>
    intro j hj
    refine Ev.step (fun k => weighlockref35_May.l1.eq_2 ..) (Ev.neg (by omega) ?_)
    rw [List.drop_of_length_le (by omega)]
    simp only [List.all_nil, Bool.true_and]
    exact rans_l2 id kd cd a b rs ns ks hl ks.length 0 (by omega)
  | succ d ih =>
    intro j hj
    have hlt : j < ns.length := by omega
    refine Ev.step (fun k => weighlockref35_May.l1.eq_2 ..) (Ev.pos (by omega) (Ev.pos (by omega) (Ev.pos (by omega) ?_)))
    rw [rdS ns j hlt, List.drop_eq_getElem_cons hlt, List.all_cons]
    by_cases hu : ns[j].size ≤ 64
    · refine Ev.neg (by omega) ?_
      rw [wrap_succ (by omega), decide_eq_true hu, Bool.true_and]
      exact ih (j + 1) (by omega)
    · exact Ev.pos (by omega) (Ev.get (Ev.now _) (by rw [decide_eq_false hu]; simp))
theorem rans_l0 (id kd cd a b : Int) (rs : List S54) (ns : List ByteArray) (ks : List Int) (hr : rs.length ≤ 1000000) (hn : ns.length ≤ 1000000) (hl : ks.length ≤ 1000000) : ∀ d j, j + d = rs.length → Ev (fun k => weighlockref35_May.l0 k rs (rs.length : Int) (j : Int) id kd cd a b rs ns ks) ((rs.drop j).all mayB && (ns.all (fun n => decide (n.size ≤ 64)) && (ks.all (fun z => upB z 1099511627776) && endB id kd cd a b))) := by
  intro d
  induction d with
  | zero =>
    intro j hj
    refine Ev.step (fun k => weighlockref35_May.l0.eq_2 ..) (Ev.neg (by omega) ?_)
    rw [List.drop_of_length_le (by omega)]
    simp only [List.all_nil, Bool.true_and]
    exact rans_l1 id kd cd a b rs ns ks hn hl ns.length 0 (by omega)
  | succ d ih =>
    intro j hj
    have hlt : j < rs.length := by omega
    refine Ev.step (fun k => weighlockref35_May.l0.eq_2 ..) (Ev.pos (by omega) (Ev.pos (by omega) (Ev.pos (by omega) ?_)))
    rw [rd54 rs j hlt, List.drop_eq_getElem_cons hlt, List.all_cons]
    refine Ev.bind (refMay_ev _) ?_
    cases hu : mayB rs[j] with
    | false => exact Ev.neg (by decide) (Ev.get (Ev.now _) (by simp))
    | true =>
      refine Ev.pos rfl ?_
      rw [wrap_succ (by omega), Bool.true_and]
      exact ih (j + 1) (by omega)
theorem ransMay_ev (id kd cd a b : Int) (rs : List S54) (ns : List ByteArray) (ks : List Int) (hr : rs.length ≤ 1000000) (hn : ns.length ≤ 1000000) (hl : ks.length ≤ 1000000) : Ev (fun k => weighlockref35_May.f k id kd cd a b rs ns ks) (ansB id kd cd a b rs ns ks) :=
  rans_l0 id kd cd a b rs ns ks hr hn hl rs.length 0 (by omega)

/-- Is an answer more than is gone through? -/
def largeR (x : S54) : Bool := decide (300 < x.f2.size) || decide (300 < x.f3.size)
def largeE (rs : List S54) (ns : List ByteArray) (ks : List Int) : Bool := decide (60 < rs.length) || (decide (60 < ns.length) || decide (300 < ks.length))
def largeB (rs : List S54) (ns : List ByteArray) (ks : List Int) : Bool := rs.any largeR || (ns.any (fun n => decide (300 < n.size)) || largeE rs ns ks)
/-- A body, by the document. -/
theorem rchain_ev (v : Nat) (h : v ≤ 1099511627776) : Ev (fun k => weighlockref35_chain.f k (v : Int)) (Own.sB (Own.chainL v)) := by
  unfold weighlockref35_chain.f
  rw [IntWalk.u64_in (v : Int) (by omega)]
  exact Ev.bind (refChain_ev v (by omega)) (Ev.now _)
theorem sB_room {m l : List UInt8} (hm : m.length ≤ 1000000) (hl : l.length ≤ 1000000) : (Own.sB m).size + (Own.sB l).size ≤ 9223372036854775807 := by rw [Own.sB_size, Own.sB_size]; omega
theorem body_l2 (ks : List Int) (hk : ∀ x ∈ ks, 0 ≤ x ∧ x ≤ 1099511627776) (hl : ks.length ≤ 600) : ∀ (d j : Nat) (m : List UInt8), j + d = ks.length → m.length + 10 * d ≤ 900000 → Ev (fun k => weighlockref35_Body.l2 k (Own.sB m) ks (ks.length : Int) (j : Int)) (Own.sB (m ++ (ks.drop j).flatMap Rd.kL)) := by
  intro d
  induction d with
  | zero =>
    intro j m hj hm
    refine Ev.step (fun k => weighlockref35_Body.l2.eq_2 ..) (Ev.neg (by omega) (Ev.get (Ev.now _) ?_))
    rw [List.drop_of_length_le (by omega)]; simp
  | succ d ih =>
    intro j m hj hm
    have hlt : j < ks.length := by omega
    have hx := hk _ (List.getElem_mem hlt)
    refine Ev.step (fun k => weighlockref35_Body.l2.eq_2 ..) (Ev.pos (by omega) (Ev.pos (by omega) (Ev.pos (by omega) ?_)))
    rw [rdI ks j hlt, List.drop_eq_getElem_cons hlt, List.flatMap_cons]
    generalize ks[j] = x at *
    obtain ⟨v, rfl⟩ : ∃ v : Nat, x = v := ⟨x.toNat, by omega⟩
    refine Ev.bind (rchain_ev v (by omega)) ?_
    have h10 := Own.chainL_len10 (v := v) (by omega)
    refine Ev.pos (sB_room (by omega) (by omega)) ?_
    rw [Own.sB_append, wrap_succ (by omega)]
    have e : Rd.kL ((v : Nat) : Int) = Own.chainL v := by simp [Rd.kL]
    rw [e, ← List.append_assoc]
    exact ih (j + 1) _ (by omega) (by rw [List.length_append]; omega)
theorem body_l1 (id kd cd a b : Int) (rs : List S54) (ns : List ByteArray) (ks : List Int) (hs : ∀ x ∈ ns, x.size ≤ 300) (hk : ∀ x ∈ ks, 0 ≤ x ∧ x ≤ 1099511627776) (hn : ns.length ≤ 600) (hl : ks.length ≤ 600) : ∀ (d j : Nat) (m : List UInt8), j + d = ns.length → m.length + 310 * d ≤ 800000 → Ev (fun k => weighlockref35_Body.l1 k (Own.sB m) ns (ns.length : Int) (j : Int) id kd cd a b rs ns ks) (Own.sB (m ++ ((ns.drop j).flatMap Own.textL ++ (Own.chainL ks.length ++ ks.flatMap Rd.kL)))) := by
  intro d
  induction d with
  | zero =>
    intro j m hj hm
    refine Ev.step (fun k => weighlockref35_Body.l1.eq_2 ..) (Ev.neg (by omega) ?_)
    rw [List.drop_of_length_le (by omega), List.flatMap_nil, List.nil_append]
    refine Ev.bind (rchain_ev ks.length (by omega)) ?_
    have h10 := Own.chainL_len10 (v := ks.length) (by omega)
    refine Ev.pos (sB_room (by omega) (by omega)) ?_
    rw [Own.sB_append, ← List.append_assoc]
    have := body_l2 ks hk hl ks.length 0 (m ++ Own.chainL ks.length) (by omega) (by rw [List.length_append]; omega)
    rw [List.drop_zero] at this
    exact this
  | succ d ih =>
    intro j m hj hm
    have hlt : j < ns.length := by omega
    have hx := hs _ (List.getElem_mem hlt)
    refine Ev.step (fun k => weighlockref35_Body.l1.eq_2 ..) (Ev.pos (by omega) (Ev.pos (by omega) (Ev.pos (by omega) ?_)))
    rw [rdS ns j hlt, List.drop_eq_getElem_cons hlt, List.flatMap_cons]
    refine Ev.bind (refText_ev ns[j] (by omega)) ?_
    have ht : (Own.textL ns[j]).length ≤ 310 := by have := Own.textL_length ns[j] (by omega); omega
    refine Ev.pos (sB_room (by omega) (by omega)) ?_
    rw [Own.sB_append, wrap_succ (by omega), List.append_assoc (Own.textL ns[j]), ← List.append_assoc m]
    exact ih (j + 1) _ (by omega) (by rw [List.length_append]; omega)
theorem body_l0 (id kd cd a b : Int) (rs : List S54) (ns : List ByteArray) (ks : List Int) (hm : ∀ x ∈ rs, mayB x = true) (hs : ∀ x ∈ ns, x.size ≤ 300) (hk : ∀ x ∈ ks, 0 ≤ x ∧ x ≤ 1099511627776) (hr : rs.length ≤ 100) (hn : ns.length ≤ 600) (hl : ks.length ≤ 600) : ∀ (d j : Nat) (m : List UInt8), j + d = rs.length → m.length + 320 * d ≤ 400000 → Ev (fun k => weighlockref35_Body.l0 k (Own.sB m) rs (rs.length : Int) (j : Int) id kd cd a b rs ns ks) (Own.sB (m ++ ((rs.drop j).flatMap Own.recB ++ (Own.chainL ns.length ++ (ns.flatMap Own.textL ++ (Own.chainL ks.length ++ ks.flatMap Rd.kL)))))) := by
  intro d
  induction d with
  | zero =>
    intro j m hj hmm
    refine Ev.step (fun k => weighlockref35_Body.l0.eq_2 ..) (Ev.neg (by omega) ?_)
    rw [List.drop_of_length_le (by omega), List.flatMap_nil, List.nil_append]
    refine Ev.bind (rchain_ev ns.length (by omega)) ?_
    have h10 := Own.chainL_len10 (v := ns.length) (by omega)
    refine Ev.pos (sB_room (by omega) (by omega)) ?_
    rw [Own.sB_append, ← List.append_assoc]
    have := body_l1 id kd cd a b rs ns ks hs hk hn hl ns.length 0 (m ++ Own.chainL ns.length) (by omega) (by rw [List.length_append]; omega)
    rw [List.drop_zero] at this
    exact this
  | succ d ih =>
    intro j m hj hmm
    have hlt : j < rs.length := by omega
    have hx := hm _ (List.getElem_mem hlt)
    have hb := Own.recB_len _ hx
    refine Ev.step (fun k => weighlockref35_Body.l0.eq_2 ..) (Ev.pos (by omega) (Ev.pos (by omega) (Ev.pos (by omega) ?_)))
    rw [rd54 rs j hlt, List.drop_eq_getElem_cons hlt, List.flatMap_cons]
    refine Ev.bind (refEnc_ev _ _ _ _ _ _ _ _ hx) ?_
    refine Ev.pos (sB_room (by omega) (show (Own.recB rs[j]).length ≤ 1000000 by omega)) ?_
    rw [show Own.sB m ++ Own.sB (Own.recL rs[j].f0.toNat rs[j].f1.toNat rs[j].f5.toNat rs[j].f6.toNat rs[j].f7.toNat rs[j].f4 rs[j].f2 rs[j].f3) = Own.sB (m ++ Own.recB rs[j]) from Own.sB_append m (Own.recB rs[j]), wrap_succ (by omega), List.append_assoc (Own.recB rs[j]), ← List.append_assoc m]
    exact ih (j + 1) _ (by omega) (by rw [List.length_append]; omega)
theorem body_ev (id kd cd : Int) (a b : Nat) (rs : List S54) (ns : List ByteArray) (ks : List Int) (ha : a ≤ 1099511627776) (hb : b ≤ 1099511627776) (hm : ∀ x ∈ rs, mayB x = true) (hs : ∀ x ∈ ns, x.size ≤ 300) (hk : ∀ x ∈ ks, 0 ≤ x ∧ x ≤ 1099511627776) (hr : rs.length ≤ 100) (hn : ns.length ≤ 600) (hl : ks.length ≤ 600) : Ev (fun k => weighlockref35_Body.f k id kd cd (a : Int) (b : Int) rs ns ks) (Own.sB (Own.bodyL a b rs ns ks)) := by
  have h1 := Own.chainL_len10 (v := a) (by omega)
  have h2 := Own.chainL_len10 (v := b) (by omega)
  have h3 := Own.chainL_len10 (v := rs.length) (by omega)
  unfold weighlockref35_Body.f
  refine Ev.bind (rchain_ev a ha) (Ev.bind (rchain_ev b hb) (Ev.pos (sB_room (by omega) (by omega)) ?_))
  refine Ev.bind (rchain_ev rs.length (by omega)) ?_
  rw [Own.sB_append]
  refine Ev.pos (sB_room (by rw [List.length_append]; omega) (by omega)) ?_
  rw [Own.sB_append]
  have := body_l0 id kd cd a b rs ns ks hm hs hk hr hn hl rs.length 0 (Own.chainL a ++ Own.chainL b ++ Own.chainL rs.length) (by omega) (by simp only [List.length_append]; omega)
  refine Ev.get this ?_
  rw [List.drop_zero, Rd.bodyL_eq]
  simp only [List.append_assoc]
  rfl
end Go.Proofs.Ytakbgaiedenikaa.PuB
