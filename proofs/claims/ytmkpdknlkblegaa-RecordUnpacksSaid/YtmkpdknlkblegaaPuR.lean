/- The record with which bytes begin: decode of encode, and encode of decode. -/
import Derived.Test.YtmkpdknlkblegaaRecA
import Derived.Test.YtmkpdknlkblegaaBase
namespace Go.Proofs.Ytmkpdknlkblegaa.Rd
open Go.RowKit Go.Proofs.YtmkpdknlkblegaaW.PrintWords Go.Proofs.Ytmkpdknlkblegaa.PB
set_option linter.unusedSimpArgs false
set_option linter.unusedVariables false
def bl (s : ByteArray) : List UInt8 := s.data.toList
theorem bl_size (s : ByteArray) : s.size = (bl s).length := by rw [bl, Array.length_toList]; rfl
theorem bl_inj {a b : ByteArray} (h : bl a = bl b) : a = b := by
  rw [← Own.sB_of a, ← Own.sB_of b]
  show Own.sB (bl a) = Own.sB (bl b)
  rw [h]
theorem bl_extract (s : ByteArray) (i j : Nat) : bl (s.extract i j) = ((bl s).drop i).take (j - i) := by
  unfold bl
  rw [ByteArray.data_extract, Array.toList_extract, List.extract_eq_take_drop]
theorem num_of {s : ByteArray} {pre r : List UInt8} {v : Nat} (h : bl s = pre ++ (Own.chainL v ++ r)) (hv : v ≤ 1099511627776) : num s pre.length = some (v, pre.length + (Own.chainL v).length) := by
  unfold num
  rw [show s.data.toList = _ from h, List.drop_left, Own.unchain_fwd v r (by omega)]
  simp [hv]
theorem num_to {s : ByteArray} {pre r : List UInt8} {v b : Nat} (h : bl s = pre ++ r) (hn : num s pre.length = some (v, b)) : ∃ r', bl s = (pre ++ Own.chainL v) ++ r' ∧ b = (pre ++ Own.chainL v).length ∧ v ≤ 1099511627776 := by
  obtain ⟨n, h1, h2, h3⟩ := num_some hn
  rw [show s.data.toList = _ from h, List.drop_left] at h1
  obtain ⟨r', e, e2, _⟩ := Own.unchain_bwd h1
  refine ⟨r', by rw [h, e, List.append_assoc], by rw [List.length_append, h2, e2], h3⟩
theorem txt_of {s : ByteArray} {pre r : List UInt8} {t : ByteArray} (h : bl s = pre ++ (Own.textL t ++ r)) (ht : t.size ≤ 1099511627776) : txt s pre.length = some (t, pre.length + (Own.textL t).length) := by
  have hl : (Own.textL t).length = (Own.chainL t.size).length + t.size := by unfold Own.textL; rw [List.length_append, bl_size t]; rfl
  have h' : bl s = pre ++ (Own.chainL t.size ++ (bl t ++ r)) := by rw [h, Own.textL, List.append_assoc]; rfl
  have hs : s.size = pre.length + ((Own.chainL t.size).length + (t.size + r.length)) := by rw [bl_size s, h', List.length_append, List.length_append, List.length_append, ← bl_size t]
  unfold txt
  rw [show s.data.toList = _ from h', List.drop_left, Own.unchain_fwd t.size _ (by omega)]
  simp only
  rw [if_pos ⟨by simp, ht, by omega⟩]
  refine congrArg some (Prod.ext ?_ ?_)
  · apply bl_inj
    rw [bl_extract, h', ← List.append_assoc, List.drop_left' (by rw [List.length_append]), Nat.add_sub_cancel_left, List.take_left' (by rw [← bl_size])]
  · simp only; omega
theorem txt_to {s : ByteArray} {pre r : List UInt8} {t : ByteArray} {b : Nat} (h : bl s = pre ++ r) (hn : txt s pre.length = some (t, b)) : ∃ r', bl s = (pre ++ Own.textL t) ++ r' ∧ b = (pre ++ Own.textL t).length := by
  unfold txt at hn
  rw [show s.data.toList = _ from h, List.drop_left] at hn
  generalize hu : Own.unchain r = u at hn
  obtain ⟨v, n, e⟩ := u
  simp only at hn
  split at hn
  · rename_i hc
    obtain ⟨rfl, hv, hs⟩ := hc
    obtain ⟨r', e, e2, _⟩ := Own.unchain_bwd hu
    simp only [Option.some.injEq, Prod.mk.injEq] at hn
    obtain ⟨ht, hb⟩ := hn
    have hr : r'.length + (n + pre.length) = s.size := by rw [bl_size s, h, e, e2]; simp; omega
    have hbl : bl t = r'.take v := by rw [← ht, bl_extract, h, e, e2, ← List.append_assoc, List.drop_left' (by rw [List.length_append]), Nat.add_sub_cancel_left]
    have hsz : t.size = v := by rw [bl_size, hbl, List.length_take]; omega
    refine ⟨r'.drop v, ?_, ?_⟩
    · rw [h, e, Own.textL, hsz, show t.data.toList = _ from hbl, List.append_assoc, List.append_assoc, List.take_append_drop]
    · rw [← hb, Own.textL, hsz, List.length_append, List.length_append, ← e2, show t.data.toList.length = v from by rw [← hsz, bl_size]; rfl]; omega
  · cases hn
theorem nums_to {s : ByteArray} : ∀ {k : Nat} {l : List Nat} {a : Nat}, numsTo s k = some (l, a) → ∃ r, bl s = l.flatMap Own.chainL ++ r ∧ a = (l.flatMap Own.chainL).length ∧ l.length = k ∧ ∀ v ∈ l, v ≤ 1099511627776 := by
  intro k
  induction k with
  | zero =>
    intro l a h
    simp only [numsTo, Option.some.injEq, Prod.mk.injEq] at h
    obtain ⟨rfl, rfl⟩ := h
    exact ⟨bl s, rfl, rfl, rfl, fun v hv => by cases hv⟩
  | succ k ih =>
    intro l a h
    rw [numsTo] at h
    cases h1 : numsTo s k with
    | none => rw [h1] at h; cases h
    | some q =>
      obtain ⟨l1, a1⟩ := q
      rw [h1] at h
      simp only at h
      obtain ⟨r, e1, rfl, e3, e4⟩ := ih h1
      cases h2 : num s (l1.flatMap Own.chainL).length with
      | none => rw [h2] at h; cases h
      | some q =>
        obtain ⟨v, b⟩ := q
        rw [h2] at h
        simp only [Option.some.injEq, Prod.mk.injEq] at h
        obtain ⟨rfl, rfl⟩ := h
        obtain ⟨r', f1, f2, f3⟩ := num_to e1 h2
        refine ⟨r', by rw [f1]; simp, by rw [f2]; simp, by simp [e3], ?_⟩
        intro x hx
        rcases List.mem_append.1 hx with hx | hx
        · exact e4 x hx
        · rw [List.mem_singleton.1 hx]; exact f3
theorem nums_of {s : ByteArray} {L : List Nat} {r : List UInt8} (h : bl s = L.flatMap Own.chainL ++ r) (hL : ∀ v ∈ L, v ≤ 1099511627776) : ∀ k, k ≤ L.length → numsTo s k = some (L.take k, ((L.take k).flatMap Own.chainL).length) := by
  intro k
  induction k with
  | zero => intro _; rfl
  | succ k ih =>
    intro hk
    rw [numsTo, ih (by omega)]
    simp only
    have e0 : L = L.take k ++ (L[k] :: L.drop (k + 1)) := by rw [List.getElem_cons_drop, List.take_append_drop]
    have e : bl s = (L.take k).flatMap Own.chainL ++ (Own.chainL L[k] ++ ((L.drop (k + 1)).flatMap Own.chainL ++ r)) := by
      have := congrArg (fun l => l.flatMap Own.chainL ++ r) e0
      simp only [List.flatMap_append, List.flatMap_cons, List.append_assoc] at this
      rw [h, this]
    rw [num_of e (hL _ (List.getElem_mem _))]
    simp only [Option.some.injEq, Prod.mk.injEq]
    rw [List.take_succ_eq_append_getElem (show k < L.length by omega), List.flatMap_append, List.length_append]
    simp only [List.flatMap_cons, List.flatMap_nil, List.append_nil]
    exact ⟨trivial, trivial⟩
/-- A record as bytes. -/
def recB (x : S23) : List UInt8 := Own.recL x.f0.toNat x.f1.toNat x.f5.toNat x.f6.toNat x.f7.toNat x.f4 x.f2 x.f3
theorem recL_flat (a b c d e : Nat) (g : Bool) (k v : ByteArray) : Own.recL a b c d e g k v = [a, b, c, d, e, if g then 1 else 0].flatMap Own.chainL ++ (Own.textL k ++ Own.textL v) := by
  unfold Own.recL
  simp only [List.flatMap_cons, List.flatMap_nil, List.append_nil, List.append_assoc]
theorem decR_of {s : ByteArray} {x : S23} {r : List UInt8} (h : bl s = recB x ++ r) (hm : PuB.mayB x = true) : decR s = some (x, (recB x).length) := by
  have hm0 := hm
  rw [PuB.mayB_iff] at hm
  obtain ⟨⟨a, b⟩, ⟨c, d⟩, ⟨e, f⟩, ⟨g, i⟩, ⟨j, l⟩, m⟩ := hm
  rw [PuB.restB_iff] at m
  rw [recB, recL_flat] at h ⊢
  obtain ⟨x0, x1, x2, x3, x4, x5, x6, x7⟩ := x
  simp only at *
  obtain ⟨n0, rfl⟩ := Int.eq_ofNat_of_zero_le a
  obtain ⟨n1, rfl⟩ := Int.eq_ofNat_of_zero_le c
  obtain ⟨n5, rfl⟩ := Int.eq_ofNat_of_zero_le e
  obtain ⟨n6, rfl⟩ := Int.eq_ofNat_of_zero_le g
  obtain ⟨n7, rfl⟩ := Int.eq_ofNat_of_zero_le j
  simp only [Int.toNat_natCast] at *
  generalize hL : [n0, n1, n5, n6, n7, if x4 then 1 else 0] = L at *
  have h6 : L.length = 6 := by rw [← hL]; rfl
  have hb : ∀ v ∈ L, v ≤ 1099511627776 := by
    intro v hv
    rw [← hL] at hv
    simp only [List.mem_cons, List.not_mem_nil, or_false] at hv
    rcases hv with rfl | rfl | rfl | rfl | rfl | rfl
    · omega
    · omega
    · omega
    · omega
    · omega
    · split <;> omega
  have hn := nums_of (s := s) (L := L) (r := Own.textL x2 ++ Own.textL x3 ++ r) (by rw [h]; simp only [List.append_assoc]) hb 6 (by omega)
  rw [List.take_of_length_le (by omega)] at hn
  have h1 : bl s = L.flatMap Own.chainL ++ (Own.textL x2 ++ (Own.textL x3 ++ r)) := by rw [h]; simp only [List.append_assoc]
  have t1 := txt_of h1 (by omega)
  have h2 : bl s = (L.flatMap Own.chainL ++ Own.textL x2) ++ (Own.textL x3 ++ r) := by rw [h]; simp only [List.append_assoc]
  have t2 := txt_of h2 (by omega)
  rw [List.length_append] at t2
  rw [decR_end hn t1 t2]
  have hk : mkR L x2 x3 = ⟨(n0 : Int), (n1 : Int), x2, x3, x4, (n5 : Int), (n6 : Int), (n7 : Int)⟩ := by
    rw [← hL]; unfold mkR; cases x4 <;> simp
  rw [hk, if_pos ⟨by rw [← hL]; cases x4 <;> simp, hm0⟩]
  simp only [List.length_append, Nat.add_assoc]
theorem decR_to {s : ByteArray} {x : S23} {c : Nat} (h : decR s = some (x, c)) : PuB.mayB x = true ∧ ∃ r, bl s = recB x ++ r ∧ c = (recB x).length := by
  cases hn : numsTo s 6 with
  | none => unfold decR at h; rw [hn] at h; cases h
  | some q =>
    obtain ⟨L, a⟩ := q
    obtain ⟨r, e1, rfl, e3, e4⟩ := nums_to hn
    cases h1 : txt s (L.flatMap Own.chainL).length with
    | none => rw [decR_txt1 hn h1] at h; cases h
    | some q =>
      obtain ⟨key, b⟩ := q
      obtain ⟨r1, f1, rfl⟩ := txt_to e1 h1
      cases h2 : txt s (L.flatMap Own.chainL ++ Own.textL key).length with
      | none => rw [decR_txt2 hn h1 h2] at h; cases h
      | some q =>
        obtain ⟨val, d⟩ := q
        obtain ⟨r2, g1, rfl⟩ := txt_to f1 h2
        rw [decR_end hn h1 h2] at h
        split at h
        · rename_i hc
          simp only [Option.some.injEq, Prod.mk.injEq] at h
          obtain ⟨rfl, rfl⟩ := h
          obtain ⟨a0, a1, a2, a3, a4, a5, rfl⟩ := list6 e3
          have e : recB (mkR [a0, a1, a2, a3, a4, a5] key val) = [a0, a1, a2, a3, a4, a5].flatMap Own.chainL ++ Own.textL key ++ Own.textL val := by
            have h5 : a5 ≤ 1 := by simpa using hc.1
            have : (if decide (a5 = 1) = true then 1 else 0) = a5 := by by_cases h : a5 = 1 <;> simp [h]; omega
            unfold recB mkR
            simp only [List.getD_cons_zero, List.getD_cons_succ, Int.toNat_natCast]
            rw [recL_flat, this]
            simp only [List.append_assoc]
          exact ⟨hc.2, r2, by rw [g1, e], by rw [e]⟩
        · cases h
end Go.Proofs.Ytmkpdknlkblegaa.Rd
