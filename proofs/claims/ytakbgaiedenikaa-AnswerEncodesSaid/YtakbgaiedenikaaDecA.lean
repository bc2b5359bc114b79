/- Several texts of this claim in one. -/
import Derived.Test.YtakbgaiedenikaaRdr
import Derived.Test.YtakbgaiedenikaaBase
import Derived.Test.YtakbgaiedenikaaEncA
import Derived.Test.YtakbgaiedenikaaRdA
import Derived.Test.YtakbgaiedenikaaMay
/- The record with which bytes begin: decode of encode, and encode of decode. -/
namespace Go.Proofs.Ytakbgaiedenikaa.Rd
open Go.RowKit Go.Proofs.YtakbgaiedenikaaW.PrintWords Go.Proofs.Ytakbgaiedenikaa.PB
set_option linter.unusedSimpArgs false
set_option linter.unusedVariables false
def bl (s : ByteArray) : List UInt8 := s.data.toList
theorem bl_size (s : ByteArray) : s.size = (bl s).length := by rw [bl, Array.length_toList]; rfl
theorem bl_inj {a b : ByteArray} (h : bl a = bl b) : a = b := by
  rw [← Own.sB_of a, ← Own.sB_of b]
  show Own.sB (bl a) = Own.sB (bl b)
  rw [h]
theorem bl_extract (s : ByteArray) (i j : Nat) : bl (s.extract i j) = ((bl s).drop i).take (j - i) := by
  unfold bl
  rw [ByteArray.data_extract, Array.toList_extract, List.extract_eq_take_drop]
theorem num_of {s : ByteArray} {pre r : List UInt8} {v : Nat} (h : bl s = pre ++ (Own.chainL v ++ r)) (hv : v ≤ 1099511627776) : num s pre.length = some (v, pre.length + (Own.chainL v).length) := by
  unfold num
  rw [show s.data.toList = _ from h, List.drop_left, Own.unchain_fwd v r (by omega)]
  simp [hv]
theorem num_to {s : ByteArray} {pre r : List UInt8} {v b : Nat} (h : bl s = pre ++ r) (hn : num s pre.length = some (v, b)) : ∃ r', bl s = (pre ++ Own.chainL v) ++ r' ∧ b = (pre ++ Own.chainL v).length ∧ v ≤ 1099511627776 := by
  obtain ⟨n, h1, h2, h3⟩ := num_some hn
  rw [show s.data.toList = _ from h, List.drop_left] at h1
  obtain ⟨r', e, e2, _⟩ := Own.unchain_bwd h1
  refine ⟨r', by rw [h, e, List.append_assoc], by rw [List.length_append, h2, e2], h3⟩
theorem txt_of {s : ByteArray} {pre r : List UInt8} {t : ByteArray} (h : bl s = pre ++ (Own.textL t ++ r)) (ht : t.size ≤ 1099511627776) : txt s pre.length = some (t, pre.length + (Own.textL t).length) := by
  have hl : (Own.textL t).length = (Own.chainL t.size).length + t.size := by unfold Own.textL; rw [List.length_append, bl_size t]; rfl
  have h' : bl s = pre ++ (Own.chainL t.size ++ (bl t ++ r)) := by rw [h, Own.textL, List.append_assoc]; rfl
  have hs : s.size = pre.length + ((Own.chainL t.size).length + (t.size + r.length)) := by rw [bl_size s, h', List.length_append, List.length_append, List.length_append, ← bl_size t]
  unfold txt
  rw [show s.data.toList = _ from h', List.drop_left, Own.unchain_fwd t.size _ (by omega)]
  simp only
  rw [if_pos ⟨by simp, ht, by omega⟩]
  refine congrArg some (Prod.ext ?_ ?_)
  · apply bl_inj
    rw [bl_extract, h', ← List.append_assoc, List.drop_left' (by rw [List.length_append]), Nat.add_sub_cancel_left, List.take_left' (by rw [← bl_size])]
  · simp only; omega
theorem txt_to {s : ByteArray} {pre r : List UInt8} {t : ByteArray} {b : Nat} (h : bl s = pre ++ r) (hn : txt s pre.length = some (t, b)) : ∃ r', bl s = (pre ++ Own.textL t) ++ r' ∧ b = (pre ++ Own.textL t).length := by
  unfold txt at hn
  rw [show s.data.toList = _ from h, List.drop_left] at hn
  generalize hu : Own.unchain r = u at hn
  obtain ⟨v, n, e⟩ := u
  simp only at hn
  split at hn
  · rename_i hc
    obtain ⟨rfl, hv, hs⟩ := hc
    obtain ⟨r', e, e2, _⟩ := Own.unchain_bwd hu
    simp only [Option.some.injEq, Prod.mk.injEq] at hn
    obtain ⟨ht, hb⟩ := hn
    have hr : r'.length + (n + pre.length) = s.size := by rw [bl_size s, h, e, e2]; simp; omega
    have hbl : bl t = r'.take v := by rw [← ht, bl_extract, h, e, e2, ← List.append_assoc, List.drop_left' (by rw [List.length_append]), Nat.add_sub_cancel_left]
    have hsz : t.size = v := by rw [bl_size, hbl, List.length_take]; omega
    refine ⟨r'.drop v, ?_, ?_⟩
    · rw [h, e, Own.textL, hsz, show t.data.toList = _ from hbl, List.append_assoc, List.append_assoc, List.take_append_drop]
    · rw [← hb, Own.textL, hsz, List.length_append, List.length_append, ← e2, show t.data.toList.length = v from by rw [← hsz, bl_size]; rfl]; omega
  · cases hn
theorem nums_to {s : ByteArray} : ∀ {k : Nat} {l : List Nat} {a : Nat}, numsTo s k = some (l, a) → ∃ r, bl s = l.flatMap Own.chainL ++ r ∧ a = (l.flatMap Own.chainL).length ∧ l.length = k ∧ ∀ v ∈ l, v ≤ 1099511627776 := by
  intro k
  induction k with
  | zero =>
    intro l a h
    simp only [numsTo, Option.some.injEq, Prod.mk.injEq] at h
    obtain ⟨rfl, rfl⟩ := h
    exact ⟨bl s, rfl, rfl, rfl, fun v hv => by cases hv⟩
  | succ k ih =>
    intro l a h
    rw [numsTo] at h
    cases h1 : numsTo s k with
    | none => rw [h1] at h; cases h
    | some q =>
      obtain ⟨l1, a1⟩ := q
      rw [h1] at h
      simp only at h
      obtain ⟨r, e1, rfl, e3, e4⟩ := ih h1
      cases h2 : num s (l1.flatMap Own.chainL).length with
      | none => rw [h2] at h; cases h
      | some q =>
        obtain ⟨v, b⟩ := q
        rw [h2] at h
        simp only [Option.some.injEq, Prod.mk.injEq] at h
        obtain ⟨rfl, rfl⟩ := h
        obtain ⟨r', f1, f2, f3⟩ := num_to e1 h2
        refine ⟨r', by rw [f1]; simp, by rw [f2]; simp, by simp [e3], ?_⟩
        intro x hx
        rcases List.mem_append.1 hx with hx | hx
        · exact e4 x hx
        · rw [List.mem_singleton.1 hx]; exact f3
theorem nums_of {s : ByteArray} {L : List Nat} {r : List UInt8} (h : bl s = L.flatMap Own.chainL ++ r) (hL : ∀ v ∈ L, v ≤ 1099511627776) : ∀ k, k ≤ L.length → numsTo s k = some (L.take k, ((L.take k).flatMap Own.chainL).length) := by
  intro k
  induction k with
  | zero => intro _; rfl
  | succ k ih =>
    intro hk
    rw [numsTo, ih (by omega)]
    simp only
    have e0 : L = L.take k ++ (L[k] :: L.drop (k + 1)) := by rw [List.getElem_cons_drop, List.take_append_drop]
    have e : bl s = (L.take k).flatMap Own.chainL ++ (Own.chainL L[k] ++ ((L.drop (k + 1)).flatMap Own.chainL ++ r)) := by
      have := congrArg (fun l => l.flatMap Own.chainL ++ r) e0
      simp only [List.flatMap_append, List.flatMap_cons, List.append_assoc] at this
      rw [h, this]
    rw [num_of e (hL _ (List.getElem_mem _))]
    simp only [Option.some.injEq, Prod.mk.injEq]
    rw [List.take_succ_eq_append_getElem (show k < L.length by omega), List.flatMap_append, List.length_append]
    simp only [List.flatMap_cons, List.flatMap_nil, List.append_nil]
    exact ⟨trivial, trivial⟩
/-- A record as bytes. -/
def recB (x : S54) : List UInt8 := Own.recL x.f0.toNat x.f1.toNat x.f5.toNat x.f6.toNat x.f7.toNat x.f4 x.f2 x.f3
theorem recL_flat (a b c d e : Nat) (g : Bool) (k v : ByteArray) : Own.recL a b c d e g k v = [a, b, c, d, e, if g then 1 else 0].flatMap Own.chainL ++ (Own.textL k ++ Own.textL v) := by
  unfold Own.recL
  simp only [List.flatMap_cons, List.flatMap_nil, List.append_nil, List.append_assoc]
theorem decR_of {s : ByteArray} {x : S54} {r : List UInt8} (h : bl s = recB x ++ r) (hm : PuB.mayB x = true) : decR s = some (x, (recB x).length) := by
  have hm0 := hm
  rw [PuB.mayB_iff] at hm
  obtain ⟨⟨a, b⟩, ⟨c, d⟩, ⟨e, f⟩, ⟨g, i⟩, ⟨j, l⟩, m⟩ := hm
  rw [PuB.restB_iff] at m
  rw [recB, recL_flat] at h ⊢
  obtain ⟨x0, x1, x2, x3, x4, x5, x6, x7⟩ := x
  simp only at *
  obtain ⟨n0, rfl⟩ := Int.eq_ofNat_of_zero_le a
  obtain ⟨n1, rfl⟩ := Int.eq_ofNat_of_zero_le c
  obtain ⟨n5, rfl⟩ := Int.eq_ofNat_of_zero_le e
  obtain ⟨n6, rfl⟩ := Int.eq_ofNat_of_zero_le g
  obtain ⟨n7, rfl⟩ := Int.eq_ofNat_of_zero_le j
  simp only [Int.toNat_natCast] at *
  generalize hL : [n0, n1, n5, n6, n7, if x4 then 1 else 0] = L at *
  have h6 : L.length = 6 := by rw [← hL]; rfl
  have hb : ∀ v ∈ L, v ≤ 1099511627776 := by
    intro v hv
    rw [← hL] at hv
    simp only [List.mem_cons, List.not_mem_nil, or_false] at hv
    rcases hv with rfl | rfl | rfl | rfl | rfl | rfl
    · omega
    · omega
    · omega
    · omega
    · omega
    · split <;> omega
  have hn := nums_of (s := s) (L := L) (r := Own.textL x2 ++ Own.textL x3 ++ r) (by rw [h]; simp only [List.append_assoc]) hb 6 (by omega)
  rw [List.take_of_length_le (by omega)] at hn
  have h1 : bl s = L.flatMap Own.chainL ++ (Own.textL x2 ++ (Own.textL x3 ++ r)) := by rw [h]; simp only [List.append_assoc]
  have t1 := txt_of h1 (by omega)
  have h2 : bl s = (L.flatMap Own.chainL ++ Own.textL x2) ++ (Own.textL x3 ++ r) := by rw [h]; simp only [List.append_assoc]
  have t2 := txt_of h2 (by omega)
  rw [List.length_append] at t2
  rw [decR_end hn t1 t2]
  have hk : mkR L x2 x3 = ⟨(n0 : Int), (n1 : Int), x2, x3, x4, (n5 : Int), (n6 : Int), (n7 : Int)⟩ := by
    rw [← hL]; unfold mkR; cases x4 <;> simp
  rw [hk, if_pos ⟨by rw [← hL]; cases x4 <;> simp, hm0⟩]
  simp only [List.length_append, Nat.add_assoc]
theorem decR_to {s : ByteArray} {x : S54} {c : Nat} (h : decR s = some (x, c)) : PuB.mayB x = true ∧ ∃ r, bl s = recB x ++ r ∧ c = (recB x).length := by
  cases hn : numsTo s 6 with
  | none => unfold decR at h; rw [hn] at h; cases h
  | some q =>
    obtain ⟨L, a⟩ := q
    obtain ⟨r, e1, rfl, e3, e4⟩ := nums_to hn
    cases h1 : txt s (L.flatMap Own.chainL).length with
    | none => rw [decR_txt1 hn h1] at h; cases h
    | some q =>
      obtain ⟨key, b⟩ := q
      obtain ⟨r1, f1, rfl⟩ := txt_to e1 h1
      cases h2 : txt s (L.flatMap Own.chainL ++ Own.textL key).length with
      | none => rw [decR_txt2 hn h1 h2] at h; cases h
      | some q =>
        obtain ⟨val, d⟩ := q
        obtain ⟨r2, g1, rfl⟩ := txt_to f1 h2
        rw [decR_end hn h1 h2] at h
        split at h
        · rename_i hc
          simp only [Option.some.injEq, Prod.mk.injEq] at h
          obtain ⟨rfl, rfl⟩ := h
          obtain ⟨a0, a1, a2, a3, a4, a5, rfl⟩ := list6 e3
          have e : recB (mkR [a0, a1, a2, a3, a4, a5] key val) = [a0, a1, a2, a3, a4, a5].flatMap Own.chainL ++ Own.textL key ++ Own.textL val := by
            have h5 : a5 ≤ 1 := by simpa using hc.1
            have : (if decide (a5 = 1) = true then 1 else 0) = a5 := by by_cases h : a5 = 1 <;> simp [h]; omega
            unfold recB mkR
            simp only [List.getD_cons_zero, List.getD_cons_succ, Int.toNat_natCast]
            rw [recL_flat, this]
            simp only [List.append_assoc]
          exact ⟨hc.2, r2, by rw [g1, e], by rw [e]⟩
        · cases h
end Go.Proofs.Ytakbgaiedenikaa.Rd
/- What the reading of a body tells, and what a body's bytes are: plain laws. -/
namespace Go.Proofs.Ytakbgaiedenikaa.Rd
open Go.RowKit Go.Proofs.YtakbgaiedenikaaW.PrintWords Go.Proofs.Ytakbgaiedenikaa.PB
set_option linter.unusedSimpArgs false
set_option linter.unusedVariables false
theorem manyTo_to {α : Type} {s : ByteArray} {f : Nat → Option (α × Nat)} {enc : α → List UInt8} (hf : ∀ (pre r : List UInt8) (a : α) (b : Nat), bl s = pre ++ r → f pre.length = some (a, b) → ∃ r', bl s = (pre ++ enc a) ++ r' ∧ b = (pre ++ enc a).length) :
    ∀ {k : Nat} {l : List α} {q : Nat} {pre r : List UInt8}, bl s = pre ++ r → manyTo f pre.length k = some (l, q) → ∃ r', bl s = (pre ++ l.flatMap enc) ++ r' ∧ q = (pre ++ l.flatMap enc).length := by
  intro k
  induction k with
  | zero =>
    intro l q pre r hs h
    simp only [manyTo, Option.some.injEq, Prod.mk.injEq] at h
    obtain ⟨rfl, rfl⟩ := h
    exact ⟨r, by simpa using hs, by simp⟩
  | succ k ih =>
    intro l q pre r hs h
    rw [manyTo] at h
    obtain ⟨⟨l0, q0⟩, h1, h2⟩ := Option.bind_eq_some_iff.1 h
    obtain ⟨⟨a, b⟩, h3, h4⟩ := Option.map_eq_some_iff.1 h2
    simp only [Prod.mk.injEq] at h4
    obtain ⟨rfl, rfl⟩ := h4
    obtain ⟨r', e1, e2⟩ := ih hs h1
    simp only at h3
    rw [e2] at h3
    obtain ⟨r2, e3, e4⟩ := hf _ _ _ _ e1 h3
    refine ⟨r2, ?_, ?_⟩
    · rw [e3, List.flatMap_append]; simp
    · rw [e4, List.flatMap_append]; simp
theorem manyTo_of {α : Type} {s : ByteArray} {f : Nat → Option (α × Nat)} {enc : α → List UInt8} {P : α → Prop} (hf : ∀ (pre r : List UInt8) (a : α), P a → bl s = pre ++ (enc a ++ r) → f pre.length = some (a, pre.length + (enc a).length)) {l : List α} {pre r : List UInt8} (hl : ∀ a ∈ l, P a) (hs : bl s = pre ++ (l.flatMap enc ++ r)) :
    ∀ k, k ≤ l.length → manyTo f pre.length k = some (l.take k, pre.length + ((l.take k).flatMap enc).length) := by
  intro k
  induction k with
  | zero => intro _; simp [manyTo]
  | succ k ih =>
    intro hk
    have hk' : k < l.length := hk
    have e1 := ih (Nat.le_of_lt hk')
    have hsp : l = l.take k ++ (l[k] :: l.drop (k + 1)) := by rw [List.getElem_cons_drop, List.take_append_drop]
    have hs2 : bl s = (pre ++ (l.take k).flatMap enc) ++ (enc l[k] ++ ((l.drop (k + 1)).flatMap enc ++ r)) := by
      have e3 : l.flatMap enc = (l.take k).flatMap enc ++ (enc l[k] ++ (l.drop (k + 1)).flatMap enc) := by
        rw [← List.flatMap_cons, ← List.flatMap_append, ← hsp]
      rw [hs, e3]
      simp only [List.append_assoc]
    have e2 := hf _ _ _ (hl _ (List.getElem_mem hk')) hs2
    rw [List.length_append] at e2
    rw [manyTo_next e1 e2, Own.flat_take enc l k hk', List.take_succ_eq_append_getElem hk', List.length_append, Nat.add_assoc]
theorem fR_to {s : ByteArray} (pre r : List UInt8) (a : S54) (b : Nat) (h : bl s = pre ++ r) (hf : fR s pre.length = some (a, b)) : ∃ r', bl s = (pre ++ recB a) ++ r' ∧ b = (pre ++ recB a).length := by
  obtain ⟨⟨x, c⟩, h1, h2⟩ := Option.map_eq_some_iff.1 hf
  simp only [Prod.mk.injEq] at h2
  obtain ⟨rfl, rfl⟩ := h2
  obtain ⟨_, r', e1, e2⟩ := decR_to h1
  have e3 : bl (s.extract pre.length s.size) = r := by rw [bl_extract, h, List.drop_left, bl_size, h]; simp
  rw [e3] at e1
  exact ⟨r', by rw [h, e1]; simp, by rw [e2]; simp⟩
theorem fR_of {s : ByteArray} (pre r : List UInt8) (a : S54) (hm : PuB.mayB a = true) (h : bl s = pre ++ (recB a ++ r)) : fR s pre.length = some (a, pre.length + (recB a).length) := by
  have e3 : bl (s.extract pre.length s.size) = recB a ++ r := by rw [bl_extract, bl_size, h, List.drop_left]; exact List.take_of_length_le (by simp)
  unfold fR
  rw [decR_of e3 hm]; rfl
theorem txt_to' {s : ByteArray} (pre r : List UInt8) (a : ByteArray) (b : Nat) (h : bl s = pre ++ r) (hf : txt s pre.length = some (a, b)) : ∃ r', bl s = (pre ++ Own.textL a) ++ r' ∧ b = (pre ++ Own.textL a).length := txt_to h hf
theorem txt_of' {s : ByteArray} (pre r : List UInt8) (a : ByteArray) (ha : a.size ≤ 1099511627776) (h : bl s = pre ++ (Own.textL a ++ r)) : txt s pre.length = some (a, pre.length + (Own.textL a).length) := txt_of h ha
def kL (z : Int) : List UInt8 := Own.chainL z.toNat
theorem fK_to {s : ByteArray} (pre r : List UInt8) (a : Int) (b : Nat) (h : bl s = pre ++ r) (hf : fK s pre.length = some (a, b)) : ∃ r', bl s = (pre ++ kL a) ++ r' ∧ b = (pre ++ kL a).length := by
  obtain ⟨⟨x, c⟩, h1, h2⟩ := Option.map_eq_some_iff.1 hf
  simp only [Prod.mk.injEq] at h2
  obtain ⟨rfl, rfl⟩ := h2
  obtain ⟨r', e1, e2, _⟩ := num_to h h1
  exact ⟨r', e1, e2⟩
theorem fK_of {s : ByteArray} (pre r : List UInt8) (a : Int) (ha : 0 ≤ a ∧ a ≤ 1099511627776) (h : bl s = pre ++ (kL a ++ r)) : fK s pre.length = some (a, pre.length + (kL a).length) := by
  unfold fK
  rw [num_of h (by omega)]
  simp only [Option.map_some, Option.some.injEq, Prod.mk.injEq]
  exact ⟨by omega, rfl⟩
theorem bodyL_eq (a b : Nat) (rs : List S54) (ns : List ByteArray) (ks : List Int) : Own.bodyL a b rs ns ks = Own.chainL a ++ (Own.chainL b ++ (Own.chainL rs.length ++ (rs.flatMap recB ++ (Own.chainL ns.length ++ (ns.flatMap Own.textL ++ (Own.chainL ks.length ++ ks.flatMap kL)))))) := by
  simp [Own.bodyL, kL]; rfl
/-- What the reading tells is so written, and nothing else is. -/
theorem readR_to {s : ByteArray} {x : Body} (h : readR s = some x) : ∃ r, bl s = Own.bodyL x.a x.b x.rs x.ns x.ks ++ r ∧ x.at_ = (Own.bodyL x.a x.b x.rs x.ns x.ks).length ∧ x.a ≤ 1099511627776 ∧ x.b ≤ 1099511627776 ∧ (∀ y ∈ x.rs, PuB.mayB y = true) ∧ (∀ z ∈ x.ks, 0 ≤ z ∧ z ≤ 1099511627776) ∧ x.rs.length ≤ s.size ∧ x.ns.length ≤ s.size ∧ x.ks.length ≤ s.size := by
  unfold readR at h
  obtain ⟨⟨a, p1⟩, h1, h⟩ := Option.bind_eq_some_iff.1 h
  obtain ⟨⟨b, p2⟩, h2, h⟩ := Option.bind_eq_some_iff.1 h
  obtain ⟨⟨n5, p3⟩, h3, h⟩ := Option.bind_eq_some_iff.1 h
  obtain ⟨⟨rs, p4⟩, h4, h⟩ := Option.bind_eq_some_iff.1 h
  obtain ⟨⟨n6, p5⟩, h5, h⟩ := Option.bind_eq_some_iff.1 h
  obtain ⟨⟨ns, p6⟩, h6, h⟩ := Option.bind_eq_some_iff.1 h
  obtain ⟨⟨n7, p7⟩, h7, h⟩ := Option.bind_eq_some_iff.1 h
  obtain ⟨⟨ks, p8⟩, h8, h⟩ := Option.bind_eq_some_iff.1 h
  simp only [Option.some.injEq] at h h2 h3 h4 h5 h6 h7 h8
  subst h
  obtain ⟨r1, e1, q1, b1⟩ := num_to (pre := []) (r := bl s) rfl h1
  rw [q1] at h2
  obtain ⟨r2, e2, q2, b2⟩ := num_to e1 h2
  rw [q2] at h3
  obtain ⟨r3, e3, q3, b3⟩ := num_to e2 h3
  have l3 : p3 ≤ s.size := by rw [q3, bl_size, e3]; simp
  obtain ⟨g4, _, l4, m4⟩ := manyTo_le l3 fR_le h4
  rw [q3] at h4
  obtain ⟨r4, e4, q4⟩ := manyTo_to fR_to e3 h4
  rw [q4] at h5
  obtain ⟨r5, e5, q5, b5⟩ := num_to e4 h5
  have l5 : p5 ≤ s.size := by rw [q5, bl_size, e5]; simp
  obtain ⟨g6, _, l6, _⟩ := manyTo_le l5 txt_le h6
  rw [q5] at h6
  obtain ⟨r6, e6, q6⟩ := manyTo_to txt_to' e5 h6
  rw [q6] at h7
  obtain ⟨r7, e7, q7, b7⟩ := num_to e6 h7
  have l7 : p7 ≤ s.size := by rw [q7, bl_size, e7]; simp
  obtain ⟨g8, _, l8, m8⟩ := manyTo_le l7 fK_le h8
  rw [q7] at h8
  obtain ⟨r8, e8, q8⟩ := manyTo_to fK_to e7 h8
  refine ⟨r8, ?_, ?_, b1, b2, m4, m8, ?_, ?_, ?_⟩
  · simp only [bodyL_eq]
    rw [e8]
    rw [g4, g6, g8]
    simp
  · simp only [bodyL_eq]
    rw [q8, g4, g6, g8]
    simp
  · simp only; omega
  · simp only; omega
  · simp only; omega
theorem readR_of {s : ByteArray} {a b : Nat} {rs : List S54} {ns : List ByteArray} {ks : List Int} {r : List UInt8} (h : bl s = Own.bodyL a b rs ns ks ++ r) (ha : a ≤ 1099511627776) (hb : b ≤ 1099511627776) (hl5 : rs.length ≤ 1000) (hl6 : ns.length ≤ 1000) (hl7 : ks.length ≤ 1000)
    (hm : ∀ x ∈ rs, PuB.mayB x = true) (hs : ∀ x ∈ ns, x.size ≤ 1000) (hk : ∀ x ∈ ks, 0 ≤ x ∧ x ≤ 1099511627776) : readR s = some ⟨a, b, rs, ns, ks, (Own.bodyL a b rs ns ks).length⟩ := by
  rw [bodyL_eq] at h ⊢
  simp only [List.append_assoc] at h
  have e1 := num_of (pre := []) (by simpa using h) ha
  have h2 : bl s = Own.chainL a ++ (Own.chainL b ++ _) := h
  have e2 := num_of h2 hb
  rw [← List.append_assoc] at h2
  have e3 := num_of h2 (by omega)
  rw [← List.append_assoc] at h2
  have e4 := manyTo_of (P := fun x => PuB.mayB x = true) fR_of hm h2 _ (Nat.le_refl _)
  rw [← List.append_assoc] at h2
  have e5 := num_of h2 (by omega)
  rw [← List.append_assoc] at h2
  have e6 := manyTo_of (P := fun x => x.size ≤ 1099511627776) txt_of' (fun x hx => by have := hs x hx; omega) h2 _ (Nat.le_refl _)
  rw [← List.append_assoc] at h2
  have e7 := num_of h2 (by omega)
  rw [← List.append_assoc] at h2
  have e8 := manyTo_of (P := fun x => 0 ≤ x ∧ x ≤ 1099511627776) fK_of hk h2 _ (Nat.le_refl _)
  rw [List.take_length] at e4 e6 e8
  simp only [List.length_append, List.length_nil, Nat.zero_add] at e1 e2 e3 e4 e5 e6 e7 e8
  unfold readR
  rw [e1]; simp only [Option.bind_some]
  rw [e2]; simp only [Option.bind_some]
  rw [e3]; simp only [Option.bind_some]
  rw [e4]; simp only [Option.bind_some]
  rw [e5]; simp only [Option.bind_some]
  rw [e6]; simp only [Option.bind_some]
  rw [e7]; simp only [Option.bind_some]
  rw [e8]; simp only [Option.bind_some]
  simp only [Option.some.injEq, Body.mk.injEq, true_and]
  simp only [List.length_append]
  omega
end Go.Proofs.Ytakbgaiedenikaa.Rd
/- Decode of an answer, by hand. -/
namespace Go.Proofs.Ytakbgaiedenikaa.Rd
open Go.RowKit Go.Proofs.YtakbgaiedenikaaW.PrintWords Go.Proofs.Ytakbgaiedenikaa.PB
set_option maxRecDepth 100000
set_option linter.unusedSimpArgs false
set_option linter.unusedVariables false
/-- An answer. -/
structure Ans where
  i : Nat
  k : Nat
  c : Nat
  a : Nat
  b : Nat
  rs : List S54
  ns : List ByteArray
  ks : List Int
def zA : Ans := ⟨0, 0, 0, 0, 0, [], [], []⟩
def agA (r : Ans) (A5 : Option Addr) (c5 : Nat) (A6 : Option Addr) (c6 : Nat) (A7 : Option Addr) (c7 : Nat) : Array Value := #[.int .i64 (r.i : Int), .int .i64 (r.k : Int), .int .i64 (r.c : Int), .int .i64 (r.a : Int), .int .i64 (r.b : Int), .slice A5 r.rs.length c5, .slice A6 r.ns.length c6, .slice A7 r.ks.length c7]
/-- An answer's rows, as they can be read. -/
structure RowsA (r : Ans) (A5 : Option Addr) (c5 : Nat) (A6 : Option Addr) (c6 : Nat) (A7 : Option Addr) (c7 : Nat) (w : World) : Prop where
  h5 : Kd.C k54 w A5 r.rs.length r.rs
  l5 : r.rs.length ≤ c5
  h6 : Kd.C Kd.string w A6 r.ns.length r.ns
  l6 : r.ns.length ≤ c6
  h7 : Kd.C (Kd.int .i64) w A7 r.ks.length r.ks
  l7 : r.ks.length ≤ c7
theorem RowsA.below {r : Ans} {A5 : Option Addr} {c5 : Nat} {A6 : Option Addr} {c6 : Nat} {A7 : Option Addr} {c7 : Nat} {w w1 : World} (h : RowsA r A5 c5 A6 c6 A7 c7 w) (hb : Below w.heap.size w w1) : RowsA r A5 c5 A6 c6 A7 c7 w1 :=
  ⟨Kd.C_below h.h5 hb, h.l5, Kd.C_below h.h6 hb, h.l6, Kd.C_below h.h7 hb, h.l7⟩
/-- An answer's rows, of blocks from a place on. -/
structure RowsR (r : Ans) (A5 : Option Addr) (c5 : Nat) (A6 : Option Addr) (c6 : Nat) (A7 : Option Addr) (c7 : Nat) (N : Nat) (w : World) : Prop where
  h5 : k54.R 54 w N (fun k => N + 3 ≤ k) (.slice A5 r.rs.length c5) r.rs
  h6 : Kd.string.R 9 w N (fun k => N + 3 ≤ k) (.slice A6 r.ns.length c6) r.ns
  h7 : (Kd.int .i64).R 3 w N (fun k => N + 3 ≤ k) (.slice A7 r.ks.length c7) r.ks
theorem RowsR.reads {r : Ans} {A5 : Option Addr} {c5 : Nat} {A6 : Option Addr} {c6 : Nat} {A7 : Option Addr} {c7 N : Nat} {w : World} (h : RowsR r A5 c5 A6 c6 A7 c7 N w) : RowsA r A5 c5 A6 c6 A7 c7 w :=
  ⟨(Kd.R_reads' h.h5).2.2, (Kd.R_reads' h.h5).2.1, (Kd.R_reads' h.h6).2.2, (Kd.R_reads' h.h6).2.1, (Kd.R_reads' h.h7).2.2, (Kd.R_reads' h.h7).2.1⟩
theorem RowsR.move {r : Ans} {A5 : Option Addr} {c5 : Nat} {A6 : Option Addr} {c6 : Nat} {A7 : Option Addr} {c7 N : Nat} {w w1 : World} (h : RowsR r A5 c5 A6 c6 A7 c7 N w) (hm : ∀ k, N + 3 ≤ k → k < w.heap.size → w1.heap[k]? = w.heap[k]?) : RowsR r A5 c5 A6 c6 A7 c7 N w1 :=
  ⟨Kd.R_step h.h5 hm, Kd.R_step h.h6 hm, Kd.R_step h.h7 hm⟩
theorem C_none {α : Type} (d : Kd α) (w : World) : Kd.C d w none 0 [] := by
  obtain ⟨A, c, h1, _, h3⟩ := Kd.R_reads (Kd.R_nil d 3 w 0 (fun _ => True))
  simp only [List.length_nil, Value.slice.injEq] at h1
  obtain ⟨rfl, _, _⟩ := h1
  exact h3
/-- What the reading of a body hands back: an answer, and whether it is all. -/
def raw (id kd cd : Nat) (s : ByteArray) : Ans × Bool :=
  match readR s with
  | none => (zA, false)
  | some x => (⟨id, kd, cd, x.a, x.b, x.rs, x.ns, x.ks⟩, (s.extract x.at_ s.size).toList.isEmpty)
theorem read_raw {g : Nat} {s : ByteArray} (id kd cd : Nat) (w : World) (hb : RT g s w) (hm : s.size ≤ 594) :
    Calls Try.prog 32 #[.pointer (some ⟨g, 0, none⟩), .agg #[.int .i64 (id : Int), .int .i64 (kd : Int), .int .i64 (cd : Int), .int .i64 0, .int .i64 0, .slice none 0 0, .slice none 0 0, .slice none 0 0]] w fun e w' =>
      Kp g w w' ∧ ∃ A5 c5 A6 c6 A7 c7, e = .returned (.tuple #[.agg (agA (raw id kd cd s).1 A5 c5 A6 c6 A7 c7), .bool (raw id kd cd s).2]) ∧ RowsR (raw id kd cd s).1 A5 c5 A6 c6 A7 c7 w.heap.size w' := by
  have e0 : s.extract 0 s.size = s := bl_inj (by rw [bl_extract, bl_size]; simp)
  have hb' : RA g s 0 w := by unfold RA; rw [e0]; exact hb
  refine (read_any (id : Int) (kd : Int) (cd : Int) w hb' hm).mono ?_
  rintro e w' ⟨h1, h2⟩
  refine ⟨h1, ?_⟩
  unfold raw
  cases hr : readR s with
  | none =>
    rw [hr] at h2
    exact ⟨none, 0, none, 0, none, 0, h2, ⟨Kd.R_nil _ _ _ _ _, Kd.R_nil _ _ _ _ _, Kd.R_nil _ _ _ _ _⟩⟩
  | some x =>
    rw [hr] at h2
    obtain ⟨A5, c5, A6, c6, A7, c7, he, x1, x2, x3⟩ := h2
    exact ⟨A5, c5, A6, c6, A7, c7, he, ⟨x1, x2, x3⟩⟩
/-- The names are short enough. -/
def shortN (ns : List ByteArray) : Bool := ns.all (fun n => decide (n.size ≤ 64))
def outA (r : Ans) : List UInt8 := Own.outL r.i r.k r.c (Own.bodyL r.a r.b r.rs r.ns r.ks) ++ List.replicate (594 - (Own.bodyL r.a r.b r.rs r.ns r.ks).length) 0
/-- An answer that was read: its numbers fit, and its body isn't long. -/
structure Fits (r : Ans) : Prop where
  hi : r.i ≤ 65535
  hk : r.k ≤ 255
  hc : r.c ≤ 255
  ha : r.a ≤ 1099511627776
  hb : r.b ≤ 1099511627776
  hm : ∀ y ∈ r.rs, PuB.mayB y = true
  hz : ∀ z ∈ r.ks, 0 ≤ z ∧ z ≤ 1099511627776
  h5 : r.rs.length ≤ 100
  h6 : r.ns.length ≤ 600
  h7 : r.ks.length ≤ 600
  hl : (Own.bodyL r.a r.b r.rs r.ns r.ks).length ≤ 594
theorem ansB_short {r : Ans} (h : Fits r) : PuB.ansB (r.i : Int) (r.k : Int) (r.c : Int) (r.a : Int) (r.b : Int) r.rs r.ns r.ks = shortN r.ns := by
  have e1 : r.rs.all PuB.mayB = true := List.all_eq_true.2 h.hm
  have e2 : r.ks.all (fun z => PuB.upB z 1099511627776) = true := List.all_eq_true.2 fun z hz => PuB.upB_iff.2 (h.hz z hz)
  have e3 : PuB.endB (r.i : Int) (r.k : Int) (r.c : Int) (r.a : Int) (r.b : Int) = true := by
    have := h.hi; have := h.hk; have := h.hc; have := h.ha; have := h.hb
    unfold PuB.endB
    simp only [Bool.and_eq_true, PuB.upB_iff]
    omega
  unfold PuB.ansB shortN
  rw [e1, e2, e3]
  simp
def encS (r : Ans) : ByteArray × Int := if shortN r.ns = true then (Own.sB (outA r), 0) else (⟨#[]⟩, 1)
theorem encode_raw (r : Ans) (A5 : Option Addr) (c5 : Nat) (A6 : Option Addr) (c6 : Nat) (A7 : Option Addr) (c7 : Nat) (w : World) (hf : Fits r) (hr : RowsA r A5 c5 A6 c6 A7 c7 w) :
    Calls Try.prog 9 #[.agg (agA r A5 c5 A6 c6 A7 c7)] w fun e w' => e = .returned (.tuple #[.string (encS r).1, .int .i64 (encS r).2]) ∧ Below w.heap.size w w' := by
  have hev := PuB.ansMay_ev (r.i : Int) (r.k : Int) (r.c : Int) (r.a : Int) (r.b : Int) r.rs r.ns r.ks (by have := hf.h5; omega) (by have := hf.h6; omega) (by have := hf.h7; omega)
  rw [ansB_short hf] at hev
  unfold encS
  cases hs : shortN r.ns with
  | true =>
    rw [hs] at hev
    rw [if_pos rfl]
    exact Own.encode_any r.i r.k r.c r.a r.b A5 c5 r.rs A6 c6 r.ns A7 c7 r.ks w hr.h5 hr.h6 hr.h7 hr.l5 hr.l6 hr.l7 hf.hi hf.hk hf.hc hf.ha hf.hb hf.h5 hf.h6 hf.h7 hf.hm (fun x hx => of_decide_eq_true (List.all_eq_true.1 hs x hx)) hf.hz hev hf.hl
  | false =>
    rw [hs] at hev
    rw [if_neg (by decide)]
    exact Own.encode_bad (r.i : Int) (r.k : Int) (r.c : Int) (r.a : Int) (r.b : Int) A5 c5 r.rs A6 c6 r.ns A7 c7 r.ks w hr.h5 hr.h6 hr.h7 hr.l5 hr.l6 hr.l7 hev
/-- What is read of a body fits. -/
theorem recB_pos (x : S54) : 8 ≤ (recB x).length := by
  have hp := Own.chainL_pos
  have h1 := hp x.f0.toNat; have h2 := hp x.f1.toNat; have h3 := hp x.f5.toNat; have h4 := hp x.f6.toNat; have h5 := hp x.f7.toNat; have h6 := hp (if x.f4 then 1 else 0)
  have h7 := hp x.f2.size; have h8 := hp x.f3.size
  unfold recB
  rw [recL_flat]
  simp only [List.flatMap_cons, List.flatMap_nil, List.append_nil, List.length_append, Own.textL]
  omega
theorem flat_ge {α : Type} {f : α → List UInt8} {m : Nat} (h : ∀ x, m ≤ (f x).length) : ∀ l : List α, m * l.length ≤ (l.flatMap f).length
  | [] => by simp
  | x :: l => by
    have := flat_ge h l
    have := h x
    rw [List.flatMap_cons, List.length_append, List.length_cons, Nat.mul_succ]; omega
theorem zbody : (Own.bodyL 0 0 [] [] []).length ≤ 594 := by
  have h := Own.chainL_len10 (v := 0) (by decide)
  rw [bodyL_eq]
  simp only [List.length_append, List.length_nil, List.flatMap_nil]
  omega
theorem raw_fits {s : ByteArray} {id kd cd : Nat} (hm : s.size ≤ 594) (hi : id ≤ 65535) (hk : kd ≤ 255) (hc : cd ≤ 255) : Fits (raw id kd cd s).1 := by
  unfold raw
  cases hr : readR s with
  | none => exact ⟨Nat.zero_le _, Nat.zero_le _, Nat.zero_le _, Nat.zero_le _, Nat.zero_le _, by simp [zA], by simp [zA], by simp [zA], by simp [zA], by simp [zA], zbody⟩
  | some x =>
    obtain ⟨r, h1, h2, h3, h4, h5, h6, h7, h8, h9⟩ := readR_to hr
    have hsz : s.size = (Own.bodyL x.a x.b x.rs x.ns x.ks).length + r.length := by rw [bl_size, h1, List.length_append]
    have hg : 8 * x.rs.length ≤ (x.rs.flatMap recB).length := flat_ge recB_pos x.rs
    have hb : (x.rs.flatMap recB).length ≤ (Own.bodyL x.a x.b x.rs x.ns x.ks).length := by rw [bodyL_eq]; simp only [List.length_append]; omega
    exact ⟨hi, hk, hc, h3, h4, h5, h6, by simp only; omega, by simp only; omega, by simp only; omega, by simp only; omega⟩
end Go.Proofs.Ytakbgaiedenikaa.Rd
