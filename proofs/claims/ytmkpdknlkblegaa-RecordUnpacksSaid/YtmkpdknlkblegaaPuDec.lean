/- Records over lists and numbers: reading and writing one. -/
import Derived.Test.YtmkpdknlkblegaaPuR
import Derived.Test.YtmkpdknlkblegaaPAx9
namespace Go.Proofs.Ytmkpdknlkblegaa.Pu
open Go.RowKit Go.Proofs.YtmkpdknlkblegaaW.PrintWords Go.Proofs.YtmkpdknlkblegaaW.PrintMore Go.Proofs.Ytmkpdknlkblegaa.PA
set_option linter.unusedSimpArgs false
set_option linter.unusedVariables false
def cv (x : S23) : PB.S23 := ⟨x.f0, x.f1, x.f2, x.f3, x.f4, x.f5, x.f6, x.f7⟩
def vc (x : PB.S23) : S23 := ⟨x.f0, x.f1, x.f2, x.f3, x.f4, x.f5, x.f6, x.f7⟩
def mayA (x : S23) : Bool := PuB.mayB (cv x)
def recA (x : S23) : List UInt8 := Rd.recB (cv x)
def decA (s : ByteArray) : Option (S23 × Nat) := (Rd.decR s).map fun q => (vc q.1, q.2)
theorem decA_of {s : ByteArray} {x : S23} {r : List UInt8} (h : Rd.bl s = recA x ++ r) (hm : mayA x = true) : decA s = some (x, (recA x).length) := by
  unfold decA; rw [Rd.decR_of (x := cv x) h hm]; rfl
theorem decA_to {s : ByteArray} {x : S23} {c : Nat} (h : decA s = some (x, c)) : mayA x = true ∧ ∃ r, Rd.bl s = recA x ++ r ∧ c = (recA x).length := by
  unfold decA at h
  cases hd : Rd.decR s with
  | none => rw [hd] at h; cases h
  | some q =>
    obtain ⟨y, d⟩ := q
    rw [hd] at h
    simp only [Option.map_some, Option.some.injEq, Prod.mk.injEq] at h
    obtain ⟨rfl, rfl⟩ := h
    exact Rd.decR_to hd
theorem dec_eq (s : ByteArray) (hs : s.size ≤ 9223372036854775807) : record_Decode.f s = some (match decA s with | none => (0, 0, ⟨#[]⟩, ⟨#[]⟩, false, 0, 0, 0, 0, 4) | some (r, c) => (r.f0, r.f1, r.f2, r.f3, r.f4, r.f5, r.f6, r.f7, (c : Int), 0)) := by
  unfold record_Decode.f decA
  rw [if_pos hs]
  cases Rd.decR s <;> rfl
theorem enc_eq (x : S23) (h : mayA x = true) : record_encode.f x.f0 x.f1 x.f2 x.f3 x.f4 x.f5 x.f6 x.f7 = some (Own.sB (recA x)) := by
  unfold mayA at h
  rw [PuB.mayB_iff] at h
  obtain ⟨⟨a, b⟩, ⟨c, d⟩, ⟨e, f⟩, ⟨g, i⟩, ⟨j, l⟩, m⟩ := h
  rw [PuB.restB_iff] at m
  simp only [cv] at *
  unfold record_encode.f
  rw [if_pos ⟨a, by omega, c, d, e, f, g, i, j, l, m.2.1, m.2.2.1⟩]
  rfl
theorem recEncode_eq (x : S23) : record_Encode.f x.f0 x.f1 x.f2 x.f3 x.f4 x.f5 x.f6 x.f7 = some (if mayA x = true then (Own.sB (recA x), 0) else (⟨#[]⟩, 1)) := by
  unfold record_Encode.f record_May.f
  rw [Option.bind_some]
  show (if mayA x = true then _ else _) = _
  by_cases h : mayA x = true
  · rw [if_pos h, if_pos h, enc_eq x h]; rfl
  · rw [if_neg h, if_neg h]
theorem recSize_eq (x : S23) : record_Size.f x.f0 x.f1 x.f2 x.f3 x.f4 x.f5 x.f6 x.f7 = some (if mayA x = true then ((recA x).length : Int) else 0) := by
  unfold record_Size.f record_May.f
  rw [Option.bind_some]
  show (if mayA x = true then _ else _) = _
  by_cases h : mayA x = true
  · rw [if_pos h, if_pos h, enc_eq x h]; simp only [Option.bind_some, Own.sB_size]
  · rw [if_neg h, if_neg h]
theorem recA_flat (x : S23) : recA x = [x.f0.toNat, x.f1.toNat, x.f5.toNat, x.f6.toNat, x.f7.toNat, if x.f4 then 1 else 0].flatMap Own.chainL ++ (Own.textL x.f2 ++ Own.textL x.f3) := Rd.recL_flat ..
theorem recA_ge (x : S23) : 8 + x.f2.size + x.f3.size ≤ (recA x).length := by
  rw [recA_flat]
  simp only [List.flatMap_cons, List.flatMap_nil, List.length_append, Own.textL, List.length_nil]
  have h0 := Own.chainL_pos x.f0.toNat
  have h1 := Own.chainL_pos x.f1.toNat
  have h2 := Own.chainL_pos x.f5.toNat
  have h3 := Own.chainL_pos x.f6.toNat
  have h4 := Own.chainL_pos x.f7.toNat
  have h5 := Own.chainL_pos (if x.f4 then 1 else 0)
  have h6 := Own.chainL_pos x.f2.size
  have h7 := Own.chainL_pos x.f3.size
  have h8 : x.f2.data.toList.length = x.f2.size := (Rd.bl_size _).symm
  have h9 : x.f3.data.toList.length = x.f3.size := (Rd.bl_size _).symm
  omega
theorem may_iff (x : S23) : mayA x = true ↔ (0 ≤ x.f0 ∧ x.f0 ≤ 1048576) ∧ (0 ≤ x.f1 ∧ x.f1 ≤ 1099511627776) ∧ (0 ≤ x.f5 ∧ x.f5 ≤ 1099511627776) ∧ (0 ≤ x.f6 ∧ x.f6 ≤ 1099511627776) ∧ (0 ≤ x.f7 ∧ x.f7 ≤ 1099511627776) ∧ (x.f5 = 0 → x.f6 = 0) ∧ x.f2.size ≤ 32 ∧ x.f3.size ≤ 200 ∧ (x.f4 = true → 0 < x.f2.size ∧ x.f3.size = 0) := by
  unfold mayA
  rw [PuB.mayB_iff, PuB.restB_iff]
  exact Iff.rfl
theorem recA_le (x : S23) (h : mayA x = true) : (recA x).length ≤ 31 + x.f2.size + x.f3.size := by
  rw [may_iff] at h
  obtain ⟨⟨a0, a⟩, ⟨b0, b⟩, ⟨c0, c⟩, ⟨d0, d⟩, ⟨e0, e⟩, _, k, v, _⟩ := h
  rw [recA_flat]
  simp only [List.flatMap_cons, List.flatMap_nil, List.length_append, Own.textL, List.length_nil]
  have p3 : 128 ^ (2 + 1) = 2097152 := by decide
  have p6 : 128 ^ (5 + 1) = 4398046511104 := by decide
  have h0 := Own.chainL_len 2 x.f0.toNat (by rw [p3]; omega)
  have h1 := Own.chainL_len 5 x.f1.toNat (by rw [p6]; omega)
  have h2 := Own.chainL_len 5 x.f5.toNat (by rw [p6]; omega)
  have h3 := Own.chainL_len 5 x.f6.toNat (by rw [p6]; omega)
  have h4 := Own.chainL_len 5 x.f7.toNat (by rw [p6]; omega)
  have h5 := Own.chainL_len 0 (if x.f4 then 1 else 0) (by split <;> decide)
  have h6 := Own.chainL_len 0 x.f2.size (by simp; omega)
  have h7 := Own.chainL_len 1 x.f3.size (by simp; omega)
  have h8 : x.f2.data.toList.length = x.f2.size := (Rd.bl_size _).symm
  have h9 : x.f3.data.toList.length = x.f3.size := (Rd.bl_size _).symm
  omega
theorem rd23 (l : List S23) (m : Nat) (h : m < l.length) : rd_T23 l (m : Int) = l[m] := by
  unfold rd_T23
  rw [Int.toNat_natCast, List.getD_eq_getElem?_getD, List.getElem?_eq_getElem h]; rfl
def cat (l : List S23) : List UInt8 := l.flatMap recA
def Inc (l : List S23) : Prop := ∀ m (h : m + 1 < l.length), l[m].f0 < l[m + 1].f0
/-- What stands one behind the other is read as it was written. -/
theorem unpackL (l : List S23) : ∀ (out : List S23) (s : ByteArray), Rd.bl s = cat l → (∀ x ∈ l, mayA x = true) → Inc (out ++ l) → (out ++ l).length ≤ 8 → s.size ≤ 1000000 → Ev (fun k => record_Unpack.l0 k s out) (out ++ l, 0) := by
  induction l with
  | nil =>
    intro out s hs _ _ _ _
    have h0 : s.size = 0 := by rw [Rd.bl_size, hs]; rfl
    exact Ev.step (fun k => record_Unpack.l0.eq_2 ..) (Ev.pos ((str_nil s).2 h0) (Ev.get (Ev.now _) (by rw [List.append_nil])))
  | cons x t ih =>
    intro out s hs hm hi hl hz
    have hs' : Rd.bl s = recA x ++ cat t := by rw [hs, cat, List.flatMap_cons]; rfl
    have hx := hm x List.mem_cons_self
    have hd := decA_of hs' hx
    have hge := recA_ge x
    have hsz : s.size = (recA x).length + (cat t).length := by rw [Rd.bl_size, hs', List.length_append]
    rw [List.length_append, List.length_cons] at hl
    refine Ev.step (fun k => record_Unpack.l0.eq_2 ..) (Ev.neg (by rw [str_nil]; omega) ?_)
    simp only [dec_eq s (by omega), hd, Option.bind_some]
    refine Ev.pos (by first | rfl | trivial) (Ev.neg (by omega) ?_)
    have key : Ev (fun k => if out.length < 1759218604441 then (if (0 : Int) ≤ ((recA x).length : Int) then (if ((recA x).length : Int) ≤ (s.size : Int) then (record_Unpack.l0 k (s.extract (((recA x).length : Int)).toNat s.size) (out ++ [x])) else none) else none) else none) (out ++ x :: t, 0) := by
      refine Ev.pos (by omega) (Ev.pos (by omega) (Ev.pos (by omega) ?_))
      rw [Int.toNat_natCast]
      have := ih (out ++ [x]) (s.extract (recA x).length s.size) (by rw [Rd.bl_extract, hs', List.drop_left, hsz, Nat.add_sub_cancel_left, List.take_length]) (fun y hy => hm y (List.mem_cons_of_mem _ hy)) (by rwa [List.append_assoc, List.singleton_append]) (by simp; omega) (by rw [ByteArray.size_extract]; omega)
      rwa [List.append_assoc, List.singleton_append] at this
    by_cases h0 : (out.length : Int) > 0
    · have hw : wrap64 ((out.length : Int) - 1) = ((out.length - 1 : Nat) : Int) := by rw [wrap_id (by omega) (by omega)]; omega
      have hj := hi (out.length - 1) (by rw [List.length_append, List.length_cons]; omega)
      have hlt : out.length - 1 < out.length := by omega
      rw [List.getElem_append_left hlt] at hj
      have e2 : (out ++ x :: t)[out.length - 1 + 1]'(by rw [List.length_append, List.length_cons]; omega) = x := by
        have : out.length - 1 + 1 = out.length := by omega
        simp only [this]
        rw [List.getElem_append_right (Nat.le_refl _)]
        simp
      rw [e2] at hj
      refine Ev.pos h0 ?_
      rw [hw]
      refine Ev.pos (by omega) (Ev.pos (by omega) ?_)
      rw [rd23 out _ hlt]
      exact Ev.neg (by omega) key
    · exact Ev.neg h0 key
theorem unpack_ok (l : List S23) (s : ByteArray) (hs : Rd.bl s = cat l) (hn : l ≠ []) (hm : ∀ x ∈ l, mayA x = true) (hi : Inc l) (hl : l.length ≤ 8) (hz : s.size ≤ 773) : Ev (fun k => record_Unpack.f k s) (l, 0) := by
  have h0 : s.size ≠ 0 := by
    obtain ⟨x, t, rfl⟩ := List.exists_cons_of_ne_nil hn
    have := recA_ge x
    rw [Rd.bl_size, hs, cat, List.flatMap_cons, List.length_append]; omega
  unfold record_Unpack.f
  refine Ev.neg (by rw [str_nil]; exact h0) (Ev.step (fun k => record_Unpack.j0.eq_2 ..) (Ev.neg (by simp; omega) ?_))
  have := unpackL l [] s hs hm (by simpa using hi) (by simpa using hl) (by omega)
  simpa using this
end Go.Proofs.Ytmkpdknlkblegaa.Pu
