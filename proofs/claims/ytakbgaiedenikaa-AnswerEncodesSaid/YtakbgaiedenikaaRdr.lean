/- Several texts of this claim in one. -/
import Derived.Test.YtakbgaiedenikaaBase
import Derived.Test.YtakbgaiedenikaaMay
import Derived.Test.YtakbgaiedenikaaPBx15
import Derived.Laws.BitsLemmas
import Derived.Recover
import Derived.WalkLawsBesides
import Derived.Laws.Pointers
import Derived.WalkMore
/- What nums.Unchain tells, out of the printed functions. -/
namespace Go.Proofs.Ytakbgaiedenikaa.Rd
open Go.RowKit Go.Proofs.YtakbgaiedenikaaW.PrintWords Go.Proofs.YtakbgaiedenikaaW.PrintMore Go.Proofs.Ytakbgaiedenikaa.PB Go.Proofs.Ytakbgaiedenikaa.Pu
set_option linter.unusedSimpArgs false
set_option linter.unusedVariables false
def T3 (x : Nat × Nat × Nat) : Int × Int × Int := ((x.1 : Int), (x.2.1 : Int), (x.2.2 : Int))
theorem bt_get (s : ByteArray) (i : Nat) (h : i < s.size) : bt s (i : Int) = ((s[i]'h).toNat : Int) := by
  unfold bt
  rw [dif_pos (by rw [Int.toNat_natCast]; exact h)]
  rfl
theorem and127 (b : Nat) (h : b < 256) : Go.bits .and .u8 (b : Int) 127 = ((b % 128 : Nat) : Int) := by
  have := Go.bits_mask .u8 8 (by decide) Go.wraps_u8 7 (by decide) (b : Int) (by omega) (by omega)
  rw [show ((2 : Int) ^ 7 - 1) = 127 by decide] at this
  rw [this]; omega
theorem wraps_u64 (n : Int) (h₀ : 0 ≤ n) (h₁ : n < 2 ^ 64) : IntKind.u64.wrap n = n := by rw [IntKind.wrap_u64]; exact Int.emod_eq_of_lt h₀ (by simpa using h₁)
theorem or_hi (v x i : Nat) (hv : v < 2 ^ i) (hx : x * 2 ^ i < 18446744073709551616) (hi : i ≤ 63) : Go.bits .or .u64 (v : Int) ((x * 2 ^ i : Nat) : Int) = ((v + x * 2 ^ i : Nat) : Int) := by
  have hv2 : v < 2 ^ 64 := Nat.lt_of_lt_of_le hv (Nat.pow_le_pow_right (by decide) (by omega))
  have h := (Go.bits_nat .u64 64 (by decide) wraps_u64 v (x * 2 ^ i) hv2 (by simpa using hx)).2
  rw [h, Nat.or_comm, Nat.mul_comm x, ← Nat.two_pow_add_eq_or_of_lt hv, Nat.add_comm]
theorem shl_chain (x i : Nat) (hi : i ≤ 9) (hx : x * 128 ^ i < 18446744073709551616) : shl .u64 (x : Int) (7 * (i : Int)) = ((x * 2 ^ (7 * i) : Nat) : Int) := by
  have e : (7 * (i : Int)).toNat = 7 * i := by omega
  unfold shl
  rw [e, Nat.min_eq_left (by simp [IntKind.bits]; omega)]
  rw [show (128 : Nat) = 2 ^ 7 from rfl, ← Nat.pow_mul] at hx
  rw [show ((x : Int) * 2 ^ (7 * i)) = ((x * 2 ^ (7 * i) : Nat) : Int) by push_cast; rfl]
  exact wraps_u64 _ (by omega) (by exact_mod_cast hx)
theorem unchain_loop (s : ByteArray) (f : Nat) : ∀ (i v : Nat), i + f = 10 → i ≤ s.size → v < 128 ^ i →
    Ev (fun k => nums_Unchain.l0 k s (v : Int) (i : Int)) (T3 (Own.unch (s.data.toList.drop i) i v f)) := by
  induction f with
  | zero =>
    intro i v hi hs hv
    exact Ev.step (fun k => nums_Unchain.l0.eq_2 ..) (Ev.neg (by omega) (Ev.get (Ev.now (0, 0, 4)) (by rw [Own.unch]; rfl)))
  | succ f ih =>
    intro i v hi hs hv
    refine Ev.step (fun k => nums_Unchain.l0.eq_2 ..) (Ev.pos (by omega) ?_)
    by_cases he : i = s.size
    · refine Ev.pos (by omega) ?_
      rw [List.drop_of_length_le (by rw [Array.length_toList]; show s.size ≤ i; omega)]
      exact Ev.now _
    · have hlt : i < s.size := by omega
      have hld : i < s.data.toList.length := by rw [Array.length_toList]; exact hlt
      refine Ev.neg (by omega) (Ev.pos (by omega) (Ev.pos (by omega) ?_))
      rw [bt_get s i hlt, List.drop_eq_getElem_cons hld]
      have hget : s.data.toList[i] = s[i] := rfl
      rw [hget, Own.unch]
      have hb := s[i].toNat_lt
      generalize s[i] = b at *
      have h9 := Own.p128_9
      have j2 : ∀ fl : Bool, fl = decide (b.toNat = 0 ∧ 0 < i) → ¬ (i = 9 ∧ 1 < b.toNat) → Ev (fun k => nums_Unchain.j2 k s (v : Int) (i : Int) (b.toNat : Int) (i : Int) fl) (T3 (if (i = 9 ∧ 1 < b.toNat) ∨ (b.toNat = 0 ∧ 0 < i) then (0, 0, 4) else if b.toNat < 128 then (v + b.toNat * 128 ^ i, i + 1, 0) else Own.unch (s.data.toList.drop (i + 1)) (i + 1) (v + (b.toNat - 128) * 128 ^ i) f)) := by
        intro fl hfl hn9
        refine Ev.step (fun k => nums_Unchain.j2.eq_2 ..) ?_
        by_cases h0 : b.toNat = 0 ∧ 0 < i
        · rw [if_pos (.inr h0)]
          exact Ev.pos (by rw [hfl]; simpa using h0) (Ev.now _)
        · rw [if_neg (by intro h; rcases h with h | h; exact hn9 h; exact h0 h)]
          refine Ev.neg (by rw [hfl]; simpa using h0) ?_
          have hi9 : i ≤ 9 := by omega
          rw [wrap_id (a := 7 * (i : Int)) (by omega) (by omega)]
          refine Ev.pos (by omega) ?_
          have hxb : b.toNat % 128 * 128 ^ i < 18446744073709551616 := by
            by_cases e : i = 9
            · subst e; rw [h9]; omega
            · have h8 : 128 ^ i ≤ 128 ^ 8 := Own.p128_le (by omega)
              have e8 : 128 ^ 8 = 72057594037927936 := by decide
              have := Nat.mul_le_mul (show b.toNat % 128 ≤ 127 by omega) h8
              omega
          have e2 : (128 : Nat) ^ i = 2 ^ (7 * i) := by rw [show (128 : Nat) = 2 ^ 7 from rfl, ← Nat.pow_mul]
          rw [and127 b.toNat hb, wraps_u64 ((b.toNat % 128 : Nat) : Int) (by omega) (by omega), shl_chain _ i hi9 hxb]
          rw [e2] at hv hxb
          rw [or_hi v (b.toNat % 128) (7 * i) hv hxb (by omega), ← e2]
          by_cases h1 : b.toNat < 128
          · rw [if_pos h1, wrap_id (a := (i : Int) + 1) (by omega) (by omega)]
            refine Ev.pos (by omega) (Ev.get (Ev.now _) ?_)
            rw [Nat.mod_eq_of_lt h1]
            rfl
          · rw [if_neg h1, wrap_id (a := (i : Int) + 1) (by omega) (by omega)]
            refine Ev.neg (by omega) ?_
            rw [show b.toNat % 128 = b.toNat - 128 by omega]
            refine ih (i + 1) _ (by omega) (by omega) ?_
            rw [← e2] at hv
            rw [Nat.pow_succ]
            have := Nat.mul_le_mul_right (128 ^ i) (show b.toNat - 128 ≤ 127 by omega)
            omega
      have j1 : ∀ fl : Bool, fl = decide (i = 9 ∧ 1 < b.toNat) → Ev (fun k => nums_Unchain.j1 k s (v : Int) (i : Int) (b.toNat : Int) (i : Int) fl) (T3 (if (i = 9 ∧ 1 < b.toNat) ∨ (b.toNat = 0 ∧ 0 < i) then (0, 0, 4) else if b.toNat < 128 then (v + b.toNat * 128 ^ i, i + 1, 0) else Own.unch (s.data.toList.drop (i + 1)) (i + 1) (v + (b.toNat - 128) * 128 ^ i) f)) := by
        intro fl hfl
        refine Ev.step (fun k => nums_Unchain.j1.eq_2 ..) ?_
        by_cases h1 : i = 9 ∧ 1 < b.toNat
        · rw [if_pos (.inl h1)]
          exact Ev.pos (by rw [hfl]; simpa using h1) (Ev.now _)
        · refine Ev.neg (by rw [hfl]; simpa using h1) ?_
          by_cases h0 : b.toNat = 0
          · exact Ev.pos (by omega) (j2 _ (by apply decide_eq_decide.2; omega) h1)
          · exact Ev.neg (by omega) (j2 _ (by simp; omega) h1)
      by_cases e9 : i = 9
      · exact Ev.pos (by omega) (j1 _ (by apply decide_eq_decide.2; omega))
      · exact Ev.neg (by omega) (j1 _ (by simp; omega))
theorem unchain_ev (s : ByteArray) : Ev (fun k => nums_Unchain.f k s) (T3 (Own.unchain s.data.toList)) := by
  have := unchain_loop s 10 0 0 (by omega) (by omega) (by decide)
  rw [List.drop_zero] at this
  exact this
/-- The text with which bytes begin. -/
def untxt (t : ByteArray) : ByteArray × Int × Int :=
  let u := Own.unchain t.data.toList
  if u.2.2 = 0 then (if 1099511627776 < u.1 then (⟨#[]⟩, 0, 2) else if t.size < u.2.1 + u.1 then (⟨#[]⟩, 0, 3) else (t.extract u.2.1 (u.2.1 + u.1), ((u.2.1 + u.1 : Nat) : Int), 0)) else (⟨#[]⟩, 0, (u.2.2 : Int))
theorem untext_ev (t : ByteArray) (hm : t.size ≤ 9223372036854775807) : Ev (fun k => nums_Untext.f k t) (untxt t) := by
  unfold nums_Untext.f untxt
  have h := unchain_ev t
  generalize hu : Own.unchain t.data.toList = u at *
  obtain ⟨v, n, e⟩ := u
  refine Ev.bind (show Ev _ ((v : Int), (n : Int), (e : Int)) from h) ?_
  simp only
  by_cases he : e = 0
  · subst he
    obtain ⟨r, hr, hn, _⟩ := Own.unchain_bwd hu
    have hl := congrArg List.length hr
    rw [Array.length_toList, List.length_append] at hl
    have hsz : t.data.size = t.size := rfl
    refine Ev.pos rfl ?_
    by_cases hv : 1099511627776 < v
    · exact Ev.pos (by omega) (Ev.get (Ev.now _) (by rw [if_pos rfl, if_pos hv]))
    · refine Ev.neg (by omega) ?_
      rw [wrap_id (a := (t.size : Int) - (n : Int)) (by omega) (by omega), wrap_id (a := (v : Int)) (by omega) (by omega), wraps_u64 ((t.size : Int) - (n : Int)) (by omega) (by omega)]
      by_cases hlen : t.size < n + v
      · exact Ev.pos (by omega) (Ev.get (Ev.now _) (by rw [if_pos rfl, if_neg hv, if_pos hlen]))
      · refine Ev.neg (by omega) ?_
        rw [wrap_id (a := (n : Int) + (v : Int)) (by omega) (by omega)]
        refine Ev.pos (by omega) (Ev.pos (by omega) (Ev.pos (by omega) (Ev.get (Ev.now _) ?_)))
        rw [if_pos rfl, if_neg hv, if_neg hlen]
        simp only [Int.toNat_natCast, Prod.mk.injEq, and_true, Int.natCast_add]
        rw [show ((n : Int) + (v : Int)).toNat = n + v by omega]
  · exact Ev.neg (by omega) (Ev.get (Ev.now _) (by rw [if_neg he]))
end Go.Proofs.Ytakbgaiedenikaa.Rd
/- The reader of records: number and text, by hand: they panic where there is none. -/
namespace Go.Proofs.Ytakbgaiedenikaa.Rd
open Go.RowKit Go.Proofs.YtakbgaiedenikaaW.PrintWords Go.Proofs.Ytakbgaiedenikaa.PB
set_option maxRecDepth 100000
set_option linter.unusedSimpArgs false
set_option linter.unusedVariables false
theorem toSame {P : Program} {f : FuncId} {args : Array Value} {w : World} {n : Nat} {v : Value} (h : Calls P f args (w.drewN n) fun e w' => e = .returned v ∧ Drawn0 (w.drewN n) w') : Calls P f args (w.drewN n) fun e w'' => e = .returned v ∧ ∃ m, w'' = w.drewN m :=
  Calls.quiet_of (h.mono fun _ _ ⟨he, ⟨⟨m, hm⟩⟩⟩ => ⟨he, m, hm⟩)
/-- A number at a place, and where it ends. -/
def num (s : ByteArray) (at_ : Nat) : Option (Nat × Nat) :=
  let u := Own.unchain (s.data.toList.drop at_)
  if u.2.2 = 0 ∧ u.1 ≤ 1099511627776 then some (u.1, at_ + u.2.1) else none
theorem cut_list (s : ByteArray) (a : Nat) : (s.extract a s.size).data.toList = s.data.toList.drop a := by
  rw [ByteArray.data_extract, Array.toList_extract, List.extract_eq_take_drop, List.take_of_length_le]
  rw [List.length_drop, Array.length_toList]; exact Nat.le_refl _
def RB (g : Nat) (s : ByteArray) (at_ : Nat) (w : World) : Prop := w.heap[g]? = some (.cells #[.string s, .int .i64 (at_ : Int)] 134 (0, 0))
theorem num_some {s : ByteArray} {at_ v b : Nat} (h : num s at_ = some (v, b)) : ∃ n, Own.unchain (s.data.toList.drop at_) = (v, n, 0) ∧ b = at_ + n ∧ v ≤ 1099511627776 := by
  unfold num at h
  generalize Own.unchain (s.data.toList.drop at_) = u at h
  obtain ⟨u1, u2, u3⟩ := u
  simp only at h
  by_cases hc : u3 = 0 ∧ u1 ≤ 1099511627776
  · rw [if_pos hc] at h
    simp only [Option.some.injEq, Prod.mk.injEq] at h
    obtain ⟨rfl, rfl⟩ := h
    exact ⟨u2, by rw [hc.1], rfl, hc.2⟩
  · rw [if_neg hc] at h; cases h
theorem num_none {s : ByteArray} {at_ : Nat} (h : num s at_ = none) : ∃ u1 u2 u3, Own.unchain (s.data.toList.drop at_) = (u1, u2, u3) ∧ (u3 ≠ 0 ∨ 1099511627776 < u1) := by
  unfold num at h
  generalize hu : Own.unchain (s.data.toList.drop at_) = u at h
  obtain ⟨u1, u2, u3⟩ := u
  simp only at h
  by_cases hc : u3 = 0 ∧ u1 ≤ 1099511627776
  · rw [if_pos hc] at h; cases h
  · exact ⟨u1, u2, u3, rfl, by omega⟩
theorem num_le {s : ByteArray} {at_ v b : Nat} (hs : at_ ≤ s.size) (h : num s at_ = some (v, b)) : at_ < b ∧ b ≤ s.size ∧ v ≤ 1099511627776 := by
  obtain ⟨n, hu, rfl, hv⟩ := num_some h
  obtain ⟨r, hr, hn, _⟩ := Own.unchain_bwd hu
  have hl := congrArg List.length hr
  have hp := Own.chainL_pos v
  rw [List.length_drop, Array.length_toList, List.length_append] at hl
  have : s.data.size = s.size := rfl
  omega
set_option maxHeartbeats 1000000 in
theorem number_ok {g : Nat} {s : ByteArray} {at_ v b : Nat} (w : World) (hb : RB g s at_ w) (hs : at_ ≤ s.size) (hm : s.size ≤ 9223372036854775807) (h : num s at_ = some (v, b)) :
    Calls Try.prog 74 #[.pointer (some ⟨g, 0, none⟩)] w fun e w' => e = .returned (.int .i64 (v : Int)) ∧ ∃ n, w' = (w.setCell ⟨g, 1, none⟩ (.int .i64 (b : Int))).drewN n := by
  obtain ⟨hlt, hle, hv⟩ := num_le hs h
  obtain ⟨n, hu, rfl, _⟩ := num_some h
  obtain ⟨k, hk⟩ := Ev.rounds (unchain_ev (s.extract at_ s.size))
  rw [cut_list, hu] at hk
  clear h
  have Hk := Lib.hid hk; clear hk hu
  have c0 := Own.blk_cell hb 0
  have c1 := Own.blk_cell hb 1
  have f1 := Own.blk_free hb 1
  simp at c0 c1
  have Hb := Lib.hid hb; clear hb
  have hs0 : (0 : Int) ≤ (at_ : Int) := by omega
  have hs1 : (at_ : Int) ≤ (s.size : Int) := by omega
  have hv1 : ¬ (1099511627776 : Int) < (v : Int) := by omega
  have hw : IntKind.i64.wrap (v : Int) = v := IntWalk.i64_in _ (by omega)
  go_enter Try.func74, Try.ntmps74
  go_wp2_with fail
  go_quiet ((go_at_call 66; exact toSame (nums_Unchain.calls k _ _ _ _ _ Hk.out)))
  go_wp2
  go_ret
  exact ⟨rfl, _, rfl⟩
set_option maxHeartbeats 1000000 in
theorem number_bad {g : Nat} {s : ByteArray} {at_ : Nat} (w : World) (hb : RB g s at_ w) (hs : at_ ≤ s.size) (hm : s.size ≤ 9223372036854775807) (h : num s at_ = none) :
    Calls Try.prog 74 #[.pointer (some ⟨g, 0, none⟩)] w fun e w' => e = .panicked [{ v := .iface 137 (.agg #[]), recovered := false }] ∧ ∃ n, w' = w.drewN n := by
  obtain ⟨u1, u2, u3, hu, hbad⟩ := num_none h
  obtain ⟨k, hk⟩ := Ev.rounds (unchain_ev (s.extract at_ s.size))
  rw [cut_list, hu] at hk
  clear h
  have Hk := Lib.hid hk; clear hk hu
  have c0 := Own.blk_cell hb 0
  have c1 := Own.blk_cell hb 1
  have f1 := Own.blk_free hb 1
  simp at c0 c1
  have Hb := Lib.hid hb; clear hb
  have hs0 : (0 : Int) ≤ (at_ : Int) := by omega
  have hs1 : (at_ : Int) ≤ (s.size : Int) := by omega
  by_cases h3 : u3 = 0
  · have h1 : (1099511627776 : Int) < (u1 : Int) := by omega
    subst h3
    clear hbad
    go_enter Try.func74, Try.ntmps74
    go_wp2_with fail
    go_quiet ((go_at_call 66; exact toSame (nums_Unchain.calls k _ _ _ _ _ Hk.out)))
    go_wp2
    exact ⟨rfl, rfl, _, rfl⟩
  · have h1 : ((u3 : Int) == 0) = false := by rw [beq_eq_false_iff_ne]; omega
    have h2 : ((u3 : Int) != 0) = true := by rw [bne_iff_ne]; omega
    clear hbad h3
    go_enter Try.func74, Try.ntmps74
    go_wp2_with fail
    go_quiet ((go_at_call 66; exact toSame (nums_Unchain.calls k _ _ _ _ _ Hk.out)))
    go_wp2
    exact ⟨rfl, rfl, _, rfl⟩
/-- A text at a place, and where it ends. -/
def txt (s : ByteArray) (at_ : Nat) : Option (ByteArray × Nat) :=
  let u := Own.unchain (s.data.toList.drop at_)
  if u.2.2 = 0 ∧ u.1 ≤ 1099511627776 ∧ at_ + u.2.1 + u.1 ≤ s.size then some (s.extract (at_ + u.2.1) (at_ + u.2.1 + u.1), at_ + u.2.1 + u.1) else none
theorem cut_size (s : ByteArray) (a : Nat) : (s.extract a s.size).size = s.size - a := by rw [ByteArray.size_extract]; omega
theorem cut_cut (s : ByteArray) (a n v : Nat) (h : a + n + v ≤ s.size) : (s.extract a s.size).extract n (n + v) = s.extract (a + n) (a + n + v) := by
  apply ByteArray.ext
  rw [← Array.toArray_toList (xs := ((s.extract a s.size).extract n (n + v)).data), ← Array.toArray_toList (xs := (s.extract (a + n) (a + n + v)).data)]
  congr 1
  rw [ByteArray.data_extract, Array.toList_extract, List.extract_eq_take_drop, cut_list, ByteArray.data_extract, Array.toList_extract, List.extract_eq_take_drop, List.drop_drop]
  congr 1
  omega
theorem txt_some {s : ByteArray} {at_ b : Nat} {t : ByteArray} (hs : at_ ≤ s.size) (h : txt s at_ = some (t, b)) : untxt (s.extract at_ s.size) = (t, (b : Int) - (at_ : Int), 0) ∧ at_ < b ∧ b ≤ s.size := by
  unfold txt at h
  unfold untxt
  rw [cut_list, cut_size]
  generalize hu : Own.unchain (s.data.toList.drop at_) = u at h
  obtain ⟨v, n, e⟩ := u
  simp only at h ⊢
  by_cases hc : e = 0 ∧ v ≤ 1099511627776 ∧ at_ + n + v ≤ s.size
  · rw [if_pos hc] at h
    simp only [Option.some.injEq, Prod.mk.injEq] at h
    obtain ⟨rfl, rfl⟩ := h
    obtain ⟨rfl, hv, hl⟩ := hc
    obtain ⟨r, hr, hn, _⟩ := Own.unchain_bwd hu
    have hp := Own.chainL_pos v
    refine ⟨?_, by omega, hl⟩
    rw [if_pos rfl, if_neg (by omega), if_neg (by omega), cut_cut s at_ n v hl]
    simp only [Prod.mk.injEq, true_and, and_true]
    omega
  · rw [if_neg hc] at h; cases h
theorem txt_none {s : ByteArray} {at_ : Nat} (hs : at_ ≤ s.size) (h : txt s at_ = none) : ∃ e : Int, untxt (s.extract at_ s.size) = (⟨#[]⟩, 0, e) ∧ e ≠ 0 := by
  unfold txt at h
  unfold untxt
  rw [cut_list, cut_size]
  generalize hu : Own.unchain (s.data.toList.drop at_) = u at h
  obtain ⟨v, n, e⟩ := u
  simp only at h ⊢
  by_cases hc : e = 0 ∧ v ≤ 1099511627776 ∧ at_ + n + v ≤ s.size
  · rw [if_pos hc] at h; cases h
  · by_cases he : e = 0
    · rw [if_pos he]
      by_cases hv : 1099511627776 < v
      · exact ⟨2, by rw [if_pos hv], by decide⟩
      · rw [if_neg hv, if_pos (by omega)]
        exact ⟨3, rfl, by decide⟩
    · exact ⟨e, by rw [if_neg he], by omega⟩
set_option maxHeartbeats 1000000 in
theorem text_ok {g : Nat} {s t : ByteArray} {at_ b : Nat} (w : World) (hb : RB g s at_ w) (hs : at_ ≤ s.size) (hm : s.size ≤ 9223372036854775807) (h : txt s at_ = some (t, b)) :
    Calls Try.prog 75 #[.pointer (some ⟨g, 0, none⟩)] w fun e w' => e = .returned (.string t) ∧ ∃ n, w' = (w.setCell ⟨g, 1, none⟩ (.int .i64 (b : Int))).drewN n := by
  obtain ⟨hu, hlt, hle⟩ := txt_some hs h
  obtain ⟨k, hk⟩ := Ev.rounds (untext_ev (s.extract at_ s.size) (by rw [cut_size]; omega))
  rw [hu] at hk
  clear h
  have Hk := Lib.hid hk; clear hk hu
  have c0 := Own.blk_cell hb 0
  have c1 := Own.blk_cell hb 1
  have f1 := Own.blk_free hb 1
  simp at c0 c1
  have Hb := Lib.hid hb; clear hb
  have hs0 : (0 : Int) ≤ (at_ : Int) := by omega
  have hs1 : (at_ : Int) ≤ (s.size : Int) := by omega
  obtain ⟨d, hd⟩ : ∃ d, (b : Int) - (at_ : Int) = d := ⟨_, rfl⟩
  rw [hd] at Hk
  have he : (at_ : Int) + d = (b : Int) := by omega
  have hd0 : 0 ≤ d := by omega
  have hd1 : d ≤ 9223372036854775807 := by omega
  have hw : IntKind.i64.wrap ((at_ : Int) + d) = (b : Int) := by rw [he]; exact IntWalk.i64_in _ (by omega)
  have hw2 : wrap64 ((at_ : Int) + d) = (b : Int) := by rw [he]; exact Pu.wrap_id (by omega) (by omega)
  clear hd
  have He := Lib.hid he; clear he
  go_enter Try.func75, Try.ntmps75
  go_wp2_with fail
  go_quiet ((go_at_call 69; exact toSame (nums_Untext.calls k _ _ _ _ _ Hk.out)))
  go_wp2
  go_ret
  exact ⟨rfl, _, rfl⟩
set_option maxHeartbeats 1000000 in
theorem text_bad {g : Nat} {s : ByteArray} {at_ : Nat} (w : World) (hb : RB g s at_ w) (hs : at_ ≤ s.size) (hm : s.size ≤ 9223372036854775807) (h : txt s at_ = none) :
    Calls Try.prog 75 #[.pointer (some ⟨g, 0, none⟩)] w fun e w' => e = .panicked [{ v := .iface 137 (.agg #[]), recovered := false }] ∧ ∃ n, w' = w.drewN n := by
  obtain ⟨u3, hu, hbad⟩ := txt_none hs h
  obtain ⟨k, hk⟩ := Ev.rounds (untext_ev (s.extract at_ s.size) (by rw [cut_size]; omega))
  rw [hu] at hk
  clear h
  have Hk := Lib.hid hk; clear hk hu
  have c0 := Own.blk_cell hb 0
  have c1 := Own.blk_cell hb 1
  have f1 := Own.blk_free hb 1
  simp at c0 c1
  have Hb := Lib.hid hb; clear hb
  have hs0 : (0 : Int) ≤ (at_ : Int) := by omega
  have hs1 : (at_ : Int) ≤ (s.size : Int) := by omega
  have h1 : ((u3 : Int) == 0) = false := by rw [beq_eq_false_iff_ne]; exact hbad
  have h2 : ((u3 : Int) != 0) = true := by rw [bne_iff_ne]; exact hbad
  clear hbad
  go_enter Try.func75, Try.ntmps75
  go_wp2_with fail
  go_quiet ((go_at_call 69; exact toSame (nums_Untext.calls k _ _ _ _ _ Hk.out)))
  go_wp2
  exact ⟨rfl, rfl, _, rfl⟩
end Go.Proofs.Ytakbgaiedenikaa.Rd
/- (*reader).record: its deferred closure, by hand. -/
namespace Go.Proofs.Ytakbgaiedenikaa.Rd
open Go.RowKit Go.Proofs.YtakbgaiedenikaaW.PrintWords Go.Proofs.Ytakbgaiedenikaa.PB
set_option maxRecDepth 100000
set_option linter.unusedSimpArgs false
set_option linter.unusedVariables false
def zrec : Array Value := #[.int .i64 0, .int .i64 0, .string ⟨#[]⟩, .string ⟨#[]⟩, .bool false, .int .i64 0, .int .i64 0, .int .i64 0]
set_option maxHeartbeats 4000000 in
theorem catch_panicking {o : Nat} {v0 v1 v2 v3 v4 v5 v6 v7 b0 : Value} (older : List PanicEntry) (w : World) (ho : w.heap[o]? = some (.cells #[v0, v1, v2, v3, v4, v5, v6, v7] 54 (0, 0))) (hk : w.heap[o + 1]? = some (.cells #[b0] 4 (0, 0))) :
    CallsD Try.prog 73 #[.pointer (some ⟨o, 0, none⟩), .pointer (some ⟨o + 1, 0, none⟩)] (.panicking ({ v := .iface 137 (.agg #[]), recovered := false } :: older)) w fun e u' w' =>
      e = .returned (.tuple #[]) ∧ u' = .panicking ({ v := .iface 137 (.agg #[]), recovered := true } :: older) ∧ w'.heap[o]? = some (.cells zrec 54 (0, 0)) ∧ w'.heap[o + 1]? = some (.cells #[.bool false] 4 (0, 0)) ∧ ∀ B, B ≤ o → Below B w w' := by
  have hta : ∀ W : World, (Instr.typeAssert (.iface 137 (.agg #[])) 20 137 true).run Try.prog W = .ok (.tuple #[.agg #[], .bool true]) W := fun _ => by kernel_rfl
  have hno := Own.blk_lt ho
  have hnk := Own.blk_lt hk
  have c0 := Own.blk_cell ho 0
  have f0 := Own.blk_free ho 0
  have c1 := Own.blk_cell ho 1
  have f1 := Own.blk_free ho 1
  have c2 := Own.blk_cell ho 2
  have f2 := Own.blk_free ho 2
  have c3 := Own.blk_cell ho 3
  have f3 := Own.blk_free ho 3
  have c4 := Own.blk_cell ho 4
  have f4 := Own.blk_free ho 4
  have c5 := Own.blk_cell ho 5
  have f5 := Own.blk_free ho 5
  have c6 := Own.blk_cell ho 6
  have f6 := Own.blk_free ho 6
  have c7 := Own.blk_cell ho 7
  have f7 := Own.blk_free ho 7
  have ck := Own.blk_cell hk 0
  have fk := Own.blk_free hk 0
  simp at c0 c1 c2 c3 c4 c5 c6 c7 ck
  have HO := Lib.hid ho; clear ho
  have HK := Lib.hid hk; clear hk
  refine callsD_of_wpS Try.func73 rfl fun c₀ cs hu => ?_
  apply wpS_seq
  apply wpS_region
  simp [wpOpsS, go_sem, recoverD, hu, Try.ntmps73, Exit.thenS]
  refine wpS_of_wp ?_
  go_hide hQ
  change Code.wp _ _ _ { tmps := #[.pointer (some ⟨o, 0, none⟩), .pointer (some ⟨o + 1, 0, none⟩), .iface 137 (.agg #[]), undef, undef, .iface 137 (.agg #[]), undef, undef, undef, undef, undef, undef, undef, undef, undef, undef, undef], defers := [] } _
  go_wp2
  subst hQ
  have e1 := (Own.heap_set (i := 7) (Own.heap_set (i := 6) (Own.heap_set (i := 5) (Own.heap_set (i := 4) (Own.heap_set (i := 3) (Own.heap_set (i := 2) (Own.heap_set (i := 1) (Own.heap_set (i := 0) HO.out (.int .i64 0)) (.int .i64 0)) (.string ⟨#[]⟩)) (.string ⟨#[]⟩)) (.bool false)) (.int .i64 0)) (.int .i64 0)) (.int .i64 0))
  have e2 := ((Own.heap_far _ ⟨o, 7, none⟩ (.int .i64 0) (k := o + 1) (by simp)).trans ((Own.heap_far _ ⟨o, 6, none⟩ (.int .i64 0) (k := o + 1) (by simp)).trans ((Own.heap_far _ ⟨o, 5, none⟩ (.int .i64 0) (k := o + 1) (by simp)).trans ((Own.heap_far _ ⟨o, 4, none⟩ (.bool false) (k := o + 1) (by simp)).trans ((Own.heap_far _ ⟨o, 3, none⟩ (.string ⟨#[]⟩) (k := o + 1) (by simp)).trans ((Own.heap_far _ ⟨o, 2, none⟩ (.string ⟨#[]⟩) (k := o + 1) (by simp)).trans ((Own.heap_far _ ⟨o, 1, none⟩ (.int .i64 0) (k := o + 1) (by simp)).trans ((Own.heap_far _ ⟨o, 0, none⟩ (.int .i64 0) (k := o + 1) (by simp)).trans HK.out))))))))
  have e3 := Own.heap_set (i := 0) e2 (.bool false)
  have e4 := (Own.heap_far _ ⟨o + 1, 0, none⟩ (.bool false) (k := o) (by simp)).trans e1
  have n1 := Own.blk_lt e3
  have n2 := Own.blk_lt e4
  have e5 := (Own.heap_old _ (.cells #[] 137) n1).trans e3
  have e6 := (Own.heap_old _ (.cells #[] 137) n2).trans e4
  have eB : ∀ B, B ≤ o → Below B w (((((((((w.setCell ⟨o, 0, none⟩ (.int .i64 0)).setCell ⟨o, 1, none⟩ (.int .i64 0)).setCell ⟨o, 2, none⟩ (.string ⟨#[]⟩)).setCell ⟨o, 3, none⟩ (.string ⟨#[]⟩)).setCell ⟨o, 4, none⟩ (.bool false)).setCell ⟨o, 5, none⟩ (.int .i64 0)).setCell ⟨o, 6, none⟩ (.int .i64 0)).setCell ⟨o, 7, none⟩ (.int .i64 0)).setCell ⟨o + 1, 0, none⟩ (.bool false)) := by
    intro B hB
    repeat (refine Below.setCell ?_ (by simp; omega) _)
    exact Below.refl _ _
  simp only [bodyPostS, results, Try.results73]
  have e7 : ((((((((((w.setCell ⟨o, 0, none⟩ (.int .i64 0)).setCell ⟨o, 1, none⟩ (.int .i64 0)).setCell ⟨o, 2, none⟩ (.string ⟨#[]⟩)).setCell ⟨o, 3, none⟩ (.string ⟨#[]⟩)).setCell ⟨o, 4, none⟩ (.bool false)).setCell ⟨o, 5, none⟩ (.int .i64 0)).setCell ⟨o, 6, none⟩ (.int .i64 0)).setCell ⟨o, 7, none⟩ (.int .i64 0)).setCell ⟨o + 1, 0, none⟩ (.bool false)).alloc (.cells #[] 137)).heap[o]? = some (.cells zrec 54 (0, 0)) := e6
  refine ⟨trivial, _, rfl, .tuple #[], by simp, rfl, rfl, e7, e5, fun B hB => ?_⟩
  exact (eB B hB).alloc (Nat.le_trans hB (Nat.le_of_lt n2)) _
theorem catch_idle {o : Nat} (w : World) :
    CallsD Try.prog 73 #[.pointer (some ⟨o, 0, none⟩), .pointer (some ⟨o + 1, 0, none⟩)] .returning w fun e u' w' => e = .returned (.tuple #[]) ∧ u' = .returning ∧ w' = w := by
  refine callsD_of_wpS Try.func73 rfl fun c₀ cs hu => ?_
  apply wpS_seq
  apply wpS_region
  simp [wpOpsS, go_sem, recoverD, hu, Try.ntmps73, Exit.thenS]
  refine wpS_of_wp ?_
  go_hide hQ
  change Code.wp _ _ _ { tmps := #[.pointer (some ⟨o, 0, none⟩), .pointer (some ⟨o + 1, 0, none⟩), .nilIface, undef, undef, .nilIface, undef, undef, undef, undef, undef, undef, undef, undef, undef, undef, undef], defers := [] } _
  go_wp2
  subst hQ
  cases c₀
  simp_all [bodyPostS, results, Try.results73]
end Go.Proofs.Ytakbgaiedenikaa.Rd
/- (*reader).record: all ways, by hand. -/
namespace Go.Proofs.Ytakbgaiedenikaa.Rd
open Go.RowKit Go.Proofs.YtakbgaiedenikaaW.PrintWords Go.Proofs.Ytakbgaiedenikaa.PB
set_option maxRecDepth 100000
set_option linter.unusedSimpArgs false
set_option linter.unusedVariables false
/-- The first numbers, and where they end. -/
def numsTo (s : ByteArray) : Nat → Option (List Nat × Nat)
  | 0 => some ([], 0)
  | k + 1 => match numsTo s k with
    | none => none
    | some (l, a) => match num s a with
      | none => none
      | some (v, b) => some (l ++ [v], b)
theorem numsTo_none {s : ByteArray} {k n : Nat} (h : numsTo s k = none) (hk : k ≤ n) : numsTo s n = none := by
  induction n with
  | zero => obtain rfl : k = 0 := by omega
            exact h
  | succ n ih =>
    by_cases e : k = n + 1
    · subst e; exact h
    · rw [numsTo, ih (by omega)]
theorem numsTo_le {s : ByteArray} : ∀ {k : Nat} {l : List Nat} {a : Nat}, numsTo s k = some (l, a) → l.length = k ∧ a ≤ s.size ∧ ∀ v ∈ l, v ≤ 1099511627776
  | 0, l, a, h => by
    rw [numsTo] at h; cases h; exact ⟨rfl, by omega, by simp⟩
  | k + 1, l, a, h => by
    rw [numsTo] at h
    cases h1 : numsTo s k with
    | none => rw [h1] at h; cases h
    | some p =>
      obtain ⟨l', a'⟩ := p
      rw [h1] at h
      simp only at h
      obtain ⟨e1, e2, e3⟩ := numsTo_le h1
      cases h2 : num s a' with
      | none => rw [h2] at h; cases h
      | some q =>
        obtain ⟨v, b⟩ := q
        rw [h2] at h
        cases h
        obtain ⟨_, g2, g3⟩ := num_le e2 h2
        refine ⟨by simp [e1], g2, fun x hx => ?_⟩
        rcases List.mem_append.1 hx with hx | hx
        · exact e3 x hx
        · rw [List.mem_singleton.1 hx]; exact g3
/-- A record out of what is read. -/
def mkR (l : List Nat) (key val : ByteArray) : S54 := ⟨(l.getD 0 0 : Nat), (l.getD 1 0 : Nat), key, val, decide (l.getD 5 0 = 1), (l.getD 2 0 : Nat), (l.getD 3 0 : Nat), (l.getD 4 0 : Nat)⟩
/-- The record with which bytes begin, and how many bytes it has. -/
def decR (s : ByteArray) : Option (S54 × Nat) :=
  match numsTo s 6 with
  | none => none
  | some (l, a) => match txt s a with
    | none => none
    | some (key, b) => match txt s b with
      | none => none
      | some (val, c) => if l.getD 5 0 ≤ 1 ∧ PuB.mayB (mkR l key val) = true then some (mkR l key val, c) else none
/-- What stands in the array of numbers. -/
def arrC (l : List Nat) : Array Value := ((l ++ List.replicate (6 - l.length) 0).map fun v : Nat => Value.int .i64 (v : Int)).toArray
theorem arrC_snoc {l : List Nat} (h : l.length < 6) (v : Nat) : arrC (l ++ [v]) = (arrC l).setIfInBounds l.length (.int .i64 (v : Int)) := by
  unfold arrC
  obtain ⟨n, hn⟩ : ∃ n, 6 - l.length = n + 1 := ⟨5 - l.length, by omega⟩
  have e : 6 - (l ++ [v]).length = n := by simp; omega
  rw [e, hn, List.replicate_succ]
  simp
theorem arrC_nil : arrC [] = #[.int .i64 0, .int .i64 0, .int .i64 0, .int .i64 0, .int .i64 0, .int .i64 0] := rfl
theorem arrC_get {l : List Nat} {k : Nat} (h : k < 6) (hl : l.length ≤ 6) : (arrC l)[k]? = some (.int .i64 ((l.getD k 0 : Nat) : Int)) := by
  unfold arrC
  rw [List.getElem?_toArray, List.getElem?_map, List.getD_eq_getElem?_getD]
  by_cases hk : k < l.length
  · rw [List.getElem?_append_left hk, List.getElem?_eq_getElem hk]; rfl
  · rw [List.getElem?_append_right (by omega), List.getElem?_replicate, if_pos (by omega), List.getElem?_eq_none (by omega)]; rfl
structure RS (g o : Nat) (s : ByteArray) (at_ : Nat) (l : List Nat) (r : Array Value) (W w : World) : Prop where
  rb : RB g s at_ w
  out : w.heap[o]? = some (.cells r 54 (0, 0))
  okk : w.heap[o + 1]? = some (.cells #[.bool false] 4 (0, 0))
  arr : w.heap[o + 2]? = some (.cells (arrC l) 111 (0, 0))
  bel : ∀ B, B ≤ g → Below B W w
theorem RS.set {g o : Nat} {s : ByteArray} {a b : Nat} {l : List Nat} {r : Array Value} {W w : World} (h : RS g o s a l r W w) (hg : g < o) (n : Nat) : RS g o s b l r W ((w.setCell ⟨g, 1, none⟩ (.int .i64 (b : Int))).drewN n) :=
  ⟨Own.heap_set h.rb _, (Own.heap_far _ _ _ (by simp; omega)).trans h.out, (Own.heap_far _ _ _ (by simp; omega)).trans h.okk, (Own.heap_far _ _ _ (by simp; omega)).trans h.arr, fun B hB => pw_below_drewN ((h.bel B hB).setCell hB _) n⟩
theorem RS.drewN {g o : Nat} {s : ByteArray} {a : Nat} {l : List Nat} {r : Array Value} {W w : World} (h : RS g o s a l r W w) (n : Nat) : RS g o s a l r W (w.drewN n) := ⟨h.rb, h.out, h.okk, h.arr, fun B hB => pw_below_drewN (h.bel B hB) n⟩
theorem RS.put {g o : Nat} {s : ByteArray} {a : Nat} {l : List Nat} {r : Array Value} {W w : World} (h : RS g o s a l r W w) (hg : g < o) (hl : l.length < 6) (v : Nat) : RS g o s a (l ++ [v]) r W (w.setCell ⟨o + 2, l.length, none⟩ (.int .i64 (v : Int))) :=
  ⟨(Own.heap_far _ _ _ (by simp; omega)).trans h.rb, (Own.heap_far _ _ _ (by simp)).trans h.out, (Own.heap_far _ _ _ (by simp)).trans h.okk, by rw [arrC_snoc hl]; exact Own.heap_set h.arr _, fun B hB => (h.bel B hB).setCell (by simp; omega) _⟩
theorem RS.cell {g o : Nat} {s : ByteArray} {a : Nat} {l : List Nat} {r : Array Value} {W w : World} (h : RS g o s a l r W w) (hg : g < o) (i : Nat) (v : Value) : RS g o s a l (r.setIfInBounds i v) W (w.setCell ⟨o, i, none⟩ v) :=
  ⟨(Own.heap_far _ _ _ (by simp; omega)).trans h.rb, Own.heap_set h.out _, (Own.heap_far _ _ _ (by simp)).trans h.okk, (Own.heap_far _ _ _ (by simp)).trans h.arr, fun B hB => (h.bel B hB).setCell (by simp; omega) _⟩
theorem RS.fill {g o : Nat} {s : ByteArray} {a : Nat} {l : List Nat} {v0 v1 v2 v3 v4 v5 v6 v7 : Value} {W w : World} (h : RS g o s a l #[v0, v1, v2, v3, v4, v5, v6, v7] W w) (hg : g < o) (u0 u1 u2 u3 u4 u5 u6 u7 : Value) :
    RS g o s a l #[u0, u1, u2, u3, u4, u5, u6, u7] W ((((((((w.setCell ⟨o, 0, none⟩ u0).setCell ⟨o, 1, none⟩ u1).setCell ⟨o, 2, none⟩ u2).setCell ⟨o, 3, none⟩ u3).setCell ⟨o, 4, none⟩ u4).setCell ⟨o, 5, none⟩ u5).setCell ⟨o, 6, none⟩ u6).setCell ⟨o, 7, none⟩ u7) := by
  have := (((((((h.cell hg 0 u0).cell hg 1 u1).cell hg 2 u2).cell hg 3 u3).cell hg 4 u4).cell hg 5 u5).cell hg 6 u6).cell hg 7 u7
  simpa using this
theorem RS.below {g o : Nat} {s : ByteArray} {a : Nat} {l : List Nat} {r : Array Value} {W w w1 : World} (h : RS g o s a l r W w) (hb : Below w.heap.size w w1) : RS g o s a l r W w1 :=
  ⟨Own.blk_below h.rb hb, Own.blk_below h.out hb, Own.blk_below h.okk hb, Own.blk_below h.arr hb, fun B hB => (h.bel B hB).trans (hb.mono (Nat.le_trans hB (Nat.le_of_lt (Own.blk_lt h.rb))))⟩
theorem list6 {l : List Nat} (h : l.length = 6) : ∃ a0 a1 a2 a3 a4 a5, l = [a0, a1, a2, a3, a4, a5] := by
  rcases l with _ | ⟨a0, _ | ⟨a1, _ | ⟨a2, _ | ⟨a3, _ | ⟨a4, _ | ⟨a5, _ | ⟨a6, l⟩⟩⟩⟩⟩⟩⟩ <;> simp at h
  exact ⟨a0, a1, a2, a3, a4, a5, rfl⟩
theorem ocells {o : Nat} {w : World} {v0 v1 v2 v3 v4 v5 v6 v7 : Value} {t : TypeId} (h : w.heap[o]? = some (.cells #[v0, v1, v2, v3, v4, v5, v6, v7] t (0, 0))) : w.cell? ⟨o, 0, none⟩ = some v0 ∧ w.cell? ⟨o, 1, none⟩ = some v1 ∧ w.cell? ⟨o, 2, none⟩ = some v2 ∧ w.cell? ⟨o, 3, none⟩ = some v3 ∧ w.cell? ⟨o, 4, none⟩ = some v4 ∧ w.cell? ⟨o, 5, none⟩ = some v5 ∧ w.cell? ⟨o, 6, none⟩ = some v6 ∧ w.cell? ⟨o, 7, none⟩ = some v7 :=
  ⟨by rw [Own.blk_cell h]; rfl, by rw [Own.blk_cell h]; rfl, by rw [Own.blk_cell h]; rfl, by rw [Own.blk_cell h]; rfl, by rw [Own.blk_cell h]; rfl, by rw [Own.blk_cell h]; rfl, by rw [Own.blk_cell h]; rfl, by rw [Own.blk_cell h]; rfl⟩
theorem ofrees {o : Nat} {w : World} {c : Array Value} {t : TypeId} (h : w.heap[o]? = some (.cells c t (0, 0))) : w.frozen? ⟨o, 0, none⟩ = false ∧ w.frozen? ⟨o, 1, none⟩ = false ∧ w.frozen? ⟨o, 2, none⟩ = false ∧ w.frozen? ⟨o, 3, none⟩ = false ∧ w.frozen? ⟨o, 4, none⟩ = false ∧ w.frozen? ⟨o, 5, none⟩ = false ∧ w.frozen? ⟨o, 6, none⟩ = false ∧ w.frozen? ⟨o, 7, none⟩ = false :=
  ⟨Own.blk_free h 0, Own.blk_free h 1, Own.blk_free h 2, Own.blk_free h 3, Own.blk_free h 4, Own.blk_free h 5, Own.blk_free h 6, Own.blk_free h 7⟩
theorem acells {o : Nat} {w : World} {a0 a1 a2 a3 a4 a5 : Nat} (h : w.heap[o + 2]? = some (.cells (arrC [a0, a1, a2, a3, a4, a5]) 111 (0, 0))) : w.cell? ⟨o + 1 + 1, 0, none⟩ = some (.int .i64 a0) ∧ w.cell? ⟨o + 1 + 1, 1, none⟩ = some (.int .i64 a1) ∧ w.cell? ⟨o + 1 + 1, 2, none⟩ = some (.int .i64 a2) ∧ w.cell? ⟨o + 1 + 1, 3, none⟩ = some (.int .i64 a3) ∧ w.cell? ⟨o + 1 + 1, 4, none⟩ = some (.int .i64 a4) ∧ w.cell? ⟨o + 1 + 1, 5, none⟩ = some (.int .i64 a5) :=
  ⟨by rw [show o + 1 + 1 = o + 2 from rfl, Own.blk_cell h]; rfl, by rw [show o + 1 + 1 = o + 2 from rfl, Own.blk_cell h]; rfl, by rw [show o + 1 + 1 = o + 2 from rfl, Own.blk_cell h]; rfl, by rw [show o + 1 + 1 = o + 2 from rfl, Own.blk_cell h]; rfl, by rw [show o + 1 + 1 = o + 2 from rfl, Own.blk_cell h]; rfl, by rw [show o + 1 + 1 = o + 2 from rfl, Own.blk_cell h]; rfl⟩
def Rpost (g : Nat) (s : ByteArray) (w : World) (e : Ending) (w' : World) : Prop :=
  match decR s with
  | none => e = .returned (.tuple #[.agg zrec, .bool false]) ∧ ∀ B, B ≤ g → Below B w w'
  | some (r, c) => e = .returned (.tuple #[.agg #[.int .i64 r.f0, .int .i64 r.f1, .string r.f2, .string r.f3, .bool r.f4, .int .i64 r.f5, .int .i64 r.f6, .int .i64 r.f7], .bool true]) ∧ RB g s c w' ∧ ∀ B, B ≤ g → Below B w w'
theorem Rpost.bad {g : Nat} {s : ByteArray} {w w' : World} (h : decR s = none) (hb : ∀ B, B ≤ g → Below B w w') : Rpost g s w (.returned (.tuple #[.agg zrec, .bool false])) w' := by
  unfold Rpost; rw [h]; exact ⟨rfl, hb⟩
theorem decR_nums {s : ByteArray} {k : Nat} {l : List Nat} {a : Nat} (h : numsTo s k = some (l, a)) (hk : k < 6) (hn : num s a = none) : decR s = none := by
  have h1 : numsTo s (k + 1) = none := by rw [numsTo, h]; simp only; rw [hn]
  unfold decR
  rw [numsTo_none h1 (show k + 1 ≤ 6 by omega)]
theorem zcells {o : Nat} {w : World} (h : w.heap[o]? = some (.cells zrec 54 (0, 0))) : w.cell? ⟨o, 0, none⟩ = some (.int .i64 0) ∧ w.cell? ⟨o, 1, none⟩ = some (.int .i64 0) ∧ w.cell? ⟨o, 2, none⟩ = some (.string ⟨#[]⟩) ∧ w.cell? ⟨o, 3, none⟩ = some (.string ⟨#[]⟩) ∧ w.cell? ⟨o, 4, none⟩ = some (.bool false) ∧ w.cell? ⟨o, 5, none⟩ = some (.int .i64 0) ∧ w.cell? ⟨o, 6, none⟩ = some (.int .i64 0) ∧ w.cell? ⟨o, 7, none⟩ = some (.int .i64 0) :=
  ⟨by rw [Own.blk_cell h]; rfl, by rw [Own.blk_cell h]; rfl, by rw [Own.blk_cell h]; rfl, by rw [Own.blk_cell h]; rfl, by rw [Own.blk_cell h]; rfl, by rw [Own.blk_cell h]; rfl, by rw [Own.blk_cell h]; rfl, by rw [Own.blk_cell h]; rfl⟩
set_option maxHeartbeats 4000000 in
theorem door {g at_ : Nat} {s : ByteArray} {l : List Nat} {w W : World} {v0 v1 v2 v3 v4 v5 v6 v7 : Value} {tmps : Array Value} (h2 : tmps.getD 2 undef = .pointer (some ⟨w.heap.size, 0, none⟩)) (h3 : tmps.getD 3 undef = .pointer (some ⟨w.heap.size + 1, 0, none⟩)) (hg : g < w.heap.size)
    (rs : RS g w.heap.size s at_ l #[v0, v1, v2, v3, v4, v5, v6, v7] w W) (hd : decR s = none) :
    bodyPostD Try.prog Try.f72 (Rpost g s w) (Exit.panic [{ v := .iface 137 (.agg #[]), recovered := false }]) { tmps := tmps, defers := [{ target := .fn (.func 73) #[.pointer (some ⟨w.heap.size, 0, none⟩), .pointer (some ⟨w.heap.size + 1, 0, none⟩)], args := #[] }] } W := by
  refine leaves_cons (f := 73) (args := #[.pointer (some ⟨w.heap.size, 0, none⟩), .pointer (some ⟨w.heap.size + 1, 0, none⟩)]) (by simp) (by simp [go_sem]) ?_
  refine (catch_panicking [] W rs.out rs.okk).mono ?_
  rintro e u' w'' ⟨rfl, rfl, e1, e2, e3⟩
  obtain ⟨z0, z1, z2, z3, z4, z5, z6, z7⟩ := zcells e1
  have y0 : w''.cell? ⟨w.heap.size + 1, 0, none⟩ = some (.bool false) := by rw [Own.blk_cell e2]; rfl
  have fin : Rpost g s w (.returned (.tuple #[.agg zrec, .bool false])) w'' := Rpost.bad hd fun B hB => (rs.bel B hB).trans (e3 B (by omega))
  have Fin := Lib.hid fin; clear fin e1 e2 e3 rs
  rw [Array.getD_eq_getD_getElem?] at h2 h3
  simp [Leaves, settle, results, Try.results72, go_sem, h2, h3, z0, z1, z2, z3, z4, z5, z6, z7, y0]
  exact Fin.out
theorem decR_txt1 {s : ByteArray} {l : List Nat} {a : Nat} (h : numsTo s 6 = some (l, a)) (h1 : txt s a = none) : decR s = none := by unfold decR; rw [h]; simp only; rw [h1]
theorem decR_txt2 {s : ByteArray} {l : List Nat} {a b : Nat} {key : ByteArray} (h : numsTo s 6 = some (l, a)) (h1 : txt s a = some (key, b)) (h2 : txt s b = none) : decR s = none := by unfold decR; rw [h]; simp only; rw [h1]; simp only; rw [h2]
theorem decR_end {s : ByteArray} {l : List Nat} {a b c : Nat} {key val : ByteArray} (h : numsTo s 6 = some (l, a)) (h1 : txt s a = some (key, b)) (h2 : txt s b = some (val, c)) : decR s = if l.getD 5 0 ≤ 1 ∧ PuB.mayB (mkR l key val) = true then some (mkR l key val, c) else none := by unfold decR; rw [h]; simp only; rw [h1]; simp only; rw [h2]
theorem Rpost.good {g : Nat} {s : ByteArray} {w w' : World} {r : S54} {c : Nat} (h : decR s = some (r, c)) (hr : RB g s c w') (hb : ∀ B, B ≤ g → Below B w w') : Rpost g s w (.returned (.tuple #[.agg #[.int .i64 r.f0, .int .i64 r.f1, .string r.f2, .string r.f3, .bool r.f4, .int .i64 r.f5, .int .i64 r.f6, .int .i64 r.f7], .bool true])) w' := by
  unfold Rpost; rw [h]; exact ⟨rfl, hr, hb⟩
set_option maxHeartbeats 4000000 in
theorem door_ret {g o : Nat} {s : ByteArray} {w W : World} {v0 v1 v2 v3 v4 v5 v6 v7 : Value} {tmps : Array Value} (h2 : tmps.getD 2 undef = .pointer (some ⟨o, 0, none⟩)) (h3 : tmps.getD 3 undef = .pointer (some ⟨o + 1, 0, none⟩))
    (ho : W.heap[o]? = some (.cells #[v0, v1, v2, v3, v4, v5, v6, v7] 54 (0, 0))) (hk : W.heap[o + 1]? = some (.cells #[.bool true] 4 (0, 0))) (fin : Rpost g s w (.returned (.tuple #[.agg #[v0, v1, v2, v3, v4, v5, v6, v7], .bool true])) W) :
    bodyPostD Try.prog Try.f72 (Rpost g s w) Exit.ret { tmps := tmps, defers := [{ target := .fn (.func 73) #[.pointer (some ⟨o, 0, none⟩), .pointer (some ⟨o + 1, 0, none⟩)], args := #[] }] } W := by
  have Fin := Lib.hid fin; clear fin
  obtain ⟨z0, z1, z2, z3, z4, z5, z6, z7⟩ := ocells ho
  have y0 : W.cell? ⟨o + 1, 0, none⟩ = some (.bool true) := by rw [Own.blk_cell hk]; rfl
  clear ho hk
  refine leaves_cons (f := 73) (args := #[.pointer (some ⟨o, 0, none⟩), .pointer (some ⟨o + 1, 0, none⟩)]) (by simp) (by simp [go_sem]) ?_
  refine (catch_idle W).mono ?_
  rintro e u' w'' ⟨rfl, rfl, rfl⟩
  rw [Array.getD_eq_getD_getElem?] at h2 h3
  simp [Leaves, settle, results, Try.results72, go_sem, h2, h3, z0, z1, z2, z3, z4, z5, z6, z7, y0]
  exact Fin.out
set_option maxHeartbeats 4000000 in
theorem record_any {g : Nat} {s : ByteArray} (w : World) (hb : RB g s 0 w) (hm : s.size ≤ 9223372036854775807) :
    Calls Try.prog 72 #[.pointer (some ⟨g, 0, none⟩)] w (Rpost g s w) := by
  have hmf : ∀ (fn : Fn) (first cap : Array Value) (w : World), (Instr.makeFunc fn first cap).run Try.prog w = .ok (.func fn first cap) w := fun _ _ _ _ => rfl
  have hg := Own.blk_lt hb
  have hrs : RS g w.heap.size s 0 [] zrec w (((w.alloc (.cells zrec 54)).alloc (.cells #[.bool false] 4)).alloc (.cells (arrC []) 111)) := by
    have a0 := Own.heap_new w (.cells zrec 54)
    have a1 := Own.heap_new (w.alloc (.cells zrec 54)) (.cells #[.bool false] 4)
    have a2 := Own.heap_new ((w.alloc (.cells zrec 54)).alloc (.cells #[.bool false] 4)) (.cells (arrC []) 111)
    rw [show (w.alloc (.cells zrec 54)).heap.size = w.heap.size + 1 by simp] at a1
    rw [show ((w.alloc (.cells zrec 54)).alloc (.cells #[.bool false] 4)).heap.size = w.heap.size + 2 by simp] at a2
    have r1 := (Own.heap_old w (.cells zrec 54) hg).trans hb
    have r2 := (Own.heap_old _ (.cells #[.bool false] 4) (Own.blk_lt r1)).trans r1
    have r3 := (Own.heap_old _ (.cells (arrC []) 111) (Own.blk_lt r2)).trans r2
    have s2 := (Own.heap_old _ (.cells #[.bool false] 4) (Own.blk_lt a0)).trans a0
    have s3 := (Own.heap_old _ (.cells (arrC []) 111) (Own.blk_lt s2)).trans s2
    have t3 := (Own.heap_old _ (.cells (arrC []) 111) (Own.blk_lt a1)).trans a1
    exact ⟨r3, s3, t3, a2, fun B hB => (((Below.refl B w).alloc (by omega) _).alloc (by simp; omega) _).alloc (by simp; omega) _⟩
  have HRS := Lib.hid hrs; clear hrs
  have Hb := Lib.hid hb; clear hb
  go_enter_defers Try.func72, Try.ntmps72
  go_wp2_with fail
  go_loopw [7] (fun x wr => ∃ (k : Nat) (l : List Nat) (a : Nat), k ≤ 6 ∧ x = .int .i64 (k : Int) ∧ numsTo s k = some (l, a) ∧ RS g w.heap.size s a l zrec w wr) (fun x _ => 6 - (intOf x).toNat)
  case atStart => exact ⟨0, [], 0, by omega, rfl, rfl, HRS.out⟩
  case round =>
    obtain ⟨k, l, a, hk, rfl, hn, rs⟩ := hrel
    obtain ⟨hl, ha, hv⟩ := numsTo_le hn
    have Hn := Lib.hid hn; clear hn
    have Rs := Lib.hid rs; clear rs
    have Hv := Lib.hid hv; clear hv
    have Hl := Lib.hid hl; clear hl
    clear HRS
    by_cases hlt : k < 6
    · have hk0 : (0 : Int) ≤ (k : Int) := by omega
      have hk1 : (k : Int) < 6 := by omega
      cases hnum : num s a with
      | none =>
        have Hnum := Lib.hid hnum; clear hnum
        go_wp2_with fail
        refine (number_bad _ Rs.out.rb ha hm Hnum.out).mono ?_
        rintro e w1 ⟨rfl, n, rfl⟩
        go_wp2_with fail
        exact door rfl rfl hg (Rs.out.drewN n) (decR_nums Hn.out hlt Hnum.out)
      | some q =>
        obtain ⟨v, b⟩ := q
        have hnx : numsTo s (k + 1) = some (l ++ [v], b) := by rw [numsTo, Hn.out]; simp only; rw [hnum]
        have Hnx := Lib.hid hnx; clear hnx
        have Hnum := Lib.hid hnum; clear hnum
        go_wp2_with fail
        refine (number_ok _ Rs.out.rb ha hm Hnum.out).mono ?_
        rintro e w1 ⟨rfl, n, rfl⟩
        have R1 := Rs.out.set hg (b := b) n
        generalize (wr.setCell ⟨g, 1, none⟩ (.int .i64 (b : Int))).drewN n = w2 at *
        have hc : w2.cell? ⟨w.heap.size + 1 + 1, k, none⟩ = some (.int .i64 ((l.getD k 0 : Nat) : Int)) := by
          rw [show w.heap.size + 1 + 1 = w.heap.size + 2 by omega, Own.blk_cell R1.arr]; exact arrC_get hlt (by have := Hl.out; omega)
        have hf : w2.frozen? ⟨w.heap.size + 1 + 1, k, none⟩ = false := by
          rw [show w.heap.size + 1 + 1 = w.heap.size + 2 by omega]; exact Own.blk_free R1.arr k
        have R2 := R1.put hg (by have := Hl.out; omega) v
        rw [Hl.out] at R2
        have HR2 := Lib.hid R2; clear R2 R1
        generalize ((l.getD k 0 : Nat) : Int) = c0 at hc
        go_wp2
        go_roundw
        case rel => exact ⟨k + 1, l ++ [v], b, by omega, by go_num, Hnx.out, HR2.out⟩
        case measure => simp [intOf]; omega
    · obtain rfl : k = 6 := by omega
      have hd : decide (((6 : Nat) : Int) < 6) = false := by decide
      obtain ⟨a0, a1, a2, a3, a4, a5, rfl⟩ := list6 Hl.out
      obtain ⟨x0, x1, x2, x3, x4, x5⟩ := acells Rs.out.arr
      obtain ⟨z0, z1, z2, z3, z4, z5, z6, z7⟩ := zcells Rs.out.out
      obtain ⟨y0, y1, y2, y3, y4, y5, y6, y7⟩ := ofrees Rs.out.out
      obtain ⟨fl, hfl⟩ : ∃ fl, decide (a5 = 1) = fl := ⟨_, rfl⟩
      have q5 : ((a5 : Int) == 1) = fl := by rw [← hfl]; by_cases h : a5 = 1 <;> simp [h]; omega
      have Hfl := Lib.hid hfl; clear hfl
      cases ht1 : txt s a with
      | none =>
        have Hd := Lib.hid (decR_txt1 Hn.out ht1)
        have Ht1 := Lib.hid ht1; clear ht1
        go_wp2_with fail
        have R1 := Rs.out.fill hg (.int .i64 a0) (.int .i64 a1) (.string ⟨#[]⟩) (.string ⟨#[]⟩) (.bool fl) (.int .i64 a2) (.int .i64 a3) (.int .i64 a4)
        generalize (((((((wr.setCell ⟨w.heap.size, 0, none⟩ (.int .i64 a0)).setCell _ _).setCell _ _).setCell _ _).setCell _ _).setCell _ _).setCell _ _).setCell _ _ = w2 at *
        refine (text_bad _ R1.rb ha hm Ht1.out).mono ?_
        rintro e w1 ⟨rfl, n, rfl⟩
        go_wp2_with fail
        exact door rfl rfl hg (R1.drewN n) Hd.out
      | some q =>
        obtain ⟨key, b⟩ := q
        obtain ⟨_, hab, hbs⟩ := txt_some ha ht1
        have Ht1 := Lib.hid ht1; clear ht1
        cases ht2 : txt s b with
        | none =>
          have Hd := Lib.hid (decR_txt2 Hn.out Ht1.out ht2)
          have Ht2 := Lib.hid ht2; clear ht2
          go_wp2_with fail
          have R1 := Rs.out.fill hg (.int .i64 a0) (.int .i64 a1) (.string ⟨#[]⟩) (.string ⟨#[]⟩) (.bool fl) (.int .i64 a2) (.int .i64 a3) (.int .i64 a4)
          generalize (((((((wr.setCell ⟨w.heap.size, 0, none⟩ (.int .i64 a0)).setCell _ _).setCell _ _).setCell _ _).setCell _ _).setCell _ _).setCell _ _).setCell _ _ = w2 at *
          refine (text_ok _ R1.rb ha hm Ht1.out).mono ?_
          rintro e w1 ⟨rfl, n, rfl⟩
          have R2 := R1.set hg (b := b) n
          generalize (w2.setCell ⟨g, 1, none⟩ (.int .i64 (b : Int))).drewN n = w3 at *
          obtain ⟨c0, c1, c2, c3, c4, c5, c6, c7⟩ := ocells R2.out
          obtain ⟨f0, f1, f2, f3, f4, f5, f6, f7⟩ := ofrees R2.out
          have R3 := R2.cell hg 2 (.string key)
          have HR3 := Lib.hid R3; clear R3 R2 R1 x0 x1 x2 x3 x4 x5 z0 z1 z2 z3 z4 z5 z6 z7 y0 y1 y2 y3 y4 y5 y6 y7
          go_wp2_with fail
          clear c0 c1 c2 c3 c4 c5 c6 c7 f0 f1 f2 f3 f4 f5 f6 f7
          refine (text_bad _ HR3.out.rb hbs hm Ht2.out).mono ?_
          rintro e w1 ⟨rfl, n2, rfl⟩
          go_wp2_with fail
          have R4 := HR3.out.drewN n2
          exact door rfl rfl hg R4 Hd.out
        | some q2 =>
          obtain ⟨val, c⟩ := q2
          have Hend := Lib.hid (decR_end Hn.out Ht1.out ht2)
          have Ht2 := Lib.hid ht2; clear ht2
          go_wp2_with fail
          have R1 := Rs.out.fill hg (.int .i64 a0) (.int .i64 a1) (.string ⟨#[]⟩) (.string ⟨#[]⟩) (.bool fl) (.int .i64 a2) (.int .i64 a3) (.int .i64 a4)
          generalize (((((((wr.setCell ⟨w.heap.size, 0, none⟩ (.int .i64 a0)).setCell _ _).setCell _ _).setCell _ _).setCell _ _).setCell _ _).setCell _ _).setCell _ _ = w2 at *
          refine (text_ok _ R1.rb ha hm Ht1.out).mono ?_
          rintro e w1 ⟨rfl, n, rfl⟩
          have R2 := R1.set hg (b := b) n
          generalize (w2.setCell ⟨g, 1, none⟩ (.int .i64 (b : Int))).drewN n = w3 at *
          obtain ⟨c0, c1, c2, c3, c4, c5, c6, c7⟩ := ocells R2.out
          obtain ⟨f0, f1, f2, f3, f4, f5, f6, f7⟩ := ofrees R2.out
          have R3 := R2.cell hg 2 (.string key)
          have HR3 := Lib.hid R3; clear R3 R2 R1 x0 x1 x2 x3 x4 x5 z0 z1 z2 z3 z4 z5 z6 z7 y0 y1 y2 y3 y4 y5 y6 y7
          go_wp2_with fail
          clear c0 c1 c2 c3 c4 c5 c6 c7 f0 f1 f2 f3 f4 f5 f6 f7
          refine (text_ok _ HR3.out.rb hbs hm Ht2.out).mono ?_
          rintro e w1 ⟨rfl, n2, rfl⟩
          have R4 := HR3.out.set hg (b := c) n2
          generalize ((w3.setCell ⟨w.heap.size, 2, none⟩ (.string key)).setCell ⟨g, 1, none⟩ (.int .i64 (c : Int))).drewN n2 = w4 at *
          have R4' : RS g w.heap.size s c [a0, a1, a2, a3, a4, a5] #[.int .i64 a0, .int .i64 a1, .string key, .string ⟨#[]⟩, .bool fl, .int .i64 a2, .int .i64 a3, .int .i64 a4] w w4 := R4
          clear R4 HR3
          obtain ⟨c0, c1, c2, c3, c4, c5, c6, c7⟩ := ocells R4'.out
          obtain ⟨f0, f1, f2, f3, f4, f5, f6, f7⟩ := ofrees R4'.out
          obtain ⟨x0, x1, x2, x3, x4, x5⟩ := acells R4'.arr
          have R5 : RS g w.heap.size s c [a0, a1, a2, a3, a4, a5] #[.int .i64 a0, .int .i64 a1, .string key, .string val, .bool fl, .int .i64 a2, .int .i64 a3, .int .i64 a4] w (w4.setCell ⟨w.heap.size, 3, none⟩ (.string val)) := R4'.cell hg 3 (.string val)
          have HR5 := Lib.hid R5; clear R5 R4'
          by_cases h5 : a5 ≤ 1
          · have h5' : ¬ (1 : Int) < (a5 : Int) := by omega
            have emk : mkR [a0, a1, a2, a3, a4, a5] key val = ⟨a0, a1, key, val, fl, a2, a3, a4⟩ := by rw [← Hfl.out]; rfl
            obtain ⟨km, hkm⟩ := Ev.rounds (PuB.recMay_ev ⟨a0, a1, key, val, fl, a2, a3, a4⟩)
            cases hmb : PuB.mayB ⟨a0, a1, key, val, fl, a2, a3, a4⟩ with
            | false =>
              have Hd : Hid (decR s = none) := by have := Hend.out; rw [emk, if_neg (by rw [hmb]; simp)] at this; exact this
              rw [hmb] at hkm
              have Hk := Lib.hid hkm; clear hkm hmb emk Hend h5
              go_wp2_with fail
              refine (record_May.calls km _ _ _ _ _ _ _ _ _ _ Hk.out).mono ?_
              rintro e w6 ⟨rfl, b6⟩
              have R6 := Lib.hid (HR5.out.below b6)
              clear b6 c0 c1 c2 c3 c4 c5 c6 c7 f0 f1 f2 f3 f4 f5 f6 f7 x0 x1 x2 x3 x4 x5
              go_wp2_with fail
              exact door rfl rfl hg R6.out Hd
            | true =>
              have Hd : Hid (decR s = some (⟨a0, a1, key, val, fl, a2, a3, a4⟩, c)) := by have := Hend.out; rw [emk, if_pos ⟨by simpa using h5, hmb⟩] at this; exact this
              rw [hmb] at hkm
              have Hk := Lib.hid hkm; clear hkm hmb emk Hend h5
              go_wp2_with fail
              refine (record_May.calls km _ _ _ _ _ _ _ _ _ _ Hk.out).mono ?_
              rintro e w6 ⟨rfl, b6⟩
              have R6 := Lib.hid (HR5.out.below b6)
              clear b6 c0 c1 c2 c3 c4 c5 c6 c7 f0 f1 f2 f3 f4 f5 f6 f7 x0 x1 x2 x3 x4 x5
              obtain ⟨c0, c1, c2, c3, c4, c5, c6, c7⟩ := ocells R6.out.out
              obtain ⟨f0, f1, f2, f3, f4, f5, f6, f7⟩ := ofrees R6.out.out
              have k0 : w6.cell? ⟨w.heap.size + 1, 0, none⟩ = some (.bool false) := by rw [Own.blk_cell R6.out.okk]; rfl
              have kf := Own.blk_free R6.out.okk 0
              go_wp2_with fail
              have R7 := R6.out.fill hg (.int .i64 a0) (.int .i64 a1) (.string key) (.string val) (.bool fl) (.int .i64 a2) (.int .i64 a3) (.int .i64 a4)
              generalize (((((((w6.setCell ⟨w.heap.size, 0, none⟩ (.int .i64 a0)).setCell _ _).setCell _ _).setCell _ _).setCell _ _).setCell _ _).setCell _ _).setCell _ _ = w7 at *
              have o7 := (Own.heap_far w7 ⟨w.heap.size + 1, 0, none⟩ (.bool true) (k := w.heap.size) (by simp)).trans R7.out
              have k7 := Own.heap_set (i := 0) R7.okk (.bool true)
              have g7 : RB g s c (w7.setCell ⟨w.heap.size + 1, 0, none⟩ (.bool true)) := (Own.heap_far w7 ⟨w.heap.size + 1, 0, none⟩ (.bool true) (k := g) (by simp; omega)).trans R7.rb
              refine door_ret rfl rfl o7 k7 (Rpost.good (r := ⟨a0, a1, key, val, fl, a2, a3, a4⟩) Hd g7 fun B hB => (R7.bel B hB).setCell (by simp; omega) _)
          · have h5' : (1 : Int) < (a5 : Int) := by omega
            have Hd : Hid (decR s = none) := by have := Hend.out; rw [if_neg (by intro h; exact h5 (by simpa using h.1))] at this; exact this
            clear h5
            go_wp2_with fail
            exact door rfl rfl hg HR5.out Hd
end Go.Proofs.Ytakbgaiedenikaa.Rd
/- record.Decode, by hand. -/
namespace Go.Proofs.Ytakbgaiedenikaa.Rd
open Go.RowKit Go.Proofs.YtakbgaiedenikaaW.PrintWords Go.Proofs.Ytakbgaiedenikaa.PB
set_option maxRecDepth 100000
set_option linter.unusedSimpArgs false
set_option linter.unusedVariables false
def agR (r : S54) : Value := .agg #[.int .i64 r.f0, .int .i64 r.f1, .string r.f2, .string r.f3, .bool r.f4, .int .i64 r.f5, .int .i64 r.f6, .int .i64 r.f7]
theorem Rpost.none {g : Nat} {s : ByteArray} {w w' : World} {e : Ending} (h : Rpost g s w e w') (hd : decR s = none) : e = .returned (.tuple #[.agg zrec, .bool false]) ∧ ∀ B, B ≤ g → Below B w w' := by unfold Rpost at h; rw [hd] at h; exact h
theorem Rpost.some {g : Nat} {s : ByteArray} {w w' : World} {e : Ending} {r : S54} {c : Nat} (h : Rpost g s w e w') (hd : decR s = some (r, c)) : e = .returned (.tuple #[agR r, .bool true]) ∧ RB g s c w' ∧ ∀ B, B ≤ g → Below B w w' := by unfold Rpost at h; rw [hd] at h; exact h
theorem fill8 {o : Nat} {w : World} {v0 v1 v2 v3 v4 v5 v6 v7 : Value} {t : TypeId} (h : w.heap[o]? = some (.cells #[v0, v1, v2, v3, v4, v5, v6, v7] t (0, 0))) (u0 u1 u2 u3 u4 u5 u6 u7 : Value) : ((((((((w.setCell ⟨o, 0, none⟩ u0).setCell ⟨o, 1, none⟩ u1).setCell ⟨o, 2, none⟩ u2).setCell ⟨o, 3, none⟩ u3).setCell ⟨o, 4, none⟩ u4).setCell ⟨o, 5, none⟩ u5).setCell ⟨o, 6, none⟩ u6).setCell ⟨o, 7, none⟩ u7).heap[o]? = some (.cells #[u0, u1, u2, u3, u4, u5, u6, u7] t (0, 0)) := by
  have := Own.heap_set (i := 7) (Own.heap_set (i := 6) (Own.heap_set (i := 5) (Own.heap_set (i := 4) (Own.heap_set (i := 3) (Own.heap_set (i := 2) (Own.heap_set (i := 1) (Own.heap_set (i := 0) h u0) u1) u2) u3) u4) u5) u6) u7
  simpa using this
theorem below8 {B o : Nat} {W w : World} (h : Below B W w) (hb : B ≤ o) (u0 u1 u2 u3 u4 u5 u6 u7 : Value) : Below B W ((((((((w.setCell ⟨o, 0, none⟩ u0).setCell ⟨o, 1, none⟩ u1).setCell ⟨o, 2, none⟩ u2).setCell ⟨o, 3, none⟩ u3).setCell ⟨o, 4, none⟩ u4).setCell ⟨o, 5, none⟩ u5).setCell ⟨o, 6, none⟩ u6).setCell ⟨o, 7, none⟩ u7) :=
  ((((((((h.setCell (show B ≤ (⟨o, 0, none⟩ : Addr).block from hb) u0).setCell (show B ≤ (⟨o, 1, none⟩ : Addr).block from hb) u1).setCell (show B ≤ (⟨o, 2, none⟩ : Addr).block from hb) u2).setCell (show B ≤ (⟨o, 3, none⟩ : Addr).block from hb) u3).setCell (show B ≤ (⟨o, 4, none⟩ : Addr).block from hb) u4).setCell (show B ≤ (⟨o, 5, none⟩ : Addr).block from hb) u5).setCell (show B ≤ (⟨o, 6, none⟩ : Addr).block from hb) u6).setCell (show B ≤ (⟨o, 7, none⟩ : Addr).block from hb) u7)
set_option maxHeartbeats 4000000 in
theorem decode_none {s : ByteArray} (w : World) (hm : s.size ≤ 9223372036854775807) (hd : decR s = none) :
    Calls Try.prog 68 #[.string s] w fun e w' => e = .returned (.tuple #[.agg zrec, .int .i64 0, .int .i64 4]) ∧ Below w.heap.size w w' := by
  have Hd := Lib.hid hd; clear hd
  go_enter Try.func68, Try.ntmps68
  go_wp2_with fail
  have hb : RB (w.heap.size + 1) s 0 ((w.alloc (.cells zrec 54)).alloc (.cells #[.string s, .int .i64 0] 134)) := by
    have := Own.heap_new (w.alloc (.cells zrec 54)) (.cells #[.string s, .int .i64 0] 134)
    rwa [show (w.alloc (.cells zrec 54)).heap.size = w.heap.size + 1 by simp] at this
  have hz : ((w.alloc (.cells zrec 54)).alloc (.cells #[.string s, .int .i64 0] 134)).heap[w.heap.size]? = some (.cells zrec 54 (0, 0)) := (Own.heap_old _ _ (by simp)).trans (Own.heap_new w _)
  have hB : Below w.heap.size w ((w.alloc (.cells zrec 54)).alloc (.cells #[.string s, .int .i64 0] 134)) := ((Below.refl _ w).alloc (Nat.le_refl _) _).alloc (by simp) _
  have hsz : ((w.alloc (.cells zrec 54)).alloc (.cells #[.string s, .int .i64 0] 134)).heap.size = w.heap.size + 2 := by simp
  change Calls _ _ _ ((w.alloc (.cells zrec 54)).alloc (.cells #[.string s, .int .i64 0] 134)) _
  generalize (w.alloc (.cells zrec 54)).alloc (.cells #[.string s, .int .i64 0] 134) = W0 at *
  refine (record_any _ hb hm).mono ?_
  intro e w1 hp
  obtain ⟨rfl, hbel⟩ := hp.none Hd.out
  have hz1 := ((hbel (w.heap.size + 1) (Nat.le_refl _)).block w.heap.size (by omega)).trans hz
  have hB1 := Lib.hid (hB.trans (hbel w.heap.size (by omega)))
  have hs1 : w.heap.size < w1.heap.size := Own.blk_lt hz1
  clear hp hbel hz hb hB hsz
  have HZ := Lib.hid hz1; clear hz1
  unfold zrec
  go_upto_region 4 with (fail)
  have hz2 := (Own.heap_old w1 (.cells #[.int .i64 0, .int .i64 0, .string ⟨#[]⟩, .string ⟨#[]⟩, .bool false, .int .i64 0, .int .i64 0, .int .i64 0] 54) (Own.blk_lt HZ.out)).trans HZ.out
  have hB2 := hB1.out.alloc (o := .cells #[.int .i64 0, .int .i64 0, .string ⟨#[]⟩, .string ⟨#[]⟩, .bool false, .int .i64 0, .int .i64 0, .int .i64 0] 54) hB1.out.size
  generalize w1.alloc _ = W1 at *
  clear HZ hB1 hs1
  have HZ := Lib.hid hz2; clear hz2
  have hB1 := Lib.hid hB2; clear hB2
  obtain ⟨z0, z1, z2, z3, z4, z5, z6, z7⟩ := zcells HZ.out
  obtain ⟨f0, f1, f2, f3, f4, f5, f6, f7⟩ := ofrees HZ.out
  go_wp2
  clear z0 z1 z2 z3 z4 z5 z6 z7 f0 f1 f2 f3 f4 f5 f6 f7
  have hf := fill8 HZ.out (.int .i64 0) (.int .i64 0) (.string ⟨#[]⟩) (.string ⟨#[]⟩) (.bool false) (.int .i64 0) (.int .i64 0) (.int .i64 0)
  have hBf := below8 hB1.out (Nat.le_refl _) (.int .i64 0) (.int .i64 0) (.string ⟨#[]⟩) (.string ⟨#[]⟩) (.bool false) (.int .i64 0) (.int .i64 0) (.int .i64 0)
  generalize (((((((W1.setCell ⟨w.heap.size, 0, none⟩ (.int .i64 0)).setCell ⟨w.heap.size, 1, none⟩ _).setCell ⟨w.heap.size, 2, none⟩ _).setCell ⟨w.heap.size, 3, none⟩ _).setCell ⟨w.heap.size, 4, none⟩ _).setCell ⟨w.heap.size, 5, none⟩ _).setCell ⟨w.heap.size, 6, none⟩ _).setCell ⟨w.heap.size, 7, none⟩ _ = W2 at *
  clear hB1 HZ
  obtain ⟨y0, y1, y2, y3, y4, y5, y6, y7⟩ := ocells hf
  clear hf
  exact bodyPost_ret (v := .tuple #[.agg #[.int .i64 0, .int .i64 0, .string ⟨#[]⟩, .string ⟨#[]⟩, .bool false, .int .i64 0, .int .i64 0, .int .i64 0], .int .i64 0, .int .i64 4]) (by simp [results, Try.results68, go_sem, y0, y1, y2, y3, y4, y5, y6, y7]) rfl ⟨rfl, hBf⟩
set_option maxHeartbeats 4000000 in
theorem decode_some {s : ByteArray} {r : S54} {c : Nat} (w : World) (hm : s.size ≤ 9223372036854775807) (hd : decR s = some (r, c)) :
    Calls Try.prog 68 #[.string s] w fun e w' => e = .returned (.tuple #[agR r, .int .i64 (c : Int), .int .i64 0]) ∧ Below w.heap.size w w' := by
  have Hd := Lib.hid hd; clear hd
  go_enter Try.func68, Try.ntmps68
  go_wp2_with fail
  have hb : RB (w.heap.size + 1) s 0 ((w.alloc (.cells zrec 54)).alloc (.cells #[.string s, .int .i64 0] 134)) := by
    have := Own.heap_new (w.alloc (.cells zrec 54)) (.cells #[.string s, .int .i64 0] 134)
    rwa [show (w.alloc (.cells zrec 54)).heap.size = w.heap.size + 1 by simp] at this
  have hz : ((w.alloc (.cells zrec 54)).alloc (.cells #[.string s, .int .i64 0] 134)).heap[w.heap.size]? = some (.cells zrec 54 (0, 0)) := (Own.heap_old _ _ (by simp)).trans (Own.heap_new w _)
  have hB : Below w.heap.size w ((w.alloc (.cells zrec 54)).alloc (.cells #[.string s, .int .i64 0] 134)) := ((Below.refl _ w).alloc (Nat.le_refl _) _).alloc (by simp) _
  have hsz : ((w.alloc (.cells zrec 54)).alloc (.cells #[.string s, .int .i64 0] 134)).heap.size = w.heap.size + 2 := by simp
  change Calls _ _ _ ((w.alloc (.cells zrec 54)).alloc (.cells #[.string s, .int .i64 0] 134)) _
  generalize (w.alloc (.cells zrec 54)).alloc (.cells #[.string s, .int .i64 0] 134) = W0 at *
  refine (record_any _ hb hm).mono ?_
  intro e w1 hp
  obtain ⟨rfl, hrb, hbel⟩ := hp.some Hd.out
  have hz1 := ((hbel (w.heap.size + 1) (Nat.le_refl _)).block w.heap.size (by omega)).trans hz
  have hB1 := Lib.hid (hB.trans (hbel w.heap.size (by omega)))
  have hs1 : w.heap.size < w1.heap.size := Own.blk_lt hz1
  have hs2 : w.heap.size + 1 < w1.heap.size := Own.blk_lt hrb
  clear hp hbel hz hb hB hsz
  obtain ⟨z0, z1, z2, z3, z4, z5, z6, z7⟩ := zcells hz1
  obtain ⟨f0, f1, f2, f3, f4, f5, f6, f7⟩ := ofrees hz1
  have k0 : w1.cell? ⟨w.heap.size + 1, 0, none⟩ = some (.string s) := by rw [Own.blk_cell hrb]; rfl
  have k1 : w1.cell? ⟨w.heap.size + 1, 1, none⟩ = some (.int .i64 (c : Int)) := by rw [Own.blk_cell hrb]; rfl
  have na : ¬ w.heap.size = w1.heap.size := by omega
  have nb : ¬ w1.heap.size = w.heap.size := by omega
  have nc : ¬ w.heap.size + 1 = w1.heap.size := by omega
  have nd : ¬ w1.heap.size = w.heap.size + 1 := by omega
  have HZ := Lib.hid hz1; clear hz1
  have HR := Lib.hid hrb; clear hrb
  obtain ⟨r0, r1, r2, r3, r4, r5, r6, r7⟩ := r
  have Hd2 := Hd; clear Hd
  unfold agR
  simp only
  go_wp2_with fail
  have hx := Own.heap_new w1 (.cells #[.int .i64 r0, .int .i64 r1, .string r2, .string r3, .bool r4, .int .i64 r5, .int .i64 r6, .int .i64 r7] 54)
  have hz2 := (Own.heap_old w1 (.cells #[.int .i64 r0, .int .i64 r1, .string r2, .string r3, .bool r4, .int .i64 r5, .int .i64 r6, .int .i64 r7] 54) (Own.blk_lt HZ.out)).trans HZ.out
  have hr2 := (Own.heap_old w1 (.cells #[.int .i64 r0, .int .i64 r1, .string r2, .string r3, .bool r4, .int .i64 r5, .int .i64 r6, .int .i64 r7] 54) (Own.blk_lt HR.out)).trans HR.out
  have hB2 := hB1.out.alloc (o := .cells #[.int .i64 r0, .int .i64 r1, .string r2, .string r3, .bool r4, .int .i64 r5, .int .i64 r6, .int .i64 r7] 54) hB1.out.size
  clear z0 z1 z2 z3 z4 z5 z6 z7 f0 f1 f2 f3 f4 f5 f6 f7 k0 k1
  generalize w1.alloc _ = W2 at *
  generalize w1.heap.size = gx at *
  obtain ⟨z0, z1, z2, z3, z4, z5, z6, z7⟩ := ocells hx
  obtain ⟨f0, f1, f2, f3, f4, f5, f6, f7⟩ := ofrees hz2
  obtain ⟨y0, y1, y2, y3, y4, y5, y6, y7⟩ := zcells hz2
  have k0 : W2.cell? ⟨w.heap.size + 1, 0, none⟩ = some (.string s) := by rw [Own.blk_cell hr2]; rfl
  have k1 : W2.cell? ⟨w.heap.size + 1, 1, none⟩ = some (.int .i64 (c : Int)) := by rw [Own.blk_cell hr2]; rfl
  have HX := Lib.hid hx; have HZ2 := Lib.hid hz2; have HR2 := Lib.hid hr2; have HB2 := Lib.hid hB2
  clear hx hz2 hr2 hB2 HZ HR hB1
  go_region
  all_goals
    clear z0 z1 z2 z3 z4 z5 z6 z7 f0 f1 f2 f3 f4 f5 f6 f7 y0 y1 y2 y3 y4 y5 y6 y7 k0 k1
    have hf := fill8 HZ2.out (.int .i64 r0) (.int .i64 r1) (.string r2) (.string r3) (.bool r4) (.int .i64 r5) (.int .i64 r6) (.int .i64 r7)
    have hBf := below8 HB2.out (Nat.le_refl _) (.int .i64 r0) (.int .i64 r1) (.string r2) (.string r3) (.bool r4) (.int .i64 r5) (.int .i64 r6) (.int .i64 r7)
    generalize (((((((W2.setCell ⟨w.heap.size, 0, none⟩ (.int .i64 r0)).setCell ⟨w.heap.size, 1, none⟩ _).setCell ⟨w.heap.size, 2, none⟩ _).setCell ⟨w.heap.size, 3, none⟩ _).setCell ⟨w.heap.size, 4, none⟩ _).setCell ⟨w.heap.size, 5, none⟩ _).setCell ⟨w.heap.size, 6, none⟩ _).setCell ⟨w.heap.size, 7, none⟩ _ = W3 at *
    obtain ⟨y0, y1, y2, y3, y4, y5, y6, y7⟩ := ocells hf
    clear hf
    go_wp2
    exact bodyPost_ret (v := .tuple #[.agg #[.int .i64 r0, .int .i64 r1, .string r2, .string r3, .bool r4, .int .i64 r5, .int .i64 r6, .int .i64 r7], .int .i64 (c : Int), .int .i64 0]) (by simp [results, Try.results68, go_sem, y0, y1, y2, y3, y4, y5, y6, y7]) rfl ⟨rfl, by first | exact hBf.drew | exact hBf⟩
end Go.Proofs.Ytakbgaiedenikaa.Rd
