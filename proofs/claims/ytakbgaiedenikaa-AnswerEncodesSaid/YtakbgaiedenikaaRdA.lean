/- Several texts of this claim in one. -/
import Derived.Test.YtakbgaiedenikaaRdr
import Derived.Deep.RegionLaw
import Derived.Deep.RegionHeld
/- The reader of answers: cut, number, text, record. -/
namespace Go.Proofs.Ytakbgaiedenikaa.Rd
open Go.RowKit Go.Proofs.YtakbgaiedenikaaW.PrintWords Go.Proofs.Ytakbgaiedenikaa.PB
set_option maxRecDepth 100000
set_option linter.unusedSimpArgs false
set_option linter.unusedVariables false
/-- All but one block is kept. -/
structure Kp (g : Nat) (w w' : World) : Prop where
  bel : Below g w w'
  rest : ∀ k, g < k → k < w.heap.size → w'.heap[k]? = w.heap[k]?
theorem Kp.refl (g : Nat) (w : World) : Kp g w w := ⟨Below.refl _ _, fun _ _ _ => rfl⟩
theorem Kp.trans {g : Nat} {a b c : World} (h : Kp g a b) (h2 : Kp g b c) : Kp g a c :=
  ⟨h.bel.trans h2.bel, fun k hk hl => (h2.rest k hk (Nat.lt_of_lt_of_le hl h.bel.size)).trans (h.rest k hk hl)⟩
theorem Kp.drewN {g : Nat} {a b : World} (h : Kp g a b) (n : Nat) : Kp g a (b.drewN n) := ⟨pw_below_drewN h.bel n, h.rest⟩
theorem Kp.set {g : Nat} {a b : World} (h : Kp g a b) (v : Value) : Kp g a (b.setCell ⟨g, 0, none⟩ v) :=
  ⟨h.bel.setCell (Nat.le_refl _) _, fun k hk hl => (Own.heap_far _ _ _ (by simp; omega)).trans (h.rest k hk hl)⟩
theorem Kp.below {g : Nat} {a b c : World} (h : Kp g a b) (hg : g ≤ b.heap.size) (hb : Below b.heap.size b c) : Kp g a c :=
  ⟨h.bel.trans (hb.mono hg), fun k hk hl => (hb.block k (Nat.lt_of_lt_of_le hl h.bel.size)).trans (h.rest k hk hl)⟩
theorem Kp.blk {g k : Nat} {w w' : World} {o : Obj} (h : Kp g w w') (hk : w.heap[k]? = some o) (hne : k ≠ g) : w'.heap[k]? = some o := by
  have hl := Own.blk_lt hk
  rcases Nat.lt_or_gt_of_ne hne with h1 | h1
  · exact (h.bel.block k h1).trans hk
  · exact (h.rest k h1 hl).trans hk
/-- What an answer's reader holds. -/
def RT (g : Nat) (t : ByteArray) (w : World) : Prop := w.heap[g]? = some (.cells #[.string t] 70 (0, 0))
/-- The bytes from a place on. -/
def RA (g : Nat) (s : ByteArray) (p : Nat) (w : World) : Prop := RT g (s.extract p s.size) w
theorem tail_cut (s : ByteArray) (p n : Nat) : (s.extract p s.size).extract n (s.extract p s.size).size = s.extract (p + n) s.size := by
  apply ByteArray.ext
  rw [← Array.toArray_toList (xs := ((s.extract p s.size).extract n (s.extract p s.size).size).data), ← Array.toArray_toList (xs := (s.extract (p + n) s.size).data)]
  congr 1
  rw [cut_list, cut_list, cut_list, List.drop_drop]
theorem cut_ok {g : Nat} {t : ByteArray} {n : Nat} (w : World) (hb : RT g t w) (hn : n ≤ t.size) (hm : t.size ≤ 9223372036854775807) :
    Calls Try.prog 67 #[.pointer (some ⟨g, 0, none⟩), .int .i64 (n : Int), .int .i64 0] w fun e w' => e = .returned (.tuple #[]) ∧ RT g (t.extract n t.size) w' ∧ Kp g w w' := by
  have c0 := Own.blk_cell hb 0
  have f0 := Own.blk_free hb 0
  simp at c0
  have fin := Own.heap_set hb (i := 0) (.string (t.extract n t.size))
  have Fin := Lib.hid fin; clear fin
  have Hb := Lib.hid hb; clear hb
  have hs0 : (0 : Int) ≤ (n : Int) := by omega
  have hs1 : (n : Int) ≤ (t.size : Int) := by omega
  go_enter Try.func67, Try.ntmps67
  go_wp2_with fail
  refine bodyPost_end (v := .tuple #[]) (by simp [results, Try.results67, go_sem]) rfl ?_
  exact ⟨rfl, Fin.out, (Kp.refl g w).set _⟩
theorem cut_bad {g : Nat} {x : Int} {e : Int} (w : World) (he : e ≠ 0) :
    Calls Try.prog 67 #[.pointer (some ⟨g, 0, none⟩), .int .i64 x, .int .i64 e] w fun e w' => e = .panicked [{ v := .iface 105 (.agg #[]), recovered := false }] ∧ Kp g w w' := by
  have h1 : (e == 0) = false := by rw [beq_eq_false_iff_ne]; exact he
  have h2 : (e != 0) = true := by rw [bne_iff_ne]; exact he
  clear he
  go_enter Try.func67, Try.ntmps67
  go_wp2_with fail
  exact ⟨rfl, rfl, Kp.refl g w⟩

theorem RA.step {g : Nat} {s : ByteArray} {p n : Nat} {w : World} (h : RT g ((s.extract p s.size).extract n (s.extract p s.size).size) w) : RA g s (p + n) w := by
  rw [tail_cut] at h; exact h
set_option maxHeartbeats 1000000 in
theorem anumber_ok {g : Nat} {s : ByteArray} {p v b : Nat} (w : World) (hb : RA g s p w) (hs : p ≤ s.size) (hm : s.size ≤ 9223372036854775807) (h : num s p = some (v, b)) :
    Calls Try.prog 54 #[.pointer (some ⟨g, 0, none⟩)] w fun e w' => e = .returned (.int .i64 (v : Int)) ∧ RA g s b w' ∧ Kp g w w' := by
  obtain ⟨hlt, hle, hv⟩ := num_le hs h
  obtain ⟨n, hu, rfl, _⟩ := num_some h
  obtain ⟨k, hk⟩ := Ev.rounds (unchain_ev (s.extract p s.size))
  rw [cut_list, hu] at hk
  clear h
  have Hk := Lib.hid hk; clear hk hu
  have c0 := Own.blk_cell hb 0
  simp at c0
  have Hb := Lib.hid hb; clear hb
  have hz := cut_size s p
  have hv1 : ¬ (1099511627776 : Int) < (v : Int) := by omega
  have hw : IntKind.i64.wrap (v : Int) = v := IntWalk.i64_in _ (by omega)
  go_enter Try.func54, Try.ntmps54
  go_wp2_with fail
  refine (nums_Unchain.calls k _ _ _ _ _ Hk.out).mono ?_
  rintro e w1 ⟨rfl, ⟨⟨m, rfl⟩⟩⟩
  go_wp2_with fail
  refine (cut_ok (n := n) (w.drewN m) Hb.out (by omega) (by omega)).mono ?_
  rintro e w2 ⟨rfl, hr, hk2⟩
  have HR := Lib.hid (RA.step hr); clear hr
  have HK := Lib.hid (((Kp.refl g w).drewN m).trans hk2); clear hk2
  go_wp2
  go_ret
  exact ⟨rfl, HR.out, HK.out⟩
set_option maxHeartbeats 1000000 in
theorem anumber_bad {g : Nat} {s : ByteArray} {p : Nat} (w : World) (hb : RA g s p w) (hs : p ≤ s.size) (hm : s.size ≤ 9223372036854775807) (h : num s p = none) :
    Calls Try.prog 54 #[.pointer (some ⟨g, 0, none⟩)] w fun e w' => e = .panicked [{ v := .iface 105 (.agg #[]), recovered := false }] ∧ Kp g w w' := by
  obtain ⟨u1, u2, u3, hu, hbad⟩ := num_none h
  obtain ⟨k, hk⟩ := Ev.rounds (unchain_ev (s.extract p s.size))
  rw [cut_list, hu] at hk
  clear h
  have Hk := Lib.hid hk; clear hk
  have c0 := Own.blk_cell hb 0
  simp at c0
  have Hb := Lib.hid hb; clear hb
  have hz := cut_size s p
  by_cases h3 : u3 = 0
  · have h1 : (1099511627776 : Int) < (u1 : Int) := by omega
    subst h3
    clear hbad
    obtain ⟨r, hr, hn, _⟩ := Own.unchain_bwd hu
    have hl := congrArg List.length hr
    rw [List.length_drop, Array.length_toList, List.length_append] at hl
    have hsz : s.data.size = s.size := rfl
    have hn2 : u2 ≤ (s.extract p s.size).size := by omega
    clear hr hl hn hu
    go_enter Try.func54, Try.ntmps54
    go_wp2_with fail
    refine (nums_Unchain.calls k _ _ _ _ _ Hk.out).mono ?_
    rintro e w1 ⟨rfl, ⟨⟨m, rfl⟩⟩⟩
    go_wp2_with fail
    refine (cut_ok (n := u2) (w.drewN m) Hb.out (by omega) (by omega)).mono ?_
    rintro e w2 ⟨rfl, hr, hk2⟩
    have HK := Lib.hid (((Kp.refl g w).drewN m).trans hk2); clear hk2 hr
    go_wp2
    exact ⟨rfl, rfl, HK.out⟩
  · have h1 : ((u3 : Int)) ≠ 0 := by omega
    clear hbad h3 hu
    go_enter Try.func54, Try.ntmps54
    go_wp2_with fail
    refine (nums_Unchain.calls k _ _ _ _ _ Hk.out).mono ?_
    rintro e w1 ⟨rfl, ⟨⟨m, rfl⟩⟩⟩
    go_wp2_with fail
    refine (cut_bad (w.drewN m) h1).mono ?_
    rintro e w2 ⟨rfl, hk2⟩
    have HK := Lib.hid (((Kp.refl g w).drewN m).trans hk2); clear hk2
    go_wp2
    exact ⟨rfl, rfl, HK.out⟩
set_option maxHeartbeats 1000000 in
theorem atext_ok {g : Nat} {s t : ByteArray} {p b : Nat} (w : World) (hb : RA g s p w) (hs : p ≤ s.size) (hm : s.size ≤ 9223372036854775807) (h : txt s p = some (t, b)) :
    Calls Try.prog 56 #[.pointer (some ⟨g, 0, none⟩)] w fun e w' => e = .returned (.string t) ∧ RA g s b w' ∧ Kp g w w' := by
  obtain ⟨hu, hlt, hle⟩ := txt_some hs h
  have hz := cut_size s p
  obtain ⟨k, hk⟩ := Ev.rounds (untext_ev (s.extract p s.size) (by omega))
  obtain ⟨n, rfl⟩ : ∃ n, b = p + n := ⟨b - p, by omega⟩
  rw [show ((p + n : Nat) : Int) - (p : Int) = (n : Int) by omega] at hu
  rw [hu] at hk
  clear h
  have Hk := Lib.hid hk; clear hk hu
  have c0 := Own.blk_cell hb 0
  simp at c0
  have Hb := Lib.hid hb; clear hb
  go_enter Try.func56, Try.ntmps56
  go_wp2_with fail
  refine (nums_Untext.calls k _ _ _ _ _ Hk.out).mono ?_
  rintro e w1 ⟨rfl, ⟨⟨m, rfl⟩⟩⟩
  go_wp2_with fail
  refine (cut_ok (n := n) (w.drewN m) Hb.out (by omega) (by omega)).mono ?_
  rintro e w2 ⟨rfl, hr, hk2⟩
  have HR := Lib.hid (RA.step hr); clear hr
  have HK := Lib.hid (((Kp.refl g w).drewN m).trans hk2); clear hk2
  go_wp2
  go_ret
  exact ⟨rfl, HR.out, HK.out⟩
set_option maxHeartbeats 1000000 in
theorem atext_bad {g : Nat} {s : ByteArray} {p : Nat} (w : World) (hb : RA g s p w) (hs : p ≤ s.size) (hm : s.size ≤ 9223372036854775807) (h : txt s p = none) :
    Calls Try.prog 56 #[.pointer (some ⟨g, 0, none⟩)] w fun e w' => e = .panicked [{ v := .iface 105 (.agg #[]), recovered := false }] ∧ Kp g w w' := by
  obtain ⟨u3, hu, hbad⟩ := txt_none hs h
  have hz := cut_size s p
  obtain ⟨k, hk⟩ := Ev.rounds (untext_ev (s.extract p s.size) (by omega))
  rw [hu] at hk
  clear h
  have Hk := Lib.hid hk; clear hk hu
  have c0 := Own.blk_cell hb 0
  simp at c0
  have Hb := Lib.hid hb; clear hb
  go_enter Try.func56, Try.ntmps56
  go_wp2_with fail
  refine (nums_Untext.calls k _ _ _ _ _ Hk.out).mono ?_
  rintro e w1 ⟨rfl, ⟨⟨m, rfl⟩⟩⟩
  go_wp2_with fail
  refine (cut_bad (w.drewN m) hbad).mono ?_
  rintro e w2 ⟨rfl, hk2⟩
  have HK := Lib.hid (((Kp.refl g w).drewN m).trans hk2); clear hk2
  go_wp2
  exact ⟨rfl, rfl, HK.out⟩
theorem decR_le {s : ByteArray} {r : S54} {c : Nat} (h : decR s = some (r, c)) : 0 < c ∧ c ≤ s.size ∧ PuB.mayB r = true := by
  cases h6 : numsTo s 6 with
  | none => unfold decR at h; rw [h6] at h; cases h
  | some q =>
    obtain ⟨l, a⟩ := q
    obtain ⟨_, ha, _⟩ := numsTo_le h6
    cases h1 : txt s a with
    | none => rw [decR_txt1 h6 h1] at h; cases h
    | some q1 =>
      obtain ⟨key, b⟩ := q1
      obtain ⟨_, hab, hbs⟩ := txt_some ha h1
      cases h2 : txt s b with
      | none => rw [decR_txt2 h6 h1 h2] at h; cases h
      | some q2 =>
        obtain ⟨val, c2⟩ := q2
        obtain ⟨_, hbc, hcs⟩ := txt_some hbs h2
        rw [decR_end h6 h1 h2] at h
        split at h
        · next hm =>
          simp only [Option.some.injEq, Prod.mk.injEq] at h
          obtain ⟨rfl, rfl⟩ := h
          exact ⟨by omega, hcs, hm.2⟩
        · cases h

theorem Kp.fresh {g : Nat} {a b c : World} (h : Kp g a b) (hg : g ≤ a.heap.size) (hb : Below a.heap.size b c) : Kp g a c :=
  ⟨h.bel.trans (hb.mono hg), fun k hk hl => (hb.block k hl).trans (h.rest k hk hl)⟩
theorem RT.below {g : Nat} {t : ByteArray} {w w1 : World} (h : RT g t w) (hb : Below w.heap.size w w1) : RT g t w1 := Own.blk_below h hb
set_option maxHeartbeats 1000000 in
theorem arec_ok {g : Nat} {s : ByteArray} {p c : Nat} {r : S54} (w : World) (hb : RA g s p w) (hs : p ≤ s.size) (hm : s.size ≤ 9223372036854775807) (h : decR (s.extract p s.size) = some (r, c)) :
    Calls Try.prog 55 #[.pointer (some ⟨g, 0, none⟩)] w fun e w' => e = .returned (agR r) ∧ RA g s (p + c) w' ∧ Kp g w w' := by
  have hg := Own.blk_lt hb
  obtain ⟨_, hc, _⟩ := decR_le h
  have hz := cut_size s p
  have H := Lib.hid h; clear h
  have b0 : Below w.heap.size w (w.alloc (.cells zrec 54)) := (Below.refl _ w).alloc (Nat.le_refl _) _
  have x0 : (w.alloc (.cells zrec 54)).heap[w.heap.size]? = some (.cells zrec 54 (0, 0)) := Own.heap_new w _
  have r0 : RA g s p (w.alloc (.cells zrec 54)) := RT.below hb b0
  have c0 := Own.blk_cell r0 0
  simp at c0
  have s0 : w.heap.size + 1 = (w.alloc (.cells zrec 54)).heap.size := by simp
  clear hb
  go_enter Try.func55, Try.ntmps55
  go_upto_region 1 with (fail)
  change Code.wp _ _ _ _ (w.alloc (.cells zrec 54))
  generalize w.alloc (.cells zrec 54) = W0 at *
  go_wp2_with fail
  refine (decode_some W0 (by omega) H.out).mono ?_
  rintro e w1 ⟨rfl, b1⟩
  have X1 := Own.blk_below x0 b1
  have R1 := RT.below r0 b1
  have B1 := Own.below_two b0 b1
  have hs1 : w.heap.size < w1.heap.size := Own.blk_lt X1
  clear b0 b1 x0 r0 c0
  obtain ⟨v0, v1, v2, v3, v4, v5, v6, v7⟩ := r
  have na : ¬ w.heap.size = w1.heap.size := by omega
  have nb : ¬ w1.heap.size = w.heap.size := by omega
  have HX := Lib.hid X1; clear X1
  have HR := Lib.hid R1; clear R1
  have HB := Lib.hid B1; clear B1
  unfold agR
  simp only
  go_wp2_with fail
  have hx := Own.heap_new w1 (.cells #[.int .i64 v0, .int .i64 v1, .string v2, .string v3, .bool v4, .int .i64 v5, .int .i64 v6, .int .i64 v7] 54)
  have hz2 := (Own.heap_old w1 (.cells #[.int .i64 v0, .int .i64 v1, .string v2, .string v3, .bool v4, .int .i64 v5, .int .i64 v6, .int .i64 v7] 54) (Own.blk_lt HX.out)).trans HX.out
  have hr2 := (Own.heap_old w1 (.cells #[.int .i64 v0, .int .i64 v1, .string v2, .string v3, .bool v4, .int .i64 v5, .int .i64 v6, .int .i64 v7] 54) (Own.blk_lt HR.out)).trans HR.out
  have hB2 := HB.out.alloc (o := .cells #[.int .i64 v0, .int .i64 v1, .string v2, .string v3, .bool v4, .int .i64 v5, .int .i64 v6, .int .i64 v7] 54) HB.out.size
  generalize w1.alloc _ = W2 at *
  generalize w1.heap.size = gx at *
  refine (cut_ok (n := c) W2 hr2 (by omega) (by omega)).mono ?_
  rintro e w3 ⟨rfl, hr3, hk3⟩
  have hx3 := hk3.blk hx (by omega)
  have hz3 := hk3.blk hz2 (by omega)
  have HR3 := Lib.hid (RA.step hr3); clear hr3
  have HK3 := Lib.hid (((Kp.refl g w).fresh (by omega) hB2).trans hk3); clear hk3 hB2 hr2 hz2 hx
  obtain ⟨z0, z1, z2, z3, z4, z5, z6, z7⟩ := ocells hx3
  obtain ⟨f0, f1, f2, f3, f4, f5, f6, f7⟩ := ofrees hz3
  obtain ⟨y0, y1, y2, y3, y4, y5, y6, y7⟩ := zcells hz3
  have HX3 := Lib.hid hx3; have HZ3 := Lib.hid hz3
  clear hx3 hz3 HX HR HB
  go_wp2_with fail
  all_goals
    clear z0 z1 z2 z3 z4 z5 z6 z7 f0 f1 f2 f3 f4 f5 f6 f7 y0 y1 y2 y3 y4 y5 y6 y7
    have hf := fill8 HZ3.out (.int .i64 v0) (.int .i64 v1) (.string v2) (.string v3) (.bool v4) (.int .i64 v5) (.int .i64 v6) (.int .i64 v7)
    have hBf := below8 (Below.refl w.heap.size w3) (Nat.le_refl _) (.int .i64 v0) (.int .i64 v1) (.string v2) (.string v3) (.bool v4) (.int .i64 v5) (.int .i64 v6) (.int .i64 v7)
    have hkf := HK3.out.fresh (by omega) hBf
    have hrf := (hBf.block g (by omega)).trans HR3.out
    generalize (((((((w3.setCell ⟨w.heap.size, 0, none⟩ (.int .i64 v0)).setCell ⟨w.heap.size, 1, none⟩ _).setCell ⟨w.heap.size, 2, none⟩ _).setCell ⟨w.heap.size, 3, none⟩ _).setCell ⟨w.heap.size, 4, none⟩ _).setCell ⟨w.heap.size, 5, none⟩ _).setCell ⟨w.heap.size, 6, none⟩ _).setCell ⟨w.heap.size, 7, none⟩ _ = W3 at *
    obtain ⟨y0, y1, y2, y3, y4, y5, y6, y7⟩ := ocells hf
    clear hf
    exact bodyPost_ret (v := .agg #[.int .i64 v0, .int .i64 v1, .string v2, .string v3, .bool v4, .int .i64 v5, .int .i64 v6, .int .i64 v7]) (by simp [results, Try.results55, go_sem, y0, y1, y2, y3, y4, y5, y6, y7]) rfl ⟨rfl, hrf, hkf⟩
set_option maxHeartbeats 1000000 in
theorem arec_bad {g : Nat} {s : ByteArray} {p : Nat} (w : World) (hb : RA g s p w) (hs : p ≤ s.size) (hm : s.size ≤ 9223372036854775807) (h : decR (s.extract p s.size) = none) :
    Calls Try.prog 55 #[.pointer (some ⟨g, 0, none⟩)] w fun e w' => e = .panicked [{ v := .iface 105 (.agg #[]), recovered := false }] ∧ Kp g w w' := by
  have hg := Own.blk_lt hb
  have hz := cut_size s p
  have H := Lib.hid h; clear h
  have b0 : Below w.heap.size w (w.alloc (.cells zrec 54)) := (Below.refl _ w).alloc (Nat.le_refl _) _
  have r0 : RA g s p (w.alloc (.cells zrec 54)) := RT.below hb b0
  have c0 := Own.blk_cell r0 0
  simp at c0
  clear hb
  go_enter Try.func55, Try.ntmps55
  go_upto_region 1 with (fail)
  change Code.wp _ _ _ _ (w.alloc (.cells zrec 54))
  generalize w.alloc (.cells zrec 54) = W0 at *
  go_wp2_with fail
  refine (decode_none W0 (by omega) H.out).mono ?_
  rintro e w1 ⟨rfl, b1⟩
  have B1 := Lib.hid (Own.below_two b0 b1)
  clear b0 b1 r0 c0
  unfold zrec
  go_wp2_with fail
  have hB2 := B1.out.alloc (o := .cells #[.int .i64 0, .int .i64 0, .string ⟨#[]⟩, .string ⟨#[]⟩, .bool false, .int .i64 0, .int .i64 0, .int .i64 0] 54) B1.out.size
  generalize w1.alloc _ = W2 at *
  refine (cut_bad W2 (by decide)).mono ?_
  rintro e w2 ⟨rfl, hk2⟩
  have HK := Lib.hid (((Kp.refl g w).fresh (by omega) hB2).trans hk2); clear hk2
  go_wp2
  exact ⟨rfl, rfl, HK.out⟩
end Go.Proofs.Ytakbgaiedenikaa.Rd
/- The reading of an answer's body: its deferred closure, and what is read. -/
namespace Go.Proofs.Ytakbgaiedenikaa.Rd
open Go.RowKit Go.Proofs.YtakbgaiedenikaaW.PrintWords Go.Proofs.Ytakbgaiedenikaa.PB
set_option maxRecDepth 100000
set_option linter.unusedSimpArgs false
set_option linter.unusedVariables false
def zans : Array Value := #[.int .i64 0, .int .i64 0, .int .i64 0, .int .i64 0, .int .i64 0, .slice none 0 0, .slice none 0 0, .slice none 0 0]
set_option maxHeartbeats 4000000 in
theorem acatch_panicking {o : Nat} {v0 v1 v2 v3 v4 v5 v6 v7 b0 : Value} (older : List PanicEntry) (w : World) (ho : w.heap[o]? = some (.cells #[v0, v1, v2, v3, v4, v5, v6, v7] 27 (0, 0))) (hk : w.heap[o + 1]? = some (.cells #[b0] 4 (0, 0))) :
    CallsD Try.prog 53 #[.pointer (some ⟨o, 0, none⟩), .pointer (some ⟨o + 1, 0, none⟩)] (.panicking ({ v := .iface 105 (.agg #[]), recovered := false } :: older)) w fun e u' w' =>
      e = .returned (.tuple #[]) ∧ u' = .panicking ({ v := .iface 105 (.agg #[]), recovered := true } :: older) ∧ w'.heap[o]? = some (.cells zans 27 (0, 0)) ∧ w'.heap[o + 1]? = some (.cells #[.bool false] 4 (0, 0)) ∧ ∀ B, B ≤ o → Below B w w' := by
  have hta : ∀ W : World, (Instr.typeAssert (.iface 105 (.agg #[])) 20 105 true).run Try.prog W = .ok (.tuple #[.agg #[], .bool true]) W := fun _ => by kernel_rfl
  have hno := Own.blk_lt ho
  have hnk := Own.blk_lt hk
  have c0 := Own.blk_cell ho 0
  have f0 := Own.blk_free ho 0
  have c1 := Own.blk_cell ho 1
  have f1 := Own.blk_free ho 1
  have c2 := Own.blk_cell ho 2
  have f2 := Own.blk_free ho 2
  have c3 := Own.blk_cell ho 3
  have f3 := Own.blk_free ho 3
  have c4 := Own.blk_cell ho 4
  have f4 := Own.blk_free ho 4
  have c5 := Own.blk_cell ho 5
  have f5 := Own.blk_free ho 5
  have c6 := Own.blk_cell ho 6
  have f6 := Own.blk_free ho 6
  have c7 := Own.blk_cell ho 7
  have f7 := Own.blk_free ho 7
  have ck := Own.blk_cell hk 0
  have fk := Own.blk_free hk 0
  simp at c0 c1 c2 c3 c4 c5 c6 c7 ck
  have HO := Lib.hid ho; clear ho
  have HK := Lib.hid hk; clear hk
  refine callsD_of_wpS Try.func53 rfl fun c₀ cs hu => ?_
  apply wpS_seq
  apply wpS_region
  simp [wpOpsS, go_sem, recoverD, hu, Try.ntmps53, Exit.thenS]
  refine wpS_of_wp ?_
  go_hide hQ
  change Code.wp _ _ _ { tmps := #[.pointer (some ⟨o, 0, none⟩), .pointer (some ⟨o + 1, 0, none⟩), .iface 105 (.agg #[]), undef, undef, .iface 105 (.agg #[]), undef, undef, undef, undef, undef, undef, undef, undef, undef, undef, undef], defers := [] } _
  go_wp2
  subst hQ
  have e1 := (Own.heap_set (i := 7) (Own.heap_set (i := 6) (Own.heap_set (i := 5) (Own.heap_set (i := 4) (Own.heap_set (i := 3) (Own.heap_set (i := 2) (Own.heap_set (i := 1) (Own.heap_set (i := 0) HO.out (.int .i64 0)) (.int .i64 0)) (.int .i64 0)) (.int .i64 0)) (.int .i64 0)) (.slice none 0 0)) (.slice none 0 0)) (.slice none 0 0))
  have e2 := ((Own.heap_far _ ⟨o, 7, none⟩ (.slice none 0 0) (k := o + 1) (by simp)).trans ((Own.heap_far _ ⟨o, 6, none⟩ (.slice none 0 0) (k := o + 1) (by simp)).trans ((Own.heap_far _ ⟨o, 5, none⟩ (.slice none 0 0) (k := o + 1) (by simp)).trans ((Own.heap_far _ ⟨o, 4, none⟩ (.int .i64 0) (k := o + 1) (by simp)).trans ((Own.heap_far _ ⟨o, 3, none⟩ (.int .i64 0) (k := o + 1) (by simp)).trans ((Own.heap_far _ ⟨o, 2, none⟩ (.int .i64 0) (k := o + 1) (by simp)).trans ((Own.heap_far _ ⟨o, 1, none⟩ (.int .i64 0) (k := o + 1) (by simp)).trans ((Own.heap_far _ ⟨o, 0, none⟩ (.int .i64 0) (k := o + 1) (by simp)).trans HK.out))))))))
  have e3 := Own.heap_set (i := 0) e2 (.bool false)
  have e4 := (Own.heap_far _ ⟨o + 1, 0, none⟩ (.bool false) (k := o) (by simp)).trans e1
  have n1 := Own.blk_lt e3
  have n2 := Own.blk_lt e4
  have e5 := (Own.heap_old _ (.cells #[] 105) n1).trans e3
  have e6 := (Own.heap_old _ (.cells #[] 105) n2).trans e4
  have eB : ∀ B, B ≤ o → Below B w (((((((((w.setCell ⟨o, 0, none⟩ (.int .i64 0)).setCell ⟨o, 1, none⟩ (.int .i64 0)).setCell ⟨o, 2, none⟩ (.int .i64 0)).setCell ⟨o, 3, none⟩ (.int .i64 0)).setCell ⟨o, 4, none⟩ (.int .i64 0)).setCell ⟨o, 5, none⟩ (.slice none 0 0)).setCell ⟨o, 6, none⟩ (.slice none 0 0)).setCell ⟨o, 7, none⟩ (.slice none 0 0)).setCell ⟨o + 1, 0, none⟩ (.bool false)) := by
    intro B hB
    repeat (refine Below.setCell ?_ (by simp; omega) _)
    exact Below.refl _ _
  simp only [bodyPostS, results, Try.results53]
  have e7 : ((((((((((w.setCell ⟨o, 0, none⟩ (.int .i64 0)).setCell ⟨o, 1, none⟩ (.int .i64 0)).setCell ⟨o, 2, none⟩ (.int .i64 0)).setCell ⟨o, 3, none⟩ (.int .i64 0)).setCell ⟨o, 4, none⟩ (.int .i64 0)).setCell ⟨o, 5, none⟩ (.slice none 0 0)).setCell ⟨o, 6, none⟩ (.slice none 0 0)).setCell ⟨o, 7, none⟩ (.slice none 0 0)).setCell ⟨o + 1, 0, none⟩ (.bool false)).alloc (.cells #[] 105)).heap[o]? = some (.cells zans 27 (0, 0)) := e6
  refine ⟨trivial, _, rfl, .tuple #[], by simp, rfl, rfl, e7, e5, fun B hB => ?_⟩
  exact (eB B hB).alloc (Nat.le_trans hB (Nat.le_of_lt n2)) _
theorem acatch_idle {o : Nat} (w : World) :
    CallsD Try.prog 53 #[.pointer (some ⟨o, 0, none⟩), .pointer (some ⟨o + 1, 0, none⟩)] .returning w fun e u' w' => e = .returned (.tuple #[]) ∧ u' = .returning ∧ w' = w := by
  refine callsD_of_wpS Try.func53 rfl fun c₀ cs hu => ?_
  apply wpS_seq
  apply wpS_region
  simp [wpOpsS, go_sem, recoverD, hu, Try.ntmps53, Exit.thenS]
  refine wpS_of_wp ?_
  go_hide hQ
  change Code.wp _ _ _ { tmps := #[.pointer (some ⟨o, 0, none⟩), .pointer (some ⟨o + 1, 0, none⟩), .nilIface, undef, undef, .nilIface, undef, undef, undef, undef, undef, undef, undef, undef, undef, undef, undef], defers := [] } _
  go_wp2
  subst hQ
  cases c₀
  simp_all [bodyPostS, results, Try.results53]

set_option maxHeartbeats 4000000 in
theorem doorA {o : Nat} {W : World} {v0 v1 v2 v3 v4 v5 v6 v7 b0 : Value} {tmps : Array Value} {R : Ending → World → Prop} (h2 : tmps.getD 4 undef = .pointer (some ⟨o, 0, none⟩)) (h3 : tmps.getD 5 undef = .pointer (some ⟨o + 1, 0, none⟩))
    (ho : W.heap[o]? = some (.cells #[v0, v1, v2, v3, v4, v5, v6, v7] 27 (0, 0))) (hk : W.heap[o + 1]? = some (.cells #[b0] 4 (0, 0))) (fin : ∀ W', (∀ B, B ≤ o → Below B W W') → R (.returned (.tuple #[.agg zans, .bool false])) W') :
    bodyPostD Try.prog Try.f32 R (Exit.panic [{ v := .iface 105 (.agg #[]), recovered := false }]) { tmps := tmps, defers := [{ target := .fn (.func 53) #[.pointer (some ⟨o, 0, none⟩), .pointer (some ⟨o + 1, 0, none⟩)], args := #[] }] } W := by
  refine leaves_cons (f := 53) (args := #[.pointer (some ⟨o, 0, none⟩), .pointer (some ⟨o + 1, 0, none⟩)]) (by simp) (by simp [go_sem]) ?_
  refine (acatch_panicking [] W ho hk).mono ?_
  rintro e u' w'' ⟨rfl, rfl, e1, e2, e3⟩
  obtain ⟨z0, z1, z2, z3, z4, z5, z6, z7⟩ := ocells e1
  have y0 : w''.cell? ⟨o + 1, 0, none⟩ = some (.bool false) := by rw [Own.blk_cell e2]; rfl
  have Fin := Lib.hid (fin w'' e3); clear fin e1 e2 e3
  rw [Array.getD_eq_getD_getElem?] at h2 h3
  simp [Leaves, settle, results, Try.results32, go_sem, h2, h3, z0, z1, z2, z3, z4, z5, z6, z7, y0]
  exact Fin.out
set_option maxHeartbeats 4000000 in
theorem doorA_ret {o : Nat} {W : World} {v0 v1 v2 v3 v4 v5 v6 v7 : Value} {b : Bool} {tmps : Array Value} {R : Ending → World → Prop} (h2 : tmps.getD 4 undef = .pointer (some ⟨o, 0, none⟩)) (h3 : tmps.getD 5 undef = .pointer (some ⟨o + 1, 0, none⟩))
    (ho : W.heap[o]? = some (.cells #[v0, v1, v2, v3, v4, v5, v6, v7] 27 (0, 0))) (hk : W.heap[o + 1]? = some (.cells #[.bool b] 4 (0, 0))) (fin : R (.returned (.tuple #[.agg #[v0, v1, v2, v3, v4, v5, v6, v7], .bool b])) W) :
    bodyPostD Try.prog Try.f32 R Exit.ret { tmps := tmps, defers := [{ target := .fn (.func 53) #[.pointer (some ⟨o, 0, none⟩), .pointer (some ⟨o + 1, 0, none⟩)], args := #[] }] } W := by
  have Fin := Lib.hid fin; clear fin
  obtain ⟨z0, z1, z2, z3, z4, z5, z6, z7⟩ := ocells ho
  have y0 : W.cell? ⟨o + 1, 0, none⟩ = some (.bool b) := by rw [Own.blk_cell hk]; rfl
  clear ho hk
  refine leaves_cons (f := 53) (args := #[.pointer (some ⟨o, 0, none⟩), .pointer (some ⟨o + 1, 0, none⟩)]) (by simp) (by simp [go_sem]) ?_
  refine (acatch_idle W).mono ?_
  rintro e u' w'' ⟨rfl, rfl, rfl⟩
  rw [Array.getD_eq_getD_getElem?] at h2 h3
  simp [Leaves, settle, results, Try.results32, go_sem, h2, h3, z0, z1, z2, z3, z4, z5, z6, z7, y0]
  exact Fin.out
/-- So many things, one behind the other. -/
def manyTo {α : Type} (f : Nat → Option (α × Nat)) (p : Nat) : Nat → Option (List α × Nat)
  | 0 => some ([], p)
  | k + 1 => (manyTo f p k).bind fun x => (f x.2).map fun y => (x.1 ++ [y.1], y.2)
theorem manyTo_next {α : Type} {f : Nat → Option (α × Nat)} {p k q b : Nat} {l : List α} {a : α} (h : manyTo f p k = some (l, q)) (hf : f q = some (a, b)) : manyTo f p (k + 1) = some (l ++ [a], b) := by
  rw [manyTo, h]; simp [hf]
theorem manyTo_bad {α : Type} {f : Nat → Option (α × Nat)} {p k q : Nat} {l : List α} (h : manyTo f p k = some (l, q)) (hf : f q = none) {n : Nat} (hn : k < n) : manyTo f p n = none := by
  obtain ⟨d, rfl⟩ : ∃ d, n = k + 1 + d := ⟨n - (k + 1), by omega⟩
  induction d with
  | zero => rw [Nat.add_zero, manyTo, h]; simp [hf]
  | succ d ih => rw [show k + 1 + (d + 1) = (k + 1 + d) + 1 by omega, manyTo, ih (by omega)]; rfl
theorem manyTo_le {α : Type} {f : Nat → Option (α × Nat)} {P : α → Prop} {S p : Nat} (hp : p ≤ S) (hf : ∀ q a b, q ≤ S → f q = some (a, b) → q < b ∧ b ≤ S ∧ P a) : ∀ {k : Nat} {l : List α} {q : Nat}, manyTo f p k = some (l, q) → l.length = k ∧ p + k ≤ q ∧ q ≤ S ∧ ∀ a ∈ l, P a := by
  intro k
  induction k with
  | zero => intro l q h; simp only [manyTo, Option.some.injEq, Prod.mk.injEq] at h; obtain ⟨rfl, rfl⟩ := h; simp [hp]
  | succ k ih =>
    intro l q h
    rw [manyTo] at h
    obtain ⟨⟨l0, q0⟩, h1, h2⟩ := Option.bind_eq_some_iff.1 h
    obtain ⟨⟨a, b⟩, h3, h4⟩ := Option.map_eq_some_iff.1 h2
    simp only [Prod.mk.injEq] at h4
    obtain ⟨rfl, rfl⟩ := h4
    obtain ⟨i1, i2, i3, i4⟩ := ih h1
    obtain ⟨j1, j2, j3⟩ := hf _ _ _ i3 h3
    refine ⟨by simp [i1], by simp only at *; omega, j2, fun x hx => ?_⟩
    rcases List.mem_append.1 hx with hx | hx
    · exact i4 x hx
    · rw [List.mem_singleton.1 hx]; exact j3
def fR (s : ByteArray) (q : Nat) : Option (S54 × Nat) := (decR (s.extract q s.size)).map fun x => (x.1, q + x.2)
def fK (s : ByteArray) (q : Nat) : Option (Int × Nat) := (num s q).map fun x => ((x.1 : Int), x.2)
theorem fR_le {s : ByteArray} (q : Nat) (a : S54) (b : Nat) (hq : q ≤ s.size) (h : fR s q = some (a, b)) : q < b ∧ b ≤ s.size ∧ PuB.mayB a = true := by
  obtain ⟨⟨r, c⟩, h1, h2⟩ := Option.map_eq_some_iff.1 h
  simp only [Prod.mk.injEq] at h2
  obtain ⟨rfl, rfl⟩ := h2
  obtain ⟨d1, d2, d3⟩ := decR_le h1
  rw [cut_size] at d2
  exact ⟨by omega, by omega, d3⟩
theorem txt_le {s : ByteArray} (q : Nat) (a : ByteArray) (b : Nat) (hq : q ≤ s.size) (h : txt s q = some (a, b)) : q < b ∧ b ≤ s.size ∧ True := by
  obtain ⟨_, h1, h2⟩ := txt_some hq h
  exact ⟨h1, h2, trivial⟩
theorem fK_le {s : ByteArray} (q : Nat) (a : Int) (b : Nat) (hq : q ≤ s.size) (h : fK s q = some (a, b)) : q < b ∧ b ≤ s.size ∧ (0 ≤ a ∧ a ≤ 1099511627776) := by
  obtain ⟨⟨v, c⟩, h1, h2⟩ := Option.map_eq_some_iff.1 h
  simp only [Prod.mk.injEq] at h2
  obtain ⟨rfl, rfl⟩ := h2
  obtain ⟨d1, d2, d3⟩ := num_le hq h1
  exact ⟨d1, d2, by omega, by omega⟩
structure Body where
  a : Nat
  b : Nat
  rs : List S54
  ns : List ByteArray
  ks : List Int
  at_ : Nat
/-- What a body's bytes tell. -/
def readR (s : ByteArray) : Option Body :=
  (num s 0).bind fun a => (num s a.2).bind fun b => (num s b.2).bind fun n5 => (manyTo (fR s) n5.2 n5.1).bind fun rs => (num s rs.2).bind fun n6 => (manyTo (txt s) n6.2 n6.1).bind fun ns => (num s ns.2).bind fun n7 => (manyTo (fK s) n7.2 n7.1).bind fun ks =>
    some ⟨a.1, b.1, rs.1, ns.1, ks.1, ks.2⟩
/-- Where the reading stands. -/
structure RS2 (g : Nat) (s : ByteArray) (p : Nat) (bc : Array Value) (W w : World) : Prop where
  ra : RA g s p w
  bx : w.heap[W.heap.size]? = some (.cells bc 27 (0, 0))
  out : w.heap[W.heap.size + 1]? = some (.cells zans 27 (0, 0))
  okk : w.heap[W.heap.size + 2]? = some (.cells #[.bool false] 4 (0, 0))
  bel : Kp g W w
  lo : g < W.heap.size
theorem RS2.size {g : Nat} {s : ByteArray} {p : Nat} {bc : Array Value} {W w : World} (h : RS2 g s p bc W w) : W.heap.size + 3 ≤ w.heap.size := Own.blk_lt h.okk
theorem RS2.kp {g : Nat} {s : ByteArray} {p q : Nat} {bc : Array Value} {W w w1 : World} (h : RS2 g s p bc W w) (hk : Kp g w w1) (hr : RA g s q w1) : RS2 g s q bc W w1 := by
  have := h.lo
  exact ⟨hr, hk.blk h.bx (by omega), hk.blk h.out (by omega), hk.blk h.okk (by omega), h.bel.trans hk, h.lo⟩
theorem RS2.cell {g : Nat} {s : ByteArray} {p : Nat} {bc : Array Value} {W w : World} (h : RS2 g s p bc W w) (i : Nat) (v : Value) : RS2 g s p (bc.setIfInBounds i v) W (w.setCell ⟨W.heap.size, i, none⟩ v) := by
  have := h.lo
  exact ⟨(Own.heap_far _ _ _ (by simp; omega)).trans h.ra, Own.heap_set h.bx v, (Own.heap_far _ _ _ (by simp)).trans h.out, (Own.heap_far _ _ _ (by simp)).trans h.okk, ⟨h.bel.bel.setCell (by simp; omega) _, fun k hk hl => (Own.heap_far _ _ _ (by simp; omega)).trans (h.bel.rest k hk hl)⟩, h.lo⟩
theorem RS2.below {g : Nat} {s : ByteArray} {p : Nat} {bc : Array Value} {W w w1 : World} (h : RS2 g s p bc W w) (hb : Below w.heap.size w w1) : RS2 g s p bc W w1 :=
  ⟨RT.below h.ra hb, Own.blk_below h.bx hb, Own.blk_below h.out hb, Own.blk_below h.okk hb, h.bel.below (Nat.le_of_lt (Own.blk_lt h.ra)) hb, h.lo⟩
theorem RS2.grown {α : Type} {d : Kd α} {e : Nat} {v : Value} {xs : List α} {g : Nat} {s : ByteArray} {p : Nat} {bc : Array Value} {W w w1 : World} (h : RS2 g s p bc W w) (hR : d.R e w W.heap.size (fun k => W.heap.size + 3 ≤ k) v xs) (hg : w.grownBy w1 v.ownBlock) : RS2 g s p bc W w1 := by
  have hlo := h.lo
  have hne : ∀ k, k < W.heap.size + 3 → some k ≠ v.ownBlock := fun k hk e => by have := hR.1 k e.symm; omega
  exact ⟨blk_grown h.ra hg (hne _ (by omega)), blk_grown h.bx hg (hne _ (by omega)), blk_grown h.out hg (hne _ (by omega)), blk_grown h.okk hg (hne _ (by omega)), ⟨pw_below_grown h.bel.bel _ (by have := Own.blk_lt h.bx; omega) hg (fun k hk => by have := hR.1 k hk; omega), fun k hk hl => (hg.block k (Nat.lt_of_lt_of_le hl h.bel.bel.size) (hne k (by omega))).trans (h.bel.rest k hk hl)⟩, h.lo⟩
end Go.Proofs.Ytakbgaiedenikaa.Rd
/- The reading of an answer's body, by hand. -/
namespace Go.Proofs.Ytakbgaiedenikaa.Rd
open Go.RowKit Go.Proofs.YtakbgaiedenikaaW.PrintWords Go.Proofs.Ytakbgaiedenikaa.PB
set_option maxRecDepth 100000
set_option linter.unusedSimpArgs false
set_option linter.unusedVariables false
structure SB (o : Nat) (bc : Array Value) (w : World) : Prop where
  h : w.heap[o]? = some (.cells bc 27 (0, 0))
/-- What the reading of a body hands back. -/
def Rp35 (g : Nat) (s : ByteArray) (id kd cd : Int) (w : World) (e : Ending) (w' : World) : Prop :=
  Kp g w w' ∧
  match readR s with
  | none => e = .returned (.tuple #[.agg zans, .bool false])
  | some x => ∃ A5 c5 A6 c6 A7 c7, e = .returned (.tuple #[.agg #[.int .i64 id, .int .i64 kd, .int .i64 cd, .int .i64 (x.a : Int), .int .i64 (x.b : Int), .slice A5 x.rs.length c5, .slice A6 x.ns.length c6, .slice A7 x.ks.length c7], .bool (s.extract x.at_ s.size).toList.isEmpty]) ∧
      k54.R 54 w' w.heap.size (fun k => w.heap.size + 3 ≤ k) (.slice A5 x.rs.length c5) x.rs ∧ Kd.string.R 9 w' w.heap.size (fun k => w.heap.size + 3 ≤ k) (.slice A6 x.ns.length c6) x.ns ∧ (Kd.int .i64).R 3 w' w.heap.size (fun k => w.heap.size + 3 ≤ k) (.slice A7 x.ks.length c7) x.ks
theorem Rp35.bad {g : Nat} {s : ByteArray} {id kd cd : Int} {w w' : World} (h : readR s = none) (hb : Kp g w w') : Rp35 g s id kd cd w (.returned (.tuple #[.agg zans, .bool false])) w' := by
  unfold Rp35; rw [h]; exact ⟨hb, rfl⟩
theorem fail35 {g : Nat} {s : ByteArray} {p : Nat} {bc : Array Value} {id kd cd : Int} {w w1 w4 : World} {tmps : Array Value} (h : RS2 g s p bc w w1) (hk : Kp g w1 w4) (hd : readR s = none) (h2 : tmps.getD 4 undef = .pointer (some ⟨w.heap.size + 1, 0, none⟩)) (h3 : tmps.getD 5 undef = .pointer (some ⟨w.heap.size + 1 + 1, 0, none⟩)) :
    bodyPostD Try.prog Try.f32 (Rp35 g s id kd cd w) (Exit.panic [{ v := .iface 105 (.agg #[]), recovered := false }]) { tmps := tmps, defers := [{ target := .fn (.func 53) #[.pointer (some ⟨w.heap.size + 1, 0, none⟩), .pointer (some ⟨w.heap.size + 1 + 1, 0, none⟩)], args := #[] }] } w4 := by
  have hlo := h.lo
  exact doorA h2 h3 (hk.blk h.out (by omega)) (hk.blk h.okk (by omega)) fun W' hW => Rp35.bad hd ((h.bel.trans hk).fresh (Nat.le_of_lt hlo) (hW w.heap.size (Nat.le_succ _)))
theorem RS2.drew {g : Nat} {s : ByteArray} {p : Nat} {bc : Array Value} {W w : World} (h : RS2 g s p bc W w) : RS2 g s p bc W w.drew := ⟨h.ra, h.bx, h.out, h.okk, ⟨h.bel.bel.drew, h.bel.rest⟩, h.lo⟩
def bxA (id kd cd a b : Int) (v5 v6 v7 : Value) : Array Value := #[.int .i64 id, .int .i64 kd, .int .i64 cd, .int .i64 a, .int .i64 b, v5, v6, v7]
def zr : Value := .agg #[.int .i64 0, .int .i64 0, .string ⟨#[]⟩, .string ⟨#[]⟩, .bool false, .int .i64 0, .int .i64 0, .int .i64 0]
theorem info54 : (Try.prog.info? 54).map (fun i => (i.zero, i.size, i.bytes)) = some (some zr, 8, 80) := by kernel_rfl
theorem info9 : (Try.prog.info? 9).map (fun i => (i.zero, i.size, i.bytes)) = some (some (.string ⟨#[]⟩), 1, 16) := by kernel_rfl
theorem info3 : (Try.prog.info? 3).map (fun i => (i.zero, i.size, i.bytes)) = some (some (.int .i64 0), 1, 8) := by kernel_rfl
theorem far8 {o k : Nat} {w : World} (hk : k ≠ o) (u0 u1 u2 u3 u4 u5 u6 u7 : Value) : ((((((((w.setCell ⟨o, 0, none⟩ u0).setCell ⟨o, 1, none⟩ u1).setCell ⟨o, 2, none⟩ u2).setCell ⟨o, 3, none⟩ u3).setCell ⟨o, 4, none⟩ u4).setCell ⟨o, 5, none⟩ u5).setCell ⟨o, 6, none⟩ u6).setCell ⟨o, 7, none⟩ u7).heap[k]? = w.heap[k]? := by
  repeat (refine (Own.heap_far _ _ _ (by simp; omega)).trans ?_)
  rfl
structure SF (o g : Nat) (bc : Array Value) (t : ByteArray) (w : World) : Prop where
  h : w.heap[o]? = some (.cells bc 27 (0, 0))
  r : RT g t w
theorem meas3 {n k : Nat} (h : k < n) : n - (intOf (.int .i64 ((k : Int) + 1))).toNat < n - (intOf (.int .i64 (k : Int))).toNat := by
  simp [intOf]; omega
theorem R_kp {α : Type} {d : Kd α} {e g : Nat} {W w w1 : World} {v : Value} {xs : List α} (h : d.R e w W.heap.size (fun k => W.heap.size + 3 ≤ k) v xs) (hk : Kp g w w1) (hg : g < W.heap.size) : d.R e w1 W.heap.size (fun k => W.heap.size + 3 ≤ k) v xs :=
  Kd.R_step h fun k ho hl => hk.rest k (by omega) hl
theorem leaves_tmps {P : Program} {fn : Func} {R : Ending → World → Prop} {t1 t2 : Array Value} (h : results fn t1 = results fn t2) : ∀ (ds : List Deferred) (u : FrameMode) (w : World), Leaves P fn t1 R ds u w → Leaves P fn t2 R ds u w
  | [], .returning, w, ⟨v, h1, h2⟩ => ⟨v, by rw [← h]; exact h1, h2⟩
  | [], .panicking chain, w, h1 => h1
  | [], .run, _, h1 => h1
  | d :: ds, u, w, ⟨h0, fv, cap, f, args, h1, h2, h3⟩ => ⟨h0, fv, cap, f, args, h1, h2, fun c cs hc => by
      obtain ⟨e, u', w', fr, g1, g2, g3⟩ := h3 c cs hc
      refine ⟨e, u', w', fr, ?_, g2, g3⟩
      cases e with
      | returned v => exact leaves_tmps h ds _ _ g1
      | panicked c => exact leaves_tmps h ds _ _ g1
      | outgrown => exact g1⟩
theorem panic_put {R : Ending → World → Prop} {i : Nat} (hi : i ≠ 4 ∧ i ≠ 5) {c : List PanicEntry} {a : Act} {v : Value} {w : World} (h : bodyPostD Try.prog Try.f32 R (.panic c) (a.put (some i) v) w) : bodyPostD Try.prog Try.f32 R (.panic c) a w := by
  refine leaves_tmps ?_ _ _ _ h
  have e4 : (a.put (some i) v).tmps.getD 4 undef = a.tmps.getD 4 undef := by simp [Act.put, Array.getD_eq_getD_getElem?, hi.1]
  have e5 : (a.put (some i) v).tmps.getD 5 undef = a.tmps.getD 5 undef := by simp [Act.put, Array.getD_eq_getD_getElem?, hi.2]
  rw [Array.getD_eq_getD_getElem?, Array.getD_eq_getD_getElem?] at e4 e5
  simp only [Act.put] at e4 e5
  simp [results, Try.results32, go_sem, e4, e5]
theorem nolen {s : ByteArray} {p n k : Nat} (h : p + k ≤ s.size) (hm : s.size ≤ 594) : k ≤ 594 := by omega
set_option maxHeartbeats 4000000 in
theorem read_any {g : Nat} {s : ByteArray} (id kd cd : Int) (w : World) (hb : RA g s 0 w) (hm : s.size ≤ 594) :
    Calls Try.prog 32 #[.pointer (some ⟨g, 0, none⟩), .agg #[.int .i64 id, .int .i64 kd, .int .i64 cd, .int .i64 0, .int .i64 0, .slice none 0 0, .slice none 0 0, .slice none 0 0]] w (Rp35 g s id kd cd w) := by
  have hmf : ∀ (fn : Fn) (first cap : Array Value) (w : World), (Instr.makeFunc fn first cap).run Try.prog w = .ok (.func fn first cap) w := fun _ _ _ _ => rfl
  have hg := Own.blk_lt hb
  have hm2 : s.size ≤ 9223372036854775807 := by omega
  have hrs : RS2 g s 0 #[.int .i64 id, .int .i64 kd, .int .i64 cd, .int .i64 0, .int .i64 0, .slice none 0 0, .slice none 0 0, .slice none 0 0] w (((w.alloc (.cells #[.int .i64 id, .int .i64 kd, .int .i64 cd, .int .i64 0, .int .i64 0, .slice none 0 0, .slice none 0 0, .slice none 0 0] 27)).alloc (.cells zans 27)).alloc (.cells #[.bool false] 4)) := by
    have a0 := Own.heap_new w (.cells #[.int .i64 id, .int .i64 kd, .int .i64 cd, .int .i64 0, .int .i64 0, .slice none 0 0, .slice none 0 0, .slice none 0 0] 27)
    have hs0 : (w.alloc (.cells #[.int .i64 id, .int .i64 kd, .int .i64 cd, .int .i64 0, .int .i64 0, .slice none 0 0, .slice none 0 0, .slice none 0 0] 27)).heap.size = w.heap.size + 1 := by simp
    have b0 : Below w.heap.size w (w.alloc (.cells #[.int .i64 id, .int .i64 kd, .int .i64 cd, .int .i64 0, .int .i64 0, .slice none 0 0, .slice none 0 0, .slice none 0 0] 27)) := (Below.refl _ w).alloc (Nat.le_refl _) _
    generalize w.alloc (.cells #[.int .i64 id, .int .i64 kd, .int .i64 cd, .int .i64 0, .int .i64 0, .slice none 0 0, .slice none 0 0, .slice none 0 0] 27) = W1 at *
    have a1 := Own.heap_new W1 (.cells zans 27)
    rw [hs0] at a1
    have hs1 : (W1.alloc (.cells zans 27)).heap.size = w.heap.size + 2 := by simp [hs0]
    have b1 : Below W1.heap.size W1 (W1.alloc (.cells zans 27)) := (Below.refl _ _).alloc (Nat.le_refl _) _
    have a01 := Own.blk_below a0 b1
    generalize W1.alloc (.cells zans 27) = W2 at *
    have a2 := Own.heap_new W2 (.cells #[.bool false] 4)
    rw [hs1] at a2
    have b2 : Below W2.heap.size W2 (W2.alloc (.cells #[.bool false] 4)) := (Below.refl _ _).alloc (Nat.le_refl _) _
    have a02 := Own.blk_below a01 b2
    have a12 := Own.blk_below a1 b2
    have bb := Own.below_two (Own.below_two b0 b1) b2
    exact ⟨RT.below hb bb, a02, a12, a2, (Kp.refl g w).fresh (Nat.le_of_lt hg) bb, hg⟩
  have HRS := Lib.hid hrs; clear hrs
  clear hb
  go_enter_defers Try.func32, Try.ntmps32
  go_upto_region 2 with (fail)
  change Code.wp _ _ _ _ (((w.alloc (.cells #[.int .i64 id, .int .i64 kd, .int .i64 cd, .int .i64 0, .int .i64 0, .slice none 0 0, .slice none 0 0, .slice none 0 0] 27)).alloc (.cells zans 27)).alloc (.cells #[.bool false] 4))
  generalize ((w.alloc (.cells #[.int .i64 id, .int .i64 kd, .int .i64 cd, .int .i64 0, .int .i64 0, .slice none 0 0, .slice none 0 0, .slice none 0 0] 27)).alloc (.cells zans 27)).alloc (.cells #[.bool false] 4) = W0 at *
  cases h1 : num s 0 with
  | none =>
    have Hd : Hid (readR s = none) := by unfold readR; rw [h1]; rfl
    go_wp2_with fail
    refine (anumber_bad W0 HRS.out.ra (by omega) hm2 h1).mono ?_
    rintro e w1 ⟨rfl, hk⟩
    go_wp2_with fail
    exact fail35 HRS.out hk Hd rfl rfl
  | some x1 =>
    obtain ⟨a, p1⟩ := x1
    obtain ⟨_, hp1, _⟩ := num_le (by omega) h1
    have H1 := Lib.hid h1; clear h1
    go_wp2_with fail
    refine (anumber_ok W0 HRS.out.ra (by omega) hm2 H1.out).mono ?_
    rintro e w1 ⟨rfl, hr, hk⟩
    have R1 := HRS.out.kp hk hr
    clear hr hk HRS
    have x3 := Own.blk_cell R1.bx 3
    have y3 := Own.blk_free R1.bx 3
    simp at x3
    have R2 := Lib.hid (R1.cell 3 (.int .i64 (a : Int)))
    clear R1
    have e1 : (w1.setCell ⟨w.heap.size, 3, none⟩ (.int .i64 (a : Int))) = w1.setCell ⟨w.heap.size, 3, none⟩ (.int .i64 (a : Int)) := rfl
    cases h2 : num s p1 with
    | none =>
      have Hd : Hid (readR s = none) := by unfold readR; rw [H1.out]; simp only [Option.bind_some]; rw [h2]; rfl
      go_wp2_with fail
      refine (anumber_bad _ R2.out.ra (by omega) hm2 h2).mono ?_
      rintro e w2 ⟨rfl, hk⟩
      go_wp2_with fail
      exact fail35 R2.out hk Hd rfl rfl
    | some x2 =>
      obtain ⟨b, p2⟩ := x2
      obtain ⟨_, hp2, _⟩ := num_le (by omega) h2
      have H2 := Lib.hid h2; clear h2
      go_wp2_with fail
      refine (anumber_ok _ R2.out.ra (by omega) hm2 H2.out).mono ?_
      rintro e w2 ⟨rfl, hr, hk⟩
      have R3 := R2.out.kp hk hr
      clear hr hk R2 e1 x3 y3
      have x4 := Own.blk_cell R3.bx 4
      have y4 := Own.blk_free R3.bx 4
      simp at x4
      have R4 := Lib.hid (R3.cell 4 (.int .i64 (b : Int)))
      clear R3
      cases h3 : num s p2 with
      | none =>
        have Hd : Hid (readR s = none) := by unfold readR; rw [H1.out]; simp only [Option.bind_some]; rw [H2.out]; simp only [Option.bind_some]; rw [h3]; rfl
        go_wp2_with fail
        refine (anumber_bad _ R4.out.ra (by omega) hm2 h3).mono ?_
        rintro e w3 ⟨rfl, hk⟩
        go_wp2_with fail
        exact fail35 R4.out hk Hd rfl rfl
      | some x3 =>
        obtain ⟨n5, p3⟩ := x3
        obtain ⟨_, hp3, hn5⟩ := num_le (by omega) h3
        have H3 := Lib.hid h3; clear h3
        go_wp2_with fail
        refine (anumber_ok _ R4.out.ra (by omega) hm2 H3.out).mono ?_
        rintro e w3 ⟨rfl, hr, hk⟩
        have R5 := Lib.hid (R4.out.kp hk hr)
        clear hr hk R4 x4 y4
        have RN := R5; clear R5
        have HP5 := Lib.hid hp3; clear hp3
        go_wp2_with fail
        go_loopw [15] (fun x wr => ∃ (q : Nat) (l5 : List S54) (A5 : Option Addr) (c5 : Nat), l5.length ≤ n5 ∧ x = .int .i64 (l5.length : Int) ∧ manyTo (fR s) p3 l5.length = some (l5, q) ∧ RS2 g s q (bxA id kd cd a b (.slice A5 l5.length c5) (.slice none 0 0) (.slice none 0 0)) w wr ∧ k54.R 54 wr w.heap.size (fun k => w.heap.size + 3 ≤ k) (.slice A5 l5.length c5) l5) (fun x _ => n5 - (intOf x).toNat)
        case atStart => exact ⟨p3, [], none, 0, Nat.zero_le _, rfl, rfl, RN.out, Kd.R_nil _ _ _ _ _⟩
        case round =>
          obtain ⟨q, l5, A5, c5, hk, rfl, hmt, rs, hR5⟩ := hrel
          obtain ⟨_, hpk, hqs, _⟩ := manyTo_le HP5.out fR_le hmt
          have HMT := Lib.hid hmt; clear hmt RN
          have RSD := Lib.hid rs.drew; have RS := Lib.hid rs; clear rs
          have HR5 := Lib.hid hR5; clear hR5
          have HQ := Lib.hid hqs
          have hl594 : l5.length ≤ 594 := by omega
          by_cases hlt : l5.length < n5
          · have k0 : (0 : Int) ≤ (l5.length : Int) := Int.natCast_nonneg _
            have k1 : (l5.length : Int) < (n5 : Int) := by omega
            have hby : (l5.length + 1) * 80 ≤ 140737488355328 := by omega
            have HBY := Lib.hid hby; clear hby
            cases hf : decR (s.extract q s.size) with
            | none =>
              have HF := Lib.hid hf; clear hf
              have Hd : Hid (readR s = none) := by unfold readR; rw [H1.out]; simp only [Option.bind_some]; rw [H2.out]; simp only [Option.bind_some]; rw [H3.out]; simp only [Option.bind_some]; rw [manyTo_bad HMT.out (by unfold fR; rw [HF.out]; rfl) hlt]; rfl
              obtain ⟨bc, hbc⟩ : ∃ bc, bc = (bxA id kd cd a b (.slice A5 l5.length c5) (.slice none 0 0) (.slice none 0 0)) := ⟨_, rfl⟩
              have HBC : Hid (bc[5]? = some (.slice A5 l5.length c5)) := Lib.hid (by rw [hbc]; rfl)
              have HBX : Hid (wr.drew.heap[w.heap.size]? = some (.cells bc 27 (0, 0))) := Lib.hid (by rw [hbc]; exact RSD.out.bx)
              clear hbc
              go_upto_region 6 with (fail)
              refine wp_region_held_drew (S := SB w.heap.size bc) (by kernel_rfl) (⟨HBX.out⟩) (fun hHeld => ?_)
              refine wpAnyH_take (i := 0) (oi := { dst := some 17, op := Op.fieldAddr 27 (Operand.tmp 3) 5, type := 0, pos := "answer.go:147", after := #[], guard := none }) (v := ?_) rfl (by kernel_rfl) (by kernel_rfl) (by kernel_rfl) (fun _ _ _ h => panic_put (i := 17) (by decide) h) (Or.inl ⟨by rfl, ?_⟩) hHeld ?_; rotate_left 1; (intro w9 hSw; obtain ⟨h9⟩ := hSw; go_simp; first | done | with_reducible rfl); (try simp only [Act.put, List.setIfInBounds_toArray, List.set_cons_zero, List.set_cons_succ])
              refine wpAnyH_take (i := 1) (oi := { dst := some 18, op := Op.load 23 (Operand.tmp 17), type := 23, pos := "answer.go:147", after := #[{ on := 0, ground := Ground.data }], guard := none }) (v := ?_) rfl (by kernel_rfl) (by kernel_rfl) (by kernel_rfl) (fun _ _ _ h => panic_put (i := 18) (by decide) h) (Or.inl ⟨by rfl, ?_⟩) hHeld ?_; rotate_left 1; (intro w9 hSw; obtain ⟨h9⟩ := hSw; have q9 := (Own.blk_cell h9 5).trans HBC.out; go_simp; first | done | with_reducible rfl); (try simp only [Act.put, List.setIfInBounds_toArray, List.set_cons_zero, List.set_cons_succ])
              refine wpAnyH_take (i := 2) (oi := { dst := some 19, op := Op.move (Operand.tmp 0), type := 68, pos := "answer.go:147", after := #[], guard := none }) (v := ?_) rfl (by kernel_rfl) (by kernel_rfl) (by kernel_rfl) (fun _ _ _ h => panic_put (i := 19) (by decide) h) (Or.inl ⟨by rfl, ?_⟩) hHeld ?_; rotate_left 1; (intro w9 hSw; obtain ⟨h9⟩ := hSw; go_simp; first | done | with_reducible rfl); (try simp only [Act.put, List.setIfInBounds_toArray, List.set_cons_zero, List.set_cons_succ])
              refine wpAnyH_ready (rs := [3]) (by kernel_rfl) (by simp) ?_; refine AllReadyH.cons (o := { dst := some 20, op := Op.call { callee := Callee.value (Operand.func 55), args := #[Operand.tmp 19], argTypes := #[68] }, type := 54, pos := "answer.go:147", after := #[{ on := 2, ground := Ground.data }], guard := none }) rfl (fun K hK => ?_) AllReadyH.nil; go_simp; refine (arec_bad wr.drew RSD.out.ra HQ.out hm2 HF.out).mono ?_; rintro e w4 ⟨rfl, hk4⟩
              go_wp2_with fail
              exact fail35 RSD.out hk4 Hd rfl rfl
            | some rc =>
              obtain ⟨r, c⟩ := rc
              have HF := Lib.hid hf; clear hf
              have HNX := Lib.hid (manyTo_next HMT.out (show fR s q = some (r, q + c) by unfold fR; rw [HF.out]; rfl))
              have x5 : wr.drew.cell? ⟨w.heap.size, 5, none⟩ = some (.slice A5 l5.length c5) := (Own.blk_cell RSD.out.bx 5).trans rfl
              go_upto_region 6 with (fail)
              refine wp_region_any (by kernel_rfl) ?_
              change wpAny _ _ _ _ _ _ _ (World.drew _)
              refine wpAny_take (i := 0) (oi := { dst := some 17, op := Op.fieldAddr 27 (Operand.tmp 3) 5, type := 0, pos := "answer.go:147", after := #[], guard := none }) (v := ?_) rfl (by kernel_rfl) (by kernel_rfl) (by kernel_rfl) (fun _ _ _ h => panic_put (i := 17) (by decide) h) (Or.inl ⟨by rfl, ?_⟩) ?_; rotate_left 1; (intro w9; go_simp; first | done | with_reducible rfl); (try simp only [Act.put, List.setIfInBounds_toArray, List.set_cons_zero, List.set_cons_succ])
              refine wpAny_take (i := 2) (oi := { dst := some 19, op := Op.move (Operand.tmp 0), type := 68, pos := "answer.go:147", after := #[], guard := none }) (v := ?_) rfl (by kernel_rfl) (by kernel_rfl) (by kernel_rfl) (fun _ _ _ h => panic_put (i := 19) (by decide) h) (Or.inl ⟨by rfl, ?_⟩) ?_; rotate_left 1; (intro w9; go_simp; first | done | with_reducible rfl); (try simp only [Act.put, List.setIfInBounds_toArray, List.set_cons_zero, List.set_cons_succ])
              refine wpAny_ready (rs := [1, 3]) (by kernel_rfl) (by simp) ?_
              refine AllReady.cons (o := { dst := some 18, op := Op.load 23 (Operand.tmp 17), type := 23, pos := "answer.go:147", after := #[{ on := 0, ground := Ground.data }], guard := none }) rfl (fun K hK => ?_) ?_
              · go_simp; refine hK _ _ ?_; clear hK K; (try simp only [Act.put, List.setIfInBounds_toArray, List.set_cons_zero, List.set_cons_succ])
                refine wpAny_ready (rs := [3]) (by kernel_rfl) (by simp) ?_
                refine AllReady.cons (o := { dst := some 20, op := Op.call { callee := Callee.value (Operand.func 55), args := #[Operand.tmp 19], argTypes := #[68] }, type := 54, pos := "answer.go:147", after := #[{ on := 2, ground := Ground.data }], guard := none }) rfl (fun K hK => ?_) AllReady.nil
                go_simp; go_at_call 55; refine (arec_ok wr.drew RSD.out.ra HQ.out hm2 HF.out).mono ?_; rintro e w4 ⟨rfl, hr4, hk4⟩; have rs4 := RSD.out.kp hk4 hr4; have gR5 := Lib.hid (R_kp (Kd.R_drew HR5.out) hk4 hg); have q4 : w4.cell? ⟨w.heap.size, 5, none⟩ = some (.slice A5 l5.length c5) := (Own.blk_cell rs4.bx 5).trans rfl; have q5 : (w4.alloc (.cells #[.int .i64 r.f0, .int .i64 r.f1, .string r.f2, .string r.f3, .bool r.f4, .int .i64 r.f5, .int .i64 r.f6, .int .i64 r.f7] 54)).cell? ⟨w.heap.size, 5, none⟩ = some (.slice A5 l5.length c5) := (Own.blk_cell (rs4.below ((Below.refl _ w4).alloc (Nat.le_refl _) _)).bx 5).trans rfl; have RS4 := Lib.hid rs4; clear rs4 hr4 hk4; unfold agR; (try go_wp2_with fail); (try simp only [Act.put, List.setIfInBounds_toArray, List.set_cons_zero, List.set_cons_succ])
                refine wpAny_ready (rs := [4]) (by kernel_rfl) (by simp) ?_
                refine AllReady.cons (o := { dst := some 21, op := Op.buildSlice 23 1 #[(0, Operand.tmp 20)], type := 23, pos := "answer.go:147", after := #[{ on := 3, ground := Ground.data }], guard := none }) rfl (fun K hK => ?_) AllReady.nil
                go_simp; refine hK _ (w4.alloc (.cells #[.int .i64 r.f0, .int .i64 r.f1, .string r.f2, .string r.f3, .bool r.f4, .int .i64 r.f5, .int .i64 r.f6, .int .i64 r.f7] 54)) ?_; clear hK K; (try simp only [Act.put, List.setIfInBounds_toArray, List.set_cons_zero, List.set_cons_succ])
                refine wpAny_ready (rs := [5]) (by kernel_rfl) (by simp) ?_
                refine AllReady.cons (o := { dst := some 22, op := Op.call { callee := Callee.builtin Builtin.append, args := #[Operand.tmp 18, Operand.tmp 21], argTypes := #[23, 23] }, type := 23, pos := "answer.go:147", after := #[{ on := 1, ground := Ground.data }, { on := 4, ground := Ground.data }, { on := 3, ground := Ground.chain }], guard := none }) rfl (fun K hK => ?_) AllReady.nil
                refine Kd.R_append_step k54 (w0 := w4) (W := w4) w.heap.size (by rfl) (.tmp 18) (.tmp 21) 23 54 zr 80 rfl Try.underlying23 info54 rfl (by decide) (by decide) (.slice A5 l5.length c5) l5 r [.int .i64 r.f0, .int .i64 r.f1, .string r.f2, .string r.f3, .bool r.f4, .int .i64 r.f5, .int .i64 r.f6, .int .i64 r.f7] (fun k => w.heap.size + 3 ≤ k) (fun _ => False) (by simp [Act.eval, Act.put]) (by simp [Act.eval, Act.put]) (k54_mkM _ _ _ r) (fun k hk => hk.elim) (fun k hk => Nat.le_trans RS4.out.size hk) gR5.out (Below.refl _ _) (Nat.le_trans (Nat.le_add_right _ _) RS4.out.size) HBY.out ?_; intro v5 w5 hR5 hB5 hg5 ha5; obtain ⟨A5', c5', rfl⟩ := Kd.R_slice hR5; have rs5 := RS4.out.grown gR5.out hg5; have f5 := Own.blk_free rs5.bx 5; have g5 : w5.cell? ⟨w.heap.size, 5, none⟩ = some (.slice A5 l5.length c5) := (Own.blk_cell rs5.bx 5).trans rfl; (try go_simp); refine hK _ _ ?_; clear hK K; (try simp only [Act.put, List.setIfInBounds_toArray, List.set_cons_zero, List.set_cons_succ])
                refine wpAny_take (i := 6) (oi := { dst := some 23, op := Op.fieldAddr 27 (Operand.tmp 3) 5, type := 0, pos := "answer.go:147", after := #[{ on := 0, ground := Ground.phase }, { on := 1, ground := Ground.phase }, { on := 2, ground := Ground.phase }, { on := 3, ground := Ground.phase }, { on := 4, ground := Ground.phase }, { on := 5, ground := Ground.phase }], guard := none }) (v := ?_) rfl (by kernel_rfl) (by kernel_rfl) (by kernel_rfl) (fun _ _ _ h => panic_put (i := 23) (by decide) h) (Or.inl ⟨by rfl, ?_⟩) ?_; rotate_left 1; (intro w9; go_simp; first | done | with_reducible rfl); (try simp only [Act.put, List.setIfInBounds_toArray, List.set_cons_zero, List.set_cons_succ])
                refine wpAny_ready (rs := [7]) (by kernel_rfl) (by simp) ?_
                refine AllReady.cons (o := { dst := none, op := Op.store 23 (Operand.tmp 23) (Operand.tmp 22), type := 0, pos := "answer.go:147", after := #[{ on := 6, ground := Ground.data }, { on := 5, ground := Ground.data }, { on := 5, ground := Ground.chain }, { on := 0, ground := Ground.phase }, { on := 1, ground := Ground.phase }, { on := 2, ground := Ground.phase }, { on := 3, ground := Ground.phase }, { on := 4, ground := Ground.phase }, { on := 5, ground := Ground.phase }], guard := none }) rfl (fun K hK => ?_) AllReady.nil
                go_simp; refine hK _ _ ?_; clear hK K; (try simp only [Act.put, List.setIfInBounds_toArray, List.set_cons_zero, List.set_cons_succ])
                refine wpAny_done (by kernel_rfl) ?_ _
                have hlen : (l5 ++ [r]).length = l5.length + 1 := by rw [List.length_append, List.length_singleton]
                have RS6 := Lib.hid (rs5.cell 5 (.slice A5' (l5.length + 1) c5'))
                have NR6 := Lib.hid (Kd.R_far (p := ⟨w.heap.size, 5, none⟩) hR5 (fun k hk => by show k ≠ w.heap.size; omega) (.slice A5' (l5.length + 1) c5'))
                have HL := Lib.hid hlen; clear hlen rs5 hR5 hB5 hg5 ha5 f5 g5 q4 q5 x5 RS4 HF RSD RS HR5 gR5
                go_wp2
                go_roundw
                case rel => exact ⟨q + c, l5 ++ [r], A5', c5', (by rw [HL.out]; exact hlt), (by rw [HL.out]; go_num), (by rw [HL.out]; exact HNX.out), (by rw [HL.out]; exact RS6.out), NR6.out⟩
                case measure => exact meas3 hlt
              refine AllReady.cons (o := { dst := some 20, op := Op.call { callee := Callee.value (Operand.func 55), args := #[Operand.tmp 19], argTypes := #[68] }, type := 54, pos := "answer.go:147", after := #[{ on := 2, ground := Ground.data }], guard := none }) rfl (fun K hK => ?_) AllReady.nil
              go_simp; go_at_call 55; refine (arec_ok wr.drew RSD.out.ra HQ.out hm2 HF.out).mono ?_; rintro e w4 ⟨rfl, hr4, hk4⟩; have rs4 := RSD.out.kp hk4 hr4; have gR5 := Lib.hid (R_kp (Kd.R_drew HR5.out) hk4 hg); have q4 : w4.cell? ⟨w.heap.size, 5, none⟩ = some (.slice A5 l5.length c5) := (Own.blk_cell rs4.bx 5).trans rfl; have q5 : (w4.alloc (.cells #[.int .i64 r.f0, .int .i64 r.f1, .string r.f2, .string r.f3, .bool r.f4, .int .i64 r.f5, .int .i64 r.f6, .int .i64 r.f7] 54)).cell? ⟨w.heap.size, 5, none⟩ = some (.slice A5 l5.length c5) := (Own.blk_cell (rs4.below ((Below.refl _ w4).alloc (Nat.le_refl _) _)).bx 5).trans rfl; have RS4 := Lib.hid rs4; clear rs4 hr4 hk4; unfold agR; (try go_wp2_with fail); (try simp only [Act.put, List.setIfInBounds_toArray, List.set_cons_zero, List.set_cons_succ])
              refine wpAny_ready (rs := [1, 4]) (by kernel_rfl) (by simp) ?_
              refine AllReady.cons (o := { dst := some 18, op := Op.load 23 (Operand.tmp 17), type := 23, pos := "answer.go:147", after := #[{ on := 0, ground := Ground.data }], guard := none }) rfl (fun K hK => ?_) ?_
              · go_simp; refine hK _ _ ?_; clear hK K; (try simp only [Act.put, List.setIfInBounds_toArray, List.set_cons_zero, List.set_cons_succ])
                refine wpAny_ready (rs := [4]) (by kernel_rfl) (by simp) ?_
                refine AllReady.cons (o := { dst := some 21, op := Op.buildSlice 23 1 #[(0, Operand.tmp 20)], type := 23, pos := "answer.go:147", after := #[{ on := 3, ground := Ground.data }], guard := none }) rfl (fun K hK => ?_) AllReady.nil
                go_simp; refine hK _ (w4.alloc (.cells #[.int .i64 r.f0, .int .i64 r.f1, .string r.f2, .string r.f3, .bool r.f4, .int .i64 r.f5, .int .i64 r.f6, .int .i64 r.f7] 54)) ?_; clear hK K; (try simp only [Act.put, List.setIfInBounds_toArray, List.set_cons_zero, List.set_cons_succ])
                refine wpAny_ready (rs := [5]) (by kernel_rfl) (by simp) ?_
                refine AllReady.cons (o := { dst := some 22, op := Op.call { callee := Callee.builtin Builtin.append, args := #[Operand.tmp 18, Operand.tmp 21], argTypes := #[23, 23] }, type := 23, pos := "answer.go:147", after := #[{ on := 1, ground := Ground.data }, { on := 4, ground := Ground.data }, { on := 3, ground := Ground.chain }], guard := none }) rfl (fun K hK => ?_) AllReady.nil
                refine Kd.R_append_step k54 (w0 := w4) (W := w4) w.heap.size (by rfl) (.tmp 18) (.tmp 21) 23 54 zr 80 rfl Try.underlying23 info54 rfl (by decide) (by decide) (.slice A5 l5.length c5) l5 r [.int .i64 r.f0, .int .i64 r.f1, .string r.f2, .string r.f3, .bool r.f4, .int .i64 r.f5, .int .i64 r.f6, .int .i64 r.f7] (fun k => w.heap.size + 3 ≤ k) (fun _ => False) (by simp [Act.eval, Act.put]) (by simp [Act.eval, Act.put]) (k54_mkM _ _ _ r) (fun k hk => hk.elim) (fun k hk => Nat.le_trans RS4.out.size hk) gR5.out (Below.refl _ _) (Nat.le_trans (Nat.le_add_right _ _) RS4.out.size) HBY.out ?_; intro v5 w5 hR5 hB5 hg5 ha5; obtain ⟨A5', c5', rfl⟩ := Kd.R_slice hR5; have rs5 := RS4.out.grown gR5.out hg5; have f5 := Own.blk_free rs5.bx 5; have g5 : w5.cell? ⟨w.heap.size, 5, none⟩ = some (.slice A5 l5.length c5) := (Own.blk_cell rs5.bx 5).trans rfl; (try go_simp); refine hK _ _ ?_; clear hK K; (try simp only [Act.put, List.setIfInBounds_toArray, List.set_cons_zero, List.set_cons_succ])
                refine wpAny_take (i := 6) (oi := { dst := some 23, op := Op.fieldAddr 27 (Operand.tmp 3) 5, type := 0, pos := "answer.go:147", after := #[{ on := 0, ground := Ground.phase }, { on := 1, ground := Ground.phase }, { on := 2, ground := Ground.phase }, { on := 3, ground := Ground.phase }, { on := 4, ground := Ground.phase }, { on := 5, ground := Ground.phase }], guard := none }) (v := ?_) rfl (by kernel_rfl) (by kernel_rfl) (by kernel_rfl) (fun _ _ _ h => panic_put (i := 23) (by decide) h) (Or.inl ⟨by rfl, ?_⟩) ?_; rotate_left 1; (intro w9; go_simp; first | done | with_reducible rfl); (try simp only [Act.put, List.setIfInBounds_toArray, List.set_cons_zero, List.set_cons_succ])
                refine wpAny_ready (rs := [7]) (by kernel_rfl) (by simp) ?_
                refine AllReady.cons (o := { dst := none, op := Op.store 23 (Operand.tmp 23) (Operand.tmp 22), type := 0, pos := "answer.go:147", after := #[{ on := 6, ground := Ground.data }, { on := 5, ground := Ground.data }, { on := 5, ground := Ground.chain }, { on := 0, ground := Ground.phase }, { on := 1, ground := Ground.phase }, { on := 2, ground := Ground.phase }, { on := 3, ground := Ground.phase }, { on := 4, ground := Ground.phase }, { on := 5, ground := Ground.phase }], guard := none }) rfl (fun K hK => ?_) AllReady.nil
                go_simp; refine hK _ _ ?_; clear hK K; (try simp only [Act.put, List.setIfInBounds_toArray, List.set_cons_zero, List.set_cons_succ])
                refine wpAny_done (by kernel_rfl) ?_ _
                have hlen : (l5 ++ [r]).length = l5.length + 1 := by rw [List.length_append, List.length_singleton]
                have RS6 := Lib.hid (rs5.cell 5 (.slice A5' (l5.length + 1) c5'))
                have NR6 := Lib.hid (Kd.R_far (p := ⟨w.heap.size, 5, none⟩) hR5 (fun k hk => by show k ≠ w.heap.size; omega) (.slice A5' (l5.length + 1) c5'))
                have HL := Lib.hid hlen; clear hlen rs5 hR5 hB5 hg5 ha5 f5 g5 q4 q5 x5 RS4 HF RSD RS HR5 gR5
                go_wp2
                go_roundw
                case rel => exact ⟨q + c, l5 ++ [r], A5', c5', (by rw [HL.out]; exact hlt), (by rw [HL.out]; go_num), (by rw [HL.out]; exact HNX.out), (by rw [HL.out]; exact RS6.out), NR6.out⟩
                case measure => exact meas3 hlt
              refine AllReady.cons (o := { dst := some 21, op := Op.buildSlice 23 1 #[(0, Operand.tmp 20)], type := 23, pos := "answer.go:147", after := #[{ on := 3, ground := Ground.data }], guard := none }) rfl (fun K hK => ?_) AllReady.nil
              go_simp; refine hK _ (w4.alloc (.cells #[.int .i64 r.f0, .int .i64 r.f1, .string r.f2, .string r.f3, .bool r.f4, .int .i64 r.f5, .int .i64 r.f6, .int .i64 r.f7] 54)) ?_; clear hK K; (try simp only [Act.put, List.setIfInBounds_toArray, List.set_cons_zero, List.set_cons_succ])
              refine wpAny_ready (rs := [1]) (by kernel_rfl) (by simp) ?_
              refine AllReady.cons (o := { dst := some 18, op := Op.load 23 (Operand.tmp 17), type := 23, pos := "answer.go:147", after := #[{ on := 0, ground := Ground.data }], guard := none }) rfl (fun K hK => ?_) AllReady.nil
              go_simp; refine hK _ _ ?_; clear hK K; (try simp only [Act.put, List.setIfInBounds_toArray, List.set_cons_zero, List.set_cons_succ])
              refine wpAny_ready (rs := [5]) (by kernel_rfl) (by simp) ?_
              refine AllReady.cons (o := { dst := some 22, op := Op.call { callee := Callee.builtin Builtin.append, args := #[Operand.tmp 18, Operand.tmp 21], argTypes := #[23, 23] }, type := 23, pos := "answer.go:147", after := #[{ on := 1, ground := Ground.data }, { on := 4, ground := Ground.data }, { on := 3, ground := Ground.chain }], guard := none }) rfl (fun K hK => ?_) AllReady.nil
              refine Kd.R_append_step k54 (w0 := w4) (W := w4) w.heap.size (by rfl) (.tmp 18) (.tmp 21) 23 54 zr 80 rfl Try.underlying23 info54 rfl (by decide) (by decide) (.slice A5 l5.length c5) l5 r [.int .i64 r.f0, .int .i64 r.f1, .string r.f2, .string r.f3, .bool r.f4, .int .i64 r.f5, .int .i64 r.f6, .int .i64 r.f7] (fun k => w.heap.size + 3 ≤ k) (fun _ => False) (by simp [Act.eval, Act.put]) (by simp [Act.eval, Act.put]) (k54_mkM _ _ _ r) (fun k hk => hk.elim) (fun k hk => Nat.le_trans RS4.out.size hk) gR5.out (Below.refl _ _) (Nat.le_trans (Nat.le_add_right _ _) RS4.out.size) HBY.out ?_; intro v5 w5 hR5 hB5 hg5 ha5; obtain ⟨A5', c5', rfl⟩ := Kd.R_slice hR5; have rs5 := RS4.out.grown gR5.out hg5; have f5 := Own.blk_free rs5.bx 5; have g5 : w5.cell? ⟨w.heap.size, 5, none⟩ = some (.slice A5 l5.length c5) := (Own.blk_cell rs5.bx 5).trans rfl; (try go_simp); refine hK _ _ ?_; clear hK K; (try simp only [Act.put, List.setIfInBounds_toArray, List.set_cons_zero, List.set_cons_succ])
              refine wpAny_take (i := 6) (oi := { dst := some 23, op := Op.fieldAddr 27 (Operand.tmp 3) 5, type := 0, pos := "answer.go:147", after := #[{ on := 0, ground := Ground.phase }, { on := 1, ground := Ground.phase }, { on := 2, ground := Ground.phase }, { on := 3, ground := Ground.phase }, { on := 4, ground := Ground.phase }, { on := 5, ground := Ground.phase }], guard := none }) (v := ?_) rfl (by kernel_rfl) (by kernel_rfl) (by kernel_rfl) (fun _ _ _ h => panic_put (i := 23) (by decide) h) (Or.inl ⟨by rfl, ?_⟩) ?_; rotate_left 1; (intro w9; go_simp; first | done | with_reducible rfl); (try simp only [Act.put, List.setIfInBounds_toArray, List.set_cons_zero, List.set_cons_succ])
              refine wpAny_ready (rs := [7]) (by kernel_rfl) (by simp) ?_
              refine AllReady.cons (o := { dst := none, op := Op.store 23 (Operand.tmp 23) (Operand.tmp 22), type := 0, pos := "answer.go:147", after := #[{ on := 6, ground := Ground.data }, { on := 5, ground := Ground.data }, { on := 5, ground := Ground.chain }, { on := 0, ground := Ground.phase }, { on := 1, ground := Ground.phase }, { on := 2, ground := Ground.phase }, { on := 3, ground := Ground.phase }, { on := 4, ground := Ground.phase }, { on := 5, ground := Ground.phase }], guard := none }) rfl (fun K hK => ?_) AllReady.nil
              go_simp; refine hK _ _ ?_; clear hK K; (try simp only [Act.put, List.setIfInBounds_toArray, List.set_cons_zero, List.set_cons_succ])
              refine wpAny_done (by kernel_rfl) ?_ _
              have hlen : (l5 ++ [r]).length = l5.length + 1 := by rw [List.length_append, List.length_singleton]
              have RS6 := Lib.hid (rs5.cell 5 (.slice A5' (l5.length + 1) c5'))
              have NR6 := Lib.hid (Kd.R_far (p := ⟨w.heap.size, 5, none⟩) hR5 (fun k hk => by show k ≠ w.heap.size; omega) (.slice A5' (l5.length + 1) c5'))
              have HL := Lib.hid hlen; clear hlen rs5 hR5 hB5 hg5 ha5 f5 g5 q4 q5 x5 RS4 HF RSD RS HR5 gR5
              go_wp2
              go_roundw
              case rel => exact ⟨q + c, l5 ++ [r], A5', c5', (by rw [HL.out]; exact hlt), (by rw [HL.out]; go_num), (by rw [HL.out]; exact HNX.out), (by rw [HL.out]; exact RS6.out), NR6.out⟩
              case measure => exact meas3 hlt
          · have hkn : l5.length = n5 := by omega
            have HM5 := Lib.hid (show manyTo (fR s) p3 n5 = some (l5, q) from by rw [← hkn]; exact HMT.out)
            have hlt2 : ¬ (l5.length : Int) < (n5 : Int) := by omega
            have HLE5 := Lib.hid hl594; clear hl594
            have QS := Lib.hid hqs; clear hqs hpk hk hlt hkn HMT RSD
            cases hn : num s q with
            | none =>
              have HN := Lib.hid hn; clear hn
              have Hd : Hid (readR s = none) := by unfold readR; rw [H1.out]; simp only [Option.bind_some]; rw [H2.out]; simp only [Option.bind_some]; rw [H3.out]; simp only [Option.bind_some]; rw [HM5.out]; simp only [Option.bind_some]; rw [HN.out]; rfl
              go_wp2_with fail
              refine (anumber_bad _ RS.out.ra QS.out hm2 HN.out).mono ?_
              rintro e w3 ⟨rfl, hk⟩
              go_wp2_with fail
              exact fail35 RS.out hk Hd rfl rfl
            | some xn =>
              obtain ⟨n6, p5⟩ := xn
              obtain ⟨_, hpn, hbn⟩ := num_le QS.out hn
              have H6 := Lib.hid hn; clear hn
              have HP6 := Lib.hid hpn; clear hpn
              go_wp2_with fail
              clear hlt2
              refine (anumber_ok _ RS.out.ra QS.out hm2 H6.out).mono ?_
              rintro e w3 ⟨rfl, hr, hk⟩
              have RN := Lib.hid (RS.out.kp hk hr)
              have hR5 := R_kp HR5.out hk hg; clear HR5; have HR5 := Lib.hid hR5; clear hR5
              clear hr hk RS QS
              go_wp2_with fail
              go_loopw [27] (fun x wr => ∃ (q : Nat) (l6 : List ByteArray) (A6 : Option Addr) (c6 : Nat), l6.length ≤ n6 ∧ x = .int .i64 (l6.length : Int) ∧ manyTo (txt s) p5 l6.length = some (l6, q) ∧ RS2 g s q (bxA id kd cd a b (.slice A5 l5.length c5) (.slice A6 l6.length c6) (.slice none 0 0)) w wr ∧ Kd.string.R 9 wr w.heap.size (fun k => w.heap.size + 3 ≤ k) (.slice A6 l6.length c6) l6 ∧ k54.R 54 wr w.heap.size (fun k => w.heap.size + 3 ≤ k) (.slice A5 l5.length c5) l5) (fun x _ => n6 - (intOf x).toNat)
              case atStart => exact ⟨p5, [], none, 0, Nat.zero_le _, rfl, rfl, RN.out, Kd.R_nil _ _ _ _ _, HR5.out⟩
              case round =>
                obtain ⟨q, l6, A6, c6, hk, rfl, hmt, rs, hR6, hR5⟩ := hrel
                obtain ⟨_, hpk, hqs, _⟩ := manyTo_le HP6.out txt_le hmt
                have HMT := Lib.hid hmt; clear hmt RN HR5
                have RSD := Lib.hid rs.drew; have RS := Lib.hid rs; clear rs
                have HR5 := Lib.hid hR5; clear hR5
                have HR6 := Lib.hid hR6; clear hR6
                have HQ := Lib.hid hqs
                have hl594 : l6.length ≤ 594 := by omega
                by_cases hlt : l6.length < n6
                · have k0 : (0 : Int) ≤ (l6.length : Int) := Int.natCast_nonneg _
                  have k1 : (l6.length : Int) < (n6 : Int) := by omega
                  have hby : (l6.length + 1) * 16 ≤ 140737488355328 := by omega
                  have HBY := Lib.hid hby; clear hby
                  cases hf : txt s q with
                  | none =>
                    have HF := Lib.hid hf; clear hf
                    have Hd : Hid (readR s = none) := by unfold readR; rw [H1.out]; simp only [Option.bind_some]; rw [H2.out]; simp only [Option.bind_some]; rw [H3.out]; simp only [Option.bind_some]; rw [HM5.out]; simp only [Option.bind_some]; rw [H6.out]; simp only [Option.bind_some]; rw [manyTo_bad HMT.out HF.out hlt]; rfl
                    obtain ⟨bc, hbc⟩ : ∃ bc, bc = (bxA id kd cd a b (.slice A5 l5.length c5) (.slice A6 l6.length c6) (.slice none 0 0)) := ⟨_, rfl⟩
                    have HBC : Hid (bc[6]? = some (.slice A6 l6.length c6)) := Lib.hid (by rw [hbc]; rfl)
                    have HBX : Hid (wr.drew.heap[w.heap.size]? = some (.cells bc 27 (0, 0))) := Lib.hid (by rw [hbc]; exact RSD.out.bx)
                    clear hbc
                    go_upto_region 10 with (fail)
                    refine wp_region_held_drew (S := SB w.heap.size bc) (by kernel_rfl) (⟨HBX.out⟩) (fun hHeld => ?_)
                    refine wpAnyH_take (i := 0) (oi := { dst := some 29, op := Op.fieldAddr 27 (Operand.tmp 3) 6, type := 0, pos := "answer.go:150", after := #[], guard := none }) (v := ?_) rfl (by kernel_rfl) (by kernel_rfl) (by kernel_rfl) (fun _ _ _ h => panic_put (i := 29) (by decide) h) (Or.inl ⟨by rfl, ?_⟩) hHeld ?_; rotate_left 1; (intro w9 hSw; obtain ⟨h9⟩ := hSw; go_simp; first | done | with_reducible rfl); (try simp only [Act.put, List.setIfInBounds_toArray, List.set_cons_zero, List.set_cons_succ])
                    refine wpAnyH_take (i := 1) (oi := { dst := some 30, op := Op.load 24 (Operand.tmp 29), type := 24, pos := "answer.go:150", after := #[{ on := 0, ground := Ground.data }], guard := none }) (v := ?_) rfl (by kernel_rfl) (by kernel_rfl) (by kernel_rfl) (fun _ _ _ h => panic_put (i := 30) (by decide) h) (Or.inl ⟨by rfl, ?_⟩) hHeld ?_; rotate_left 1; (intro w9 hSw; obtain ⟨h9⟩ := hSw; have q9 := (Own.blk_cell h9 6).trans HBC.out; go_simp; first | done | with_reducible rfl); (try simp only [Act.put, List.setIfInBounds_toArray, List.set_cons_zero, List.set_cons_succ])
                    refine wpAnyH_take (i := 2) (oi := { dst := some 31, op := Op.move (Operand.tmp 0), type := 68, pos := "answer.go:150", after := #[], guard := none }) (v := ?_) rfl (by kernel_rfl) (by kernel_rfl) (by kernel_rfl) (fun _ _ _ h => panic_put (i := 31) (by decide) h) (Or.inl ⟨by rfl, ?_⟩) hHeld ?_; rotate_left 1; (intro w9 hSw; obtain ⟨h9⟩ := hSw; go_simp; first | done | with_reducible rfl); (try simp only [Act.put, List.setIfInBounds_toArray, List.set_cons_zero, List.set_cons_succ])
                    refine wpAnyH_ready (rs := [3]) (by kernel_rfl) (by simp) ?_; refine AllReadyH.cons (o := { dst := some 32, op := Op.call { callee := Callee.value (Operand.func 56), args := #[Operand.tmp 31], argTypes := #[68] }, type := 9, pos := "answer.go:150", after := #[{ on := 2, ground := Ground.data }], guard := none }) rfl (fun K hK => ?_) AllReadyH.nil; go_simp; refine (atext_bad wr.drew RSD.out.ra HQ.out hm2 HF.out).mono ?_; rintro e w4 ⟨rfl, hk4⟩
                    go_wp2_with fail
                    exact fail35 RSD.out hk4 Hd rfl rfl
                  | some rc =>
                    obtain ⟨r, c⟩ := rc
                    have HF := Lib.hid hf; clear hf
                    have HNX := Lib.hid (manyTo_next HMT.out HF.out)
                    have x5 : wr.drew.cell? ⟨w.heap.size, 6, none⟩ = some (.slice A6 l6.length c6) := (Own.blk_cell RSD.out.bx 6).trans rfl
                    go_upto_region 10 with (fail)
                    refine wp_region_any (by kernel_rfl) ?_
                    change wpAny _ _ _ _ _ _ _ (World.drew _)
                    refine wpAny_take (i := 0) (oi := { dst := some 29, op := Op.fieldAddr 27 (Operand.tmp 3) 6, type := 0, pos := "answer.go:150", after := #[], guard := none }) (v := ?_) rfl (by kernel_rfl) (by kernel_rfl) (by kernel_rfl) (fun _ _ _ h => panic_put (i := 29) (by decide) h) (Or.inl ⟨by rfl, ?_⟩) ?_; rotate_left 1; (intro w9; go_simp; first | done | with_reducible rfl); (try simp only [Act.put, List.setIfInBounds_toArray, List.set_cons_zero, List.set_cons_succ])
                    refine wpAny_take (i := 2) (oi := { dst := some 31, op := Op.move (Operand.tmp 0), type := 68, pos := "answer.go:150", after := #[], guard := none }) (v := ?_) rfl (by kernel_rfl) (by kernel_rfl) (by kernel_rfl) (fun _ _ _ h => panic_put (i := 31) (by decide) h) (Or.inl ⟨by rfl, ?_⟩) ?_; rotate_left 1; (intro w9; go_simp; first | done | with_reducible rfl); (try simp only [Act.put, List.setIfInBounds_toArray, List.set_cons_zero, List.set_cons_succ])
                    refine wpAny_ready (rs := [1, 3]) (by kernel_rfl) (by simp) ?_
                    refine AllReady.cons (o := { dst := some 30, op := Op.load 24 (Operand.tmp 29), type := 24, pos := "answer.go:150", after := #[{ on := 0, ground := Ground.data }], guard := none }) rfl (fun K hK => ?_) ?_
                    · go_simp; refine hK _ _ ?_; clear hK K; (try simp only [Act.put, List.setIfInBounds_toArray, List.set_cons_zero, List.set_cons_succ])
                      refine wpAny_ready (rs := [3]) (by kernel_rfl) (by simp) ?_
                      refine AllReady.cons (o := { dst := some 32, op := Op.call { callee := Callee.value (Operand.func 56), args := #[Operand.tmp 31], argTypes := #[68] }, type := 9, pos := "answer.go:150", after := #[{ on := 2, ground := Ground.data }], guard := none }) rfl (fun K hK => ?_) AllReady.nil
                      go_simp; go_at_call 56; refine (atext_ok wr.drew RSD.out.ra HQ.out hm2 HF.out).mono ?_; rintro e w4 ⟨rfl, hr4, hk4⟩; have rs4 := RSD.out.kp hk4 hr4; have gR5 := Lib.hid (R_kp (Kd.R_drew HR5.out) hk4 hg); have gR6 := Lib.hid (R_kp (Kd.R_drew HR6.out) hk4 hg); have q4 : w4.cell? ⟨w.heap.size, 6, none⟩ = some (.slice A6 l6.length c6) := (Own.blk_cell rs4.bx 6).trans rfl; have q5 : (w4.alloc (.cells #[.string r] 9)).cell? ⟨w.heap.size, 6, none⟩ = some (.slice A6 l6.length c6) := (Own.blk_cell (rs4.below ((Below.refl _ w4).alloc (Nat.le_refl _) _)).bx 6).trans rfl; have RS4 := Lib.hid rs4; clear rs4 hr4 hk4; (try go_wp2_with fail); (try simp only [Act.put, List.setIfInBounds_toArray, List.set_cons_zero, List.set_cons_succ])
                      refine wpAny_ready (rs := [4]) (by kernel_rfl) (by simp) ?_
                      refine AllReady.cons (o := { dst := some 33, op := Op.buildSlice 24 1 #[(0, Operand.tmp 32)], type := 24, pos := "answer.go:150", after := #[{ on := 3, ground := Ground.data }], guard := none }) rfl (fun K hK => ?_) AllReady.nil
                      go_simp; refine hK _ (w4.alloc (.cells #[.string r] 9)) ?_; clear hK K; (try simp only [Act.put, List.setIfInBounds_toArray, List.set_cons_zero, List.set_cons_succ])
                      refine wpAny_ready (rs := [5]) (by kernel_rfl) (by simp) ?_
                      refine AllReady.cons (o := { dst := some 34, op := Op.call { callee := Callee.builtin Builtin.append, args := #[Operand.tmp 30, Operand.tmp 33], argTypes := #[24, 24] }, type := 24, pos := "answer.go:150", after := #[{ on := 1, ground := Ground.data }, { on := 4, ground := Ground.data }, { on := 3, ground := Ground.chain }], guard := none }) rfl (fun K hK => ?_) AllReady.nil
                      refine Kd.R_append_step Kd.string (w0 := w4) (W := w4) w.heap.size (by rfl) (.tmp 30) (.tmp 33) 24 9 (.string ⟨#[]⟩) 16 rfl Try.underlying24 info9 rfl (by decide) (by decide) (.slice A6 l6.length c6) l6 r [.string r] (fun k => w.heap.size + 3 ≤ k) (fun _ => False) (by simp [Act.eval, Act.put]) (by simp [Act.eval, Act.put]) (show Kd.string.M _ _ _ r [.string r] from rfl) (fun k hk => hk.elim) (fun k hk => Nat.le_trans RS4.out.size hk) gR6.out (Below.refl _ _) (Nat.le_trans (Nat.le_add_right _ _) RS4.out.size) HBY.out ?_; intro v5 w5 hR5 hB5 hg5 ha5; obtain ⟨A5', c5', rfl⟩ := Kd.R_slice hR5; have rs5 := RS4.out.grown gR6.out hg5; have f5 := Own.blk_free rs5.bx 6; have g5 : w5.cell? ⟨w.heap.size, 6, none⟩ = some (.slice A6 l6.length c6) := (Own.blk_cell rs5.bx 6).trans rfl; (try go_simp); refine hK _ _ ?_; clear hK K; (try simp only [Act.put, List.setIfInBounds_toArray, List.set_cons_zero, List.set_cons_succ])
                      refine wpAny_take (i := 6) (oi := { dst := some 35, op := Op.fieldAddr 27 (Operand.tmp 3) 6, type := 0, pos := "answer.go:150", after := #[{ on := 0, ground := Ground.phase }, { on := 1, ground := Ground.phase }, { on := 2, ground := Ground.phase }, { on := 3, ground := Ground.phase }, { on := 4, ground := Ground.phase }, { on := 5, ground := Ground.phase }], guard := none }) (v := ?_) rfl (by kernel_rfl) (by kernel_rfl) (by kernel_rfl) (fun _ _ _ h => panic_put (i := 35) (by decide) h) (Or.inl ⟨by rfl, ?_⟩) ?_; rotate_left 1; (intro w9; go_simp; first | done | with_reducible rfl); (try simp only [Act.put, List.setIfInBounds_toArray, List.set_cons_zero, List.set_cons_succ])
                      refine wpAny_ready (rs := [7]) (by kernel_rfl) (by simp) ?_
                      refine AllReady.cons (o := { dst := none, op := Op.store 24 (Operand.tmp 35) (Operand.tmp 34), type := 0, pos := "answer.go:150", after := #[{ on := 6, ground := Ground.data }, { on := 5, ground := Ground.data }, { on := 5, ground := Ground.chain }, { on := 0, ground := Ground.phase }, { on := 1, ground := Ground.phase }, { on := 2, ground := Ground.phase }, { on := 3, ground := Ground.phase }, { on := 4, ground := Ground.phase }, { on := 5, ground := Ground.phase }], guard := none }) rfl (fun K hK => ?_) AllReady.nil
                      go_simp; refine hK _ _ ?_; clear hK K; (try simp only [Act.put, List.setIfInBounds_toArray, List.set_cons_zero, List.set_cons_succ])
                      refine wpAny_done (by kernel_rfl) ?_ _
                      have hlen : (l6 ++ [r]).length = l6.length + 1 := by rw [List.length_append, List.length_singleton]
                      have RS6 := Lib.hid (rs5.cell 6 (.slice A5' (l6.length + 1) c5'))
                      have NR6 := Lib.hid (Kd.R_far (p := ⟨w.heap.size, 6, none⟩) hR5 (fun k hk => by show k ≠ w.heap.size; omega) (.slice A5' (l6.length + 1) c5'))
                      have HX5 := Lib.hid (Kd.R_far (p := ⟨w.heap.size, 6, none⟩) (Kd.R_over gR5.out gR6.out (by decide) hg5) (fun k hk => by show k ≠ w.heap.size; omega) (.slice A5' (l6.length + 1) c5'))
                      have HL := Lib.hid hlen; clear hlen rs5 hR5 hB5 hg5 ha5 f5 g5 q4 q5 x5 RS4 HF RSD RS HR5 gR5 HR6 gR6
                      go_wp2
                      go_roundw
                      case rel => exact ⟨c, l6 ++ [r], A5', c5', (by rw [HL.out]; exact hlt), (by rw [HL.out]; go_num), (by rw [HL.out]; exact HNX.out), (by rw [HL.out]; exact RS6.out), NR6.out, HX5.out⟩
                      case measure => exact meas3 hlt
                    refine AllReady.cons (o := { dst := some 32, op := Op.call { callee := Callee.value (Operand.func 56), args := #[Operand.tmp 31], argTypes := #[68] }, type := 9, pos := "answer.go:150", after := #[{ on := 2, ground := Ground.data }], guard := none }) rfl (fun K hK => ?_) AllReady.nil
                    go_simp; go_at_call 56; refine (atext_ok wr.drew RSD.out.ra HQ.out hm2 HF.out).mono ?_; rintro e w4 ⟨rfl, hr4, hk4⟩; have rs4 := RSD.out.kp hk4 hr4; have gR5 := Lib.hid (R_kp (Kd.R_drew HR5.out) hk4 hg); have gR6 := Lib.hid (R_kp (Kd.R_drew HR6.out) hk4 hg); have q4 : w4.cell? ⟨w.heap.size, 6, none⟩ = some (.slice A6 l6.length c6) := (Own.blk_cell rs4.bx 6).trans rfl; have q5 : (w4.alloc (.cells #[.string r] 9)).cell? ⟨w.heap.size, 6, none⟩ = some (.slice A6 l6.length c6) := (Own.blk_cell (rs4.below ((Below.refl _ w4).alloc (Nat.le_refl _) _)).bx 6).trans rfl; have RS4 := Lib.hid rs4; clear rs4 hr4 hk4; (try go_wp2_with fail); (try simp only [Act.put, List.setIfInBounds_toArray, List.set_cons_zero, List.set_cons_succ])
                    refine wpAny_ready (rs := [1, 4]) (by kernel_rfl) (by simp) ?_
                    refine AllReady.cons (o := { dst := some 30, op := Op.load 24 (Operand.tmp 29), type := 24, pos := "answer.go:150", after := #[{ on := 0, ground := Ground.data }], guard := none }) rfl (fun K hK => ?_) ?_
                    · go_simp; refine hK _ _ ?_; clear hK K; (try simp only [Act.put, List.setIfInBounds_toArray, List.set_cons_zero, List.set_cons_succ])
                      refine wpAny_ready (rs := [4]) (by kernel_rfl) (by simp) ?_
                      refine AllReady.cons (o := { dst := some 33, op := Op.buildSlice 24 1 #[(0, Operand.tmp 32)], type := 24, pos := "answer.go:150", after := #[{ on := 3, ground := Ground.data }], guard := none }) rfl (fun K hK => ?_) AllReady.nil
                      go_simp; refine hK _ (w4.alloc (.cells #[.string r] 9)) ?_; clear hK K; (try simp only [Act.put, List.setIfInBounds_toArray, List.set_cons_zero, List.set_cons_succ])
                      refine wpAny_ready (rs := [5]) (by kernel_rfl) (by simp) ?_
                      refine AllReady.cons (o := { dst := some 34, op := Op.call { callee := Callee.builtin Builtin.append, args := #[Operand.tmp 30, Operand.tmp 33], argTypes := #[24, 24] }, type := 24, pos := "answer.go:150", after := #[{ on := 1, ground := Ground.data }, { on := 4, ground := Ground.data }, { on := 3, ground := Ground.chain }], guard := none }) rfl (fun K hK => ?_) AllReady.nil
                      refine Kd.R_append_step Kd.string (w0 := w4) (W := w4) w.heap.size (by rfl) (.tmp 30) (.tmp 33) 24 9 (.string ⟨#[]⟩) 16 rfl Try.underlying24 info9 rfl (by decide) (by decide) (.slice A6 l6.length c6) l6 r [.string r] (fun k => w.heap.size + 3 ≤ k) (fun _ => False) (by simp [Act.eval, Act.put]) (by simp [Act.eval, Act.put]) (show Kd.string.M _ _ _ r [.string r] from rfl) (fun k hk => hk.elim) (fun k hk => Nat.le_trans RS4.out.size hk) gR6.out (Below.refl _ _) (Nat.le_trans (Nat.le_add_right _ _) RS4.out.size) HBY.out ?_; intro v5 w5 hR5 hB5 hg5 ha5; obtain ⟨A5', c5', rfl⟩ := Kd.R_slice hR5; have rs5 := RS4.out.grown gR6.out hg5; have f5 := Own.blk_free rs5.bx 6; have g5 : w5.cell? ⟨w.heap.size, 6, none⟩ = some (.slice A6 l6.length c6) := (Own.blk_cell rs5.bx 6).trans rfl; (try go_simp); refine hK _ _ ?_; clear hK K; (try simp only [Act.put, List.setIfInBounds_toArray, List.set_cons_zero, List.set_cons_succ])
                      refine wpAny_take (i := 6) (oi := { dst := some 35, op := Op.fieldAddr 27 (Operand.tmp 3) 6, type := 0, pos := "answer.go:150", after := #[{ on := 0, ground := Ground.phase }, { on := 1, ground := Ground.phase }, { on := 2, ground := Ground.phase }, { on := 3, ground := Ground.phase }, { on := 4, ground := Ground.phase }, { on := 5, ground := Ground.phase }], guard := none }) (v := ?_) rfl (by kernel_rfl) (by kernel_rfl) (by kernel_rfl) (fun _ _ _ h => panic_put (i := 35) (by decide) h) (Or.inl ⟨by rfl, ?_⟩) ?_; rotate_left 1; (intro w9; go_simp; first | done | with_reducible rfl); (try simp only [Act.put, List.setIfInBounds_toArray, List.set_cons_zero, List.set_cons_succ])
                      refine wpAny_ready (rs := [7]) (by kernel_rfl) (by simp) ?_
                      refine AllReady.cons (o := { dst := none, op := Op.store 24 (Operand.tmp 35) (Operand.tmp 34), type := 0, pos := "answer.go:150", after := #[{ on := 6, ground := Ground.data }, { on := 5, ground := Ground.data }, { on := 5, ground := Ground.chain }, { on := 0, ground := Ground.phase }, { on := 1, ground := Ground.phase }, { on := 2, ground := Ground.phase }, { on := 3, ground := Ground.phase }, { on := 4, ground := Ground.phase }, { on := 5, ground := Ground.phase }], guard := none }) rfl (fun K hK => ?_) AllReady.nil
                      go_simp; refine hK _ _ ?_; clear hK K; (try simp only [Act.put, List.setIfInBounds_toArray, List.set_cons_zero, List.set_cons_succ])
                      refine wpAny_done (by kernel_rfl) ?_ _
                      have hlen : (l6 ++ [r]).length = l6.length + 1 := by rw [List.length_append, List.length_singleton]
                      have RS6 := Lib.hid (rs5.cell 6 (.slice A5' (l6.length + 1) c5'))
                      have NR6 := Lib.hid (Kd.R_far (p := ⟨w.heap.size, 6, none⟩) hR5 (fun k hk => by show k ≠ w.heap.size; omega) (.slice A5' (l6.length + 1) c5'))
                      have HX5 := Lib.hid (Kd.R_far (p := ⟨w.heap.size, 6, none⟩) (Kd.R_over gR5.out gR6.out (by decide) hg5) (fun k hk => by show k ≠ w.heap.size; omega) (.slice A5' (l6.length + 1) c5'))
                      have HL := Lib.hid hlen; clear hlen rs5 hR5 hB5 hg5 ha5 f5 g5 q4 q5 x5 RS4 HF RSD RS HR5 gR5 HR6 gR6
                      go_wp2
                      go_roundw
                      case rel => exact ⟨c, l6 ++ [r], A5', c5', (by rw [HL.out]; exact hlt), (by rw [HL.out]; go_num), (by rw [HL.out]; exact HNX.out), (by rw [HL.out]; exact RS6.out), NR6.out, HX5.out⟩
                      case measure => exact meas3 hlt
                    refine AllReady.cons (o := { dst := some 33, op := Op.buildSlice 24 1 #[(0, Operand.tmp 32)], type := 24, pos := "answer.go:150", after := #[{ on := 3, ground := Ground.data }], guard := none }) rfl (fun K hK => ?_) AllReady.nil
                    go_simp; refine hK _ (w4.alloc (.cells #[.string r] 9)) ?_; clear hK K; (try simp only [Act.put, List.setIfInBounds_toArray, List.set_cons_zero, List.set_cons_succ])
                    refine wpAny_ready (rs := [1]) (by kernel_rfl) (by simp) ?_
                    refine AllReady.cons (o := { dst := some 30, op := Op.load 24 (Operand.tmp 29), type := 24, pos := "answer.go:150", after := #[{ on := 0, ground := Ground.data }], guard := none }) rfl (fun K hK => ?_) AllReady.nil
                    go_simp; refine hK _ _ ?_; clear hK K; (try simp only [Act.put, List.setIfInBounds_toArray, List.set_cons_zero, List.set_cons_succ])
                    refine wpAny_ready (rs := [5]) (by kernel_rfl) (by simp) ?_
                    refine AllReady.cons (o := { dst := some 34, op := Op.call { callee := Callee.builtin Builtin.append, args := #[Operand.tmp 30, Operand.tmp 33], argTypes := #[24, 24] }, type := 24, pos := "answer.go:150", after := #[{ on := 1, ground := Ground.data }, { on := 4, ground := Ground.data }, { on := 3, ground := Ground.chain }], guard := none }) rfl (fun K hK => ?_) AllReady.nil
                    refine Kd.R_append_step Kd.string (w0 := w4) (W := w4) w.heap.size (by rfl) (.tmp 30) (.tmp 33) 24 9 (.string ⟨#[]⟩) 16 rfl Try.underlying24 info9 rfl (by decide) (by decide) (.slice A6 l6.length c6) l6 r [.string r] (fun k => w.heap.size + 3 ≤ k) (fun _ => False) (by simp [Act.eval, Act.put]) (by simp [Act.eval, Act.put]) (show Kd.string.M _ _ _ r [.string r] from rfl) (fun k hk => hk.elim) (fun k hk => Nat.le_trans RS4.out.size hk) gR6.out (Below.refl _ _) (Nat.le_trans (Nat.le_add_right _ _) RS4.out.size) HBY.out ?_; intro v5 w5 hR5 hB5 hg5 ha5; obtain ⟨A5', c5', rfl⟩ := Kd.R_slice hR5; have rs5 := RS4.out.grown gR6.out hg5; have f5 := Own.blk_free rs5.bx 6; have g5 : w5.cell? ⟨w.heap.size, 6, none⟩ = some (.slice A6 l6.length c6) := (Own.blk_cell rs5.bx 6).trans rfl; (try go_simp); refine hK _ _ ?_; clear hK K; (try simp only [Act.put, List.setIfInBounds_toArray, List.set_cons_zero, List.set_cons_succ])
                    refine wpAny_take (i := 6) (oi := { dst := some 35, op := Op.fieldAddr 27 (Operand.tmp 3) 6, type := 0, pos := "answer.go:150", after := #[{ on := 0, ground := Ground.phase }, { on := 1, ground := Ground.phase }, { on := 2, ground := Ground.phase }, { on := 3, ground := Ground.phase }, { on := 4, ground := Ground.phase }, { on := 5, ground := Ground.phase }], guard := none }) (v := ?_) rfl (by kernel_rfl) (by kernel_rfl) (by kernel_rfl) (fun _ _ _ h => panic_put (i := 35) (by decide) h) (Or.inl ⟨by rfl, ?_⟩) ?_; rotate_left 1; (intro w9; go_simp; first | done | with_reducible rfl); (try simp only [Act.put, List.setIfInBounds_toArray, List.set_cons_zero, List.set_cons_succ])
                    refine wpAny_ready (rs := [7]) (by kernel_rfl) (by simp) ?_
                    refine AllReady.cons (o := { dst := none, op := Op.store 24 (Operand.tmp 35) (Operand.tmp 34), type := 0, pos := "answer.go:150", after := #[{ on := 6, ground := Ground.data }, { on := 5, ground := Ground.data }, { on := 5, ground := Ground.chain }, { on := 0, ground := Ground.phase }, { on := 1, ground := Ground.phase }, { on := 2, ground := Ground.phase }, { on := 3, ground := Ground.phase }, { on := 4, ground := Ground.phase }, { on := 5, ground := Ground.phase }], guard := none }) rfl (fun K hK => ?_) AllReady.nil
                    go_simp; refine hK _ _ ?_; clear hK K; (try simp only [Act.put, List.setIfInBounds_toArray, List.set_cons_zero, List.set_cons_succ])
                    refine wpAny_done (by kernel_rfl) ?_ _
                    have hlen : (l6 ++ [r]).length = l6.length + 1 := by rw [List.length_append, List.length_singleton]
                    have RS6 := Lib.hid (rs5.cell 6 (.slice A5' (l6.length + 1) c5'))
                    have NR6 := Lib.hid (Kd.R_far (p := ⟨w.heap.size, 6, none⟩) hR5 (fun k hk => by show k ≠ w.heap.size; omega) (.slice A5' (l6.length + 1) c5'))
                    have HX5 := Lib.hid (Kd.R_far (p := ⟨w.heap.size, 6, none⟩) (Kd.R_over gR5.out gR6.out (by decide) hg5) (fun k hk => by show k ≠ w.heap.size; omega) (.slice A5' (l6.length + 1) c5'))
                    have HL := Lib.hid hlen; clear hlen rs5 hR5 hB5 hg5 ha5 f5 g5 q4 q5 x5 RS4 HF RSD RS HR5 gR5 HR6 gR6
                    go_wp2
                    go_roundw
                    case rel => exact ⟨c, l6 ++ [r], A5', c5', (by rw [HL.out]; exact hlt), (by rw [HL.out]; go_num), (by rw [HL.out]; exact HNX.out), (by rw [HL.out]; exact RS6.out), NR6.out, HX5.out⟩
                    case measure => exact meas3 hlt
                · have hkn : l6.length = n6 := by omega
                  have HM6 := Lib.hid (show manyTo (txt s) p5 n6 = some (l6, q) from by rw [← hkn]; exact HMT.out)
                  have hlt2 : ¬ (l6.length : Int) < (n6 : Int) := by omega
                  have HLE6 := Lib.hid hl594; clear hl594
                  have QS := Lib.hid hqs; clear hqs hpk hk hlt hkn HMT RSD
                  cases hn : num s q with
                  | none =>
                    have HN := Lib.hid hn; clear hn
                    have Hd : Hid (readR s = none) := by unfold readR; rw [H1.out]; simp only [Option.bind_some]; rw [H2.out]; simp only [Option.bind_some]; rw [H3.out]; simp only [Option.bind_some]; rw [HM5.out]; simp only [Option.bind_some]; rw [H6.out]; simp only [Option.bind_some]; rw [HM6.out]; simp only [Option.bind_some]; rw [HN.out]; rfl
                    go_wp2_with fail
                    refine (anumber_bad _ RS.out.ra QS.out hm2 HN.out).mono ?_
                    rintro e w3 ⟨rfl, hk⟩
                    go_wp2_with fail
                    exact fail35 RS.out hk Hd rfl rfl
                  | some xn =>
                    obtain ⟨n7, p7⟩ := xn
                    obtain ⟨_, hpn, hbn⟩ := num_le QS.out hn
                    have H7 := Lib.hid hn; clear hn
                    have HP7 := Lib.hid hpn; clear hpn
                    go_wp2_with fail
                    clear hlt2
                    refine (anumber_ok _ RS.out.ra QS.out hm2 H7.out).mono ?_
                    rintro e w3 ⟨rfl, hr, hk⟩
                    have RN := Lib.hid (RS.out.kp hk hr)
                    have hR5 := R_kp HR5.out hk hg; clear HR5; have HR5 := Lib.hid hR5; clear hR5
                    have hR6 := R_kp HR6.out hk hg; clear HR6; have HR6 := Lib.hid hR6; clear hR6
                    clear hr hk RS QS
                    go_wp2_with fail
                    go_loopw [39] (fun x wr => ∃ (q : Nat) (l7 : List Int) (A7 : Option Addr) (c7 : Nat), l7.length ≤ n7 ∧ x = .int .i64 (l7.length : Int) ∧ manyTo (fK s) p7 l7.length = some (l7, q) ∧ RS2 g s q (bxA id kd cd a b (.slice A5 l5.length c5) (.slice A6 l6.length c6) (.slice A7 l7.length c7)) w wr ∧ (Kd.int .i64).R 3 wr w.heap.size (fun k => w.heap.size + 3 ≤ k) (.slice A7 l7.length c7) l7 ∧ k54.R 54 wr w.heap.size (fun k => w.heap.size + 3 ≤ k) (.slice A5 l5.length c5) l5 ∧ Kd.string.R 9 wr w.heap.size (fun k => w.heap.size + 3 ≤ k) (.slice A6 l6.length c6) l6) (fun x _ => n7 - (intOf x).toNat)
                    case atStart => exact ⟨p7, [], none, 0, Nat.zero_le _, rfl, rfl, RN.out, Kd.R_nil _ _ _ _ _, HR5.out, HR6.out⟩
                    case round =>
                      obtain ⟨q, l7, A7, c7, hk, rfl, hmt, rs, hR7, hR5, hR6⟩ := hrel
                      obtain ⟨_, hpk, hqs, _⟩ := manyTo_le HP7.out fK_le hmt
                      have HMT := Lib.hid hmt; clear hmt RN HR5 HR6
                      have RSD := Lib.hid rs.drew; have RS := Lib.hid rs; clear rs
                      have HR5 := Lib.hid hR5; clear hR5
                      have HR6 := Lib.hid hR6; clear hR6
                      have HR7 := Lib.hid hR7; clear hR7
                      have HQ := Lib.hid hqs
                      have hl594 : l7.length ≤ 594 := by omega
                      by_cases hlt : l7.length < n7
                      · have k0 : (0 : Int) ≤ (l7.length : Int) := Int.natCast_nonneg _
                        have k1 : (l7.length : Int) < (n7 : Int) := by omega
                        have hby : (l7.length + 1) * 8 ≤ 140737488355328 := by omega
                        have HBY := Lib.hid hby; clear hby
                        cases hf : num s q with
                        | none =>
                          have HF := Lib.hid hf; clear hf
                          have Hd : Hid (readR s = none) := by unfold readR; rw [H1.out]; simp only [Option.bind_some]; rw [H2.out]; simp only [Option.bind_some]; rw [H3.out]; simp only [Option.bind_some]; rw [HM5.out]; simp only [Option.bind_some]; rw [H6.out]; simp only [Option.bind_some]; rw [HM6.out]; simp only [Option.bind_some]; rw [H7.out]; simp only [Option.bind_some]; rw [manyTo_bad HMT.out (by unfold fK; rw [HF.out]; rfl) hlt]; rfl
                          obtain ⟨bc, hbc⟩ : ∃ bc, bc = (bxA id kd cd a b (.slice A5 l5.length c5) (.slice A6 l6.length c6) (.slice A7 l7.length c7)) := ⟨_, rfl⟩
                          have HBC : Hid (bc[7]? = some (.slice A7 l7.length c7)) := Lib.hid (by rw [hbc]; rfl)
                          have HBX : Hid (wr.drew.heap[w.heap.size]? = some (.cells bc 27 (0, 0))) := Lib.hid (by rw [hbc]; exact RSD.out.bx)
                          clear hbc
                          go_upto_region 14 with (fail)
                          refine wp_region_held_drew (S := SB w.heap.size bc) (by kernel_rfl) (⟨HBX.out⟩) (fun hHeld => ?_)
                          refine wpAnyH_take (i := 0) (oi := { dst := some 41, op := Op.fieldAddr 27 (Operand.tmp 3) 7, type := 0, pos := "answer.go:153", after := #[], guard := none }) (v := ?_) rfl (by kernel_rfl) (by kernel_rfl) (by kernel_rfl) (fun _ _ _ h => panic_put (i := 41) (by decide) h) (Or.inl ⟨by rfl, ?_⟩) hHeld ?_; rotate_left 1; (intro w9 hSw; obtain ⟨h9⟩ := hSw; go_simp; first | done | with_reducible rfl); (try simp only [Act.put, List.setIfInBounds_toArray, List.set_cons_zero, List.set_cons_succ])
                          refine wpAnyH_take (i := 1) (oi := { dst := some 42, op := Op.load 25 (Operand.tmp 41), type := 25, pos := "answer.go:153", after := #[{ on := 0, ground := Ground.data }], guard := none }) (v := ?_) rfl (by kernel_rfl) (by kernel_rfl) (by kernel_rfl) (fun _ _ _ h => panic_put (i := 42) (by decide) h) (Or.inl ⟨by rfl, ?_⟩) hHeld ?_; rotate_left 1; (intro w9 hSw; obtain ⟨h9⟩ := hSw; have q9 := (Own.blk_cell h9 7).trans HBC.out; go_simp; first | done | with_reducible rfl); (try simp only [Act.put, List.setIfInBounds_toArray, List.set_cons_zero, List.set_cons_succ])
                          refine wpAnyH_take (i := 2) (oi := { dst := some 43, op := Op.move (Operand.tmp 0), type := 68, pos := "answer.go:153", after := #[], guard := none }) (v := ?_) rfl (by kernel_rfl) (by kernel_rfl) (by kernel_rfl) (fun _ _ _ h => panic_put (i := 43) (by decide) h) (Or.inl ⟨by rfl, ?_⟩) hHeld ?_; rotate_left 1; (intro w9 hSw; obtain ⟨h9⟩ := hSw; go_simp; first | done | with_reducible rfl); (try simp only [Act.put, List.setIfInBounds_toArray, List.set_cons_zero, List.set_cons_succ])
                          refine wpAnyH_ready (rs := [3]) (by kernel_rfl) (by simp) ?_; refine AllReadyH.cons (o := { dst := some 44, op := Op.call { callee := Callee.value (Operand.func 54), args := #[Operand.tmp 43], argTypes := #[68] }, type := 3, pos := "answer.go:153", after := #[{ on := 2, ground := Ground.data }], guard := none }) rfl (fun K hK => ?_) AllReadyH.nil; go_simp; refine (anumber_bad wr.drew RSD.out.ra HQ.out hm2 HF.out).mono ?_; rintro e w4 ⟨rfl, hk4⟩
                          go_wp2_with fail
                          exact fail35 RSD.out hk4 Hd rfl rfl
                        | some rc =>
                          obtain ⟨r, c⟩ := rc
                          have HF := Lib.hid hf; clear hf
                          have HNX := Lib.hid (manyTo_next HMT.out (show fK s q = some (((r : Nat) : Int), c) by unfold fK; rw [HF.out]; rfl))
                          have x5 : wr.drew.cell? ⟨w.heap.size, 7, none⟩ = some (.slice A7 l7.length c7) := (Own.blk_cell RSD.out.bx 7).trans rfl
                          go_upto_region 14 with (fail)
                          refine wp_region_any (by kernel_rfl) ?_
                          change wpAny _ _ _ _ _ _ _ (World.drew _)
                          refine wpAny_take (i := 0) (oi := { dst := some 41, op := Op.fieldAddr 27 (Operand.tmp 3) 7, type := 0, pos := "answer.go:153", after := #[], guard := none }) (v := ?_) rfl (by kernel_rfl) (by kernel_rfl) (by kernel_rfl) (fun _ _ _ h => panic_put (i := 41) (by decide) h) (Or.inl ⟨by rfl, ?_⟩) ?_; rotate_left 1; (intro w9; go_simp; first | done | with_reducible rfl); (try simp only [Act.put, List.setIfInBounds_toArray, List.set_cons_zero, List.set_cons_succ])
                          refine wpAny_take (i := 2) (oi := { dst := some 43, op := Op.move (Operand.tmp 0), type := 68, pos := "answer.go:153", after := #[], guard := none }) (v := ?_) rfl (by kernel_rfl) (by kernel_rfl) (by kernel_rfl) (fun _ _ _ h => panic_put (i := 43) (by decide) h) (Or.inl ⟨by rfl, ?_⟩) ?_; rotate_left 1; (intro w9; go_simp; first | done | with_reducible rfl); (try simp only [Act.put, List.setIfInBounds_toArray, List.set_cons_zero, List.set_cons_succ])
                          refine wpAny_ready (rs := [1, 3]) (by kernel_rfl) (by simp) ?_
                          refine AllReady.cons (o := { dst := some 42, op := Op.load 25 (Operand.tmp 41), type := 25, pos := "answer.go:153", after := #[{ on := 0, ground := Ground.data }], guard := none }) rfl (fun K hK => ?_) ?_
                          · go_simp; refine hK _ _ ?_; clear hK K; (try simp only [Act.put, List.setIfInBounds_toArray, List.set_cons_zero, List.set_cons_succ])
                            refine wpAny_ready (rs := [3]) (by kernel_rfl) (by simp) ?_
                            refine AllReady.cons (o := { dst := some 44, op := Op.call { callee := Callee.value (Operand.func 54), args := #[Operand.tmp 43], argTypes := #[68] }, type := 3, pos := "answer.go:153", after := #[{ on := 2, ground := Ground.data }], guard := none }) rfl (fun K hK => ?_) AllReady.nil
                            go_simp; go_at_call 54; refine (anumber_ok wr.drew RSD.out.ra HQ.out hm2 HF.out).mono ?_; rintro e w4 ⟨rfl, hr4, hk4⟩; have rs4 := RSD.out.kp hk4 hr4; have gR5 := Lib.hid (R_kp (Kd.R_drew HR5.out) hk4 hg); have gR6 := Lib.hid (R_kp (Kd.R_drew HR6.out) hk4 hg); have gR7 := Lib.hid (R_kp (Kd.R_drew HR7.out) hk4 hg); have q4 : w4.cell? ⟨w.heap.size, 7, none⟩ = some (.slice A7 l7.length c7) := (Own.blk_cell rs4.bx 7).trans rfl; have q5 : (w4.alloc (.cells #[.int .i64 ((r : Nat) : Int)] 3)).cell? ⟨w.heap.size, 7, none⟩ = some (.slice A7 l7.length c7) := (Own.blk_cell (rs4.below ((Below.refl _ w4).alloc (Nat.le_refl _) _)).bx 7).trans rfl; have RS4 := Lib.hid rs4; clear rs4 hr4 hk4; (try go_wp2_with fail); (try simp only [Act.put, List.setIfInBounds_toArray, List.set_cons_zero, List.set_cons_succ])
                            refine wpAny_ready (rs := [4]) (by kernel_rfl) (by simp) ?_
                            refine AllReady.cons (o := { dst := some 45, op := Op.buildSlice 25 1 #[(0, Operand.tmp 44)], type := 25, pos := "answer.go:153", after := #[{ on := 3, ground := Ground.data }], guard := none }) rfl (fun K hK => ?_) AllReady.nil
                            go_simp; refine hK _ (w4.alloc (.cells #[.int .i64 ((r : Nat) : Int)] 3)) ?_; clear hK K; (try simp only [Act.put, List.setIfInBounds_toArray, List.set_cons_zero, List.set_cons_succ])
                            refine wpAny_ready (rs := [5]) (by kernel_rfl) (by simp) ?_
                            refine AllReady.cons (o := { dst := some 46, op := Op.call { callee := Callee.builtin Builtin.append, args := #[Operand.tmp 42, Operand.tmp 45], argTypes := #[25, 25] }, type := 25, pos := "answer.go:153", after := #[{ on := 1, ground := Ground.data }, { on := 4, ground := Ground.data }, { on := 3, ground := Ground.chain }], guard := none }) rfl (fun K hK => ?_) AllReady.nil
                            refine Kd.R_append_step (Kd.int .i64) (w0 := w4) (W := w4) w.heap.size (by rfl) (.tmp 42) (.tmp 45) 25 3 (.int .i64 0) 8 rfl Try.underlying25 info3 rfl (by decide) (by decide) (.slice A7 l7.length c7) l7 ((r : Nat) : Int) [.int .i64 ((r : Nat) : Int)] (fun k => w.heap.size + 3 ≤ k) (fun _ => False) (by simp [Act.eval, Act.put]) (by simp [Act.eval, Act.put]) (show (Kd.int .i64).M _ _ _ ((r : Nat) : Int) [.int .i64 ((r : Nat) : Int)] from rfl) (fun k hk => hk.elim) (fun k hk => Nat.le_trans RS4.out.size hk) gR7.out (Below.refl _ _) (Nat.le_trans (Nat.le_add_right _ _) RS4.out.size) HBY.out ?_; intro v5 w5 hR5 hB5 hg5 ha5; obtain ⟨A5', c5', rfl⟩ := Kd.R_slice hR5; have rs5 := RS4.out.grown gR7.out hg5; have f5 := Own.blk_free rs5.bx 7; have g5 : w5.cell? ⟨w.heap.size, 7, none⟩ = some (.slice A7 l7.length c7) := (Own.blk_cell rs5.bx 7).trans rfl; (try go_simp); refine hK _ _ ?_; clear hK K; (try simp only [Act.put, List.setIfInBounds_toArray, List.set_cons_zero, List.set_cons_succ])
                            refine wpAny_take (i := 6) (oi := { dst := some 47, op := Op.fieldAddr 27 (Operand.tmp 3) 7, type := 0, pos := "answer.go:153", after := #[{ on := 0, ground := Ground.phase }, { on := 1, ground := Ground.phase }, { on := 2, ground := Ground.phase }, { on := 3, ground := Ground.phase }, { on := 4, ground := Ground.phase }, { on := 5, ground := Ground.phase }], guard := none }) (v := ?_) rfl (by kernel_rfl) (by kernel_rfl) (by kernel_rfl) (fun _ _ _ h => panic_put (i := 47) (by decide) h) (Or.inl ⟨by rfl, ?_⟩) ?_; rotate_left 1; (intro w9; go_simp; first | done | with_reducible rfl); (try simp only [Act.put, List.setIfInBounds_toArray, List.set_cons_zero, List.set_cons_succ])
                            refine wpAny_ready (rs := [7]) (by kernel_rfl) (by simp) ?_
                            refine AllReady.cons (o := { dst := none, op := Op.store 25 (Operand.tmp 47) (Operand.tmp 46), type := 0, pos := "answer.go:153", after := #[{ on := 6, ground := Ground.data }, { on := 5, ground := Ground.data }, { on := 5, ground := Ground.chain }, { on := 0, ground := Ground.phase }, { on := 1, ground := Ground.phase }, { on := 2, ground := Ground.phase }, { on := 3, ground := Ground.phase }, { on := 4, ground := Ground.phase }, { on := 5, ground := Ground.phase }], guard := none }) rfl (fun K hK => ?_) AllReady.nil
                            go_simp; refine hK _ _ ?_; clear hK K; (try simp only [Act.put, List.setIfInBounds_toArray, List.set_cons_zero, List.set_cons_succ])
                            refine wpAny_done (by kernel_rfl) ?_ _
                            have hlen : (l7 ++ [((r : Nat) : Int)]).length = l7.length + 1 := by rw [List.length_append, List.length_singleton]
                            have RS6 := Lib.hid (rs5.cell 7 (.slice A5' (l7.length + 1) c5'))
                            have NR6 := Lib.hid (Kd.R_far (p := ⟨w.heap.size, 7, none⟩) hR5 (fun k hk => by show k ≠ w.heap.size; omega) (.slice A5' (l7.length + 1) c5'))
                            have HX5 := Lib.hid (Kd.R_far (p := ⟨w.heap.size, 7, none⟩) (Kd.R_over gR5.out gR7.out (by decide) hg5) (fun k hk => by show k ≠ w.heap.size; omega) (.slice A5' (l7.length + 1) c5'))
                            have HX6 := Lib.hid (Kd.R_far (p := ⟨w.heap.size, 7, none⟩) (Kd.R_over gR6.out gR7.out (by decide) hg5) (fun k hk => by show k ≠ w.heap.size; omega) (.slice A5' (l7.length + 1) c5'))
                            have HL := Lib.hid hlen; clear hlen rs5 hR5 hB5 hg5 ha5 f5 g5 q4 q5 x5 RS4 HF RSD RS HR5 gR5 HR6 gR6 HR7 gR7
                            go_wp2
                            go_roundw
                            case rel => exact ⟨c, l7 ++ [((r : Nat) : Int)], A5', c5', (by rw [HL.out]; exact hlt), (by rw [HL.out]; go_num), (by rw [HL.out]; exact HNX.out), (by rw [HL.out]; exact RS6.out), NR6.out, HX5.out, HX6.out⟩
                            case measure => exact meas3 hlt
                          refine AllReady.cons (o := { dst := some 44, op := Op.call { callee := Callee.value (Operand.func 54), args := #[Operand.tmp 43], argTypes := #[68] }, type := 3, pos := "answer.go:153", after := #[{ on := 2, ground := Ground.data }], guard := none }) rfl (fun K hK => ?_) AllReady.nil
                          go_simp; go_at_call 54; refine (anumber_ok wr.drew RSD.out.ra HQ.out hm2 HF.out).mono ?_; rintro e w4 ⟨rfl, hr4, hk4⟩; have rs4 := RSD.out.kp hk4 hr4; have gR5 := Lib.hid (R_kp (Kd.R_drew HR5.out) hk4 hg); have gR6 := Lib.hid (R_kp (Kd.R_drew HR6.out) hk4 hg); have gR7 := Lib.hid (R_kp (Kd.R_drew HR7.out) hk4 hg); have q4 : w4.cell? ⟨w.heap.size, 7, none⟩ = some (.slice A7 l7.length c7) := (Own.blk_cell rs4.bx 7).trans rfl; have q5 : (w4.alloc (.cells #[.int .i64 ((r : Nat) : Int)] 3)).cell? ⟨w.heap.size, 7, none⟩ = some (.slice A7 l7.length c7) := (Own.blk_cell (rs4.below ((Below.refl _ w4).alloc (Nat.le_refl _) _)).bx 7).trans rfl; have RS4 := Lib.hid rs4; clear rs4 hr4 hk4; (try go_wp2_with fail); (try simp only [Act.put, List.setIfInBounds_toArray, List.set_cons_zero, List.set_cons_succ])
                          refine wpAny_ready (rs := [1, 4]) (by kernel_rfl) (by simp) ?_
                          refine AllReady.cons (o := { dst := some 42, op := Op.load 25 (Operand.tmp 41), type := 25, pos := "answer.go:153", after := #[{ on := 0, ground := Ground.data }], guard := none }) rfl (fun K hK => ?_) ?_
                          · go_simp; refine hK _ _ ?_; clear hK K; (try simp only [Act.put, List.setIfInBounds_toArray, List.set_cons_zero, List.set_cons_succ])
                            refine wpAny_ready (rs := [4]) (by kernel_rfl) (by simp) ?_
                            refine AllReady.cons (o := { dst := some 45, op := Op.buildSlice 25 1 #[(0, Operand.tmp 44)], type := 25, pos := "answer.go:153", after := #[{ on := 3, ground := Ground.data }], guard := none }) rfl (fun K hK => ?_) AllReady.nil
                            go_simp; refine hK _ (w4.alloc (.cells #[.int .i64 ((r : Nat) : Int)] 3)) ?_; clear hK K; (try simp only [Act.put, List.setIfInBounds_toArray, List.set_cons_zero, List.set_cons_succ])
                            refine wpAny_ready (rs := [5]) (by kernel_rfl) (by simp) ?_
                            refine AllReady.cons (o := { dst := some 46, op := Op.call { callee := Callee.builtin Builtin.append, args := #[Operand.tmp 42, Operand.tmp 45], argTypes := #[25, 25] }, type := 25, pos := "answer.go:153", after := #[{ on := 1, ground := Ground.data }, { on := 4, ground := Ground.data }, { on := 3, ground := Ground.chain }], guard := none }) rfl (fun K hK => ?_) AllReady.nil
                            refine Kd.R_append_step (Kd.int .i64) (w0 := w4) (W := w4) w.heap.size (by rfl) (.tmp 42) (.tmp 45) 25 3 (.int .i64 0) 8 rfl Try.underlying25 info3 rfl (by decide) (by decide) (.slice A7 l7.length c7) l7 ((r : Nat) : Int) [.int .i64 ((r : Nat) : Int)] (fun k => w.heap.size + 3 ≤ k) (fun _ => False) (by simp [Act.eval, Act.put]) (by simp [Act.eval, Act.put]) (show (Kd.int .i64).M _ _ _ ((r : Nat) : Int) [.int .i64 ((r : Nat) : Int)] from rfl) (fun k hk => hk.elim) (fun k hk => Nat.le_trans RS4.out.size hk) gR7.out (Below.refl _ _) (Nat.le_trans (Nat.le_add_right _ _) RS4.out.size) HBY.out ?_; intro v5 w5 hR5 hB5 hg5 ha5; obtain ⟨A5', c5', rfl⟩ := Kd.R_slice hR5; have rs5 := RS4.out.grown gR7.out hg5; have f5 := Own.blk_free rs5.bx 7; have g5 : w5.cell? ⟨w.heap.size, 7, none⟩ = some (.slice A7 l7.length c7) := (Own.blk_cell rs5.bx 7).trans rfl; (try go_simp); refine hK _ _ ?_; clear hK K; (try simp only [Act.put, List.setIfInBounds_toArray, List.set_cons_zero, List.set_cons_succ])
                            refine wpAny_take (i := 6) (oi := { dst := some 47, op := Op.fieldAddr 27 (Operand.tmp 3) 7, type := 0, pos := "answer.go:153", after := #[{ on := 0, ground := Ground.phase }, { on := 1, ground := Ground.phase }, { on := 2, ground := Ground.phase }, { on := 3, ground := Ground.phase }, { on := 4, ground := Ground.phase }, { on := 5, ground := Ground.phase }], guard := none }) (v := ?_) rfl (by kernel_rfl) (by kernel_rfl) (by kernel_rfl) (fun _ _ _ h => panic_put (i := 47) (by decide) h) (Or.inl ⟨by rfl, ?_⟩) ?_; rotate_left 1; (intro w9; go_simp; first | done | with_reducible rfl); (try simp only [Act.put, List.setIfInBounds_toArray, List.set_cons_zero, List.set_cons_succ])
                            refine wpAny_ready (rs := [7]) (by kernel_rfl) (by simp) ?_
                            refine AllReady.cons (o := { dst := none, op := Op.store 25 (Operand.tmp 47) (Operand.tmp 46), type := 0, pos := "answer.go:153", after := #[{ on := 6, ground := Ground.data }, { on := 5, ground := Ground.data }, { on := 5, ground := Ground.chain }, { on := 0, ground := Ground.phase }, { on := 1, ground := Ground.phase }, { on := 2, ground := Ground.phase }, { on := 3, ground := Ground.phase }, { on := 4, ground := Ground.phase }, { on := 5, ground := Ground.phase }], guard := none }) rfl (fun K hK => ?_) AllReady.nil
                            go_simp; refine hK _ _ ?_; clear hK K; (try simp only [Act.put, List.setIfInBounds_toArray, List.set_cons_zero, List.set_cons_succ])
                            refine wpAny_done (by kernel_rfl) ?_ _
                            have hlen : (l7 ++ [((r : Nat) : Int)]).length = l7.length + 1 := by rw [List.length_append, List.length_singleton]
                            have RS6 := Lib.hid (rs5.cell 7 (.slice A5' (l7.length + 1) c5'))
                            have NR6 := Lib.hid (Kd.R_far (p := ⟨w.heap.size, 7, none⟩) hR5 (fun k hk => by show k ≠ w.heap.size; omega) (.slice A5' (l7.length + 1) c5'))
                            have HX5 := Lib.hid (Kd.R_far (p := ⟨w.heap.size, 7, none⟩) (Kd.R_over gR5.out gR7.out (by decide) hg5) (fun k hk => by show k ≠ w.heap.size; omega) (.slice A5' (l7.length + 1) c5'))
                            have HX6 := Lib.hid (Kd.R_far (p := ⟨w.heap.size, 7, none⟩) (Kd.R_over gR6.out gR7.out (by decide) hg5) (fun k hk => by show k ≠ w.heap.size; omega) (.slice A5' (l7.length + 1) c5'))
                            have HL := Lib.hid hlen; clear hlen rs5 hR5 hB5 hg5 ha5 f5 g5 q4 q5 x5 RS4 HF RSD RS HR5 gR5 HR6 gR6 HR7 gR7
                            go_wp2
                            go_roundw
                            case rel => exact ⟨c, l7 ++ [((r : Nat) : Int)], A5', c5', (by rw [HL.out]; exact hlt), (by rw [HL.out]; go_num), (by rw [HL.out]; exact HNX.out), (by rw [HL.out]; exact RS6.out), NR6.out, HX5.out, HX6.out⟩
                            case measure => exact meas3 hlt
                          refine AllReady.cons (o := { dst := some 45, op := Op.buildSlice 25 1 #[(0, Operand.tmp 44)], type := 25, pos := "answer.go:153", after := #[{ on := 3, ground := Ground.data }], guard := none }) rfl (fun K hK => ?_) AllReady.nil
                          go_simp; refine hK _ (w4.alloc (.cells #[.int .i64 ((r : Nat) : Int)] 3)) ?_; clear hK K; (try simp only [Act.put, List.setIfInBounds_toArray, List.set_cons_zero, List.set_cons_succ])
                          refine wpAny_ready (rs := [1]) (by kernel_rfl) (by simp) ?_
                          refine AllReady.cons (o := { dst := some 42, op := Op.load 25 (Operand.tmp 41), type := 25, pos := "answer.go:153", after := #[{ on := 0, ground := Ground.data }], guard := none }) rfl (fun K hK => ?_) AllReady.nil
                          go_simp; refine hK _ _ ?_; clear hK K; (try simp only [Act.put, List.setIfInBounds_toArray, List.set_cons_zero, List.set_cons_succ])
                          refine wpAny_ready (rs := [5]) (by kernel_rfl) (by simp) ?_
                          refine AllReady.cons (o := { dst := some 46, op := Op.call { callee := Callee.builtin Builtin.append, args := #[Operand.tmp 42, Operand.tmp 45], argTypes := #[25, 25] }, type := 25, pos := "answer.go:153", after := #[{ on := 1, ground := Ground.data }, { on := 4, ground := Ground.data }, { on := 3, ground := Ground.chain }], guard := none }) rfl (fun K hK => ?_) AllReady.nil
                          refine Kd.R_append_step (Kd.int .i64) (w0 := w4) (W := w4) w.heap.size (by rfl) (.tmp 42) (.tmp 45) 25 3 (.int .i64 0) 8 rfl Try.underlying25 info3 rfl (by decide) (by decide) (.slice A7 l7.length c7) l7 ((r : Nat) : Int) [.int .i64 ((r : Nat) : Int)] (fun k => w.heap.size + 3 ≤ k) (fun _ => False) (by simp [Act.eval, Act.put]) (by simp [Act.eval, Act.put]) (show (Kd.int .i64).M _ _ _ ((r : Nat) : Int) [.int .i64 ((r : Nat) : Int)] from rfl) (fun k hk => hk.elim) (fun k hk => Nat.le_trans RS4.out.size hk) gR7.out (Below.refl _ _) (Nat.le_trans (Nat.le_add_right _ _) RS4.out.size) HBY.out ?_; intro v5 w5 hR5 hB5 hg5 ha5; obtain ⟨A5', c5', rfl⟩ := Kd.R_slice hR5; have rs5 := RS4.out.grown gR7.out hg5; have f5 := Own.blk_free rs5.bx 7; have g5 : w5.cell? ⟨w.heap.size, 7, none⟩ = some (.slice A7 l7.length c7) := (Own.blk_cell rs5.bx 7).trans rfl; (try go_simp); refine hK _ _ ?_; clear hK K; (try simp only [Act.put, List.setIfInBounds_toArray, List.set_cons_zero, List.set_cons_succ])
                          refine wpAny_take (i := 6) (oi := { dst := some 47, op := Op.fieldAddr 27 (Operand.tmp 3) 7, type := 0, pos := "answer.go:153", after := #[{ on := 0, ground := Ground.phase }, { on := 1, ground := Ground.phase }, { on := 2, ground := Ground.phase }, { on := 3, ground := Ground.phase }, { on := 4, ground := Ground.phase }, { on := 5, ground := Ground.phase }], guard := none }) (v := ?_) rfl (by kernel_rfl) (by kernel_rfl) (by kernel_rfl) (fun _ _ _ h => panic_put (i := 47) (by decide) h) (Or.inl ⟨by rfl, ?_⟩) ?_; rotate_left 1; (intro w9; go_simp; first | done | with_reducible rfl); (try simp only [Act.put, List.setIfInBounds_toArray, List.set_cons_zero, List.set_cons_succ])
                          refine wpAny_ready (rs := [7]) (by kernel_rfl) (by simp) ?_
                          refine AllReady.cons (o := { dst := none, op := Op.store 25 (Operand.tmp 47) (Operand.tmp 46), type := 0, pos := "answer.go:153", after := #[{ on := 6, ground := Ground.data }, { on := 5, ground := Ground.data }, { on := 5, ground := Ground.chain }, { on := 0, ground := Ground.phase }, { on := 1, ground := Ground.phase }, { on := 2, ground := Ground.phase }, { on := 3, ground := Ground.phase }, { on := 4, ground := Ground.phase }, { on := 5, ground := Ground.phase }], guard := none }) rfl (fun K hK => ?_) AllReady.nil
                          go_simp; refine hK _ _ ?_; clear hK K; (try simp only [Act.put, List.setIfInBounds_toArray, List.set_cons_zero, List.set_cons_succ])
                          refine wpAny_done (by kernel_rfl) ?_ _
                          have hlen : (l7 ++ [((r : Nat) : Int)]).length = l7.length + 1 := by rw [List.length_append, List.length_singleton]
                          have RS6 := Lib.hid (rs5.cell 7 (.slice A5' (l7.length + 1) c5'))
                          have NR6 := Lib.hid (Kd.R_far (p := ⟨w.heap.size, 7, none⟩) hR5 (fun k hk => by show k ≠ w.heap.size; omega) (.slice A5' (l7.length + 1) c5'))
                          have HX5 := Lib.hid (Kd.R_far (p := ⟨w.heap.size, 7, none⟩) (Kd.R_over gR5.out gR7.out (by decide) hg5) (fun k hk => by show k ≠ w.heap.size; omega) (.slice A5' (l7.length + 1) c5'))
                          have HX6 := Lib.hid (Kd.R_far (p := ⟨w.heap.size, 7, none⟩) (Kd.R_over gR6.out gR7.out (by decide) hg5) (fun k hk => by show k ≠ w.heap.size; omega) (.slice A5' (l7.length + 1) c5'))
                          have HL := Lib.hid hlen; clear hlen rs5 hR5 hB5 hg5 ha5 f5 g5 q4 q5 x5 RS4 HF RSD RS HR5 gR5 HR6 gR6 HR7 gR7
                          go_wp2
                          go_roundw
                          case rel => exact ⟨c, l7 ++ [((r : Nat) : Int)], A5', c5', (by rw [HL.out]; exact hlt), (by rw [HL.out]; go_num), (by rw [HL.out]; exact HNX.out), (by rw [HL.out]; exact RS6.out), NR6.out, HX5.out, HX6.out⟩
                          case measure => exact meas3 hlt
                      · have hkn : l7.length = n7 := by omega
                        have HM7 := Lib.hid (show manyTo (fK s) p7 n7 = some (l7, q) from by rw [← hkn]; exact HMT.out)
                        have hlt2 : ¬ (l7.length : Int) < (n7 : Int) := by omega
                        have HLE7 := Lib.hid hl594; clear hl594
                        have QS := Lib.hid hqs; clear hqs hpk hk hlt hkn HMT RSD
                        obtain ⟨t, ht⟩ : ∃ t, t = s.extract q s.size := ⟨_, rfl⟩
                        have HT := Lib.hid ht; clear ht
                        have hSF : SF w.heap.size g (bxA id kd cd a b (.slice A5 l5.length c5) (.slice A6 l6.length c6) (.slice A7 l7.length c7)) t wr.drew := ⟨RS.out.bx, by rw [HT.out]; exact RS.out.ra⟩
                        obtain ⟨z0, z1, z2, z3, z4, z5, z6, z7⟩ := ocells RS.out.drew.out
                        obtain ⟨f0, f1, f2, f3, f4, f5, f6, f7⟩ := ofrees RS.out.drew.out
                        have k0 : wr.drew.cell? ⟨w.heap.size + 1 + 1, 0, none⟩ = some (.bool false) := (Own.blk_cell RS.out.drew.okk 0).trans rfl
                        have kf : wr.drew.frozen? ⟨w.heap.size + 1 + 1, 0, none⟩ = false := Own.blk_free RS.out.drew.okk 0
                        go_upto_region 16 with (fail)
                        clear hlt2
                        refine wp_region_held_drew (S := SF w.heap.size g (bxA id kd cd a b (.slice A5 l5.length c5) (.slice A6 l6.length c6) (.slice A7 l7.length c7)) t) (by kernel_rfl) (hSF) (fun hHeld => ?_)
                        refine wpAnyH_take (i := 0) (oi := { dst := some 49, op := Op.load 27 (Operand.tmp 3), type := 27, pos := "answer.go:155", after := #[], guard := none }) (v := ?_) rfl (by kernel_rfl) (by kernel_rfl) (by kernel_rfl) (fun _ _ _ h => panic_put (i := 49) (by decide) h) (Or.inl ⟨by rfl, ?_⟩) hHeld ?_; rotate_left 1; (intro w9 hSw; obtain ⟨h9, r9⟩ := hSw; obtain ⟨q0, q1, q2, q3, q4, q5, q6, q7⟩ := ocells h9; go_simp; first | done | with_reducible rfl); (try simp only [Act.put, List.setIfInBounds_toArray, List.set_cons_zero, List.set_cons_succ])
                        refine wpAnyH_take (i := 1) (oi := { dst := some 50, op := Op.move (Operand.tmp 0), type := 68, pos := "answer.go:155", after := #[], guard := none }) (v := ?_) rfl (by kernel_rfl) (by kernel_rfl) (by kernel_rfl) (fun _ _ _ h => panic_put (i := 50) (by decide) h) (Or.inl ⟨by rfl, ?_⟩) hHeld ?_; rotate_left 1; (intro w9 hSw; obtain ⟨h9, r9⟩ := hSw; go_simp; first | done | with_reducible rfl); (try simp only [Act.put, List.setIfInBounds_toArray, List.set_cons_zero, List.set_cons_succ])
                        refine wpAnyH_take (i := 2) (oi := { dst := some 51, op := Op.nilCheck (Operand.tmp 50), type := 0, pos := "answer.go:155", after := #[{ on := 1, ground := Ground.data }], guard := none }) (v := ?_) rfl (by kernel_rfl) (by kernel_rfl) (by kernel_rfl) (fun _ _ _ h => panic_put (i := 51) (by decide) h) (Or.inl ⟨by rfl, ?_⟩) hHeld ?_; rotate_left 1; (intro w9 hSw; obtain ⟨h9, r9⟩ := hSw; go_simp; first | done | with_reducible rfl); (try simp only [Act.put, List.setIfInBounds_toArray, List.set_cons_zero, List.set_cons_succ])
                        refine wpAnyH_take (i := 3) (oi := { dst := some 52, op := Op.fieldAddr 70 (Operand.tmp 51) 0, type := 0, pos := "answer.go:155", after := #[{ on := 2, ground := Ground.data }], guard := none }) (v := ?_) rfl (by kernel_rfl) (by kernel_rfl) (by kernel_rfl) (fun _ _ _ h => panic_put (i := 52) (by decide) h) (Or.inl ⟨by rfl, ?_⟩) hHeld ?_; rotate_left 1; (intro w9 hSw; obtain ⟨h9, r9⟩ := hSw; go_simp; first | done | with_reducible rfl); (try simp only [Act.put, List.setIfInBounds_toArray, List.set_cons_zero, List.set_cons_succ])
                        refine wpAnyH_take (i := 4) (oi := { dst := some 53, op := Op.load 9 (Operand.tmp 52), type := 9, pos := "answer.go:155", after := #[{ on := 3, ground := Ground.data }], guard := none }) (v := ?_) rfl (by kernel_rfl) (by kernel_rfl) (by kernel_rfl) (fun _ _ _ h => panic_put (i := 53) (by decide) h) (Or.inl ⟨by rfl, ?_⟩) hHeld ?_; rotate_left 1; (intro w9 hSw; obtain ⟨h9, r9⟩ := hSw; have q9 := (Own.blk_cell r9 0).trans rfl; go_simp; first | done | with_reducible rfl); (try simp only [Act.put, List.setIfInBounds_toArray, List.set_cons_zero, List.set_cons_succ])
                        refine wpAnyH_take (i := 5) (oi := { dst := some 54, op := Op.binOp BinOp.eql 9 (Operand.tmp 53) (Operand.const (Value.string { data := #[] })) 9, type := 4, pos := "answer.go:155", after := #[{ on := 4, ground := Ground.data }], guard := none }) (v := ?_) rfl (by kernel_rfl) (by kernel_rfl) (by kernel_rfl) (fun _ _ _ h => panic_put (i := 54) (by decide) h) (Or.inl ⟨by rfl, ?_⟩) hHeld ?_; rotate_left 1; (intro w9 hSw; obtain ⟨h9, r9⟩ := hSw; go_simp; first | done | with_reducible rfl); (try simp only [Act.put, List.setIfInBounds_toArray, List.set_cons_zero, List.set_cons_succ])
                        have RD := Lib.hid RS.out.drew
                        have hlo := RD.out.lo
                        have GR5 := Lib.hid (Kd.R_drew HR5.out); clear HR5
                        have GR6 := Lib.hid (Kd.R_drew HR6.out); clear HR6
                        have GR7 := Lib.hid (Kd.R_drew HR7.out); clear HR7
                        clear RS hSF
                        generalize wr.drew = WD at *
                        have e8 := fill8 RD.out.out (.int .i64 id) (.int .i64 kd) (.int .i64 cd) (.int .i64 (a : Int)) (.int .i64 (b : Int)) (.slice A5 l5.length c5) (.slice A6 l6.length c6) (.slice A7 l7.length c7)
                        have p0 := (far8 (w := WD) (o := w.heap.size + 1) (k := w.heap.size) (by omega) (.int .i64 id) (.int .i64 kd) (.int .i64 cd) (.int .i64 (a : Int)) (.int .i64 (b : Int)) (.slice A5 l5.length c5) (.slice A6 l6.length c6) (.slice A7 l7.length c7)).trans RD.out.bx
                        have p1 := (far8 (w := WD) (o := w.heap.size + 1) (k := g) (by omega) (.int .i64 id) (.int .i64 kd) (.int .i64 cd) (.int .i64 (a : Int)) (.int .i64 (b : Int)) (.slice A5 l5.length c5) (.slice A6 l6.length c6) (.slice A7 l7.length c7)).trans hHeld.r
                        have p2 := (far8 (w := WD) (o := w.heap.size + 1) (k := w.heap.size + 2) (by omega) (.int .i64 id) (.int .i64 kd) (.int .i64 cd) (.int .i64 (a : Int)) (.int .i64 (b : Int)) (.slice A5 l5.length c5) (.slice A6 l6.length c6) (.slice A7 l7.length c7)).trans RD.out.okk
                        have p3' := fun k (hk : w.heap.size + 3 ≤ k) => far8 (w := WD) (o := w.heap.size + 1) (k := k) (by omega) (.int .i64 id) (.int .i64 kd) (.int .i64 cd) (.int .i64 (a : Int)) (.int .i64 (b : Int)) (.slice A5 l5.length c5) (.slice A6 l6.length c6) (.slice A7 l7.length c7)
                        have p4 := RD.out.bel.fresh (Nat.le_of_lt hlo) (below8 (Below.refl w.heap.size WD) (Nat.le_succ _) (.int .i64 id) (.int .i64 kd) (.int .i64 cd) (.int .i64 (a : Int)) (.int .i64 (b : Int)) (.slice A5 l5.length c5) (.slice A6 l6.length c6) (.slice A7 l7.length c7))
                        refine wpAnyH_ready (rs := [6]) (by kernel_rfl) (by simp) ?_; refine AllReadyH.cons (o := { dst := none, op := Op.store 27 (Operand.tmp 4) (Operand.tmp 49), type := 0, pos := "answer.go:155", after := #[{ on := 0, ground := Ground.data }, { on := 0, ground := Ground.phase }, { on := 1, ground := Ground.textOnly Departure.lateStoresUnsure }, { on := 2, ground := Ground.textOnly Departure.lateStoresUnsure }, { on := 3, ground := Ground.textOnly Departure.lateStoresUnsure }, { on := 4, ground := Ground.textOnly Departure.lateStoresUnsure }, { on := 5, ground := Ground.textOnly Departure.lateStoresUnsure }], guard := none }) rfl (fun K hK => ?_) AllReadyH.nil; go_simp
                        have E8 := Lib.hid e8; have P0 := Lib.hid p0; have P1 := Lib.hid p1; have P2 := Lib.hid p2; have P3 := Lib.hid p3'; have P4 := Lib.hid p4
                        clear e8 p0 p1 p2 p3' p4 z0 z1 z2 z3 z4 z5 z6 z7 f0 f1 f2 f3 f4 f5 f6 f7 k0 kf
                        generalize ((((((((WD.setCell ⟨w.heap.size + 1, 0, none⟩ (.int .i64 id)).setCell ⟨w.heap.size + 1, 1, none⟩ (.int .i64 kd)).setCell ⟨w.heap.size + 1, 2, none⟩ (.int .i64 cd)).setCell ⟨w.heap.size + 1, 3, none⟩ (.int .i64 (a : Int))).setCell ⟨w.heap.size + 1, 4, none⟩ (.int .i64 (b : Int))).setCell ⟨w.heap.size + 1, 5, none⟩ (.slice A5 l5.length c5)).setCell ⟨w.heap.size + 1, 6, none⟩ (.slice A6 l6.length c6)).setCell ⟨w.heap.size + 1, 7, none⟩ (.slice A7 l7.length c7)) = W8 at *
                        refine hK.out _ _ ⟨P0.out, P1.out⟩ (fun hHeld => ?_); clear hK; (try simp only [Act.put, List.setIfInBounds_toArray, List.set_cons_zero, List.set_cons_succ])
                        have k0 : W8.cell? ⟨w.heap.size + 1 + 1, 0, none⟩ = some (.bool false) := (Own.blk_cell P2.out 0).trans rfl
                        have kf : W8.frozen? ⟨w.heap.size + 1 + 1, 0, none⟩ = false := Own.blk_free P2.out 0
                        refine wpAnyH_ready (rs := [7]) (by kernel_rfl) (by simp) ?_; refine AllReadyH.cons (o := { dst := none, op := Op.store 4 (Operand.tmp 5) (Operand.tmp 54), type := 0, pos := "answer.go:155", after := #[{ on := 5, ground := Ground.data }, { on := 6, ground := Ground.chain }, { on := 0, ground := Ground.phase }, { on := 1, ground := Ground.phase }, { on := 2, ground := Ground.phase }, { on := 3, ground := Ground.phase }, { on := 4, ground := Ground.phase }, { on := 5, ground := Ground.phase }, { on := 6, ground := Ground.phase }], guard := none }) rfl (fun K hK => ?_) AllReadyH.nil; go_simp
                        refine hK.out _ _ ⟨(Own.heap_far _ _ _ (by simp; omega)).trans P0.out, (Own.heap_far _ _ _ (by simp; omega)).trans P1.out⟩ (fun hHeld => ?_); clear hK k0 kf; (try simp only [Act.put, List.setIfInBounds_toArray, List.set_cons_zero, List.set_cons_succ])
                        refine wpAnyH_done (by kernel_rfl) ?_ _
                        go_wp2_with fail
                        refine doorA_ret rfl rfl ((Own.heap_far _ _ _ (by simp)).trans E8.out) (Own.heap_set P2.out _) ?_
                        have hq : readR s = some ⟨a, b, l5, l6, l7, q⟩ := by unfold readR; rw [H1.out]; simp only [Option.bind_some]; rw [H2.out]; simp only [Option.bind_some]; rw [H3.out]; simp only [Option.bind_some]; rw [HM5.out]; simp only [Option.bind_some]; rw [H6.out]; simp only [Option.bind_some]; rw [HM6.out]; simp only [Option.bind_some]; rw [H7.out]; simp only [Option.bind_some]; rw [HM7.out]; simp only [Option.bind_some]
                        have X5 := (Kd.R_step (w1 := W8.setCell ⟨w.heap.size + 1 + 1, 0, none⟩ (.bool t.toList.isEmpty)) GR5.out (fun k ho _ => (Own.heap_far _ _ _ (by simp; have : w.heap.size + 3 ≤ k := ho; omega)).trans (P3.out k ho)))
                        have X6 := (Kd.R_step (w1 := W8.setCell ⟨w.heap.size + 1 + 1, 0, none⟩ (.bool t.toList.isEmpty)) GR6.out (fun k ho _ => (Own.heap_far _ _ _ (by simp; have : w.heap.size + 3 ≤ k := ho; omega)).trans (P3.out k ho)))
                        have X7 := (Kd.R_step (w1 := W8.setCell ⟨w.heap.size + 1 + 1, 0, none⟩ (.bool t.toList.isEmpty)) GR7.out (fun k ho _ => (Own.heap_far _ _ _ (by simp; have : w.heap.size + 3 ≤ k := ho; omega)).trans (P3.out k ho)))
                        unfold Rp35
                        rw [hq]
                        exact ⟨P4.out.fresh (Nat.le_of_lt hlo) ((Below.refl w.heap.size W8).setCell (by simp; omega) _), A5, c5, A6, c6, A7, c7, by rw [HT.out], X5, X6, X7⟩
end Go.Proofs.Ytakbgaiedenikaa.Rd
