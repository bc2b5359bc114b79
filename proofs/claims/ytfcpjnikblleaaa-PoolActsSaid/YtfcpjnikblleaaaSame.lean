/- The pool beside the document's pool. -/
import Derived.Test.YtfcpjnikblleaaaDid
namespace Go.Proofs.Ytfcpjnikblleaaa
open Go.RowKit
set_option maxRecDepth 100000
set_option linter.unusedSimpArgs false
set_option linter.unusedVariables false
theorem blk_below' {w w1 : World} {b : Nat} {ob : Obj} (h : w.heap[b]? = some ob) (hb : Below w.heap.size w w1) : w1.heap[b]? = some ob := by
  have hlt : b < w.heap.size := by
    rcases Nat.lt_or_ge b w.heap.size with h1 | h1
    · exact h1
    · rw [Array.getElem?_eq_none h1] at h; cases h
  exact (hb.block b hlt).trans h
structure Sx (X : List (Nat × Obj)) (W : World) (g o n : Nat) (ep ct : Int) (L : List Int) (w : World) : Prop extends St W g o n ep ct L w where
  ext : ∀ p ∈ X, p.1 ≠ g ∧ p.1 ≠ o ∧ w.heap[p.1]? = some p.2
section
variable {X : List (Nat × Obj)} {W w w1 : World} {g o n : Nat} {ep ct : Int} {L : List Int}
theorem Sx.below (h : Sx X W g o n ep ct L w) (hb : Below w.heap.size w w1) : Sx X W g o n ep ct L w1 := ⟨h.toSt.below hb, fun p hp => ⟨(h.ext p hp).1, (h.ext p hp).2.1, blk_below' (h.ext p hp).2.2 hb⟩⟩
theorem Sx.drew (h : Sx X W g o n ep ct L w) : Sx X W g o n ep ct L w.drew := ⟨h.toSt.drew, h.ext⟩
theorem Sx.drewN (h : Sx X W g o n ep ct L w) (k : Nat) : Sx X W g o n ep ct L (w.drewN k) := by
  induction k generalizing w with
  | zero => exact h
  | succ k ih => exact (ih h).drew
theorem Sx.set (h : Sx X W g o n ep ct L w) (i : Nat) (x : Int) : Sx X W g o n ep ct (L.set i x) (w.setCell ⟨o, i, none⟩ (.int .i64 x)) := ⟨h.toSt.set i x, fun p hp => ⟨(h.ext p hp).1, (h.ext p hp).2.1, (heap_far _ _ _ (h.ext p hp).2.1).trans (h.ext p hp).2.2⟩⟩
theorem Sx.count (h : Sx X W g o n ep ct L w) (x : Int) : Sx X W g o n ep x L (w.setCell ⟨g, 2, none⟩ (.int .i64 x)) := ⟨h.toSt.count x, fun p hp => ⟨(h.ext p hp).1, (h.ext p hp).2.1, (heap_far _ _ _ (h.ext p hp).1).trans (h.ext p hp).2.2⟩⟩
theorem Sx.cell (h : Sx X W g o n ep ct L w) {i : Nat} (hi : i < n) : w.cell? ⟨o, i, none⟩ = some (.int .i64 (L.getD i 0)) := h.toSt.cell hi
end
set_option maxHeartbeats 1000000 in
theorem Free_anyX {X : List (Nat × Obj)} {W : World} {g o n : Nat} {ep ct : Int} {L : List Int} {w : World} (h : Sx X W g o n ep ct L w) :
    Calls Try.prog 11 #[.pointer (some ⟨g, 0, none⟩)] w fun e w' => e = .returned (.int .i64 ((idxTo isFree L n).length : Int)) ∧ Sx X W g o n ep ct L w' := by
  have hlen := idx_length isFree L n
  have h64 := h.n64
  go_enter Try.func11, Try.ntmps11
  go_wp2_with fail
  refine (free_any g o n ep ct L _ h.pool h.own h.len h.n64).mono ?_
  rintro e w1 ⟨v, rfl, hown, bel⟩
  obtain ⟨a, c, rfl, _⟩ := told_len hown
  have H1 := h.below bel
  clear hown bel h
  generalize hm : (idxTo isFree L n).length = m at *
  have Hm := Lib.hid hm; clear hm
  go_wp2
  go_ret
  exact ⟨by rw [Hm.out]; rfl, H1⟩
set_option maxHeartbeats 1000000 in
theorem give_okX {X : List (Nat × Obj)} {W : World} {g o n : Nat} {ep ct : Int} {L : List Int} {w : World} (h : Sx X W g o n ep ct L w) (i : Nat) (hi : i < n) (h0 : L.getD i 0 ≠ 0) :
    Calls Try.prog 10 #[.pointer (some ⟨g, 0, none⟩), .int .i64 (i : Int)] w fun e w' => e = .returned (.int .i64 0) ∧ Sx X W g o n ep ct (L.set i 0) w' := by
  have H := Lib.hid h
  have hc := h.cell hi
  have hf := blk_free h.own i
  have hp := blk_cell h.pool 0
  simp at hp
  have h64 := h.n64
  have hb : (L.getD i 0 == 0) = false := by rw [beq_eq_false_iff_ne]; exact h0
  clear h h0
  have E := Lib.hid (show decide (0 ≤ (i : Int) ∧ (i : Int) < (n : Int)) = true by simp [hi])
  have H2 := Lib.hid (H.out.set i 0)
  generalize L.getD i 0 = x at *
  generalize L.set i 0 = L2 at *
  go_enter Try.func10, Try.ntmps10
  go_wp2_with (go_at_call 27; refine (is_any H.out.toSt _).mono ?_; rintro e w1 ⟨rfl, rfl⟩; rw [E.out])
  go_ret
  exact ⟨rfl, H2.out⟩
set_option maxHeartbeats 1000000 in
theorem take_okX {X : List (Nat × Obj)} {W : World} {g o n : Nat} {ep ct : Nat} {L : List Int} {w : World} (h : Sx X W g o n ep ct L w) (l : Int) (hl : logOk l = true) (he : ep ≤ 65535) (hct : ct ≤ 65535) (f : Nat) (r : List Nat) (hf : idxN isFree L n = f :: r) :
    Calls Try.prog 9 #[.pointer (some ⟨g, 0, none⟩), .int .i64 l] w fun e w' => e = .returned (.tuple #[.int .i64 (f : Int), .int .u32 ((65536 * ep + ct : Nat) : Int), .int .i64 0]) ∧ Sx X W g o n ep ((ct + 1 : Nat) : Int) (L.set f l) w' := by
  have E := Lib.hid hl; clear hl
  have hfn : f < n := by
    have : f ∈ idxN isFree L n := by rw [hf]; exact List.mem_cons_self
    unfold idxN at this
    simpa using (List.mem_filter.1 this).1
  have hx : idxTo isFree L n = (f : Int) :: r.map Int.ofNat := by unfold idxTo; rw [hf]; rfl
  have h64 := h.n64
  have H := Lib.hid h; clear h
  have Hx := Lib.hid hx; clear hx hf
  go_enter Try.func9, Try.ntmps9
  go_wp2_with fail
  refine (may_any _ _).mono ?_; rintro e w1 ⟨rfl, rfl⟩; rw [E.out]
  go_wp2_with fail
  refine (free_any g o n ep ct L _ H.out.pool H.out.own H.out.len H.out.n64).mono ?_
  rintro e w1 ⟨v, rfl, hown, bel⟩
  obtain ⟨a, c, rfl, hcl⟩ := told_len hown
  have hlen : (idxTo isFree L n).length = r.length + 1 := by rw [Hx.out]; simp
  obtain ⟨b, rfl, hb0, hb1, hbc⟩ := hcl (by omega)
  have hc0 := hbc 0 (by omega)
  rw [Hx.out] at hc0
  have H1 := Lib.hid (H.out.below bel)
  have hbl : w.heap.size ≤ b := hb0
  have hol := blk_lt H.out.own
  have hgl := blk_lt H.out.pool
  have hlen2 := idx_length isFree L n
  generalize (idxTo isFree L n).length = m at *
  clear hown bel hbc
  simp [iv] at hc0
  have p1 := blk_cell H1.out.pool 1
  have p2 := blk_cell H1.out.pool 2
  simp at p1 p2
  go_wp2_with fail
  go_quiet ((go_at_call 26; exact Calls.quiet_of_same (stamp_any ep ct _ he hct)))
  have H2 := Lib.hid (H1.out.drewN nq)
  have hc2 : (w1.drewN nq).cell? ⟨b, 0, none⟩ = some (Value.int IntKind.i64 (f : Int)) := by simpa using hc0
  clear p1 p2 hc0 H1
  generalize w1.drewN nq = w2 at *
  have p0 := blk_cell H2.out.pool 0
  have p2 := blk_cell H2.out.pool 2
  simp at p0 p2
  have q2 := blk_free H2.out.pool 2
  have hcf := H2.out.cell hfn
  have hff := blk_free H2.out.own f
  generalize L.getD f 0 = x at hcf
  have n1 : ¬ g = o := H.out.ne
  have n2 : ¬ o = g := fun e => H.out.ne e.symm
  have n3 : ¬ b = o := by omega
  have n4 : ¬ b = g := by omega
  have n5 : ¬ o = b := by omega
  have n6 : ¬ g = b := by omega
  have hm : r.length < 64 := by omega
  have hf0 : (0 : Int) ≤ (f : Int) := by omega
  have hfn' : (f : Int) < (n : Int) := by omega
  go_wp2_with fail
  go_still_tail 9, (by kernel_rfl)
  change wpList _ _ _ _ _ w2.drew
  go_wp2
  go_ret3
  refine ⟨?_, ?_⟩
  · simp
  · first
      | exact ((H2.out.set f l).count _).drew
      | exact ((H2.out.set f l).drew.count _)
      | (have := ((H2.out.set f l).count ((ct : Int) + 1)).drew; simpa using this)
set_option maxHeartbeats 1000000 in
theorem take_fullX {X : List (Nat × Obj)} {W : World} {g o n : Nat} {ep ct : Nat} {L : List Int} {w : World} (h : Sx X W g o n ep ct L w) (l : Int) (hl : logOk l = true) (he : ep ≤ 65535) (hct : ct ≤ 65535) (hf : idxN isFree L n = []) :
    Calls Try.prog 9 #[.pointer (some ⟨g, 0, none⟩), .int .i64 l] w fun e w' => e = .returned (.tuple #[.int .i64 0, .int .u32 0, .int .i64 32]) ∧ Sx X W g o n ep ct L w' := by
  have E := Lib.hid hl; clear hl
  have h64 := h.n64
  have H := Lib.hid h; clear h
  have hx : (idxTo isFree L n).length = 0 := by unfold idxTo; rw [hf]; rfl
  have Hx := Lib.hid hx; clear hx hf
  go_enter Try.func9, Try.ntmps9
  go_wp2_with fail
  refine (may_any _ _).mono ?_; rintro e w1 ⟨rfl, rfl⟩; rw [E.out]
  go_wp2_with fail
  refine (free_any g o n ep ct L _ H.out.pool H.out.own H.out.len H.out.n64).mono ?_
  rintro e w1 ⟨v, rfl, hown, bel⟩
  obtain ⟨a, c, rfl, hcl⟩ := told_len hown
  have H1 := Lib.hid (H.out.below bel)
  have hlen2 := idx_length isFree L n
  have hm := Hx.out
  generalize (idxTo isFree L n).length = m at *
  clear hown bel hcl
  have p1 := blk_cell H1.out.pool 1
  have p2 := blk_cell H1.out.pool 2
  simp at p1 p2
  go_wp2_with fail
  go_quiet ((go_at_call 26; exact Calls.quiet_of_same (stamp_any ep ct _ he hct)))
  have H2 := Lib.hid (H1.out.drewN nq)
  clear p1 p2 H1
  generalize w1.drewN nq = w2 at *
  go_wp2
  go_ret3
  exact ⟨rfl, H2.out⟩
set_option maxHeartbeats 1000000 in
theorem take_endX {X : List (Nat × Obj)} {W : World} {g o n : Nat} {ep ct : Nat} {L : List Int} {w : World} (h : Sx X W g o n ep ct L w) (l : Int) (hl : logOk l = true) (he : ep ≤ 65535) (hct : 65535 < ct) :
    Calls Try.prog 9 #[.pointer (some ⟨g, 0, none⟩), .int .i64 l] w fun e w' => e = .returned (.tuple #[.int .i64 0, .int .u32 0, .int .i64 32]) ∧ Sx X W g o n ep ct L w' := by
  have E := Lib.hid hl; clear hl
  have h64 := h.n64
  have H := Lib.hid h; clear h
  go_enter Try.func9, Try.ntmps9
  go_wp2_with fail
  refine (may_any _ _).mono ?_; rintro e w1 ⟨rfl, rfl⟩; rw [E.out]
  go_wp2_with fail
  refine (free_any g o n ep ct L _ H.out.pool H.out.own H.out.len H.out.n64).mono ?_
  rintro e w1 ⟨v, rfl, hown, bel⟩
  obtain ⟨a, c, rfl, hcl⟩ := told_len hown
  have H1 := Lib.hid (H.out.below bel)
  have hlen2 := idx_length isFree L n
  generalize (idxTo isFree L n).length = m at *
  clear hown bel hcl
  have p1 := blk_cell H1.out.pool 1
  have p2 := blk_cell H1.out.pool 2
  simp at p1 p2
  go_wp2_with fail
  go_quiet ((go_at_call 26; exact Calls.quiet_of_same (stamp_end ep ct _ he hct)))
  have H2 := Lib.hid (H1.out.drewN nq)
  clear p1 p2 H1
  generalize w1.drewN nq = w2 at *
  go_wp2
  all_goals go_ret3
  all_goals exact ⟨rfl, H2.out⟩
set_option maxHeartbeats 1000000 in
theorem Of_anyX {X : List (Nat × Obj)} {W : World} {g o n : Nat} {ep ct : Int} {L : List Int} {w : World} (h : Sx X W g o n ep ct L w) (l : Int) :
    Calls Try.prog 12 #[.pointer (some ⟨g, 0, none⟩), .int .i64 l] w fun e w' => (∃ a c, e = .returned (.slice a (idxTo (isLog l) L n).length c) ∧ w'.ownsRow w.heap.size 3 1 (.slice a (idxTo (isLog l) L n).length c) (idxTo (isLog l) L n).length ((idxTo (isLog l) L n).map iv)) ∧ Sx X W g o n ep ct L w' ∧ Below w.heap.size w w' := by
  have hlen := idx_length (isLog l) L n
  have h64 := h.n64
  have hgl := blk_lt h.pool
  have hol := blk_lt h.own
  have H := Lib.hid h; clear h
  go_enter Try.func12, Try.ntmps12
  go_wp2_with fail
  refine (those_of l w.heap.size g o n ep ct L _ ?_ ?_ H.out.len H.out.n64 ?_ ?_).mono ?_
  · rw [heap_old _ _ hgl]; exact H.out.pool
  · rw [heap_old _ _ hol]; exact H.out.own
  · exact cell_of_one (heap_new _ _)
  · simp
  rintro e w1 ⟨v, rfl, hown, bel⟩
  obtain ⟨a, c, rfl, _⟩ := told_len hown
  have B1 : Below w.heap.size w w1 := below_two ((Below.refl _ _).alloc (Nat.le_refl _) _) bel
  have H1 := Lib.hid (H.out.below B1)
  have Hown := Lib.hid hown; clear hown
  have hB1 := Lib.hid B1; clear bel B1
  generalize hm : (idxTo (isLog l) L n).length = m at *
  have Hm := Lib.hid hm; clear hm
  go_wp2
  go_ret
  have hf := own_low Hown.out (show w.heap.size ≤ _ by simp)
  rw [Hm.out]
  exact ⟨⟨_, _, rfl, hf⟩, H1.out, hB1.out⟩
theorem claim_out {W : World} {g o n : Nat} {ep ct : Int} {L : List Int} {w : World} (h : St W g o n ep ct L w) (i l : Int) (hi : i < 0 ∨ n ≤ i) :
    Calls Try.prog 17 #[.pointer (some ⟨g, 0, none⟩), .int .i64 i, .int .i64 l] w fun e w' => e = .returned (.int .i64 20) ∧ w = w' := by
  have H := Lib.hid h; clear h
  have E := Lib.hid (show decide (0 ≤ i ∧ i < (n : Int)) = false by simp; omega)
  clear hi
  go_enter Try.func17, Try.ntmps17
  go_wp2_with (go_at_call 27; refine (is_any H.out _).mono ?_; rintro e w1 ⟨rfl, rfl⟩; rw [E.out])
  go_ret
  exact ⟨rfl, rfl⟩
theorem claim_bad {W : World} {g o n : Nat} {ep ct : Int} {L : List Int} {w : World} (h : St W g o n ep ct L w) (i : Nat) (l : Int) (hi : i < n) (hl : logOk l = false) :
    Calls Try.prog 17 #[.pointer (some ⟨g, 0, none⟩), .int .i64 (i : Int), .int .i64 l] w fun e w' => e = .returned (.int .i64 1) ∧ w = w' := by
  have H := Lib.hid h; clear h
  have E := Lib.hid (show decide (0 ≤ (i : Int) ∧ (i : Int) < (n : Int)) = true by simp [hi])
  have E2 := Lib.hid hl
  clear hi hl
  go_enter Try.func17, Try.ntmps17
  go_wp2_with (first | (go_at_call 27; refine (is_any H.out _).mono ?_; rintro e w1 ⟨rfl, rfl⟩; rw [E.out]) | (go_at_call 24; refine (may_any _ _).mono ?_; rintro e w1 ⟨rfl, rfl⟩; rw [E2.out]))
  go_ret
  exact ⟨rfl, rfl⟩
theorem claim_has {W : World} {g o n : Nat} {ep ct : Int} {L : List Int} {w : World} (h : St W g o n ep ct L w) (i : Nat) (l : Int) (hi : i < n) (hl : logOk l = true) (h0 : L.getD i 0 ≠ 0) :
    Calls Try.prog 17 #[.pointer (some ⟨g, 0, none⟩), .int .i64 (i : Int), .int .i64 l] w fun e w' => e = .returned (.int .i64 8) ∧ w = w' := by
  have H := Lib.hid h
  have hc := h.cell hi
  have hp := blk_cell h.pool 0
  simp at hp
  have h64 := h.n64
  have hb : (L.getD i 0 == 0) = false := by rw [beq_eq_false_iff_ne]; exact h0
  have hb2 : (L.getD i 0 != 0) = true := by rw [bne_iff_ne]; exact h0
  clear h h0
  generalize L.getD i 0 = x at *
  have E := Lib.hid (show decide (0 ≤ (i : Int) ∧ (i : Int) < (n : Int)) = true by simp [hi])
  have E2 := Lib.hid hl
  clear hl
  go_enter Try.func17, Try.ntmps17
  go_wp2_with (first | (go_at_call 27; refine (is_any H.out _).mono ?_; rintro e w1 ⟨rfl, rfl⟩; rw [E.out]) | (go_at_call 24; refine (may_any _ _).mono ?_; rintro e w1 ⟨rfl, rfl⟩; rw [E2.out]))
  go_ret
  exact ⟨rfl, rfl⟩
theorem claim_okX {X : List (Nat × Obj)} {W : World} {g o n : Nat} {ep ct : Int} {L : List Int} {w : World} (h : Sx X W g o n ep ct L w) (i : Nat) (l : Int) (hi : i < n) (hl : logOk l = true) (h0 : L.getD i 0 = 0) :
    Calls Try.prog 17 #[.pointer (some ⟨g, 0, none⟩), .int .i64 (i : Int), .int .i64 l] w fun e w' => e = .returned (.int .i64 0) ∧ Sx X W g o n ep ct (L.set i l) w' := by
  have H := Lib.hid h
  have hc := h.cell hi
  rw [h0] at hc
  have hf := blk_free h.own i
  have hp := blk_cell h.pool 0
  simp at hp
  have h64 := h.n64
  clear h h0
  have E := Lib.hid (show decide (0 ≤ (i : Int) ∧ (i : Int) < (n : Int)) = true by simp [hi])
  have E2 := Lib.hid hl
  clear hl
  have H2 := Lib.hid (H.out.set i l)
  generalize L.set i l = L2 at *
  go_enter Try.func17, Try.ntmps17
  go_wp2_with (first | (go_at_call 27; refine (is_any H.out.toSt _).mono ?_; rintro e w1 ⟨rfl, rfl⟩; rw [E.out]) | (go_at_call 24; refine (may_any _ _).mono ?_; rintro e w1 ⟨rfl, rfl⟩; rw [E2.out]))
  go_ret
  exact ⟨rfl, H2.out⟩
theorem log0 (L : List Int) (n : Nat) : (idxTo (isLog 0) L n).length = 0 := by
  have : idxN (isLog 0) L n = [] := by
    unfold idxN
    rw [List.filter_eq_nil_iff]
    intro a _
    simp [isLog]
  unfold idxTo
  rw [this]
  rfl
theorem may_yes (n ep : Int) (w : World) (h1 : 6 ≤ n) (h2 : n ≤ 64) (h3 : 0 ≤ ep) (h4 : ep ≤ 65535) : Calls Try.prog 13 #[.int .i64 n, .int .i64 ep] w fun e w' => e = .returned (.bool true) ∧ w = w' := by
  go_enter Try.func13, Try.ntmps13
  go_wp2
  go_ret
  exact ⟨by simp [h4], rfl⟩
theorem may_no (n ep : Int) (w : World) (h : ¬ (6 ≤ n ∧ n ≤ 64 ∧ 0 ≤ ep ∧ ep ≤ 65535)) : Calls Try.prog 13 #[.int .i64 n, .int .i64 ep] w fun e w' => e = .returned (.bool false) ∧ w = w' := by
  by_cases h1 : 6 ≤ n
  · by_cases h2 : n ≤ 64
    · by_cases h3 : 0 ≤ ep
      · have h4 : decide (ep ≤ 65535) = false := by simp; omega
        clear h
        go_enter Try.func13, Try.ntmps13
        go_wp2
        go_ret
        exact ⟨rfl, rfl⟩
      · clear h
        go_enter Try.func13, Try.ntmps13
        go_wp2
        go_ret
        exact ⟨rfl, rfl⟩
    · clear h
      go_enter Try.func13, Try.ntmps13
      go_wp2
      go_ret
      exact ⟨rfl, rfl⟩
  · clear h
    go_enter Try.func13, Try.ntmps13
    go_wp2
    go_ret
    exact ⟨rfl, rfl⟩
theorem new_no (n ep : Int) (w : World) (h : ¬ (6 ≤ n ∧ n ≤ 64 ∧ 0 ≤ ep ∧ ep ≤ 65535)) : Calls Try.prog 8 #[.int .i64 n, .int .i64 ep] w fun e w' => e = .returned (.tuple #[.pointer none, .int .i64 1]) ∧ w = w' := by
  by_cases h1 : n < 6
  · clear h
    go_enter Try.func8, Try.ntmps8
    go_wp2
    go_ret2
    exact ⟨rfl, rfl⟩
  · by_cases h2 : 64 < n
    · clear h
      go_enter Try.func8, Try.ntmps8
      go_wp2
      go_ret2
      exact ⟨rfl, rfl⟩
    · by_cases h3 : ep < 0
      · clear h
        go_enter Try.func8, Try.ntmps8
        go_wp2
        go_ret2
        exact ⟨rfl, rfl⟩
      · have h4 : 65535 < ep := by omega
        clear h
        go_enter Try.func8, Try.ntmps8
        go_wp2
        go_ret2
        exact ⟨rfl, rfl⟩
theorem rnew_ok (n : Nat) (ep : Int) (w : World) (h64 : n ≤ 64) :
    Calls Try.prog 14 #[.int .i64 (n : Int), .int .i64 ep] w fun e w' => ∃ b c, e = .returned (rp b n c ep 0) ∧ w.heap.size ≤ b ∧ RR b n (List.replicate n 0) w' ∧ Below w.heap.size w w' := by
  obtain ⟨i0, hi, hz0, hz1, hz2⟩ := info_parts info3
  have hZ : ∃ Z, Z = Obj.cells #[Value.slice none 0 0, Value.int IntKind.i64 0, Value.int IntKind.i64 0] 40 := ⟨_, rfl⟩
  obtain ⟨Z, hZ⟩ := hZ
  have km := run_makeSlice (P := Try.prog) (w := w.alloc Z) 33 3 i0 (.int .i64 0) Try.underlying33 hi hz0 .i64 .i64 n n (by omega) (by omega) (by rw [hz1]; simp; omega) (by rw [hz2]; omega) (by omega)
  rw [made_zero n _ (by rw [hz1]; simp), Int.toNat_natCast, hZ] at km
  have hB : ∃ B, B = (List.replicate n (0 : Int)).map iv := ⟨_, rfl⟩
  obtain ⟨B, hB⟩ := hB
  rw [← hB] at km
  have HB := Lib.hid hB; clear hB
  clear hi hz0 hz1 hz2 hZ
  unfold rp
  go_enter Try.func14, Try.ntmps14
  go_wp2
  refine bodyPost_ret (v := .agg #[.slice (some ⟨w.heap.size + 1, 0, none⟩) n n, .int .i64 ep, .int .i64 0]) (by simp [results, Try.results14, go_sem, *]) rfl ?_
  refine ⟨_, _, rfl, by omega, ⟨by simp, h64, _, _, by simpa using heap_new (w.alloc (Obj.cells #[Value.slice (some ⟨w.heap.size + 1, 0, none⟩) n n, Value.int IntKind.i64 ep, Value.int IntKind.i64 0] 40)) (.cells B.toArray 3), fun i hi => ?_⟩, ((Below.refl _ _).alloc (Nat.le_refl _) _).alloc (by simp) _⟩
  rw [HB.out]
  simp [List.getD, hi]
set_option maxHeartbeats 1000000 in
theorem rOf_any {b n : Nat} {L : List Int} {w : World} (h : RR b n L w) (c : Nat) (ep ct : Int) (l : Int) : Calls Try.prog 21 #[rp b n c ep ct, .int .i64 l] w fun e w' => ∃ a c2, e = .returned (.slice a (idxTo (isLog l) L n).length c2) ∧ w'.ownsRow w.heap.size 3 1 (.slice a (idxTo (isLog l) L n).length c2) (idxTo (isLog l) L n).length ((idxTo (isLog l) L n).map iv) ∧ Below w.heap.size w w' := by
  obtain ⟨i0, hi, hz0, hz1, hz2⟩ := info_parts info3
  have hbl := Lib.hid h.lt
  have H := Lib.hid h
  have hn := h.n64
  have hln := h.len
  clear h
  unfold rp
  go_enter Try.func21, Try.ntmps21
  go_wp2_with fail
  obtain ⟨W1, hW1⟩ : ∃ W1, W1 = w.alloc (Obj.cells #[Value.slice (some ⟨b, 0, none⟩) n c, Value.int IntKind.i64 ep, Value.int IntKind.i64 ct] 40) := ⟨_, rfl⟩
  rw [← hW1]
  have hs1 : W1.heap.size = w.heap.size + 1 := by rw [hW1]; simp
  have B01 := Lib.hid (show Below w.heap.size w W1 by rw [hW1]; exact (Below.refl _ _).alloc (Nat.le_refl _) _)
  clear hW1
  go_loopw [5, 11] (fun x0 i wr => ∃ (k : Nat) (u : Value), k ≤ n ∧ u = x0 ∧ i = .int .i64 k ∧ wr.ownsRow (w.heap.size + 1) 3 1 u (idxTo (isLog l) L k).length ((idxTo (isLog l) L k).map iv) ∧ Below (w.heap.size + 1) W1 wr) (fun _ i _ => n - (intOf i).toNat)
  case atStart => exact ⟨0, _, by omega, rfl, rfl, ⟨rfl, .inl ⟨rfl, rfl⟩⟩, Below.refl _ _⟩
  case round =>
    obtain ⟨k, u, hk, rfl, rfl, hown, bel⟩ := hrel
    have Bel := Lib.hid bel; clear bel
    have H1 := H.out.below B01.out hbl.out
    have H2 := H1.below Bel.out (by have := hbl.out; omega)
    clear H1
    have hlen := idx_length (isLog l) L k
    by_cases hlt : k < n
    · have hc := H2.cell hlt
      clear H2
      have Hown := Lib.hid hown; clear hown
      cases hsel : isLog l (L.getD k 0) with
      | true =>
        have Hy := Lib.hid (idx_yes hsel)
        have hx : L.getD k 0 = l ∧ l ≠ 0 := by simp [isLog] at hsel; exact ⟨hsel.1, fun e => hsel.2 (by rw [hsel.1]; exact e)⟩
        rw [hx.1] at hc
        have hb2 : (l == 0) = false := by rw [beq_eq_false_iff_ne]; exact hx.2
        have hb3 : (l != 0) = true := by rw [bne_iff_ne]; exact hx.2
        clear hx hsel
        generalize hI : idxTo (isLog l) L k = I at *
        have HI := Lib.hid hI; clear hI
        go_wp2_with (at_builtin; refine wpList_append_own _ rfl _ _ 33 rfl (w.heap.size + 1) 3 i0 (.int .i64 0) 1 8 Try.underlying33 hi hz0 hz1 hz2 rfl (by decide) _ _ _ rfl (Hown.out.kept (World.grownBy_alloc _ _ none) (by cases h : Value.ownBlock _ <;> simp)) ⟨wr.heap.size, 0, none⟩ 1 1 [.int .i64 k] rfl rfl ?c1 ?c2 ?c3 ?c4 ?c5 ?_)
        case c1 =>
          intro j u hj
          have hj0 : j = 0 := by
            rcases Nat.eq_zero_or_pos j with h | h
            · exact h
            · rw [List.getElem?_eq_none (by simp; omega)] at hj; simp at hj
          subst hj0
          simp at hj; subst hj
          exact cell_of_one (heap_new _ _)
        case c2 => intro u hu; simp at hu; subst hu; rfl
        case c3 => unfold maxLen; omega
        case c4 => omega
        case c5 => have := Bel.out.size; simp; omega
        intro v' w1 hown' hgrow _
        have Bel2 := Lib.hid ((Bel.out.alloc (by have := Bel.out.size; omega) _).grown hgrow (by have := Bel.out.size; simp; omega) (fun j hj => own_base Hown.out j hj))
        have Hown2 := Lib.hid hown'
        clear hown' hgrow
        go_wp2
        go_roundw
        case rel => exact ⟨k + 1, _, by omega, rfl, by go_num, by rw [Hy.out]; simpa [iv] using Hown2.out, Bel2.out⟩
        case measure => simp [intOf]; omega
      | false =>
        have Hy := Lib.hid (idx_no hsel)
        generalize L.getD k 0 = x at *
        by_cases hx : x = l
        · subst hx
          have hx0 : x = 0 := by simpa [isLog] using hsel
          clear hsel
          subst hx0
          go_wp2
          go_roundw
          case rel => exact ⟨k + 1, _, by omega, rfl, by go_num, by rw [Hy.out]; exact Hown.out, Bel.out⟩
          case measure => simp [intOf]; omega
        · have hb2 : (x == l) = false := by rw [beq_eq_false_iff_ne]; exact hx
          clear hsel
          go_wp2
          go_roundw
          case rel => exact ⟨k + 1, _, by omega, rfl, by go_num, by rw [Hy.out]; exact Hown.out, Bel.out⟩
          case measure => simp [intOf]; omega
    · obtain rfl : k = n := by omega
      clear H2
      obtain ⟨a, c2, rfl, _⟩ := told_len hown
      have hown2 := Lib.hid (own_low hown (show w.heap.size ≤ w.heap.size + 1 by omega))
      have bel2 := Lib.hid (B01.out.trans (Bel.out.mono (by omega)))
      clear hown
      go_wp2
      go_ret
      exact ⟨_, _, rfl, hown2.out, bel2.out⟩
theorem below_drewN {B : Nat} {w w1 : World} (h : Below B w w1) (k : Nat) : Below B w (w1.drewN k) := by
  induction k generalizing w1 with
  | zero => exact h
  | succ k ih => exact (ih h).drew
theorem ints_same {a1 a2 : Option Addr} {n c1 c2 : Nat} {w : World} {xs : List Int} (h1 : 0 < n → ∃ b, a1 = some ⟨b, 0, none⟩ ∧ ∀ i, i < n → w.cell? ⟨b, i, none⟩ = some (iv (xs.getD i 0))) (h2 : 0 < n → ∃ b, a2 = some ⟨b, 0, none⟩ ∧ ∀ i, i < n → w.cell? ⟨b, i, none⟩ = some (iv (xs.getD i 0))) (hn : n ≤ 64) : Calls Try.prog 20 #[.slice a1 n c1, .slice a2 n c2] w fun e w' => e = .returned (.bool true) ∧ Below w.heap.size w w' := by
  rcases Nat.eq_zero_or_pos n with h0 | hp
  · subst h0
    clear h1 h2
    go_enter Try.func20, Try.ntmps20
    go_wp2_with fail
    go_loopw [13] (fun i wr => i = .int .i64 0 ∧ w = wr) (fun _ _ => 0)
    case atStart => exact ⟨rfl, rfl⟩
    case round =>
      obtain ⟨rfl, rfl⟩ := hrel
      go_wp2
      go_ret
      exact ⟨rfl, Below.refl _ _⟩
  · obtain ⟨b1, rfl, k1⟩ := h1 hp
    obtain ⟨b2, rfl, k2⟩ := h2 hp
    go_enter Try.func20, Try.ntmps20
    go_wp2_with fail
    go_loopw [13] (fun i wr => ∃ k : Nat, k ≤ n ∧ i = .int .i64 k ∧ Below w.heap.size w wr) (fun i _ => n - (intOf i).toNat)
    case atStart => exact ⟨0, by omega, rfl, Below.refl _ _⟩
    case round =>
      obtain ⟨k, hk, rfl, bel⟩ := hrel
      have Bel := Lib.hid bel; clear bel
      by_cases hlt : k < n
      · have p1 := k1 k hlt
        have p2 := k2 k hlt
        have l1 : b1 < w.heap.size := World.block_lt_of_cell? w _ p1
        have l2 : b2 < w.heap.size := World.block_lt_of_cell? w _ p2
        have q1 := cell_below p1 Bel.out l1
        have q2 := cell_below p2 Bel.out l2
        clear p1 p2
        unfold iv at q1 q2
        generalize xs.getD k 0 = x at *
        go_wp2_with fail
        go_quiet (fail)
        have Bel2 := Lib.hid (below_drewN Bel.out nq)
        generalize wr.drewN nq = w2 at *
        go_wp2
        go_roundw
        case rel => exact ⟨k + 1, by omega, by go_num, Bel2.out⟩
        case measure => simp [intOf]; omega
      · go_wp2
        go_ret
        exact ⟨rfl, Bel.out⟩
theorem Free_anyB {W : World} {g o n : Nat} {ep ct : Int} {L : List Int} {w : World} (h : St W g o n ep ct L w) :
    Calls Try.prog 11 #[.pointer (some ⟨g, 0, none⟩)] w fun e w' => e = .returned (.int .i64 ((idxTo isFree L n).length : Int)) ∧ Below w.heap.size w w' := by
  have hlen := idx_length isFree L n
  have h64 := h.n64
  go_enter Try.func11, Try.ntmps11
  go_wp2_with fail
  refine (free_any g o n ep ct L _ h.pool h.own h.len h.n64).mono ?_
  rintro e w1 ⟨v, rfl, hown, bel⟩
  obtain ⟨a, c, rfl, _⟩ := told_len hown
  have H1 := bel
  clear hown bel h
  generalize hm : (idxTo isFree L n).length = m at *
  have Hm := Lib.hid hm; clear hm
  go_wp2
  go_ret
  exact ⟨by rw [Hm.out]; rfl, H1⟩
theorem keep_cell {w w1 : World} {a : Addr} {v : Value} (h : w.cell? a = some v) (hb : Below w.heap.size w w1) : w1.cell? a = some v := cell_below h hb (World.block_lt_of_cell? w _ h)
abbrev SI (b n c : Nat) (ep ct : Int) (w w1 : World) : Prop := w1.cell? ⟨w.heap.size, 0, none⟩ = some (.slice (some ⟨b, 0, none⟩) n c) ∧ w1.cell? ⟨w.heap.size, 1, none⟩ = some (.int .i64 ep) ∧ w1.cell? ⟨w.heap.size, 2, none⟩ = some (.int .i64 ct) ∧ Below w.heap.size w w1
theorem SI.keep {b n c : Nat} {ep ct : Int} {w w1 w2 : World} (h : SI b n c ep ct w w1) (hb : Below w1.heap.size w1 w2) : SI b n c ep ct w w2 := ⟨keep_cell h.1 hb, keep_cell h.2.1 hb, keep_cell h.2.2.1 hb, below_two h.2.2.2 hb⟩
theorem SI.drew {b n c : Nat} {ep ct : Int} {w w1 : World} (h : SI b n c ep ct w w1) : SI b n c ep ct w w1.drew := ⟨h.1, h.2.1, h.2.2.1, h.2.2.2.drew⟩
theorem SI.bel {b n c : Nat} {ep ct : Int} {w w1 : World} (h : SI b n c ep ct w w1) : Below w.heap.size w w1 := h.2.2.2
set_option maxHeartbeats 16000000 in
theorem same_any {b g o n : Nat} {W : World} {ep ct : Int} {L : List Int} {w : World} (h : St W g o n ep ct L w) (hr : RR b n L w) (c : Nat) (ep2 ct2 : Int) : Calls Try.prog 19 #[.pointer (some ⟨g, 0, none⟩), rp b n c ep2 ct2] w fun e w' => e = .returned (.bool true) ∧ Below w.heap.size w w' := by
  have hn := h.n64
  have hbl := Lib.hid hr.lt
  have H := Lib.hid h
  have R0 := Lib.hid hr
  clear h hr
  go_enter Try.func19, Try.ntmps19
  unfold rp
  go_wp2_with fail
  have hbox : (w.alloc (Obj.cells #[Value.slice (some ⟨b, 0, none⟩) n c, Value.int IntKind.i64 ep2, Value.int IntKind.i64 ct2] 40)).heap[w.heap.size]? = some (.cells #[Value.slice (some ⟨b, 0, none⟩) n c, Value.int IntKind.i64 ep2, Value.int IntKind.i64 ct2] 40 (0, 0)) := heap_new _ _
  have B01 := Lib.hid (show Below w.heap.size w (w.alloc (Obj.cells #[Value.slice (some ⟨b, 0, none⟩) n c, Value.int IntKind.i64 ep2, Value.int IntKind.i64 ct2] 40)) from (Below.refl _ _).alloc (Nat.le_refl _) _)
  generalize hW : w.alloc _ = W1 at *
  clear hW
  have p0 := blk_cell hbox 0
  have p1 := blk_cell hbox 1
  have p2 := blk_cell hbox 2
  simp at p0 p1 p2
  clear hbox
  have Q0 := Lib.hid p0; have Q1 := Lib.hid p1; have Q2 := Lib.hid p2
  clear p0 p1 p2
  have H1 := Lib.hid (H.out.below B01.out)
  have R1 := Lib.hid (R0.out.below B01.out hbl.out)
  have hbl1 := Lib.hid R1.out.lt
  go_loopw [10] (fun i wr => ∃ k : Nat, k ≤ n ∧ i = .int .i64 k ∧ Below W1.heap.size W1 wr) (fun i _ => n - (intOf i).toNat)
  case atStart => exact ⟨0, by omega, rfl, Below.refl _ _⟩
  case round =>
    obtain ⟨k, hk, rfl, bel⟩ := hrel
    have Bel := Lib.hid bel; clear bel
    have H2 := Lib.hid (H1.out.below Bel.out)
    have R2 := Lib.hid (R1.out.below Bel.out hbl1.out)
    by_cases hlt : k < n
    · have hc := R2.out.cell hlt
      have how := owner_any H2.out k hlt
      generalize L.getD k 0 = x at *
      go_wp2_with fail
      refine how.mono ?_
      rintro e w2 ⟨rfl, rfl⟩
      go_wp2
      go_roundw
      case rel => exact ⟨k + 1, by omega, by go_num, Bel.out⟩
      case measure => simp [intOf]; omega
    · obtain rfl : k = n := by omega
      have q0 := keep_cell Q0.out Bel.out
      have q1 := keep_cell Q1.out Bel.out
      have q2 := keep_cell Q2.out Bel.out
      have bel := below_two B01.out Bel.out
      have hfl : (idxTo isFree L k).length = (idxN isFree L k).length := by simp [idxTo]
      have hfl2 := idxN_len isFree L k
      have HF := Lib.hid hfl; clear hfl
      clear H1 H2 R1 R2 hbl1 Q0 Q1 Q2 B01 Bel
      generalize hm : (idxN isFree L k).length = m at *
      have Hm := Lib.hid hm; clear hm
      go_wp2_with fail
      have si : SI b k c ep2 ct2 w wr := ⟨q0, q1, q2, bel⟩
      clear q0 q1 q2 bel
      go_region_held3 (fun w' => SI b k c ep2 ct2 w w')
        ((first | assumption | exact SI.keep (by assumption) (by assumption) | exact SI.drew (by assumption)))
        (first
          | (go_at_call 22; refine (size_any (H.out.below (SI.bel (by assumption)))).mono ?_; rintro e w4 ⟨rfl, rfl⟩)
          | (go_at_call 11; refine (Free_anyB (H.out.below (SI.bel (by assumption)))).mono ?_; rintro e w4 ⟨rfl, bel⟩; rw [HF.out])
          | (go_at_call 34; refine (rFree_any (R0.out.below (SI.bel (by assumption)) hbl.out) c ep2 ct2).mono ?_; rintro e w4 ⟨rfl, bel⟩; rw [Hm.out])
          | (go_at_call 12; refine (Of_any (H.out.below (SI.bel (by assumption))) 0).mono ?_; rintro e w4 ⟨⟨a5, c5, rfl, _⟩, _, bel⟩; rw [log0])
          | (go_at_call 23; refine (owner_none (H.out.below (SI.bel (by assumption))) _ ?ow).mono ?_; (case ow => first | exact .inl (by decide) | exact .inr (Int.le_refl _)); rintro e w4 ⟨rfl, rfl⟩))
      have hsi := SI.bel (show SI b k c ep2 ct2 w _ by assumption)
      go_split_ands
      go_wp2
      go_ret
      exact ⟨rfl, hsi⟩
end Go.Proofs.Ytfcpjnikblleaaa
