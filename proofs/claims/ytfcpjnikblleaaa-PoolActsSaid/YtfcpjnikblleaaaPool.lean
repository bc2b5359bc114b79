/- The pool's calls. -/
import Derived.Test.YtfcpjnikblleaaaWalk
import Derived.Laws.BitsLemmas
namespace Go.Proofs.Ytfcpjnikblleaaa
open Go.RowKit
set_option maxRecDepth 100000
set_option linter.unusedSimpArgs false
set_option linter.unusedVariables false
theorem free_any (g o n : Nat) (ep ct : Int) (L : List Int) (w : World) (hg : w.heap[g]? = some (poolB o n ep ct)) (ho : w.heap[o]? = some (ownB L)) (hn : L.length = n) (h64 : n ≤ 64) :
    Calls Try.prog 25 #[.pointer (some ⟨g, 0, none⟩)] w (Told w.heap.size (idxTo isFree L n) w) := by
  have Hg := Lib.hid hg; clear hg
  have Ho := Lib.hid ho; clear ho
  have Hn := Lib.hid hn; clear hn
  go_enter Try.func25, Try.ntmps25
  go_wp2_with fail
  refine (those_free g o n ep ct L _ Hg.out Ho.out Hn.out h64).mono ?_
  rintro e w1 ⟨v, rfl, hown, bel⟩
  have Hown := Lib.hid hown; clear hown
  have Bel := Lib.hid bel; clear bel
  go_wp2
  go_ret
  exact ⟨_, rfl, Hown.out, Bel.out⟩
/-- How many, of what was told. -/
theorem told_len {w : World} {B : Nat} {v : Value} {xs : List Int} (h : w.ownsRow B 3 1 v xs.length (xs.map iv)) : ∃ a c, v = .slice a xs.length c ∧ (0 < xs.length → ∃ b, a = some ⟨b, 0, none⟩ ∧ B ≤ b ∧ b < w.heap.size ∧ ∀ i, i < xs.length → w.cell? ⟨b, i, none⟩ = some (iv (xs.getD i 0))) := by
  rcases h.2 with ⟨rfl, h0⟩ | ⟨g, cap, cur, rfl, hb, hh, hc, _, hsz, htk⟩
  · exact ⟨none, 0, by rw [h0], fun hp => by omega⟩
  · refine ⟨_, cap, rfl, fun _ => ⟨g, rfl, hb, blk_lt hh, fun i hi => ?_⟩⟩
    rw [blk_cell hh]
    have e : cur.toList[i]? = some (iv (xs.getD i 0)) := by
      have : (cur.toList.take (xs.length * 1))[i]? = (xs.map iv)[i]? := by rw [htk]
      rw [List.getElem?_take_of_lt (by omega)] at this
      rw [this]
      simp [hi, List.getD]
    simpa using e
structure St (W : World) (g o n : Nat) (ep ct : Int) (L : List Int) (w : World) : Prop where
  g0 : W.heap.size ≤ g
  o0 : W.heap.size ≤ o
  ne : g ≠ o
  len : L.length = n
  n64 : n ≤ 64
  pool : w.heap[g]? = some (poolB o n ep ct)
  own : w.heap[o]? = some (ownB L)
  bel : Below W.heap.size W w
theorem St.below {W w w1 : World} {g o n : Nat} {ep ct : Int} {L : List Int} (h : St W g o n ep ct L w) (hb : Below w.heap.size w w1) : St W g o n ep ct L w1 :=
  ⟨h.g0, h.o0, h.ne, h.len, h.n64, blk_below h.pool hb, blk_below h.own hb, below_two h.bel hb⟩
theorem St.drew {W w : World} {g o n : Nat} {ep ct : Int} {L : List Int} (h : St W g o n ep ct L w) : St W g o n ep ct L w.drew :=
  ⟨h.g0, h.o0, h.ne, h.len, h.n64, h.pool, h.own, h.bel.drew⟩
theorem St.drewN {W w : World} {g o n : Nat} {ep ct : Int} {L : List Int} (h : St W g o n ep ct L w) (k : Nat) : St W g o n ep ct L (w.drewN k) := by
  induction k generalizing w with
  | zero => exact h
  | succ k ih => exact (ih h).drew
theorem St.set {W w : World} {g o n : Nat} {ep ct : Int} {L : List Int} (h : St W g o n ep ct L w) (i : Nat) (x : Int) : St W g o n ep ct (L.set i x) (w.setCell ⟨o, i, none⟩ (.int .i64 x)) :=
  ⟨h.g0, h.o0, h.ne, by rw [List.length_set]; exact h.len, h.n64, (heap_far _ _ _ h.ne).trans h.pool, by rw [heap_set h.own]; simp [ownB, List.map_set, iv], h.bel.setCell h.o0 _⟩
theorem St.count {W w : World} {g o n : Nat} {ep ct : Int} {L : List Int} (h : St W g o n ep ct L w) (x : Int) : St W g o n ep x L (w.setCell ⟨g, 2, none⟩ (.int .i64 x)) :=
  ⟨h.g0, h.o0, h.ne, h.len, h.n64, by rw [heap_set h.pool]; rfl, (heap_far _ _ _ h.ne.symm).trans h.own, h.bel.setCell h.g0 _⟩
theorem St.cell {W w : World} {g o n : Nat} {ep ct : Int} {L : List Int} (h : St W g o n ep ct L w) {i : Nat} (hi : i < n) : w.cell? ⟨o, i, none⟩ = some (.int .i64 (L.getD i 0)) := by
  rw [blk_cell h.own]
  have : i < L.length := by rw [h.len]; exact hi
  simp [iv, this, List.getD]
theorem Free_any {W : World} {g o n : Nat} {ep ct : Int} {L : List Int} {w : World} (h : St W g o n ep ct L w) :
    Calls Try.prog 11 #[.pointer (some ⟨g, 0, none⟩)] w fun e w' => e = .returned (.int .i64 ((idxTo isFree L n).length : Int)) ∧ St W g o n ep ct L w' := by
  have hlen := idx_length isFree L n
  have h64 := h.n64
  go_enter Try.func11, Try.ntmps11
  go_wp2_with fail
  refine (free_any g o n ep ct L _ h.pool h.own h.len h.n64).mono ?_
  rintro e w1 ⟨v, rfl, hown, bel⟩
  obtain ⟨a, c, rfl, _⟩ := told_len hown
  have H1 := h.below bel
  clear hown bel h
  generalize hm : (idxTo isFree L n).length = m at *
  have Hm := Lib.hid hm; clear hm
  go_wp2
  go_ret
  exact ⟨by rw [Hm.out]; rfl, H1⟩
def logOk (l : Int) : Bool := decide (0 < l ∧ l ≤ 65535)
theorem may_any (l : Int) (w : World) : Calls Try.prog 24 #[.int .i64 l] w fun e w' => e = .returned (.bool (logOk l)) ∧ w = w' := by
  by_cases h1 : 0 < l
  · by_cases h2 : l ≤ 65535
    · rw [show logOk l = true by simp [logOk, h1, h2]]
      go_enter Try.func24, Try.ntmps24
      go_wp2
      go_ret
      exact ⟨by simp [h2], rfl⟩
    · rw [show logOk l = false by simp [logOk]; omega]
      have h3 : decide (l ≤ 65535) = false := by simp; omega
      go_enter Try.func24, Try.ntmps24
      go_wp2
      go_ret
      exact ⟨rfl, rfl⟩
  · rw [show logOk l = false by simp [logOk]; omega]
    go_enter Try.func24, Try.ntmps24
    go_wp2
    go_ret
    exact ⟨rfl, rfl⟩
theorem size_any {W : World} {g o n : Nat} {ep ct : Int} {L : List Int} {w : World} (h : St W g o n ep ct L w) :
    Calls Try.prog 22 #[.pointer (some ⟨g, 0, none⟩)] w fun e w' => e = .returned (.int .i64 (n : Int)) ∧ w = w' := by
  have hc := blk_cell h.pool 0
  simp at hc
  have h64 := h.n64
  clear h
  go_enter Try.func22, Try.ntmps22
  go_wp2
  go_ret
  exact ⟨rfl, rfl⟩
theorem is_any {W : World} {g o n : Nat} {ep ct : Int} {L : List Int} {w : World} (h : St W g o n ep ct L w) (s : Int) :
    Calls Try.prog 27 #[.pointer (some ⟨g, 0, none⟩), .int .i64 s] w fun e w' => e = .returned (.bool (decide (0 ≤ s ∧ s < n))) ∧ w = w' := by
  by_cases h1 : 0 ≤ s
  · by_cases h2 : s < n
    · rw [show decide (0 ≤ s ∧ s < (n : Int)) = true by simp [h1, h2]]
      have H := Lib.hid h; clear h
      go_enter Try.func27, Try.ntmps27
      go_wp2_with (go_at_call 22; refine (size_any H.out).mono ?_; rintro e w1 ⟨rfl, rfl⟩)
      go_ret
      exact ⟨by simp [h2], rfl⟩
    · rw [show decide (0 ≤ s ∧ s < (n : Int)) = false by simp; omega]
      have h3 : decide (s < (n : Int)) = false := by simp; omega
      have H := Lib.hid h; clear h
      go_enter Try.func27, Try.ntmps27
      go_wp2_with (go_at_call 22; refine (size_any H.out).mono ?_; rintro e w1 ⟨rfl, rfl⟩)
      go_ret
      exact ⟨rfl, rfl⟩
  · rw [show decide (0 ≤ s ∧ s < (n : Int)) = false by simp; omega]
    clear h
    go_enter Try.func27, Try.ntmps27
    go_wp2
    go_ret
    exact ⟨rfl, rfl⟩
theorem owner_any {W : World} {g o n : Nat} {ep ct : Int} {L : List Int} {w : World} (h : St W g o n ep ct L w) (i : Nat) (hi : i < n) :
    Calls Try.prog 23 #[.pointer (some ⟨g, 0, none⟩), .int .i64 (i : Int)] w fun e w' => e = .returned (.int .i64 (L.getD i 0)) ∧ w = w' := by
  have H := Lib.hid h
  have hc := h.cell hi
  have hp := blk_cell h.pool 0
  simp at hp
  have h64 := h.n64
  clear h
  have E := Lib.hid (show decide (0 ≤ (i : Int) ∧ (i : Int) < (n : Int)) = true by simp [hi])
  generalize L.getD i 0 = x at *
  go_enter Try.func23, Try.ntmps23
  go_wp2_with (go_at_call 27; refine (is_any H.out _).mono ?_; rintro e w1 ⟨rfl, rfl⟩; rw [E.out])
  go_ret
  exact ⟨rfl, rfl⟩
theorem owner_none {W : World} {g o n : Nat} {ep ct : Int} {L : List Int} {w : World} (h : St W g o n ep ct L w) (i : Int) (hi : i < 0 ∨ n ≤ i) :
    Calls Try.prog 23 #[.pointer (some ⟨g, 0, none⟩), .int .i64 i] w fun e w' => e = .returned (.int .i64 0) ∧ w = w' := by
  have H := Lib.hid h; clear h
  have E := Lib.hid (show decide (0 ≤ i ∧ i < (n : Int)) = false by simp; omega)
  clear hi
  go_enter Try.func23, Try.ntmps23
  go_wp2_with (go_at_call 27; refine (is_any H.out _).mono ?_; rintro e w1 ⟨rfl, rfl⟩; rw [E.out])
  go_ret
  exact ⟨rfl, rfl⟩
theorem give_out {W : World} {g o n : Nat} {ep ct : Int} {L : List Int} {w : World} (h : St W g o n ep ct L w) (i : Int) (hi : i < 0 ∨ n ≤ i) :
    Calls Try.prog 10 #[.pointer (some ⟨g, 0, none⟩), .int .i64 i] w fun e w' => e = .returned (.int .i64 20) ∧ w = w' := by
  have H := Lib.hid h; clear h
  have E := Lib.hid (show decide (0 ≤ i ∧ i < (n : Int)) = false by simp; omega)
  clear hi
  go_enter Try.func10, Try.ntmps10
  go_wp2_with (go_at_call 27; refine (is_any H.out _).mono ?_; rintro e w1 ⟨rfl, rfl⟩; rw [E.out])
  go_ret
  exact ⟨rfl, rfl⟩
theorem give_none {W : World} {g o n : Nat} {ep ct : Int} {L : List Int} {w : World} (h : St W g o n ep ct L w) (i : Nat) (hi : i < n) (h0 : L.getD i 0 = 0) :
    Calls Try.prog 10 #[.pointer (some ⟨g, 0, none⟩), .int .i64 (i : Int)] w fun e w' => e = .returned (.int .i64 6) ∧ w = w' := by
  have H := Lib.hid h
  have hc := h.cell hi
  rw [h0] at hc
  have hp := blk_cell h.pool 0
  simp at hp
  have h64 := h.n64
  clear h h0
  have E := Lib.hid (show decide (0 ≤ (i : Int) ∧ (i : Int) < (n : Int)) = true by simp [hi])
  go_enter Try.func10, Try.ntmps10
  go_wp2_with (go_at_call 27; refine (is_any H.out _).mono ?_; rintro e w1 ⟨rfl, rfl⟩; rw [E.out])
  go_ret
  exact ⟨rfl, rfl⟩
theorem give_ok {W : World} {g o n : Nat} {ep ct : Int} {L : List Int} {w : World} (h : St W g o n ep ct L w) (i : Nat) (hi : i < n) (h0 : L.getD i 0 ≠ 0) :
    Calls Try.prog 10 #[.pointer (some ⟨g, 0, none⟩), .int .i64 (i : Int)] w fun e w' => e = .returned (.int .i64 0) ∧ St W g o n ep ct (L.set i 0) w' := by
  have H := Lib.hid h
  have hc := h.cell hi
  have hf := blk_free h.own i
  have hp := blk_cell h.pool 0
  simp at hp
  have h64 := h.n64
  have hb : (L.getD i 0 == 0) = false := by rw [beq_eq_false_iff_ne]; exact h0
  clear h h0
  have E := Lib.hid (show decide (0 ≤ (i : Int) ∧ (i : Int) < (n : Int)) = true by simp [hi])
  have H2 := Lib.hid (H.out.set i 0)
  generalize L.getD i 0 = x at *
  generalize L.set i 0 = L2 at *
  go_enter Try.func10, Try.ntmps10
  go_wp2_with (go_at_call 27; refine (is_any H.out _).mono ?_; rintro e w1 ⟨rfl, rfl⟩; rw [E.out])
  go_ret
  exact ⟨rfl, H2.out⟩
theorem or_u32 (e c : Nat) (he : e < 65536) (hc : c < 65536) : Go.bits .or .u32 ((e : Int) * 65536) (c : Int) = ((65536 * e + c : Nat) : Int) := by
  rw [Go.bits_join .u32 32 (by decide) (fun n h0 h1 => by rw [IntKind.wrap_u32]; exact Int.emod_eq_of_lt h0 (by simpa using h1)) 16 ((e : Int) * 65536) c (by omega) (by omega) (by omega) (by omega) (by omega) (by omega)]
  omega
theorem stamp_any (e c : Nat) (w : World) (he : e ≤ 65535) (hc : c ≤ 65535) :
    Calls Try.prog 26 #[.int .i64 (e : Int), .int .i64 (c : Int)] w fun r w' => r = .returned (.tuple #[.int .u32 ((65536 * e + c : Nat) : Int), .int .i64 0]) ∧ w' = w := by
  have e1 : IntKind.u32.wrap (e : Int) = e := IntWalk.u32_in _ (by omega)
  have e2 : IntKind.u32.wrap (c : Int) = c := IntWalk.u32_in _ (by omega)
  have e3 : IntKind.u32.wrap ((e : Int) * 65536) = (e : Int) * 65536 := IntWalk.u32_in _ (by omega)
  have Ho := Lib.hid (or_u32 e c (by omega) (by omega))
  have he' : (e : Int) ≤ 65535 := by omega
  have hc' : (c : Int) ≤ 65535 := by omega
  go_enter Try.func26, Try.ntmps26
  go_wp2
  go_ret2
  exact ⟨by rw [← Ho.out]; rfl, rfl⟩
theorem stamp_end (e c : Nat) (w : World) (he : e ≤ 65535) (hc : 65535 < c) :
    Calls Try.prog 26 #[.int .i64 (e : Int), .int .i64 (c : Int)] w fun r w' => r = .returned (.tuple #[.int .u32 0, .int .i64 1]) ∧ w' = w := by
  have he' : (e : Int) ≤ 65535 := by omega
  have hc' : 65535 < (c : Int) := by omega
  go_enter Try.func26, Try.ntmps26
  go_wp2
  go_ret2
  exact ⟨rfl, rfl⟩
theorem take_bad {W : World} {g o n : Nat} {ep ct : Int} {L : List Int} {w : World} (h : St W g o n ep ct L w) (l : Int) (hl : logOk l = false) :
    Calls Try.prog 9 #[.pointer (some ⟨g, 0, none⟩), .int .i64 l] w fun e w' => e = .returned (.tuple #[.int .i64 0, .int .u32 0, .int .i64 1]) ∧ w = w' := by
  have E := Lib.hid hl; clear hl h
  go_enter Try.func9, Try.ntmps9
  go_wp2_with (go_at_call 24; refine (may_any _ _).mono ?_; rintro e w1 ⟨rfl, rfl⟩; rw [E.out])
  go_ret3
  exact ⟨rfl, rfl⟩
set_option maxHeartbeats 1000000 in
theorem take_ok {W : World} {g o n : Nat} {ep ct : Nat} {L : List Int} {w : World} (h : St W g o n ep ct L w) (l : Int) (hl : logOk l = true) (he : ep ≤ 65535) (hct : ct ≤ 65535) (f : Nat) (r : List Nat) (hf : idxN isFree L n = f :: r) :
    Calls Try.prog 9 #[.pointer (some ⟨g, 0, none⟩), .int .i64 l] w fun e w' => e = .returned (.tuple #[.int .i64 (f : Int), .int .u32 ((65536 * ep + ct : Nat) : Int), .int .i64 0]) ∧ St W g o n ep ((ct + 1 : Nat) : Int) (L.set f l) w' := by
  have E := Lib.hid hl; clear hl
  have hfn : f < n := by
    have : f ∈ idxN isFree L n := by rw [hf]; exact List.mem_cons_self
    unfold idxN at this
    simpa using (List.mem_filter.1 this).1
  have hx : idxTo isFree L n = (f : Int) :: r.map Int.ofNat := by unfold idxTo; rw [hf]; rfl
  have h64 := h.n64
  have H := Lib.hid h; clear h
  have Hx := Lib.hid hx; clear hx hf
  go_enter Try.func9, Try.ntmps9
  go_wp2_with fail
  refine (may_any _ _).mono ?_; rintro e w1 ⟨rfl, rfl⟩; rw [E.out]
  go_wp2_with fail
  refine (free_any g o n ep ct L _ H.out.pool H.out.own H.out.len H.out.n64).mono ?_
  rintro e w1 ⟨v, rfl, hown, bel⟩
  obtain ⟨a, c, rfl, hcl⟩ := told_len hown
  have hlen : (idxTo isFree L n).length = r.length + 1 := by rw [Hx.out]; simp
  obtain ⟨b, rfl, hb0, hb1, hbc⟩ := hcl (by omega)
  have hc0 := hbc 0 (by omega)
  rw [Hx.out] at hc0
  have H1 := Lib.hid (H.out.below bel)
  have hbl : w.heap.size ≤ b := hb0
  have hol := blk_lt H.out.own
  have hgl := blk_lt H.out.pool
  have hlen2 := idx_length isFree L n
  generalize (idxTo isFree L n).length = m at *
  clear hown bel hbc
  simp [iv] at hc0
  have p1 := blk_cell H1.out.pool 1
  have p2 := blk_cell H1.out.pool 2
  simp at p1 p2
  go_wp2_with fail
  go_quiet ((go_at_call 26; exact Calls.quiet_of_same (stamp_any ep ct _ he hct)))
  have H2 := Lib.hid (H1.out.drewN nq)
  have hc2 : (w1.drewN nq).cell? ⟨b, 0, none⟩ = some (Value.int IntKind.i64 (f : Int)) := by simpa using hc0
  clear p1 p2 hc0 H1
  generalize w1.drewN nq = w2 at *
  have p0 := blk_cell H2.out.pool 0
  have p2 := blk_cell H2.out.pool 2
  simp at p0 p2
  have q2 := blk_free H2.out.pool 2
  have hcf := H2.out.cell hfn
  have hff := blk_free H2.out.own f
  generalize L.getD f 0 = x at hcf
  have n1 : ¬ g = o := H.out.ne
  have n2 : ¬ o = g := fun e => H.out.ne e.symm
  have n3 : ¬ b = o := by omega
  have n4 : ¬ b = g := by omega
  have n5 : ¬ o = b := by omega
  have n6 : ¬ g = b := by omega
  have hm : r.length < 64 := by omega
  have hf0 : (0 : Int) ≤ (f : Int) := by omega
  have hfn' : (f : Int) < (n : Int) := by omega
  go_wp2_with fail
  go_still_tail 9, (by kernel_rfl)
  change wpList _ _ _ _ _ w2.drew
  go_wp2
  go_ret3
  refine ⟨?_, ?_⟩
  · simp
  · first
      | exact ((H2.out.set f l).count _).drew
      | exact ((H2.out.set f l).drew.count _)
      | (have := ((H2.out.set f l).count ((ct : Int) + 1)).drew; simpa using this)
set_option maxHeartbeats 1000000 in
theorem take_full {W : World} {g o n : Nat} {ep ct : Nat} {L : List Int} {w : World} (h : St W g o n ep ct L w) (l : Int) (hl : logOk l = true) (he : ep ≤ 65535) (hct : ct ≤ 65535) (hf : idxN isFree L n = []) :
    Calls Try.prog 9 #[.pointer (some ⟨g, 0, none⟩), .int .i64 l] w fun e w' => e = .returned (.tuple #[.int .i64 0, .int .u32 0, .int .i64 32]) ∧ St W g o n ep ct L w' := by
  have E := Lib.hid hl; clear hl
  have h64 := h.n64
  have H := Lib.hid h; clear h
  have hx : (idxTo isFree L n).length = 0 := by unfold idxTo; rw [hf]; rfl
  have Hx := Lib.hid hx; clear hx hf
  go_enter Try.func9, Try.ntmps9
  go_wp2_with fail
  refine (may_any _ _).mono ?_; rintro e w1 ⟨rfl, rfl⟩; rw [E.out]
  go_wp2_with fail
  refine (free_any g o n ep ct L _ H.out.pool H.out.own H.out.len H.out.n64).mono ?_
  rintro e w1 ⟨v, rfl, hown, bel⟩
  obtain ⟨a, c, rfl, hcl⟩ := told_len hown
  have H1 := Lib.hid (H.out.below bel)
  have hlen2 := idx_length isFree L n
  have hm := Hx.out
  generalize (idxTo isFree L n).length = m at *
  clear hown bel hcl
  have p1 := blk_cell H1.out.pool 1
  have p2 := blk_cell H1.out.pool 2
  simp at p1 p2
  go_wp2_with fail
  go_quiet ((go_at_call 26; exact Calls.quiet_of_same (stamp_any ep ct _ he hct)))
  have H2 := Lib.hid (H1.out.drewN nq)
  clear p1 p2 H1
  generalize w1.drewN nq = w2 at *
  go_wp2
  go_ret3
  exact ⟨rfl, H2.out⟩
set_option maxHeartbeats 1000000 in
theorem take_end {W : World} {g o n : Nat} {ep ct : Nat} {L : List Int} {w : World} (h : St W g o n ep ct L w) (l : Int) (hl : logOk l = true) (he : ep ≤ 65535) (hct : 65535 < ct) :
    Calls Try.prog 9 #[.pointer (some ⟨g, 0, none⟩), .int .i64 l] w fun e w' => e = .returned (.tuple #[.int .i64 0, .int .u32 0, .int .i64 32]) ∧ St W g o n ep ct L w' := by
  have E := Lib.hid hl; clear hl
  have h64 := h.n64
  have H := Lib.hid h; clear h
  go_enter Try.func9, Try.ntmps9
  go_wp2_with fail
  refine (may_any _ _).mono ?_; rintro e w1 ⟨rfl, rfl⟩; rw [E.out]
  go_wp2_with fail
  refine (free_any g o n ep ct L _ H.out.pool H.out.own H.out.len H.out.n64).mono ?_
  rintro e w1 ⟨v, rfl, hown, bel⟩
  obtain ⟨a, c, rfl, hcl⟩ := told_len hown
  have H1 := Lib.hid (H.out.below bel)
  have hlen2 := idx_length isFree L n
  generalize (idxTo isFree L n).length = m at *
  clear hown bel hcl
  have p1 := blk_cell H1.out.pool 1
  have p2 := blk_cell H1.out.pool 2
  simp at p1 p2
  go_wp2_with fail
  go_quiet ((go_at_call 26; exact Calls.quiet_of_same (stamp_end ep ct _ he hct)))
  have H2 := Lib.hid (H1.out.drewN nq)
  clear p1 p2 H1
  generalize w1.drewN nq = w2 at *
  go_wp2
  all_goals go_ret3
  all_goals exact ⟨rfl, H2.out⟩
def mayPool (n ep : Int) : Prop := 6 ≤ n ∧ n ≤ 64 ∧ 0 ≤ ep ∧ ep ≤ 65535
theorem made_zero (n : Nat) (m : Nat) (hm : m = n) : madeCells (Value.int .i64 0).cells m = ((List.replicate n (0 : Int)).map iv).toArray := by
  subst hm
  apply Array.ext
  · simp [madeCells]
  · intro i h1 h2
    simp [madeCells, Value.cells, iv, Nat.mod_one]
theorem new_ok (n ep : Nat) (w : World) (h6 : 6 ≤ n) (h64 : n ≤ 64) (he : ep ≤ 65535) :
    Calls Try.prog 8 #[.int .i64 (n : Int), .int .i64 (ep : Int)] w fun e w' => e = .returned (.tuple #[.pointer (some ⟨w.heap.size + 1, 0, none⟩), .int .i64 0]) ∧ St w (w.heap.size + 1) w.heap.size n ep 0 (List.replicate n 0) w' := by
  obtain ⟨i0, hi, hz0, hz1, hz2⟩ := info_parts info3
  have h6' : (6 : Int) ≤ n := by omega
  have h64' : (n : Int) ≤ 64 := by omega
  have he' : (ep : Int) ≤ 65535 := by omega
  have km := run_makeSlice (P := Try.prog) (w := w) 33 3 i0 (.int .i64 0) Try.underlying33 hi hz0 .i64 .i64 n n (by omega) (by omega) (by rw [hz1]; simp; omega) (by rw [hz2]; omega) (by omega)
  rw [made_zero n _ (by rw [hz1]; simp), Int.toNat_natCast] at km
  have hB : ∃ B, B = (List.replicate n (0 : Int)).map iv := ⟨_, rfl⟩
  obtain ⟨B, hB⟩ := hB
  rw [← hB] at km
  have HB := Lib.hid hB; clear hB
  clear hi hz0 hz1 hz2
  go_enter Try.func8, Try.ntmps8
  go_wp2
  go_ret2
  refine ⟨rfl, by omega, Nat.le_refl _, by omega, by simp, h64, ?_, ?_, ?_⟩
  · have := heap_new (w.alloc (.cells B.toArray 3)) (poolB w.heap.size n ep 0)
    simpa [poolB] using this
  · rw [heap_old _ _ (by simp), heap_new, HB.out]; rfl
  · exact ((Below.refl _ _).alloc (Nat.le_refl _) _).alloc (by simp) _
end Go.Proofs.Ytfcpjnikblleaaa
