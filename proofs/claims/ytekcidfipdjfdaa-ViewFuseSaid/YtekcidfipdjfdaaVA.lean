/- Views: the state, and the functions that only read or set a cell. -/
import Derived.Test.YtekcidfipdjfdaaDJ
namespace Go.Proofs.Ytekcidfipdjfdaa.Own
open Go.RowKit Go.Proofs.YtekcidfipdjfdaaW.PrintWords Go.Proofs.Ytekcidfipdjfdaa.PB
set_option maxRecDepth 100000
set_option linter.unusedSimpArgs false
set_option linter.unusedVariables false
theorem typed_fs {B g o : Nat} {v : Value} {L : List ByteArray} {W : List S79} {w : World} (h : DS B g o v L W w) {k : Nat} (hk : FS g o v k) : ∃ c t, w.heap[k]? = some (.cells c t (0, 0)) ∧ (t = 50 ∨ t = 60 ∨ t = 62) := by
  rcases hk with rfl | rfl | hk
  · exact ⟨_, _, h.blk, Or.inl rfl⟩
  · exact ⟨_, _, h.lie, Or.inr (Or.inl rfl)⟩
  · obtain ⟨inner, ho⟩ := Kd.R_own h.row
    obtain ⟨c, hc⟩ := own_typed ho k hk
    exact ⟨c, 62, hc, Or.inr (Or.inr rfl)⟩
theorem not_fs {B g o : Nat} {v : Value} {L : List ByteArray} {W : List S79} {w w1 : World} (h : DS B g o v L W w) (hf : Fr (FS g o v) w w1) {k t : Nat} {c : Array Value} (hb : w.heap[k]? = some (.cells c t (0, 0))) (ht : t ≠ 50 ∧ t ≠ 60 ∧ t ≠ 62) : w1.heap[k]? = some (.cells c t (0, 0)) :=
  (hf.block k (blk_lt hb) (fun hS => by
    obtain ⟨c', t', hc, ht'⟩ := typed_fs h hS
    rw [hb] at hc
    cases hc
    rcases ht' with e | e | e
    · exact absurd e ht.1
    · exact absurd e ht.2.1
    · exact absurd e ht.2.2)).trans hb
theorem DS.set_other {B g o : Nat} {v : Value} {L : List ByteArray} {W : List S79} {w : World} (h : DS B g o v L W w) {k t : Nat} {c : Array Value} (hb : w.heap[k]? = some (.cells c t (0, 0))) (ht : t ≠ 50 ∧ t ≠ 60 ∧ t ≠ 62) (j : Nat) (u : Value) : DS B g o v L W (w.setCell ⟨k, j, none⟩ u) :=
  h.fr (S := fun x => x = k) ((Fr.refl _ w).set ⟨k, j, none⟩ u (Or.inl rfl)) (fun q hq e => by
    subst e
    obtain ⟨c', t', hc, ht'⟩ := typed_fs h hq
    rw [hb] at hc
    cases hc
    rcases ht' with e | e | e
    · exact ht.1 e
    · exact ht.2.1 e
    · exact ht.2.2 e)
/-- The cells of a view. -/
def vc (g : Nat) (fr n fu st : Int) (de : Bool) : Array Value := #[.pointer (some ⟨g, 0, none⟩), .int .i64 fr, .int .i64 n, .int .i64 fu, .int .i64 st, .bool de]
/-- A view of a disk, and what became of the world. -/
structure VW (B p g o : Nat) (v : Value) (L : List ByteArray) (W : List S79) (fr n fu st : Int) (de : Bool) (w0 w : World) : Prop where
  d : DS B g o v L W w
  v : w.heap[p]? = some (.cells (vc g fr n fu st de) 52 (0, 0))
  b : Below w0.heap.size w0 w
section
variable {B p g o : Nat} {v : Value} {L : List ByteArray} {W : List S79} {fr n fu st : Int} {de : Bool} {w0 w : World}
theorem VW.below {w1 : World} (h : VW B p g o v L W fr n fu st de w0 w) (hb : Below w.heap.size w w1) : VW B p g o v L W fr n fu st de w0 w1 := ⟨h.d.below hb, blk_below h.v hb, below_two h.b hb⟩
theorem VW.drew (h : VW B p g o v L W fr n fu st de w0 w) : VW B p g o v L W fr n fu st de w0 w.drew := h.below ((Below.refl _ _).drew)
theorem VW.upto {v' : Value} {L' : List ByteArray} {W' : List S79} {w1 : World} (h : VW B p g o v L W fr n fu st de w0 w) (hB : w0.heap.size ≤ B) (hd : DS B g o v' L' W' w1) (hf : Fr (FS g o v) w w1) : VW B p g o v' L' W' fr n fu st de w0 w1 :=
  ⟨hd, not_fs h.d hf h.v (by decide), h.b.trans (hf.to_below (fun k hk => Nat.le_trans hB (FS.lo h.d k hk)) h.b.size)⟩
theorem VW.c0 (h : VW B p g o v L W fr n fu st de w0 w) : w.cell? ⟨p, 0, none⟩ = some (.pointer (some ⟨g, 0, none⟩)) := (blk_cell h.v 0).trans rfl
theorem VW.c1 (h : VW B p g o v L W fr n fu st de w0 w) : w.cell? ⟨p, 1, none⟩ = some (.int .i64 fr) := (blk_cell h.v 1).trans rfl
theorem VW.c2 (h : VW B p g o v L W fr n fu st de w0 w) : w.cell? ⟨p, 2, none⟩ = some (.int .i64 n) := (blk_cell h.v 2).trans rfl
theorem VW.c3 (h : VW B p g o v L W fr n fu st de w0 w) : w.cell? ⟨p, 3, none⟩ = some (.int .i64 fu) := (blk_cell h.v 3).trans rfl
theorem VW.c4 (h : VW B p g o v L W fr n fu st de w0 w) : w.cell? ⟨p, 4, none⟩ = some (.int .i64 st) := (blk_cell h.v 4).trans rfl
theorem VW.c5 (h : VW B p g o v L W fr n fu st de w0 w) : w.cell? ⟨p, 5, none⟩ = some (.bool de) := (blk_cell h.v 5).trans rfl
theorem VW.set3 (h : VW B p g o v L W fr n fu st de w0 w) (hp : w0.heap.size ≤ p) (fu' : Int) : VW B p g o v L W fr n fu' st de w0 (w.setCell ⟨p, 3, none⟩ (.int .i64 fu')) := ⟨h.d.set_other h.v (by decide) 3 _, (heap_set h.v (i := 3) _).trans rfl, h.b.setCell (p := ⟨p, 3, none⟩) hp _⟩
theorem VW.set4 (h : VW B p g o v L W fr n fu st de w0 w) (hp : w0.heap.size ≤ p) (st' : Int) : VW B p g o v L W fr n fu st' de w0 (w.setCell ⟨p, 4, none⟩ (.int .i64 st')) := ⟨h.d.set_other h.v (by decide) 4 _, (heap_set h.v (i := 4) _).trans rfl, h.b.setCell (p := ⟨p, 4, none⟩) hp _⟩
theorem VW.set5 (h : VW B p g o v L W fr n fu st de w0 w) (hp : w0.heap.size ≤ p) (de' : Bool) : VW B p g o v L W fr n fu st de' w0 (w.setCell ⟨p, 5, none⟩ (.bool de')) := ⟨h.d.set_other h.v (by decide) 5 _, (heap_set h.v (i := 5) _).trans rfl, h.b.setCell (p := ⟨p, 5, none⟩) hp _⟩
theorem steps_ok (h : VW B p g o v L W fr n fu st de w0 w) : Calls Try.prog 11 #[.pointer (some ⟨p, 0, none⟩)] w fun e w' => e = .returned (.int .i64 st) ∧ w = w' := by
  have c4 := h.c4
  clear h
  go_enter Try.func11, Try.ntmps11
  go_wp2
  go_ret
  exact ⟨rfl, rfl⟩
theorem dead_ok (h : VW B p g o v L W fr n fu st de w0 w) : Calls Try.prog 12 #[.pointer (some ⟨p, 0, none⟩)] w fun e w' => e = .returned (.bool de) ∧ w = w' := by
  have c5 := h.c5
  clear h
  go_enter Try.func12, Try.ntmps12
  go_wp2
  go_ret
  exact ⟨rfl, rfl⟩
theorem vsize_ok (h : VW B p g o v L W fr n fu st de w0 w) : Calls Try.prog 18 #[.pointer (some ⟨p, 0, none⟩)] w fun e w' => e = .returned (.int .i64 n) ∧ w = w' := by
  have c2 := h.c2
  clear h
  go_enter Try.func18, Try.ntmps18
  go_wp2
  go_ret
  exact ⟨rfl, rfl⟩
end
def vinB (n at_ : Int) : Bool := decide (0 ≤ at_ ∧ at_ < n)
theorem vis_ok {B p g o : Nat} {v : Value} {L : List ByteArray} {W : List S79} {fr n fu st : Int} {de : Bool} {w0 w : World} (h : VW B p g o v L W fr n fu st de w0 w) (at_ : Int) : Calls Try.prog 25 #[.pointer (some ⟨p, 0, none⟩), .int .i64 at_] w fun e w' => e = .returned (.bool (vinB n at_)) ∧ w = w' := by
  have c2 := h.c2
  clear h
  by_cases h0 : 0 ≤ at_
  · have d0 : decide (0 ≤ at_) = true := decide_eq_true h0
    cases hl : decide (at_ < n) with
    | true =>
      have e : vinB n at_ = true := by unfold vinB; exact decide_eq_true ⟨h0, of_decide_eq_true hl⟩
      have E := Lib.hid e
      clear e
      go_enter Try.func25, Try.ntmps25
      go_wp2
      go_ret
      exact ⟨by rw [E.out]; rfl, rfl⟩
    | false =>
      have e : vinB n at_ = false := by unfold vinB; exact decide_eq_false (fun h => of_decide_eq_false hl h.2)
      have E := Lib.hid e
      clear e
      go_enter Try.func25, Try.ntmps25
      go_wp2
      go_ret
      exact ⟨by rw [E.out]; rfl, rfl⟩
  · have d0 : decide (0 ≤ at_) = false := decide_eq_false h0
    have e : vinB n at_ = false := by unfold vinB; exact decide_eq_false (fun h => h0 h.1)
    have E := Lib.hid e
    clear e
    go_enter Try.func25, Try.ntmps25
    go_wp2
    go_ret
    exact ⟨by rw [E.out]; rfl, rfl⟩
/-- A view comes to be. -/
theorem vnew_ok {B g o : Nat} {v : Value} {L : List ByteArray} {W : List S79} {w0 w : World} (h : DS B g o v L W w) (hb0 : Below w0.heap.size w0 w) (fr n : Nat) (h1 : 1 ≤ n) (h2 : fr + n ≤ L.length) : Calls Try.prog 8 #[.pointer (some ⟨g, 0, none⟩), .int .i64 (fr : Int), .int .i64 (n : Int)] w fun e w' => e = .returned (.tuple #[.pointer (some ⟨w.heap.size, 0, none⟩), .int .i64 0]) ∧ VW B w.heap.size g o v L W fr n (-1) 0 false w0 w' ∧ w.heap.size ≤ w'.heap.size := by
  have BA : Below w.heap.size w (w.alloc (.cells (vc g fr n (-1) 0 false) 52)) := (Below.refl _ _).alloc (Nat.le_refl _) _
  have HV := Lib.hid (show VW B w.heap.size g o v L W fr n (-1) 0 false w0 (w.alloc (.cells (vc g fr n (-1) 0 false) 52)) from ⟨h.below BA, heap_new w _, below_two hb0 BA⟩)
  have D := Lib.hid h
  have k1 : decide ((fr : Int) < 0) = false := by simp
  have k2 : decide ((n : Int) < 1) = false := by simp; omega
  have k3 : decide ((L.length : Int) < (fr : Int)) = false := by simp; omega
  have k4 : decide ((L.length : Int) - (fr : Int) < (n : Int)) = false := by simp; omega
  have k5 : decide (n < 1) = false := by simp; omega
  have k6 : decide (L.length < fr) = false := by simp; omega
  have kf : (L.length : Int) ≤ 8192 := by have := h.few; omega
  have kn : (n : Int) ≤ 8192 := by have := h.few; omega
  have kfr : (fr : Int) ≤ 8192 := by have := h.few; omega
  have HSZ := Lib.hid (show w.heap.size ≤ (w.alloc (.cells (vc g fr n (-1) 0 false) 52)).heap.size by simp)
  clear h BA h1 h2 hb0
  unfold vc at HV HSZ
  go_enter Try.func8, Try.ntmps8
  go_wp2_with (go_at_call 22; refine (size_any D.out).mono ?_; rintro e w1 ⟨rfl, rfl⟩)
  go_ret2
  exact ⟨rfl, HV.out, HSZ.out⟩
theorem fuse_ok {B p g o : Nat} {v : Value} {L : List ByteArray} {W : List S79} {fr n fu st : Int} {w0 w : World} (h : VW B p g o v L W fr n fu st false w0 w) (hp : w0.heap.size ≤ p) (m : Int) (hm : 0 ≤ m) : Calls Try.prog 9 #[.pointer (some ⟨p, 0, none⟩), .int .i64 m] w fun e w' => e = .returned (.tuple #[]) ∧ VW B p g o v L W fr n m st false w0 w' ∧ w.heap.size ≤ w'.heap.size := by
  have HV := Lib.hid (h.set3 hp m)
  have HSZ := Lib.hid (show w.heap.size ≤ (w.setCell ⟨p, 3, none⟩ (.int .i64 m)).heap.size by simp)
  have c5 := h.c5
  have c3 := h.c3
  have f3 := blk_free h.v 3
  have e : max m (-1) = m := by omega
  clear h
  go_enter Try.func9, Try.ntmps9
  go_wp2
  refine bodyPost_end (v := .tuple #[]) (by simp [results, Try.results9, go_sem]) rfl ?_
  exact ⟨rfl, HV.out, HSZ.out⟩
end Go.Proofs.Ytekcidfipdjfdaa.Own
