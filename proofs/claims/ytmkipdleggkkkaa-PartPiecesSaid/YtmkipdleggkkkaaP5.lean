/- The walks of a partition's small functions. -/
import Derived.Test.YtmkipdleggkkkaaP4
namespace Go.Proofs.Ytmkipdleggkkkaa.Own
open Go.RowKit Go.Proofs.YtmkipdleggkkkaaW.PrintWords
set_option maxRecDepth 100000
set_option linter.unusedSimpArgs false
set_option linter.unusedVariables false
theorem PS.len {B g : Nat} {v : Value} {l : List PB.S45} {st nx mk : Int} {w : World} (h : PS B g v l st nx mk w) : ∃ A c, v = .slice A l.length c ∧ l.length ≤ c ∧ Kd.C PB.k45 w A l.length l := by
  obtain ⟨A, c, e⟩ := Kd.R_slice h.row
  subst e
  have := Kd.R_reads' h.row
  exact ⟨A, c, rfl, this.2.1, this.2.2⟩
theorem new_any (B : Nat) (w : World) (hB : B ≤ w.heap.size) : Calls Try.prog 8 #[] w fun e w' => ∃ g, e = .returned (.pointer (some ⟨g, 0, none⟩)) ∧ g = w.heap.size ∧ PS B g (.slice none 0 0) [] 0 0 0 w' ∧ Below w.heap.size w w' := by
  go_enter Try.func8, Try.ntmps8
  go_wp2
  refine bodyPost_ret (v := .pointer (some ⟨w.heap.size, 0, none⟩)) (by simp [results, Try.results8, go_sem]) rfl ?_
  exact ⟨w.heap.size, rfl, rfl, ⟨heap_new _ _, hB, Kd.R_nil _ _ _ _ _⟩, (Below.refl _ _).alloc (Nat.le_refl _) _⟩
theorem next_any {B g : Nat} {v : Value} {l : List PB.S45} {st nx mk : Int} {w : World} (h : PS B g v l st nx mk w) : Calls Try.prog 13 #[.pointer (some ⟨g, 0, none⟩)] w fun e w' => e = .returned (.int .i64 nx) ∧ Below w.heap.size w w' := by
  have q := blk_cell h.blk 2
  simp at q
  go_enter Try.func13, Try.ntmps13
  go_wp2
  go_ret
  exact ⟨rfl, Below.refl _ _⟩
theorem seen_any {B g : Nat} {v : Value} {l : List PB.S45} {st nx mk : Int} {w : World} (h : PS B g v l st nx mk w) : Calls Try.prog 14 #[.pointer (some ⟨g, 0, none⟩)] w fun e w' => e = .returned (.int .i64 mk) ∧ Below w.heap.size w w' := by
  have q := blk_cell h.blk 3
  simp at q
  go_enter Try.func14, Try.ntmps14
  go_wp2
  go_ret
  exact ⟨rfl, Below.refl _ _⟩
theorem start_any {B g : Nat} {v : Value} {l : List PB.S45} {st nx mk : Int} {w : World} (h : PS B g v l st nx mk w) : Calls Try.prog 20 #[.pointer (some ⟨g, 0, none⟩)] w fun e w' => e = .returned (.int .i64 st) ∧ Below w.heap.size w w' := by
  have q := blk_cell h.blk 1
  simp at q
  go_enter Try.func20, Try.ntmps20
  go_wp2
  go_ret
  exact ⟨rfl, Below.refl _ _⟩
theorem mark_any {B g : Nat} {v : Value} {l : List PB.S45} {st nx mk : Int} {w : World} (h : PS B g v l st nx mk w) : Calls Try.prog 10 #[.pointer (some ⟨g, 0, none⟩)] w fun e w' => e = .returned (.tuple #[]) ∧ PS B g v l st nx nx w' ∧ Fr g v w w' := by
  have H := Lib.hid h
  have q := blk_cell h.blk 2
  have q3 := blk_cell h.blk 3
  have f3 := blk_free h.blk 3
  simp at q q3
  clear h
  go_enter Try.func10, Try.ntmps10
  go_wp2
  refine bodyPost_end (v := .tuple #[]) (by simp [results, Try.results10, go_sem]) rfl ?_
  refine ⟨rfl, ⟨?_, H.out.lo, Kd.R_far H.out.row (fun k hk => hk) _⟩, Fr.set (Fr.refl _ _ _) _ _⟩
  exact heap_set H.out.blk (i := 3) (.int .i64 nx)
theorem set_state {B g : Nat} {v : Value} {l : List PB.S45} {st nx mk : Int} {w : World} (h : PS B g v l st nx mk w) (a b : Int) (hl : 0 < l.length ∨ nx ≠ 0) :
    Calls Try.prog 24 #[.pointer (some ⟨g, 0, none⟩), .int .i64 a, .int .i64 b] w fun e w' => e = .returned (.int .i64 7) ∧ Below w.heap.size w w' := by
  obtain ⟨A, c, rfl, hc, hC⟩ := h.len
  have q := blk_cell h.blk 0
  have q2 := blk_cell h.blk 2
  simp at q q2
  by_cases h0 : 0 < l.length
  · have e1 : decide ((l.length : Int) > 0) = true := by rw [decide_eq_true_iff]; omega
    have e2 : (0 : Int) < (l.length : Int) := by omega
    have e3 : ¬ l.length = 0 := by omega
    clear hl hC
    go_enter Try.func24, Try.ntmps24
    go_wp2
    all_goals go_ret
    all_goals exact ⟨rfl, Below.refl _ _⟩
  · have e1 : decide ((l.length : Int) > 0) = false := by rw [decide_eq_false_iff_not]; omega
    have e2 : ¬ (0 : Int) < (l.length : Int) := by omega
    have e3 : l.length = 0 := by omega
    have e4 : (nx != 0) = true := by rw [bne_iff_ne]; rcases hl with h | h; exact absurd h h0; exact h
    have e5 : ¬ nx = 0 := by rwa [bne_iff_ne] at e4
    clear hl hC
    go_enter Try.func24, Try.ntmps24
    go_wp2
    all_goals go_ret
    all_goals exact ⟨rfl, Below.refl _ _⟩
theorem set_arg {B g : Nat} {v : Value} {st mk : Int} {w : World} (h : PS B g v [] st 0 mk w) (a b : Int) (hl : a < 0 ∨ a > b ∨ b > 1048577) :
    Calls Try.prog 24 #[.pointer (some ⟨g, 0, none⟩), .int .i64 a, .int .i64 b] w fun e w' => e = .returned (.int .i64 1) ∧ Below w.heap.size w w' := by
  obtain ⟨A, c, rfl, hc, hC⟩ := h.len
  have q := blk_cell h.blk 0
  have q2 := blk_cell h.blk 2
  simp at q q2
  by_cases h0 : a < 0
  · clear hl hC
    go_enter Try.func24, Try.ntmps24
    go_wp2
    all_goals go_ret
    all_goals exact ⟨rfl, Below.refl _ _⟩
  · by_cases h1 : a > b
    · clear hl hC
      go_enter Try.func24, Try.ntmps24
      go_wp2
      all_goals go_ret
      all_goals exact ⟨rfl, Below.refl _ _⟩
    · have h2 : b > 1048577 := by omega
      clear hl hC
      go_enter Try.func24, Try.ntmps24
      go_wp2
      all_goals go_ret
      all_goals exact ⟨rfl, Below.refl _ _⟩
theorem set_ok {B g : Nat} {v : Value} {st mk : Int} {w : World} (h : PS B g v [] st 0 mk w) (a b : Int) (h0 : 0 ≤ a) (h1 : a ≤ b) (h2 : b ≤ 1048577) :
    Calls Try.prog 24 #[.pointer (some ⟨g, 0, none⟩), .int .i64 a, .int .i64 b] w fun e w' => e = .returned (.int .i64 0) ∧ PS B g v [] a b b w' ∧ Fr g v w w' := by
  have H := Lib.hid h
  obtain ⟨A, c, rfl, hc, hC⟩ := h.len
  have q := blk_cell h.blk 0
  have q1 := blk_cell h.blk 1
  have q2 := blk_cell h.blk 2
  have q3 := blk_cell h.blk 3
  have f1 := blk_free h.blk 1
  have f2 := blk_free h.blk 2
  have f3 := blk_free h.blk 3
  simp at q q1 q2 q3
  clear hC h
  go_enter Try.func24, Try.ntmps24
  go_wp2
  go_ret
  refine ⟨rfl, ⟨?_, H.out.lo, ?_⟩, Fr.set (Fr.set (Fr.set (Fr.refl _ _ _) _ _) _ _) _ _⟩
  · exact heap_set (heap_set (heap_set H.out.blk (i := 1) (.int .i64 a)) (i := 2) (.int .i64 b)) (i := 3) (.int .i64 b)
  · exact Kd.R_far (Kd.R_far (Kd.R_far H.out.row (fun k hk => hk) _) (fun k hk => hk) _) (fun k hk => hk) _
theorem all_any {B g : Nat} {v : Value} {l : List PB.S45} {st nx mk : Int} {w : World} (h : PS B g v l st nx mk w) (hl : l.length ≤ 60000) : Calls Try.prog 12 #[.pointer (some ⟨g, 0, none⟩)] w fun e w' => ∃ u, e = .returned u ∧ Kd.R PB.k45 45 w' w.heap.size (fun _ => True) u l ∧ Below w.heap.size w w' := by
  obtain ⟨A, c, rfl, hc, hC⟩ := h.len
  have q := blk_cell h.blk 0
  simp at q
  go_enter Try.func12, Try.ntmps12
  go_wp2_with fail
  refine (clone_any A c l _ hC hc hl).mono ?_
  rintro e w2 ⟨u, rfl, hR, b2⟩
  go_wp2
  refine bodyPost_ret (v := u) (by simp [results, Try.results12, go_sem]) rfl ?_
  exact ⟨u, rfl, hR, b2⟩
end Go.Proofs.Ytmkipdleggkkkaa.Own
