/- The walks of sort.Search and find. -/
import Derived.Test.YtmkipdleggkkkaaP5
namespace Go.Proofs.Ytmkipdleggkkkaa.Own
open Go.RowKit Go.Proofs.YtmkipdleggkkkaaW.PrintWords
set_option maxRecDepth 100000
set_option linter.unusedSimpArgs false
set_option linter.unusedVariables false
theorem less_any {B g : Nat} {v : Value} {l : List PB.S45} {st nx mk : Int} {w : World} (h : PS B g v l st nx mk w) (bp bx : Nat) (x : Int) (i : Nat) (hi : i < l.length)
    (hp : w.heap[bp]? = some (.cells #[.pointer (some ⟨g, 0, none⟩)] 24 (0, 0))) (hx : w.heap[bx]? = some (.cells #[.int .i64 x] 3 (0, 0))) :
    Calls Try.prog 44 #[.int .i64 (i : Int), .pointer (some ⟨bp, 0, none⟩), .pointer (some ⟨bx, 0, none⟩)] w fun e w' => e = .returned (.bool (decide ((PB.rd_T45 l (i : Int)).f0 ≥ x))) ∧ Below w.heap.size w w' := by
  obtain ⟨A, c, rfl, hc, hC⟩ := h.len
  have q := blk_cell h.blk 0
  have q2 := blk_cell hp 0
  have q3 := blk_cell hx 0
  simp at q q2 q3
  have p1 : (0 : Int) ≤ (i : Int) := Int.natCast_nonneg _
  have p2 : (i : Int) < (l.length : Int) := by omega
  obtain ⟨ad, e1, x0, _⟩ := PB.at_T45 hC (i : Int) p1 p2
  cases e1
  rw [Int.toNat_natCast] at x0
  generalize PB.rd_T45 l (i : Int) = y at *
  go_enter Try.func44, Try.ntmps44
  go_wp2_with fail
  go_quiet (fail)
  go_wp2
  go_ret
  exact ⟨rfl, by first | exact Below.refl _ _ | exact pw_below_drewN (Below.refl _ _) _ | exact (Below.refl _ _).drew⟩
def cutAt (l : List PB.S45) (x : Int) (m : Nat) : Prop := m ≤ l.length ∧ (∀ t, t < m → (PB.rd_T45 l (t : Int)).f0 < x) ∧ (∀ t, m ≤ t → t < l.length → x ≤ (PB.rd_T45 l (t : Int)).f0)
def risen (l : List PB.S45) : Prop := ∀ a b, a < b → b < l.length → (PB.rd_T45 l (a : Int)).f0 < (PB.rd_T45 l (b : Int)).f0
theorem search_any {B g : Nat} {v : Value} {l : List PB.S45} {st nx mk : Int} {w : World} (h : PS B g v l st nx mk w) (bp bx : Nat) (x : Int)
    (hp : w.heap[bp]? = some (.cells #[.pointer (some ⟨g, 0, none⟩)] 24 (0, 0))) (hx : w.heap[bx]? = some (.cells #[.int .i64 x] 3 (0, 0))) (hl : l.length ≤ 60000) (hs : risen l) :
    Calls Try.prog 43 #[.int .i64 (l.length : Int), .func (.func 44) #[] #[.pointer (some ⟨bp, 0, none⟩), .pointer (some ⟨bx, 0, none⟩)]] w fun e w' => (∃ m : Nat, e = .returned (.int .i64 (m : Int)) ∧ cutAt l x m) ∧ Below w.heap.size w w' := by
  have H := Lib.hid h
  have HP := Lib.hid hp
  have HX := Lib.hid hx
  have HS := Lib.hid hs
  clear h hp hx hs
  go_enter Try.func43, Try.ntmps43
  go_wp2_with fail
  go_loopw [5, 6] (fun i j wr => ∃ a b : Nat, a ≤ b ∧ b ≤ l.length ∧ i = .int .i64 (a : Int) ∧ j = .int .i64 (b : Int) ∧ (∀ t, t < a → (PB.rd_T45 l (t : Int)).f0 < x) ∧ (∀ t, b ≤ t → t < l.length → x ≤ (PB.rd_T45 l (t : Int)).f0) ∧ Below w.heap.size w wr) (fun i j _ => (intOf j).toNat - (intOf i).toNat)
  case atStart => exact ⟨0, l.length, Nat.zero_le _, Nat.le_refl _, rfl, rfl, by intro t ht; omega, by intro t h1 h2; omega, Below.refl _ _⟩
  case round =>
    obtain ⟨a, b, hab, hb, rfl, rfl, h1, h2, bel⟩ := hrel
    have Bel := Lib.hid bel; clear bel
    have H1 := Lib.hid h1; clear h1
    have H2 := Lib.hid h2; clear h2
    by_cases hlt : a < b
    · obtain ⟨m, hm⟩ : ∃ m : Nat, m = (a + b) / 2 := ⟨_, rfl⟩
      have hm1 : a ≤ m := by omega
      have hm2 : m < b := by omega
      have p1 : (a : Int) < (b : Int) := by omega
      have e1 : ((a : Int) + (b : Int)) / 2 = (m : Int) := by omega
      have e0 : (0 : Int) ≤ (a : Int) + (b : Int) := by omega
      have e2 : wrap64 ((m : Int) + 1) = ((m + 1 : Nat) : Int) := by unfold wrap64; omega
      have e3 : wrap64 ((a : Int) + (b : Int)) = (a : Int) + (b : Int) := by unfold wrap64; omega
      clear hm
      go_wp2_with fail
      refine (less_any (H.out.below Bel.out) bp bx x m (by omega) (blk_below HP.out Bel.out) (blk_below HX.out Bel.out)).mono ?_
      rintro e w2 ⟨rfl, b2⟩
      have B2 := Lib.hid (below_two Bel.out b2); clear b2
      by_cases hc : (PB.rd_T45 l (m : Int)).f0 ≥ x
      · have c1 : decide ((PB.rd_T45 l (m : Int)).f0 ≥ x) = true := decide_eq_true hc
        rw [c1]
        have HC := Lib.hid hc; clear hc c1
        go_wp2
        go_roundw
        case rel =>
          refine ⟨a, m, hm1, by omega, rfl, rfl, H1.out, fun t t1 t2 => ?_, B2.out⟩
          rcases Nat.lt_or_ge m t with h | h
          · exact Int.le_of_lt (Int.lt_of_le_of_lt HC.out (HS.out m t h t2))
          · obtain rfl : t = m := by omega
            exact HC.out
        case measure => simp [intOf]; omega
      · have c1 : decide ((PB.rd_T45 l (m : Int)).f0 ≥ x) = false := decide_eq_false hc
        rw [c1]
        have HC := Lib.hid hc; clear hc c1
        go_wp2
        go_roundw
        case rel =>
          refine ⟨m + 1, b, by omega, hb, by go_num, rfl, fun t t1 => ?_, H2.out, B2.out⟩
          have hcl : (PB.rd_T45 l (m : Int)).f0 < x := by have := HC.out; omega
          rcases Nat.lt_or_ge t m with h | h
          · exact Int.lt_trans (HS.out t m h (by omega)) hcl
          · obtain rfl : t = m := by omega
            exact hcl
        case measure => simp [intOf]; omega
    · obtain rfl : a = b := by omega
      have p1 : ¬ (a : Int) < (a : Int) := by omega
      go_wp2
      go_ret
      exact ⟨⟨a, rfl, hb, H1.out, H2.out⟩, Bel.out⟩
theorem find_any {B g : Nat} {v : Value} {l : List PB.S45} {st nx mk : Int} {w : World} (h : PS B g v l st nx mk w) (x : Int) (hl : l.length ≤ 60000) (hs : risen l) :
    Calls Try.prog 36 #[.pointer (some ⟨g, 0, none⟩), .int .i64 x] w fun e w' => (∃ m : Nat, e = .returned (.int .i64 (m : Int)) ∧ cutAt l x m) ∧ Below w.heap.size w w' := by
  have H := Lib.hid h
  obtain ⟨A, c, rfl, hc, hC⟩ := h.len
  have q := blk_cell h.blk 0
  simp at q
  have hgl := blk_lt h.blk
  have n1 : ¬ g = w.heap.size := by omega
  have n2 : ¬ g = w.heap.size + 1 := by omega
  have n3 : ¬ w.heap.size = g := by omega
  have n4 : ¬ w.heap.size + 1 = g := by omega
  clear h hC
  go_enter Try.func36, Try.ntmps36
  go_wp2_with fail
  have b1 : Below w.heap.size w ((w.alloc (.cells #[.pointer (some ⟨g, 0, none⟩)] 24)).alloc (.cells #[.int .i64 x] 3)) := ((Below.refl _ _).alloc (Nat.le_refl _) _).alloc (by simp) _
  refine (search_any (H.out.below b1) w.heap.size (w.heap.size + 1) x ?_ ?_ hl hs).mono ?_
  · rw [heap_old _ _ (by simp), heap_new]
  · simpa using heap_new (w.alloc (.cells #[.pointer (some ⟨g, 0, none⟩)] 24)) (.cells #[.int .i64 x] 3)
  rintro e w2 ⟨⟨m, rfl, hm⟩, b2⟩
  have B2 := Lib.hid (below_two b1 b2)
  have HM := Lib.hid hm
  clear b1 b2 hm
  go_wp2
  go_ret
  exact ⟨⟨m, rfl, HM.out⟩, B2.out⟩
end Go.Proofs.Ytmkipdleggkkkaa.Own
