/- The walks of record.Size and of Bytes. -/
import Derived.Test.YtmkipdleggkkkaaP9
import Derived.Test.YtmkipdleggkkkaaPSizeB
namespace Go.Proofs.Ytmkipdleggkkkaa.Own
open Go.RowKit Go.Proofs.YtmkipdleggkkkaaW.PrintWords Go.Proofs.YtmkipdleggkkkaaW.PrintLast Go.Proofs.YtmkipdleggkkkaaW.PrintMore
set_option maxRecDepth 100000
set_option linter.unusedSimpArgs false
set_option linter.unusedVariables false
theorem size_any (x : PB.S45) (w : World) : Calls Try.prog 29 #[.agg #[.int .i64 x.f0, .int .i64 x.f1, .string x.f2, .string x.f3, .bool x.f4, .int .i64 x.f5, .int .i64 x.f6, .int .i64 x.f7]] w fun e w' => e = .returned (.int .i64 (PuB.szR x)) ∧ Below w.heap.size w w' := by
  obtain ⟨k, hk⟩ := Ev.rounds (PuB.recSize_ev x)
  exact PB.record_Size.calls k _ _ _ _ _ _ _ _ _ w hk
/-- How many bytes records have. -/
def sumS (l : List PB.S45) (n : Int) : Int := l.foldl (fun n x => wrap64 (n + PuB.szR x)) n
theorem sumS_take (l : List PB.S45) (k : Nat) (hk : k < l.length) : sumS (l.take (k + 1)) 0 = wrap64 (sumS (l.take k) 0 + PuB.szR (PB.rd_T45 l (k : Int))) := by
  rw [List.take_succ_eq_append_getElem hk, sumS, List.foldl_append, rd_get l k hk]
  rfl
theorem bytes_any {B g : Nat} {v : Value} {l : List PB.S45} {st nx mk : Int} {w : World} (h : PS B g v l st nx mk w) (hl : l.length ≤ 60000) : Calls Try.prog 15 #[.pointer (some ⟨g, 0, none⟩)] w fun e w' => e = .returned (.int .i64 (sumS l 0)) ∧ Below w.heap.size w w' := by
  go_enter Try.func15, Try.ntmps15
  go_wp2_with fail
  refine (all_any h hl).mono ?_
  rintro e w2 ⟨u, rfl, hR, b2⟩
  obtain ⟨A, c, rfl⟩ := Kd.R_slice hR
  have hC := Kd.R_reads' hR
  have HC := Lib.hid hC.2.2
  have hc := hC.2.1
  have B2 := Lib.hid b2
  clear hC hR b2 h
  go_wp2_with fail
  go_loopw [3, 9] (fun n i wr => ∃ k : Nat, k ≤ l.length ∧ i = .int .i64 k ∧ n = .int .i64 (sumS (l.take k) 0) ∧ Below w2.heap.size w2 wr) (fun _ i _ => l.length - (intOf i).toNat)
  case atStart => exact ⟨0, Nat.zero_le _, rfl, by rw [List.take_zero]; rfl, Below.refl _ _⟩
  case round =>
    obtain ⟨k, hk, rfl, rfl, bel⟩ := hrel
    have Bel := Lib.hid bel; clear bel
    by_cases hlt : k < l.length
    · have p1 : (0 : Int) ≤ (k : Int) := Int.natCast_nonneg _
      have p2 : (k : Int) < (l.length : Int) := by omega
      have hd := sumS_take l k hlt
      have hw : wrap64 ((k : Int) + 1) = ((k + 1 : Nat) : Int) := by unfold wrap64; omega
      obtain ⟨ad, e1, x0, x1, x2, x3, x4, x5, x6, x7⟩ := PB.at_T45 (Kd.C_below HC.out Bel.out) (k : Int) p1 p2
      cases e1
      rw [Int.toNat_natCast] at x0 x1 x2 x3 x4 x5 x6 x7
      generalize PB.rd_T45 l (k : Int) = x at *
      generalize sumS (l.take k) 0 = s at *
      have Hd := Lib.hid hd; clear hd
      go_wp2_with fail
      refine (size_any x _).mono ?_
      rintro e w4 ⟨rfl, b4⟩
      have B4 := Lib.hid (below_two (below_two Bel.out ((Below.refl _ _).alloc (Nat.le_refl _) _)) b4); clear b4
      clear x0 x1 x2 x3 x4 x5 x6 x7
      go_wp2
      go_roundw
      case rel => exact ⟨k + 1, by omega, by go_num, by rw [Hd.out], B4.out⟩
      case measure => simp [intOf]; omega
    · obtain rfl : k = l.length := by omega
      have p2 : ¬ (l.length : Int) < (l.length : Int) := by omega
      go_wp2
      go_ret
      exact ⟨rfl, below_two B2.out Bel.out⟩
end Go.Proofs.Ytmkipdleggkkkaa.Own
