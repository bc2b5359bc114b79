/- The document's bytes of a record. -/
import Derived.Test.YtakbgaiedenikaaMay
import Derived.Test.YtakbgaiedenikaaPBx7
namespace Go.Proofs.Ytakbgaiedenikaa.Pu
open Go.RowKit Go.Proofs.YtakbgaiedenikaaW.PrintWords Go.Proofs.YtakbgaiedenikaaW.PrintMore Go.Proofs.Ytakbgaiedenikaa.PB
set_option linter.unusedSimpArgs false
set_option linter.unusedVariables false
theorem u64_id {a : Int} (h0 : 0 ≤ a) (h1 : a < 18446744073709551616) : IntKind.u64.wrap a = a := IntWalk.u64_in _ (by omega)
theorem byte1 (v : Nat) (h : v < 256) : strOfNums [((v : Int)) % 256] = Own.sB [UInt8.ofNat v] := by
  rw [show ((v : Int)) % 256 = (v : Int) by omega]
  rfl
theorem refChain_ev (v : Nat) : v < 18446744073709551616 → Ev (fun k => weighlockref01_Chain.f k (v : Int)) (Own.sB (Own.chainL v)) := by
  induction v using Nat.strongRecOn with
  | ind v ih =>
    intro hv
    by_cases h : v < 128
    · refine Ev.step (fun k => weighlockref01_Chain.f.eq_2 ..) (Ev.pos (by omega) (Ev.get (Ev.now _) ?_))
      rw [Own.chainL_lt h, byte1 v (by omega)]
    · have e1 : IntKind.u64.wrap (Int.tdiv (v : Int) 128) = ((v / 128 : Nat) : Int) := by
        rw [Int.tdiv_eq_ediv_of_nonneg (by omega), u64_id (by omega) (by omega)]; omega
      have e2 : IntKind.u64.wrap (128 + Int.tmod (v : Int) 128) = ((v % 128 + 128 : Nat) : Int) := by
        rw [Int.tmod_eq_emod_of_nonneg (by omega), u64_id (by omega) (by omega)]; omega
      refine Ev.step (fun k => weighlockref01_Chain.f.eq_2 ..) (Ev.neg (by omega) ?_)
      simp only [e1, e2, Option.bind_some]
      have hl := Own.chainL_len10 (v := v / 128) (by omega)
      refine Ev.bind (ih (v / 128) (by omega) (by omega)) (Ev.pos ?_ (Ev.get (Ev.now _) ?_))
      · rw [strOfNums_size, Own.sB_size]; simp; omega
      · rw [byte1 _ (by omega), Own.sB_append, Own.chainL_ge (v := v) (by omega)]; rfl
theorem refchain_ev (a : Int) (h0 : 0 ≤ a) (h1 : a ≤ 1099511627776) : Ev (fun k => weighlockref16_chain.f k a) (Own.sB (Own.chainL a.toNat)) := by
  obtain ⟨n, rfl⟩ := Int.eq_ofNat_of_zero_le h0
  unfold weighlockref16_chain.f
  rw [u64_id h0 (by omega)]
  exact Ev.bind (refChain_ev n (by omega)) (Ev.now _)
theorem refText_ev (t : ByteArray) (h : t.size ≤ 1000) : Ev (fun k => weighlockref01_Text.f k t) (Own.sB (Own.textL t)) := by
  unfold weighlockref01_Text.f
  rw [u64_id (by omega) (by omega)]
  have hl := Own.chainL_len10 (v := t.size) (by omega)
  refine Ev.bind (refChain_ev t.size (by omega)) (Ev.pos (by rw [Own.sB_size]; omega) (Ev.get (Ev.now _) ?_))
  rw [Own.textL, ← Own.sB_append, Own.sB_of]
theorem refEnc_ev (x0 x1 : Int) (x2 x3 : ByteArray) (x4 : Bool) (x5 x6 x7 : Int) (h : PuB.mayB ⟨x0, x1, x2, x3, x4, x5, x6, x7⟩ = true) : Ev (fun k => weighlockref16_Encode.f k x0 x1 x2 x3 x4 x5 x6 x7) (Own.sB (Own.recL x0.toNat x1.toNat x5.toNat x6.toNat x7.toNat x4 x2 x3)) := by
  rw [PuB.mayB_iff] at h
  obtain ⟨⟨a, b⟩, ⟨c, d⟩, ⟨e, f⟩, ⟨g, i⟩, ⟨j, l⟩, m⟩ := h
  rw [PuB.restB_iff] at m
  simp only at *
  obtain ⟨_, m1, m2, _⟩ := m
  have key : Ev (fun k => weighlockref16_Encode.j0 k (Own.sB (Own.chainL (if x4 then 1 else 0))) x0 x1 x2 x3 x4 x5 x6 x7) (Own.sB (Own.recL x0.toNat x1.toNat x5.toNat x6.toNat x7.toNat x4 x2 x3)) := by
    have l0 := Own.chainL_len10 (v := x0.toNat) (by omega)
    have l1 := Own.chainL_len10 (v := x1.toNat) (by omega)
    have l5 := Own.chainL_len10 (v := x5.toNat) (by omega)
    have l6 := Own.chainL_len10 (v := x6.toNat) (by omega)
    have l7 := Own.chainL_len10 (v := x7.toNat) (by omega)
    have l4 := Own.chainL_len10 (v := if x4 then 1 else 0) (by split <;> omega)
    have t2 := Own.textL_length x2 (by omega)
    have t3 := Own.textL_length x3 (by omega)
    refine Ev.step (fun k => weighlockref16_Encode.j0.eq_2 ..) ?_
    refine Ev.bind (refchain_ev x0 a (by omega)) (Ev.bind (refchain_ev x1 c d) (Ev.pos ?_ (Ev.bind (refchain_ev x5 e f) (Ev.pos ?_ (Ev.bind (refchain_ev x6 g i) (Ev.pos ?_ (Ev.bind (refchain_ev x7 j l) (Ev.pos ?_ (Ev.pos ?_ (Ev.bind (refText_ev x2 (by omega)) (Ev.pos ?_ (Ev.bind (refText_ev x3 (by omega)) (Ev.pos ?_ (Ev.get (Ev.now _) ?_))))))))))))))
    all_goals try simp only [Own.sB_append]
    all_goals try (simp only [Own.sB_size, List.length_append]; omega)
    rfl
  unfold weighlockref16_Encode.f
  cases x4
  · refine Ev.neg (by decide) ?_
    have e : Own.sB (Own.chainL (if false = true then 1 else 0)) = (⟨#[0]⟩ : ByteArray) := by rw [if_neg (by decide), Own.chainL_lt (by decide)]; rfl
    rwa [e] at key
  · refine Ev.pos rfl ?_
    have e : Own.sB (Own.chainL (if true = true then 1 else 0)) = (⟨#[1]⟩ : ByteArray) := by rw [if_pos rfl, Own.chainL_lt (by decide)]; rfl
    rwa [e] at key
end Go.Proofs.Ytakbgaiedenikaa.Pu
