/- The document's bytes of an answer. -/
import Derived.Test.YtakbgaiedenikaaPuBody
import Derived.Test.YtakbgaiedenikaaPBx9
namespace Go.Proofs.Ytakbgaiedenikaa.PuB
open Go.RowKit Go.Proofs.YtakbgaiedenikaaW.PrintWords Go.Proofs.Ytakbgaiedenikaa.Pu Go.Proofs.Ytakbgaiedenikaa.PB
set_option linter.unusedSimpArgs false
set_option linter.unusedVariables false
theorem u8_mod (v : Nat) : UInt8.ofNat (v % 256) = UInt8.ofNat v := by
  apply UInt8.toNat_inj.1
  rw [UInt8.toNat_ofNat', UInt8.toNat_ofNat']
  omega
theorem tbyte (v : Nat) : strOfNums [Int.tmod (v : Int) 256 % 256] = Own.sB [UInt8.ofNat v] := by
  rw [Int.tmod_eq_emod_of_nonneg (by omega), show ((v : Int) % 256) % 256 = ((v % 256 : Nat) : Int) % 256 by omega, byte1 _ (by omega), u8_mod]
theorem rfixed_ev (v : Nat) (h : v < 65536) : Ev (fun k => weighlockref01_Fixed.f k (v : Int) 2) (Own.sB (Own.fixL 2 v)) := by
  have e2 : Own.fixL 2 v = [UInt8.ofNat (v / 256), UInt8.ofNat v] := by rw [Own.fixL_cons, Own.fixL_cons]; simp [Own.fixL]
  have d1 : IntKind.u64.wrap (Int.tdiv (v : Int) 256) = ((v / 256 : Nat) : Int) := by
    rw [Int.tdiv_eq_ediv_of_nonneg (by omega), show (v : Int) / 256 = ((v / 256 : Nat) : Int) by omega]
    exact IntWalk.u64_in _ (by omega)
  unfold weighlockref01_Fixed.f
  refine Ev.step (fun k => weighlockref01_Fixed.l0.eq_2 ..) (Ev.pos (by decide) ?_)
  simp only [Option.bind_some, tbyte, d1]
  refine Ev.pos (by rw [Own.sB_size]; show 1 + 0 ≤ 9223372036854775807; omega) ?_
  have a1 : Own.sB [UInt8.ofNat v] ++ (⟨#[]⟩ : ByteArray) = Own.sB [UInt8.ofNat v] := Own.sB_append [UInt8.ofNat v] []
  rw [a1, show wrap64 ((0 : Int) + 1) = 1 by rw [wrap_id (by omega) (by omega)]; rfl]
  refine Ev.step (fun k => weighlockref01_Fixed.l0.eq_2 ..) (Ev.pos (by decide) ?_)
  simp only [Option.bind_some, tbyte]
  refine Ev.pos (by rw [Own.sB_size, Own.sB_size]; simp) ?_
  rw [Own.sB_append, show wrap64 ((1 : Int) + 1) = 2 by rw [wrap_id (by omega) (by omega)]; rfl]
  refine Ev.step (fun k => weighlockref01_Fixed.l0.eq_2 ..) (Ev.neg (by decide) (Ev.get (Ev.now _) ?_))
  rw [e2]; rfl
theorem two_bytes (k c : Nat) (hk : k ≤ 255) (hc : c ≤ 255) : strOfNums [(k : Int) % 256, (c : Int) % 256] = Own.sB (Own.fixL 1 k ++ Own.fixL 1 c) := by
  rw [Rd.fix1, Rd.fix1, show (k : Int) % 256 = (k : Int) by omega, show (c : Int) % 256 = (c : Int) by omega]
  rfl
theorem renc_ev (r : Rd.Ans) (hf : Rd.Fits r) (hs : ∀ x ∈ r.ns, x.size ≤ 300) : Ev (fun k => weighlockref35_Encode.f k (r.i : Int) (r.k : Int) (r.c : Int) (r.a : Int) (r.b : Int) r.rs r.ns r.ks) (Own.sB (Rd.outA r)) := by
  have hb := body_ev (r.i : Int) (r.k : Int) (r.c : Int) r.a r.b r.rs r.ns r.ks hf.ha hf.hb hf.hm hs hf.hz hf.h5 hf.h6 hf.h7
  have hl := hf.hl
  rw [Rd.outA_eq]
  unfold weighlockref35_Encode.f
  refine Ev.bind hb ?_
  generalize Own.bodyL r.a r.b r.rs r.ns r.ks = B at *
  have f2 : ∀ v, (Own.fixL 2 v).length = 2 := Own.fixL_length 2
  have f1 : ∀ v, (Own.fixL 1 v).length = 1 := Own.fixL_length 1
  have hi := hf.hi
  rw [IntWalk.u64_in (r.i : Int) (by omega)]
  refine Ev.bind (rfixed_ev r.i (by omega)) ?_
  simp only [Option.bind_some, two_bytes r.k r.c hf.hk hf.hc]
  refine Ev.pos (sB_room (by rw [f2]; omega) (by rw [List.length_append, f1, f1]; omega)) ?_
  have hw : IntKind.u64.wrap ((Own.sB B).size : Int) = (B.length : Int) := by rw [Own.sB_size]; exact IntWalk.u64_in _ (by omega)
  rw [hw]
  refine Ev.bind (rfixed_ev B.length (by omega)) ?_
  simp only [Own.sB_append]
  refine Ev.pos (sB_room (by simp only [List.length_append, f1, f2]; omega) (by rw [f2]; omega)) ?_
  refine Ev.pos (sB_room (by simp only [List.length_append, f1, f2]; omega) (by omega)) ?_
  have hz : wrap64 (600 - ((Own.sB (Own.fixL 2 r.i ++ (Own.fixL 1 r.k ++ Own.fixL 1 r.c) ++ Own.fixL 2 B.length ++ B)).size : Int)) = ((594 - B.length : Nat) : Int) := by
    rw [Own.sB_size]
    simp only [List.length_append, f1, f2]
    rw [wrap_id (by omega) (by omega)]
    omega
  rw [hz]
  refine Ev.pos (by omega) (Ev.pos (by omega) ?_)
  rw [Int.toNat_natCast, strOf_zero]
  refine Ev.pos (sB_room (by simp only [List.length_append, f1, f2]; omega) (by rw [List.length_replicate]; omega)) ?_
  rw [Own.sB_append]
  refine Ev.get (Ev.now _) ?_
  simp only [List.append_assoc]
end Go.Proofs.Ytakbgaiedenikaa.PuB
