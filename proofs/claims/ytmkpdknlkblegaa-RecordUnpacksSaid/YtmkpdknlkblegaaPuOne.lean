/- The record that the laws go through besides. -/
import Derived.Test.YtmkpdknlkblegaaPuDec
namespace Go.Proofs.Ytmkpdknlkblegaa.Pu
open Go.RowKit Go.Proofs.YtmkpdknlkblegaaW.PrintWords Go.Proofs.YtmkpdknlkblegaaW.PrintMore Go.Proofs.Ytmkpdknlkblegaa.PA
set_option linter.unusedSimpArgs false
set_option linter.unusedVariables false
def x1 : S23 := ⟨1, 2, ⟨#[97]⟩, ⟨#[98]⟩, false, 0, 0, 0⟩
theorem rec1 : recA x1 = [1, 2, 0, 0, 0, 0, 1, 97, 1, 98] := by
  rw [recA_flat]
  simp [x1, Own.textL, Own.chainL_lt, ByteArray.size]
theorem may1 : mayA x1 = true := by
  rw [may_iff]
  simp [x1, ByteArray.size]
theorem one_ev : Ev (fun k => weighlocklaw16_one.f k) true := by
  unfold weighlocklaw16_one.f
  have e1 := recEncode_eq x1
  rw [if_pos may1, rec1] at e1
  have e1' : record_Encode.f 1 2 (⟨#[97]⟩ : ByteArray) (⟨#[98]⟩ : ByteArray) false 0 0 0 = _ := e1
  have e2 := recSize_eq x1
  rw [if_pos may1, rec1] at e2
  have e2' : record_Size.f 1 2 (⟨#[97]⟩ : ByteArray) (⟨#[98]⟩ : ByteArray) false 0 0 0 = _ := e2
  have e3 : record_May.f 1 2 (⟨#[97]⟩ : ByteArray) (⟨#[98]⟩ : ByteArray) false 0 0 0 = some true := congrArg some may1
  have hb : ∀ l, Rd.bl (Own.sB l) = l := fun l => Own.sB_list l
  have e4 := decA_of (s := Own.sB [1, 2, 0, 0, 0, 0, 1, 97, 1, 98] ++ (⟨#[109, 111, 114, 101]⟩ : ByteArray)) (x := x1) (r := [109, 111, 114, 101]) (by
    rw [rec1]
    rw [show (⟨#[109, 111, 114, 101]⟩ : ByteArray) = Own.sB [109, 111, 114, 101] from rfl, Own.sB_append, hb]) may1
  rw [rec1] at e4
  have e5 := dec_eq (Own.sB [1, 2, 0, 0, 0, 0, 1, 97, 1, 98] ++ (⟨#[109, 111, 114, 101]⟩ : ByteArray)) (by rw [ByteArray.size_append, Own.sB_size]; decide)
  rw [e4] at e5
  have e6 := unpack_ok [x1] (Own.sB [1, 2, 0, 0, 0, 0, 1, 97, 1, 98]) (by rw [hb, cat, List.flatMap_cons, rec1]; rfl) (by simp) (by intro x hx; rw [List.mem_singleton.1 hx]; exact may1) (by intro m h; simp at h) (by simp) (by rw [Own.sB_size]; decide)
  simp only [e1', Option.bind_some, e2', e3]
  refine Ev.pos (by rw [Own.sB_size]; decide) ?_
  rw [e5]
  simp only [Option.bind_some]
  refine Ev.bind e6 ?_
  refine Ev.cst ?_
  have t1 : (Own.sB [1, 2, 0, 0, 0, 0, 1, 97, 1, 98]).toList = ([1, 2, 0, 0, 0, 0, 1, 97, 1, 98] : List UInt8) := by rw [Go.ByteArray.toList_eq, Own.sB_list]
  have t2 : (⟨#[97]⟩ : ByteArray).toList = ([97] : List UInt8) := by rw [Go.ByteArray.toList_eq]
  have t3 : (⟨#[98]⟩ : ByteArray).toList = ([98] : List UInt8) := by rw [Go.ByteArray.toList_eq]
  simp [t1, t2, t3, x1]
theorem one_true {k : Nat} {r : Bool} (h : weighlocklaw16_one.f k = some r) : r = true := by
  obtain ⟨K, hK⟩ := one_ev
  obtain ⟨K2, hK2⟩ := Ev.of (g := fun k => weighlocklaw16_one.f k) (fun k => weighlocklaw16_one.mono k) h
  have h1 := hK (max K K2) (Nat.le_max_left _ _)
  have h2 := hK2 (max K K2) (Nat.le_max_right _ _)
  simp only at h1 h2
  rw [h1] at h2
  exact (Option.some.inj h2).symm
end Go.Proofs.Ytmkpdknlkblegaa.Pu
