/- A slice of records that came in, as the printed contracts read it. -/
import Derived.Test.YtakbgaiedenikaaTypes3
import Derived.Test.YtakbgaiedenikaaPBx2
namespace Go.Proofs.Ytakbgaiedenikaa.Pu
open Go.RowKit Go.WideShapes Go.Proofs.YtakbgaiedenikaaW.PrintWords Go.Proofs.Ytakbgaiedenikaa.PB
set_option linter.unusedSimpArgs false
def recS (r : Own.Rec) : S54 := ⟨r.offset, r.tick, r.key, r.value, r.gone, r.producer, r.seq, r.from_⟩
theorem recs_read {w : World} {a : Option Addr} {n : Nat} {l : List Own.Rec} (h : Own.Row w 8 Own.Rec.cells a n l) : Kd.C k54 w a n (l.map recS) := by
  obtain ⟨hl, hm, hr⟩ := h
  refine ⟨by simp [hl], by simpa [maxLen] using hm, fun hp => ?_⟩
  obtain ⟨b, off, ha, _, hc⟩ := hr hp
  refine ⟨⟨b, off, none⟩, ha, fun j p hj => ?_⟩
  rw [List.getElem?_map] at hj
  cases hlj : l[j]? with
  | none => rw [hlj] at hj; cases hj
  | some r =>
    rw [hlj] at hj
    cases hj
    obtain ⟨hlt, rfl⟩ := List.getElem?_eq_some_iff.1 hlj
    refine ⟨l[j].cells, rfl, k54_mk w (recS l[j]), fun i u hi => ?_⟩
    have hil : i < l[j].cells.length := (List.getElem?_eq_some_iff.1 hi).1
    have := hc j hlt i hil
    rw [Go.WideShapes.add_plain, ← Nat.add_assoc]
    exact this.trans hi
theorem strs_read {w : World} {a : Option Addr} {n : Nat} {l : List ByteArray} (h : Own.Row w 1 (fun s => [Value.string s]) a n l) : Kd.C Kd.string w a n l := by
  obtain ⟨hl, hm, hr⟩ := h
  refine ⟨by simp [hl], by simpa [maxLen] using hm, fun hp => ?_⟩
  obtain ⟨b, off, ha, _, hc⟩ := hr hp
  refine ⟨⟨b, off, none⟩, ha, fun j p hj => ?_⟩
  obtain ⟨hlt, rfl⟩ := List.getElem?_eq_some_iff.1 hj
  refine ⟨[.string l[j]], rfl, rfl, fun i u hi => ?_⟩
  have hil : i < 1 := (List.getElem?_eq_some_iff.1 hi).1
  have := hc j hlt i hil
  rw [Go.WideShapes.add_plain, ← Nat.add_assoc]
  exact this.trans hi
theorem ints_read {w : World} {a : Option Addr} {n : Nat} {l : List Int} (h : Own.Row w 1 (fun z => [Value.int .i64 z]) a n l) : Kd.C (Kd.int .i64) w a n l := by
  obtain ⟨hl, hm, hr⟩ := h
  refine ⟨by simp [hl], by simpa [maxLen] using hm, fun hp => ?_⟩
  obtain ⟨b, off, ha, _, hc⟩ := hr hp
  refine ⟨⟨b, off, none⟩, ha, fun j p hj => ?_⟩
  obtain ⟨hlt, rfl⟩ := List.getElem?_eq_some_iff.1 hj
  refine ⟨[.int .i64 l[j]], rfl, rfl, fun i u hi => ?_⟩
  have hil : i < 1 := (List.getElem?_eq_some_iff.1 hi).1
  have := hc j hlt i hil
  rw [Go.WideShapes.add_plain, ← Nat.add_assoc]
  exact this.trans hi
end Go.Proofs.Ytakbgaiedenikaa.Pu
