/- Answers that are there from some number of rounds on: small laws. -/
import Derived.Test.YtmkipdleggkkkaaWMore
import Derived.Test.YtmkipdleggkkkaaWWords
namespace Go.Proofs.Ytmkipdleggkkkaa.Pu
open Go.RowKit Go.Proofs.YtmkipdleggkkkaaW.PrintWords
theorem Ev.pos {α : Type} {c : Prop} [Decidable c] {f g : Nat → Option α} {r : α} (hc : c) (h : Ev f r) : Ev (fun k => if c then f k else g k) r := Ev.congr (fun k => by rw [if_pos hc]) h
theorem Ev.neg {α : Type} {c : Prop} [Decidable c] {f g : Nat → Option α} {r : α} (hc : ¬ c) (h : Ev g r) : Ev (fun k => if c then f k else g k) r := Ev.congr (fun k => by rw [if_neg hc]) h
theorem Ev.cst {α : Type} {x : Option α} {r : α} (h : x = some r) : Ev (fun _ => x) r := ⟨0, fun _ _ => h⟩
theorem Ev.get {α : Type} {g : Nat → Option α} {r q : α} (h : Ev g r) (hq : r = q) : Ev g q := hq ▸ h
theorem wrap_id {a : Int} (h0 : -9223372036854775808 ≤ a) (h1 : a ≤ 9223372036854775807) : wrap64 a = a := by unfold wrap64; omega
theorem str_nil (s : ByteArray) : s.toList = ([] : List UInt8) ↔ s.size = 0 := by
  rw [Go.ByteArray.toList_eq]
  have h : s.data.toList.length = s.size := by rw [Array.length_toList]; rfl
  constructor
  · intro e; rw [← h, e]; rfl
  · intro e; exact List.eq_nil_of_length_eq_zero (by omega)
end Go.Proofs.Ytmkipdleggkkkaa.Pu
