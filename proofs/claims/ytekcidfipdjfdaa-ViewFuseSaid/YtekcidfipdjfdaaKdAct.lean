/- Calls and keeps that came in, as the printed contracts read them. -/
import Derived.Test.YtekcidfipdjfdaaTypes
import Derived.Test.YtekcidfipdjfdaaPBx1
namespace Go.Proofs.Ytekcidfipdjfdaa.Own
open Go.RowKit Go.WideShapes Go.Proofs.YtekcidfipdjfdaaW.PrintWords Go.Proofs.Ytekcidfipdjfdaa.PB
set_option linter.unusedSimpArgs false
theorem row_read {α β : Type} {d : Kd β} {cells : α → List Value} {f : α → β} {w : World} {a : Option Addr} {n : Nat} {l : List α} (h : Row w d.sz cells a n l) (hK : ∀ x ∈ l, (cells x).length = d.sz ∧ d.K w (f x) (cells x)) : Kd.C d w a n (l.map f) := by
  obtain ⟨hl, hm, hr⟩ := h
  refine ⟨by simp [hl], by simpa [maxLen] using hm, fun hp => ?_⟩
  obtain ⟨b, off, ha, _, hc⟩ := hr hp
  refine ⟨⟨b, off, none⟩, ha, fun j p hj => ?_⟩
  rw [List.getElem?_map] at hj
  cases hlj : l[j]? with
  | none => rw [hlj] at hj; cases hj
  | some r =>
    rw [hlj] at hj
    cases hj
    obtain ⟨hlt, rfl⟩ := List.getElem?_eq_some_iff.1 hlj
    obtain ⟨k1, k2⟩ := hK _ (List.getElem_mem hlt)
    refine ⟨cells l[j], k1, k2, fun i u hi => ?_⟩
    have hil : i < (cells l[j]).length := (List.getElem?_eq_some_iff.1 hi).1
    have := hc j hlt i hil
    rw [Go.WideShapes.add_plain, ← Nat.add_assoc]
    exact this.trans hi
def keepS (r : Keep) : S68 := ⟨r.index, r.bytes⟩
theorem keeps_read {w : World} {a : Option Addr} {n : Nat} {l : List Keep} (h : Row w 2 Keep.cells a n l) : Kd.C k68 w a n (l.map keepS) :=
  row_read (d := k68) h (fun x _ => ⟨rfl, k68_mk w (keepS x)⟩)
def actS (r : Act) : S35 := ⟨r.kind, r.at_, r.n, r.c, r.keeps.map keepS⟩
theorem acts_read {w : World} {a : Option Addr} {n : Nat} {l : List Act} (h : Row w 5 Act.cells a n l) (hok : ∀ x ∈ l, Act.ok w x) : Kd.C k35 w a n (l.map actS) :=
  row_read (d := k35) h (fun x hx => ⟨rfl, by
    obtain ⟨_, _, _, _, hr, _, hc⟩ := hok x hx
    have hl : x.keepsN = (x.keeps.map keepS).length := by rw [List.length_map]; exact hr.1.symm
    have := k35_mk w (actS x) (A4 := x.keepsA) (c4 := x.keepsC) (by show (x.keeps.map keepS).length ≤ _; rw [← hl]; exact hc) (by show Kd.C k68 w x.keepsA (x.keeps.map keepS).length (x.keeps.map keepS); rw [← hl]; exact keeps_read hr)
    have e : (actS x).f4.length = x.keepsN := hl.symm
    rw [e] at this
    exact this⟩)
end Go.Proofs.Ytekcidfipdjfdaa.Own
