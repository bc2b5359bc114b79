/- PartActs, for every input. -/
import Derived.Test.YtmkipdleggkkkaaPP
import Derived.Test.YtmkipdleggkkkaaKdRec
namespace Go.Proofs.Ytmkipdleggkkkaa.Own
open Go.RowKit Go.WideShapes Go.Proofs.YtmkipdleggkkkaaW.PrintWords
set_option linter.unusedVariables false
set_option linter.unusedSimpArgs false
def actP (r : Act) : PB.S37 := ⟨r.kind, r.n, r.m, r.l.map Pu.recS⟩
theorem acts_read {w : World} {a : Option Addr} {n : Nat} {l : List Act} (h : Row w 4 Act.cells a n l) (hu : ∀ r ∈ l, Act.ok w r) : Kd.C PB.k37 w a n (l.map actP) := by
  obtain ⟨hl, hm, hr⟩ := h
  refine ⟨by simp [hl], by simpa [maxLen] using hm, fun hp => ?_⟩
  obtain ⟨b, off, ha, _, hc⟩ := hr hp
  refine ⟨⟨b, off, none⟩, ha, fun j p hj => ?_⟩
  rw [List.getElem?_map] at hj
  cases hlj : l[j]? with
  | none => rw [hlj] at hj; cases hj
  | some r =>
    rw [hlj] at hj
    cases hj
    obtain ⟨hlt, rfl⟩ := List.getElem?_eq_some_iff.1 hlj
    obtain ⟨_, _, _, hrow, hrec, hcap⟩ := hu l[j] (List.getElem_mem _)
    have hln : (l[j].l.map Pu.recS).length = l[j].lN := by rw [List.length_map]; exact hrow.1
    have hC : Kd.C PB.k45 w l[j].lA (actP l[j]).f3.length (actP l[j]).f3 := by
      show Kd.C PB.k45 w l[j].lA (l[j].l.map Pu.recS).length (l[j].l.map Pu.recS)
      rw [hln]; exact Pu.recs_read hrow
    have hK := PB.k37_mk w (actP l[j]) (A3 := l[j].lA) (c3 := l[j].lC) (by show (l[j].l.map Pu.recS).length ≤ _; rw [hln]; exact hcap) hC
    refine ⟨l[j].cells, rfl, ?_, fun i u hi => ?_⟩
    · have e : l[j].cells = [.int .i64 (actP l[j]).f0, .int .i64 (actP l[j]).f1, .int .i64 (actP l[j]).f2, .slice l[j].lA (actP l[j]).f3.length l[j].lC] := by
        show [Value.int .i64 l[j].kind, .int .i64 l[j].n, .int .i64 l[j].m, .slice l[j].lA l[j].lN l[j].lC] = [Value.int .i64 l[j].kind, .int .i64 l[j].n, .int .i64 l[j].m, .slice l[j].lA (l[j].l.map Pu.recS).length l[j].lC]
        rw [hln]
      rw [e]; exact hK
    · have hil : i < l[j].cells.length := (List.getElem?_eq_some_iff.1 hi).1
      have := hc j hlt i hil
      rw [Go.WideShapes.add_plain, ← Nat.add_assoc]
      exact this.trans hi
theorem partActs_walk (a0 : Option Addr) (len0 cap0 : Nat) (z0 : List Act) (w : World) (w0 : Row w 4 Act.cells a0 len0 z0) (u0 : ∀ r ∈ z0, Act.ok w r) (c0 : len0 ≤ cap0) :
    Calls Try.prog 4 #[.slice a0 len0 cap0] w fun e w' => e = .returned (.bool true) ∧ Below w.heap.size w w' := by
  have hl : (z0.map actP).length = len0 := by rw [List.length_map]; exact w0.1
  have := acts_any a0 cap0 (z0.map actP) w (by rw [hl]; exact acts_read w0 u0) (by rw [hl]; exact c0)
  rw [hl] at this
  exact this
end Go.Proofs.Ytmkipdleggkkkaa.Own
