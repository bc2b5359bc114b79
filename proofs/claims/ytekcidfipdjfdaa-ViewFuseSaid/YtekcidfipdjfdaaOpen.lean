/- How a law's arguments are read: rows of elements, flat structs, arrays of numbers. -/
import Derived.Test.YtekcidfipdjfdaaKit
import Derived.ProofKit
import Derived.OpenShut
import Derived.Deep.Slices
import Derived.SizedLaws
import Derived.Lib.SmallJoins
namespace Go.Proofs.Ytekcidfipdjfdaa.Own
open Go.RowKit Go.ChangeShapes Go.WideShapes
section
variable {H : Type} {enc : TypeId × Value → H} {P : Program} {w : World} {base : Nat} {spare : Nat → Bool} {held : Bool}

/-- The cells from an address on are these. -/
def CellsAt (w : World) (b off : Nat) (cs : List Value) : Prop := ∀ j, j < cs.length → w.cell? ⟨b, off + j, none⟩ = cs[j]?
/-- A row of elements, each of sz cells, that came in: what each reads as. -/
def Row {α : Type} (w : World) (sz : Nat) (cells : α → List Value) (a : Option Addr) (n : Nat) (l : List α) : Prop :=
  l.length = n ∧ n ≤ maxLen ∧ (0 < n → ∃ b off, a = some ⟨b, off, none⟩ ∧ b < w.heap.size ∧ ∀ (i : Nat) (h : i < l.length), CellsAt w b (off + i * sz) (cells l[i]))

theorem list_of {α : Type} {Q : Nat → α → Prop} : ∀ (n : Nat), (∀ i, i < n → ∃ x, Q i x) → ∃ l : List α, l.length = n ∧ ∀ (i : Nat) (h : i < l.length), Q i l[i]
  | 0, _ => ⟨[], rfl, fun i h => absurd h (Nat.not_lt_zero i)⟩
  | n + 1, hq => by
    obtain ⟨l, hl, hh⟩ := list_of n (fun i hi => hq i (by omega))
    obtain ⟨x, hx⟩ := hq n (by omega)
    refine ⟨l ++ [x], by simp [hl], fun i h => ?_⟩
    rw [List.getElem_append]
    split
    · exact hh i _
    · rename_i h'
      have : i = n := by simp at h; omega
      subst this
      simpa using hx

theorem open_row {α : Type} {cells : α → List Value} {okk : α → Prop} {t e : TypeId} {sz : Nat} {a : Option Addr} {len cap : Nat} {d : DataW H} {ps : List MemPlace}
    (ht : P.underlying t = some (.slice e)) (hsz : P.cellsOf e = sz) (hpos : 0 < sz)
    (helem : ∀ {n : Nat} {cs : List Value} {x : DataW H × List MemPlace}, DataW.trod enc P w base spare held n e cs = some x → cs.length = sz → ∃ r : α, cs = cells r ∧ okk r)
    (h : DataW.Trod enc P w base spare held t (.slice a len cap) d ps) : ∃ l : List α, Row w sz cells a len l ∧ ∀ r ∈ l, okk r := by
  obtain ⟨fuel, hf⟩ := h
  rcases Deep.open_slice ht hf with ⟨hcs, _⟩ | ⟨x, l', c', m, n, D, Pl, hcs, hb, hl, hm, hmm, _, hel⟩
  · simp [Value.cells] at hcs
    obtain ⟨rfl, rfl, rfl⟩ := hcs
    exact ⟨[], ⟨rfl, by unfold maxLen; omega, fun h => absurd h (Nat.lt_irrefl 0)⟩, by simp⟩
  · simp [Value.cells] at hcs
    obtain ⟨rfl, rfl, rfl⟩ := hcs
    have hlm : len ≤ m := by rw [hmm]; split <;> omega
    have key : ∀ i, i < len → ∃ r : α, okk r ∧ (cells r).length = sz ∧ ∀ j, j < sz → w.cell? (x.add (i * sz + j)) = (cells r)[j]? := by
      intro i hi
      obtain ⟨cs', hc, hd⟩ := hel i (by omega)
      obtain ⟨_, hlen, hg⟩ := World.cells?_some hc
      rw [hsz] at hlen
      obtain ⟨r, rfl, hr⟩ := helem hd hlen
      refine ⟨r, hr, hlen, fun j hj => ?_⟩
      rw [← Deep.add_add, ← hsz]
      exact hg j (by rw [hsz]; exact hj)
    obtain ⟨l, hll, hq⟩ := list_of len key
    refine ⟨l, ⟨hll, by omega, fun hp => ?_⟩, fun r hr => ?_⟩
    · obtain ⟨b, off, spot⟩ := x
      have h0 := (hq 0 (by omega)).2.2 0 hpos
      have hlt : 0 < (cells (l[0]'(by omega))).length := by rw [(hq 0 (by omega)).2.1]; exact hpos
      rw [List.getElem?_eq_getElem hlt] at h0
      have hspot : spot = none := by simpa [Addr.add] using World.cell?_spot h0
      subst hspot
      refine ⟨b, off, rfl, ?_, fun i hi j hj => ?_⟩
      · have := World.block_lt_of_cell? w _ h0
        simpa [add_plain] using this
      · have := (hq i hi).2.2 j (by rw [← (hq i hi).2.1]; exact hj)
        rw [add_plain, ← Nat.add_assoc] at this
        exact this
    · obtain ⟨i, hi, rfl⟩ := List.getElem_of_mem hr
      exact (hq i hi).1

/-- A slice's length is at most its capacity. -/
theorem open_cap {t e : TypeId} {a : Option Addr} {len cap : Nat} {d : DataW H} {ps : List MemPlace} (ht : P.underlying t = some (.slice e))
    (h : DataW.Trod enc P w base spare held t (.slice a len cap) d ps) : len ≤ cap := by
  obtain ⟨fuel, hf⟩ := h
  rcases Deep.open_slice ht hf with ⟨hcs, _⟩ | ⟨x, l', c', m, n, D, Pl, hcs, hb, hl, hm, hmm, _, hel⟩
  · simp [Value.cells] at hcs
    omega
  · simp [Value.cells] at hcs
    obtain ⟨_, rfl, rfl⟩ := hcs
    exact hl
/-- One field of one cell. -/
theorem drop_take_one {cs : List Value} {o : Nat} {v : Value} (h : (cs.drop o).take 1 = [v]) : cs[o]? = some v := by
  have : ((cs.drop o).take 1)[0]? = some v := by rw [h]; rfl
  simpa using this
/-- A slice of whole numbers. -/
theorem open_irow {t e : TypeId} {k : IntKind} {a : Option Addr} {len cap : Nat} {d : DataW H} {ps : List MemPlace}
    (ht : P.underlying t = some (.slice e)) (he : P.underlying e = some (.int k)) (hc : P.cellsOf e = 1)
    (h : DataW.Trod enc P w base spare held t (.slice a len cap) d ps) : ∃ zs : List Int, IRow k w a len zs := by
  obtain ⟨l, ⟨hl, hm, hr⟩, hok⟩ := open_row (α := Int) (cells := fun z => [.int k z]) (okk := fun z => (Lit.int k z).wf = true) ht hc (by decide) (by
    intro n cs x hd _
    obtain ⟨z, rfl, _, hz⟩ := DataW.trod_int he hd
    exact ⟨z, rfl, hz⟩) h
  refine ⟨l, hl, hm, fun i hi => ?_, fun hp => ?_⟩
  · have hi' : i < l.length := by omega
    rw [List.getD_eq_getElem?_getD, List.getElem?_eq_getElem hi']
    exact hok _ (List.getElem_mem hi')
  · obtain ⟨b, off, rfl, hb, hcell⟩ := hr hp
    refine ⟨b, off, rfl, hb, fun i hi => ?_⟩
    have hi' : i < l.length := by omega
    have := hcell i hi' 0 (by simp)
    simpa [List.getD_eq_getElem?_getD, List.getElem?_eq_getElem hi'] using this
/-- An array of whole numbers. -/
theorem open_arr {t e : TypeId} {k : IntKind} {n fuel : Nat} {cs : List Value} {x : DataW H × List MemPlace}
    (ht : P.underlying t = some (.array n e)) (he : P.underlying e = some (.int k)) (hc : P.cellsOf e = 1) (hct : P.cellsOf t = n)
    (h : DataW.trod enc P w base spare held fuel t cs = some x) : ∃ zs : List Int, zs.length = n ∧ cs = zs.map (Value.int k) ∧ ∀ z ∈ zs, (Lit.int k z).wf = true := by
  obtain ⟨xs, m, _, rfl, hlen, hxl, hf⟩ := DataW.trod_array ht h
  rw [hct] at hlen
  have key : ∀ i, i < n → ∃ z : Int, cs[i]? = some (.int k z) ∧ (Lit.int k z).wf = true := by
    intro i hi
    have h1 := hf i hi
    rw [hc, List.getElem?_eq_getElem (by omega)] at h1
    obtain ⟨z, hz, _, hw⟩ := DataW.trod_int he h1
    exact ⟨z, by simpa using drop_take_one hz, hw⟩
  obtain ⟨l, hl, hq⟩ := list_of n key
  refine ⟨l, hl, ?_, fun z hz => ?_⟩
  · apply List.ext_getElem?
    intro i
    by_cases hi : i < n
    · rw [(hq i (by omega)).1, List.getElem?_map, List.getElem?_eq_getElem (by omega)]
      rfl
    · rw [List.getElem?_eq_none (by omega), List.getElem?_eq_none (by simp; omega)]
  · obtain ⟨i, hi, rfl⟩ := List.getElem_of_mem hz
    exact (hq i hi).2
/-- A slice of strings. -/
theorem open_strs {t e : TypeId} {a : Option Addr} {len cap : Nat} {d : DataW H} {ps : List MemPlace}
    (ht : P.underlying t = some (.slice e)) (he : P.underlying e = some .string) (hc : P.cellsOf e = 1)
    (h : DataW.Trod enc P w base spare held t (.slice a len cap) d ps) : ∃ l : List ByteArray, Row w 1 (fun s => [.string s]) a len l ∧ ∀ s ∈ l, s.size ≤ maxLen :=
  open_row ht hc (by decide) (by
    intro n cs x hd _
    obtain ⟨s, rfl, _, hs⟩ := DataW.trod_string he hd
    exact ⟨s, rfl, hs⟩) h
/-- A value that is a struct or an array, taken whole. -/
theorem agg_cells {t : TypeId} {r : Reach} {b0 : Nat} {v : Value} (hs : (∃ fs, P.underlying t = some (.struct fs)) ∨ ∃ n e, P.underlying t = some (.array n e)) (hv : Value.okWide P w r b0 t v) : ∃ cs : Array Value, v = .agg cs ∧ cs.size = P.cellsOf t := by
  rcases hs with ⟨fs, hs⟩ | ⟨n, e, hs⟩
  · simp only [Value.okWide, hs] at hv
    obtain ⟨cs, h1, h2, _⟩ := hv
    exact ⟨cs, h1, h2⟩
  · simp only [Value.okWide, hs] at hv
    obtain ⟨cs, h1, h2, _⟩ := hv
    exact ⟨cs, h1, h2⟩
end
end Go.Proofs.Ytekcidfipdjfdaa.Own
