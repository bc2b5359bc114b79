/- Sectors and writes in memory: the kinds of rows, and the disk's state. -/
import Derived.Test.YtekcidfipdjfdaaBytes
import Derived.Test.YtekcidfipdjfdaaPBx0
import Derived.Deep.MidRow
import Derived.Deep.RegionLaw
import Derived.Lib.SlBuf
namespace Go.Proofs.Ytekcidfipdjfdaa.Own
open Go.RowKit Go.Proofs.YtekcidfipdjfdaaW.PrintWords Go.Proofs.Ytekcidfipdjfdaa.PB
set_option linter.unusedVariables false
set_option linter.unusedSimpArgs false
structure S79 where
  f0 : Int
  f1 : ByteArray
def z79 : S79 := ⟨0, ⟨#[]⟩⟩
abbrev sc (s : ByteArray) : List Value := Lib.strCells s
theorem sc_length (s : ByteArray) : (sc s).length = s.size := Lib.strCells_length s
/-- The cells of a write. -/
def wc (x : S79) : List Value := .int .i64 x.f0 :: sc x.f1
theorem wc_length {x : S79} (h : x.f1.size = 64) : (wc x).length = 65 := by simp [wc, sc_length, h]
theorem wc_one (x : S79) : ∀ u ∈ wc x, u.oneCell' = true := by
  intro u hu
  unfold wc at hu
  rcases List.mem_cons.1 hu with rfl | h
  · rfl
  · exact Lib.strCells_oneCell _ u h
/-- A write that waits, as a kind of 65 cells. -/
def k65 : Kd S79 where
  sz := 65
  E := []
  K := fun _ x cs => cs = wc x ∧ x.f1.size = 64
  M := fun _ _ _ x cs => cs = wc x ∧ x.f1.size = 64
  K_len := fun ⟨h, h6⟩ => by rw [h, wc_length h6]
  K_one := fun ⟨h, _⟩ => by rw [h]; exact wc_one _
  K_below := fun _ h => h
  K_of_M := fun h => h
  M_mono := fun _ h => h
  M_bound := fun h => h
  M_move := fun _ h => h
  M_lower := fun _ h => h
theorem info65 : (Try.prog.info? 62).map (fun i => (i.zero.map (fun z => z.cells.size), i.size, i.bytes)) = some (some 65, 65, 72) := by kernel_rfl
theorem size65 : (Try.prog.info? 62).map (·.size) = some 65 := by kernel_rfl
theorem size63 : (Try.prog.info? 60).map (·.size) = some 64 := by kernel_rfl
/-- A write out of a row. -/
theorem at65 {w : World} {A : Option Addr} {n : Nat} {xs : List S79} (h : Kd.C k65 w A n xs) (i : Nat) (h1 : i < n) : ∃ ad, A = some ad ∧ (xs.getD i z79).f1.size = 64 ∧ w.rangeAt ad.block (ad.off + i * 65) (wc (xs.getD i z79)) ∧ ad.spot = none := by
  obtain ⟨ad, c, e, _, ⟨hK, h6⟩, hc0⟩ := Kd.C_get h z79 (i : Int) (by omega) (by omega)
  rw [Int.toNat_natCast] at hK h6 hc0
  subst hK
  obtain ⟨ad', c', e', _, ⟨hK', _⟩, hc0'⟩ := Kd.C_get h z79 0 (by omega) (by omega)
  rw [e] at e'
  injection e' with e'
  subst e' hK'
  have h0 := hc0' 0 _ rfl
  obtain ⟨b, off, spot⟩ := ad
  have hspot : spot = none := by simpa [Addr.add] using World.cell?_spot h0
  subst hspot
  refine ⟨_, e, h6, ?_, rfl⟩
  intro j v hj
  have := hc0 j v hj
  rw [Go.WideShapes.add_plain] at this
  rw [← this]
  congr 2
  show off + i * 65 + j = off + (i * k65.sz + j)
  show off + i * 65 + j = off + (i * 65 + j)
  omega
/-- The cells of sectors. -/
def flatL (l : List ByteArray) : List Value := l.flatMap sc
theorem flatL_length {l : List ByteArray} (h : ∀ s ∈ l, s.size = 64) : (flatL l).length = 64 * l.length := by
  induction l with
  | nil => rfl
  | cons a l ih =>
    have := ih (fun s hs => h s (List.mem_cons_of_mem _ hs))
    have ha := h a List.mem_cons_self
    simp only [flatL, List.flatMap_cons, List.length_append, sc_length, List.length_cons] at this ⊢
    rw [this, ha]; omega
theorem flatL_get {l : List ByteArray} (h : ∀ s ∈ l, s.size = 64) (i : Nat) (hi : i < l.length) (j : Nat) (hj : j < 64) : (flatL l)[i * 64 + j]? = (sc (l.getD i ByteArray.empty))[j]? := by
  induction l generalizing i with
  | nil => simp at hi
  | cons a l ih =>
    have ha := h a List.mem_cons_self
    simp only [flatL, List.flatMap_cons]
    cases i with
    | zero =>
      rw [List.getElem?_append_left (by rw [sc_length, ha]; omega)]
      simp
    | succ i =>
      rw [List.getElem?_append_right (by rw [sc_length, ha]; omega), sc_length, ha]
      have := ih (fun s hs => h s (List.mem_cons_of_mem _ hs)) i (by simpa using hi)
      rw [show (i + 1) * 64 + j - 64 = i * 64 + j by omega]
      simpa [flatL] using this
theorem flatL_set {l : List ByteArray} (h : ∀ s ∈ l, s.size = 64) (i : Nat) (hi : i < l.length) {s : ByteArray} (hs : s.size = 64) : flatL (l.set i s) = (flatL l).take (i * 64) ++ sc s ++ (flatL l).drop (i * 64 + 64) := by
  induction l generalizing i with
  | nil => simp at hi
  | cons a l ih =>
    have ha := h a List.mem_cons_self
    cases i with
    | zero =>
      simp only [flatL, List.set_cons_zero, List.flatMap_cons, Nat.zero_mul, List.take_zero, List.nil_append, Nat.zero_add]
      rw [List.drop_append_of_le_length (by rw [sc_length, ha]; omega), List.drop_of_length_le (by rw [sc_length, ha]; omega), List.nil_append]
    | succ i =>
      have := ih (fun s hs => h s (List.mem_cons_of_mem _ hs)) i (by simpa using hi)
      simp only [flatL, List.set_cons_succ, List.flatMap_cons] at this ⊢
      have hal : (sc a).length = 64 := by rw [sc_length, ha]
      rw [this, List.take_append, List.drop_append, List.take_of_length_le (l := sc a) (by omega), List.drop_of_length_le (l := sc a) (by omega), hal, show (i + 1) * 64 - 64 = i * 64 by omega, show (i + 1) * 64 + 64 - 64 = i * 64 + 64 by omega]
      simp [List.append_assoc]
/-- What a call may have changed: these blocks. -/
structure Fr (S : Nat → Prop) (w w' : World) : Prop where
  os : w'.os = w.os
  tape : w'.tape = w.tape
  output : w'.output = w.output
  size : w.heap.size ≤ w'.heap.size
  block : ∀ k, k < w.heap.size → ¬ S k → w'.heap[k]? = w.heap[k]?
theorem Fr.refl (S : Nat → Prop) (w : World) : Fr S w w := ⟨rfl, rfl, rfl, Nat.le_refl _, fun _ _ _ => rfl⟩
theorem Fr.trans {S S1 S2 : Nat → Prop} {w w1 w2 : World} (h : Fr S w w1) (h1 : Fr S1 w1 w2) (hs : ∀ k, S k → S2 k) (hs1 : ∀ k, S1 k → S2 k ∨ w.heap.size ≤ k) : Fr S2 w w2 :=
  ⟨h1.os.trans h.os, h1.tape.trans h.tape, h1.output.trans h.output, Nat.le_trans h.size h1.size, fun k hk hn =>
    (h1.block k (Nat.lt_of_lt_of_le hk h.size) (fun h2 => by rcases hs1 k h2 with h3 | h3; exact hn h3; omega)).trans (h.block k hk (fun h2 => hn (hs k h2)))⟩
theorem Fr.mono {S S2 : Nat → Prop} {w w1 : World} (h : Fr S w w1) (hs : ∀ k, S k → S2 k) : Fr S2 w w1 := ⟨h.os, h.tape, h.output, h.size, fun k hk hn => h.block k hk (fun h2 => hn (hs k h2))⟩
theorem Fr.of_below {S : Nat → Prop} {w w1 : World} (h : Below w.heap.size w w1) : Fr S w w1 := ⟨h.os, h.tape, h.output, h.size, fun k hk _ => h.block k hk⟩
theorem Fr.below {S : Nat → Prop} {w w1 w2 : World} (h : Fr S w w1) (hb : Below w1.heap.size w1 w2) : Fr S w w2 := h.trans (Fr.of_below (S := fun _ => False) hb) (fun _ h => h) (fun _ h => h.elim)
theorem Fr.drew {S : Nat → Prop} {w w1 : World} (h : Fr S w w1) : Fr S w w1.drew := ⟨h.os, h.tape, h.output, h.size, h.block⟩
theorem Fr.set {S : Nat → Prop} {w w1 : World} (h : Fr S w w1) (p : Addr) (v : Value) (hp : S p.block ∨ w.heap.size ≤ p.block) : Fr S w (w1.setCell p v) :=
  h.trans (S1 := fun k => k = p.block) ⟨rfl, rfl, rfl, by simp [World.setCell], fun k _ hn => Below.heap_setCell _ _ _ _ hn⟩ (fun _ h => h) (by rintro k rfl; exact hp)
theorem Fr.grown {S : Nat → Prop} {w w1 w2 : World} {r : Option Nat} (h : Fr S w w1) (hg : w1.grownBy w2 r) (hr : ∀ k, r = some k → S k ∨ w.heap.size ≤ k) : Fr S w w2 :=
  h.trans (S1 := fun k => r = some k) ⟨hg.os, hg.tape, hg.output, hg.size, fun k hk hn => hg.block k hk (fun e => hn e.symm)⟩ (fun _ h => h) (fun k hk => hr k hk)
theorem Fr.to_below {S : Nat → Prop} {B : Nat} {w w1 : World} (h : Fr S w w1) (hs : ∀ k, S k → B ≤ k) (hB : B ≤ w.heap.size) : Below B w w1 :=
  ⟨h.os, h.tape, h.output, h.size, fun k hk => h.block k (by omega) (fun h2 => by have := hs k h2; omega)⟩
theorem setCells_heap (b : Nat) : ∀ (vs : List Value) (o : Nat) (w : World), (w.setCells b o vs).heap.size = w.heap.size ∧ (w.setCells b o vs).os = w.os ∧ (w.setCells b o vs).tape = w.tape ∧ (w.setCells b o vs).output = w.output ∧ ∀ k, k ≠ b → (w.setCells b o vs).heap[k]? = w.heap[k]?
  | [], _, _ => ⟨rfl, rfl, rfl, rfl, fun _ _ => rfl⟩
  | v :: r, o, w => by
    obtain ⟨h1, h2, h3, h4, h5⟩ := setCells_heap b r (o + 1) (w.setCell ⟨b, o, none⟩ v)
    refine ⟨by rw [World.setCells, h1]; simp [World.setCell], by rw [World.setCells, h2]; rfl, by rw [World.setCells, h3]; rfl, by rw [World.setCells, h4]; rfl, fun k hk => ?_⟩
    rw [World.setCells, h5 k hk]
    exact Below.heap_setCell _ _ _ _ hk
/-- A block of cells of which a part is written. -/
theorem heap_setCells (b : Nat) : ∀ (vs : List Value) (o : Nat) (w : World) (c : List Value) (t : TypeId) (fr : Nat × Nat), w.heap[b]? = some (.cells c.toArray t fr) → o + vs.length ≤ c.length →
    (w.setCells b o vs).heap[b]? = some (.cells (c.take o ++ vs ++ c.drop (o + vs.length)).toArray t fr)
  | [], o, w, c, t, fr, h, hl => by simpa [World.setCells] using h
  | v :: r, o, w, c, t, fr, h, hl => by
    simp only [List.length_cons] at hl
    have h1 := heap_set h (i := o) v
    rw [show c.toArray.setIfInBounds o v = (c.set o v).toArray by simp] at h1
    have := heap_setCells b r (o + 1) (w.setCell ⟨b, o, none⟩ v) (c.set o v) t fr h1 (by simp; omega)
    rw [World.setCells, this]
    congr 3
    rw [List.drop_set_of_lt (by omega), List.take_set, List.take_succ_eq_append_getElem (by omega), List.set_append_right _ _ (by simp; omega)]
    simp [List.length_take, show min o c.length = o by omega, show o + 1 + r.length = o + (r.length + 1) by omega]
theorem Fr.cells {S : Nat → Prop} {w w1 : World} (h : Fr S w w1) (b o : Nat) (vs : List Value) (hp : S b ∨ w.heap.size ≤ b) : Fr S w (w1.setCells b o vs) := by
  obtain ⟨h1, h2, h3, h4, h5⟩ := setCells_heap b vs o w1
  exact h.trans (S1 := fun k => k = b) ⟨h2, h3, h4, by omega, fun k _ hn => h5 k hn⟩ (fun _ h => h) (by rintro k rfl; exact hp)
/-- A disk: what lies there, and what waits. -/
structure DS (B g o : Nat) (v : Value) (L : List ByteArray) (W : List S79) (w : World) : Prop where
  blk : w.heap[g]? = some (.cells #[.slice (some ⟨o, 0, none⟩) L.length L.length, v] 50 (0, 0))
  lie : w.heap[o]? = some (.cells (flatL L).toArray 60 (0, 0))
  row : Kd.R k65 62 w B (fun k => k ≠ g ∧ k ≠ o) v W
  log : B ≤ g
  loo : B ≤ o
  ne : o ≠ g
  l64 : ∀ s ∈ L, s.size = 64
  w64 : ∀ x ∈ W, x.f1.size = 64 ∧ 0 ≤ x.f0 ∧ x.f0 < L.length
  few : L.length ≤ 8192
/-- The blocks of a disk. -/
def FS (g o : Nat) (v : Value) (k : Nat) : Prop := k = g ∨ k = o ∨ v.ownBlock = some k
theorem FS.lo {B g o : Nat} {v : Value} {L : List ByteArray} {W : List S79} {w : World} (h : DS B g o v L W w) : ∀ k, FS g o v k → B ≤ k := by
  rintro k (rfl | rfl | hk)
  · exact h.log
  · exact h.loo
  · exact Kd.R_base h.row k hk
/-- Another place has been written. -/
theorem DS.fr {B g o : Nat} {v : Value} {L : List ByteArray} {W : List S79} {w w1 : World} {S : Nat → Prop} (h : DS B g o v L W w) (hf : Fr S w w1) (hs : ∀ k, FS g o v k → ¬ S k) : DS B g o v L W w1 :=
  ⟨(hf.block g (blk_lt h.blk) (hs g (Or.inl rfl))).trans h.blk, (hf.block o (blk_lt h.lie) (hs o (Or.inr (Or.inl rfl)))).trans h.lie,
    Kd.R_mono (Kd.R_step (ok := fun k => v.ownBlock = some k ∧ k ≠ g ∧ k ≠ o) (by
      obtain ⟨h0, inner, ho, hr⟩ := h.row
      exact ⟨fun k hk => ⟨hk, h0 k hk⟩, inner, ho, hr⟩) (fun k hk hlt => hf.block k hlt (hs k (Or.inr (Or.inr hk.1))))) (fun k hk => hk.2),
    h.log, h.loo, h.ne, h.l64, h.w64, h.few⟩
theorem DS.below {B g o : Nat} {v : Value} {L : List ByteArray} {W : List S79} {w w1 : World} (h : DS B g o v L W w) (hb : Below w.heap.size w w1) : DS B g o v L W w1 := h.fr (Fr.of_below (S := fun _ => False) hb) (fun _ _ h => h)
theorem DS.drew {B g o : Nat} {v : Value} {L : List ByteArray} {W : List S79} {w : World} (h : DS B g o v L W w) : DS B g o v L W w.drew := h.below ((Below.refl _ _).drew)
/-- The sector at a place. -/
theorem DS.sector {B g o : Nat} {v : Value} {L : List ByteArray} {W : List S79} {w : World} (h : DS B g o v L W w) (i : Nat) (hi : i < L.length) : w.rangeAt o (i * 64) (sc (L.getD i ByteArray.empty)) := by
  intro j u hj
  have hs : (L.getD i ByteArray.empty).size = 64 := h.l64 _ (by rw [List.getD_eq_getElem?_getD, List.getElem?_eq_getElem hi]; exact List.getElem_mem hi)
  have hj' : j < 64 := by
    have := (List.getElem?_eq_some_iff.1 hj).1
    rw [sc_length, hs] at this; exact this
  rw [blk_cell h.lie, List.getElem?_toArray, flatL_get h.l64 i hi j hj', hj]
end Go.Proofs.Ytekcidfipdjfdaa.Own
