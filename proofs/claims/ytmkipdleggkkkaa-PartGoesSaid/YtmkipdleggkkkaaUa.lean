/- Several texts of this claim in one. -/
import Derived.Test.YtmkipdleggkkkaaOpen
import Derived.Test.YtmkipdleggkkkaaMay
import Derived.Test.YtmkipdleggkkkaaPBx2
import Derived.Deep.RegionLaw
/- The walks of slices.IndexFunc and slices.ContainsFunc with part's odd, and of slices.Clone. -/
namespace Go.Proofs.Ytmkipdleggkkkaa.Own
open Go.RowKit Go.Proofs.YtmkipdleggkkkaaW.PrintWords
set_option maxRecDepth 100000
set_option linter.unusedSimpArgs false
set_option linter.unusedVariables false
/-- A record's cells. -/
def rc (x : PB.S45) : Array Value := #[.int .i64 x.f0, .int .i64 x.f1, .string x.f2, .string x.f3, .bool x.f4, .int .i64 x.f5, .int .i64 x.f6, .int .i64 x.f7]
theorem odd_any (x : PB.S45) (w : World) : Calls Try.prog 26 #[.agg #[.int .i64 x.f0, .int .i64 x.f1, .string x.f2, .string x.f3, .bool x.f4, .int .i64 x.f5, .int .i64 x.f6, .int .i64 x.f7]] w fun e w' => e = .returned (.bool (!PuB.mayB x)) ∧ Below w.heap.size w w' := by
  obtain ⟨k, hk⟩ := Ev.rounds (PuB.recMay_ev x)
  refine PB.part_odd.calls k _ _ _ _ _ _ _ _ _ w ?_
  unfold PB.part_odd.f
  rw [hk]
  rfl
/-- The place of the first odd record, or -1. -/
def idxOdd : List PB.S45 → Nat → Int
  | [], _ => -1
  | x :: t, i => if PuB.mayB x = true then idxOdd t (i + 1) else (i : Int)
theorem idxOdd_pos (l : List PB.S45) : ∀ i, (0 ≤ idxOdd l i) ↔ ∃ x ∈ l, PuB.mayB x = false := by
  induction l with
  | nil => intro i; simp [idxOdd]
  | cons x t ih =>
    intro i
    unfold idxOdd
    by_cases h : PuB.mayB x = true
    · rw [if_pos h, ih (i + 1)]
      simp [h]
    · rw [if_neg h]
      have : PuB.mayB x = false := by simpa using h
      simp [this]
theorem idxOdd_drop (l : List PB.S45) (k : Nat) (hk : k < l.length) : idxOdd (l.drop k) k = if PuB.mayB (PB.rd_T45 l (k : Int)) = true then idxOdd (l.drop (k + 1)) (k + 1) else (k : Int) := by
  rw [List.drop_eq_getElem_cons hk, idxOdd]
  have : PB.rd_T45 l (k : Int) = l[k] := by
    unfold PB.rd_T45
    simp [hk]
  rw [this]
theorem index_any (A : Option Addr) (c : Nat) (l : List PB.S45) (w : World) (hr : Kd.C PB.k45 w A l.length l) (hc : l.length ≤ c) (hl : l.length ≤ 60000) :
    Calls Try.prog 37 #[.slice A l.length c, .func (.func 26) #[] #[]] w fun e w' => e = .returned (.int .i64 (idxOdd l 0)) ∧ Below w.heap.size w w' := by
  have HR := Lib.hid hr; clear hr
  go_enter Try.func37, Try.ntmps37
  go_wp2_with fail
  go_loopw [8] (fun i wr => ∃ k : Nat, k ≤ l.length ∧ i = .int .i64 k ∧ idxOdd l 0 = idxOdd (l.drop k) k ∧ Below w.heap.size w wr) (fun i _ => l.length - (intOf i).toNat)
  case atStart => exact ⟨0, Nat.zero_le _, rfl, by rw [List.drop_zero], Below.refl _ _⟩
  case round =>
    obtain ⟨k, hk, rfl, he, bel⟩ := hrel
    have Bel := Lib.hid bel; clear bel
    have He := Lib.hid he; clear he
    by_cases hlt : k < l.length
    · have p1 : (0 : Int) ≤ (k : Int) := Int.natCast_nonneg _
      have p2 : (k : Int) < (l.length : Int) := by omega
      have hd := idxOdd_drop l k hlt
      have hw : wrap64 ((k : Int) + 1) = ((k + 1 : Nat) : Int) := by unfold wrap64; omega
      obtain ⟨ad, e1, x0, x1, x2, x3, x4, x5, x6, x7⟩ := PB.at_T45 HR.out (k : Int) p1 p2
      cases e1
      rw [Int.toNat_natCast] at x0 x1 x2 x3 x4 x5 x6 x7
      replace x0 := (Bel.out.cell (World.block_lt_of_cell? w _ x0)).trans x0
      replace x1 := (Bel.out.cell (World.block_lt_of_cell? w _ x1)).trans x1
      replace x2 := (Bel.out.cell (World.block_lt_of_cell? w _ x2)).trans x2
      replace x3 := (Bel.out.cell (World.block_lt_of_cell? w _ x3)).trans x3
      replace x4 := (Bel.out.cell (World.block_lt_of_cell? w _ x4)).trans x4
      replace x5 := (Bel.out.cell (World.block_lt_of_cell? w _ x5)).trans x5
      replace x6 := (Bel.out.cell (World.block_lt_of_cell? w _ x6)).trans x6
      replace x7 := (Bel.out.cell (World.block_lt_of_cell? w _ x7)).trans x7
      generalize PB.rd_T45 l (k : Int) = x at *
      have Hd := Lib.hid hd; clear hd
      go_wp2_with fail
      refine (odd_any x _).mono ?_
      rintro e w2 ⟨rfl, b2⟩
      have B2 := Lib.hid (below_two Bel.out b2); clear b2
      cases hx : PuB.mayB x with
      | true =>
        have hd := Hd.out
        rw [hx, if_pos rfl] at hd
        have Hd2 := Lib.hid hd; clear hd
        clear Hd
        go_wp2
        go_roundw
        case rel => exact ⟨k + 1, by omega, by go_num, He.out.trans Hd2.out, B2.out⟩
        case measure => simp [intOf]; omega
      | false =>
        have hd := Hd.out
        rw [hx, if_neg (by decide)] at hd
        have Hd2 := Lib.hid (He.out.trans hd); clear hd
        clear Hd
        go_wp2
        go_ret
        exact ⟨ret_int (k := .i64) Hd2.out.symm, B2.out⟩
    · have e : idxOdd l 0 = -1 := by rw [He.out, List.drop_of_length_le (by omega)]; rfl
      have E := Lib.hid e; clear e
      have p2 : ¬ (k : Int) < (l.length : Int) := by omega
      go_wp2
      go_ret
      exact ⟨ret_int (k := .i64) E.out.symm, Bel.out⟩
theorem contains_any (A : Option Addr) (c : Nat) (l : List PB.S45) (w : World) (hr : Kd.C PB.k45 w A l.length l) (hc : l.length ≤ c) (hl : l.length ≤ 60000) :
    Calls Try.prog 25 #[.slice A l.length c, .func (.func 26) #[] #[]] w fun e w' => e = .returned (.bool (decide (∃ x ∈ l, PuB.mayB x = false))) ∧ Below w.heap.size w w' := by
  go_enter Try.func25, Try.ntmps25
  go_wp2_with fail
  refine (index_any A c l _ hr hc hl).mono ?_
  rintro e w2 ⟨rfl, b2⟩
  have e1 : decide (0 ≤ idxOdd l 0) = decide (∃ x ∈ l, PuB.mayB x = false) := by simp only [idxOdd_pos]
  obtain ⟨b, hb⟩ : ∃ b, decide (∃ x ∈ l, PuB.mayB x = false) = b := ⟨_, rfl⟩
  rw [hb] at e1
  have e2 : decide (idxOdd l 0 ≥ 0) = b := e1
  have Hb := Lib.hid hb; clear hb
  go_wp2
  go_ret
  exact ⟨congrArg (fun t => Ending.returned (Value.bool t)) Hb.out.symm, b2⟩
def z0 : Value := .agg #[.int .i64 0, .int .i64 0, .string ⟨#[]⟩, .string ⟨#[]⟩, .bool false, .int .i64 0, .int .i64 0, .int .i64 0]
theorem info45 : (Try.prog.info? 45).map (fun i => (i.zero, i.size, i.bytes)) = some (some z0, 8, 80) := by kernel_rfl
theorem R_empty (w : World) (B : Nat) (ok : Nat → Prop) (g : Nat) (hg : w.heap[g]? = some (.cells #[] 45 (0, 0))) (hB : B ≤ g) (hok : ok g) : Kd.R PB.k45 45 w B ok (.slice (some ⟨g, 0, none⟩) 0 0) [] :=
  ⟨fun k hk => by have : g = k := by simpa [Value.ownBlock] using hk
                  exact this ▸ hok, [], ⟨rfl, Or.inr ⟨g, 0, #[], rfl, hB, hg, Nat.le_refl _, Nat.zero_le _, by simp, by simp⟩⟩, Reps.none _ _⟩
theorem KM45 {w : World} {base : Nat} {okp : Nat → Prop} {x : PB.S45} {cs : List Value} (h : PB.k45.K w x cs) : PB.k45.M w base okp x cs := by
  obtain rfl := PB.k45_open h
  exact PB.k45_mkM w base okp x
/-- What a copy of a row leaves: the new row, of a block that was not there. -/
theorem clone_any (A : Option Addr) (c : Nat) (l : List PB.S45) (w : World) (hr : Kd.C PB.k45 w A l.length l) (hc : l.length ≤ c) (hl : l.length ≤ 60000) :
    Calls Try.prog 28 #[.slice A l.length c] w fun e w' => ∃ v, e = .returned v ∧ Kd.R PB.k45 45 w' w.heap.size (fun _ => True) v l ∧ Below w.heap.size w w' := by
  cases A with
  | none =>
    have h0 : l = [] := by
      cases l with
      | nil => rfl
      | cons x t =>
        obtain ⟨ad, e1, _⟩ := PB.at_T45 hr (0 : Int) (by omega) (by simp)
        cases e1
    subst h0
    clear hr
    have k1 : ∀ W : World, (binOp BinOp.eql 22 (.slice none 0 c) (.slice none 0 0)).run Try.prog W = .ok (.bool true) W := fun W => rfl
    go_enter Try.func28, Try.ntmps28
    go_wp2
    refine bodyPost_ret (v := .slice none 0 0) (by simp [results, Try.results28, go_sem]) rfl ?_
    exact ⟨.slice none 0 0, rfl, Kd.R_nil _ _ _ _ _, Below.refl _ _⟩
  | some ad =>
    have HR := Lib.hid hr; clear hr
    have k1 : ∀ W : World, (binOp BinOp.eql 22 (.slice (some ad) l.length c) (.slice none 0 0)).run Try.prog W = .ok (.bool false) W := fun W => rfl
    go_enter Try.func28, Try.ntmps28
    go_wp2_with (at_builtin; refine Kd.R_append_rows PB.k45 (w0 := w) w.heap.size rfl (.tmp 5) (.tmp 6) 22 45 z0 80 rfl Try.underlying22 info45 rfl (by decide) (by omega) (.slice (some ⟨w.heap.size, 0, none⟩) 0 0) [] l (some ad) l.length c (fun _ => True) (fun _ => False) rfl rfl (R_empty _ _ _ _ (heap_new _ _) (Nat.le_refl _) trivial) (Kd.C_below HR.out ((Below.refl _ _).alloc (Nat.le_refl _) _)) (fun x cs h => KM45 h) (fun k hk => hk.elim) (fun _ _ => trivial) ((Below.refl _ _).alloc (Nat.le_refl _) _) (by simp) (by simp; omega) ?_)
    intro v1 w1 hR hB hg hat
    go_wp2
    refine bodyPost_ret (v := v1) (by simp [results, Try.results28, go_sem]) rfl ?_
    exact ⟨v1, rfl, by simpa using hR, hB⟩
end Go.Proofs.Ytmkipdleggkkkaa.Own
/- A partition in memory, and the walk of Append. -/
namespace Go.Proofs.Ytmkipdleggkkkaa.Own
open Go.RowKit Go.Proofs.YtmkipdleggkkkaaW.PrintWords
set_option maxRecDepth 100000
set_option linter.unusedSimpArgs false
set_option linter.unusedVariables false
/-- A partition: its block g, the row of its records v. -/
structure PS (B g : Nat) (v : Value) (l : List PB.S45) (st nx mk : Int) (w : World) : Prop where
  blk : w.heap[g]? = some (.cells #[v, .int .i64 st, .int .i64 nx, .int .i64 mk] 53 (0, 0))
  lo : B ≤ g
  row : Kd.R PB.k45 45 w B (fun k => k ≠ g) v l
/-- Nothing of what was there changes but one partition's block, and its records' row; new blocks come. -/
structure Fr (g : Nat) (v : Value) (w w' : World) : Prop where
  os : w'.os = w.os
  tape : w'.tape = w.tape
  output : w'.output = w.output
  size : w.heap.size ≤ w'.heap.size
  block : ∀ k, k < w.heap.size → k ≠ g → some k ≠ v.ownBlock → w'.heap[k]? = w.heap[k]?
theorem Fr.refl (g : Nat) (v : Value) (w : World) : Fr g v w w := ⟨rfl, rfl, rfl, Nat.le_refl _, fun _ _ _ _ => rfl⟩
theorem Fr.trans {g : Nat} {v v1 : Value} {w w1 w2 : World} (h : Fr g v w w1) (h1 : Fr g v1 w1 w2) (hv : v1.ownBlock = v.ownBlock ∨ ∃ b, v1.ownBlock = some b ∧ w.heap.size ≤ b) : Fr g v w w2 :=
  ⟨h1.os.trans h.os, h1.tape.trans h.tape, h1.output.trans h.output, Nat.le_trans h.size h1.size, fun k hk hg hn => by
    rw [h1.block k (Nat.lt_of_lt_of_le hk h.size) hg ?_, h.block k hk hg hn]
    rcases hv with e | ⟨b, e, hb⟩
    · rw [e]; exact hn
    · rw [e]; intro e2; injection e2 with e2; omega⟩
theorem Fr.below {g : Nat} {v : Value} {w w1 w2 : World} (h : Fr g v w w1) (hb : Below w1.heap.size w1 w2) : Fr g v w w2 :=
  ⟨hb.os.trans h.os, hb.tape.trans h.tape, hb.output.trans h.output, Nat.le_trans h.size hb.size, fun k hk hg hn => (hb.block k (Nat.lt_of_lt_of_le hk h.size)).trans (h.block k hk hg hn)⟩
theorem Fr.grown {g : Nat} {v : Value} {w w1 w2 : World} (h : Fr g v w w1) {r : Option Nat} (hb : w1.grownBy w2 r) (hr : ∀ k, k < w.heap.size → some k = r → some k = v.ownBlock) : Fr g v w w2 :=
  ⟨hb.os.trans h.os, hb.tape.trans h.tape, hb.output.trans h.output, Nat.le_trans h.size hb.size, fun k hk hg hn => (hb.block k (Nat.lt_of_lt_of_le hk h.size) (fun e => hn (hr k hk e))).trans (h.block k hk hg hn)⟩
theorem Fr.set {g : Nat} {v : Value} {w w1 : World} (h : Fr g v w w1) (i : Nat) (u : Value) : Fr g v w (w1.setCell ⟨g, i, none⟩ u) :=
  ⟨h.os, h.tape, h.output, by simpa [World.setCell] using h.size, fun k hk hg hn => by rw [heap_far _ _ _ hg]; exact h.block k hk hg hn⟩
theorem PS.below {B g : Nat} {v : Value} {l : List PB.S45} {st nx mk : Int} {w w1 : World} (h : PS B g v l st nx mk w) (hb : Below w.heap.size w w1) : PS B g v l st nx mk w1 := ⟨blk_below h.blk hb, h.lo, Kd.R_below h.row hb⟩
theorem append_bad (B g : Nat) (v : Value) (l : List PB.S45) (st nx mk : Int) (A : Option Addr) (c : Nat) (xs : List PB.S45) (w : World) (h : PS B g v l st nx mk w) (hr : Kd.C PB.k45 w A xs.length xs) (hc : xs.length ≤ c) (hl : xs.length ≤ 60000)
    (hb : decide (∃ x ∈ xs, PuB.mayB x = false) = true) :
    Calls Try.prog 9 #[.pointer (some ⟨g, 0, none⟩), .slice A xs.length c] w fun e w' => e = .returned (.int .i64 1) ∧ Below w.heap.size w w' := by
  go_enter Try.func9, Try.ntmps9
  go_wp2_with fail
  refine (contains_any A c xs _ hr hc hl).mono ?_
  rintro e w2 ⟨rfl, b2⟩
  rw [hb]
  go_wp2
  go_ret
  exact ⟨rfl, b2⟩
end Go.Proofs.Ytmkipdleggkkkaa.Own
/- Rising offsets. -/
namespace Go.Proofs.Ytmkipdleggkkkaa.Own
open Go.RowKit Go.Proofs.YtmkipdleggkkkaaW.PrintWords Go.Proofs.Ytmkipdleggkkkaa.Pu
set_option maxRecDepth 100000
set_option linter.unusedSimpArgs false
set_option linter.unusedVariables false
/-- Do offsets rise, from one on? -/
def riseB : List PB.S45 → Int → Bool
  | [], _ => true
  | x :: t, a => if x.f0 < a then false else riseB t (wrap64 (x.f0 + 1))
theorem rd_get (l : List PB.S45) (k : Nat) (hk : k < l.length) : PB.rd_T45 l (k : Int) = l[k] := by
  unfold PB.rd_T45
  simp [hk]
theorem rise_ev (l : List PB.S45) (hl : l.length ≤ 60000) : ∀ (n k : Nat) (a : Int), k + n = l.length → Ev (fun q => PB.part_rise.l0 q a l (l.length : Int) (k : Int)) (riseB (l.drop k) a) := by
  intro n
  induction n with
  | zero =>
    intro k a h
    rw [List.drop_of_length_le (by omega)]
    exact Ev.step (fun q => PB.part_rise.l0.eq_2 ..) (Ev.neg (by omega) (Ev.cst rfl))
  | succ n ih =>
    intro k a h
    have hk : k < l.length := by omega
    refine Ev.step (fun q => PB.part_rise.l0.eq_2 ..) (Ev.pos (by omega) (Ev.pos (by omega) (Ev.pos (by omega) ?_)))
    rw [rd_get l k hk, List.drop_eq_getElem_cons hk, riseB]
    by_cases hx : l[k].f0 < a
    · rw [if_pos hx]; exact Ev.pos hx (Ev.cst rfl)
    · rw [if_neg hx]
      refine Ev.neg hx ?_
      have hw : wrap64 ((k : Int) + 1) = ((k + 1 : Nat) : Int) := by unfold wrap64; omega
      rw [hw]
      exact ih (k + 1) _ (by omega)
theorem rise_any (A : Option Addr) (c : Nat) (l : List PB.S45) (a : Int) (w : World) (hr : Kd.C PB.k45 w A l.length l) (hc : l.length ≤ c) (hl : l.length ≤ 60000) :
    Calls Try.prog 27 #[.slice A l.length c, .int .i64 a] w fun e w' => e = .returned (.bool (riseB l a)) ∧ Below w.heap.size w w' := by
  obtain ⟨k, hk⟩ := Ev.rounds (rise_ev l hl l.length 0 a (by omega))
  exact PB.part_rise.calls k A c l a _ w hr hc (by unfold PB.part_rise.f; exact hk)
theorem append_low (B g : Nat) (v : Value) (l : List PB.S45) (st nx mk : Int) (A : Option Addr) (c : Nat) (xs : List PB.S45) (w : World) (h : PS B g v l st nx mk w) (hr : Kd.C PB.k45 w A xs.length xs) (hc : xs.length ≤ c) (hl : xs.length ≤ 60000)
    (hb : decide (∃ x ∈ xs, PuB.mayB x = false) = false) (hi : riseB xs nx = false) :
    Calls Try.prog 9 #[.pointer (some ⟨g, 0, none⟩), .slice A xs.length c] w fun e w' => e = .returned (.int .i64 34) ∧ Below w.heap.size w w' := by
  go_enter Try.func9, Try.ntmps9
  go_wp2_with fail
  refine (contains_any A c xs _ hr hc hl).mono ?_
  rintro e w2 ⟨rfl, b2⟩
  rw [hb]
  have q2 := blk_cell (h.below b2).blk 2
  simp at q2
  go_wp2_with fail
  refine (rise_any A c xs nx _ (Kd.C_below hr b2) hc hl).mono ?_
  rintro e w3 ⟨rfl, b3⟩
  rw [hi]
  have B3 := Lib.hid (below_two b2 b3)
  go_wp2
  go_ret
  exact ⟨rfl, B3.out⟩
end Go.Proofs.Ytmkipdleggkkkaa.Own
/- The walk of Append where it puts records. -/
namespace Go.Proofs.Ytmkipdleggkkkaa.Own
open Go.RowKit Go.Proofs.YtmkipdleggkkkaaW.PrintWords
set_option maxRecDepth 100000
set_option linter.unusedSimpArgs false
set_option linter.unusedVariables false
/-- The next offset behind records. -/
def nxt (xs : List PB.S45) (nx : Int) : Int := xs.foldl (fun _ x => wrap64 (x.f0 + 1)) nx
theorem nxt_take (xs : List PB.S45) (nx : Int) (k : Nat) (hk : k < xs.length) : nxt (xs.take (k + 1)) nx = wrap64 ((PB.rd_T45 xs (k : Int)).f0 + 1) := by
  rw [List.take_succ_eq_append_getElem hk, nxt, List.foldl_append, rd_get xs k hk]
  rfl
theorem take_rd (xs l : List PB.S45) (k : Nat) (hk : k < xs.length) : l ++ xs.take (k + 1) = (l ++ xs.take k) ++ [PB.rd_T45 xs (k : Int)] := by
  rw [List.take_succ_eq_append_getElem hk, rd_get xs k hk, List.append_assoc]
theorem Fr.cell {g : Nat} {v : Value} {w w1 : World} (h : Fr g v w w1) {a : Addr} {u : Value} (hc : w.cell? a = some u) (hg : a.block ≠ g) (hv : some a.block ≠ v.ownBlock) : w1.cell? a = some u := by
  have hb := h.block a.block (World.block_lt_of_cell? w _ hc) hg hv
  rw [← hc]
  simp only [World.cell?, hb]
def Sep (A : Option Addr) (n : Nat) (g : Nat) (v : Value) : Prop := 0 < n → ∀ ad, A = some ad → ad.block ≠ g ∧ some ad.block ≠ v.ownBlock
theorem grown_of_drew {w w1 : World} {r : Option Nat} (h : w.drew.grownBy w1 r) : w.grownBy w1 r := ⟨h.os, h.tape, h.output, h.size, h.block⟩
theorem append_ok (B g : Nat) (v : Value) (l : List PB.S45) (st nx mk : Int) (A : Option Addr) (c : Nat) (xs : List PB.S45) (w : World) (h : PS B g v l st nx mk w) (hr : Kd.C PB.k45 w A xs.length xs) (hc : xs.length ≤ c) (hl : xs.length ≤ 60000) (hll : l.length ≤ 60000)
    (hs : Sep A xs.length g v) (hb : decide (∃ x ∈ xs, PuB.mayB x = false) = false) (hi : riseB xs nx = true) :
    Calls Try.prog 9 #[.pointer (some ⟨g, 0, none⟩), .slice A xs.length c] w fun e w' => e = .returned (.int .i64 0) ∧ ∃ v', PS B g v' (l ++ xs) st (nxt xs nx) mk w' ∧ Fr g v w w' ∧ (v'.ownBlock = v.ownBlock ∨ ∃ b, v'.ownBlock = some b ∧ w.heap.size ≤ b) := by
  go_enter Try.func9, Try.ntmps9
  go_wp2_with fail
  refine (contains_any A c xs _ hr hc hl).mono ?_
  rintro e w2 ⟨rfl, b2⟩
  rw [hb]
  have q2 := blk_cell (h.below b2).blk 2
  simp at q2
  go_wp2_with fail
  refine (rise_any A c xs nx _ (Kd.C_below hr b2) hc hl).mono ?_
  rintro e w3 ⟨rfl, b3⟩
  rw [hi]
  have P3 := Lib.hid ((h.below b2).below b3)
  have F3 := Lib.hid ((Fr.refl g v w).below b2 |>.below b3)
  have HR := Lib.hid hr
  have HS := Lib.hid hs
  clear h hr hs b2 b3 q2
  go_wp2_with fail
  go_loopw [23] (fun i wr => ∃ (k : Nat) (v' : Value), k ≤ xs.length ∧ i = .int .i64 k ∧ PS B g v' (l ++ xs.take k) st (nxt (xs.take k) nx) mk wr ∧ Fr g v w wr ∧ (v'.ownBlock = v.ownBlock ∨ ∃ b, v'.ownBlock = some b ∧ w.heap.size ≤ b)) (fun i _ => xs.length - (intOf i).toNat)
  case atStart => exact ⟨0, v, Nat.zero_le _, rfl, by rw [List.take_zero, List.append_nil]; exact P3.out, F3.out, Or.inl rfl⟩
  case round =>
    obtain ⟨k, v', hk, rfl, hps, hfr, hown⟩ := hrel
    have PSk := Lib.hid hps; clear hps
    have FRk := Lib.hid hfr; clear hfr
    have OWk := Lib.hid hown; clear hown
    by_cases hlt : k < xs.length
    · have p1 : (0 : Int) ≤ (k : Int) := Int.natCast_nonneg _
      have p2 : (k : Int) < (xs.length : Int) := by omega
      have hw : wrap64 ((k : Int) + 1) = ((k + 1 : Nat) : Int) := by unfold wrap64; omega
      have hn := nxt_take xs nx k hlt
      have ht := take_rd xs l k hlt
      obtain ⟨ad, e1, x0, x1, x2, x3, x4, x5, x6, x7⟩ := PB.at_T45 HR.out (k : Int) p1 p2
      have hsep := HS.out (by omega) ad e1
      cases e1
      rw [Int.toNat_natCast] at x0 x1 x2 x3 x4 x5 x6 x7
      have hab : (ad.add (k * 8)).block = ad.block := by unfold Addr.add; split <;> rfl
      replace x0 := FRk.out.cell x0 (by rw [hab]; exact hsep.1) (by rw [hab]; exact hsep.2)
      replace x1 := FRk.out.cell x1 (by rw [hab]; exact hsep.1) (by rw [hab]; exact hsep.2)
      replace x2 := FRk.out.cell x2 (by rw [hab]; exact hsep.1) (by rw [hab]; exact hsep.2)
      replace x3 := FRk.out.cell x3 (by rw [hab]; exact hsep.1) (by rw [hab]; exact hsep.2)
      replace x4 := FRk.out.cell x4 (by rw [hab]; exact hsep.1) (by rw [hab]; exact hsep.2)
      replace x5 := FRk.out.cell x5 (by rw [hab]; exact hsep.1) (by rw [hab]; exact hsep.2)
      replace x6 := FRk.out.cell x6 (by rw [hab]; exact hsep.1) (by rw [hab]; exact hsep.2)
      replace x7 := FRk.out.cell x7 (by rw [hab]; exact hsep.1) (by rw [hab]; exact hsep.2)
      generalize PB.rd_T45 xs (k : Int) = x at *
      have Hn := Lib.hid hn; clear hn
      have Ht := Lib.hid ht; clear ht
      clear hab hsep
      go_upto_region 10 with (fail)
      have hPS := PSk.out.below ((Below.refl _ wr).alloc (Nat.le_refl _) (.cells #[.int .i64 x.f0, .int .i64 x.f1, .string x.f2, .string x.f3, .bool x.f4, .int .i64 x.f5, .int .i64 x.f6, .int .i64 x.f7] 45))
      have hFR := FRk.out.below ((Below.refl _ wr).alloc (Nat.le_refl _) (.cells #[.int .i64 x.f0, .int .i64 x.f1, .string x.f2, .string x.f3, .bool x.f4, .int .i64 x.f5, .int .i64 x.f6, .int .i64 x.f7] 45))
      have hbx := heap_new wr (.cells #[.int .i64 x.f0, .int .i64 x.f1, .string x.f2, .string x.f3, .bool x.f4, .int .i64 x.f5, .int .i64 x.f6, .int .i64 x.f7] 45)
      have hbo : ∀ b, v'.ownBlock = some b → b < wr.heap.size := fun b hb => (Kd.R_bound PSk.out.row).1 b hb |>.2.2.1
      have hgl := blk_lt PSk.out.blk
      clear x0 x1 x2 x3 x4 x5 x6 x7
      generalize hW : wr.alloc (.cells #[.int .i64 x.f0, .int .i64 x.f1, .string x.f2, .string x.f3, .bool x.f4, .int .i64 x.f5, .int .i64 x.f6, .int .i64 x.f7] 45) = W0 at *
      clear hW
      have HPS := Lib.hid hPS; clear hPS
      have HFR := Lib.hid hFR; clear hFR
      have HBX := Lib.hid hbx; clear hbx
      have HBO := Lib.hid hbo; clear hbo
      have HGL := Lib.hid hgl; clear hgl
      generalize hbb : wr.heap.size = bx at *
      have y0 := blk_cell HBX.out 0
      have y1 := blk_cell HBX.out 1
      have y2 := blk_cell HBX.out 2
      have y3 := blk_cell HBX.out 3
      have y4 := blk_cell HBX.out 4
      have y5 := blk_cell HBX.out 5
      have y6 := blk_cell HBX.out 6
      have y7 := blk_cell HBX.out 7
      have g0 := blk_cell HPS.out.blk 0
      simp at y0 y1 y2 y3 y4 y5 y6 y7 g0
      have hne : some g ≠ v'.ownBlock := fun e => PSk.out.row.1 g e.symm rfl
      have hne2 : some bx ≠ v'.ownBlock := fun e => by have := HBO.out bx e.symm; omega
      have hgx : ¬ bx = g := by have := HGL.out; omega
      have hgx2 : ¬ g = bx := by have := HGL.out; omega
      have gl0 := blk_lt HPS.out.blk
      have gn1 : ¬ g = W0.heap.size := by omega
      have gn2 : ¬ W0.heap.size = g := by omega
      have gz : (W0.alloc (.cells #[.int .i64 x.f0, .int .i64 x.f1, .string x.f2, .string x.f3, .bool x.f4, .int .i64 x.f5, .int .i64 x.f6, .int .i64 x.f7] 45)).cell? ⟨g, 0, none⟩ = some v' := (blk_cell ((heap_old W0 _ gl0).trans HPS.out.blk) 0).trans rfl
      go_region_law (refine Kd.R_append_step PB.k45 (w0 := W0.drew) (W := W0.drew) B (by rfl) (.tmp 31) (.tmp 33) 22 45 z0 80 rfl Try.underlying22 info45 rfl (by decide) (by omega) v' (l ++ xs.take k) x [.int .i64 x.f0, .int .i64 x.f1, .string x.f2, .string x.f3, .bool x.f4, .int .i64 x.f5, .int .i64 x.f6, .int .i64 x.f7] (fun k => k ≠ g) (fun _ => False) (by simp [Act.eval, Act.put]) (by simp [Act.eval, Act.put]) (PB.k45_mkM _ _ _ x) (fun k hk => hk.elim) (fun q hq => by have := blk_lt HPS.out.blk; have hq' : W0.heap.size ≤ q := hq; omega) (Kd.R_drew HPS.out.row) (Below.refl _ _) (by have := HPS.out.lo; have := blk_lt HPS.out.blk; show B ≤ W0.heap.size; omega) (by rw [List.length_append, List.length_take]; omega) ?_; intro v1 w1 hR1 hB1 hg1 ha1; obtain ⟨A1, c1, rfl⟩ := Kd.R_slice hR1; have hK1 := (hg1.block g (blk_lt HPS.out.blk) hne).trans HPS.out.blk; have hX1 := (hg1.block bx (blk_lt HBX.out) hne2).trans HBX.out; have c0 : w1.cell? ⟨g, 0, none⟩ = some v' := (blk_cell hK1 0).trans rfl; have c2 : w1.cell? ⟨g, 2, none⟩ = some (.int .i64 (nxt (xs.take k) nx)) := (blk_cell hK1 2).trans rfl; have f0 := blk_free hK1 0; have f2 := blk_free hK1 2; have cx : w1.cell? ⟨bx, 0, none⟩ = some (.int .i64 x.f0) := (blk_cell hX1 0).trans rfl)
      all_goals
        have hlen : (l ++ xs.take k ++ [x]).length = l.length + (k + 1) := by rw [List.length_append, List.length_append, List.length_take, List.length_singleton]; omega
        rw [hlen] at hR1 ha1
        have HR1 := Lib.hid hR1; clear hR1
        clear hlen
        have HG1 := Lib.hid hg1; clear hg1
        have HA1 := Lib.hid ha1; clear ha1
        have HK1 := Lib.hid hK1; clear hK1
        clear hX1 hB1
        go_wp2
        go_roundw
        case rel =>
          refine ⟨k + 1, .slice A1 (l.length + (k + 1)) c1, by omega, by go_num, ⟨?_, PSk.out.lo, ?_⟩, ?_, ?_⟩
          · have e1 := heap_set (heap_set HK1.out (i := 0) (.slice A1 (l.length + (k + 1)) c1)) (i := 2) (.int .i64 (wrap64 (x.f0 + 1)))
            rw [Hn.out]
            exact e1
          · rw [Ht.out]
            exact Kd.R_far (Kd.R_far HR1.out (fun k hk => hk) _) (fun k hk => hk) _
          · refine Fr.set (Fr.set (HFR.out.grown (grown_of_drew HG1.out) ?_) _ _) _ _
            intro q hq e
            rcases OWk.out with o | ⟨b, o, hb⟩
            · exact e.trans o
            · rw [o] at e; injection e with e; omega
          · rcases HA1.out with o | ⟨b, o, hb⟩
            · rw [o]; exact OWk.out
            · exact Or.inr ⟨b, o, Nat.le_trans HFR.out.size hb⟩
        case measure => simp [intOf]; omega
    · obtain rfl : k = xs.length := by omega
      have p2 : ¬ (xs.length : Int) < (xs.length : Int) := by omega
      go_wp2
      go_ret
      have hps := PSk.out
      rw [List.take_length] at hps
      exact ⟨rfl, v', hps, FRk.out, OWk.out⟩
end Go.Proofs.Ytmkipdleggkkkaa.Own
/- The walks of a partition's small functions. -/
namespace Go.Proofs.Ytmkipdleggkkkaa.Own
open Go.RowKit Go.Proofs.YtmkipdleggkkkaaW.PrintWords
set_option maxRecDepth 100000
set_option linter.unusedSimpArgs false
set_option linter.unusedVariables false
theorem PS.len {B g : Nat} {v : Value} {l : List PB.S45} {st nx mk : Int} {w : World} (h : PS B g v l st nx mk w) : ∃ A c, v = .slice A l.length c ∧ l.length ≤ c ∧ Kd.C PB.k45 w A l.length l := by
  obtain ⟨A, c, e⟩ := Kd.R_slice h.row
  subst e
  have := Kd.R_reads' h.row
  exact ⟨A, c, rfl, this.2.1, this.2.2⟩
theorem new_any (B : Nat) (w : World) (hB : B ≤ w.heap.size) : Calls Try.prog 8 #[] w fun e w' => ∃ g, e = .returned (.pointer (some ⟨g, 0, none⟩)) ∧ g = w.heap.size ∧ PS B g (.slice none 0 0) [] 0 0 0 w' ∧ Below w.heap.size w w' := by
  go_enter Try.func8, Try.ntmps8
  go_wp2
  refine bodyPost_ret (v := .pointer (some ⟨w.heap.size, 0, none⟩)) (by simp [results, Try.results8, go_sem]) rfl ?_
  exact ⟨w.heap.size, rfl, rfl, ⟨heap_new _ _, hB, Kd.R_nil _ _ _ _ _⟩, (Below.refl _ _).alloc (Nat.le_refl _) _⟩
theorem next_any {B g : Nat} {v : Value} {l : List PB.S45} {st nx mk : Int} {w : World} (h : PS B g v l st nx mk w) : Calls Try.prog 13 #[.pointer (some ⟨g, 0, none⟩)] w fun e w' => e = .returned (.int .i64 nx) ∧ Below w.heap.size w w' := by
  have q := blk_cell h.blk 2
  simp at q
  go_enter Try.func13, Try.ntmps13
  go_wp2
  go_ret
  exact ⟨rfl, Below.refl _ _⟩
theorem seen_any {B g : Nat} {v : Value} {l : List PB.S45} {st nx mk : Int} {w : World} (h : PS B g v l st nx mk w) : Calls Try.prog 14 #[.pointer (some ⟨g, 0, none⟩)] w fun e w' => e = .returned (.int .i64 mk) ∧ Below w.heap.size w w' := by
  have q := blk_cell h.blk 3
  simp at q
  go_enter Try.func14, Try.ntmps14
  go_wp2
  go_ret
  exact ⟨rfl, Below.refl _ _⟩
theorem start_any {B g : Nat} {v : Value} {l : List PB.S45} {st nx mk : Int} {w : World} (h : PS B g v l st nx mk w) : Calls Try.prog 20 #[.pointer (some ⟨g, 0, none⟩)] w fun e w' => e = .returned (.int .i64 st) ∧ Below w.heap.size w w' := by
  have q := blk_cell h.blk 1
  simp at q
  go_enter Try.func20, Try.ntmps20
  go_wp2
  go_ret
  exact ⟨rfl, Below.refl _ _⟩
theorem mark_any {B g : Nat} {v : Value} {l : List PB.S45} {st nx mk : Int} {w : World} (h : PS B g v l st nx mk w) : Calls Try.prog 10 #[.pointer (some ⟨g, 0, none⟩)] w fun e w' => e = .returned (.tuple #[]) ∧ PS B g v l st nx nx w' ∧ Fr g v w w' := by
  have H := Lib.hid h
  have q := blk_cell h.blk 2
  have q3 := blk_cell h.blk 3
  have f3 := blk_free h.blk 3
  simp at q q3
  clear h
  go_enter Try.func10, Try.ntmps10
  go_wp2
  refine bodyPost_end (v := .tuple #[]) (by simp [results, Try.results10, go_sem]) rfl ?_
  refine ⟨rfl, ⟨?_, H.out.lo, Kd.R_far H.out.row (fun k hk => hk) _⟩, Fr.set (Fr.refl _ _ _) _ _⟩
  exact heap_set H.out.blk (i := 3) (.int .i64 nx)
theorem set_state {B g : Nat} {v : Value} {l : List PB.S45} {st nx mk : Int} {w : World} (h : PS B g v l st nx mk w) (a b : Int) (hl : 0 < l.length ∨ nx ≠ 0) :
    Calls Try.prog 24 #[.pointer (some ⟨g, 0, none⟩), .int .i64 a, .int .i64 b] w fun e w' => e = .returned (.int .i64 7) ∧ Below w.heap.size w w' := by
  obtain ⟨A, c, rfl, hc, hC⟩ := h.len
  have q := blk_cell h.blk 0
  have q2 := blk_cell h.blk 2
  simp at q q2
  by_cases h0 : 0 < l.length
  · have e1 : decide ((l.length : Int) > 0) = true := by rw [decide_eq_true_iff]; omega
    have e2 : (0 : Int) < (l.length : Int) := by omega
    have e3 : ¬ l.length = 0 := by omega
    clear hl hC
    go_enter Try.func24, Try.ntmps24
    go_wp2
    all_goals go_ret
    all_goals exact ⟨rfl, Below.refl _ _⟩
  · have e1 : decide ((l.length : Int) > 0) = false := by rw [decide_eq_false_iff_not]; omega
    have e2 : ¬ (0 : Int) < (l.length : Int) := by omega
    have e3 : l.length = 0 := by omega
    have e4 : (nx != 0) = true := by rw [bne_iff_ne]; rcases hl with h | h; exact absurd h h0; exact h
    have e5 : ¬ nx = 0 := by rwa [bne_iff_ne] at e4
    clear hl hC
    go_enter Try.func24, Try.ntmps24
    go_wp2
    all_goals go_ret
    all_goals exact ⟨rfl, Below.refl _ _⟩
theorem set_arg {B g : Nat} {v : Value} {st mk : Int} {w : World} (h : PS B g v [] st 0 mk w) (a b : Int) (hl : a < 0 ∨ a > b ∨ b > 1048577) :
    Calls Try.prog 24 #[.pointer (some ⟨g, 0, none⟩), .int .i64 a, .int .i64 b] w fun e w' => e = .returned (.int .i64 1) ∧ Below w.heap.size w w' := by
  obtain ⟨A, c, rfl, hc, hC⟩ := h.len
  have q := blk_cell h.blk 0
  have q2 := blk_cell h.blk 2
  simp at q q2
  by_cases h0 : a < 0
  · clear hl hC
    go_enter Try.func24, Try.ntmps24
    go_wp2
    all_goals go_ret
    all_goals exact ⟨rfl, Below.refl _ _⟩
  · by_cases h1 : a > b
    · clear hl hC
      go_enter Try.func24, Try.ntmps24
      go_wp2
      all_goals go_ret
      all_goals exact ⟨rfl, Below.refl _ _⟩
    · have h2 : b > 1048577 := by omega
      clear hl hC
      go_enter Try.func24, Try.ntmps24
      go_wp2
      all_goals go_ret
      all_goals exact ⟨rfl, Below.refl _ _⟩
theorem set_ok {B g : Nat} {v : Value} {st mk : Int} {w : World} (h : PS B g v [] st 0 mk w) (a b : Int) (h0 : 0 ≤ a) (h1 : a ≤ b) (h2 : b ≤ 1048577) :
    Calls Try.prog 24 #[.pointer (some ⟨g, 0, none⟩), .int .i64 a, .int .i64 b] w fun e w' => e = .returned (.int .i64 0) ∧ PS B g v [] a b b w' ∧ Fr g v w w' := by
  have H := Lib.hid h
  obtain ⟨A, c, rfl, hc, hC⟩ := h.len
  have q := blk_cell h.blk 0
  have q1 := blk_cell h.blk 1
  have q2 := blk_cell h.blk 2
  have q3 := blk_cell h.blk 3
  have f1 := blk_free h.blk 1
  have f2 := blk_free h.blk 2
  have f3 := blk_free h.blk 3
  simp at q q1 q2 q3
  clear hC h
  go_enter Try.func24, Try.ntmps24
  go_wp2
  go_ret
  refine ⟨rfl, ⟨?_, H.out.lo, ?_⟩, Fr.set (Fr.set (Fr.set (Fr.refl _ _ _) _ _) _ _) _ _⟩
  · exact heap_set (heap_set (heap_set H.out.blk (i := 1) (.int .i64 a)) (i := 2) (.int .i64 b)) (i := 3) (.int .i64 b)
  · exact Kd.R_far (Kd.R_far (Kd.R_far H.out.row (fun k hk => hk) _) (fun k hk => hk) _) (fun k hk => hk) _
theorem all_any {B g : Nat} {v : Value} {l : List PB.S45} {st nx mk : Int} {w : World} (h : PS B g v l st nx mk w) (hl : l.length ≤ 60000) : Calls Try.prog 12 #[.pointer (some ⟨g, 0, none⟩)] w fun e w' => ∃ u, e = .returned u ∧ Kd.R PB.k45 45 w' w.heap.size (fun _ => True) u l ∧ Below w.heap.size w w' := by
  obtain ⟨A, c, rfl, hc, hC⟩ := h.len
  have q := blk_cell h.blk 0
  simp at q
  go_enter Try.func12, Try.ntmps12
  go_wp2_with fail
  refine (clone_any A c l _ hC hc hl).mono ?_
  rintro e w2 ⟨u, rfl, hR, b2⟩
  go_wp2
  refine bodyPost_ret (v := u) (by simp [results, Try.results12, go_sem]) rfl ?_
  exact ⟨u, rfl, hR, b2⟩
end Go.Proofs.Ytmkipdleggkkkaa.Own
/- The walks of sort.Search and find. -/
namespace Go.Proofs.Ytmkipdleggkkkaa.Own
open Go.RowKit Go.Proofs.YtmkipdleggkkkaaW.PrintWords
set_option maxRecDepth 100000
set_option linter.unusedSimpArgs false
set_option linter.unusedVariables false
theorem less_any {B g : Nat} {v : Value} {l : List PB.S45} {st nx mk : Int} {w : World} (h : PS B g v l st nx mk w) (bp bx : Nat) (x : Int) (i : Nat) (hi : i < l.length)
    (hp : w.heap[bp]? = some (.cells #[.pointer (some ⟨g, 0, none⟩)] 24 (0, 0))) (hx : w.heap[bx]? = some (.cells #[.int .i64 x] 3 (0, 0))) :
    Calls Try.prog 44 #[.int .i64 (i : Int), .pointer (some ⟨bp, 0, none⟩), .pointer (some ⟨bx, 0, none⟩)] w fun e w' => e = .returned (.bool (decide ((PB.rd_T45 l (i : Int)).f0 ≥ x))) ∧ Below w.heap.size w w' := by
  obtain ⟨A, c, rfl, hc, hC⟩ := h.len
  have q := blk_cell h.blk 0
  have q2 := blk_cell hp 0
  have q3 := blk_cell hx 0
  simp at q q2 q3
  have p1 : (0 : Int) ≤ (i : Int) := Int.natCast_nonneg _
  have p2 : (i : Int) < (l.length : Int) := by omega
  obtain ⟨ad, e1, x0, _⟩ := PB.at_T45 hC (i : Int) p1 p2
  cases e1
  rw [Int.toNat_natCast] at x0
  generalize PB.rd_T45 l (i : Int) = y at *
  go_enter Try.func44, Try.ntmps44
  go_wp2_with fail
  go_quiet (fail)
  go_wp2
  go_ret
  exact ⟨rfl, by first | exact Below.refl _ _ | exact pw_below_drewN (Below.refl _ _) _ | exact (Below.refl _ _).drew⟩
def cutAt (l : List PB.S45) (x : Int) (m : Nat) : Prop := m ≤ l.length ∧ (∀ t, t < m → (PB.rd_T45 l (t : Int)).f0 < x) ∧ (∀ t, m ≤ t → t < l.length → x ≤ (PB.rd_T45 l (t : Int)).f0)
def risen (l : List PB.S45) : Prop := ∀ a b, a < b → b < l.length → (PB.rd_T45 l (a : Int)).f0 < (PB.rd_T45 l (b : Int)).f0
theorem search_any {B g : Nat} {v : Value} {l : List PB.S45} {st nx mk : Int} {w : World} (h : PS B g v l st nx mk w) (bp bx : Nat) (x : Int)
    (hp : w.heap[bp]? = some (.cells #[.pointer (some ⟨g, 0, none⟩)] 24 (0, 0))) (hx : w.heap[bx]? = some (.cells #[.int .i64 x] 3 (0, 0))) (hl : l.length ≤ 60000) (hs : risen l) :
    Calls Try.prog 43 #[.int .i64 (l.length : Int), .func (.func 44) #[] #[.pointer (some ⟨bp, 0, none⟩), .pointer (some ⟨bx, 0, none⟩)]] w fun e w' => (∃ m : Nat, e = .returned (.int .i64 (m : Int)) ∧ cutAt l x m) ∧ Below w.heap.size w w' := by
  have H := Lib.hid h
  have HP := Lib.hid hp
  have HX := Lib.hid hx
  have HS := Lib.hid hs
  clear h hp hx hs
  go_enter Try.func43, Try.ntmps43
  go_wp2_with fail
  go_loopw [5, 6] (fun i j wr => ∃ a b : Nat, a ≤ b ∧ b ≤ l.length ∧ i = .int .i64 (a : Int) ∧ j = .int .i64 (b : Int) ∧ (∀ t, t < a → (PB.rd_T45 l (t : Int)).f0 < x) ∧ (∀ t, b ≤ t → t < l.length → x ≤ (PB.rd_T45 l (t : Int)).f0) ∧ Below w.heap.size w wr) (fun i j _ => (intOf j).toNat - (intOf i).toNat)
  case atStart => exact ⟨0, l.length, Nat.zero_le _, Nat.le_refl _, rfl, rfl, by intro t ht; omega, by intro t h1 h2; omega, Below.refl _ _⟩
  case round =>
    obtain ⟨a, b, hab, hb, rfl, rfl, h1, h2, bel⟩ := hrel
    have Bel := Lib.hid bel; clear bel
    have H1 := Lib.hid h1; clear h1
    have H2 := Lib.hid h2; clear h2
    by_cases hlt : a < b
    · obtain ⟨m, hm⟩ : ∃ m : Nat, m = (a + b) / 2 := ⟨_, rfl⟩
      have hm1 : a ≤ m := by omega
      have hm2 : m < b := by omega
      have p1 : (a : Int) < (b : Int) := by omega
      have e1 : ((a : Int) + (b : Int)) / 2 = (m : Int) := by omega
      have e0 : (0 : Int) ≤ (a : Int) + (b : Int) := by omega
      have e2 : wrap64 ((m : Int) + 1) = ((m + 1 : Nat) : Int) := by unfold wrap64; omega
      have e3 : wrap64 ((a : Int) + (b : Int)) = (a : Int) + (b : Int) := by unfold wrap64; omega
      clear hm
      go_wp2_with fail
      refine (less_any (H.out.below Bel.out) bp bx x m (by omega) (blk_below HP.out Bel.out) (blk_below HX.out Bel.out)).mono ?_
      rintro e w2 ⟨rfl, b2⟩
      have B2 := Lib.hid (below_two Bel.out b2); clear b2
      by_cases hc : (PB.rd_T45 l (m : Int)).f0 ≥ x
      · have c1 : decide ((PB.rd_T45 l (m : Int)).f0 ≥ x) = true := decide_eq_true hc
        rw [c1]
        have HC := Lib.hid hc; clear hc c1
        go_wp2
        go_roundw
        case rel =>
          refine ⟨a, m, hm1, by omega, rfl, rfl, H1.out, fun t t1 t2 => ?_, B2.out⟩
          rcases Nat.lt_or_ge m t with h | h
          · exact Int.le_of_lt (Int.lt_of_le_of_lt HC.out (HS.out m t h t2))
          · obtain rfl : t = m := by omega
            exact HC.out
        case measure => simp [intOf]; omega
      · have c1 : decide ((PB.rd_T45 l (m : Int)).f0 ≥ x) = false := decide_eq_false hc
        rw [c1]
        have HC := Lib.hid hc; clear hc c1
        go_wp2
        go_roundw
        case rel =>
          refine ⟨m + 1, b, by omega, hb, by go_num, rfl, fun t t1 => ?_, H2.out, B2.out⟩
          have hcl : (PB.rd_T45 l (m : Int)).f0 < x := by have := HC.out; omega
          rcases Nat.lt_or_ge t m with h | h
          · exact Int.lt_trans (HS.out t m h (by omega)) hcl
          · obtain rfl : t = m := by omega
            exact hcl
        case measure => simp [intOf]; omega
    · obtain rfl : a = b := by omega
      have p1 : ¬ (a : Int) < (a : Int) := by omega
      go_wp2
      go_ret
      exact ⟨⟨a, rfl, hb, H1.out, H2.out⟩, Bel.out⟩
theorem find_any {B g : Nat} {v : Value} {l : List PB.S45} {st nx mk : Int} {w : World} (h : PS B g v l st nx mk w) (x : Int) (hl : l.length ≤ 60000) (hs : risen l) :
    Calls Try.prog 36 #[.pointer (some ⟨g, 0, none⟩), .int .i64 x] w fun e w' => (∃ m : Nat, e = .returned (.int .i64 (m : Int)) ∧ cutAt l x m) ∧ Below w.heap.size w w' := by
  have H := Lib.hid h
  obtain ⟨A, c, rfl, hc, hC⟩ := h.len
  have q := blk_cell h.blk 0
  simp at q
  have hgl := blk_lt h.blk
  have n1 : ¬ g = w.heap.size := by omega
  have n2 : ¬ g = w.heap.size + 1 := by omega
  have n3 : ¬ w.heap.size = g := by omega
  have n4 : ¬ w.heap.size + 1 = g := by omega
  clear h hC
  go_enter Try.func36, Try.ntmps36
  go_wp2_with fail
  have b1 : Below w.heap.size w ((w.alloc (.cells #[.pointer (some ⟨g, 0, none⟩)] 24)).alloc (.cells #[.int .i64 x] 3)) := ((Below.refl _ _).alloc (Nat.le_refl _) _).alloc (by simp) _
  refine (search_any (H.out.below b1) w.heap.size (w.heap.size + 1) x ?_ ?_ hl hs).mono ?_
  · rw [heap_old _ _ (by simp), heap_new]
  · simpa using heap_new (w.alloc (.cells #[.pointer (some ⟨g, 0, none⟩)] 24)) (.cells #[.int .i64 x] 3)
  rintro e w2 ⟨⟨m, rfl, hm⟩, b2⟩
  have B2 := Lib.hid (below_two b1 b2)
  have HM := Lib.hid hm
  clear b1 b2 hm
  go_wp2
  go_ret
  exact ⟨⟨m, rfl, HM.out⟩, B2.out⟩
end Go.Proofs.Ytmkipdleggkkkaa.Own
