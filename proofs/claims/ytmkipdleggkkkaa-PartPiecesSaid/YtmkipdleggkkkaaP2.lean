/- A partition in memory, and the walk of Append. -/
import Derived.Test.YtmkipdleggkkkaaP1
namespace Go.Proofs.Ytmkipdleggkkkaa.Own
open Go.RowKit Go.Proofs.YtmkipdleggkkkaaW.PrintWords
set_option maxRecDepth 100000
set_option linter.unusedSimpArgs false
set_option linter.unusedVariables false
/-- A partition: its block g, the row of its records v. -/
structure PS (B g : Nat) (v : Value) (l : List PB.S45) (st nx mk : Int) (w : World) : Prop where
  blk : w.heap[g]? = some (.cells #[v, .int .i64 st, .int .i64 nx, .int .i64 mk] 53 (0, 0))
  lo : B ≤ g
  row : Kd.R PB.k45 45 w B (fun k => k ≠ g) v l
/-- Nothing of what was there changes but one partition's block, and its records' row; new blocks come. -/
structure Fr (g : Nat) (v : Value) (w w' : World) : Prop where
  os : w'.os = w.os
  tape : w'.tape = w.tape
  output : w'.output = w.output
  size : w.heap.size ≤ w'.heap.size
  block : ∀ k, k < w.heap.size → k ≠ g → some k ≠ v.ownBlock → w'.heap[k]? = w.heap[k]?
theorem Fr.refl (g : Nat) (v : Value) (w : World) : Fr g v w w := ⟨rfl, rfl, rfl, Nat.le_refl _, fun _ _ _ _ => rfl⟩
theorem Fr.trans {g : Nat} {v v1 : Value} {w w1 w2 : World} (h : Fr g v w w1) (h1 : Fr g v1 w1 w2) (hv : v1.ownBlock = v.ownBlock ∨ ∃ b, v1.ownBlock = some b ∧ w.heap.size ≤ b) : Fr g v w w2 :=
  ⟨h1.os.trans h.os, h1.tape.trans h.tape, h1.output.trans h.output, Nat.le_trans h.size h1.size, fun k hk hg hn => by
    rw [h1.block k (Nat.lt_of_lt_of_le hk h.size) hg ?_, h.block k hk hg hn]
    rcases hv with e | ⟨b, e, hb⟩
    · rw [e]; exact hn
    · rw [e]; intro e2; injection e2 with e2; omega⟩
theorem Fr.below {g : Nat} {v : Value} {w w1 w2 : World} (h : Fr g v w w1) (hb : Below w1.heap.size w1 w2) : Fr g v w w2 :=
  ⟨hb.os.trans h.os, hb.tape.trans h.tape, hb.output.trans h.output, Nat.le_trans h.size hb.size, fun k hk hg hn => (hb.block k (Nat.lt_of_lt_of_le hk h.size)).trans (h.block k hk hg hn)⟩
theorem Fr.grown {g : Nat} {v : Value} {w w1 w2 : World} (h : Fr g v w w1) {r : Option Nat} (hb : w1.grownBy w2 r) (hr : ∀ k, k < w.heap.size → some k = r → some k = v.ownBlock) : Fr g v w w2 :=
  ⟨hb.os.trans h.os, hb.tape.trans h.tape, hb.output.trans h.output, Nat.le_trans h.size hb.size, fun k hk hg hn => (hb.block k (Nat.lt_of_lt_of_le hk h.size) (fun e => hn (hr k hk e))).trans (h.block k hk hg hn)⟩
theorem Fr.set {g : Nat} {v : Value} {w w1 : World} (h : Fr g v w w1) (i : Nat) (u : Value) : Fr g v w (w1.setCell ⟨g, i, none⟩ u) :=
  ⟨h.os, h.tape, h.output, by simpa [World.setCell] using h.size, fun k hk hg hn => by rw [heap_far _ _ _ hg]; exact h.block k hk hg hn⟩
theorem PS.below {B g : Nat} {v : Value} {l : List PB.S45} {st nx mk : Int} {w w1 : World} (h : PS B g v l st nx mk w) (hb : Below w.heap.size w w1) : PS B g v l st nx mk w1 := ⟨blk_below h.blk hb, h.lo, Kd.R_below h.row hb⟩
theorem append_bad (B g : Nat) (v : Value) (l : List PB.S45) (st nx mk : Int) (A : Option Addr) (c : Nat) (xs : List PB.S45) (w : World) (h : PS B g v l st nx mk w) (hr : Kd.C PB.k45 w A xs.length xs) (hc : xs.length ≤ c) (hl : xs.length ≤ 60000)
    (hb : decide (∃ x ∈ xs, PuB.mayB x = false) = true) :
    Calls Try.prog 9 #[.pointer (some ⟨g, 0, none⟩), .slice A xs.length c] w fun e w' => e = .returned (.int .i64 1) ∧ Below w.heap.size w w' := by
  go_enter Try.func9, Try.ntmps9
  go_wp2_with fail
  refine (contains_any A c xs _ hr hc hl).mono ?_
  rintro e w2 ⟨rfl, b2⟩
  rw [hb]
  go_wp2
  go_ret
  exact ⟨rfl, b2⟩
end Go.Proofs.Ytmkipdleggkkkaa.Own
