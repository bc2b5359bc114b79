/- The walk of PartActs. -/
import Derived.Test.YtmkipdleggkkkaaUf
import Derived.Test.YtmkipdleggkkkaaPBx6
namespace Go.Proofs.Ytmkipdleggkkkaa.Own
open Go.RowKit Go.Proofs.YtmkipdleggkkkaaW.PrintWords Go.Proofs.YtmkipdleggkkkaaW.PrintLast Go.Proofs.YtmkipdleggkkkaaW.PrintMore Go.Proofs.Ytmkipdleggkkkaa.Pu
set_option maxRecDepth 100000
set_option linter.unusedSimpArgs false
set_option linter.unusedVariables false
def bigR (xs : List PB.S45) : Bool := xs.any fun r => decide (300 < r.f2.size) || decide (300 < r.f3.size)
def bigA (x : PB.S37) : Bool := if 30 < x.f3.length then true else bigR x.f3
def largeB (l : List PB.S37) : Bool := if 40 < l.length then true else l.any bigA
theorem rd_get37 (l : List PB.S37) (k : Nat) (hk : k < l.length) : PB.rd_T37 l (k : Int) = l[k] := by
  unfold PB.rd_T37
  simp [hk]
theorem large1_ev (l : List PB.S37) (i : Nat) (R : Bool) (hi : i < 100) (xs : List PB.S45) (hx : xs.length ≤ 60000) (hR : Ev (fun q => PB.weighlocklaw19_large.l0 q l (l.length : Int) ((i + 1 : Nat) : Int)) R) :
    ∀ (m j : Nat), j + m = xs.length → Ev (fun q => PB.weighlocklaw19_large.l1 q l (l.length : Int) (i : Int) xs (xs.length : Int) (j : Int)) (if bigR (xs.drop j) = true then true else R) := by
  intro m
  induction m with
  | zero =>
    intro j h
    rw [List.drop_of_length_le (by omega)]
    refine Ev.step (fun q => PB.weighlocklaw19_large.l1.eq_2 ..) (Ev.neg (by omega) ?_)
    have hw : wrap64 ((i : Int) + 1) = ((i + 1 : Nat) : Int) := by unfold wrap64; omega
    rw [hw]
    exact hR
  | succ m ih =>
    intro j h
    have hk : j < xs.length := by omega
    have hw : wrap64 ((j : Int) + 1) = ((j + 1 : Nat) : Int) := by unfold wrap64; omega
    refine Ev.step (fun q => PB.weighlocklaw19_large.l1.eq_2 ..) (Ev.pos (by omega) (Ev.pos (by omega) (Ev.pos (by omega) ?_)))
    have e : bigR (xs.drop j) = (decide (300 < xs[j].f2.size) || decide (300 < xs[j].f3.size) || bigR (xs.drop (j + 1))) := by rw [List.drop_eq_getElem_cons hk]; rfl
    rw [rd_get xs j hk, hw, e]
    by_cases h1 : 300 < xs[j].f2.size
    · rw [show decide (300 < xs[j].f2.size) = true from decide_eq_true h1]
      exact Ev.pos (by omega) (Ev.cst rfl)
    · rw [show decide (300 < xs[j].f2.size) = false from decide_eq_false h1]
      refine Ev.neg (by omega) ?_
      by_cases h2 : 300 < xs[j].f3.size
      · rw [show decide (300 < xs[j].f3.size) = true from decide_eq_true h2]
        exact Ev.pos (by omega) (Ev.cst rfl)
      · rw [show decide (300 < xs[j].f3.size) = false from decide_eq_false h2]
        exact Ev.neg (by omega) (ih (j + 1) (by omega))
theorem large0_ev (l : List PB.S37) (hl : l.length ≤ 40) : ∀ (n k : Nat), k + n = l.length → Ev (fun q => PB.weighlocklaw19_large.l0 q l (l.length : Int) (k : Int)) ((l.drop k).any bigA) := by
  intro n
  induction n with
  | zero =>
    intro k h
    rw [List.drop_of_length_le (by omega)]
    exact Ev.step (fun q => PB.weighlocklaw19_large.l0.eq_2 ..) (Ev.neg (by omega) (Ev.cst rfl))
  | succ n ih =>
    intro k h
    have hk : k < l.length := by omega
    refine Ev.step (fun q => PB.weighlocklaw19_large.l0.eq_2 ..) (Ev.pos (by omega) (Ev.pos (by omega) (Ev.pos (by omega) ?_)))
    have e : (l.drop k).any bigA = (bigA l[k] || (l.drop (k + 1)).any bigA) := by rw [List.drop_eq_getElem_cons hk]; rfl
    rw [rd_get37 l k hk, e]
    unfold bigA
    by_cases h1 : 30 < l[k].f3.length
    · rw [if_pos h1]; exact Ev.pos (by omega) (Ev.cst rfl)
    · rw [if_neg h1]
      refine Ev.neg (by omega) ?_
      have := large1_ev l k ((l.drop (k + 1)).any bigA) (by omega) l[k].f3 (by omega) (ih (k + 1) (by omega)) l[k].f3.length 0 (by omega)
      rw [List.drop_zero] at this
      have e2 : (bigR l[k].f3 || (l.drop (k + 1)).any bigA) = (if bigR l[k].f3 = true then true else (l.drop (k + 1)).any bigA) := by cases bigR l[k].f3 <;> rfl
      have e3 := e2
      unfold bigA at e3 this
      rw [e3]
      exact this
theorem large_any (A : Option Addr) (c : Nat) (l : List PB.S37) (w : World) (hr : Kd.C PB.k37 w A l.length l) (hc : l.length ≤ c) :
    Calls Try.prog 16 #[.slice A l.length c] w fun e w' => e = .returned (.bool (largeB l)) ∧ Below w.heap.size w w' := by
  have : Ev (fun q => PB.weighlocklaw19_large.f q l) (largeB l) := by
    unfold PB.weighlocklaw19_large.f largeB
    by_cases h : 40 < l.length
    · rw [if_pos h]; exact Ev.pos (by omega) (Ev.cst rfl)
    · rw [if_neg h]
      exact Ev.neg (by omega) (large0_ev l (by omega) l.length 0 (by omega))
  obtain ⟨k, hk⟩ := Ev.rounds this
  exact PB.weighlocklaw19_large.calls k A c l _ w hr hc hk
theorem large_no {l : List PB.S37} (h : largeB l = false) : l.length ≤ 40 ∧ ∀ x ∈ l, x.f3.length ≤ 30 := by
  unfold largeB at h
  by_cases h1 : 40 < l.length
  · rw [if_pos h1] at h; cases h
  · rw [if_neg h1, List.any_eq_false] at h
    refine ⟨by omega, fun x hx => ?_⟩
    have := h x hx
    unfold bigA at this
    by_cases h2 : 30 < x.f3.length
    · rw [if_pos h2] at this; exact absurd rfl this
    · omega
theorem actS_len (s : DSt) (kd n m : Int) (xs : List PB.S45) : (actS s kd n m xs).1.l.length ≤ s.l.length + xs.length := by
  have hf : (fromD s.l n).length ≤ s.l.length := List.length_filter_le _ _
  unfold actS appS trimS repS setS
  repeat' split
  all_goals simp
  all_goals omega
/-- Where the calls have come to. -/
structure AX (W : World) (g b k : Nat) (s : DSt) (v : Value) (A : Option Addr) (c : Nat) (w : World) : Prop where
  ps : PS W.heap.size g v s.l s.st s.nx s.mr w
  iv : IV s
  bx : w.heap[b]? = some (.cells #[.slice A s.l.length c, .int .i64 s.st, .int .i64 s.nx, .int .i64 s.mr] 35 (0, 0))
  cc : Kd.C PB.k45 w A s.l.length s.l
  hc : s.l.length ≤ c
  sr : Src (fun q => q ≠ g ∧ some q ≠ v.ownBlock ∧ q ≠ b) A s.l.length
  ln : s.l.length ≤ 30 * k
  bel : Below W.heap.size W w
  gb : b ≠ g
  gw : W.heap.size ≤ g
  bw : W.heap.size ≤ b
  vb : some b ≠ v.ownBlock
section
variable {W : World} {g b k : Nat} {s : DSt} {v : Value} {A : Option Addr} {c : Nat} {w w1 : World}
theorem AX.below (h : AX W g b k s v A c w) (hb : Below w.heap.size w w1) : AX W g b k s v A c w1 :=
  ⟨h.ps.below hb, h.iv, blk_below h.bx hb, Kd.C_below h.cc hb, h.hc, h.sr, h.ln, below_two h.bel hb, h.gb, h.gw, h.bw, h.vb⟩
theorem AX.own (h : AX W g b k s v A c w) {q : Nat} (hq : v.ownBlock = some q) : W.heap.size ≤ q := ((Kd.R_bound h.ps.row).1 q hq).2.1
/-- Behind a call of the program's, ahead of the document's. -/
structure AY (W : World) (g b k : Nat) (s r : DSt) (v : Value) (A : Option Addr) (c : Nat) (w : World) : Prop where
  ps : PS W.heap.size g v r.l r.st r.nx r.mr w
  iv : IV r
  bx : w.heap[b]? = some (.cells #[.slice A s.l.length c, .int .i64 s.st, .int .i64 s.nx, .int .i64 s.mr] 35 (0, 0))
  cc : Kd.C PB.k45 w A s.l.length s.l
  hc : s.l.length ≤ c
  sr : Src (fun q => q ≠ g ∧ some q ≠ v.ownBlock ∧ q ≠ b) A s.l.length
  ln : s.l.length ≤ 30 * k
  bel : Below W.heap.size W w
  gb : b ≠ g
  gw : W.heap.size ≤ g
  bw : W.heap.size ≤ b
  vb : some b ≠ v.ownBlock
theorem AX.done (h : AX W g b k s v A c w) {r : DSt} {v' : Value} (hp : PS W.heap.size g v' r.l r.st r.nx r.mr w1) (hi : IV r) (hf : Fr g v w w1) (hn : Nw v v' w) : AY W g b k s r v' A c w1 := by
  have hlt : ∀ q, q < w.heap.size → some q ≠ v.ownBlock → some q ≠ v'.ownBlock := fun q hq hv e => by
    rcases hn q e.symm with e2 | e2
    · exact hv e2.symm
    · omega
  have hsr := h.sr.both (src_old h.cc)
  exact ⟨hp, hi, (hf.block b (blk_lt h.bx) h.gb h.vb).trans h.bx, C_fr h.cc hf (h.sr.mono (fun q hq => ⟨hq.1, hq.2.1⟩)), h.hc, hsr.mono (fun q hq => ⟨hq.1.1, hlt q hq.2 hq.1.2.1, hq.1.2.2⟩), h.ln, hf.toBelow h.bel h.gw (fun q hq => h.own hq), h.gb, h.gw, h.bw, hlt b (blk_lt h.bx) h.vb⟩
theorem AY.below {r : DSt} (h : AY W g b k s r v A c w) (hb : Below w.heap.size w w1) : AY W g b k s r v A c w1 :=
  ⟨h.ps.below hb, h.iv, blk_below h.bx hb, Kd.C_below h.cc hb, h.hc, h.sr, h.ln, below_two h.bel hb, h.gb, h.gw, h.bw, h.vb⟩
/-- The document's new state is stored into its variable. -/
theorem AY.store {r : DSt} (h : AY W g b k s r v A c w) {A' : Option Addr} {c' : Nat} (hC : Kd.C PB.k45 w A' r.l.length r.l) (hc : r.l.length ≤ c') (hs : Src (fun q => q ≠ g ∧ some q ≠ v.ownBlock ∧ q ≠ b) A' r.l.length) (hl : r.l.length ≤ 30 * (k + 1)) :
    AX W g b (k + 1) r v A' c' ((((w.setCell ⟨b, 0, none⟩ (.slice A' r.l.length c')).setCell ⟨b, 1, none⟩ (.int .i64 r.st)).setCell ⟨b, 2, none⟩ (.int .i64 r.nx)).setCell ⟨b, 3, none⟩ (.int .i64 r.mr)) := by
  have hf : Fr b (.slice none 0 0) w ((((w.setCell ⟨b, 0, none⟩ (.slice A' r.l.length c')).setCell ⟨b, 1, none⟩ (.int .i64 r.st)).setCell ⟨b, 2, none⟩ (.int .i64 r.nx)).setCell ⟨b, 3, none⟩ (.int .i64 r.mr)) := Fr.set (Fr.set (Fr.set (Fr.set (Fr.refl _ _ _) _ _) _ _) _ _) _ _
  refine ⟨h.ps.other hf h.gb.symm (by simp [Value.ownBlock]) (fun q hq => ⟨fun e => h.vb (by rw [hq, e]), by simp [Value.ownBlock]⟩), h.iv, ?_, C_fr hC hf (hs.mono (fun q hq => ⟨hq.2.2, by simp [Value.ownBlock]⟩)), hc, hs, hl, hf.toBelow h.bel h.bw (by simp [Value.ownBlock]), h.gb, h.gw, h.bw, h.vb⟩
  exact heap_set (heap_set (heap_set (heap_set h.bx (i := 0) (.slice A' r.l.length c')) (i := 1) (.int .i64 r.st)) (i := 2) (.int .i64 r.nx)) (i := 3) (.int .i64 r.mr)
end
end Go.Proofs.Ytmkipdleggkkkaa.Own
