/- What the laws of the disk share: large, runs of calls, rows of texts. -/
import Derived.Test.YtlodjkmablogcaaDT
namespace Go.Proofs.Ytlodjkmablogcaa.Own
open Go.RowKit Go.Proofs.YtlodjkmablogcaaW.PrintWords Go.Proofs.Ytlodjkmablogcaa.PB
set_option linter.unusedSimpArgs false
set_option linter.unusedVariables false
def bigP (x : S25) : Bool := decide ((40 : Int) < x.f4.length)
def largeB (l : List S25) : Bool := decide (40 < l.length) || l.any bigP
theorem large_l (l : List S25) (hk : l.length ≤ 40) : ∀ d i k, i + d = l.length → d < k → weighlocklaw03_large.l0 k l (l.length : Int) (i : Int) = some ((l.drop i).any bigP) := by
  intro d
  induction d with
  | zero =>
    intro i k hi hk
    obtain ⟨k, rfl⟩ : ∃ m, k = m + 1 := ⟨k - 1, by omega⟩
    simp only [weighlocklaw03_large.l0]
    rw [if_neg (by omega), List.drop_of_length_le (by omega)]
    rfl
  | succ d ih =>
    intro i k hi hk
    obtain ⟨k, rfl⟩ : ∃ m, k = m + 1 := ⟨k - 1, by omega⟩
    have hlt : i < l.length := by omega
    have hw : wrap64 ((i : Int) + 1) = ((i + 1 : Nat) : Int) := by unfold wrap64; omega
    have hr : rd_T25 l (i : Int) = l[i] := by unfold rd_T25; rw [Int.toNat_natCast, List.getD_eq_getElem?_getD, List.getElem?_eq_getElem hlt]; rfl
    have ihh := ih (i + 1) k (by omega) (by omega)
    have hd : l.drop i = l[i] :: l.drop (i + 1) := List.drop_eq_getElem_cons hlt
    rw [hd, List.any_cons]
    simp only [weighlocklaw03_large.l0]
    rw [if_pos (by omega), if_pos (by omega), if_pos (by omega), hr, hw, ihh]
    by_cases h1 : (l[i].f4.length : Int) > 40
    · rw [if_pos h1, show bigP l[i] = true from decide_eq_true h1, Bool.true_or]
    · rw [if_neg h1, show bigP l[i] = false from decide_eq_false h1, Bool.false_or]
theorem large_any (A : Option Addr) (c : Nat) (l : List S25) (w : World) (hl : Kd.C k25 w A l.length l) (hc : l.length ≤ c) :
    Calls Try.prog 8 #[.slice A l.length c] w fun e w' => e = .returned (.bool (largeB l)) ∧ Below w.heap.size w w' := by
  refine weighlocklaw03_large.calls (l.length + 1) A c l (largeB l) w hl hc ?_
  unfold weighlocklaw03_large.f largeB
  by_cases h : 40 < l.length
  · rw [if_pos (by omega), decide_eq_true h, Bool.true_or]
  · rw [if_neg (by omega), decide_eq_false h, Bool.false_or]
    exact large_l l (by omega) l.length 0 (l.length + 1) (by omega) (by omega)
theorem small_of {l : List S25} (h : largeB l = false) : l.length ≤ 40 ∧ ∀ x ∈ l, x.f4.length ≤ 40 := by
  unfold largeB at h
  rw [Bool.or_eq_false_iff] at h
  refine ⟨by have := of_decide_eq_false h.1; omega, fun x hx => ?_⟩
  have := List.any_eq_false.1 h.2 x hx
  have h2 : bigP x = false := by simpa using this
  have := of_decide_eq_false h2
  omega
/-- A call out of a row of calls. -/
theorem at25 {w : World} {A : Option Addr} {n : Nat} {xs : List S25} (h : Kd.C k25 w A n xs) (i : Nat) (h1 : i < n) : ∃ b off KA kc, A = some ⟨b, off, none⟩ ∧ w.cell? ⟨b, off + i * 5, none⟩ = some (.int .i64 (xs.getD i z25).f0) ∧ w.cell? ⟨b, off + i * 5 + 1, none⟩ = some (.int .i64 (xs.getD i z25).f1) ∧ w.cell? ⟨b, off + i * 5 + 2, none⟩ = some (.int .i64 (xs.getD i z25).f2) ∧ w.cell? ⟨b, off + i * 5 + 3, none⟩ = some (.int .u8 (xs.getD i z25).f3) ∧ w.cell? ⟨b, off + i * 5 + 4, none⟩ = some (.slice KA (xs.getD i z25).f4.length kc) ∧ (xs.getD i z25).f4.length ≤ kc ∧ Kd.C k52 w KA (xs.getD i z25).f4.length (xs.getD i z25).f4 := by
  obtain ⟨b, off, rfl⟩ := C_addr z25 h (by omega) (by show 0 < 5; omega)
  obtain ⟨ad, A4, c4, e, x0, x1, x2, x3, x4, hc, hk⟩ := at_T25 h (i : Int) (by omega) (by omega)
  injection e with e
  subst e
  rw [Int.toNat_natCast, show rd_T25 xs (i : Int) = xs.getD i z25 by unfold rd_T25; rw [Int.toNat_natCast]] at x0 x1 x2 x3 x4
  rw [show rd_T25 xs (i : Int) = xs.getD i z25 by unfold rd_T25; rw [Int.toNat_natCast]] at hc hk
  rw [Go.WideShapes.add_plain] at x0 x1 x2 x3 x4
  exact ⟨b, off, A4, c4, rfl, x0, x1, x2, x3, x4, hc, hk⟩
/-- What calls make of a disk, one behind the other. -/
def stepP (s : List ByteArray × List S79) (x : S25) : List ByteArray × List S79 := ((actP s.1 s.2 x).1, (actP s.1 s.2 x).2.1)
def runP (L : List ByteArray) (l : List S25) : List ByteArray × List S79 := l.foldl stepP (L, [])
theorem runP_take {L : List ByteArray} {l : List S25} {k : Nat} (hk : k < l.length) : runP L (l.take (k + 1)) = stepP (runP L (l.take k)) (l.getD k z25) := by
  unfold runP
  rw [take_getD l z25 hk, List.foldl_append]
  rfl
theorem stepP_wlen (s : List ByteArray × List S79) (x : S25) : (stepP s x).2.length ≤ s.2.length + 1 := by
  unfold stepP actP
  have h1 := out_all x.f1 x.f2 s.2
  repeat' split
  all_goals first | (simp; done) | (simp only; omega)
theorem runP_wlen (L : List ByteArray) (l : List S25) : ∀ k, (runP L (l.take k)).2.length ≤ k := by
  intro k
  induction k with
  | zero => simp [runP]
  | succ k ih =>
    by_cases hk : k < l.length
    · rw [runP_take hk]
      have := stepP_wlen (runP L (l.take k)) (l.getD k z25)
      omega
    · rw [List.take_of_length_le (by omega), ← List.take_of_length_le (i := k) (l := l) (by omega)]
      omega
theorem stepP_len (s : List ByteArray × List S79) (x : S25) : (stepP s x).1.length = s.1.length := by
  unfold stepP actP
  repeat' split
  all_goals first | rfl | exact setF_len _ _ | exact crashS_len _ _ _
theorem runP_len (L : List ByteArray) (l : List S25) : ∀ k, (runP L (l.take k)).1.length = L.length := by
  intro k
  induction k with
  | zero => simp [runP]
  | succ k ih =>
    by_cases hk : k < l.length
    · rw [runP_take hk, stepP_len]; exact ih
    · rw [List.take_of_length_le (by omega), ← List.take_of_length_le (i := k) (l := l) (by omega)]
      exact ih
theorem R_fr {α : Type} {d : Kd α} {e : Nat} {w w1 : World} {B : Nat} {v : Value} {xs : List α} {S : Nat → Prop} (h : Kd.R d e w B (fun _ => True) v xs) (hf : Fr S w w1) (hs : ∀ k, S k → k < B) : Kd.R d e w1 B (fun _ => True) v xs :=
  ok_all (Kd.R_move (Kd.R_bound h) (fun k hk => hf.block k hk.2.2.1 (fun hS => by have := hs k hS; have := hk.2.1; omega)))
/-! ### What is read, in plain Lean -/
theorem readF_set (i : Nat) (W : List S79) (hW : ∀ x ∈ W, 0 ≤ x.f0) : ∀ L : List ByteArray, i < L.length → (setF L W).getD i ByteArray.empty = readF (i : Int) (L.getD i ByteArray.empty) W := by
  induction W with
  | nil => intro L _; rfl
  | cons x W ih =>
    intro L hi
    have hx := hW x List.mem_cons_self
    have := ih (fun y hy => hW y (List.mem_cons_of_mem _ hy)) (L.set x.f0.toNat x.f1) (by rw [List.length_set]; exact hi)
    show (setF (L.set x.f0.toNat x.f1) W).getD i _ = readF (i : Int) (if x.f0 = (i : Int) then x.f1 else L.getD i _) W
    rw [this]
    congr 1
    rw [List.getD_eq_getElem?_getD, List.getElem?_set]
    by_cases e : x.f0 = (i : Int)
    · rw [if_pos e, if_pos (by omega), if_pos (by omega)]
      rfl
    · rw [if_neg e, if_neg (by omega), List.getD_eq_getElem?_getD]
theorem in_whole {n : Nat} {W : List S79} (hW : ∀ x ∈ W, 0 ≤ x.f0 ∧ x.f0 < n) : inF 0 n W = W ∧ outF 0 n W = [] := by
  constructor
  · exact List.filter_eq_self.2 (fun x hx => by have := hW x hx; unfold inB; exact decide_eq_true ⟨this.1, by omega⟩)
  · refine List.filter_eq_nil_iff.2 (fun x hx => ?_)
    have := hW x hx
    have h2 : inB 0 n x = true := by unfold inB; exact decide_eq_true ⟨this.1, by omega⟩
    rw [h2]; decide
theorem readF_apart (i : Int) (s : ByteArray) (W : List S79) (a n : Int) (hi : ¬ (a ≤ i ∧ i - a < n)) : readF i s (outF a n W) = readF i s W := by
  unfold outF
  induction W generalizing s with
  | nil => rfl
  | cons x W ih =>
    by_cases hx : inB a n x = true
    · have hne : x.f0 ≠ i := by
        unfold inB at hx
        have := of_decide_eq_true hx
        rintro rfl
        exact hi this
      rw [List.filter_cons, if_neg (by rw [hx]; decide)]
      show _ = readF i (if x.f0 = i then x.f1 else s) W
      rw [if_neg hne]
      exact ih s
    · rw [List.filter_cons, if_pos (by simpa using hx)]
      exact ih _
theorem setF_apart (i : Nat) (X : List S79) (hX : ∀ x ∈ X, 0 ≤ x.f0 ∧ x.f0 ≠ (i : Int)) : ∀ L : List ByteArray, (setF L X).getD i ByteArray.empty = L.getD i ByteArray.empty := by
  induction X with
  | nil => intro L; rfl
  | cons x X ih =>
    intro L
    have hx := hX x List.mem_cons_self
    show (setF (L.set x.f0.toNat x.f1) X).getD i _ = _
    rw [ih (fun y hy => hX y (List.mem_cons_of_mem _ hy)), List.getD_eq_getElem?_getD, List.getElem?_set_ne (by omega), List.getD_eq_getElem?_getD]
theorem crash_apart (i : Nat) (X : List S79) (hX : ∀ x ∈ X, 0 ≤ x.f0 ∧ x.f0 ≠ (i : Int)) (ks : List S52) : ∀ s : List ByteArray × (Int → Int), ((ks.foldl (cstep X) s).1).getD i ByteArray.empty = s.1.getD i ByteArray.empty := by
  induction ks with
  | nil => intro s; rfl
  | cons q ks ih =>
    intro s
    rw [List.foldl_cons, ih]
    unfold cstep
    split
    · rename_i hc
      have hq : q.f0.toNat < X.length := by omega
      have hx := hX (X.getD q.f0.toNat z79) (by rw [List.getD_eq_getElem?_getD, List.getElem?_eq_getElem hq]; exact List.getElem_mem hq)
      simp only
      rw [List.getD_eq_getElem?_getD, List.getElem?_set_ne (by omega), List.getD_eq_getElem?_getD]
    · rfl
/-- All writes are kept, whole and in order. -/
def allK (n : Nat) : List S52 := (List.range n).map fun (j : Nat) => ⟨(j : Int), 64⟩
theorem allK_succ (n : Nat) : allK (n + 1) = allK n ++ [⟨(n : Int), 64⟩] := by unfold allK; rw [List.range_succ, List.map_append]; rfl
theorem allK_length (n : Nat) : (allK n).length = n := by simp [allK]
theorem keep_whole {d s : ByteArray} (hd : d.size = 64) (hs : s.size = 64) : keepB d s 64 = d := by
  have h1 := toList_len d
  have h2 := toList_len s
  unfold keepB
  rw [List.take_of_length_le (by omega), List.drop_of_length_le (by omega), List.append_nil]
theorem crash_all (L : List ByteArray) (X : List S79) (hL : ∀ s ∈ L, s.size = 64) (hX : ∀ x ∈ X, x.f1.size = 64 ∧ 0 ≤ x.f0 ∧ x.f0 < L.length) : ∀ n, n ≤ X.length → (crashS L X (allK n)).1 = setF L (X.take n) ∧ ∀ i, (crashS L X (allK n)).2 i ≤ (n : Int) := by
  intro n
  induction n with
  | zero => intro _; exact ⟨rfl, fun i => by show (0 : Int) ≤ 0; omega⟩
  | succ n ih =>
    intro hn
    obtain ⟨h1, h2⟩ := ih (by omega)
    have hlt : n < X.length := by omega
    have e : crashS L X (allK (n + 1)) = cstep X (crashS L X (allK n)) ⟨(n : Int), 64⟩ := by rw [allK_succ]; unfold crashS; rw [List.foldl_append]; rfl
    have hx := hX (X.getD n z79) (by rw [List.getD_eq_getElem?_getD, List.getElem?_eq_getElem hlt]; exact List.getElem_mem hlt)
    rw [e, cstep_yes hlt (h2 _), setF_take hlt, ← h1]
    have hM : ∀ s ∈ (crashS L X (allK n)).1, s.size = 64 := crashS_64 hL (fun x hx => (hX x hx).1) _
    have hlen : (crashS L X (allK n)).1.length = L.length := crashS_len X (allK n) (L, fun _ => 0)
    constructor
    · show List.set _ _ (keepB _ _ (clampN 64)) = _
      rw [show clampN 64 = 64 from rfl, keep_whole hx.1 (hM _ (by rw [List.getD_eq_getElem?_getD, List.getElem?_eq_getElem (by omega)]; exact List.getElem_mem _))]
    · intro i
      show (if i = _ then (n : Int) + 1 else _) ≤ _
      split
      · omega
      · have := h2 i; omega
end Go.Proofs.Ytlodjkmablogcaa.Own
