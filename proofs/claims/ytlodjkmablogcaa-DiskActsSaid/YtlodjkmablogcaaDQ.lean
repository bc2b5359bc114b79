/- The document's late, in plain Lean; its contract. -/
import Derived.Test.YtlodjkmablogcaaDP
import Derived.Test.YtlodjkmablogcaaPBx2
namespace Go.Proofs.Ytlodjkmablogcaa.Own
open Go.RowKit Go.Proofs.YtlodjkmablogcaaW.PrintWords Go.Proofs.Ytlodjkmablogcaa.PB
set_option linter.unusedSimpArgs false
set_option linter.unusedVariables false
def lateP (X : List S79) (p : Nat) (q : S52) : Bool := decide ((p : Int) ≤ q.f0 ∧ q.f0 < X.length ∧ (X.getD q.f0.toNat z79).f0 = (X.getD p z79).f0)
def lateB (X : List S79) (ks : List S52) (p : Nat) : Bool := ks.any (lateP X p)
theorem late_l (X : List S79) (ks : List S52) (p : Nat) (hp : p < X.length) (hk : ks.length ≤ 1000) : ∀ d i k, i + d = ks.length → d < k → weighlockref03_late.l0 k X (p : Int) ks (ks.length : Int) (i : Int) = some (lateB X (ks.drop i) p) := by
  intro d
  induction d with
  | zero =>
    intro i k hi hk
    obtain ⟨k, rfl⟩ : ∃ m, k = m + 1 := ⟨k - 1, by omega⟩
    simp only [weighlockref03_late.l0]
    rw [if_neg (by omega), List.drop_of_length_le (by omega)]
    rfl
  | succ d ih =>
    intro i k hi hk
    obtain ⟨k, rfl⟩ : ∃ m, k = m + 1 := ⟨k - 1, by omega⟩
    have hlt : i < ks.length := by omega
    have hw : wrap64 ((i : Int) + 1) = ((i + 1 : Nat) : Int) := by unfold wrap64; omega
    have hr : rd_T52 ks (i : Int) = ks[i] := by unfold rd_T52; rw [Int.toNat_natCast, List.getD_eq_getElem?_getD, List.getElem?_eq_getElem hlt]; rfl
    have hrp : rd_T79 X (p : Int) = X.getD p z79 := by unfold rd_T79; rw [Int.toNat_natCast]
    have ihh := ih (i + 1) k (by omega) (by omega)
    have hd : ks.drop i = ks[i] :: ks.drop (i + 1) := List.drop_eq_getElem_cons hlt
    have hB : lateB X (ks.drop i) p = (lateP X p ks[i] || lateB X (ks.drop (i + 1)) p) := by unfold lateB; rw [hd, List.any_cons]
    rw [hB]
    simp only [weighlockref03_late.l0]
    rw [if_pos (by omega), if_pos (by omega), if_pos (by omega), hr, hw, hrp, ihh]
    by_cases h1 : ks[i].f0 ≥ (p : Int)
    · rw [if_pos h1]
      by_cases h2 : ks[i].f0 < (X.length : Int)
      · rw [if_pos h2, if_pos (by omega), if_pos (by omega), if_pos (by omega)]
        by_cases h3 : (rd_T79 X ks[i].f0).f0 = (X.getD p z79).f0
        · rw [if_pos h3, show lateP X p ks[i] = true by unfold lateP; exact decide_eq_true ⟨h1, h2, h3⟩, Bool.true_or]
        · rw [if_neg h3, show lateP X p ks[i] = false by unfold lateP; exact decide_eq_false (fun h => h3 h.2.2), Bool.false_or]
      · rw [if_neg h2, show lateP X p ks[i] = false by unfold lateP; exact decide_eq_false (fun h => h2 h.2.1), Bool.false_or]
    · rw [if_neg h1, show lateP X p ks[i] = false by unfold lateP; exact decide_eq_false (fun h => h1 h.1), Bool.false_or]
theorem late_any (A : Option Addr) (c : Nat) (X : List S79) (KA : Option Addr) (kc k : Nat) (ks : List S52) (p : Nat) (w : World) (hX : Kd.C k79 w A X.length X) (hc : X.length ≤ c) (hK : Kd.C k52 w KA ks.length ks) (hk : k ≤ ks.length) (hkc : k ≤ kc) (hp : p < X.length) (hks : ks.length ≤ 1000) :
    Calls Try.prog 38 #[.slice A X.length c, .slice KA k kc, .int .i64 (p : Int)] w fun e w' => e = .returned (.bool (lateB X (ks.take k) p)) ∧ Below w.heap.size w w' := by
  have hl : (ks.take k).length = k := by rw [List.length_take]; omega
  have hC : Kd.C k52 w KA (ks.take k).length (ks.take k) := by
    obtain ⟨h1, h2, h3⟩ := hK
    refine ⟨rfl, by omega, fun hpos => ?_⟩
    obtain ⟨ad, e, hh⟩ := h3 (by omega)
    refine ⟨ad, e, fun j q hj => hh j q ?_⟩
    rw [List.getElem?_take] at hj
    split at hj
    · exact hj
    · cases hj
  have h := late_l X (ks.take k) p hp (by omega) (ks.take k).length 0 ((ks.take k).length + 1) (by omega) (by omega)
  have := weighlockref03_late.calls ((ks.take k).length + 1) A c X KA kc (ks.take k) (p : Int) (lateB X (ks.take k) p) w hX hc hC (by omega) h
  rw [hl] at this
  exact this
theorem late_next (L : List ByteArray) (X : List S79) (ks : List S52) (p : Nat) (hp : p < X.length) (k : Nat) : lateB X (ks.take k) p = decide ((p : Int) < (crashS L X (ks.take k)).2 (X.getD p z79).f0) := by
  induction k with
  | zero => unfold lateB crashS; simp
  | succ k ih =>
    by_cases hk : k < ks.length
    case neg => rw [List.take_of_length_le (by omega), ← List.take_of_length_le (i := k) (l := ks) (by omega)]; exact ih
    have e2 := crashS_take (L := L) (X := X) hk
    have e1 : lateB X (ks.take (k + 1)) p = (lateB X (ks.take k) p || lateP X p (ks.getD k z52)) := by rw [take_getD ks z52 hk]; unfold lateB; simp
    generalize ks.getD k z52 = q at *
    rw [e1, e2, ih]
    generalize crashS L X (ks.take k) = S
    clear e1 e2 ih
    unfold cstep lateP
    rw [← Bool.decide_or, decide_eq_decide]
    by_cases hc : 0 ≤ q.f0 ∧ q.f0 < X.length ∧ S.2 (X.getD q.f0.toNat z79).f0 ≤ q.f0
    · rw [if_pos hc]
      by_cases he : (X.getD p z79).f0 = (X.getD q.f0.toNat z79).f0
      · simp only [he, if_pos]
        constructor
        · rintro (h | h)
          · omega
          · omega
        · intro h
          right
          exact ⟨by omega, hc.2.1, trivial⟩
      · simp only [if_neg he]
        constructor
        · rintro (h | h)
          · exact h
          · exact absurd h.2.2.symm he
        · exact Or.inl
    · rw [if_neg hc]
      constructor
      · rintro (h | h)
        · exact h
        · have h0 : 0 ≤ q.f0 := by omega
          rw [← h.2.2]
          have : ¬ S.2 (X.getD q.f0.toNat z79).f0 ≤ q.f0 := fun hh => hc ⟨h0, h.2.1, hh⟩
          omega
      · exact Or.inl
theorem crashS_64 {L : List ByteArray} {X : List S79} (hL : ∀ s ∈ L, s.size = 64) (hX : ∀ x ∈ X, x.f1.size = 64) (ks : List S52) : ∀ s ∈ (crashS L X ks).1, s.size = 64 := by
  have key : ∀ (ks : List S52) (S : List ByteArray × (Int → Int)), (∀ s ∈ S.1, s.size = 64) → ∀ s ∈ (ks.foldl (cstep X) S).1, s.size = 64 := by
    intro ks
    induction ks with
    | nil => intro S h; exact h
    | cons q ks ih =>
      intro S h
      rw [List.foldl_cons]
      refine ih _ ?_
      unfold cstep
      split
      · rename_i hc
        intro s hs
        have hq : q.f0.toNat < X.length := by omega
        have hx : (X.getD q.f0.toNat z79).f1.size = 64 := hX _ (by rw [List.getD_eq_getElem?_getD, List.getElem?_eq_getElem hq]; exact List.getElem_mem hq)
        simp only at hs
        by_cases hlt : (X.getD q.f0.toNat z79).f0.toNat < S.1.length
        · rcases List.mem_or_eq_of_mem_set hs with hs | rfl
          · exact h s hs
          · exact keepB_size hx (h _ (by rw [List.getD_eq_getElem?_getD, List.getElem?_eq_getElem hlt]; exact List.getElem_mem hlt)) (clampN_le _)
        · rw [List.set_eq_of_length_le (by omega)] at hs
          exact h s hs
      · exact h
  exact key ks (L, fun _ => 0) hL
theorem keep_cut (d s : ByteArray) (m : Nat) (hd : d.size = 64) (hs : s.size = 64) (hm : m ≤ 64) : d.extract 0 m ++ s.extract m s.size = keepB d s m := by
  apply ByteArray.ext
  apply Array.ext'
  have h1 := toList_len d
  have h2 := toList_len s
  simp only [keepB, ByteArray.data_append, ByteArray.data_extract, Array.toList_append, Array.toList_extract, List.extract_eq_take_drop, Nat.sub_zero, List.drop_zero]
  congr 1
  rw [List.take_of_length_le (by rw [List.length_drop, h2]; exact Nat.le_refl _)]
end Go.Proofs.Ytlodjkmablogcaa.Own
