/- The walks of the pool. -/
import Derived.Test.YtfcpjnikblleaaaKit
namespace Go.Proofs.Ytfcpjnikblleaaa
open Go.RowKit
set_option maxRecDepth 100000
set_option linter.unusedSimpArgs false
set_option linter.unusedVariables false
def iv (n : Int) : Value := .int .i64 n
def poolB (o n : Nat) (ep ct : Int) : Obj := .cells #[.slice (some ⟨o, 0, none⟩) n n, .int .i64 ep, .int .i64 ct] 57 (0, 0)
def ownB (L : List Int) : Obj := .cells (L.map iv).toArray 3 (0, 0)
/-- The numbers of the owners that count, up to one. -/
def idxN (sel : Int → Bool) (L : List Int) (k : Nat) : List Nat := (List.range k).filter fun i => sel (L.getD i 0)
def idxTo (sel : Int → Bool) (L : List Int) (k : Nat) : List Int := (idxN sel L k).map Int.ofNat
theorem idx_yes {sel : Int → Bool} {L : List Int} {k : Nat} (h : sel (L.getD k 0) = true) : idxTo sel L (k + 1) = idxTo sel L k ++ [(k : Int)] := by
  unfold idxTo idxN
  rw [List.range_succ, List.filter_append, List.map_append, List.filter_cons, if_pos h]
  rfl
theorem idx_no {sel : Int → Bool} {L : List Int} {k : Nat} (h : sel (L.getD k 0) = false) : idxTo sel L (k + 1) = idxTo sel L k := by
  unfold idxTo idxN
  rw [List.range_succ, List.filter_append, List.map_append, List.filter_cons, if_neg (by rw [h]; decide)]
  simp
theorem idx_length (sel : Int → Bool) (L : List Int) (k : Nat) : (idxTo sel L k).length ≤ k := by
  unfold idxTo idxN
  rw [List.length_map]
  exact Nat.le_trans (List.length_filter_le _ _) (by simp)
theorem own_base {w : World} {base : Nat} {e : TypeId} {size n : Nat} {v : Value} {xs : List Value} (h : w.ownsRow base e size v n xs) (k : Nat) (hk : v.ownBlock = some k) : base ≤ k := by
  rcases h.2 with ⟨rfl, _⟩ | ⟨g, cap, cur, rfl, hb, _⟩
  · simp [Value.ownBlock] at hk
  · have : g = k := by simpa [Value.ownBlock] using hk
    omega
structure Told (B : Nat) (xs : List Int) (w0 : World) (e : Ending) (w' : World) : Prop where
  told : ∃ v, e = .returned v ∧ w'.ownsRow B 3 1 v xs.length (xs.map iv) ∧ Below w0.heap.size w0 w'
theorem info3 : (Try.prog.info? 3).map (fun i => (i.zero, i.size, i.bytes)) = some (some (.int .i64 0), 1, 8) := by kernel_rfl
def isFree (o : Int) : Bool := o == 0
theorem free1_any (o : Int) (w : World) : Calls Try.prog 35 #[.int .i64 o] w fun e w' => e = .returned (.bool (isFree o)) ∧ w = w' := by
  go_enter Try.func35, Try.ntmps35
  go_wp2
  go_ret
  exact ⟨rfl, rfl⟩
set_option maxHeartbeats 1000000 in
theorem those_free (g o n : Nat) (ep ct : Int) (L : List Int) (w : World) (hg : w.heap[g]? = some (poolB o n ep ct)) (ho : w.heap[o]? = some (ownB L)) (hn : L.length = n) (h64 : n ≤ 64) :
    Calls Try.prog 28 #[.pointer (some ⟨g, 0, none⟩), .func (Fn.func 35) #[] #[]] w (Told w.heap.size (idxTo isFree L n) w) := by
  obtain ⟨i0, hi, hz0, hz1, hz2⟩ := info_parts info3
  have hgc := blk_cell hg 0
  simp at hgc
  have hgl := blk_lt hg
  have hol := blk_lt ho
  have Ho := Lib.hid ho; clear ho hg
  have Hn := Lib.hid hn; clear hn
  go_enter Try.func28, Try.ntmps28
  go_wp2_with fail
  clear hgc
  go_loopw [5, 15] (fun v i wr => ∃ k : Nat, k ≤ n ∧ i = .int .i64 k ∧ wr.ownsRow w.heap.size 3 1 v (idxTo isFree L k).length ((idxTo isFree L k).map iv) ∧ Below w.heap.size w wr) (fun _ i _ => n - (intOf i).toNat)
  case atStart => exact ⟨0, by omega, rfl, ⟨rfl, .inl ⟨rfl, rfl⟩⟩, Below.refl _ _⟩
  case round =>
    obtain ⟨k, hk, rfl, hown, bel⟩ := hrel
    have hlen := idx_length isFree L k
    by_cases hlt : k < n
    · have hoc : w.cell? ⟨o, k, none⟩ = some (.int .i64 (L.getD k 0)) := by
        rw [blk_cell Ho.out]
        have : k < L.length := by rw [Hn.out]; exact hlt
        simp [iv, this, List.getD]
      have hc := cell_below hoc bel hol
      clear hoc
      have Hown := Lib.hid hown; clear hown
      have Bel := Lib.hid bel; clear bel
      cases hsel : isFree (L.getD k 0) with
      | true =>
        have Hy := Lib.hid (idx_yes hsel)
        have Hsel := Lib.hid hsel; clear hsel
        generalize L.getD k 0 = x at *
        generalize hI : idxTo isFree L k = I at *
        have HI := Lib.hid hI; clear hI
        go_wp2_with fail
        refine (free1_any x _).mono ?_; rintro e w2 ⟨rfl, rfl⟩
        rw [Hsel.out]
        go_wp2_with (at_builtin; refine wpList_append_own _ rfl _ _ 33 rfl w.heap.size 3 i0 (.int .i64 0) 1 8 Try.underlying33 hi hz0 hz1 hz2 rfl (by decide) _ _ _ rfl (Hown.out.kept (World.grownBy_alloc _ _ none) (by cases h : Value.ownBlock _ <;> simp)) ⟨wr.heap.size, 0, none⟩ 1 1 [.int .i64 k] rfl rfl ?c1 ?c2 ?c3 ?c4 ?c5 ?_)
        case c1 =>
          intro j u hj
          have hj0 : j = 0 := by
            rcases Nat.eq_zero_or_pos j with h | h
            · exact h
            · rw [List.getElem?_eq_none (by simp; omega)] at hj; simp at hj
          subst hj0
          simp at hj; subst hj
          exact cell_of_one (heap_new _ _)
        case c2 => intro u hu; simp at hu; subst hu; rfl
        case c3 => unfold maxLen; omega
        case c4 => omega
        case c5 => have := Bel.out.size; simp; omega
        intro v' w1 hown' hgrow _
        have Bel2 := Lib.hid ((Bel.out.alloc Bel.out.size _).grown hgrow (by have := Bel.out.size; simp; omega) (fun j hj => own_base Hown.out j hj))
        have Hown2 := Lib.hid hown'
        clear hown' hgrow
        go_wp2
        go_roundw
        case rel => exact ⟨k + 1, by omega, by go_num, by rw [Hy.out]; simpa [iv] using Hown2.out, Bel2.out⟩
        case measure => simp [intOf]; omega
      | false =>
        have Hy := Lib.hid (idx_no hsel)
        have Hsel := Lib.hid hsel; clear hsel
        generalize L.getD k 0 = x at *
        go_wp2_with fail
        refine (free1_any x _).mono ?_; rintro e w2 ⟨rfl, rfl⟩
        rw [Hsel.out]
        go_wp2
        go_roundw
        case rel => exact ⟨k + 1, by omega, by go_num, by rw [Hy.out]; exact Hown.out, Bel.out⟩
        case measure => simp [intOf]; omega
    · go_wp2
      go_ret
      obtain rfl : k = n := by omega
      exact ⟨_, rfl, hown, bel⟩
end Go.Proofs.Ytfcpjnikblleaaa
