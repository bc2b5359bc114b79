/- The segments of a log, and the law PoolStamps. -/
import Derived.Test.YtfcpjnikblleaaaSix
namespace Go.Proofs.Ytfcpjnikblleaaa
open Go.RowKit
set_option maxRecDepth 100000
set_option linter.unusedSimpArgs false
set_option linter.unusedVariables false
theorem own_low {w : World} {B B2 : Nat} {e : TypeId} {size n : Nat} {v : Value} {xs : List Value} (h : w.ownsRow B e size v n xs) (hb : B2 ≤ B) : w.ownsRow B2 e size v n xs :=
  ⟨h.1, h.2.imp id fun ⟨g, cap, cur, e1, hb1, r⟩ => ⟨g, cap, cur, e1, Nat.le_trans hb hb1, r⟩⟩
def isLog (l o : Int) : Bool := o == l && o != 0
theorem of1_any (l o : Int) (b : Nat) (w : World) (hb : w.cell? ⟨b, 0, none⟩ = some (.int .i64 l)) : Calls Try.prog 29 #[.int .i64 o, .pointer (some ⟨b, 0, none⟩)] w fun e w' => e = .returned (.bool (isLog l o)) ∧ w = w' := by
  by_cases h1 : o = l
  · subst h1
    rw [show isLog o o = (o != 0) by simp [isLog]]
    go_enter Try.func29, Try.ntmps29
    go_wp2
    go_ret
    exact ⟨rfl, rfl⟩
  · have h2 : (o == l) = false := beq_eq_false_iff_ne.2 h1
    rw [show isLog l o = false by simp [isLog, h2]]
    go_enter Try.func29, Try.ntmps29
    go_wp2
    go_ret
    exact ⟨rfl, rfl⟩
set_option maxHeartbeats 1000000 in
theorem those_of (l : Int) (b : Nat) (g o n : Nat) (ep ct : Int) (L : List Int) (w : World) (hg : w.heap[g]? = some (poolB o n ep ct)) (ho : w.heap[o]? = some (ownB L)) (hn : L.length = n) (h64 : n ≤ 64) (hb : w.cell? ⟨b, 0, none⟩ = some (.int .i64 l)) (hbl : b < w.heap.size) :
    Calls Try.prog 28 #[.pointer (some ⟨g, 0, none⟩), .func (Fn.func 29) #[] #[.pointer (some ⟨b, 0, none⟩)]] w (Told w.heap.size (idxTo (isLog l) L n) w) := by
  obtain ⟨i0, hi, hz0, hz1, hz2⟩ := info_parts info3
  have hgc := blk_cell hg 0
  simp at hgc
  have hgl := blk_lt hg
  have hol := blk_lt ho
  have Ho := Lib.hid ho; clear ho hg
  have Hn := Lib.hid hn; clear hn
  have Hb := Lib.hid hb; clear hb
  go_enter Try.func28, Try.ntmps28
  go_wp2_with fail
  clear hgc
  go_loopw [5, 15] (fun v i wr => ∃ k : Nat, k ≤ n ∧ i = .int .i64 k ∧ wr.ownsRow w.heap.size 3 1 v (idxTo (isLog l) L k).length ((idxTo (isLog l) L k).map iv) ∧ Below w.heap.size w wr) (fun _ i _ => n - (intOf i).toNat)
  case atStart => exact ⟨0, by omega, rfl, ⟨rfl, .inl ⟨rfl, rfl⟩⟩, Below.refl _ _⟩
  case round =>
    obtain ⟨k, hk, rfl, hown, bel⟩ := hrel
    have hlen := idx_length (isLog l) L k
    by_cases hlt : k < n
    · have hoc : w.cell? ⟨o, k, none⟩ = some (.int .i64 (L.getD k 0)) := by
        rw [blk_cell Ho.out]
        have : k < L.length := by rw [Hn.out]; exact hlt
        simp [iv, this, List.getD]
      have hc := cell_below hoc bel hol
      have hcb := cell_below Hb.out bel hbl
      clear hoc
      have Hown := Lib.hid hown; clear hown
      have Bel := Lib.hid bel; clear bel
      cases hsel : isLog l (L.getD k 0) with
      | true =>
        have Hy := Lib.hid (idx_yes hsel)
        have Hsel := Lib.hid hsel; clear hsel
        generalize L.getD k 0 = x at *
        generalize hI : idxTo (isLog l) L k = I at *
        have HI := Lib.hid hI; clear hI
        go_wp2_with fail
        refine (of1_any l x b _ (by first | exact hcb | exact cell_old hcb)).mono ?_; rintro e w2 ⟨rfl, rfl⟩
        rw [Hsel.out]
        go_wp2_with (at_builtin; refine wpList_append_own _ rfl _ _ 33 rfl w.heap.size 3 i0 (.int .i64 0) 1 8 Try.underlying33 hi hz0 hz1 hz2 rfl (by decide) _ _ _ rfl (Hown.out.kept (World.grownBy_alloc _ _ none) (by cases h : Value.ownBlock _ <;> simp)) ⟨wr.heap.size, 0, none⟩ 1 1 [.int .i64 k] rfl rfl ?c1 ?c2 ?c3 ?c4 ?c5 ?_)
        case c1 =>
          intro j u hj
          have hj0 : j = 0 := by
            rcases Nat.eq_zero_or_pos j with h | h
            · exact h
            · rw [List.getElem?_eq_none (by simp; omega)] at hj; simp at hj
          subst hj0
          simp at hj; subst hj
          exact cell_of_one (heap_new _ _)
        case c2 => intro u hu; simp at hu; subst hu; rfl
        case c3 => unfold maxLen; omega
        case c4 => omega
        case c5 => have := Bel.out.size; simp; omega
        intro v' w1 hown' hgrow _
        have Bel2 := Lib.hid ((Bel.out.alloc Bel.out.size _).grown hgrow (by have := Bel.out.size; simp; omega) (fun j hj => own_base Hown.out j hj))
        have Hown2 := Lib.hid hown'
        clear hown' hgrow
        go_wp2
        go_roundw
        case rel => exact ⟨k + 1, by omega, by go_num, by rw [Hy.out]; simpa [iv] using Hown2.out, Bel2.out⟩
        case measure => simp [intOf]; omega
      | false =>
        have Hy := Lib.hid (idx_no hsel)
        have Hsel := Lib.hid hsel; clear hsel
        generalize L.getD k 0 = x at *
        go_wp2_with fail
        refine (of1_any l x b _ (by first | exact hcb | exact cell_old hcb)).mono ?_; rintro e w2 ⟨rfl, rfl⟩
        rw [Hsel.out]
        go_wp2
        go_roundw
        case rel => exact ⟨k + 1, by omega, by go_num, by rw [Hy.out]; exact Hown.out, Bel.out⟩
        case measure => simp [intOf]; omega
    · go_wp2
      go_ret
      obtain rfl : k = n := by omega
      exact ⟨_, rfl, hown, bel⟩
set_option maxHeartbeats 1000000 in
theorem Of_any {W : World} {g o n : Nat} {ep ct : Int} {L : List Int} {w : World} (h : St W g o n ep ct L w) (l : Int) :
    Calls Try.prog 12 #[.pointer (some ⟨g, 0, none⟩), .int .i64 l] w fun e w' => (∃ a c, e = .returned (.slice a (idxTo (isLog l) L n).length c) ∧ w'.ownsRow w.heap.size 3 1 (.slice a (idxTo (isLog l) L n).length c) (idxTo (isLog l) L n).length ((idxTo (isLog l) L n).map iv)) ∧ St W g o n ep ct L w' ∧ Below w.heap.size w w' := by
  have hlen := idx_length (isLog l) L n
  have h64 := h.n64
  have hgl := blk_lt h.pool
  have hol := blk_lt h.own
  have H := Lib.hid h; clear h
  go_enter Try.func12, Try.ntmps12
  go_wp2_with fail
  refine (those_of l w.heap.size g o n ep ct L _ ?_ ?_ H.out.len H.out.n64 ?_ ?_).mono ?_
  · rw [heap_old _ _ hgl]; exact H.out.pool
  · rw [heap_old _ _ hol]; exact H.out.own
  · exact cell_of_one (heap_new _ _)
  · simp
  rintro e w1 ⟨v, rfl, hown, bel⟩
  obtain ⟨a, c, rfl, _⟩ := told_len hown
  have B1 : Below w.heap.size w w1 := below_two ((Below.refl _ _).alloc (Nat.le_refl _) _) bel
  have H1 := Lib.hid (H.out.below B1)
  have Hown := Lib.hid hown; clear hown
  have hB1 := Lib.hid B1; clear bel B1
  generalize hm : (idxTo (isLog l) L n).length = m at *
  have Hm := Lib.hid hm; clear hm
  go_wp2
  go_ret
  have hf := own_low Hown.out (show w.heap.size ≤ _ by simp)
  rw [Hm.out]
  exact ⟨⟨_, _, rfl, hf⟩, H1.out, hB1.out⟩
set_option maxHeartbeats 1000000 in
theorem stamps_main (ep n : Nat) (w : World) (he : ep ≤ 65535) (hn : n < 4294967296) :
    Calls Try.prog 4 #[.int .i64 (ep : Int), .int .u32 (n : Int)] w fun e w' => e = .returned (.bool true) ∧ Below w.heap.size w w' := by
  have he' : (ep : Int) ≤ 65535 := by omega
  have He := Lib.hid he; clear he
  obtain ⟨m, hm⟩ : ∃ m : Nat, m = n % 300 := ⟨_, rfl⟩
  have em : Int.tmod (n : Int) 300 = (m : Int) := by rw [Int.tmod_eq_emod_of_nonneg (by omega), hm]; omega
  have hm3 : m < 300 := by omega
  have Hn := Lib.hid hn; clear hn hm
  go_enter Try.func4, Try.ntmps4
  go_wp2_with fail
  refine (new_ok 7 ep _ (by decide) (by decide) He.out).mono ?_
  rintro e w1 ⟨rfl, h⟩
  have H1 := Lib.hid (show St w (w.heap.size + 1) w.heap.size 7 (ep : Int) ((0 : Nat) : Int) [0, 0, 0, 0, 0, 0, 0] w1 from h); clear h
  go_wp2_with fail
  go_loopw [7, 28] (fun lv i wr => ∃ k l : Nat, k ≤ m + 1 ∧ i = .int .i64 k ∧ lv = .int .u32 l ∧ (k = 0 ∨ l + 1 = 65536 * ep + k) ∧ St w (w.heap.size + 1) w.heap.size 7 (ep : Int) (k : Int) [0, 0, 0, 0, 0, 0, 0] wr) (fun _ i _ => m + 1 - (intOf i).toNat)
  case atStart => exact ⟨0, 0, by omega, rfl, rfl, .inl rfl, H1.out⟩
  case round =>
    obtain ⟨k, l, hk, rfl, rfl, hl, h⟩ := hrel
    have H := Lib.hid h; clear h
    have Hl := Lib.hid hl; clear hl
    by_cases hlt : k < m + 1
    · obtain ⟨s, hs⟩ : ∃ s : Nat, 65536 * ep + k = s := ⟨_, rfl⟩
      have Hs := Lib.hid hs; clear hs
      obtain ⟨r, hr⟩ : ∃ r : Nat, k % 3 = r := ⟨_, rfl⟩
      have eq3 : Int.tmod (k : Int) 3 = (r : Int) := by rw [Int.tmod_eq_emod_of_nonneg (by omega)]; omega
      have hr3 : r < 3 := by omega
      clear hr
      have hlog : logOk (1 + (r : Int)) = true := by unfold logOk; simp; omega
      obtain ⟨c1, c2, c3, c4, k1, k2, k3, k4, ks⟩ : ∃ c1 c2 c3 c4 : Nat, (idxTo (isLog 1) [1 + (r : Int), 0, 0, 0, 0, 0, 0] 7).length = c1 ∧ (idxTo (isLog 2) [1 + (r : Int), 0, 0, 0, 0, 0, 0] 7).length = c2 ∧ (idxTo (isLog 3) [1 + (r : Int), 0, 0, 0, 0, 0, 0] 7).length = c3 ∧ (idxTo isFree [1 + (r : Int), 0, 0, 0, 0, 0, 0] 7).length = c4 ∧ c1 + c2 + c3 + c4 = 7 := by
        refine ⟨_, _, _, _, rfl, rfl, rfl, rfl, ?_⟩
        have : r = 0 ∨ r = 1 ∨ r = 2 := by omega
        rcases this with rfl | rfl | rfl <;> decide
      have ks' : (c1 : Int) + c2 + c3 + c4 = 7 := by omega
      have ks'' : ((c1 : Int) + c2 + c3 + c4 != 7) = false := by rw [ks']; rfl
      go_wp2_with fail
      refine (take_n H.out (1 + (r : Int)) hlog He.out (by omega) 0 [1, 2, 3, 4, 5, 6] (by decide) s (k + 1) Hs.out rfl (L2 := [1 + (r : Int), 0, 0, 0, 0, 0, 0]) rfl).mono ?_
      rintro e w2 ⟨rfl, h⟩
      have H2 := Lib.hid h; clear h
      rcases Nat.eq_zero_or_pos k with k0 | k0
      · subst k0
        have es : 65536 * (ep : Int) = (s : Int) := by have := Hs.out; omega
        go_wp2_with fail
        clear es
        have k1' := Lib.hid k1; have k2' := Lib.hid k2; have k3' := Lib.hid k3; have k4' := Lib.hid k4; clear k1 k2 k3 k4
        refine (Of_any H2.out 1).mono ?_
        rintro e w3 ⟨⟨a1, b1, rfl, _⟩, h, _⟩
        rw [k1'.out]
        have H3 := Lib.hid h; clear h
        go_wp2_with fail
        refine (Of_any H3.out 2).mono ?_
        rintro e w4 ⟨⟨a2, b2, rfl, _⟩, h, _⟩
        rw [k2'.out]
        have H4 := Lib.hid h; clear h
        go_wp2_with fail
        refine (Of_any H4.out 3).mono ?_
        rintro e w5 ⟨⟨a3, b3, rfl, _⟩, h, _⟩
        rw [k3'.out]
        have H5 := Lib.hid h; clear h
        go_wp2_with fail
        refine (Free_any H5.out).mono ?_
        rintro e w6 ⟨rfl, h⟩
        rw [k4'.out]
        have H6 := Lib.hid h; clear h
        go_wp2_with fail
        refine (give_ok H6.out 0 (by decide) (by simp; omega)).mono ?_
        rintro e w7 ⟨rfl, h⟩
        have H7 := Lib.hid (show St w (w.heap.size + 1) w.heap.size 7 (ep : Int) ((0 + 1 : Nat) : Int) [0, 0, 0, 0, 0, 0, 0] w7 from h); clear h
        go_wp2
        go_roundw
        case rel => exact ⟨0 + 1, s, by omega, by go_num, rfl, .inr (by have := Hs.out; omega), H7.out⟩
        case measure => simp [intOf]
      · have es : 65536 * (ep : Int) + (k : Int) = (s : Int) := by have := Hs.out; omega
        have el : ((l : Int) + 1) % 4294967296 = (s : Int) := by have := Hs.out; have := Hl.out; have := He.out; omega
        go_wp2_with fail
        clear es el
        have k1' := Lib.hid k1; have k2' := Lib.hid k2; have k3' := Lib.hid k3; have k4' := Lib.hid k4; clear k1 k2 k3 k4
        refine (Of_any H2.out 1).mono ?_
        rintro e w3 ⟨⟨a1, b1, rfl, _⟩, h, _⟩
        rw [k1'.out]
        have H3 := Lib.hid h; clear h
        go_wp2_with fail
        refine (Of_any H3.out 2).mono ?_
        rintro e w4 ⟨⟨a2, b2, rfl, _⟩, h, _⟩
        rw [k2'.out]
        have H4 := Lib.hid h; clear h
        go_wp2_with fail
        refine (Of_any H4.out 3).mono ?_
        rintro e w5 ⟨⟨a3, b3, rfl, _⟩, h, _⟩
        rw [k3'.out]
        have H5 := Lib.hid h; clear h
        go_wp2_with fail
        refine (Free_any H5.out).mono ?_
        rintro e w6 ⟨rfl, h⟩
        rw [k4'.out]
        have H6 := Lib.hid h; clear h
        go_wp2_with fail
        refine (give_ok H6.out 0 (by decide) (by simp; omega)).mono ?_
        rintro e w7 ⟨rfl, h⟩
        have H7 := Lib.hid (show St w (w.heap.size + 1) w.heap.size 7 (ep : Int) ((k + 1 : Nat) : Int) [0, 0, 0, 0, 0, 0, 0] w7 from h); clear h
        go_wp2
        go_roundw
        case rel => exact ⟨k + 1, s, by omega, by go_num, rfl, .inr (by have := Hs.out; omega), H7.out⟩
        case measure => simp [intOf]; omega
    · obtain rfl : k = m + 1 := by omega
      go_wp2_with fail
      refine (Free_any H.out).mono ?_
      rintro e w6 ⟨rfl, h⟩
      rw [show (idxTo isFree [0, 0, 0, 0, 0, 0, 0] 7).length = 7 by decide]
      have H6 := Lib.hid h; clear h
      go_wp2_with (go_at_call 7; refine (six_any _).mono ?_; rintro e w7 ⟨rfl, b7⟩)
      go_ret
      exact ⟨rfl, below_two H6.out.bel b7⟩
theorem poolStamps_walk (ep n : Int) (w : World) (hw : (Lit.int .i64 ep).wf = true) (hn : (Lit.int .u32 n).wf = true) :
    Calls Try.prog 4 #[.int .i64 ep, .int .u32 n] w fun e w' => e = .returned (.bool true) ∧ Below w.heap.size w w' := by
  clear hw
  by_cases h1 : ep < 0
  · clear hn
    go_enter Try.func4, Try.ntmps4
    go_wp2_with (go_at_call 7; refine (six_any _).mono ?_; rintro e w7 ⟨rfl, b7⟩)
    go_ret
    exact ⟨rfl, b7⟩
  · by_cases h2 : 65535 < ep
    · clear hn
      go_enter Try.func4, Try.ntmps4
      go_wp2_with (go_at_call 7; refine (six_any _).mono ?_; rintro e w7 ⟨rfl, b7⟩)
      go_ret
      exact ⟨rfl, b7⟩
    · obtain ⟨x, rfl⟩ := Int.eq_ofNat_of_zero_le (show 0 ≤ ep by omega)
      have hn' : 0 ≤ n ∧ n < 4294967296 := by simp [Lit.wf, IntKind.min, IntKind.max, IntKind.signed, IntKind.bits] at hn; omega
      obtain ⟨y, rfl⟩ := Int.eq_ofNat_of_zero_le hn'.1
      exact stamps_main x y w (by omega) (by omega)
end Go.Proofs.Ytfcpjnikblleaaa
