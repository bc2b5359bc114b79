/- The document's pool: its calls. -/
import Derived.Test.YtfcpjnikblleaaaOf
namespace Go.Proofs.Ytfcpjnikblleaaa
open Go.RowKit
set_option maxRecDepth 100000
set_option linter.unusedSimpArgs false
set_option linter.unusedVariables false
structure RR (b n : Nat) (L : List Int) (w : World) : Prop where
  len : L.length = n
  n64 : n ≤ 64
  blk : ∃ cur fz, w.heap[b]? = some (.cells cur 3 fz) ∧ ∀ i, i < n → cur[i]? = some (iv (L.getD i 0))
theorem RR.lt {b n : Nat} {L : List Int} {w : World} (h : RR b n L w) : b < w.heap.size := by
  obtain ⟨cur, fz, hb, _⟩ := h.blk
  exact blk_lt hb
theorem RR.cell {b n : Nat} {L : List Int} {w : World} (h : RR b n L w) {i : Nat} (hi : i < n) : w.cell? ⟨b, i, none⟩ = some (.int .i64 (L.getD i 0)) := by
  obtain ⟨cur, fz, hb, hc⟩ := h.blk
  rw [blk_cell hb]
  exact hc i hi
theorem RR.below {b n : Nat} {L : List Int} {w w1 : World} (h : RR b n L w) {B : Nat} (hb : Below B w w1) (hB : b < B) : RR b n L w1 := by
  obtain ⟨cur, fz, hc, hh⟩ := h.blk
  exact ⟨h.len, h.n64, cur, fz, (hb.block b hB).trans hc, hh⟩
theorem RR.far {b n : Nat} {L : List Int} {w : World} (h : RR b n L w) {p : Addr} {v : Value} (hp : b ≠ p.block) : RR b n L (w.setCell p v) := by
  obtain ⟨cur, fz, hc, hh⟩ := h.blk
  exact ⟨h.len, h.n64, cur, fz, (heap_far _ _ _ hp).trans hc, hh⟩
def rp (b n c : Nat) (ep ct : Int) : Value := .agg #[.slice (some ⟨b, 0, none⟩) n c, .int .i64 ep, .int .i64 ct]
theorem idx_head {sel : Int → Bool} {L : List Int} {n k : Nat} (h0 : idxN sel L k = []) (h : sel (L.getD k 0) = true) (hk : k < n) : ∃ r, idxN sel L n = k :: r := by
  obtain ⟨m, rfl⟩ := Nat.exists_eq_add_of_lt hk
  unfold idxN at *
  rw [show k + m + 1 = (k + 1) + m by omega, List.range_add, List.filter_append, List.range_succ, List.filter_append, h0, List.filter_cons, if_pos h]
  exact ⟨_, rfl⟩
theorem idxN_no {sel : Int → Bool} {L : List Int} {k : Nat} (h : sel (L.getD k 0) = false) : idxN sel L (k + 1) = idxN sel L k := by
  unfold idxN
  rw [List.range_succ, List.filter_append, List.filter_cons, if_neg (by rw [h]; decide)]
  simp
theorem idxN_yes {sel : Int → Bool} {L : List Int} {k : Nat} (h : sel (L.getD k 0) = true) : (idxN sel L (k + 1)).length = (idxN sel L k).length + 1 := by
  unfold idxN
  rw [List.range_succ, List.filter_append, List.filter_cons, if_pos h]
  simp
theorem idxN_len (sel : Int → Bool) (L : List Int) (k : Nat) : (idxN sel L k).length ≤ k := by
  unfold idxN
  exact Nat.le_trans (List.length_filter_le _ _) (by simp)
theorem log_any (l : Int) (w : World) : Calls Try.prog 30 #[.int .i64 l] w fun e w' => e = .returned (.bool (logOk l)) ∧ w = w' := by
  by_cases h1 : 1 ≤ l
  · by_cases h2 : l ≤ 65535
    · rw [show logOk l = true by simp [logOk, h2]; omega]
      go_enter Try.func30, Try.ntmps30
      go_wp2
      go_ret
      exact ⟨by simp [h2], rfl⟩
    · rw [show logOk l = false by simp [logOk]; omega]
      have h3 : decide (l ≤ 65535) = false := by simp; omega
      go_enter Try.func30, Try.ntmps30
      go_wp2
      go_ret
      exact ⟨rfl, rfl⟩
  · rw [show logOk l = false by simp [logOk]; omega]
    go_enter Try.func30, Try.ntmps30
    go_wp2
    go_ret
    exact ⟨rfl, rfl⟩
theorem ris_any (b n c : Nat) (ep ct s : Int) (w : World) (hn : n ≤ 64) : Calls Try.prog 33 #[rp b n c ep ct, .int .i64 s] w fun e w' => e = .returned (.bool (decide (0 ≤ s ∧ s < n))) ∧ Below w.heap.size w w' := by
  by_cases h1 : 0 ≤ s
  · by_cases h2 : s < n
    · rw [show decide (0 ≤ s ∧ s < (n : Int)) = true by simp [h1, h2]]
      unfold rp
      go_enter Try.func33, Try.ntmps33
      go_wp2
      go_ret
      exact ⟨by simp [h2], (Below.refl _ _).alloc (Nat.le_refl _) _⟩
    · rw [show decide (0 ≤ s ∧ s < (n : Int)) = false by simp; omega]
      have h3 : decide (s < (n : Int)) = false := by simp; omega
      unfold rp
      go_enter Try.func33, Try.ntmps33
      go_wp2
      go_ret
      exact ⟨rfl, (Below.refl _ _).alloc (Nat.le_refl _) _⟩
  · rw [show decide (0 ≤ s ∧ s < (n : Int)) = false by simp; omega]
    unfold rp
    go_enter Try.func33, Try.ntmps33
    go_wp2
    go_ret
    exact ⟨rfl, (Below.refl _ _).alloc (Nat.le_refl _) _⟩
theorem first_none {b n : Nat} {L : List Int} {w : World} (h : RR b n L w) (c : Nat) (ep ct : Int) (h0 : idxN isFree L n = []) : Calls Try.prog 31 #[rp b n c ep ct] w fun e w' => e = .returned (.int .i64 (-1)) ∧ Below w.heap.size w w' := by
  have hall : ∀ k, k < n → (L.getD k 0 == 0) = false := by
    intro k hk
    cases hc : (L.getD k 0 == 0) with
    | false => rfl
    | true =>
      have : k ∈ idxN isFree L n := by unfold idxN; simp only [List.mem_filter, List.mem_range]; exact ⟨hk, hc⟩
      rw [h0] at this
      cases this
  have hbl := Lib.hid h.lt
  have H := Lib.hid h
  have hn := h.n64
  clear h h0
  unfold rp
  go_enter Try.func31, Try.ntmps31
  go_wp2_with fail
  go_loopw [8] (fun i wr => ∃ k : Nat, k ≤ n ∧ i = .int .i64 k ∧ Below w.heap.size w wr) (fun i _ => n - (intOf i).toNat)
  case atStart => exact ⟨0, by omega, rfl, (Below.refl _ _).alloc (Nat.le_refl _) _⟩
  case round =>
    obtain ⟨k, hk, rfl, bel⟩ := hrel
    have Bel := Lib.hid bel; clear bel
    have H2 := H.out.below Bel.out hbl.out
    by_cases hlt : k < n
    · have hc := H2.cell hlt
      clear H2
      have hv := hall k hlt
      generalize L.getD k 0 = x at *
      go_wp2
      go_roundw
      case rel => exact ⟨k + 1, by omega, by go_num, Bel.out⟩
      case measure => simp [intOf]; omega
    · clear H2
      go_wp2
      go_ret
      exact ⟨rfl, Bel.out⟩
theorem first_some {b n : Nat} {L : List Int} {w : World} (h : RR b n L w) (c : Nat) (ep ct : Int) (f : Nat) (r : List Nat) (h0 : idxN isFree L n = f :: r) : Calls Try.prog 31 #[rp b n c ep ct] w fun e w' => e = .returned (.int .i64 (f : Int)) ∧ Below w.heap.size w w' := by
  have H0 := Lib.hid h0
  have hbl := Lib.hid h.lt
  have H := Lib.hid h
  have hn := h.n64
  clear h h0
  unfold rp
  go_enter Try.func31, Try.ntmps31
  go_wp2_with fail
  go_loopw [8] (fun i wr => ∃ k : Nat, k ≤ n ∧ i = .int .i64 k ∧ idxN isFree L k = [] ∧ Below w.heap.size w wr) (fun i _ => n - (intOf i).toNat)
  case atStart => exact ⟨0, by omega, rfl, rfl, (Below.refl _ _).alloc (Nat.le_refl _) _⟩
  case round =>
    obtain ⟨k, hk, rfl, hnil, bel⟩ := hrel
    have Bel := Lib.hid bel; clear bel
    have H2 := H.out.below Bel.out hbl.out
    by_cases hlt : k < n
    · have hc := H2.cell hlt
      clear H2
      have hnil2 := Lib.hid hnil; clear hnil
      cases hv : (L.getD k 0 == 0) with
      | true =>
        obtain ⟨r2, hr2⟩ := idx_head hnil2.out hv hlt
        have hkf : k = f := by rw [H0.out] at hr2; injection hr2 with h1; exact h1.symm
        subst hkf
        clear hr2
        generalize L.getD k 0 = x at *
        go_wp2
        go_ret
        exact ⟨rfl, Bel.out⟩
      | false =>
        have hn3 := Lib.hid ((idxN_no hv).trans hnil2.out)
        generalize L.getD k 0 = x at *
        go_wp2
        go_roundw
        case rel => exact ⟨k + 1, by omega, by go_num, hn3.out, Bel.out⟩
        case measure => simp [intOf]; omega
    · obtain rfl : k = n := by omega
      rw [H0.out] at hnil
      cases hnil
theorem rFree_any {b n : Nat} {L : List Int} {w : World} (h : RR b n L w) (c : Nat) (ep ct : Int) : Calls Try.prog 34 #[rp b n c ep ct] w fun e w' => e = .returned (.int .i64 ((idxN isFree L n).length : Int)) ∧ Below w.heap.size w w' := by
  have hbl := Lib.hid h.lt
  have H := Lib.hid h
  have hn := h.n64
  clear h
  unfold rp
  go_enter Try.func34, Try.ntmps34
  go_wp2_with fail
  go_loopw [3, 9] (fun m i wr => ∃ k : Nat, k ≤ n ∧ i = .int .i64 k ∧ m = .int .i64 ((idxN isFree L k).length : Int) ∧ Below w.heap.size w wr) (fun _ i _ => n - (intOf i).toNat)
  case atStart => exact ⟨0, by omega, rfl, rfl, (Below.refl _ _).alloc (Nat.le_refl _) _⟩
  case round =>
    obtain ⟨k, hk, rfl, rfl, bel⟩ := hrel
    have Bel := Lib.hid bel; clear bel
    have H2 := H.out.below Bel.out hbl.out
    have hlen := idxN_len isFree L k
    by_cases hlt : k < n
    · have hc := H2.cell hlt
      clear H2
      cases hv : (L.getD k 0 == 0) with
      | true =>
        have hn3 := Lib.hid (idxN_yes (sel := isFree) hv)
        generalize L.getD k 0 = x at *
        generalize (idxN isFree L k).length = m at *
        go_wp2
        go_roundw
        case rel => exact ⟨k + 1, by omega, by go_num, by rw [hn3.out]; go_num, Bel.out⟩
        case measure => simp [intOf]; omega
      | false =>
        have hn3 := Lib.hid (congrArg List.length (idxN_no (sel := isFree) hv))
        generalize L.getD k 0 = x at *
        generalize (idxN isFree L k).length = m at *
        go_wp2
        go_roundw
        case rel => exact ⟨k + 1, by omega, by go_num, by rw [hn3.out], Bel.out⟩
        case measure => simp [intOf]; omega
    · clear H2
      obtain rfl : k = n := by omega
      go_wp2
      go_ret
      exact ⟨rfl, Bel.out⟩
theorem row_lt {w : World} {B n : Nat} {s : Value} {xs : List Value} (h : w.ownsRow B 3 1 s n xs) : ∀ b, s.ownBlock = some b → b < w.heap.size := by
  intro b hb
  rcases h.2 with ⟨rfl, _⟩ | ⟨g, cap, cur, rfl, _, hh, _⟩
  · simp [Value.ownBlock] at hb
  · have : g = b := by simpa [Value.ownBlock] using hb
    subst this; exact blk_lt hh
/-- A row of one's own as the document's owners. -/
theorem rr_own {w : World} {B : Nat} {s : Value} {L : List Int} (h : w.ownsRow B 3 1 s L.length (L.map iv)) (hp : 0 < L.length) (h64 : L.length ≤ 64) : ∃ b c, s = .slice (some ⟨b, 0, none⟩) L.length c ∧ B ≤ b ∧ RR b L.length L w := by
  rcases h.2 with ⟨rfl, h0⟩ | ⟨g, cap, cur, rfl, hb, hh, hc, _, hsz, htk⟩
  · omega
  · refine ⟨g, cap, rfl, hb, rfl, h64, cur, _, hh, fun i hi => ?_⟩
    have : (cur.toList.take (L.length * 1))[i]? = (L.map iv)[i]? := by rw [htk]
    rw [List.getElem?_take_of_lt (by omega)] at this
    have e : cur.toList[i]? = some (iv (L.getD i 0)) := by
      rw [this]
      simp [hi, List.getD]
    simpa using e
theorem take_set {L : List Int} {s k : Nat} {v : Int} (hk : k < L.length) : (L.set s v).take (k + 1) = (L.set s v).take k ++ [if k = s then v else L.getD k 0] := by
  have hk2 : k < (L.set s v).length := by simpa using hk
  rw [List.take_add_one, List.getElem?_eq_getElem hk2]
  congr 1
  by_cases h : k = s
  · subst h; simp
  · rw [if_neg h, List.getElem_set_ne (fun e => h e.symm)]
    simp [List.getD, hk]
set_option maxHeartbeats 1000000 in
theorem set_any {b n : Nat} {L : List Int} {w : World} (h : RR b n L w) (c : Nat) (ep ct : Int) (s : Nat) (v : Int) (hs : s < n) : Calls Try.prog 32 #[rp b n c ep ct, .int .i64 (s : Int), .int .i64 v] w fun e w' => ∃ b2 c2, e = .returned (rp b2 n c2 ep ct) ∧ w.heap.size ≤ b2 ∧ RR b2 n (L.set s v) w' ∧ Below w.heap.size w w' := by
  obtain ⟨i0, hi, hz0, hz1, hz2⟩ := info_parts info3
  have hbl := Lib.hid h.lt
  have H := Lib.hid h
  have hn := h.n64
  have hln := h.len
  clear h
  unfold rp
  go_enter Try.func32, Try.ntmps32
  go_wp2_with fail
  have hA : ∃ A, A = Obj.cells #[Value.slice (some { block := b, off := 0 }) n c, Value.int IntKind.i64 ep, Value.int IntKind.i64 ct] 40 := ⟨_, rfl⟩
  obtain ⟨A, hA⟩ := hA
  have hZ : ∃ Z, Z = Obj.cells #[Value.slice none 0 0, Value.int IntKind.i64 0, Value.int IntKind.i64 0] 40 := ⟨_, rfl⟩
  obtain ⟨Z, hZ⟩ := hZ
  rw [← hA, ← hZ]
  obtain ⟨W1, hW1⟩ : ∃ W1, W1 = (w.alloc A).alloc Z := ⟨_, rfl⟩
  rw [← hW1]
  have hp : W1.heap[w.heap.size]? = some A := by rw [hW1, heap_old _ _ (by simp), heap_new]
  have hr : W1.heap[w.heap.size + 1]? = some Z := by rw [hW1]; simpa using heap_new (w.alloc A) Z
  have hs1 : W1.heap.size = w.heap.size + 2 := by rw [hW1]; simp
  have B01 := Lib.hid (show Below w.heap.size w W1 by rw [hW1]; exact ((Below.refl _ _).alloc (Nat.le_refl _) _).alloc (by simp) _)
  rw [hA] at hp
  rw [hZ] at hr
  clear hW1 hA hZ
  have Hp := Lib.hid hp
  have Hr := Lib.hid hr
  clear hp hr
  go_loopw [7, 13] (fun x0 i wr => ∃ (k : Nat) (u : Value), k ≤ n ∧ u = x0 ∧ i = .int .i64 k ∧ wr.ownsRow (w.heap.size + 2) 3 1 u k (((L.set s v).take k).map iv) ∧ Below (w.heap.size + 2) W1 wr) (fun _ i _ => n - (intOf i).toNat)
  case atStart => exact ⟨0, _, by omega, rfl, rfl, ⟨rfl, .inl ⟨rfl, rfl⟩⟩, Below.refl _ _⟩
  case round =>
    obtain ⟨k, u, hk, rfl, rfl, hown, bel⟩ := hrel
    have Bel := Lib.hid bel; clear bel
    have H1 := H.out.below B01.out hbl.out
    have H2 := H1.below Bel.out (by have := hbl.out; omega)
    clear H1
    by_cases hlt : k < n
    · have hc := H2.cell hlt
      clear H2
      have Hown := Lib.hid hown; clear hown
      have Hy := Lib.hid (take_set (L := L) (s := s) (v := v) (k := k) (by omega))
      generalize L.getD k 0 = x at *
      generalize hI : (L.set s v).take k = I at *
      have HI := Lib.hid hI; clear hI
      by_cases hks : k = s
      · subst hks
        rw [if_pos rfl] at Hy
        go_wp2_with (at_builtin; refine wpList_append_own _ rfl _ _ 33 rfl (w.heap.size + 2) 3 i0 (.int .i64 0) 1 8 Try.underlying33 hi hz0 hz1 hz2 rfl (by decide) _ _ _ rfl (Hown.out.kept (World.grownBy_alloc _ _ none) (by cases h : Value.ownBlock _ <;> simp)) ⟨wr.heap.size, 0, none⟩ 1 1 [.int .i64 v] rfl rfl ?c1 ?c2 ?c3 ?c4 ?c5 ?_)
        case c1 =>
          intro j u hj
          have hj0 : j = 0 := by
            rcases Nat.eq_zero_or_pos j with h | h
            · exact h
            · rw [List.getElem?_eq_none (by simp; omega)] at hj; simp at hj
          subst hj0
          simp at hj; subst hj
          exact cell_of_one (heap_new _ _)
        case c2 => intro u hu; simp at hu; subst hu; rfl
        case c3 => unfold maxLen; omega
        case c4 => omega
        case c5 => have := Bel.out.size; simp; omega
        intro v' w1 hown' hgrow _
        have Bel2 := Lib.hid ((Bel.out.alloc (by have := Bel.out.size; omega) _).grown hgrow (by have := Bel.out.size; simp; omega) (fun j hj => own_base Hown.out j hj))
        have Hown2 := Lib.hid hown'
        clear hown' hgrow
        go_wp2
        go_roundw
        case rel => exact ⟨k + 1, _, by omega, rfl, by go_num, by rw [Hy.out]; simpa [iv] using Hown2.out, Bel2.out⟩
        case measure => simp [intOf]; omega
      · rw [if_neg hks] at Hy
        have hks' : ((k : Int) == (s : Int)) = false := by rw [beq_eq_false_iff_ne]; omega
        go_wp2_with (at_builtin; refine wpList_append_own _ rfl _ _ 33 rfl (w.heap.size + 2) 3 i0 (.int .i64 0) 1 8 Try.underlying33 hi hz0 hz1 hz2 rfl (by decide) _ _ _ rfl (Hown.out.kept (World.grownBy_alloc _ _ none) (by cases h : Value.ownBlock _ <;> simp)) ⟨wr.heap.size, 0, none⟩ 1 1 [.int .i64 x] rfl rfl ?c1 ?c2 ?c3 ?c4 ?c5 ?_)
        case c1 =>
          intro j u hj
          have hj0 : j = 0 := by
            rcases Nat.eq_zero_or_pos j with h | h
            · exact h
            · rw [List.getElem?_eq_none (by simp; omega)] at hj; simp at hj
          subst hj0
          simp at hj; subst hj
          exact cell_of_one (heap_new _ _)
        case c2 => intro u hu; simp at hu; subst hu; rfl
        case c3 => unfold maxLen; omega
        case c4 => omega
        case c5 => have := Bel.out.size; simp; omega
        intro v' w1 hown' hgrow _
        have Bel2 := Lib.hid ((Bel.out.alloc (by have := Bel.out.size; omega) _).grown hgrow (by have := Bel.out.size; simp; omega) (fun j hj => own_base Hown.out j hj))
        have Hown2 := Lib.hid hown'
        clear hown' hgrow
        go_wp2
        go_roundw
        case rel => exact ⟨k + 1, _, by omega, rfl, by go_num, by rw [Hy.out]; simpa [iv] using Hown2.out, Bel2.out⟩
        case measure => simp [intOf]; omega
    · obtain rfl : k = n := by omega
      rw [List.take_of_length_le (by rw [List.length_set]; omega)] at hown
      have hlen2 : (L.set s v).length = k := by rw [List.length_set]; exact hln
      have hq : ∃ b c, u = .slice (some ⟨b, 0, none⟩) k c ∧ w.heap.size + 2 ≤ b ∧ RR b k (L.set s v) wr := by
        have := rr_own (B := w.heap.size + 2) (s := u) (L := L.set s v) (w := wr) (by rw [hlen2]; exact hown) (by omega) (by omega)
        rw [hlen2] at this
        exact this
      obtain ⟨b2, c2, rfl, hb2, hrr⟩ := hq
      have Hrr := Lib.hid hrr
      clear H2 hown hrr
      have Hp2 := (Bel.out.block w.heap.size (by omega)).trans Hp.out
      have Hr2 := (Bel.out.block (w.heap.size + 1) (by omega)).trans Hr.out
      have q1 := blk_cell Hp2 1
      have q2 := blk_cell Hp2 2
      have r0 := blk_cell Hr2 0
      have r1 := blk_cell Hr2 1
      have r2 := blk_cell Hr2 2
      have f0 := blk_free Hr2 0
      have f1 := blk_free Hr2 1
      have f2 := blk_free Hr2 2
      have rs := Bel.out.size
      simp at q1 q2 r0 r1 r2
      go_wp2
      refine bodyPost_ret (v := .agg #[.slice (some ⟨b2, 0, none⟩) k c2, .int .i64 ep, .int .i64 ct]) (by simp [results, Try.results32, go_sem, *]) rfl ?_
      refine ⟨b2, c2, rfl, by omega, ?_, ?_⟩
      · exact ((Hrr.out.far (by simp; omega)).far (by simp; omega)).far (by simp; omega)
      · exact (((B01.out.trans (Bel.out.mono (by omega))).setCell (by simp) _).setCell (by simp) _).setCell (by simp) _
end Go.Proofs.Ytfcpjnikblleaaa
