/- The disk: what lies there, what is read. -/
import Derived.Test.YtekcidfipdjfdaaDB
namespace Go.Proofs.Ytekcidfipdjfdaa.Own
open Go.RowKit Go.Proofs.YtekcidfipdjfdaaW.PrintWords Go.Proofs.Ytekcidfipdjfdaa.PB
set_option maxRecDepth 100000
set_option linter.unusedSimpArgs false
set_option linter.unusedVariables false
/-- A sector's bytes as a string. -/
theorem conv63 {w : World} {b off : Nat} {s : ByteArray} (h : w.rangeAt b off (sc s)) (n cap : Nat) (hn : n = s.size) : (convert 58 9 (.slice (some ⟨b, off, none⟩) n cap)).run Try.prog w = .ok (.string s) w := by
  subst hn
  have := Go.run_convert_bytes_back (P := Try.prog) w 58 9 5 ⟨b, off, none⟩ cap s.data.toList Try.underlying58 Try.underlying5 Try.underlying9 (fun j hj => by
    have := h j (.int .u8 (s.data.toList[j].toNat : Int)) (by unfold sc Lib.strCells; rw [List.getElem?_map, List.getElem?_eq_getElem hj]; rfl)
    rw [Go.WideShapes.add_plain]; exact this)
  simpa using this
theorem box65_at (w : World) (x : S79) : (w.alloc (.cells (wc x).toArray 62)).cell? ⟨w.heap.size, 0, none⟩ = some (.int .i64 x.f0) := (blk_cell (heap_new _ _) 0).trans rfl
theorem box65_range (w : World) (x : S79) : (w.alloc (.cells (wc x).toArray 62)).rangeAt w.heap.size 1 (sc x.f1) := by
  intro j v hj
  rw [blk_cell (heap_new _ _), List.getElem?_toArray, wc, Nat.add_comm, List.getElem?_cons_succ]
  exact hj
theorem box65_whole (w : World) (x : S79) : (w.alloc (.cells (wc x).toArray 62)).rangeAt w.heap.size 0 (wc x) := by
  intro j v hj
  rw [blk_cell (heap_new _ _), List.getElem?_toArray, Nat.zero_add]
  exact hj
theorem isB_yes {n : Nat} {i : Int} (h : isB n i = true) : ∃ k : Nat, i = k ∧ k < n := by
  unfold isB at h
  have := of_decide_eq_true h
  obtain ⟨k, rfl⟩ := Int.eq_ofNat_of_zero_le this.1
  exact ⟨k, rfl, by omega⟩
theorem lies_bad {B g o : Nat} {v : Value} {L : List ByteArray} {W : List S79} {w : World} (h : DS B g o v L W w) (i : Int) (hi : isB L.length i = false) :
    Calls Try.prog 31 #[.pointer (some ⟨g, 0, none⟩), .int .i64 i] w fun e w' => e = .returned (.tuple #[.string ⟨#[]⟩, .int .i64 20]) ∧ w = w' := by
  have HI := Lib.hid hi; clear hi
  go_enter Try.func31, Try.ntmps31
  go_wp2_with fail
  refine (is_any h i).mono ?_
  rintro e w7 ⟨rfl, rfl⟩
  rw [HI.out]
  go_wp2
  go_ret2
  exact ⟨rfl, rfl⟩
theorem lies_ok {B g o : Nat} {v : Value} {L : List ByteArray} {W : List S79} {w : World} (h : DS B g o v L W w) (k : Nat) (hk : k < L.length) :
    Calls Try.prog 31 #[.pointer (some ⟨g, 0, none⟩), .int .i64 (k : Int)] w fun e w' => e = .returned (.tuple #[.string (L.getD k ByteArray.empty), .int .i64 0]) ∧ w = w' := by
  have hi : isB L.length (k : Int) = true := by simp [isB, hk]
  have HI := Lib.hid hi; clear hi
  have hs : (L.getD k ByteArray.empty).size = 64 := h.l64 _ (by rw [List.getD_eq_getElem?_getD, List.getElem?_eq_getElem hk]; exact List.getElem_mem hk)
  have kc := conv63 (h.sector k hk) 64 64 hs.symm
  have c0 := blk_cell h.blk 0
  simp at c0
  have hf : (L.length : Int) ≤ 8192 := by have := h.few; omega
  have p1 : (0 : Int) ≤ (k : Int) := Int.natCast_nonneg _
  have p2 : (k : Int) < (L.length : Int) := by omega
  generalize L.getD k ByteArray.empty = s at *
  clear hs
  go_enter Try.func31, Try.ntmps31
  go_wp2_with fail
  refine (is_any h (k : Int)).mono ?_
  rintro e w7 ⟨rfl, rfl⟩
  rw [HI.out]
  go_wp2
  go_ret2
  exact ⟨rfl, rfl⟩
/-- What is read at a place. -/
def readF (i : Int) (s : ByteArray) (W : List S79) : ByteArray := W.foldl (fun s x => if x.f0 = i then x.f1 else s) s
theorem readF_take {i : Int} {s : ByteArray} {W : List S79} {k : Nat} (hk : k < W.length) : readF i s (W.take (k + 1)) = if (W.getD k z79).f0 = i then (W.getD k z79).f1 else readF i s (W.take k) := by
  unfold readF
  rw [take_getD W z79 hk, List.foldl_append]
  rfl
theorem read_bad {B g o : Nat} {v : Value} {L : List ByteArray} {W : List S79} {w : World} (h : DS B g o v L W w) (i : Int) (hi : isB L.length i = false) :
    Calls Try.prog 21 #[.pointer (some ⟨g, 0, none⟩), .int .i64 i] w fun e w' => e = .returned (.tuple #[.string ⟨#[]⟩, .int .i64 20]) ∧ w = w' := by
  go_enter Try.func21, Try.ntmps21
  go_wp2_with fail
  refine (lies_bad h i hi).mono ?_
  rintro e w7 ⟨rfl, rfl⟩
  go_wp2
  go_ret2
  exact ⟨rfl, rfl⟩
set_option maxHeartbeats 1000000 in
theorem read_ok {B g o : Nat} {v : Value} {L : List ByteArray} {W : List S79} {w : World} (h : DS B g o v L W w) (k : Nat) (hk : k < L.length) :
    Calls Try.prog 21 #[.pointer (some ⟨g, 0, none⟩), .int .i64 (k : Int)] w fun e w' => e = .returned (.tuple #[.string (readF k (L.getD k ByteArray.empty) W), .int .i64 0]) ∧ Below w.heap.size w w' := by
  have c1 := blk_cell h.blk 1
  simp at c1
  obtain ⟨A, c, rfl, hlc, hC⟩ := Kd.R_reads h.row
  have hmax := Kd.C_max hC
  have HK := Lib.hid hk
  have HC := Lib.hid hC; clear hC
  go_enter Try.func21, Try.ntmps21
  go_wp2_with fail
  refine (lies_ok h k hk).mono ?_
  rintro e w7 ⟨rfl, rfl⟩
  have H := Lib.hid h; clear h hk
  obtain ⟨s0, hs0⟩ : ∃ s0, s0 = L.getD k ByteArray.empty := ⟨_, rfl⟩
  rw [← hs0]
  have HS0 := Lib.hid hs0; clear hs0
  go_wp2_with fail
  clear c1
  go_loopw [6, 24] (fun s i wr => ∃ j : Nat, j ≤ W.length ∧ i = .int .i64 j ∧ s = .string (readF k s0 (W.take j)) ∧ Below w.heap.size w wr) (fun _ i _ => W.length - (intOf i).toNat)
  case atStart => exact ⟨0, by omega, rfl, rfl, Below.refl _ _⟩
  case round =>
    obtain ⟨j, hj, rfl, rfl, bel⟩ := hrel
    have Bel := Lib.hid bel; clear bel
    by_cases hlt : j < W.length
    · have q1 : (0 : Int) ≤ (j : Int) := Int.natCast_nonneg _
      have q2 : (j : Int) < (W.length : Int) := by omega
      obtain ⟨ad, rfl, h6, hR, hsp⟩ := at65 (Kd.C_below HC.out Bel.out) j hlt
      obtain ⟨b, off, sp⟩ := ad
      subst hsp
      have HT := Lib.hid (readF_take (i := (k : Int)) (s := s0) hlt)
      have HR := Lib.hid hR; clear hR
      have H6 := Lib.hid h6; clear h6
      generalize W.getD j z79 = x at *
      generalize readF (k : Int) s0 (W.take j) = r at *
      have kb := box65_at wr x
      have kc := conv63 (box65_range wr x) 64 64 H6.out.symm
      by_cases hx : x.f0 = (k : Int)
      · rw [if_pos hx] at HT
        go_wp2_with (first | (refine wpList_load65 rfl (.tmp 26) rfl b (off + j * 65) x rfl HR.out H6.out ?_) | (refine wpList_box65 rfl rfl rfl 9 (.tmp 27) rfl rfl rfl x rfl rfl H6.out ?_))
        go_roundw
        case rel => exact ⟨j + 1, by omega, by go_num, by rw [HT.out], Bel.out.alloc Bel.out.size _⟩
        case measure => simp [intOf]; omega
      · rw [if_neg hx] at HT
        go_wp2_with (first | (refine wpList_load65 rfl (.tmp 26) rfl b (off + j * 65) x rfl HR.out H6.out ?_) | (refine wpList_box65 rfl rfl rfl 9 (.tmp 27) rfl rfl rfl x rfl rfl H6.out ?_))
        go_roundw
        case rel => exact ⟨j + 1, by omega, by go_num, by rw [HT.out], Bel.out.alloc Bel.out.size _⟩
        case measure => simp [intOf]; omega
    · obtain rfl : j = W.length := by omega
      go_wp2
      go_ret2
      rw [List.take_length, HS0.out]
      exact ⟨rfl, Bel.out⟩
end Go.Proofs.Ytekcidfipdjfdaa.Own
