/- The document's disk: something else in a sector, without a span's writes, a write. -/
import Derived.Test.YtlodjkmablogcaaDK
namespace Go.Proofs.Ytlodjkmablogcaa.Own
open Go.RowKit Go.Proofs.YtlodjkmablogcaaW.PrintWords Go.Proofs.Ytlodjkmablogcaa.PB
set_option maxRecDepth 100000
set_option linter.unusedSimpArgs false
set_option linter.unusedVariables false
theorem C_addr {α : Type} {d : Kd α} {w : World} {A : Option Addr} {n : Nat} {xs : List α} (z : α) (h : Kd.C d w A n xs) (hn : 0 < n) (hd : 0 < d.sz) : ∃ b off, A = some ⟨b, off, none⟩ := by
  obtain ⟨ad, c, e, hl, hK, hc⟩ := Kd.C_get h z 0 (by omega) (by omega)
  have h0 := hc 0 (c[0]'(by rw [hl]; exact hd)) (List.getElem?_eq_getElem _)
  obtain ⟨b, off, spot⟩ := ad
  have hspot : spot = none := by simpa [Addr.add] using World.cell?_spot h0
  subst hspot
  exact ⟨b, off, e⟩
theorem at9 {w : World} {A : Option Addr} {n : Nat} {xs : List ByteArray} (h : Kd.C Kd.string w A n xs) (i : Nat) (h1 : i < n) : ∃ b off, A = some ⟨b, off, none⟩ ∧ w.cell? ⟨b, off + i, none⟩ = some (.string (xs.getD i ByteArray.empty)) := by
  obtain ⟨b, off, rfl⟩ := C_addr ByteArray.empty h (by omega) (by show 0 < 1; omega)
  obtain ⟨ad, c, e, _, hK, hc⟩ := Kd.C_get h ByteArray.empty (i : Int) (by omega) (by omega)
  injection e with e
  subst e
  rw [Int.toNat_natCast] at hK hc
  subst hK
  refine ⟨b, off, rfl, ?_⟩
  have := hc 0 _ rfl
  rw [show i * (Kd.string).sz + 0 = i by show i * 1 + 0 = i; omega, Go.WideShapes.add_plain] at this
  exact this
theorem at79 {w : World} {A : Option Addr} {n : Nat} {xs : List S79} (h : Kd.C k79 w A n xs) (i : Nat) (h1 : i < n) : ∃ b off, A = some ⟨b, off, none⟩ ∧ w.cell? ⟨b, off + i * 2, none⟩ = some (.int .i64 (xs.getD i z79).f0) ∧ w.cell? ⟨b, off + i * 2 + 1, none⟩ = some (.string (xs.getD i z79).f1) := by
  obtain ⟨b, off, rfl⟩ := C_addr z79 h (by omega) (by show 0 < 2; omega)
  obtain ⟨ad, e, x0, x1⟩ := at_T79 h (i : Int) (by omega) (by omega)
  injection e with e
  subst e
  rw [Int.toNat_natCast, show rd_T79 xs (i : Int) = xs.getD i z79 by unfold rd_T79; rw [Int.toNat_natCast]] at x0 x1
  rw [Go.WideShapes.add_plain] at x0 x1
  exact ⟨b, off, rfl, x0, x1⟩
theorem at52 {w : World} {A : Option Addr} {n : Nat} {xs : List S52} (h : Kd.C k52 w A n xs) (i : Nat) (h1 : i < n) : ∃ b off, A = some ⟨b, off, none⟩ ∧ w.cell? ⟨b, off + i * 2, none⟩ = some (.int .i64 (xs.getD i z52).f0) ∧ w.cell? ⟨b, off + i * 2 + 1, none⟩ = some (.int .i64 (xs.getD i z52).f1) := by
  obtain ⟨b, off, rfl⟩ := C_addr z52 h (by omega) (by show 0 < 2; omega)
  obtain ⟨ad, e, x0, x1⟩ := at_T52 h (i : Int) (by omega) (by omega)
  injection e with e
  subst e
  rw [Int.toNat_natCast, show rd_T52 xs (i : Int) = xs.getD i z52 by unfold rd_T52; rw [Int.toNat_natCast]] at x0 x1
  rw [Go.WideShapes.add_plain] at x0 x1
  exact ⟨b, off, rfl, x0, x1⟩
/-- Where sectors are gone through: one is another one. -/
def putTo (L : List ByteArray) (i : Int) (s : ByteArray) (k : Nat) : List ByteArray := (List.range k).map fun (j : Nat) => if (j : Int) = i then s else L.getD j ByteArray.empty
theorem putTo_succ (L : List ByteArray) (i : Int) (s : ByteArray) (k : Nat) : putTo L i s (k + 1) = putTo L i s k ++ [if (k : Int) = i then s else L.getD k ByteArray.empty] := by
  unfold putTo
  rw [List.range_succ, List.map_append]
  rfl
theorem putTo_length (L : List ByteArray) (i : Int) (s : ByteArray) (k : Nat) : (putTo L i s k).length = k := by simp [putTo]
theorem putTo_all (L : List ByteArray) (p : Nat) (s : ByteArray) : putTo L (p : Int) s L.length = L.set p s := by
  apply List.ext_getElem
  · simp [putTo]
  · intro j h1 h2
    simp only [putTo, List.length_map, List.length_range] at h1
    simp only [putTo, List.getElem_map, List.getElem_range, List.getElem_set]
    by_cases e : p = j
    · subst e; simp
    · rw [if_neg (by omega), if_neg e, List.getD_eq_getElem?_getD, List.getElem?_eq_getElem h1]
      rfl
set_option maxHeartbeats 2000000 in
theorem set_any (A : Option Addr) (c : Nat) (L : List ByteArray) (vW : Value) (p : Nat) (s : ByteArray) (w : World) (hC : Kd.C Kd.string w A L.length L) (h1W : ∃ A' n' c', vW = .slice A' n' c') (hL : L.length ≤ 1000000) :
    Calls Try.prog 36 #[.agg #[.slice A L.length c, vW], .int .i64 (p : Int), .string s] w fun e w' => ∃ v', e = .returned (.agg #[v', vW]) ∧ Kd.R Kd.string 9 w' w.heap.size (fun _ => True) v' (L.set p s) ∧ Below w.heap.size w w' := by
  obtain ⟨A', n', c', rfl⟩ := h1W
  have HC := Lib.hid hC; clear hC
  have hl' : (L.length : Int) ≤ 1000000 := by omega
  have B1 : Below w.heap.size w (w.alloc (.cells #[.slice A L.length c, .slice A' n' c'] 39)) := (Below.refl _ _).alloc (Nat.le_refl _) _
  have B2 : Below (w.alloc (.cells #[.slice A L.length c, .slice A' n' c'] 39)).heap.size (w.alloc (.cells #[.slice A L.length c, .slice A' n' c'] 39)) ((w.alloc (.cells #[.slice A L.length c, .slice A' n' c'] 39)).alloc (.cells #[.slice none 0 0, .slice none 0 0] 39)) := (Below.refl _ _).alloc (Nat.le_refl _) _
  have X0 := heap_new w (.cells #[.slice A L.length c, .slice A' n' c'] 39)
  have X1 := heap_new (w.alloc (.cells #[.slice A L.length c, .slice A' n' c'] 39)) (.cells #[.slice none 0 0, .slice none 0 0] 39)
  have Y0 := blk_below X0 B2
  have hs1 : (w.alloc (.cells #[.slice A L.length c, .slice A' n' c'] 39)).heap.size = w.heap.size + 1 := by simp
  rw [hs1] at X1
  have BB := Lib.hid (B1.trans (B2.mono B1.size))
  have d0 := (blk_cell Y0 0).trans rfl
  have d1 := (blk_cell Y0 1).trans rfl
  have Y0' := Lib.hid Y0; have X1' := Lib.hid X1
  clear X0 B1 B2 Y0 X1 hs1
  go_enter Try.func36, Try.ntmps36
  go_wp2_with fail
  generalize hW1 : (w.alloc (.cells #[.slice A L.length c, .slice A' n' c'] 39)).alloc (.cells #[.slice none 0 0, .slice none 0 0] 39) = W1 at *
  clear hW1 d0 d1
  go_loopw [7, 13] (fun v i wr => ∃ k : Nat, k ≤ L.length ∧ i = .int .i64 k ∧ Kd.R Kd.string 9 wr W1.heap.size (fun _ => True) v (putTo L (p : Int) s k) ∧ Below W1.heap.size W1 wr) (fun _ i _ => L.length - (intOf i).toNat)
  case atStart => exact ⟨0, by omega, rfl, Kd.R_nil _ _ _ _ _, Below.refl _ _⟩
  case round =>
    obtain ⟨k, hk, rfl, hR, bel⟩ := hrel
    have HR := Lib.hid hR; clear hR
    have Bel := Lib.hid bel; clear bel
    by_cases hlt : k < L.length
    · have q1 : (0 : Int) ≤ (k : Int) := Int.natCast_nonneg _
      have q2 : (k : Int) < (L.length : Int) := by omega
      obtain ⟨b, off, rfl, hx⟩ := at9 (Kd.C_below HC.out (BB.out.trans (Bel.out.mono BB.out.size))) k hlt
      have HS := Lib.hid (putTo_succ L (p : Int) s k)
      have HL := Lib.hid (putTo_length L (p : Int) s k)
      generalize L.getD k ByteArray.empty = x at *
      generalize putTo L (p : Int) s k = Z at *
      by_cases e : (k : Int) = (p : Int)
      · rw [if_pos e] at HS
        have e9 : k = p := by omega
        subst e9
        clear e
        go_wp2_with (at_builtin; refine Kd.R_append Kd.string (w0 := W1) (W := wr) W1.heap.size rfl (.tmp 21) (.tmp 23) 33 9 (.string ⟨#[]⟩) 16 rfl Try.underlying33 info9 rfl (by decide) (by omega) u7 Z s [.string s] (fun _ => True) (fun _ => False) rfl rfl rfl (fun _ h => h.elim) (fun _ _ => trivial) HR.out Bel.out Bel.out.size (by have := HL.out; omega) ?_; intro v2 w2 hR2 hB2 hg2 ha2; have HR2 := Lib.hid hR2; have HB2 := Lib.hid hB2; clear hR2 hB2 hg2 ha2)
        try go_wp2
        go_roundw
        case rel => exact ⟨k + 1, by omega, by go_num, by rw [HS.out]; exact HR2.out, HB2.out⟩
        case measure => simp [intOf]; omega
      · rw [if_neg e] at HS
        have e' : ((k : Int) == (p : Int)) = false := by rw [beq_eq_false_iff_ne]; exact e
        have e2 : (k == p) = false := by rw [beq_eq_false_iff_ne]; omega
        have e3 : ¬ k = p := by omega
        go_wp2_with (at_builtin; refine Kd.R_append Kd.string (w0 := W1) (W := wr) W1.heap.size rfl (.tmp 25) (.tmp 27) 33 9 (.string ⟨#[]⟩) 16 rfl Try.underlying33 info9 rfl (by decide) (by omega) u7 Z x [.string x] (fun _ => True) (fun _ => False) rfl rfl rfl (fun _ h => h.elim) (fun _ _ => trivial) HR.out Bel.out Bel.out.size (by have := HL.out; omega) ?_; intro v2 w2 hR2 hB2 hg2 ha2; have HR2 := Lib.hid hR2; have HB2 := Lib.hid hB2; clear hR2 hB2 hg2 ha2)
        try go_wp2
        go_roundw
        case rel => exact ⟨k + 1, by omega, by go_num, by rw [HS.out]; exact HR2.out, HB2.out⟩
        case measure => simp [intOf]; omega
    · obtain rfl : k = L.length := by omega
      have R := HR.out
      rw [putTo_all] at R
      have z0 := blk_below Y0'.out Bel.out
      have z1 := blk_below X1'.out Bel.out
      have d1 := (blk_cell z0 1).trans rfl
      have e0 := (blk_cell z1 0).trans rfl
      have e1 := (blk_cell z1 1).trans rfl
      have f0 := blk_free z1 0
      have f1 := blk_free z1 1
      obtain ⟨A2, c2, rfl⟩ := Kd.R_slice R
      generalize hn2 : (L.set p s).length = n2 at *
      have R2 := Lib.hid R; have Z1 := Lib.hid z1; have N2 := Lib.hid hn2
      clear R z0 z1 hn2
      go_wp2
      have HZ : ((wr.setCell ⟨w.heap.size + 1, 0, none⟩ (.slice A2 n2 c2)).setCell ⟨w.heap.size + 1, 1, none⟩ (.slice A' n' c')).heap[w.heap.size + 1]? = some (.cells #[.slice A2 n2 c2, .slice A' n' c'] 39 (0, 0)) := (heap_set (heap_set Z1.out (i := 0) _) (i := 1) _).trans rfl
      refine bodyPost_ret (v := .agg #[.slice A2 n2 c2, .slice A' n' c']) (results_cell_row Try.results36 _ _ (w.heap.size + 1) 39 _ (0, 0) _ rfl HZ Try.underlying39 rfl (by kernel_rfl)) rfl ⟨_, rfl, ?_, ?_⟩
      · have hlt : w.heap.size + 1 < W1.heap.size := blk_lt X1'.out
        exact Kd.R_far (Kd.R_far (Kd.R_lower (Kd.R_mono (Kd.R_bound R2.out) (ok' := fun q => q ≠ w.heap.size + 1) (fun q hq => by have := hq.2.1; omega)) (by omega)) (fun q hq => hq) _) (fun q hq => hq) _ |> fun h => Kd.R_mono h (fun _ _ => trivial)
      · exact ((BB.out.trans (Bel.out.mono BB.out.size)).setCell (by simp) _).setCell (by simp) _
end Go.Proofs.Ytlodjkmablogcaa.Own
