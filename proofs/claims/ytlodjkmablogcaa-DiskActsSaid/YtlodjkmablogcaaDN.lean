/- The document's disk: a write, a flush. -/
import Derived.Test.YtlodjkmablogcaaDM
namespace Go.Proofs.Ytlodjkmablogcaa.Own
open Go.RowKit Go.Proofs.YtlodjkmablogcaaW.PrintWords Go.Proofs.Ytlodjkmablogcaa.PB
set_option maxRecDepth 100000
set_option linter.unusedSimpArgs false
set_option linter.unusedVariables false
theorem km79 {W W' : World} {base : Nat} {okp : Nat → Prop} {x : S79} {cs : List Value} (h : k79.K W x cs) : k79.M W' base okp x cs := by
  rw [k79_open h]
  exact k79_mkM _ _ _ x
/-- Two boxes of the document's disk. -/
theorem two39 (w : World) (a b : Value) : ∃ W1, (w.alloc (.cells #[a, b] 39)).alloc (.cells #[.slice none 0 0, .slice none 0 0] 39) = W1 ∧ Below w.heap.size w W1 ∧ W1.heap[w.heap.size]? = some (.cells #[a, b] 39 (0, 0)) ∧ W1.heap[w.heap.size + 1]? = some (.cells #[.slice none 0 0, .slice none 0 0] 39 (0, 0)) ∧ W1.heap.size = w.heap.size + 2 := by
  have B1 : Below w.heap.size w (w.alloc (.cells #[a, b] 39)) := (Below.refl _ _).alloc (Nat.le_refl _) _
  have B2 : Below (w.alloc (.cells #[a, b] 39)).heap.size (w.alloc (.cells #[a, b] 39)) ((w.alloc (.cells #[a, b] 39)).alloc (.cells #[.slice none 0 0, .slice none 0 0] 39)) := (Below.refl _ _).alloc (Nat.le_refl _) _
  refine ⟨_, rfl, B1.trans (B2.mono B1.size), blk_below (heap_new w _) B2, ?_, by simp⟩
  have X1 := heap_new (w.alloc (.cells #[a, b] 39)) (.cells #[.slice none 0 0, .slice none 0 0] 39)
  rw [show (w.alloc (.cells #[a, b] 39)).heap.size = w.heap.size + 1 by simp] at X1
  exact X1
theorem ok_off {α : Type} {d : Kd α} {e : Nat} {w : World} {base b : Nat} {v : Value} {xs : List α} (h : Kd.R d e w base (fun _ => True) v xs) (hb : b < base) : Kd.R d e w base (fun q => q ≠ b) v xs := Kd.R_mono (Kd.R_bound h) (fun q hq => by have := hq.2.1; omega)
theorem ok_all {α : Type} {d : Kd α} {e : Nat} {w : World} {base : Nat} {ok : Nat → Prop} {v : Value} {xs : List α} (h : Kd.R d e w base ok v xs) : Kd.R d e w base (fun _ => True) v xs := Kd.R_mono h (fun _ _ => trivial)
set_option maxHeartbeats 2000000 in
theorem docWrite_any (A : Option Addr) (c : Nat) (W : List S79) (vL : Value) (i : Int) (s : ByteArray) (w : World) (hC : Kd.C k79 w A W.length W) (h1L : ∃ A' n' c', vL = .slice A' n' c') (hW : W.length ≤ 1000000) :
    Calls Try.prog 27 #[.agg #[vL, .slice A W.length c], .int .i64 i, .string s] w fun e w' => ∃ v', e = .returned (.agg #[vL, v']) ∧ Kd.R k79 79 w' w.heap.size (fun _ => True) v' (W ++ [⟨i, s⟩]) ∧ Below w.heap.size w w' := by
  obtain ⟨A', n', c', rfl⟩ := h1L
  have hl' : (W.length : Int) ≤ 1000000 := by omega
  obtain ⟨W1, hW1, bb, z0, z1, hsz⟩ := two39 w (.slice A' n' c') (.slice A W.length c)
  have HC := Lib.hid (Kd.C_below hC bb); clear hC
  have BB := Lib.hid bb
  have d1 := (blk_cell z0 1).trans rfl
  have d0 := (blk_cell z0 0).trans rfl
  have Y0 := Lib.hid z0; have Y1 := Lib.hid z1; have SZ := Lib.hid hsz; have HW1 := Lib.hid hW1
  clear z0 z1 hsz bb hW1
  go_enter Try.func27, Try.ntmps27
  go_upto_region 2 with (fail)
  rw [HW1.out]
  go_upto_region 3 with (at_builtin; refine Kd.R_append_rows k79 (w0 := W1) W1.heap.size rfl (.tmp 8) (.tmp 10) 37 79 (.agg #[(.int .i64 0), (.string ⟨#[]⟩)]) 24 rfl Try.underlying37 info79' rfl (by decide) (by omega) (.slice none 0 0) [] W A W.length c (fun _ => True) (fun _ => False) rfl rfl (Kd.R_nil _ _ _ _ _) HC.out (fun x cs h => km79 h) (fun k hk => hk.elim) (fun _ _ => trivial) (Below.refl _ _) (Nat.le_refl _) (by simp; omega) ?_; intro v2 w2 hR2 hB2 hg2 ha2; have HR2 := Lib.hid hR2; have HB2 := Lib.hid hB2; clear hR2 hB2 hg2 ha2)
  have BX := Lib.hid (show Below w2.heap.size w2 (w2.alloc (.cells #[.int .i64 i, .string s] 79)) from (Below.refl _ _).alloc (Nat.le_refl _) _)
  have HR3 := Lib.hid (show Kd.R k79 79 w2 W1.heap.size (fun _ => True) v2 W from by have := HR2.out; rw [List.nil_append] at this; exact this)
  go_upto_region 4 with (at_builtin; refine Kd.R_append k79 (w0 := W1) (W := w2) W1.heap.size rfl (.tmp 12) (.tmp 16) 37 79 (.agg #[(.int .i64 0), (.string ⟨#[]⟩)]) 24 rfl Try.underlying37 info79' rfl (by decide) (by omega) v2 W ⟨i, s⟩ [.int .i64 i, .string s] (fun _ => True) (fun _ => False) rfl (by simp [Act.eval]) (k79_mkM _ _ _ ⟨i, s⟩) (fun _ h => h.elim) (fun _ _ => trivial) HR3.out HB2.out HB2.out.size (by omega) ?_; intro v4 w4 hR4 hB4 hg4 ha4; have HR4 := Lib.hid hR4; have HB4 := Lib.hid hB4; clear hR4 hB4 hg4 ha4)
  have z0 := blk_below Y0.out HB4.out
  have z1 := blk_below Y1.out HB4.out
  have d0' := (blk_cell z0 0).trans rfl
  have e0 := (blk_cell z1 0).trans rfl
  have e1 := (blk_cell z1 1).trans rfl
  have f0 := blk_free z1 0
  have f1 := blk_free z1 1
  obtain ⟨A4, c4, e4⟩ := Kd.R_slice HR4.out
  generalize hn4 : (W ++ [(⟨i, s⟩ : S79)]).length = n4 at e4
  subst e4
  have Z1 := Lib.hid z1; have N4 := Lib.hid hn4
  clear z0 z1 hn4 d0 d1
  go_wp2
  have HZ : ((w4.setCell ⟨w.heap.size + 1, 0, none⟩ (.slice A' n' c')).setCell ⟨w.heap.size + 1, 1, none⟩ (.slice A4 n4 c4)).heap[w.heap.size + 1]? = some (.cells #[.slice A' n' c', .slice A4 n4 c4] 39 (0, 0)) := (heap_set (heap_set Z1.out (i := 0) _) (i := 1) _).trans rfl
  refine bodyPost_ret (v := .agg #[.slice A' n' c', .slice A4 n4 c4]) (results_cell_row Try.results27 _ _ (w.heap.size + 1) 39 _ (0, 0) _ rfl HZ Try.underlying39 rfl (by kernel_rfl)) rfl ⟨_, rfl, ?_, ?_⟩
  · have r1 : Kd.R k79 79 w4 w.heap.size (fun q => q ≠ w.heap.size + 1) (.slice A4 n4 c4) (W ++ [⟨i, s⟩]) := Kd.R_lower (ok_off HR4.out (by have := SZ.out; omega)) (by have := SZ.out; omega)
    have r2 := Kd.R_far r1 (p := ⟨w.heap.size + 1, 0, none⟩) (fun q hq => hq) (.slice A' n' c')
    have r3 := Kd.R_far r2 (p := ⟨w.heap.size + 1, 1, none⟩) (fun q hq => hq) (.slice A4 n4 c4)
    exact ok_all r3
  · exact ((BB.out.trans (HB4.out.mono BB.out.size)).setCell (by simp) _).setCell (by simp) _
end Go.Proofs.Ytlodjkmablogcaa.Own
