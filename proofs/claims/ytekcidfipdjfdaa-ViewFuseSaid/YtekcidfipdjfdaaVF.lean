/- Views: the fuse. -/
import Derived.Test.YtekcidfipdjfdaaVE
namespace Go.Proofs.Ytekcidfipdjfdaa.Own
open Go.RowKit Go.Proofs.YtekcidfipdjfdaaW.PrintWords Go.Proofs.Ytekcidfipdjfdaa.PB
set_option maxRecDepth 100000
set_option linter.unusedSimpArgs false
set_option linter.unusedVariables false
theorem C_addr {α : Type} {d : Kd α} {w : World} {A : Option Addr} {n : Nat} {xs : List α} (z : α) (h : Kd.C d w A n xs) (hn : 0 < n) (hd : 0 < d.sz) : ∃ b off, A = some ⟨b, off, none⟩ := by
  obtain ⟨ad, c, e, hl, hK, hc⟩ := Kd.C_get h z 0 (by omega) (by omega)
  have h0 := hc 0 (c[0]'(by rw [hl]; exact hd)) (List.getElem?_eq_getElem _)
  obtain ⟨b, off, spot⟩ := ad
  have hspot : spot = none := by simpa [Addr.add] using World.cell?_spot h0
  subst hspot
  exact ⟨b, off, e⟩
theorem byte_of {a : Int} (h0 : 0 ≤ a) (h1 : a ≤ 255) : ((UInt8.ofNat a.toNat).toNat : Int) = a := by simp [UInt8.toNat_ofNat']; omega
def bigP (x : S35) : Bool := decide ((40 : Int) < x.f4.length)
def largeB (l : List S35) : Bool := decide (40 < l.length) || l.any bigP
theorem large_l (l : List S35) (hk : l.length ≤ 40) : ∀ d i k, i + d = l.length → d < k → weighlocklaw07_large.l0 k l (l.length : Int) (i : Int) = some ((l.drop i).any bigP) := by
  intro d
  induction d with
  | zero =>
    intro i k hi hk
    obtain ⟨k, rfl⟩ : ∃ m, k = m + 1 := ⟨k - 1, by omega⟩
    simp only [weighlocklaw07_large.l0]
    rw [if_neg (by omega), List.drop_of_length_le (by omega)]
    rfl
  | succ d ih =>
    intro i k hi hk
    obtain ⟨k, rfl⟩ : ∃ m, k = m + 1 := ⟨k - 1, by omega⟩
    have hlt : i < l.length := by omega
    have hw : wrap64 ((i : Int) + 1) = ((i + 1 : Nat) : Int) := by unfold wrap64; omega
    have hr : rd_T35 l (i : Int) = l[i] := by unfold rd_T35; rw [Int.toNat_natCast, List.getD_eq_getElem?_getD, List.getElem?_eq_getElem hlt]; rfl
    have ihh := ih (i + 1) k (by omega) (by omega)
    have hd : l.drop i = l[i] :: l.drop (i + 1) := List.drop_eq_getElem_cons hlt
    rw [hd, List.any_cons]
    simp only [weighlocklaw07_large.l0]
    rw [if_pos (by omega), if_pos (by omega), if_pos (by omega), hr, hw, ihh]
    by_cases h1 : (l[i].f4.length : Int) > 40
    · rw [if_pos h1, show bigP l[i] = true from decide_eq_true h1, Bool.true_or]
    · rw [if_neg h1, show bigP l[i] = false from decide_eq_false h1, Bool.false_or]
theorem large_any (A : Option Addr) (c : Nat) (l : List S35) (w : World) (hl : Kd.C k35 w A l.length l) (hc : l.length ≤ c) :
    Calls Try.prog 5 #[.slice A l.length c] w fun e w' => e = .returned (.bool (largeB l)) ∧ Below w.heap.size w w' := by
  refine weighlocklaw07_large.calls (l.length + 1) A c l (largeB l) w hl hc ?_
  unfold weighlocklaw07_large.f largeB
  by_cases h : 40 < l.length
  · rw [if_pos (by omega), decide_eq_true h, Bool.true_or]
  · rw [if_neg (by omega), decide_eq_false h, Bool.false_or]
    exact large_l l (by omega) l.length 0 (l.length + 1) (by omega) (by omega)
theorem small_of {l : List S35} (h : largeB l = false) : l.length ≤ 40 ∧ ∀ x ∈ l, x.f4.length ≤ 40 := by
  unfold largeB at h
  rw [Bool.or_eq_false_iff] at h
  refine ⟨by have := of_decide_eq_false h.1; omega, fun x hx => ?_⟩
  have := List.any_eq_false.1 h.2 x hx
  have h2 : bigP x = false := by simpa using this
  have := of_decide_eq_false h2
  omega
/-- A call out of a row of calls. -/
theorem at25 {w : World} {A : Option Addr} {n : Nat} {xs : List S35} (h : Kd.C k35 w A n xs) (i : Nat) (h1 : i < n) : ∃ b off KA kc, A = some ⟨b, off, none⟩ ∧ w.cell? ⟨b, off + i * 5, none⟩ = some (.int .i64 (xs.getD i z35).f0) ∧ w.cell? ⟨b, off + i * 5 + 1, none⟩ = some (.int .i64 (xs.getD i z35).f1) ∧ w.cell? ⟨b, off + i * 5 + 2, none⟩ = some (.int .i64 (xs.getD i z35).f2) ∧ w.cell? ⟨b, off + i * 5 + 3, none⟩ = some (.int .u8 (xs.getD i z35).f3) ∧ w.cell? ⟨b, off + i * 5 + 4, none⟩ = some (.slice KA (xs.getD i z35).f4.length kc) ∧ (xs.getD i z35).f4.length ≤ kc ∧ Kd.C k68 w KA (xs.getD i z35).f4.length (xs.getD i z35).f4 := by
  obtain ⟨b, off, rfl⟩ := C_addr z35 h (by omega) (by show 0 < 5; omega)
  obtain ⟨ad, A4, c4, e, x0, x1, x2, x3, x4, hc, hk⟩ := at_T35 h (i : Int) (by omega) (by omega)
  injection e with e
  subst e
  rw [Int.toNat_natCast, show rd_T35 xs (i : Int) = xs.getD i z35 by unfold rd_T35; rw [Int.toNat_natCast]] at x0 x1 x2 x3 x4
  rw [show rd_T35 xs (i : Int) = xs.getD i z35 by unfold rd_T35; rw [Int.toNat_natCast]] at hc hk
  rw [Go.WideShapes.add_plain] at x0 x1 x2 x3 x4
  exact ⟨b, off, A4, c4, rfl, x0, x1, x2, x3, x4, hc, hk⟩
def ac (x : S35) (KA : Option Addr) (kc : Nat) : Array Value := #[.int .i64 x.f0, .int .i64 x.f1, .int .i64 x.f2, .int .u8 x.f3, .slice KA x.f4.length kc]
/-- The box of a call. -/
structure AB (x : S35) (KA : Option Addr) (kc : Nat) (g : Nat) (w : World) : Prop where
  c0 : w.cell? ⟨g, 0, none⟩ = some (.int .i64 x.f0)
  c1 : w.cell? ⟨g, 1, none⟩ = some (.int .i64 x.f1)
  c2 : w.cell? ⟨g, 2, none⟩ = some (.int .i64 x.f2)
  c3 : w.cell? ⟨g, 3, none⟩ = some (.int .u8 x.f3)
  c4 : w.cell? ⟨g, 4, none⟩ = some (.slice KA x.f4.length kc)
theorem AB.of {x : S35} {KA : Option Addr} {kc g : Nat} {w : World} {t : TypeId} {fr : Nat × Nat} (h : w.heap[g]? = some (.cells (ac x KA kc) t fr)) : AB x KA kc g w := ⟨(blk_cell h 0).trans rfl, (blk_cell h 1).trans rfl, (blk_cell h 2).trans rfl, (blk_cell h 3).trans rfl, (blk_cell h 4).trans rfl⟩
theorem AB.lt {x : S35} {KA : Option Addr} {kc g : Nat} {w : World} (h : AB x KA kc g w) : g < w.heap.size := World.block_lt_of_cell? w _ h.c0
theorem AB.move {x : S35} {KA : Option Addr} {kc g : Nat} {w w1 : World} (h : AB x KA kc g w) (hm : w1.heap[g]? = w.heap[g]?) : AB x KA kc g w1 := by
  have key : ∀ j u, w.cell? ⟨g, j, none⟩ = some u → w1.cell? ⟨g, j, none⟩ = some u := fun j u hu => by rw [← hu]; simp only [World.cell?, hm]
  exact ⟨key _ _ h.c0, key _ _ h.c1, key _ _ h.c2, key _ _ h.c3, key _ _ h.c4⟩
theorem AB.below {x : S35} {KA : Option Addr} {kc g : Nat} {w w1 : World} (h : AB x KA kc g w) (hb : Below w.heap.size w w1) : AB x KA kc g w1 := h.move (hb.block g h.lt)
theorem AB.drew {x : S35} {KA : Option Addr} {kc g : Nat} {w : World} (h : AB x KA kc g w) : AB x KA kc g w.drew := h.move rfl
theorem text_c (x : S35) (C : UInt8) (hC : x.f3 = (C.toNat : Int)) (KA : Option Addr) (kc : Nat) (w : World) : Calls Try.prog 15 #[.agg #[.int .i64 x.f0, .int .i64 x.f1, .int .i64 x.f2, .int .u8 x.f3, .slice KA x.f4.length kc]] w fun e w' => e = .returned (.string (textB C x.f2)) ∧ Below w.heap.size w w' := by
  rw [hC]
  exact text_any x.f0 x.f1 x.f2 C (.slice KA x.f4.length kc) w ⟨_, _, _, rfl⟩
/-- A view of nine sectors with a fuse of N, behind t tries. -/
def FV (B p g o N t : Nat) (w0 w : World) : Prop := ∃ v L W, VW B p g o v L W 3 4 ((N - t : Nat) : Int) ((min t N : Nat) : Int) (decide (N < t)) w0 w ∧ L.length = 9 ∧ W.length ≤ t
theorem FV.below {B p g o N t : Nat} {w0 w w1 : World} (h : FV B p g o N t w0 w) (hb : Below w.heap.size w w1) : FV B p g o N t w0 w1 := by
  obtain ⟨v, L, W, hv, h1, h2⟩ := h
  exact ⟨v, L, W, hv.below hb, h1, h2⟩
theorem FV.b {B p g o N t : Nat} {w0 w : World} (h : FV B p g o N t w0 w) : Below w0.heap.size w0 w := by
  obtain ⟨v, L, W, hv, h1, h2⟩ := h
  exact hv.b
theorem outF_le (i j : Int) (W : List S79) : (outF i j W).length ≤ W.length := by unfold outF; exact List.length_filter_le _ _
theorem fv_dead {B p g o N t : Nat} {v : Value} {L : List ByteArray} {W : List S79} {w0 w : World} (hlt : ¬ t < N) (hv : VW B p g o v L W 3 4 ((N - t : Nat) : Int) ((min t N : Nat) : Int) true w0 w) (hl : L.length = 9) (hw : W.length ≤ t) : FV B p g o N (t + 1) w0 w := by
  refine ⟨v, L, W, ?_, hl, by omega⟩
  rw [show N - (t + 1) = N - t by omega, show min (t + 1) N = min t N by omega, show decide (N < t + 1) = true from decide_eq_true (by omega)]
  exact hv
theorem fv_ok {B p g o N t : Nat} {v : Value} {L : List ByteArray} {W : List S79} {w0 w : World} (hlt : t < N) (hv : VW B p g o v L W 3 4 (fuN ((N - t : Nat) : Int)) (((min t N : Nat) : Int) + 1) false w0 w) (hl : L.length = 9) (hw : W.length ≤ t + 1) : FV B p g o N (t + 1) w0 w := by
  refine ⟨v, L, W, ?_, hl, hw⟩
  have e2 : fuN ((N - t : Nat) : Int) = ((N - (t + 1) : Nat) : Int) := by unfold fuN; rw [if_pos (by omega)]; omega
  have e3 : ((min t N : Nat) : Int) + 1 = ((min (t + 1) N : Nat) : Int) := by omega
  rw [e2, e3] at hv
  rw [show decide (N < t + 1) = false from decide_eq_false (by omega)]
  exact hv
theorem vwrite_try {B p g o N t : Nat} {w0 w : World} (h : FV B p g o N t w0 w) (hB : w0.heap.size ≤ B) (hp : w0.heap.size ≤ p) (hN : N ≤ 9223372036854775807) (ht : t ≤ 100) (at_ : Int) (hin : vinB 4 at_ = true) (s : ByteArray) (hs : s.size = 64) :
    Calls Try.prog 14 #[.pointer (some ⟨p, 0, none⟩), .int .i64 at_, .string s] w fun e w' => e = .returned (.int .i64 (if N < t + 1 then 21 else 0)) ∧ FV B p g o N (t + 1) w0 w' := by
  obtain ⟨v, L, W, hv, hl, hw⟩ := h
  by_cases hlt : t < N
  · rw [show decide (N < t) = false from decide_eq_false (by omega)] at hv
    have hi : 0 ≤ at_ ∧ at_ < 4 := of_decide_eq_true hin
    refine (vwrite_ok hv hB hp (by omega) (by omega) (by omega) (by omega) (by omega) (by omega) (3 + at_).toNat at_ hin (by omega) (by omega) s hs).mono ?_
    rintro e w' ⟨rfl, v', hv'⟩
    exact ⟨by rw [if_neg (by omega)], fv_ok hlt hv' hl (by simp; omega)⟩
  · refine (vwrite_dead hv hp (Or.inr (by omega)) at_ hin s hs).mono ?_
    rintro e w' ⟨rfl, hv'⟩
    exact ⟨by rw [if_pos (by omega)], fv_dead hlt hv' hl hw⟩
theorem vflush_try {B p g o N t : Nat} {w0 w : World} (h : FV B p g o N t w0 w) (hB : w0.heap.size ≤ B) (hp : w0.heap.size ≤ p) (hN : N ≤ 9223372036854775807) (ht : t ≤ 100) :
    Calls Try.prog 16 #[.pointer (some ⟨p, 0, none⟩)] w fun e w' => e = .returned (.int .i64 (if N < t + 1 then 21 else 0)) ∧ FV B p g o N (t + 1) w0 w' := by
  obtain ⟨v, L, W, hv, hl, hw⟩ := h
  by_cases hlt : t < N
  · rw [show decide (N < t) = false from decide_eq_false (by omega)] at hv
    refine (vflush_ok hv hB hp (by omega) (by omega) (by omega) (by omega) (by omega) (by omega) (by rw [hl]; rfl)).mono ?_
    rintro e w' ⟨rfl, v', hv'⟩
    exact ⟨by rw [if_neg (by omega)], fv_ok hlt hv' (by rw [setF_len]; exact hl) (by have := outF_le 3 4 W; omega)⟩
  · refine (vflush_dead hv hp (Or.inr (by omega))).mono ?_
    rintro e w' ⟨rfl, hv'⟩
    exact ⟨by rw [if_pos (by omega)], fv_dead hlt hv' hl hw⟩
/-- What a try, or none, tells. -/
def Told (N t : Nat) (c : Int) (t' : Nat) : Prop := (c = 20 ∨ c = 1) ∧ t' = t ∨ c = (if N < t + 1 then 21 else 0) ∧ t' = t + 1
theorem vwrite_told {B p g o N t : Nat} {w0 w : World} (h : FV B p g o N t w0 w) (hB : w0.heap.size ≤ B) (hp : w0.heap.size ≤ p) (hN : N ≤ 9223372036854775807) (ht : t ≤ 100) (at_ : Int) (s : ByteArray) :
    Calls Try.prog 14 #[.pointer (some ⟨p, 0, none⟩), .int .i64 at_, .string s] w fun e w' => ∃ c t', e = .returned (.int .i64 c) ∧ FV B p g o N t' w0 w' ∧ Told N t c t' := by
  by_cases hgo : vinB 4 at_ = true ∧ s.size = 64
  · refine (vwrite_try h hB hp hN ht at_ hgo.1 s hgo.2).mono ?_
    rintro e w' ⟨rfl, hv⟩
    exact ⟨_, _, rfl, hv, Or.inr ⟨rfl, rfl⟩⟩
  · obtain ⟨v, L, W, hv, hl, hw⟩ := h
    refine (vwrite_bad hv at_ s (by
      cases hi : vinB 4 at_ with
      | false => exact Or.inl rfl
      | true => exact Or.inr (fun h6 => hgo ⟨hi, h6⟩))).mono ?_
    rintro e w' ⟨he, hv'⟩
    rcases he with rfl | rfl
    · exact ⟨20, t, rfl, ⟨v, L, W, hv', hl, hw⟩, Or.inl ⟨Or.inl rfl, rfl⟩⟩
    · exact ⟨1, t, rfl, ⟨v, L, W, hv', hl, hw⟩, Or.inl ⟨Or.inr rfl, rfl⟩⟩
theorem vflush_told {B p g o N t : Nat} {w0 w : World} (h : FV B p g o N t w0 w) (hB : w0.heap.size ≤ B) (hp : w0.heap.size ≤ p) (hN : N ≤ 9223372036854775807) (ht : t ≤ 100) :
    Calls Try.prog 16 #[.pointer (some ⟨p, 0, none⟩)] w fun e w' => ∃ c t', e = .returned (.int .i64 c) ∧ FV B p g o N t' w0 w' ∧ Told N t c t' := by
  refine (vflush_try h hB hp hN ht).mono ?_
  rintro e w' ⟨rfl, hv⟩
  exact ⟨_, _, rfl, hv, Or.inr ⟨rfl, rfl⟩⟩
set_option maxHeartbeats 4000000 in
theorem done_fuse {B p g o N t : Nat} {w0 w : World} (h : FV B p g o N t w0 w) (hB : w0.heap.size ≤ B) (hp : w0.heap.size ≤ p) (hN : N ≤ 9223372036854775807) (ht : t ≤ 100) (x : S35) (b0 : 0 ≤ x.f3) (b1 : x.f3 ≤ 255) (hk : x.f0 = 0 ∨ x.f0 = 1) (KA : Option Addr) (kc : Nat) :
    Calls Try.prog 10 #[.pointer (some ⟨g, 0, none⟩), .pointer (some ⟨p, 0, none⟩), .agg #[.int .i64 x.f0, .int .i64 x.f1, .int .i64 x.f2, .int .u8 x.f3, .slice KA x.f4.length kc]] w fun e w' => ∃ c t', e = .returned (.int .i64 c) ∧ FV B p g o N t' w0 w' ∧ Told N t c t' := by
  obtain ⟨C, hC⟩ : ∃ u : UInt8, x.f3 = (u.toNat : Int) := ⟨UInt8.ofNat x.f3.toNat, by simp [UInt8.toNat_ofNat']; omega⟩
  have BX : Below w.heap.size w (w.alloc (.cells (ac x KA kc) 35)) := (Below.refl _ _).alloc (Nat.le_refl _) _
  have V1 := Lib.hid (h.below BX)
  have X1 := Lib.hid (AB.of (heap_new w (.cells (ac x KA kc) 35)))
  have HB := Lib.hid hB; have HP := Lib.hid hp; have HN := Lib.hid hN; have HT := Lib.hid ht
  have c0 := X1.out.c0
  have HC := Lib.hid hC
  clear hC h BX hB hp hN ht
  rcases hk with k0 | k1
  · have k0' : (x.f0 == 0) = true := by rw [beq_iff_eq]; exact k0
    unfold ac at c0
    clear k0
    go_enter Try.func10, Try.ntmps10
    go_upto_region 3 with (fail)
    change Code.wp _ _ _ _ (w.alloc (.cells (ac x KA kc) 35))
    generalize w.alloc (.cells (ac x KA kc) 35) = W1 at *
    clear c0 k0'
    have Y := X1.out.drew
    have y1 := Y.c1
    have y0 := Y.c0
    have y2 := Y.c2
    have y3 := Y.c3
    have y4 := Y.c4
    clear Y
    refine wp_region_held_drew (S := fun _ => True) (by kernel_rfl) (trivial) (fun hHeld => ?_)
    refine wpAnyH_take (i := 0) (oi := { dst := some 13, op := Op.move (Operand.tmp 1), type := 29, pos := "law.go:128", after := #[], guard := none }) (v := ?_) rfl (by kernel_rfl) (by kernel_rfl) (by kernel_rfl) (fun _ _ _ h => h) (Or.inl ⟨by rfl, ?_⟩) hHeld ?_; rotate_left 1; (intro w9 hSw; obtain _ := hSw; go_simp; first | done | with_reducible rfl); (try simp only [Act.put, List.setIfInBounds_toArray, List.set_cons_zero, List.set_cons_succ])
    refine wpAnyH_take (i := 1) (oi := { dst := some 14, op := Op.fieldAddr 35 (Operand.tmp 5) 1, type := 0, pos := "law.go:128", after := #[], guard := none }) (v := ?_) rfl (by kernel_rfl) (by kernel_rfl) (by kernel_rfl) (fun _ _ _ h => h) (Or.inl ⟨by rfl, ?_⟩) hHeld ?_; rotate_left 1; (intro w9 hSw; obtain _ := hSw; go_simp; first | done | with_reducible rfl); (try simp only [Act.put, List.setIfInBounds_toArray, List.set_cons_zero, List.set_cons_succ])
    refine wpAnyH_ready (rs := [2, 3]) (by kernel_rfl) (by simp) ?_; refine AllReadyH.cons (o := { dst := some 15, op := Op.load 3 (Operand.tmp 14), type := 3, pos := "law.go:128", after := #[{ on := 1, ground := Ground.data }], guard := none }) rfl (fun K hK => ?_) (AllReadyH.cons (o := { dst := some 16, op := Op.load 35 (Operand.tmp 5), type := 35, pos := "law.go:128", after := #[], guard := none }) rfl (fun K hK => ?_) AllReadyH.nil)
    · go_simp; refine hK.out _ _ trivial (fun hHeld => ?_); clear hK; (try simp only [Act.put, List.setIfInBounds_toArray, List.set_cons_zero, List.set_cons_succ])
      refine wpAnyH_ready (rs := [3]) (by kernel_rfl) (by simp) ?_; refine AllReadyH.cons (o := { dst := some 16, op := Op.load 35 (Operand.tmp 5), type := 35, pos := "law.go:128", after := #[], guard := none }) rfl (fun K hK => ?_) AllReadyH.nil
      go_simp; refine hK.out _ _ trivial (fun hHeld => ?_); clear hK; (try simp only [Act.put, List.setIfInBounds_toArray, List.set_cons_zero, List.set_cons_succ])
      refine wpAnyH_ready (rs := [4]) (by kernel_rfl) (by simp) ?_; refine AllReadyH.cons (o := { dst := some 17, op := Op.call { callee := Callee.value (Operand.func 15), args := #[Operand.tmp 16], argTypes := #[35] }, type := 9, pos := "law.go:128", after := #[{ on := 3, ground := Ground.data }], guard := none }) rfl (fun K hK => ?_) AllReadyH.nil
      go_simp; refine (text_c x C HC.out KA kc _).mono ?_; rintro e w4 ⟨rfl, bel⟩; have V4 := Lib.hid (V1.out.below (((Below.refl _ _).drew).trans bel)); have A4 := X1.out.drew.below bel; obtain ⟨a0, a1, a2, a3, a4⟩ := A4; clear a0 a2 a3 a4; (try go_wp2_with fail); refine hK.out _ _ trivial (fun hHeld => ?_); clear hK bel; (try simp only [Act.put, List.setIfInBounds_toArray, List.set_cons_zero, List.set_cons_succ])
      refine wpAnyH_ready (rs := [5]) (by kernel_rfl) (by simp) ?_; refine AllReadyH.cons (o := { dst := some 18, op := Op.call { callee := Callee.value (Operand.func 14), args := #[Operand.tmp 13, Operand.tmp 15, Operand.tmp 17], argTypes := #[29, 3, 9] }, type := 26, pos := "law.go:128", after := #[{ on := 0, ground := Ground.data }, { on := 2, ground := Ground.data }, { on := 4, ground := Ground.data }, { on := 4, ground := Ground.chain }], guard := none }) rfl (fun K hK => ?_) AllReadyH.nil
      go_simp; refine (vwrite_told V4.out HB.out HP.out HN.out HT.out x.f1 (textB C x.f2)).mono ?_; rintro e w7 ⟨c, t', rfl, hv, htold⟩; have V7 := Lib.hid hv; have T7 := Lib.hid htold; clear hv htold; (try go_wp2_with fail); refine hK.out _ _ trivial (fun hHeld => ?_); clear hK; (try simp only [Act.put, List.setIfInBounds_toArray, List.set_cons_zero, List.set_cons_succ])
      refine wpAnyH_take (i := 6) (oi := { dst := some 6, op := Op.assign (Operand.tmp 18), type := 26, pos := "law.go:128", after := #[{ on := 5, ground := Ground.data }, { on := 5, ground := Ground.chain }, { on := 0, ground := Ground.phase }, { on := 1, ground := Ground.phase }, { on := 2, ground := Ground.phase }, { on := 3, ground := Ground.phase }, { on := 4, ground := Ground.phase }, { on := 5, ground := Ground.phase }], guard := none }) (v := ?_) rfl (by kernel_rfl) (by kernel_rfl) (by kernel_rfl) (fun _ _ _ h => h) (Or.inl ⟨by rfl, ?_⟩) hHeld ?_; rotate_left 1; (intro w9 hSw; obtain _ := hSw; go_simp; first | done | with_reducible rfl); (try simp only [Act.put, List.setIfInBounds_toArray, List.set_cons_zero, List.set_cons_succ])
      refine wpAnyH_done (by kernel_rfl) ?_ _
      clear hHeld
      go_wp2
      go_ret
      exact ⟨c, t', rfl, V7.out, T7.out⟩
    · go_simp; refine hK.out _ _ trivial (fun hHeld => ?_); clear hK; (try simp only [Act.put, List.setIfInBounds_toArray, List.set_cons_zero, List.set_cons_succ])
      refine wpAnyH_ready (rs := [2, 4]) (by kernel_rfl) (by simp) ?_; refine AllReadyH.cons (o := { dst := some 15, op := Op.load 3 (Operand.tmp 14), type := 3, pos := "law.go:128", after := #[{ on := 1, ground := Ground.data }], guard := none }) rfl (fun K hK => ?_) (AllReadyH.cons (o := { dst := some 17, op := Op.call { callee := Callee.value (Operand.func 15), args := #[Operand.tmp 16], argTypes := #[35] }, type := 9, pos := "law.go:128", after := #[{ on := 3, ground := Ground.data }], guard := none }) rfl (fun K hK => ?_) AllReadyH.nil)
      · go_simp; refine hK.out _ _ trivial (fun hHeld => ?_); clear hK; (try simp only [Act.put, List.setIfInBounds_toArray, List.set_cons_zero, List.set_cons_succ])
        refine wpAnyH_ready (rs := [4]) (by kernel_rfl) (by simp) ?_; refine AllReadyH.cons (o := { dst := some 17, op := Op.call { callee := Callee.value (Operand.func 15), args := #[Operand.tmp 16], argTypes := #[35] }, type := 9, pos := "law.go:128", after := #[{ on := 3, ground := Ground.data }], guard := none }) rfl (fun K hK => ?_) AllReadyH.nil
        go_simp; refine (text_c x C HC.out KA kc _).mono ?_; rintro e w4 ⟨rfl, bel⟩; have V4 := Lib.hid (V1.out.below (((Below.refl _ _).drew).trans bel)); have A4 := X1.out.drew.below bel; obtain ⟨a0, a1, a2, a3, a4⟩ := A4; clear a0 a2 a3 a4; (try go_wp2_with fail); refine hK.out _ _ trivial (fun hHeld => ?_); clear hK bel; (try simp only [Act.put, List.setIfInBounds_toArray, List.set_cons_zero, List.set_cons_succ])
        refine wpAnyH_ready (rs := [5]) (by kernel_rfl) (by simp) ?_; refine AllReadyH.cons (o := { dst := some 18, op := Op.call { callee := Callee.value (Operand.func 14), args := #[Operand.tmp 13, Operand.tmp 15, Operand.tmp 17], argTypes := #[29, 3, 9] }, type := 26, pos := "law.go:128", after := #[{ on := 0, ground := Ground.data }, { on := 2, ground := Ground.data }, { on := 4, ground := Ground.data }, { on := 4, ground := Ground.chain }], guard := none }) rfl (fun K hK => ?_) AllReadyH.nil
        go_simp; refine (vwrite_told V4.out HB.out HP.out HN.out HT.out x.f1 (textB C x.f2)).mono ?_; rintro e w7 ⟨c, t', rfl, hv, htold⟩; have V7 := Lib.hid hv; have T7 := Lib.hid htold; clear hv htold; (try go_wp2_with fail); refine hK.out _ _ trivial (fun hHeld => ?_); clear hK; (try simp only [Act.put, List.setIfInBounds_toArray, List.set_cons_zero, List.set_cons_succ])
        refine wpAnyH_take (i := 6) (oi := { dst := some 6, op := Op.assign (Operand.tmp 18), type := 26, pos := "law.go:128", after := #[{ on := 5, ground := Ground.data }, { on := 5, ground := Ground.chain }, { on := 0, ground := Ground.phase }, { on := 1, ground := Ground.phase }, { on := 2, ground := Ground.phase }, { on := 3, ground := Ground.phase }, { on := 4, ground := Ground.phase }, { on := 5, ground := Ground.phase }], guard := none }) (v := ?_) rfl (by kernel_rfl) (by kernel_rfl) (by kernel_rfl) (fun _ _ _ h => h) (Or.inl ⟨by rfl, ?_⟩) hHeld ?_; rotate_left 1; (intro w9 hSw; obtain _ := hSw; go_simp; first | done | with_reducible rfl); (try simp only [Act.put, List.setIfInBounds_toArray, List.set_cons_zero, List.set_cons_succ])
        refine wpAnyH_done (by kernel_rfl) ?_ _
        clear hHeld
        go_wp2
        go_ret
        exact ⟨c, t', rfl, V7.out, T7.out⟩
      · go_simp; refine (text_c x C HC.out KA kc _).mono ?_; rintro e w4 ⟨rfl, bel⟩; have V4 := Lib.hid (V1.out.below (((Below.refl _ _).drew).trans bel)); have A4 := X1.out.drew.below bel; obtain ⟨a0, a1, a2, a3, a4⟩ := A4; clear a0 a2 a3 a4; (try go_wp2_with fail); refine hK.out _ _ trivial (fun hHeld => ?_); clear hK bel; (try simp only [Act.put, List.setIfInBounds_toArray, List.set_cons_zero, List.set_cons_succ])
        refine wpAnyH_ready (rs := [2]) (by kernel_rfl) (by simp) ?_; refine AllReadyH.cons (o := { dst := some 15, op := Op.load 3 (Operand.tmp 14), type := 3, pos := "law.go:128", after := #[{ on := 1, ground := Ground.data }], guard := none }) rfl (fun K hK => ?_) AllReadyH.nil
        go_simp; refine hK.out _ _ trivial (fun hHeld => ?_); clear hK; (try simp only [Act.put, List.setIfInBounds_toArray, List.set_cons_zero, List.set_cons_succ])
        refine wpAnyH_ready (rs := [5]) (by kernel_rfl) (by simp) ?_; refine AllReadyH.cons (o := { dst := some 18, op := Op.call { callee := Callee.value (Operand.func 14), args := #[Operand.tmp 13, Operand.tmp 15, Operand.tmp 17], argTypes := #[29, 3, 9] }, type := 26, pos := "law.go:128", after := #[{ on := 0, ground := Ground.data }, { on := 2, ground := Ground.data }, { on := 4, ground := Ground.data }, { on := 4, ground := Ground.chain }], guard := none }) rfl (fun K hK => ?_) AllReadyH.nil
        go_simp; refine (vwrite_told V4.out HB.out HP.out HN.out HT.out x.f1 (textB C x.f2)).mono ?_; rintro e w7 ⟨c, t', rfl, hv, htold⟩; have V7 := Lib.hid hv; have T7 := Lib.hid htold; clear hv htold; (try go_wp2_with fail); refine hK.out _ _ trivial (fun hHeld => ?_); clear hK; (try simp only [Act.put, List.setIfInBounds_toArray, List.set_cons_zero, List.set_cons_succ])
        refine wpAnyH_take (i := 6) (oi := { dst := some 6, op := Op.assign (Operand.tmp 18), type := 26, pos := "law.go:128", after := #[{ on := 5, ground := Ground.data }, { on := 5, ground := Ground.chain }, { on := 0, ground := Ground.phase }, { on := 1, ground := Ground.phase }, { on := 2, ground := Ground.phase }, { on := 3, ground := Ground.phase }, { on := 4, ground := Ground.phase }, { on := 5, ground := Ground.phase }], guard := none }) (v := ?_) rfl (by kernel_rfl) (by kernel_rfl) (by kernel_rfl) (fun _ _ _ h => h) (Or.inl ⟨by rfl, ?_⟩) hHeld ?_; rotate_left 1; (intro w9 hSw; obtain _ := hSw; go_simp; first | done | with_reducible rfl); (try simp only [Act.put, List.setIfInBounds_toArray, List.set_cons_zero, List.set_cons_succ])
        refine wpAnyH_done (by kernel_rfl) ?_ _
        clear hHeld
        go_wp2
        go_ret
        exact ⟨c, t', rfl, V7.out, T7.out⟩
  · have k0' : (x.f0 == 0) = false := by rw [beq_eq_false_iff_ne]; omega
    have k1' : (x.f0 == 1) = true := by rw [beq_iff_eq]; exact k1
    unfold ac at c0
    clear k1
    go_enter Try.func10, Try.ntmps10
    go_wp2_with fail
    refine (vflush_told V1.out HB.out HP.out HN.out HT.out).mono ?_
    rintro e w4 ⟨c, t', rfl, hv, htold⟩
    have V7 := Lib.hid hv
    have T7 := Lib.hid htold
    clear hv htold
    go_wp2
    go_ret
    exact ⟨c, t', rfl, V7.out, T7.out⟩
end Go.Proofs.Ytekcidfipdjfdaa.Own
