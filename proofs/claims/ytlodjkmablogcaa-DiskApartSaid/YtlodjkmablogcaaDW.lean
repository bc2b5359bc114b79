/- The walk of DiskApart. -/
import Derived.Test.YtlodjkmablogcaaDV
namespace Go.Proofs.Ytlodjkmablogcaa.Own
open Go.RowKit Go.Proofs.YtlodjkmablogcaaW.PrintWords Go.Proofs.Ytlodjkmablogcaa.PB
set_option maxRecDepth 100000
set_option linter.unusedSimpArgs false
set_option linter.unusedVariables false

def ndB (x : S25) : Bool := decide ((40 : Int) < x.f4.length)
/-- What lies there, of the first sectors. -/
def liesL (L : List ByteArray) (k : Nat) : List ByteArray := L.take k
theorem liesL_succ {L : List ByteArray} {k : Nat} (h : k < L.length) : liesL L (k + 1) = liesL L k ++ [L.getD k ByteArray.empty] := take_getD L _ h
theorem liesL_length {L : List ByteArray} {k : Nat} (h : k ≤ L.length) : (liesL L k).length = k := by unfold liesL; rw [List.length_take]; omega
theorem liesL_get {L : List ByteArray} {k i : Nat} (h : i < k) : (liesL L k).getD i ByteArray.empty = L.getD i ByteArray.empty := by
  unfold liesL
  rw [List.getD_eq_getElem?_getD, List.getElem?_take_of_lt h, List.getD_eq_getElem?_getD]
/-- Beyond a span nothing changes. -/
theorem apart_eq {L : List ByteArray} {W : List S79} (hW : ∀ x ∈ W, 0 ≤ x.f0) (x : S25) (hk : x.f0 = 1 ∨ x.f0 = 2) {i : Nat} (hi : ¬ (x.f1 ≤ (i : Int) ∧ (i : Int) - x.f1 < x.f2)) :
    (actP L W x).1.getD i ByteArray.empty = L.getD i ByteArray.empty ∧ readF (i : Int) ((actP L W x).1.getD i ByteArray.empty) (actP L W x).2.1 = readF (i : Int) (L.getD i ByteArray.empty) W := by
  have hX : ∀ y ∈ inF x.f1 x.f2 W, 0 ≤ y.f0 ∧ y.f0 ≠ (i : Int) := by
    intro y hy
    obtain ⟨h1, h2⟩ := List.mem_filter.1 hy
    refine ⟨hW y h1, fun e => hi ?_⟩
    unfold inB at h2
    rw [← e]
    exact of_decide_eq_true h2
  unfold actP
  rcases hk with h1 | h2
  · rw [if_neg (by omega), if_pos h1]
    split
    · simp only
      rw [setF_apart i _ hX]
      exact ⟨rfl, readF_apart _ _ _ _ _ hi⟩
    · exact ⟨rfl, rfl⟩
  · rw [if_neg (by omega), if_neg (by omega), if_pos h2]
    split
    · simp only
      rw [show (crashF L (inF x.f1 x.f2 W) x.f4).getD i ByteArray.empty = L.getD i ByteArray.empty from crash_apart i _ hX x.f4 (L, fun _ => 0)]
      exact ⟨rfl, readF_apart _ _ _ _ _ hi⟩
    · exact ⟨rfl, rfl⟩
/-- Two rows of texts that were made, apart from each other. -/
structure Two9 (B : Nat) (v u : Value) (X Y : List ByteArray) (w : World) : Prop where
  a : Kd.R Kd.string 9 w B (fun k => some k ≠ u.ownBlock) v X
  b : Kd.R Kd.string 9 w B (fun k => some k ≠ v.ownBlock) u Y
theorem Two9.below {B : Nat} {v u : Value} {X Y : List ByteArray} {w w1 : World} (h : Two9 B v u X Y w) (hb : Below w.heap.size w w1) : Two9 B v u X Y w1 := ⟨Kd.R_below h.a hb, Kd.R_below h.b hb⟩
theorem Two9.left {B : Nat} {v u v1 : Value} {X Y X1 : List ByteArray} {w w1 : World} (h : Two9 B v u X Y w) (h1 : Kd.R Kd.string 9 w1 B (fun k => some k ≠ u.ownBlock) v1 X1) (hg : w.grownBy w1 v.ownBlock) (hv : v1.ownBlock = v.ownBlock ∨ ∃ b, v1.ownBlock = some b ∧ w.heap.size ≤ b) : Two9 B v1 u X1 Y w1 :=
  ⟨h1, Kd.R_mono (Kd.R_bound (Kd.R_grown (Kd.R_bound h.b) hg (fun k hk => hk.1))) (fun k hk e => by
    rcases hv with e1 | ⟨b, e1, hb⟩
    · exact hk.1.1 (e.trans e1)
    · rw [e1] at e; injection e with e; have := hk.1.2.2.1; omega)⟩
theorem Two9.flip {B : Nat} {v u : Value} {X Y : List ByteArray} {w : World} (h : Two9 B v u X Y w) : Two9 B u v Y X w := ⟨h.b, h.a⟩
theorem span_of {L : List ByteArray} {W : List S79} {x : S25} (hk : x.f0 = 1 ∨ x.f0 = 2) (h : (actP L W x).2.2 = 0) : spanB L.length x.f1 x.f2 = true := by
  unfold actP at h
  rcases hk with h1 | h2
  · rw [if_neg (by omega), if_pos h1] at h
    split at h
    · assumption
    · exact absurd h (by simp)
  · rw [if_neg (by omega), if_neg (by omega), if_pos h2] at h
    split at h
    · assumption
    · exact absurd h (by simp)
theorem actP_len (L : List ByteArray) (W : List S79) (x : S25) : (actP L W x).1.length = L.length := stepP_len (L, W) x
set_option maxHeartbeats 8000000 in
theorem apart_small (A : Option Addr) (c : Nat) (l : List S25) (x : S25) (KB : Option Addr) (kb : Nat) (w : World) (hl : Kd.C k25 w A l.length l) (hc : l.length ≤ c) (hok : LOK l) (hx : AOK x) (hkx : Kd.C k52 w KB x.f4.length x.f4) (hlg : largeB l = false) (hkd : x.f0 = 1 ∨ x.f0 = 2) :
    Calls Try.prog 3 #[.slice A l.length c, .agg #[.int .i64 x.f0, .int .i64 x.f1, .int .i64 x.f2, .int .u8 x.f3, .slice KB x.f4.length kb]] w fun e w' => e = .returned (.bool true) ∧ Below w.heap.size w w' := by
  have HL := Lib.hid hl
  have HG := Lib.hid hlg
  have HSM := Lib.hid (small_of hlg).2
  have hl40 : (l.length : Int) ≤ 40 := by have := (small_of hlg).1; omega
  have HOK := Lib.hid hok
  have HMAX := Lib.hid (Kd.C_max hl)
  have HXO := Lib.hid hx
  have HKX := Lib.hid hkx
  have hx4 : ¬ (40 : Int) < (x.f4.length : Int) := by have := hx.k; omega
  have hx4' : decide ((40 : Int) < (x.f4.length : Int)) = false := by simpa using hx4
  have hx5 : decide (40 < x.f4.length) = false := by have := hx.k; simp; omega
  have hn1 : (x.f0 != 1) = true ∧ (x.f0 != 2) = false ∨ (x.f0 != 1) = false := by
    rcases hkd with h | h
    · right; rw [bne_eq_false_iff_eq]; exact h
    · left; exact ⟨by rw [bne_iff_ne]; omega, by rw [bne_eq_false_iff_eq]; exact h⟩
  have hn2 : (x.f0 == 1) = false ∧ (x.f0 == 2) = true ∨ (x.f0 == 1) = true := by
    rcases hkd with h | h
    · right; rw [beq_iff_eq]; exact h
    · left; exact ⟨by rw [beq_eq_false_iff_ne]; omega, by rw [beq_iff_eq]; exact h⟩
  have HKD := Lib.hid hkd
  clear hlg hok hl hx hkx hkd
  have BX := Lib.hid (show Below w.heap.size w (w.alloc (.cells (ac x KB kb) 25)) from (Below.refl _ _).alloc (Nat.le_refl _) _)
  have XB := Lib.hid (AB.of (heap_new w (.cells (ac x KB kb) 25)))
  have c0 := XB.out.c0
  have c4 := XB.out.c4
  go_enter Try.func3, Try.ntmps3
  go_wp2_with fail
  change Calls _ _ _ (w.alloc (.cells (ac x KB kb) 25)) _
  refine (large_any A c l _ (Kd.C_below HL.out BX.out) hc).mono ?_
  rintro e w1 ⟨rfl, b1⟩
  rw [HG.out]
  have B1 := Lib.hid (below_two BX.out b1)
  have XB1 := Lib.hid (XB.out.below b1)
  clear c0 c4 b1
  have c0 := XB1.out.c0
  have c4 := XB1.out.c4
  rcases hn1 with ⟨n1, n2⟩ | n1
  all_goals
    clear hn2
    go_wp2_with fail
    refine (new_ok 12 w1 (by decide) (by decide)).mono ?_
    rintro e w2 ⟨rfl, hd, hb⟩
    have XB2 := Lib.hid (XB1.out.below hb)
    generalize hg : w1.heap.size + 1 = g at *
    generalize ho : w1.heap.size = o at *
    have HWO := Lib.hid (show w.heap.size ≤ o by have := B1.out.size; omega)
    have HXL := Lib.hid (show w.heap.size < o by have := XB1.out.lt; omega)
    have D0 := Lib.hid (show DW o g o (.slice none 0 0) (runP (L0 12) (l.take 0)).1 (runP (L0 12) (l.take 0)).2 w w2 from ⟨hd, B1.out.trans (hb.mono (by rw [← ho]; exact B1.out.size))⟩)
    clear hd hb hg ho c0 c4
    go_wp2_with fail
    go_loopw [46] (fun q wr => ∃ (k : Nat) (v : Value), k ≤ l.length ∧ q = .int .i64 k ∧ DW o g o v (runP (L0 12) (l.take k)).1 (runP (L0 12) (l.take k)).2 w wr ∧ AB x KB kb w.heap.size wr) (fun q _ => l.length - (intOf q).toNat)
    case atStart => exact ⟨0, _, by omega, rfl, D0.out, XB2.out⟩
    case round =>
      obtain ⟨k, v, hk, rfl, hdw, hab⟩ := hrel
      have XK := Lib.hid hab; clear hab
      have D := Lib.hid hdw; clear hdw
      by_cases hlt : k < l.length
      · have q1 : (0 : Int) ≤ (k : Int) := Int.natCast_nonneg _
        have q2 : (k : Int) < (l.length : Int) := by omega
        obtain ⟨b, off, KA, kc, rfl, x0, x1, x2, x3, x4, _, _⟩ := at25 (Kd.C_below HL.out D.out.b) k hlt
        obtain ⟨_, _, KA', kc', e', _, _, _, _, y4, _, hkc⟩ := at25 HL.out k hlt
        have HKK := Lib.hid (show ∀ W', Below w.heap.size w W' → Kd.C k52 W' KA (l.getD k z25).f4.length (l.getD k z25).f4 from by
          injection e' with e'
          cases e'
          have h2 := (D.out.b.cell (p := ⟨b, off + k * 5 + 4, none⟩) (World.block_lt_of_cell? w _ y4)).trans y4
          rw [x4] at h2
          cases h2
          exact fun W' hb => Kd.C_below hkc hb)
        have HA := Lib.hid (LOK.at HOK.out HSM.out hlt)
        have HN := Lib.hid (runP_take (L := L0 12) hlt)
        have HWL := Lib.hid (runP_wlen (L0 12) l k)
        clear y4 e' hkc
        generalize l.getD k z25 = y at *
        generalize runP (L0 12) (l.take k) = s at *
        have BY := Lib.hid (show Below wr.heap.size wr (wr.alloc (.cells (ac y KA kc) 25)) from (Below.refl _ _).alloc (Nat.le_refl _) _)
        have Z := AB.of (heap_new wr (.cells (ac y KA kc) 25))
        obtain ⟨z0, z1, z2, z3, z4⟩ := Z
        unfold ac at z0 z1 z2 z3 z4
        go_wp2_with fail
        refine (done_any (D.out.below BY.out).d y HA.out KA kc (fun W' hf => HKK.out W' ((D.out.below BY.out).to HWO.out hf)) (by have := HWL.out; omega)).mono ?_
        rintro e w5 ⟨rfl, v5, hd5, hf5, _⟩
        have X5 := Lib.hid ((XK.out.below BY.out).move (hf5.block _ (XK.out.below BY.out).lt (fun hS => by have := FS.lo (D.out.below BY.out).d _ hS; have := HXL.out; omega)))
        have D5 := Lib.hid ((D.out.below BY.out).fr HWO.out hd5 hf5)
        clear hd5 hf5 x0 x1 x2 x3 x4 z0 z1 z2 z3 z4
        go_wp2_with fail
        go_roundw
        case rel => exact ⟨k + 1, v5, by omega, by go_num, by rw [HN.out]; exact D5.out, X5.out⟩
        case measure => simp [intOf]; omega
      · obtain rfl : k = l.length := by omega
        rw [List.take_length] at D
        have HSL := Lib.hid (show (runP (L0 12) l).1.length = 12 by have := runP_len (L0 12) l l.length; rw [List.take_length] at this; rw [this]; rfl)
        have HWL := Lib.hid (show (runP (L0 12) l).2.length ≤ 40 by have := runP_wlen (L0 12) l l.length; rw [List.take_length] at this; omega)
        generalize runP (L0 12) l = s at *
        obtain ⟨L, W⟩ := s
        simp only at D HSL HWL
        clear hlt hk hl40
        have HLT := Lib.hid (fs_lt D.out.d)
        obtain ⟨wa, rfl⟩ : ∃ wa : World, wa = wr := ⟨_, rfl⟩

        go_wp2_with fail
        go_loopw [9, 10, 54] (fun v9 v10 q wx => ∃ k : Nat, k ≤ 12 ∧ q = .int .i64 k ∧ Two9 wa.heap.size v9 v10 (wasL L W k) (liesL L k) wx ∧ Below wa.heap.size wa wx) (fun _ _ q _ => 12 - (intOf q).toNat)
        case atStart => exact ⟨0, by omega, rfl, ⟨Kd.R_nil _ _ _ _ _, Kd.R_nil _ _ _ _ _⟩, Below.refl _ _⟩
        case round =>
          obtain ⟨k, hk, rfl, hR, bel⟩ := hrel
          have HR := Lib.hid hR; have Bel := Lib.hid bel; clear hR bel
          by_cases hlt : k < 12
          · have hlt' : (k : Int) < 12 := by omega
            have HK := Lib.hid hlt
            have Dx := Lib.hid (D.out.below Bel.out)
            have HS := Lib.hid (wasL_succ L W k)
            have HS2 := Lib.hid (liesL_succ (L := L) (k := k) (by rw [HSL.out]; exact hlt))
            have HZL := Lib.hid (wasL_length L W k)
            have HZ2 := Lib.hid (liesL_length (L := L) (k := k) (by rw [HSL.out]; omega))
            clear hk hlt
            go_wp2_with fail
            refine (read_ok Dx.out.d k (by rw [HSL.out]; exact HK.out)).mono ?_
            rintro e w5 ⟨rfl, b5⟩
            have B5 := Lib.hid (below_two Bel.out b5)
            have D5 := Lib.hid (Dx.out.below b5)
            have R5 := Lib.hid (HR.out.below b5)
            clear b5
            generalize readF (k : Int) (L.getD k ByteArray.empty) W = y at *
            go_wp2_with fail
            refine (lies_ok D5.out.d k (by rw [HSL.out]; exact HK.out)).mono ?_
            rintro e w6 ⟨rfl, rfl⟩
            generalize L.getD k ByteArray.empty = y2 at *
            generalize wasL L W k = Z at *
            generalize liesL L k = Z2 at *
            go_upto_region 18 with (at_builtin; refine Kd.R_append Kd.string (w0 := wa) (W := w5) wa.heap.size rfl (.tmp 75) (.tmp 77) 33 9 (.string ⟨#[]⟩) 16 rfl Try.underlying33 info9 rfl (by decide) (by omega) u9 Z y [.string y] (fun q => some q ≠ u10.ownBlock) (fun _ => False) rfl rfl rfl (fun _ h => h.elim) (fun q hq e => by have := Kd.R_lt R5.out.b q e.symm; omega) R5.out.a B5.out B5.out.size (by have := HZL.out; have := HK.out; omega) ?_; intro v2 w2 hR2 hB2 hg2 ha2; have T2 := Lib.hid (R5.out.left hR2 hg2 ha2); have HB2 := Lib.hid hB2; clear hR2 hB2 hg2 ha2)
            go_wp2_with (at_builtin; refine Kd.R_append Kd.string (w0 := wa) (W := w2) wa.heap.size rfl (.tmp 79) (.tmp 81) 33 9 (.string ⟨#[]⟩) 16 rfl Try.underlying33 info9 rfl (by decide) (by omega) u10 Z2 y2 [.string y2] (fun q => some q ≠ v2.ownBlock) (fun _ => False) rfl rfl rfl (fun _ h => h.elim) (fun q hq e => by have := Kd.R_lt T2.out.a q e.symm; omega) T2.out.b HB2.out HB2.out.size (by have := HZ2.out; have := HK.out; omega) ?_; intro v3 w3 hR2 hB3 hg2 ha2; have T3 := Lib.hid ((T2.out.flip.left hR2 hg2 ha2).flip); have HB3 := Lib.hid hB3; clear hR2 hB3 hg2 ha2)
            try go_wp2
            go_roundw
            case rel => exact ⟨k + 1, by have := HK.out; omega, by go_num, by rw [HS.out, HS2.out]; exact T3.out, HB3.out⟩
            case measure => have := HK.out; simp [intOf]; omega
          · obtain rfl : k = 12 := by omega
            clear hk hlt
            obtain ⟨wb, rfl⟩ : ∃ wb : World, wb = wr := ⟨_, rfl⟩
            have Db := Lib.hid (D.out.below Bel.out)
            have Xb := Lib.hid (XK.out.below Bel.out)
            obtain ⟨A9, c9, e9⟩ := Kd.R_slice HR.out.a
            rw [wasL_length] at e9
            subst e9
            obtain ⟨A10, c10, e10⟩ := Kd.R_slice HR.out.b
            rw [liesL_length (L := L) (k := 12) (by rw [HSL.out]; omega)] at e10
            subst e10
            have z0 := Xb.out.c0
            have z1 := Xb.out.c1
            have z2 := Xb.out.c2
            have z3 := Xb.out.c3
            have z4 := Xb.out.c4
            go_wp2_with fail
            refine (done_any Db.out.d x HXO.out KB kb (fun W' hf => Kd.C_below HKX.out (Db.out.to HWO.out hf)) (by have := HWL.out; omega)).mono ?_
            rintro e w5 ⟨rfl, v5, hd5, hf5, _⟩
            have D5 := Lib.hid (Db.out.fr HWO.out hd5 hf5)
            have T5 := Lib.hid (show Two9 wa.heap.size (.slice A9 12 c9) (.slice A10 12 c10) (wasL L W 12) (liesL L 12) w5 from
              ⟨Kd.R_mono (Kd.R_move (Kd.R_bound HR.out.a) (fun q hq => hf5.block q hq.2.2.1 (fun hS => by have := HLT.out q hS; have := hq.2.1; omega))) (fun _ hq => hq.1), Kd.R_mono (Kd.R_move (Kd.R_bound HR.out.b) (fun q hq => hf5.block q hq.2.2.1 (fun hS => by have := HLT.out q hS; have := hq.2.1; omega))) (fun _ hq => hq.1)⟩)
            have X5 := Lib.hid (Xb.out.move (hf5.block _ Xb.out.lt (fun hS => by have := FS.lo Db.out.d _ hS; have := HXL.out; omega)))
            clear hd5 hf5 z0 z1 z2 z3 z4 n1
            by_cases he : (actP L W x).2.2 = 0
            · have HSP := Lib.hid (spanB_yes (span_of HKD.out he))
              have HAP := Lib.hid (fun (i : Nat) (hi : ¬ (x.f1 ≤ (i : Int) ∧ (i : Int) - x.f1 < x.f2)) => apart_eq (L := L) (W := W) (fun y hy => (D.out.d.w64 y hy).2.1) x HKD.out hi)
              have HM12 := Lib.hid (show (actP L W x).1.length = 12 by rw [actP_len]; exact HSL.out)
              rw [he]
              generalize (actP L W x).1 = M at *
              generalize (actP L W x).2.1 = Wz at *
              clear he
              go_wp2_with fail
              go_loopw [89] (fun q wx => ∃ k : Nat, k ≤ 12 ∧ q = .int .i64 k ∧ Below w5.heap.size w5 wx) (fun q _ => 12 - (intOf q).toNat)
              case atStart => exact ⟨0, by omega, rfl, Below.refl _ _⟩
              case round =>
                obtain ⟨k, hk, rfl, bel⟩ := hrel
                have Bel5 := Lib.hid bel; clear bel
                by_cases hlt : k < 12
                · have hlt' : (k : Int) < 12 := by omega
                  have q1 : (0 : Int) ≤ (k : Int) := Int.natCast_nonneg _
                  have HK := Lib.hid hlt
                  have Dx := Lib.hid (D5.out.below Bel5.out)
                  have Tx := Lib.hid (T5.out.below Bel5.out)
                  have Xx := Lib.hid (X5.out.below Bel5.out)
                  clear hk hlt
                  go_wp2_with fail
                  refine (read_ok Dx.out.d k (by rw [HM12.out]; exact HK.out)).mono ?_
                  rintro e w9 ⟨rfl, b9⟩
                  have B9 := Lib.hid (below_two Bel5.out b9)
                  have D9 := Lib.hid (Dx.out.below b9)
                  have T9 := Lib.hid (Tx.out.below b9)
                  have X9 := Lib.hid (Xx.out.below b9)
                  clear b9
                  generalize hye : readF (k : Int) (M.getD k ByteArray.empty) Wz = y at *
                  have HYE := Lib.hid hye; clear hye
                  go_wp2_with fail
                  refine (lies_ok D9.out.d k (by rw [HM12.out]; exact HK.out)).mono ?_
                  rintro e w10 ⟨rfl, rfl⟩
                  generalize hye : M.getD k ByteArray.empty = y2 at *
                  have HY2 := Lib.hid hye; clear hye
                  have hC9 := (Kd.R_reads' T9.out.a).2.2
                  rw [wasL_length] at hC9
                  have hC10 := (Kd.R_reads' T9.out.b).2.2
                  rw [liesL_length (L := L) (k := 12) (by rw [HSL.out]; omega)] at hC10
                  obtain ⟨b9, o9, rfl, y0⟩ := at9 hC9 k HK.out
                  obtain ⟨b10, o10, rfl, y1⟩ := at9 hC10 k HK.out
                  rw [wasL_get L W HK.out] at y0
                  rw [liesL_get HK.out] at y1
                  clear hC9 hC10
                  have s1 := HSP.out.1
                  have s3 := HSP.out.2.2.1
                  have s4 := HSP.out.2.2.2
                  rw [HSL.out] at s3 s4
                  have s3' : x.f1 ≤ 12 := s3
                  have z1 := X9.out.c1
                  have z2 := X9.out.c2
                  by_cases i1 : (k : Int) < x.f1
                  · have hap := HAP.out k (by omega)
                    rw [HY2.out, HYE.out] at hap
                    rw [← hap.2] at y0
                    rw [← hap.1] at y1
                    clear hap s1 s3 s3' s4
                    go_wp2
                    go_roundw
                    case rel => exact ⟨k + 1, by have := HK.out; omega, by go_num, B9.out⟩
                    case measure => have := HK.out; simp [intOf]; omega
                  · have i1' : decide ((k : Int) < x.f1) = false := by simpa using i1
                    have hw : IntKind.i64.wrap ((k : Int) - x.f1) = (k : Int) - x.f1 := IntWalk.i64_in _ (by omega)
                    by_cases i2 : x.f2 ≤ (k : Int) - x.f1
                    · have hap := HAP.out k (by omega)
                      rw [HY2.out, HYE.out] at hap
                      rw [← hap.2] at y0
                      rw [← hap.1] at y1
                      clear hap s1 s3 s3' s4
                      go_wp2
                      go_roundw
                      case rel => exact ⟨k + 1, by have := HK.out; omega, by go_num, B9.out⟩
                      case measure => have := HK.out; simp [intOf]; omega
                    · have i2' : decide (x.f2 ≤ (k : Int) - x.f1) = false := by simpa using i2
                      clear s1 s3 s3' s4 y0 y1
                      go_wp2
                      go_roundw
                      case rel => exact ⟨k + 1, by have := HK.out; omega, by go_num, B9.out⟩
                      case measure => have := HK.out; simp [intOf]; omega
                · obtain rfl : k = 12 := by omega
                  clear hk hlt
                  go_wp2_with fail
                  refine (torn_any _).mono ?_
                  rintro e w9 ⟨rfl, b9⟩
                  have BF := Lib.hid (D5.out.b.trans ((below_two Bel5.out b9).mono D5.out.b.size))
                  clear b9
                  go_wp2
                  go_ret
                  exact ⟨rfl, BF.out⟩
            · have he' : ((actP L W x).2.2 != 0) = true := by rw [bne_iff_ne]; exact he
              go_wp2_with fail
              refine (torn_any _).mono ?_
              rintro e w6 ⟨rfl, b6⟩
              have BF := Lib.hid (below_two D5.out.b b6)
              clear b6
              go_wp2
              go_ret
              exact ⟨rfl, BF.out⟩
end Go.Proofs.Ytlodjkmablogcaa.Own
