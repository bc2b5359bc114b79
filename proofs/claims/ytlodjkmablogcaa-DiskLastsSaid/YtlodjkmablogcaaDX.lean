/- The walk of DiskLasts. -/
import Derived.Test.YtlodjkmablogcaaDV
namespace Go.Proofs.Ytlodjkmablogcaa.Own
open Go.RowKit Go.Proofs.YtlodjkmablogcaaW.PrintWords Go.Proofs.Ytlodjkmablogcaa.PB
set_option maxRecDepth 100000
set_option linter.unusedSimpArgs false
set_option linter.unusedVariables false
/-- Two disks, apart from each other. -/
structure TD (g1 o1 : Nat) (v1 : Value) (g2 o2 : Nat) (v2 : Value) (L1 : List ByteArray) (W1 : List S79) (L2 : List ByteArray) (W2 : List S79) (w0 w : World) : Prop where
  c : DW o1 g1 o1 v1 L1 W1 w0 w
  d : DW o2 g2 o2 v2 L2 W2 w0 w
  dj : ∀ k, FS g1 o1 v1 k → FS g2 o2 v2 k → False
section
variable {g1 o1 : Nat} {v1 : Value} {g2 o2 : Nat} {v2 : Value} {L1 : List ByteArray} {W1 : List S79} {L2 : List ByteArray} {W2 : List S79} {w0 w w1 : World}
theorem TD.below (h : TD g1 o1 v1 g2 o2 v2 L1 W1 L2 W2 w0 w) (hb : Below w.heap.size w w1) : TD g1 o1 v1 g2 o2 v2 L1 W1 L2 W2 w0 w1 := ⟨h.c.below hb, h.d.below hb, h.dj⟩
theorem TD.first {v : Value} {L : List ByteArray} {W : List S79} (h : TD g1 o1 v1 g2 o2 v2 L1 W1 L2 W2 w0 w) (hB : w0.heap.size ≤ o1) (hd : DS o1 g1 o1 v L W w1) (hf : Fr (FS g1 o1 v1) w w1) (hn : NV v1 v w) : TD g1 o1 v g2 o2 v2 L W L2 W2 w0 w1 :=
  ⟨h.c.fr hB hd hf, ⟨h.d.d.fr hf (fun k h2 h1 => h.dj k h1 h2), h.c.to hB hf⟩, fun k hk h2 => by
    rcases hk with rfl | rfl | hk
    · exact h.dj _ (Or.inl rfl) h2
    · exact h.dj _ (Or.inr (Or.inl rfl)) h2
    · rcases hn k hk with h3 | h3
      · exact h.dj k (Or.inr (Or.inr h3)) h2
      · have := fs_lt h.d.d k h2; omega⟩
theorem TD.flip (h : TD g1 o1 v1 g2 o2 v2 L1 W1 L2 W2 w0 w) : TD g2 o2 v2 g1 o1 v1 L2 W2 L1 W1 w0 w := ⟨h.d, h.c, fun k a b => h.dj k b a⟩
theorem TD.second {v : Value} {L : List ByteArray} {W : List S79} (h : TD g1 o1 v1 g2 o2 v2 L1 W1 L2 W2 w0 w) (hB : w0.heap.size ≤ o2) (hd : DS o2 g2 o2 v L W w1) (hf : Fr (FS g2 o2 v2) w w1) (hn : NV v2 v w) : TD g1 o1 v1 g2 o2 v L1 W1 L W w0 w1 := (h.flip.first hB hd hf hn).flip
end
/-- Behind a flush of the whole disk what was read lies there. -/
theorem flush_eq {n : Nat} {L : List ByteArray} {W : List S79} (hn : L.length = n) (hW : ∀ x ∈ W, 0 ≤ x.f0 ∧ x.f0 < L.length) {i : Nat} (hi : i < n) :
    (setF L (inF 0 n W)).getD i ByteArray.empty = readF (i : Int) (L.getD i ByteArray.empty) W := by
  rw [(in_whole (n := n) (W := W) (fun x hx => ⟨(hW x hx).1, by have := (hW x hx).2; omega⟩)).1]
  exact readF_set i W (fun x hx => (hW x hx).1) L (by omega)
set_option maxHeartbeats 8000000 in
theorem lasts_small (A : Option Addr) (c : Nat) (l : List S25) (KB : Option Addr) (kb : Nat) (ks : List S52) (w : World) (hl : Kd.C k25 w A l.length l) (hc : l.length ≤ c) (hok : LOK l) (hk40 : ks.length ≤ 40) (hkx : Kd.C k52 w KB ks.length ks) (hwf : ∀ q ∈ ks, (Lit.int .i64 q.f0).wf = true) (hlg : largeB l = false) :
    Calls Try.prog 5 #[.slice A l.length c, .slice KB ks.length kb] w fun e w' => e = .returned (.bool true) ∧ Below w.heap.size w w' := by
  have HL := Lib.hid hl
  have HG := Lib.hid hlg
  have HSM := Lib.hid (small_of hlg).2
  have hl40 : (l.length : Int) ≤ 40 := by have := (small_of hlg).1; omega
  have HOK := Lib.hid hok
  have HMAX := Lib.hid (Kd.C_max hl)
  have HKX := Lib.hid hkx
  have HWF := Lib.hid hwf
  have HK40 := Lib.hid hk40
  have hx4' : decide ((40 : Int) < (ks.length : Int)) = false := by simp; omega
  have hx5 : decide (40 < ks.length) = false := by simp; omega
  clear hlg hok hl hkx hwf hk40
  go_enter Try.func5, Try.ntmps5
  go_wp2_with fail
  refine (large_any A c l _ HL.out hc).mono ?_
  rintro e wl ⟨rfl, b1⟩
  rw [HG.out]
  have B1 := Lib.hid b1
  clear b1
  go_wp2_with fail
  refine (new_ok 8 wl (by decide) (by decide)).mono ?_
  rintro e wm ⟨rfl, hd, hb⟩
  have E1 := Lib.hid (show DW wl.heap.size (wl.heap.size + 1) wl.heap.size (.slice none 0 0) (L0 8) [] w wm from ⟨hd, below_two B1.out hb⟩)
  clear hd hb
  go_wp2_with fail
  refine (new_ok 8 wm (by decide) (by decide)).mono ?_
  rintro e w2 ⟨rfl, hd, hb⟩
  have D0 := Lib.hid (show TD (wl.heap.size + 1) wl.heap.size (.slice none 0 0) (wm.heap.size + 1) wm.heap.size (.slice none 0 0) (runP (L0 8) (l.take 0)).1 (runP (L0 8) (l.take 0)).2 (runP (L0 8) (l.take 0)).1 (runP (L0 8) (l.take 0)).2 w w2 from
    ⟨E1.out.below hb, ⟨hd, below_two E1.out.b hb⟩, fun k h1 h2 => by
      have a1 := fs_lt E1.out.d k h1
      have a2 := FS.lo hd k h2
      omega⟩)
  have HWO := Lib.hid (show w.heap.size ≤ wl.heap.size from B1.out.size)
  have HWO2 := Lib.hid (show w.heap.size ≤ wm.heap.size from E1.out.b.size)
  clear hd hb
  generalize wl.heap.size + 1 = g1 at *
  generalize wl.heap.size = o1 at *
  generalize wm.heap.size + 1 = g2 at *
  generalize wm.heap.size = o2 at *
  go_wp2_with fail
  go_loopw [42] (fun q wr => ∃ (k : Nat) (v v' : Value), k ≤ l.length ∧ q = .int .i64 k ∧ TD g1 o1 v g2 o2 v' (runP (L0 8) (l.take k)).1 (runP (L0 8) (l.take k)).2 (runP (L0 8) (l.take k)).1 (runP (L0 8) (l.take k)).2 w wr) (fun q _ => l.length - (intOf q).toNat)
  case atStart => exact ⟨0, _, _, by omega, rfl, D0.out⟩
  case round =>
    obtain ⟨k, v, v', hk, rfl, hdw⟩ := hrel
    have D := Lib.hid hdw; clear hdw
    by_cases hlt : k < l.length
    · have q1 : (0 : Int) ≤ (k : Int) := Int.natCast_nonneg _
      have q2 : (k : Int) < (l.length : Int) := by omega
      obtain ⟨b, off, KA, kc, rfl, x0, x1, x2, x3, x4, _, _⟩ := at25 (Kd.C_below HL.out D.out.c.b) k hlt
      obtain ⟨_, _, KA', kc', e', _, _, _, _, y4, _, hkc⟩ := at25 HL.out k hlt
      have HKK := Lib.hid (show ∀ W', Below w.heap.size w W' → Kd.C k52 W' KA (l.getD k z25).f4.length (l.getD k z25).f4 from by
        injection e' with e'
        cases e'
        have h2 := (D.out.c.b.cell (p := ⟨b, off + k * 5 + 4, none⟩) (World.block_lt_of_cell? w _ y4)).trans y4
        rw [x4] at h2
        cases h2
        exact fun W' hb => Kd.C_below hkc hb)
      have HA := Lib.hid (LOK.at HOK.out HSM.out hlt)
      have HN := Lib.hid (runP_take (L := L0 8) hlt)
      have HWL := Lib.hid (runP_wlen (L0 8) l k)
      clear y4 e' hkc
      generalize l.getD k z25 = y at *
      generalize runP (L0 8) (l.take k) = s at *
      have BY := Lib.hid (show Below wr.heap.size wr (wr.alloc (.cells (ac y KA kc) 25)) from (Below.refl _ _).alloc (Nat.le_refl _) _)
      have YB := Lib.hid (AB.of (heap_new wr (.cells (ac y KA kc) 25)))
      obtain ⟨z0, z1, z2, z3, z4⟩ := YB.out
      have DB := Lib.hid (D.out.below BY.out)
      have NB := Lib.hid (show ∀ k, FS g1 o1 v k → k ≠ wr.heap.size from fun k hk => by have := fs_lt D.out.c.d k hk; omega)
      go_wp2_with fail
      change Calls _ _ _ (wr.alloc (.cells (ac y KA kc) 25)) _
      refine (done_any DB.out.c.d y HA.out KA kc (fun W' hf => HKK.out W' (DB.out.c.to HWO.out hf)) (by have := HWL.out; omega)).mono ?_
      rintro e w5 ⟨rfl, v5, hd5, hf5, hn5⟩
      have D5 := Lib.hid (DB.out.first HWO.out hd5 hf5 hn5)
      have Y5 := Lib.hid (YB.out.move (hf5.block _ YB.out.lt (fun hS => NB.out _ hS rfl)))
      clear hd5 hf5 hn5 x0 x1 x2 x3 x4 z0 z1 z2 z3 z4
      obtain ⟨z0, z1, z2, z3, z4⟩ := Y5.out
      go_wp2_with fail
      refine (done_any D5.out.d.d y HA.out KA kc (fun W' hf => HKK.out W' (D5.out.d.to HWO2.out hf)) (by have := HWL.out; omega)).mono ?_
      rintro e w6 ⟨rfl, v6, hd6, hf6, hn6⟩
      have D6 := Lib.hid (D5.out.second HWO2.out hd6 hf6 hn6)
      clear hd6 hf6 hn6 z0 z1 z2 z3 z4
      go_wp2_with fail
      go_roundw
      case rel => exact ⟨k + 1, v5, v6, by omega, by go_num, by rw [HN.out]; exact D6.out⟩
      case measure => simp [intOf]; omega
    · obtain rfl : k = l.length := by omega
      rw [List.take_length] at D
      have HSL := Lib.hid (show (runP (L0 8) l).1.length = 8 by have := runP_len (L0 8) l l.length; rw [List.take_length] at this; rw [this]; rfl)
      have HWL := Lib.hid (show (runP (L0 8) l).2.length ≤ 40 by have := runP_wlen (L0 8) l l.length; rw [List.take_length] at this; omega)
      generalize runP (L0 8) l = s at *
      obtain ⟨L, W⟩ := s
      simp only at D HSL HWL
      clear hlt hk hl40
      have HLT := Lib.hid (fs_lt D.out.c.d)
      have HLT2 := Lib.hid (fs_lt D.out.d.d)
      obtain ⟨wa, rfl⟩ : ∃ wa : World, wa = wr := ⟨_, rfl⟩
      go_wp2_with fail
      go_loopw [11, 53] (fun v11 q wx => ∃ k : Nat, k ≤ 8 ∧ q = .int .i64 k ∧ Kd.R Kd.string 9 wx wa.heap.size (fun _ => True) v11 (wasL L W k) ∧ Below wa.heap.size wa wx) (fun _ q _ => 8 - (intOf q).toNat)
      case atStart => exact ⟨0, by omega, rfl, Kd.R_nil _ _ _ _ _, Below.refl _ _⟩
      case round =>
        obtain ⟨k, hk, rfl, hR, bel⟩ := hrel
        have HR := Lib.hid hR; have Bel := Lib.hid bel; clear hR bel
        by_cases hlt : k < 8
        · have hlt' : (k : Int) < 8 := by omega
          have HK := Lib.hid hlt
          have Dx := Lib.hid (D.out.below Bel.out)
          have HS := Lib.hid (wasL_succ L W k)
          have HZL := Lib.hid (wasL_length L W k)
          clear hk hlt
          go_wp2_with fail
          refine (read_ok Dx.out.c.d k (by rw [HSL.out]; exact HK.out)).mono ?_
          rintro e w5 ⟨rfl, b5⟩
          have B5 := Lib.hid (below_two Bel.out b5)
          have R5 := Lib.hid (Kd.R_below HR.out b5)
          clear b5
          generalize readF (k : Int) (L.getD k ByteArray.empty) W = y at *
          generalize wasL L W k = Z at *
          go_wp2_with (at_builtin; refine Kd.R_append Kd.string (w0 := wa) (W := w5) wa.heap.size rfl (.tmp 64) (.tmp 66) 33 9 (.string ⟨#[]⟩) 16 rfl Try.underlying33 info9 rfl (by decide) (by omega) u11 Z y [.string y] (fun _ => True) (fun _ => False) rfl rfl rfl (fun _ h => h.elim) (fun _ _ => trivial) R5.out B5.out B5.out.size (by have := HZL.out; have := HK.out; omega) ?_; intro v2 w2 hR2 hB2 hg2 ha2; have HR2 := Lib.hid hR2; have HB2 := Lib.hid hB2; clear hR2 hB2 hg2 ha2)
          try go_wp2
          go_roundw
          case rel => exact ⟨k + 1, by have := HK.out; omega, by go_num, by rw [HS.out]; exact HR2.out, HB2.out⟩
          case measure => have := HK.out; simp [intOf]; omega
        · obtain rfl : k = 8 := by omega
          clear hk hlt
          obtain ⟨wb, rfl⟩ : ∃ wb : World, wb = wr := ⟨_, rfl⟩
          have Dx := Lib.hid (D.out.below Bel.out)
          obtain ⟨A7, c7, e7⟩ := Kd.R_slice HR.out
          rw [wasL_length] at e7
          subst e7
          go_wp2_with fail
          refine (flush_ok Dx.out.c.d 0 8 (by rw [HSL.out]; decide) (by have := HWL.out; omega)).mono ?_
          rintro e w8 ⟨rfl, v8, hd8, hf8, hn8⟩
          have D8 := Lib.hid (Dx.out.first HWO.out hd8 hf8 hn8)
          have R8 := Lib.hid (R_fr HR.out hf8 (fun q hq => HLT.out q hq))
          clear hd8 hf8 hn8
          go_wp2_with fail
          refine (crash_ok D8.out.d.d 0 8 (by rw [HSL.out]; decide) (by have := HWL.out; omega) KB kb ks (by have := HK40.out; omega) (fun W' hf => Kd.C_below HKX.out (D8.out.d.to HWO2.out hf)) HWF.out).mono ?_
          rintro e w9 ⟨rfl, v9, hd9, hf9, hn9⟩
          have D9 := Lib.hid (D8.out.second HWO2.out hd9 hf9 hn9)
          have R9 := Lib.hid (R_fr R8.out hf9 (fun q hq => HLT2.out q hq))
          clear hd9 hf9 hn9
          have HEQ := Lib.hid (fun (i : Nat) (hi : i < 8) => (show (setF L (inF 0 8 W)).getD i ByteArray.empty = readF (i : Int) (L.getD i ByteArray.empty) W from flush_eq (n := 8) HSL.out (fun x hx => (D.out.c.d.w64 x hx).2) hi))
          have HOW := Lib.hid (show outF 0 8 W = [] from (in_whole (n := 8) (W := W) (fun x hx => ⟨(D.out.c.d.w64 x hx).2.1, by have h1 := (D.out.c.d.w64 x hx).2.2; have h2 := HSL.out; omega⟩)).2)
          have HM1 := Lib.hid (show (setF L (inF 0 8 W)).length = 8 by rw [setF_len]; exact HSL.out)
          have HM2 := Lib.hid (show (crashF L (inF 0 8 W) ks).length = 8 by rw [show (crashF L (inF 0 8 W) ks).length = L.length from crashS_len _ _ _]; exact HSL.out)
          rw [HOW.out] at D9
          generalize setF L (inF 0 8 W) = M1 at *
          generalize crashF L (inF 0 8 W) ks = M2 at *
          go_wp2_with fail
          go_loopw [74] (fun q wx => ∃ k : Nat, k ≤ 8 ∧ q = .int .i64 k ∧ Below w9.heap.size w9 wx) (fun q _ => 8 - (intOf q).toNat)
          case atStart => exact ⟨0, by omega, rfl, Below.refl _ _⟩
          case round =>
            obtain ⟨k, hk, rfl, bel⟩ := hrel
            have Bel5 := Lib.hid bel; clear bel
            by_cases hlt : k < 8
            · have hlt' : (k : Int) < 8 := by omega
              have q1 : (0 : Int) ≤ (k : Int) := Int.natCast_nonneg _
              have HK := Lib.hid hlt
              have Dz := Lib.hid (D9.out.below Bel5.out)
              have Rz := Lib.hid (Kd.R_below R9.out Bel5.out)
              clear hk hlt
              go_wp2_with fail
              refine (lies_ok Dz.out.c.d k (by rw [HM1.out]; exact HK.out)).mono ?_
              rintro e w10 ⟨rfl, rfl⟩
              rw [HEQ.out k HK.out]
              generalize hye : readF (k : Int) (L.getD k ByteArray.empty) W = y at *
              have HYE := Lib.hid hye; clear hye
              go_wp2_with fail
              refine (lies_ok Dz.out.d.d k (by rw [HM2.out]; exact HK.out)).mono ?_
              rintro e w11 ⟨rfl, rfl⟩
              generalize hye : M2.getD k ByteArray.empty = y2 at *
              have HY2 := Lib.hid hye; clear hye
              go_wp2_with fail
              refine (read_ok Dz.out.d.d k (by rw [HM2.out]; exact HK.out)).mono ?_
              rintro e w12 ⟨rfl, b12⟩
              rw [HY2.out]
              rw [show readF (k : Int) y2 [] = y2 from rfl]
              have B12 := Lib.hid (below_two Bel5.out b12)
              have R12 := Lib.hid (Kd.R_below Rz.out b12)
              clear b12
              have hC9 := (Kd.R_reads' R12.out).2.2
              rw [wasL_length] at hC9
              obtain ⟨b, off, rfl, y0⟩ := at9 hC9 k HK.out
              clear hC9
              rw [wasL_get L W HK.out, HYE.out] at y0
              go_wp2
              go_roundw
              case rel => exact ⟨k + 1, by have := HK.out; omega, by go_num, B12.out⟩
              case measure => have := HK.out; simp [intOf]; omega
            · obtain rfl : k = 8 := by omega
              clear hk hlt
              have Dz := Lib.hid (D9.out.below Bel5.out)
              go_wp2_with fail
              refine (waiting_any Dz.out.c.d 0 8 (by simp)).mono ?_
              rintro e w10 ⟨rfl, b10⟩
              rw [show waitN M1.length [] 0 8 = 0 by unfold waitN; split <;> rfl]
              have Dy := Lib.hid (Dz.out.below b10)
              clear b10
              go_wp2_with fail
              refine (waiting_any Dy.out.d.d 0 8 (by simp)).mono ?_
              rintro e w11 ⟨rfl, b11⟩
              rw [show waitN M2.length [] 0 8 = 0 by unfold waitN; split <;> rfl]
              have Du := Lib.hid (Dy.out.below b11)
              clear b11
              go_wp2_with fail
              refine (torn_any _).mono ?_
              rintro e w12 ⟨rfl, b12⟩
              have BF := Lib.hid (below_two Du.out.c.b b12)
              clear b12
              go_wp2
              go_ret
              exact ⟨rfl, BF.out⟩
set_option maxHeartbeats 4000000 in
theorem lasts_big (A : Option Addr) (c : Nat) (l : List S25) (KB : Option Addr) (kb : Nat) (ks : List S52) (w : World) (hl : Kd.C k25 w A l.length l) (hc : l.length ≤ c) (hm : ks.length ≤ 9223372036854775807) (h : largeB l = true ∨ largeB l = false ∧ 40 < ks.length) :
    Calls Try.prog 5 #[.slice A l.length c, .slice KB ks.length kb] w fun e w' => e = .returned (.bool true) ∧ Below w.heap.size w w' := by
  have HL := Lib.hid hl
  clear hl
  rcases h with h | ⟨h, hb⟩
  · have HG := Lib.hid h; clear h
    go_enter Try.func5, Try.ntmps5
    go_wp2_with fail
    refine (large_any A c l _ HL.out hc).mono ?_
    rintro e w1 ⟨rfl, b1⟩
    rw [HG.out]
    have B1 := Lib.hid b1; clear b1
    go_wp2_with fail
    refine (torn_any _).mono ?_
    rintro e w2 ⟨rfl, b2⟩
    have B2 := Lib.hid (below_two B1.out b2); clear b2
    go_wp2
    go_ret
    exact ⟨rfl, B2.out⟩
  · have HG := Lib.hid h; clear h
    have hb' : (40 : Int) < (ks.length : Int) := by omega
    have hb2 : decide (40 < ks.length) = true := by simpa using hb
    go_enter Try.func5, Try.ntmps5
    go_wp2_with fail
    refine (large_any A c l _ HL.out hc).mono ?_
    rintro e w1 ⟨rfl, b1⟩
    rw [HG.out]
    have B1 := Lib.hid b1; clear b1
    go_wp2_with fail
    refine (torn_any _).mono ?_
    rintro e w2 ⟨rfl, b2⟩
    have B2 := Lib.hid (below_two B1.out b2); clear b2
    go_wp2
    go_ret
    exact ⟨rfl, B2.out⟩
theorem diskLasts_any (A : Option Addr) (c : Nat) (l : List S25) (KB : Option Addr) (kb : Nat) (ks : List S52) (w : World) (hl : Kd.C k25 w A l.length l) (hc : l.length ≤ c) (hok : LOK l) (hkx : Kd.C k52 w KB ks.length ks) (hwf : ∀ q ∈ ks, (Lit.int .i64 q.f0).wf = true) :
    Calls Try.prog 5 #[.slice A l.length c, .slice KB ks.length kb] w fun e w' => e = .returned (.bool true) ∧ Below w.heap.size w w' := by
  cases hlg : largeB l with
  | true => exact lasts_big A c l KB kb ks w hl hc (Kd.C_max hkx) (Or.inl hlg)
  | false =>
    by_cases hb : 40 < ks.length
    · exact lasts_big A c l KB kb ks w hl hc (Kd.C_max hkx) (Or.inr ⟨hlg, hb⟩)
    · exact lasts_small A c l KB kb ks w hl hc hok (by omega) hkx hwf hlg
end Go.Proofs.Ytlodjkmablogcaa.Own
