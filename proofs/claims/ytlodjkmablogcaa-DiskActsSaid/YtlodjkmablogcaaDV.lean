/- The walk of DiskKeeps. -/
import Derived.Test.YtlodjkmablogcaaDU
namespace Go.Proofs.Ytlodjkmablogcaa.Own
open Go.RowKit Go.Proofs.YtlodjkmablogcaaW.PrintWords Go.Proofs.Ytlodjkmablogcaa.PB
set_option maxRecDepth 100000
set_option linter.unusedSimpArgs false
set_option linter.unusedVariables false
theorem info52' : (Try.prog.info? 52).map (fun i => (i.zero, i.size, i.bytes)) = some (some (.agg #[(.int .i64 0), (.int .i64 0)]), 2, 16) := by kernel_rfl
/-- What is read of the first sectors. -/
def wasL (L : List ByteArray) (W : List S79) (k : Nat) : List ByteArray := (List.range k).map fun (j : Nat) => readF (j : Int) (L.getD j ByteArray.empty) W
theorem wasL_succ (L : List ByteArray) (W : List S79) (k : Nat) : wasL L W (k + 1) = wasL L W k ++ [readF (k : Int) (L.getD k ByteArray.empty) W] := by unfold wasL; rw [List.range_succ, List.map_append]; rfl
theorem wasL_length (L : List ByteArray) (W : List S79) (k : Nat) : (wasL L W k).length = k := by simp [wasL]
theorem wasL_get (L : List ByteArray) (W : List S79) {k i : Nat} (h : i < k) : (wasL L W k).getD i ByteArray.empty = readF (i : Int) (L.getD i ByteArray.empty) W := by
  unfold wasL
  rw [List.getD_eq_getElem?_getD, List.getElem?_map, List.getElem?_range h]
  rfl
/-- What a law asks of calls that come in. -/
def LOK (l : List S25) : Prop := ∀ x ∈ l, 0 ≤ x.f3 ∧ x.f3 ≤ 255 ∧ ∀ q ∈ x.f4, (Lit.int .i64 q.f0).wf = true
theorem LOK.at {l : List S25} (h : LOK l) (hb : ∀ x ∈ l, x.f4.length ≤ 40) {k : Nat} (hk : k < l.length) : AOK (l.getD k z25) := by
  have hm : l.getD k z25 ∈ l := by rw [List.getD_eq_getElem?_getD, List.getElem?_eq_getElem hk]; exact List.getElem_mem hk
  obtain ⟨h1, h2, h3⟩ := h _ hm
  exact ⟨h1, h2, hb _ hm, h3⟩
def L0 (n : Nat) : List ByteArray := List.replicate n zeroB
theorem DW.to {B g o : Nat} {v : Value} {L : List ByteArray} {W : List S79} {w0 w w1 : World} (h : DW B g o v L W w0 w) (hB : w0.heap.size ≤ B) (hf : Fr (FS g o v) w w1) : Below w0.heap.size w0 w1 :=
  h.b.trans (hf.to_below (fun k hk => Nat.le_trans hB (FS.lo h.d k hk)) h.b.size)
theorem fr_lt {S : Nat → Prop} {w w1 : World} (h : Fr S w w1) : w.heap.size ≤ w1.heap.size := h.size
/-- What is read behind a crash that keeps all. -/
theorem keeps_eq {n : Nat} {L : List ByteArray} {W : List S79} (hn : L.length = n) (hL : ∀ s ∈ L, s.size = 64) (hW : ∀ x ∈ W, x.f1.size = 64 ∧ 0 ≤ x.f0 ∧ x.f0 < L.length) {i : Nat} (hi : i < n) :
    readF (i : Int) ((crashF L (inF 0 n W) (allK W.length)).getD i ByteArray.empty) (outF 0 n W) = readF (i : Int) (L.getD i ByteArray.empty) W := by
  obtain ⟨h1, h2⟩ := in_whole (n := n) (W := W) (fun x hx => ⟨(hW x hx).2.1, by have := (hW x hx).2.2; omega⟩)
  rw [h1, h2]
  show (crashF L W (allK W.length)).getD i ByteArray.empty = _
  unfold crashF
  rw [(crash_all L W hL hW W.length (Nat.le_refl _)).1, List.take_length]
  exact readF_set i W (fun x hx => (hW x hx).2.1) L (by omega)
set_option maxHeartbeats 8000000 in
theorem diskKeeps_any (A : Option Addr) (c : Nat) (l : List S25) (w : World) (hl : Kd.C k25 w A l.length l) (hc : l.length ≤ c) (hok : LOK l) :
    Calls Try.prog 6 #[.slice A l.length c] w fun e w' => e = .returned (.bool true) ∧ Below w.heap.size w w' := by
  have HL := Lib.hid hl
  cases hlg : largeB l with
  | true =>
    have HG := Lib.hid hlg; clear hlg
    go_enter Try.func6, Try.ntmps6
    go_wp2_with fail
    refine (large_any A c l w HL.out hc).mono ?_
    rintro e w1 ⟨rfl, b1⟩
    rw [HG.out]
    have B1 := Lib.hid b1; clear b1
    go_wp2_with fail
    refine (torn_any w1).mono ?_
    rintro e w2 ⟨rfl, b2⟩
    have B2 := Lib.hid (below_two B1.out b2); clear b2
    go_wp2
    go_ret
    exact ⟨rfl, B2.out⟩
  | false =>
    have HG := Lib.hid hlg
    have HSM := Lib.hid (small_of hlg).2
    have hl40 : (l.length : Int) ≤ 40 := by have := (small_of hlg).1; omega
    have HOK := Lib.hid hok
    have HMAX := Lib.hid (Kd.C_max hl)
    clear hlg hok hl
    go_enter Try.func6, Try.ntmps6
    go_wp2_with fail
    refine (large_any A c l w HL.out hc).mono ?_
    rintro e w1 ⟨rfl, b1⟩
    rw [HG.out]
    have B1 := Lib.hid b1; clear b1
    go_wp2_with fail
    refine (new_ok 8 w1 (by decide) (by decide)).mono ?_
    rintro e w2 ⟨rfl, hd, hb⟩
    generalize hg : w1.heap.size + 1 = g at *
    generalize ho : w1.heap.size = o at *
    have HWO := Lib.hid (show w.heap.size ≤ o by have := B1.out.size; omega)
    have D0 := Lib.hid (show DW o g o (.slice none 0 0) (runP (L0 8) (l.take 0)).1 (runP (L0 8) (l.take 0)).2 w w2 from ⟨hd, B1.out.trans (hb.mono (by rw [← ho]; exact B1.out.size))⟩)
    clear hd hb hg ho
    go_wp2_with fail
    go_loopw [26] (fun q wr => ∃ (k : Nat) (v : Value), k ≤ l.length ∧ q = .int .i64 k ∧ DW o g o v (runP (L0 8) (l.take k)).1 (runP (L0 8) (l.take k)).2 w wr) (fun q _ => l.length - (intOf q).toNat)
    case atStart => exact ⟨0, _, by omega, rfl, D0.out⟩
    case round =>
      obtain ⟨k, v, hk, rfl, hdw⟩ := hrel
      have D := Lib.hid hdw; clear hdw
      by_cases hlt : k < l.length
      · have q1 : (0 : Int) ≤ (k : Int) := Int.natCast_nonneg _
        have q2 : (k : Int) < (l.length : Int) := by omega
        obtain ⟨b, off, KA, kc, rfl, x0, x1, x2, x3, x4, _, _⟩ := at25 (Kd.C_below HL.out D.out.b) k hlt
        obtain ⟨_, _, KA', kc', e', _, _, _, _, y4, _, hkc⟩ := at25 HL.out k hlt
        have HKK := Lib.hid (show ∀ W', Below w.heap.size w W' → Kd.C k52 W' KA (l.getD k z25).f4.length (l.getD k z25).f4 from by
          injection e' with e'
          cases e'
          have h2 := (D.out.b.cell (p := ⟨b, off + k * 5 + 4, none⟩) (World.block_lt_of_cell? w _ y4)).trans y4
          rw [x4] at h2
          cases h2
          exact fun W' hb => Kd.C_below hkc hb)
        have HA := Lib.hid (LOK.at HOK.out HSM.out hlt)
        have HN := Lib.hid (runP_take (L := L0 8) hlt)
        have HWL := Lib.hid (runP_wlen (L0 8) l k)
        clear y4 e' hkc
        generalize l.getD k z25 = x at *
        generalize runP (L0 8) (l.take k) = s at *
        have BX := Lib.hid (show Below wr.heap.size wr (wr.alloc (.cells (ac x KA kc) 25)) from (Below.refl _ _).alloc (Nat.le_refl _) _)
        have Z := AB.of (heap_new wr (.cells (ac x KA kc) 25))
        obtain ⟨z0, z1, z2, z3, z4⟩ := Z
        unfold ac at z0 z1 z2 z3 z4
        go_wp2_with fail
        refine (done_any (D.out.below BX.out).d x HA.out KA kc (fun W' hf => HKK.out W' ((D.out.below BX.out).to HWO.out hf)) (by have := HWL.out; omega)).mono ?_
        rintro e w5 ⟨rfl, v5, hd5, hf5, _⟩
        have D5 := Lib.hid ((D.out.below BX.out).fr HWO.out hd5 hf5)
        clear hd5 hf5 x0 x1 x2 x3 x4 z0 z1 z2 z3 z4
        go_wp2_with fail
        go_roundw
        case rel => exact ⟨k + 1, v5, by omega, by go_num, by rw [HN.out]; exact D5.out⟩
        case measure => simp [intOf]; omega
      · obtain rfl : k = l.length := by omega
        rw [List.take_length] at D
        have HSL := Lib.hid (show (runP (L0 8) l).1.length = 8 by have := runP_len (L0 8) l l.length; rw [List.take_length] at this; rw [this]; rfl)
        have HWL := Lib.hid (show (runP (L0 8) l).2.length ≤ 40 by have := runP_wlen (L0 8) l l.length; rw [List.take_length] at this; omega)
        generalize runP (L0 8) l = s at *
        obtain ⟨L, W⟩ := s
        simp only at D HSL HWL
        clear hlt hk hl40
        have HLT := Lib.hid (fs_lt D.out.d)
        obtain ⟨wa, rfl⟩ : ∃ wa : World, wa = wr := ⟨_, rfl⟩
        go_wp2_with fail
        go_loopw [7, 34] (fun v7 q wx => ∃ k : Nat, k ≤ 8 ∧ q = .int .i64 k ∧ Kd.R Kd.string 9 wx wa.heap.size (fun _ => True) v7 (wasL L W k) ∧ Below wa.heap.size wa wx) (fun _ q _ => 8 - (intOf q).toNat)
        case atStart => exact ⟨0, by omega, rfl, Kd.R_nil _ _ _ _ _, Below.refl _ _⟩
        case round =>
          obtain ⟨k, hk, rfl, hR, bel⟩ := hrel
          have HR := Lib.hid hR; have Bel := Lib.hid bel; clear hR bel
          by_cases hlt : k < 8
          · have hlt' : (k : Int) < 8 := by omega
            have HK := Lib.hid hlt
            have Dx := Lib.hid (D.out.below Bel.out)
            have HS := Lib.hid (wasL_succ L W k)
            have HZL := Lib.hid (wasL_length L W k)
            clear hk hlt
            go_wp2_with fail
            refine (read_ok Dx.out.d k (by rw [HSL.out]; exact HK.out)).mono ?_
            rintro e w5 ⟨rfl, b5⟩
            have B5 := Lib.hid (below_two Bel.out b5)
            have R5 := Lib.hid (Kd.R_below HR.out b5)
            clear b5
            generalize readF (k : Int) (L.getD k ByteArray.empty) W = y at *
            generalize wasL L W k = Z at *
            go_wp2_with (at_builtin; refine Kd.R_append Kd.string (w0 := wa) (W := w5) wa.heap.size rfl (.tmp 45) (.tmp 47) 33 9 (.string ⟨#[]⟩) 16 rfl Try.underlying33 info9 rfl (by decide) (by omega) u7 Z y [.string y] (fun _ => True) (fun _ => False) rfl rfl rfl (fun _ h => h.elim) (fun _ _ => trivial) R5.out B5.out B5.out.size (by have := HZL.out; have := HK.out; omega) ?_; intro v2 w2 hR2 hB2 hg2 ha2; have HR2 := Lib.hid hR2; have HB2 := Lib.hid hB2; clear hR2 hB2 hg2 ha2)
            try go_wp2
            go_roundw
            case rel => exact ⟨k + 1, by have := HK.out; omega, by go_num, by rw [HS.out]; exact HR2.out, HB2.out⟩
            case measure => have := HK.out; simp [intOf]; omega
          · obtain rfl : k = 8 := by omega
            clear hk hlt
            have Dx := Lib.hid (D.out.below Bel.out)
            have hmin : min ((W.length : Nat) : Int) 100 = ((W.length : Nat) : Int) := by have := HWL.out; omega
            have HWN := Lib.hid (show waitN L.length W 0 8 = ((W.length : Nat) : Int) by
              unfold waitN
              rw [HSL.out, show spanB 8 0 8 = true from rfl, if_pos rfl, show (8 : Int) = ((8 : Nat) : Int) from rfl, (in_whole (n := 8) (W := W) (fun x hx => ⟨(D.out.d.w64 x hx).2.1, by have h1 := (D.out.d.w64 x hx).2.2; have h2 := HSL.out; omega⟩)).1])
            have hwl : ((W.length : Nat) : Int) ≤ 40 := by have := HWL.out; omega
            go_wp2_with fail
            refine (waiting_any Dx.out.d 0 8 (by have := HWL.out; omega)).mono ?_
            rintro e w6 ⟨rfl, b6⟩
            rw [HWN.out]
            have D6 := Lib.hid (Dx.out.below b6)
            have R6 := Lib.hid (Kd.R_below HR.out b6)
            have LT6 := Lib.hid (show wa.heap.size ≤ w6.heap.size from Nat.le_trans Bel.out.size b6.size)
            obtain ⟨A7, c7, e7⟩ := Kd.R_slice HR.out
            generalize hn7 : (wasL L W 8).length = n7 at e7
            subst e7
            have HN7 := Lib.hid (show n7 = 8 by rw [← hn7]; exact wasL_length L W 8)
            clear hn7 b6
            go_wp2_with fail
            generalize hWn : W.length = n at *
            have HEN := Lib.hid hWn; clear hWn
            go_loopw [11, 53] (fun v11 q wy => ∃ k : Nat, k ≤ n ∧ q = .int .i64 k ∧ Kd.R k52 52 wy w6.heap.size (fun _ => True) v11 (allK k) ∧ Below w6.heap.size w6 wy) (fun _ q _ => n - (intOf q).toNat)
            case atStart => exact ⟨0, by omega, rfl, Kd.R_nil _ _ _ _ _, Below.refl _ _⟩
            case round =>
              obtain ⟨k, hk, rfl, hR, bel⟩ := hrel
              have HR3 := Lib.hid hR; have Bel3 := Lib.hid bel; clear hR bel
              by_cases hlt : k < n
              · have q1 : (0 : Int) ≤ (k : Int) := Int.natCast_nonneg _
                have q2 : (k : Int) < (n : Int) := by omega
                have HS := Lib.hid (allK_succ k)
                have HZL := Lib.hid (allK_length k)
                generalize allK k = Z at *
                go_wp2_with (at_builtin; refine Kd.R_append k52 (w0 := w6) (W := wr) w6.heap.size rfl (.tmp 56) (.tmp 59) 23 52 (.agg #[(.int .i64 0), (.int .i64 0)]) 16 rfl Try.underlying23 info52' rfl (by decide) (by omega) u11 Z ⟨(k : Int), 64⟩ [.int .i64 (k : Int), .int .i64 64] (fun _ => True) (fun _ => False) rfl rfl (k52_mkM _ _ _ ⟨(k : Int), 64⟩) (fun _ h => h.elim) (fun _ _ => trivial) HR3.out Bel3.out Bel3.out.size (by have := HZL.out; omega) ?_; intro v2 w2 hR2 hB2 hg2 ha2; have HR2 := Lib.hid hR2; have HB2 := Lib.hid hB2; clear hR2 hB2 hg2 ha2)
                try go_wp2
                go_roundw
                case rel => exact ⟨k + 1, by omega, by go_num, by rw [HS.out]; exact HR2.out, HB2.out⟩
                case measure => simp [intOf]; omega
              · obtain rfl : n = k := by omega
                clear hlt hk
                obtain ⟨wc, rfl⟩ : ∃ wc : World, wc = wr := ⟨_, rfl⟩
                have D7 := Lib.hid (D6.out.below Bel3.out)
                have R7 := Lib.hid (Kd.R_below R6.out Bel3.out)
                obtain ⟨A11, c11, e11⟩ := Kd.R_slice HR3.out
                have hal := allK_length n
                rw [hal] at e11
                subst e11
                have HAL := Lib.hid hal; clear hal
                go_wp2_with fail
                have hck := crash_ok D7.out.d 0 8 (by rw [HSL.out]; decide) (by have := HWL.out; have := HEN.out; omega) A11 c11 (allK n) (by rw [HAL.out]; omega) (fun W' hf => by
                    have := R_fr HR3.out hf (fun q hq => Nat.lt_of_lt_of_le (HLT.out q hq) LT6.out)
                    exact (Kd.R_reads' this).2.2) (by
                    intro q hq
                    unfold allK at hq
                    obtain ⟨j, hj, rfl⟩ := List.mem_map.1 hq
                    have := List.mem_range.1 hj
                    exact wf_small (a := (j : Int)) (by omega) (by omega))
                rw [HAL.out] at hck
                refine hck.mono ?_
                rintro e w8 ⟨rfl, v8, hd8, hf8, _⟩
                clear hck
                have D8 := Lib.hid (D7.out.fr HWO.out hd8 hf8)
                have R8 := Lib.hid (R_fr R7.out hf8 (fun q hq => HLT.out q hq))
                clear hd8 hf8
                have HEQ := Lib.hid (fun (i : Nat) (hi : i < 8) => (show readF (i : Int) ((crashF L (inF 0 8 W) (allK W.length)).getD i ByteArray.empty) (outF 0 8 W) = readF (i : Int) (L.getD i ByteArray.empty) W from keeps_eq (n := 8) HSL.out D7.out.d.l64 D7.out.d.w64 hi))
                rw [HEN.out] at HEQ
                have HL8 := Lib.hid (show (crashF L (inF 0 8 W) (allK n)).length = 8 by rw [show (crashF L (inF 0 8 W) (allK n)).length = L.length from crashS_len _ _ _]; exact HSL.out)
                generalize crashF L (inF 0 8 W) (allK n) = M at *
                have HOW := Lib.hid (show outF 0 8 W = [] from (in_whole (n := 8) (W := W) (fun x hx => ⟨(D7.out.d.w64 x hx).2.1, by have h1 := (D7.out.d.w64 x hx).2.2; have h2 := HSL.out; omega⟩)).2)
                have HN8 := HN7.out
                subst HN8
                clear hmin hwl
                go_wp2_with fail
                go_loopw [65] (fun q wy => ∃ k : Nat, k ≤ 8 ∧ q = .int .i64 k ∧ Below w8.heap.size w8 wy) (fun q _ => 8 - (intOf q).toNat)
                case atStart => exact ⟨0, by omega, rfl, Below.refl _ _⟩
                case round =>
                  obtain ⟨k, hk, rfl, bel⟩ := hrel
                  have Bel8 := Lib.hid bel; clear bel
                  by_cases hlt : k < 8
                  · have hlt' : (k : Int) < 8 := by omega
                    have q1 : (0 : Int) ≤ (k : Int) := Int.natCast_nonneg _
                    have HK := Lib.hid hlt
                    have Dx := Lib.hid (D8.out.below Bel8.out)
                    have Rx := Lib.hid (Kd.R_below R8.out Bel8.out)
                    clear hk hlt
                    go_wp2_with fail
                    refine (read_ok Dx.out.d k (by rw [HL8.out]; exact HK.out)).mono ?_
                    rintro e w9 ⟨rfl, b9⟩
                    have B9 := Lib.hid (below_two Bel8.out b9)
                    have R9 := Lib.hid (Kd.R_below Rx.out b9)
                    clear b9
                    rw [HEQ.out k HK.out]
                    have hC9 := (Kd.R_reads' (show Kd.R Kd.string 9 w9 wa.heap.size (fun _ => True) (.slice A7 8 c7) (wasL L W 8) from R9.out)).2.2
                    rw [wasL_length] at hC9
                    obtain ⟨b, off, rfl, y0⟩ := at9 hC9 k HK.out
                    clear hC9
                    rw [wasL_get L W HK.out] at y0
                    generalize readF (k : Int) (L.getD k ByteArray.empty) W = y at *
                    go_wp2
                    go_roundw
                    case rel => exact ⟨k + 1, by have := HK.out; omega, by go_num, B9.out⟩
                    case measure => have := HK.out; simp [intOf]; omega
                  · obtain rfl : k = 8 := by omega
                    clear hk hlt
                    go_wp2_with fail
                    refine (torn_any _).mono ?_
                    rintro e w9 ⟨rfl, b9⟩
                    have BF := Lib.hid (D8.out.b.trans ((below_two Bel8.out b9).mono D8.out.b.size))
                    clear b9
                    go_wp2
                    go_ret
                    exact ⟨rfl, BF.out⟩
end Go.Proofs.Ytlodjkmablogcaa.Own
