/- The walk of PartPieces. -/
import Derived.Test.YtmkipdleggkkkaaPD
namespace Go.Proofs.Ytmkipdleggkkkaa.Own
open Go.RowKit Go.Proofs.YtmkipdleggkkkaaW.PrintWords Go.Proofs.YtmkipdleggkkkaaW.PrintLast Go.Proofs.YtmkipdleggkkkaaW.PrintMore
set_option maxRecDepth 100000
set_option linter.unusedSimpArgs false
set_option linter.unusedVariables false
set_option maxHeartbeats 2000000 in
theorem pieces_any (A : Option Addr) (c : Nat) (xs : List PB.S45) (cut : Int) (w : World) (hr : Kd.C PB.k45 w A xs.length xs) (hc : xs.length ≤ c) :
    Calls Try.prog 3 #[.slice A xs.length c, .int .i64 cut] w fun e w' => e = .returned (.bool true) ∧ Below w.heap.size w w' := by
  have HR := Lib.hid hr; clear hr
  go_enter Try.func3, Try.ntmps3
  by_cases h1 : (xs.length : Int) > 30
  · have e1 : decide ((xs.length : Int) > 30) = true := decide_eq_true h1
    have e2 : (30 : Int) < (xs.length : Int) := h1
    have e3 : 30 < xs.length := by omega
    go_wp2_with fail
    refine (gap_any _).mono ?_
    rintro e w2 ⟨rfl, b2⟩
    go_wp2
    go_ret
    exact ⟨rfl, b2⟩
  have e1 : decide ((xs.length : Int) > 30) = false := decide_eq_false h1
  have e2 : ¬ (30 : Int) < (xs.length : Int) := h1
  have e3 : ¬ 30 < xs.length := by omega
  have E3 := Lib.hid e3
  by_cases h2 : cut < 0
  · have e4 : decide (cut < 0) = true := decide_eq_true h2
    go_wp2_with fail
    refine (gap_any _).mono ?_
    rintro e w2 ⟨rfl, b2⟩
    go_wp2
    go_ret
    exact ⟨rfl, b2⟩
  have e4 : decide (cut < 0) = false := decide_eq_false h2
  by_cases h3 : cut > (xs.length : Int)
  · have e5 : decide (cut > (xs.length : Int)) = true := decide_eq_true h3
    have e6 : (xs.length : Int) < cut := h3
    go_wp2_with fail
    refine (gap_any _).mono ?_
    rintro e w2 ⟨rfl, b2⟩
    go_wp2
    go_ret
    exact ⟨rfl, b2⟩
  have e5 : decide (cut > (xs.length : Int)) = false := decide_eq_false h3
  have e6 : ¬ (xs.length : Int) < cut := h3
  obtain ⟨m, rfl⟩ := Int.eq_ofNat_of_zero_le (show 0 ≤ cut by omega)
  have hm : m ≤ xs.length := by omega
  have HM := Lib.hid hm; clear hm
  go_wp2_with fail
  refine (new_any w.heap.size _ (Nat.le_refl _)).mono ?_
  rintro e w1 ⟨ga, rfl, hga, hpa, b1⟩
  have GA := Lib.hid (show w.heap.size ≤ ga by omega); clear hga
  have PA1 := Lib.hid hpa
  have GL1 := Lib.hid (blk_lt hpa.blk); clear hpa
  have B1 := Lib.hid b1; clear b1
  go_wp2_with fail
  refine (new_any w.heap.size _ B1.out.size).mono ?_
  rintro e w2 ⟨gb, rfl, hgb, hpb, b2⟩
  have GB := Lib.hid (show ga < gb by have := GL1.out; omega); clear hgb
  have PB2 := Lib.hid hpb
  have GL2 := Lib.hid (blk_lt hpb.blk); clear hpb
  have PA2 := Lib.hid (PA1.out.below b2)
  have B2 := Lib.hid (below_two B1.out b2); clear b2 PA1 GL1 B1
  by_cases hbad : decide (∃ x ∈ xs, PuB.mayB x = false) = true
  · have HB := Lib.hid hbad; clear hbad
    go_wp2_with fail
    refine (append_bad w.heap.size ga _ [] 0 0 0 A c xs _ PA2.out (Kd.C_below HR.out B2.out) hc (by have := E3.out; omega) HB.out).mono ?_
    rintro e w3 ⟨rfl, b3⟩
    have B3 := Lib.hid (below_two B2.out b3); clear b3
    go_wp2_with fail
    refine (gap_any _).mono ?_
    rintro e w4 ⟨rfl, b4⟩
    have B4 := Lib.hid (below_two B3.out b4); clear b4
    go_wp2
    go_ret
    exact ⟨rfl, B4.out⟩
  have HB := Lib.hid (show decide (∃ x ∈ xs, PuB.mayB x = false) = false by simpa using hbad); clear hbad
  cases hrise : riseB xs 0 with
  | false =>
    have HI := Lib.hid hrise; clear hrise
    go_wp2_with fail
    refine (append_low w.heap.size ga _ [] 0 0 0 A c xs _ PA2.out (Kd.C_below HR.out B2.out) hc (by have := E3.out; omega) HB.out HI.out).mono ?_
    rintro e w3 ⟨rfl, b3⟩
    have B3 := Lib.hid (below_two B2.out b3); clear b3
    go_wp2_with fail
    refine (gap_any _).mono ?_
    rintro e w4 ⟨rfl, b4⟩
    have B4 := Lib.hid (below_two B3.out b4); clear b4
    go_wp2
    go_ret
    exact ⟨rfl, B4.out⟩
  | true =>
    have HI := Lib.hid hrise; clear hrise
    go_wp2_with fail
    refine (append_ok w.heap.size ga _ [] 0 0 0 A c xs _ PA2.out (Kd.C_below HR.out B2.out) hc (by have := E3.out; omega) (by simp) (sep_of (w1 := w) HR.out GA.out (by simp [Value.ownBlock])) HB.out HI.out).mono ?_
    rintro e w3 ⟨rfl, va, hp3, hf3, ho3⟩
    rw [List.nil_append] at hp3
    have VA := Lib.hid (show ∀ b, va.ownBlock = some b → w2.heap.size ≤ b ∧ b < w3.heap.size from fun b hb => by
      refine ⟨?_, hp3.own_lt hb⟩
      rcases ho3 with o | ⟨b2, o, h⟩
      · rw [o] at hb; simp [Value.ownBlock] at hb
      · rw [o] at hb; injection hb with hb; omega)
    have PB3 := Lib.hid (PB2.out.other hf3 (by have := GB.out; omega) (by simp [Value.ownBlock]) (by simp [Value.ownBlock]))
    have PA3 := Lib.hid hp3; clear hp3
    have B3 := Lib.hid (hf3.toBelow B2.out GA.out (by simp [Value.ownBlock]))
    have SZ3 := Lib.hid hf3.size
    clear hf3 ho3
    -- the first piece
    have hall := (nobad_iff xs).1 HB.out
    have htk := (nobad_iff (xs.take m)).2 (fun x hx => hall x (List.mem_of_mem_take hx))
    have hdr := (nobad_iff (xs.drop m)).2 (fun x hx => hall x (List.mem_of_mem_drop hx))
    have hri := HI.out
    rw [← List.take_append_drop m xs, riseB_append, Bool.and_eq_true] at hri
    have hnx : nxt (xs.drop m) (nxt (xs.take m) 0) = nxt xs 0 := by rw [← nxt_append, List.take_append_drop]
    have hlt : (xs.take m).length = m := by rw [List.length_take]; have := HM.out; omega
    have hld : (xs.drop m).length = xs.length - m := List.length_drop
    have hC1 := Kd.C_take (m := m) HR.out HM.out
    have hC2 := Kd.C_drop (m := m) HR.out HM.out hc
    have htd : xs.take m ++ xs.drop m = xs := List.take_append_drop m xs
    obtain ⟨i0, hi, hz⟩ := Option.map_eq_some_iff.1 info45
    have hz8 : i0.size = 8 := by simp only [Prod.mk.injEq] at hz; exact hz.2.1
    have kc1 := cut_to (P := Try.prog) 22 45 .i64 Try.underlying22 hi A xs.length c (m : Int) (by omega) (by have := HM.out; omega) hc
    have kc2 := cut_from (P := Try.prog) 22 45 .i64 Try.underlying22 hi 8 hz8 A xs.length c (m : Int) (by omega) (by have := HM.out; omega)
    rw [Int.toNat_natCast] at kc1 kc2
    obtain ⟨A2, hA2⟩ : ∃ A2, A2 = (if c = m then A else A.map (·.add (m * 8))) := ⟨_, rfl⟩
    have hA3 : (if c = m then A else A.map (·.add (m * PB.k45.sz))) = A2 := hA2.symm
    rw [hA3] at hC2
    rw [← hA2] at kc2
    rw [← hld] at kc2
    have hcm : (xs.drop m).length ≤ c - m := by omega
    have hcm1 : (xs.take m).length ≤ c := by have := HM.out; omega
    have hl6 : (xs.take m).length ≤ 60000 := by have := E3.out; have := HM.out; omega
    have hl7 : (xs.drop m).length ≤ 60000 := by have := E3.out; omega
    rw [← hlt] at kc1
    generalize c - m = c2 at *
    generalize hxa : xs.take m = xa at *
    generalize hxb : xs.drop m = xb at *
    have HC1 := Lib.hid hC1
    have HC2 := Lib.hid hC2
    have HTK := Lib.hid htk
    have HDR := Lib.hid hdr
    have HRI := Lib.hid hri
    have HNX := Lib.hid hnx
    have HTD := Lib.hid htd
    have HLT := Lib.hid hlt
    clear hall htk hdr hri hnx hlt hld hC1 hC2 htd hz hA2 hA3 hxa hxb
    go_wp2_with fail
    have T4 := append_ok w.heap.size gb _ [] 0 0 0 A c xa _ PB3.out (Kd.C_below HC1.out B3.out) hcm1 hl6 (by simp) (sep_of (w := w) (w1 := w) HC1.out (by have := GA.out; have := GB.out; omega) (by simp [Value.ownBlock])) HTK.out HRI.out.1
    rw [HLT.out] at T4
    refine T4.mono ?_
    clear T4
    rintro e w4 ⟨rfl, vb, hp4, hf4, ho4⟩
    rw [List.nil_append] at hp4
    have VB := Lib.hid (show ∀ b, vb.ownBlock = some b → w3.heap.size ≤ b from fun b hb => by
      rcases ho4 with o | ⟨b2, o, h⟩
      · rw [o] at hb; simp [Value.ownBlock] at hb
      · rw [o] at hb; injection hb with hb; omega)
    have PA4 := Lib.hid (PA3.out.other hf4 (by have := GB.out; omega) (by simp [Value.ownBlock]) (fun b hb => ⟨by have := (VA.out b hb).1; have := GL2.out; omega, by simp [Value.ownBlock]⟩))
    have PB4 := Lib.hid hp4; clear hp4
    have B4 := Lib.hid (hf4.toBelow B3.out (by have := GA.out; have := GB.out; omega) (by simp [Value.ownBlock]))
    have SZ4 := Lib.hid hf4.size
    clear hf4 ho4
    go_wp2_with fail
    refine (append_ok w.heap.size gb vb xa 0 (nxt xa 0) 0 A2 c2 xb _ PB4.out (Kd.C_below HC2.out B4.out) hcm hl7 hl6 (sep_of (w := w) (w1 := w) HC2.out (by have := GA.out; have := GB.out; omega) (fun b hb => by have := VB.out b hb; have := B3.out.size; omega)) HDR.out HRI.out.2).mono ?_
    rintro e w5 ⟨rfl, vc, hp5, hf5, ho5⟩
    rw [HTD.out, HNX.out] at hp5
    have VC := Lib.hid (show ∀ b, vc.ownBlock = some b → w3.heap.size ≤ b from fun b hb => by
      rcases ho5 with o | ⟨b2, o, h⟩
      · rw [o] at hb; exact VB.out b hb
      · rw [o] at hb; injection hb with hb; have := SZ4.out; omega)
    have PA5 := Lib.hid (PA4.out.other hf5 (by have := GB.out; omega) (fun e => by have := VB.out _ e.symm; have := blk_lt PA3.out.blk; omega) (fun b hb => ⟨by have := (VA.out b hb).1; have := GL2.out; omega, fun e => by have := VB.out _ e.symm; have := (VA.out b hb).2; omega⟩))
    have PB5 := Lib.hid hp5; clear hp5
    have B5 := Lib.hid (hf5.toBelow B4.out (by have := GA.out; have := GB.out; omega) (fun b hb => by have := VB.out b hb; have := B3.out.size; omega))
    clear hf5 ho5 kc1 kc2
    have NA := Lib.hid (show ga ≠ gb by have := GB.out; omega)
    have NB := Lib.hid (show some gb ≠ va.ownBlock from fun e => by have := (VA.out _ e.symm).1; have := GL2.out; omega)
    have NC := Lib.hid (show some ga ≠ vc.ownBlock from fun e => by have := VC.out _ e.symm; have := blk_lt PA3.out.blk; omega)
    have ND := Lib.hid (show ∀ b, va.ownBlock = some b → b ≠ gb ∧ some b ≠ vc.ownBlock from fun b hb => ⟨by have := (VA.out b hb).1; have := GL2.out; omega, fun e => by have := VC.out _ e.symm; have := (VA.out b hb).2; omega⟩)
    have NE := Lib.hid (show ∀ b, vc.ownBlock = some b → b ≠ ga ∧ some b ≠ va.ownBlock from fun b hb => ⟨by have := VC.out b hb; have := blk_lt PA3.out.blk; omega, fun e => (ND.out b e.symm).2 hb.symm⟩)
    have OA := Lib.hid (show ∀ b, va.ownBlock = some b → w.heap.size ≤ b from fun b hb => ((Kd.R_bound PA5.out.row).1 b hb).2.1)
    have OC := Lib.hid (show ∀ b, vc.ownBlock = some b → w.heap.size ≤ b from fun b hb => ((Kd.R_bound PB5.out.row).1 b hb).2.1)
    clear PA2 PA3 PA4 PB2 PB3 PB4 B2 B3 B4 VA VB VC HC1 HC2 HTK HDR HRI HNX HTD HLT SZ3 SZ4 HB HI hcm hcm1 hl6 hl7 hi
    go_wp2_with fail
    refine (mark_any PA5.out).mono ?_
    rintro e w6 ⟨rfl, hp6, hf6⟩
    have PA6 := Lib.hid hp6; clear hp6
    have PB6 := Lib.hid (PB5.out.other hf6 NA.out.symm NB.out NE.out)
    have B6 := Lib.hid (hf6.toBelow B5.out GA.out OA.out); clear hf6
    go_wp2_with fail
    refine (mark_any PB6.out).mono ?_
    rintro e w7 ⟨rfl, hp7, hf7⟩
    have PB7 := Lib.hid hp7; clear hp7
    have PA7 := Lib.hid (PA6.out.other hf7 NA.out NC.out ND.out)
    have B7 := Lib.hid (hf7.toBelow B6.out (by have := GA.out; have := GB.out; omega) OC.out); clear hf7
    clear PA5 PA6 PB5 PB6 B5 B6
    go_wp2_with fail
    refine (all_any PA7.out (by have := E3.out; omega)).mono ?_
    rintro e w8 ⟨u1, rfl, hR1, b8⟩
    obtain ⟨A8, c8, rfl⟩ := Kd.R_slice hR1
    have C8 := Lib.hid (Kd.R_reads' hR1).2.2; clear hR1
    have PA8 := Lib.hid (PA7.out.below b8)
    have PB8 := Lib.hid (PB7.out.below b8)
    have B8 := Lib.hid (below_two B7.out b8); clear b8
    go_wp2_with fail
    refine (all_any PB8.out (by have := E3.out; omega)).mono ?_
    rintro e w9 ⟨u2, rfl, hR2, b9⟩
    obtain ⟨A9, c9, rfl⟩ := Kd.R_slice hR2
    have C9 := Lib.hid (Kd.R_reads' hR2).2.2; clear hR2
    have C8b := Lib.hid (Kd.C_below C8.out b9)
    have PA9 := Lib.hid (PA8.out.below b9)
    have PB9 := Lib.hid (PB8.out.below b9)
    have B9 := Lib.hid (below_two B8.out b9); clear b9 C8 PA7 PB7 PA8 PB8 B7 B8
    go_wp2_with fail
    refine (Sm.same_any A8 c8 xs A9 c9 xs _ C8b.out C9.out).mono ?_
    rintro e wa ⟨rfl, ba⟩
    rw [Sm.sameB_refl]
    have PAa := Lib.hid (PA9.out.below ba)
    have PBa := Lib.hid (PB9.out.below ba)
    have Ba := Lib.hid (below_two B9.out ba); clear ba C8b C9 PA9 PB9 B9
    go_wp2_with fail
    refine (next_any PAa.out).mono ?_
    rintro e wb ⟨rfl, bel⟩
    have PAb := Lib.hid (PAa.out.below bel)
    have PBb := Lib.hid (PBa.out.below bel)
    have Bb := Lib.hid (below_two Ba.out bel); clear bel PAa PBa Ba
    go_wp2_with fail
    refine (next_any PBb.out).mono ?_
    rintro e wc ⟨rfl, bel⟩
    have PAc := Lib.hid (PAb.out.below bel)
    have PBc := Lib.hid (PBb.out.below bel)
    have Bc := Lib.hid (below_two Bb.out bel); clear bel PAb PBb Bb
    go_wp2_with fail
    refine (seen_any PAc.out).mono ?_
    rintro e wd ⟨rfl, bel⟩
    have PAd := Lib.hid (PAc.out.below bel)
    have PBd := Lib.hid (PBc.out.below bel)
    have Bd := Lib.hid (below_two Bc.out bel); clear bel PAc PBc Bc
    go_wp2_with fail
    refine (seen_any PBd.out).mono ?_
    rintro e we ⟨rfl, bel⟩
    have PAe := Lib.hid (PAd.out.below bel)
    have PBe := Lib.hid (PBd.out.below bel)
    have Be := Lib.hid (below_two Bd.out bel); clear bel PAd PBd Bd
    go_wp2_with fail
    refine (bytes_any PAe.out (by have := E3.out; omega)).mono ?_
    rintro e wf ⟨rfl, bel⟩
    have PAf := Lib.hid (PAe.out.below bel)
    have PBf := Lib.hid (PBe.out.below bel)
    have Bf := Lib.hid (below_two Be.out bel); clear bel PAe PBe Be
    go_wp2_with fail
    refine (bytes_any PBf.out (by have := E3.out; omega)).mono ?_
    rintro e wg ⟨rfl, bel⟩
    have PAg := Lib.hid (PAf.out.below bel)
    have PBg := Lib.hid (PBf.out.below bel)
    have Bg := Lib.hid (below_two Bf.out bel); clear bel PAf PBf Bf
    go_wp2_with fail
    refine (gap_any _).mono ?_
    rintro e wh ⟨rfl, bh⟩
    have Bh := Lib.hid (below_two Bg.out bh); clear bh
    go_wp2
    go_ret
    exact ⟨rfl, Bh.out⟩
end Go.Proofs.Ytmkipdleggkkkaa.Own
