/- HeaderCodes over numbers and strings alone. -/
import Derived.Test.YtcgmgecdlanolaaEv
import Derived.Test.YtcgmgecdlanolaaPAx13
namespace Go.Proofs.Ytcgmgecdlanolaa.Pu
open Go.RowKit Go.Proofs.YtcgmgecdlanolaaW.PrintWords Go.Proofs.YtcgmgecdlanolaaW.PrintMore Go.Proofs.Ytcgmgecdlanolaa.PA
set_option linter.unusedSimpArgs false
set_option linter.unusedVariables false
theorem u64_id {a : Int} (h0 : 0 ≤ a) (h1 : a < 18446744073709551616) : IntKind.u64.wrap a = a := IntWalk.u64_in _ (by omega)
theorem may_eq (l g t b : Int) : weighlockref11_May.f l g t b = some (decide (1 ≤ l ∧ l ≤ 65535 ∧ 0 ≤ b ∧ b ≤ 1099511627776)) := by
  unfold weighlockref11_May.f
  by_cases h1 : l ≥ 1
  · rw [if_pos h1]
    by_cases h2 : l ≤ 65535
    · rw [if_pos h2]
      by_cases h3 : b ≥ 0
      · rw [if_pos h3]
        by_cases h4 : b ≤ 1099511627776
        · rw [decide_eq_true h4, decide_eq_true ⟨h1, h2, h3, h4⟩]
        · rw [decide_eq_false h4, decide_eq_false (fun h => h4 h.2.2.2)]
      · rw [if_neg h3, decide_eq_false (fun h => h3 h.2.2.1)]
    · rw [if_neg h2, decide_eq_false (fun h => h2 h.2.1)]
  · rw [if_neg h1, decide_eq_false (fun h => h1 h.1)]
theorem fix_eq (v n : Nat) (h : v < 18446744073709551616) (hn : n ≤ 8) : weighlockref01_Fixed.f (IntKind.u64.wrap (v : Int)) (n : Int) = some (Own.sB (Own.fixL n v)) := by
  unfold weighlockref01_Fixed.f
  rw [u64_id (by omega) (by omega), if_pos ⟨by omega, by omega, by omega, by omega⟩]
  simp only [Int.toNat_natCast]
theorem head_len (l g t b : Nat) : (Own.headL l g t b).length = 28 := by simp [Own.headL, Own.bodyL, Own.fixL_length]
theorem crc_eq (h : List UInt8) (hh : h.length = 28) : weighlockref02_Crc.f 0 (Own.sB h) = some (((Own.crc 0#32 h).toNat : Nat) : Int) := by
  unfold weighlockref02_Crc.f
  rw [if_pos ⟨rfl, by rw [Own.sB_size, hh]; unfold maxLen; omega⟩, Own.sB_list]
  generalize Own.crc 0#32 h = c
  rfl
theorem fix2 (v : Nat) (h : v < 18446744073709551616) : weighlockref01_Fixed.f (IntKind.u64.wrap (v : Int)) 2 = some (Own.sB (Own.fixL 2 v)) := fix_eq v 2 h (by omega)
theorem fix4 (v : Nat) (h : v < 18446744073709551616) : weighlockref01_Fixed.f (IntKind.u64.wrap (v : Int)) 4 = some (Own.sB (Own.fixL 4 v)) := fix_eq v 4 h (by omega)
theorem fix8 (v : Nat) (h : v < 18446744073709551616) : weighlockref01_Fixed.f (IntKind.u64.wrap (v : Int)) 8 = some (Own.sB (Own.fixL 8 v)) := fix_eq v 8 h (by omega)
theorem zeros8 : strOfNums (List.replicate 8 0 : List Int) = Own.sB [0, 0, 0, 0, 0, 0, 0, 0] := rfl
theorem ws2 : (⟨#[87, 83]⟩ : ByteArray) = Own.sB [87, 83] := rfl
theorem enc_eq (l g t b : Nat) (hl : l ≤ 65535) (hg : g < 4294967296) (ht : t < 4294967296) (hb : b ≤ 1099511627776) : weighlockref11_Encode.f (l : Int) (g : Int) (t : Int) (b : Int) = some (Own.sB (Own.encL l g t b)) := by
  have f2 := fix2 l (by omega)
  have f4 := fix4 g (by omega)
  have f4' := fix4 t (by omega)
  have f8 := fix8 b (by omega)
  have hh := head_len l g t b
  have hc := crc_eq (Own.headL l g t b) hh
  have hlt := (Own.crc 0#32 (Own.headL l g t b)).isLt
  have f4c := fix4 (Own.crc 0#32 (Own.headL l g t b)).toNat (by omega)
  have hh2 : Own.headL l g t b = ((((([87, 83] : List UInt8) ++ Own.fixL 2 l) ++ Own.fixL 4 g) ++ Own.fixL 4 t) ++ Own.fixL 8 b) ++ [0, 0, 0, 0, 0, 0, 0, 0] := by unfold Own.headL Own.bodyL; rfl
  have he : Own.encL l g t b = Own.headL l g t b ++ Own.fixL 4 (Own.crc 0#32 (Own.headL l g t b)).toNat := by unfold Own.encL; rfl
  rw [he]
  generalize (Own.crc 0#32 (Own.headL l g t b)).toNat = cc at *
  have n2 := Own.fixL_length 2 l
  have n4 := Own.fixL_length 4 g
  have n4' := Own.fixL_length 4 t
  have n8 := Own.fixL_length 8 b
  have n4c := Own.fixL_length 4 cc
  generalize Own.fixL 2 l = F2 at *
  generalize Own.fixL 4 g = F4 at *
  generalize Own.fixL 4 t = F4' at *
  generalize Own.fixL 8 b = F8 at *
  generalize Own.fixL 4 cc = F4c at *
  generalize Own.headL l g t b = H at *
  have w2 : (⟨#[87, 83]⟩ : ByteArray).size = 2 := rfl
  have z8 : (strOfNums (List.replicate 8 0 : List Int)).size = 8 := rfl
  have two : ([87, 83] : List UInt8).length = 2 := rfl
  have ei : ([0, 0, 0, 0, 0, 0, 0, 0] : List UInt8).length = 8 := rfl
  have key : Ev (fun _ : Nat => weighlockref11_Encode.f (l : Int) (g : Int) (t : Int) (b : Int)) (Own.sB (H ++ F4c)) := by
    unfold weighlockref11_Encode.f
    refine Ev.bind (Ev.cst f2) (Ev.pos ?_ (Ev.bind (Ev.cst f4) (Ev.pos ?_ (Ev.bind (Ev.cst f4') (Ev.pos ?_ (Ev.bind (Ev.cst f8) (Ev.pos ?_ (Ev.pos ?_ (Ev.bind (Ev.now _) (Ev.pos ?_ (Ev.bind (Ev.cst (show _ = some (cc : Int) from ?_)) (Ev.bind (Ev.cst f4c) (Ev.pos ?_ (Ev.get (Ev.now _) ?_))))))))))))))
    · rw [Own.sB_size]; omega
    · rw [ByteArray.size_append, w2, Own.sB_size, Own.sB_size]; omega
    · simp only [ByteArray.size_append, w2, Own.sB_size]; omega
    · simp only [ByteArray.size_append, w2, Own.sB_size]; omega
    · omega
    · simp only [ByteArray.size_append, w2, z8, Own.sB_size]; omega
    · rw [ws2, zeros8]; simp only [Own.sB_append]; rw [← hh2]; exact hc
    · simp only [ByteArray.size_append, w2, z8, Own.sB_size]; omega
    · rw [ws2, zeros8]; simp only [Own.sB_append]; rw [← hh2]
  obtain ⟨k, hk⟩ := Ev.rounds key
  exact hk
theorem rd_eq (s : ByteArray) (a b : Nat) (hb : b ≤ s.size) (h8 : b - a ≤ 8) : weighlockref01_Read.f (s.extract a b) = some ((Own.pt s a b : Nat) : Int) := by
  unfold weighlockref01_Read.f
  rw [if_pos (by rw [ByteArray.size_extract]; omega), Own.ext_list]
  rfl
theorem str_iff (l : List UInt8) (s : ByteArray) : ((Own.sB l).toList = (s.extract 0 32).toList) = (l = s.data.toList.take 32) := by
  rw [Go.ByteArray.toList_eq, Go.ByteArray.toList_eq, Own.sB_list, Own.ext_list, List.drop_zero]
theorem dec_eq (s : ByteArray) (hs : s.size ≤ 200) : weighlockref11_Decode.f s = header_Decode.f s := by
  unfold weighlockref11_Decode.f header_Decode.f
  have hm : s.size ≤ maxLen := by unfold maxLen; omega
  rw [if_pos hm]
  by_cases h1 : s.size < 32
  · rw [if_pos h1, if_pos (by omega)]
  · have p1 := Own.pt_lt s 2 4
    have p2 := Own.pt_lt s 4 8
    have p3 := Own.pt_lt s 8 12
    have p4 := Own.pt_lt s 12 20
    rw [show 256 ^ (4 - 2) = 65536 by decide] at p1
    rw [show 256 ^ (8 - 4) = 4294967296 by decide] at p2
    rw [show 256 ^ (12 - 8) = 4294967296 by decide] at p3
    rw [if_neg h1, if_neg (show ¬ (s.size : Int) < 32 by omega), if_pos (by decide), if_pos (by omega), rd_eq s 12 20 (by omega) (by omega), Option.bind_some]
    by_cases hb : Own.pt s 12 20 ≤ 1099511627776
    · rw [if_neg (by omega), if_pos (by decide), if_pos (by omega), rd_eq s 2 4 (by omega) (by omega), Option.bind_some, if_pos (by decide), if_pos (by omega), rd_eq s 4 8 (by omega) (by omega), Option.bind_some, if_pos (by decide), if_pos (by omega), rd_eq s 8 12 (by omega) (by omega), Option.bind_some]
      rw [wrap_id (a := ((Own.pt s 2 4 : Nat) : Int)) (by omega) (by omega), wrap_id (a := ((Own.pt s 12 20 : Nat) : Int)) (by omega) (by omega), show ((Own.pt s 4 8 : Nat) : Int) % 4294967296 = ((Own.pt s 4 8 : Nat) : Int) by omega, show ((Own.pt s 8 12 : Nat) : Int) % 4294967296 = ((Own.pt s 8 12 : Nat) : Int) by omega, may_eq, Option.bind_some]
      by_cases h0 : 1 ≤ Own.pt s 2 4
      · rw [if_pos (by simp; omega), enc_eq _ _ _ _ (by omega) p2 p3 hb, Option.bind_some, if_pos (by decide), if_pos (by omega)]
        simp only [str_iff]
        by_cases he : Own.encL (Own.pt s 2 4) (Own.pt s 4 8) (Own.pt s 8 12) (Own.pt s 12 20) = s.data.toList.take 32
        · rw [if_pos he, if_pos ⟨hb, h0, he⟩]
        · rw [if_neg he, if_neg (fun h => he h.2.2)]
      · rw [if_neg (by simp; omega), if_neg (fun h => h0 h.2.1)]
    · rw [if_pos (by omega), if_neg (fun h => hb h.1)]
theorem codes_ev (l g t b : Int) (s : ByteArray) (hg0 : 0 ≤ g) (hg : g < 4294967296) (ht0 : 0 ≤ t) (ht : t < 4294967296) : Ev (fun k => weighlocklaw11_HeaderCodes.f k l g t b s) true := by
  have one : weighlocklaw11_one.f = some true := rfl
  unfold weighlocklaw11_HeaderCodes.f
  by_cases h : (s.size : Int) > 200
  · exact Ev.pos h (Ev.cst rfl)
  refine Ev.neg h ?_
  have hs : s.size ≤ 200 := by omega
  have hm : s.size ≤ maxLen := by unfold maxLen; omega
  rw [dec_eq s hs]
  obtain ⟨q, hq⟩ : ∃ q, header_Decode.f s = some q := ⟨_, if_pos hm⟩
  obtain ⟨q1, q2, q3, q4, q5⟩ := q
  rw [hq]
  simp only [Option.bind_some, weighlocklaw11_ref.f]
  refine Ev.pos (by first | rfl | trivial) ?_
  rw [show (!(q1 == q1) || (!(q2 == q2) || (!(q3 == q3) || (!(q4 == q4))))) = false by simp]
  refine Ev.step (fun k => weighlocklaw11_HeaderCodes.j0.eq_2 ..) (Ev.neg (by decide) (Ev.cst ?_))
  simp only [weighlocklaw11_ref.f, Option.bind_some, may_eq, one]
  unfold header_Encode.f
  rw [if_pos ⟨hg0, hg, ht0, ht⟩, Option.bind_some]
  by_cases hc : 1 ≤ l ∧ l ≤ 65535 ∧ 0 ≤ b ∧ b ≤ 1099511627776
  · rw [if_pos hc, if_pos (by simpa using hc)]
    obtain ⟨n0, rfl⟩ := Int.eq_ofNat_of_zero_le (show 0 ≤ l by omega)
    obtain ⟨n1, rfl⟩ := Int.eq_ofNat_of_zero_le hg0
    obtain ⟨n2, rfl⟩ := Int.eq_ofNat_of_zero_le ht0
    obtain ⟨n3, rfl⟩ := Int.eq_ofNat_of_zero_le hc.2.2.1
    simp only [Int.toNat_natCast]
    have hlen := Own.encL_length n0 n1 n2 n3
    have hb2 : (Own.sB (Own.encL n0 n1 n2 n3) ++ s).data.toList = Own.encL n0 n1 n2 n3 ++ s.data.toList := by rw [ByteArray.data_append, Array.toList_append, Own.sB_list]
    obtain ⟨e1, e2, e3, e4, e5, e6⟩ := Own.enc_parts hb2 (by omega) (by omega) (by omega) (by omega)
    have hd : header_Decode.f (Own.sB (Own.encL n0 n1 n2 n3) ++ s) = some ((n0 : Int), (n1 : Int), (n2 : Int), (n3 : Int), 0) := by
      unfold header_Decode.f
      rw [if_pos (by rw [ByteArray.size_append, Own.sB_size, hlen]; unfold maxLen; omega), if_neg (by omega), if_pos ⟨by rw [e4]; omega, by rw [e1]; omega, by rw [e1, e2, e3, e4]; exact e6⟩, e1, e2, e3, e4]
    rw [if_pos (by rw [Own.sB_size, hlen]; omega), hd, Option.bind_some, if_pos rfl, enc_eq n0 n1 n2 n3 (by omega) (by omega) (by omega) (by omega), Option.bind_some, if_pos rfl, if_pos trivial, if_pos (by simp)]
  · rw [if_neg hc, if_neg (by simpa using hc), if_pos rfl, if_pos ((str_nil _).2 rfl)]
end Go.Proofs.Ytcgmgecdlanolaa.Pu
