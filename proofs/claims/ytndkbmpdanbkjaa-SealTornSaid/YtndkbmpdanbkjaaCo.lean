/- What the callees of the two laws tell, over lists of bytes. -/
import Derived.Test.YtndkbmpdanbkjaaEv
import Derived.Test.YtndkbmpdanbkjaaPAx1
import Derived.Test.YtndkbmpdanbkjaaBx
namespace Go.Proofs.Ytndkbmpdanbkjaa.Own
open Go.RowKit Go.Proofs.YtndkbmpdanbkjaaW.PrintWords Go.Proofs.Ytndkbmpdanbkjaa.PA Go.Proofs.Ytndkbmpdanbkjaa.Pu
set_option maxRecDepth 100000
set_option linter.unusedSimpArgs false
set_option linter.unusedVariables false
theorem ext_list (s : ByteArray) (a b : Nat) : (s.extract a b).data.toList = (s.data.toList.drop a).take (b - a) := by
  rw [ByteArray.data_extract, Array.toList_extract, List.extract_eq_take_drop]
theorem ext_sB (L : List UInt8) (a b : Nat) : (sB L).extract a b = sB ((L.drop a).take (b - a)) := by
  rw [← sB_of ((sB L).extract a b), ext_list, sB_list]
theorem sB_eqB (L M : List UInt8) : ((sB L).toList = (sB M).toList) ↔ L = M := by rw [Go.ByteArray.toList_eq, Go.ByteArray.toList_eq, sB_list, sB_list]
theorem sB_toList (L : List UInt8) : (sB L).toList = L := by rw [Go.ByteArray.toList_eq, sB_list]
theorem read_f (L : List UInt8) (h1 : 1 ≤ L.length) (h8 : L.length ≤ 8) : nums_Read.f (sB L) = some (((readL L : Nat) : Int), 0) := by
  unfold nums_Read.f; rw [if_pos (by rw [sB_size]; omega), sB_list]
theorem rread_f (L : List UInt8) (h8 : L.length ≤ 8) : weighlockref01_Read.f (sB L) = some ((readL L : Nat) : Int) := by
  unfold weighlockref01_Read.f; rw [if_pos (by rw [sB_size]; omega), sB_list]
theorem lt2 (L : List UInt8) : readL ((L.drop 4).take 2) < 65536 := by
  refine Nat.lt_of_lt_of_le (readL_lt _) ?_
  exact Nat.pow_le_pow_right (show 0 < 256 by decide) (show ((L.drop 4).take 2).length ≤ 2 by rw [List.length_take]; omega)
theorem lt4 (L : List UInt8) : readL (L.take 4) < 4294967296 := by
  refine Nat.lt_of_lt_of_le (readL_lt _) ?_
  exact Nat.pow_le_pow_right (show 0 < 256 by decide) (show (L.take 4).length ≤ 4 by rw [List.length_take]; omega)
theorem open_f (L : List UInt8) (hL : L.length ≤ 9223372036854775807) :
    (okL L → Ev (fun k => seal_Open.f k (sB L)) ((readL (L.take 4) : Nat), (readL ((L.drop 4).take 2) : Nat), sB ((L.drop 6).take 52), 0)) ∧ (¬ okL L → Ev (fun k => seal_Open.f k (sB L)) (0, 0, ⟨#[]⟩, 4)) := by
  have hz := sB_size L
  unfold seal_Open.f
  by_cases h64 : L.length = 64
  · have e6 : (sB L).extract 0 6 = sB (L.take 6) := by rw [ext_sB]; rfl
    have e58 : (sB L).extract 58 (sB L).size = sB (L.drop 58) := by rw [ext_sB, hz, List.take_of_length_le (by rw [List.length_drop]; omega)]
    have r4 := read_f (L.take 4) (by rw [List.length_take]; omega) (by rw [List.length_take]; omega)
    have r2 := read_f ((L.drop 4).take 2) (by rw [List.length_take, List.length_drop]; omega) (by rw [List.length_take]; omega)
    have x4 : (sB L).extract 0 4 = sB (L.take 4) := by rw [ext_sB]; rfl
    have x2 : (sB L).extract 4 6 = sB ((L.drop 4).take 2) := by rw [ext_sB]
    have x52 : (sB L).extract 6 58 = sB ((L.drop 6).take 52) := by rw [ext_sB]
    rw [e6, e58, sB_toList, sB_toList]
    by_cases h6 : L.take 6 = L.drop 58
    · have hb : (L.take 6 != L.drop 58) = false := by rw [bne_eq_false_iff_eq]; exact h6
      rw [hb]
      have step : ∀ r, Ev (fun k => if ((readL ((L.drop 4).take 2) : Nat) : Int) = 0 then some ((0 : Int), (0 : Int), (⟨#[]⟩ : ByteArray), (4 : Int)) else some (((readL (L.take 4) : Nat) : Int) % 4294967296, wrap64 ((readL ((L.drop 4).take 2) : Nat) : Int), sB ((L.drop 6).take 52), (0 : Int))) r →
          Ev (fun k => if ((sB L).size : Int) = 64 then (if (0 : Int) ≤ 6 then (if 6 ≤ ((sB L).size : Int) then (if 58 ≤ ((sB L).size : Int) then (seal_Open.j0 k (sB L) false) else none) else none) else none) else (seal_Open.j0 k (sB L) true)) r := by
        intro r hr
        refine Ev.pos (by omega) (Ev.pos (by omega) (Ev.pos (by omega) (Ev.pos (by omega) (Ev.step (fun k => seal_Open.j0.eq_2 ..) ?_))))
        refine Ev.neg (by decide) (Ev.pos (by omega) (Ev.pos (by omega) ?_))
        rw [x4, x2, x52, r4, r2]
        simp only [Option.bind_some]
        refine Ev.pos (by omega) (Ev.pos (by omega) ?_)
        obtain ⟨n, hn⟩ := hr
        refine ⟨n, fun m hm => ?_⟩
        rw [← hn m hm]
        by_cases h0 : ((readL ((L.drop 4).take 2) : Nat) : Int) = 0
        · rw [if_pos h0, if_pos h0]
        · rw [if_neg h0, if_neg h0, if_pos (by omega), if_pos (by omega)]
      have l2 := lt2 L
      have l4 := lt4 L
      refine ⟨fun h => step _ (Ev.neg (by have := h.2.2; omega) (Ev.cst ?_)), fun h => step _ (Ev.pos ?_ (Ev.cst rfl))⟩
      · rw [wrap_id (by omega) (by omega), Int.emod_eq_of_lt (by omega) (by omega)]
      · by_cases h0 : readL ((L.drop 4).take 2) = 0
        · omega
        · exact absurd ⟨h64, h6, h0⟩ h
    · have hb : (L.take 6 != L.drop 58) = true := by rw [bne_iff_ne]; exact h6
      rw [hb]
      refine ⟨fun h => absurd h.2.1 h6, fun _ => Ev.pos (by omega) (Ev.pos (by omega) (Ev.pos (by omega) (Ev.pos (by omega) (Ev.step (fun k => seal_Open.j0.eq_2 ..) (Ev.pos rfl (Ev.cst rfl))))))⟩
  · refine ⟨fun h => absurd h.1 h64, fun _ => Ev.neg (by omega) (Ev.step (fun k => seal_Open.j0.eq_2 ..) (Ev.pos rfl (Ev.cst rfl)))⟩
theorem rseal_f (st c : Nat) (d : List UInt8) (hs : st < 4294967296) (hc : c < 65536) (hd : d.length ≤ 1000) : weighlockref09_Seal.f (st : Int) (c : Int) (sB d) = some (sB (sealL st c d)) := by
  have h1 : weighlockref01_Fixed.f (IntKind.u64.wrap (st : Int)) 4 = some (sB (fixL 4 st)) := by
    unfold weighlockref01_Fixed.f
    rw [IntWalk.u64_in _ (by omega), if_pos (by omega)]; rfl
  have h2 : weighlockref01_Fixed.f (IntKind.u64.wrap (c : Int)) 2 = some (sB (fixL 2 c)) := by
    unfold weighlockref01_Fixed.f
    rw [IntWalk.u64_in _ (by omega), if_pos (by omega)]; rfl
  unfold weighlockref09_Seal.f
  rw [h1, h2]
  have z : (sB (fixL 4 st)).size = 4 := by rw [sB_size, fixL_length]
  have z2 : (sB (fixL 2 c)).size = 2 := by rw [sB_size, fixL_length]
  have zd : (sB d).size = d.length := sB_size d
  have e1 : sB (fixL 4 st) ++ sB (fixL 2 c) = sB (markL st c) := sB_append _ _
  simp only [Option.bind_some]
  rw [if_pos (by omega), e1]
  have zm : (sB (markL st c)).size = 6 := by rw [sB_size, markL_length]
  rw [if_pos (by omega), sB_append]
  have zz : (sB (markL st c ++ d)).size = 6 + d.length := by rw [sB_size, List.length_append, markL_length]
  rw [if_pos (by omega), sB_append]
  rfl
theorem ropen_ev (L : List UInt8) (hL : L.length ≤ 9223372036854775807) :
    (okL L → Ev (fun _ => weighlockref09_Open.f (sB L)) (((readL (L.take 4) : Nat) : Int), ((readL ((L.drop 4).take 2) : Nat) : Int), sB ((L.drop 6).take 52), true)) ∧ (¬ okL L → Ev (fun _ => weighlockref09_Open.f (sB L)) (0, 0, ⟨#[]⟩, false)) := by
  have hz := sB_size L
  unfold weighlockref09_Open.f
  by_cases h64 : L.length = 64
  · have r4 := rread_f (L.take 4) (by rw [List.length_take]; omega)
    have r2 := rread_f ((L.drop 4).take 2) (by rw [List.length_take]; omega)
    have x4 : (sB L).extract 0 4 = sB (L.take 4) := by rw [ext_sB]; rfl
    have x2 : (sB L).extract 4 6 = sB ((L.drop 4).take 2) := by rw [ext_sB]
    have x52 : (sB L).extract 6 58 = sB ((L.drop 6).take 52) := by rw [ext_sB]
    have l2 := lt2 L
    have l4 := lt4 L
    have hl : ((L.drop 6).take 52).length = 52 := by rw [List.length_take, List.length_drop]; omega
    have hs := rseal_f _ _ _ l4 l2 (show ((L.drop 6).take 52).length ≤ 1000 by omega)
    have w2 : wrap64 ((readL ((L.drop 4).take 2) : Nat) : Int) = ((readL ((L.drop 4).take 2) : Nat) : Int) := wrap_id (by omega) (by omega)
    have m4 : ((readL (L.take 4) : Nat) : Int) % 4294967296 = ((readL (L.take 4) : Nat) : Int) := Int.emod_eq_of_lt (by omega) (by omega)
    rw [x4, x2, x52, r4, r2]
    constructor
    · intro h
      refine Ev.pos (by omega) (Ev.pos (by omega) (Ev.pos (by omega) (Ev.bind (Ev.cst rfl) (Ev.pos (by omega) (Ev.pos (by omega) (Ev.bind (Ev.cst rfl) ?_))))))
      rw [w2, m4]
      refine Ev.neg (by have := h.2.2; omega) (Ev.pos (by omega) (Ev.pos (by omega) (Ev.bind (Ev.cst hs) (Ev.pos ?_ (Ev.cst rfl)))))
      rw [sB_eqB]; exact seal_of h64 h.2.1
    · intro h
      refine Ev.pos (by omega) (Ev.pos (by omega) (Ev.pos (by omega) (Ev.bind (Ev.cst rfl) (Ev.pos (by omega) (Ev.pos (by omega) (Ev.bind (Ev.cst rfl) ?_))))))
      rw [w2, m4]
      by_cases h0 : readL ((L.drop 4).take 2) = 0
      · exact Ev.pos (by omega) (Ev.cst rfl)
      · refine Ev.neg (by omega) (Ev.pos (by omega) (Ev.pos (by omega) (Ev.bind (Ev.cst hs) (Ev.neg ?_ (Ev.cst rfl)))))
        rw [sB_eqB]
        intro e
        exact h ⟨h64, by rw [← e, sealL_take, sealL_drop _ _ hl], h0⟩
  · exact ⟨fun h => absurd h.1 h64, fun _ => Ev.neg (by omega) (Ev.cst rfl)⟩
theorem Ev.now' {α : Type} {x : Option α} {r : α} (h : Ev (fun _ => x) r) : x = some r := by obtain ⟨n, hn⟩ := h; exact hn n (Nat.le_refl _)
theorem ropen_f (L : List UInt8) (hL : L.length ≤ 9223372036854775807) :
    (okL L → weighlockref09_Open.f (sB L) = some (((readL (L.take 4) : Nat) : Int), ((readL ((L.drop 4).take 2) : Nat) : Int), sB ((L.drop 6).take 52), true)) ∧ (¬ okL L → weighlockref09_Open.f (sB L) = some (0, 0, ⟨#[]⟩, false)) :=
  ⟨fun h => Ev.now' ((ropen_ev L hL).1 h), fun h => Ev.now' ((ropen_ev L hL).2 h)⟩
theorem two_f : Ev (fun k => weighlocklaw09_two.f k) true := by
  unfold weighlocklaw09_two.f
  have ez : strOfNums (List.replicate 51 (0 : Int)) = sB (List.replicate 51 0) := by decide
  have ez4 : strOfNums (List.replicate 64 (0 : Int)) = sB (List.replicate 64 0) := by decide
  have ex : (⟨#[120]⟩ : ByteArray) = sB [120] := rfl
  have ed : sB (List.replicate 51 0) ++ sB [120] = sB (List.replicate 51 0 ++ [120]) := sB_append _ _
  have hs : seal_Seal.f 1 2 (sB (List.replicate 51 0 ++ [120])) = some (sB (sealL 1 2 (List.replicate 51 0 ++ [120])), 0) := by
    unfold seal_Seal.f
    rw [if_pos (by rw [sB_size]; decide), if_pos (by rw [sB_size]; decide), sB_list]; rfl
  have hd : (List.replicate 51 (0 : UInt8) ++ [120]).length = 52 := by decide
  have ho := (open_f (sealL 1 2 (List.replicate 51 0 ++ [120])) (by rw [sealL_length _ _ hd]; decide)).1 (sealL_ok hd (by decide) (by decide))
  have hn := (open_f (List.replicate 64 0) (by decide)).2 (by intro h; exact h.2.2 (by decide))
  rw [sealL_st (by decide), sealL_c (by decide), sealL_data _ _ hd] at ho
  refine Ev.pos (by decide) ?_
  simp only [Option.bind_some, ez, ez4, ex, ed]
  refine Ev.pos (by rw [sB_size]; decide) ?_
  rw [hs]
  simp only [Option.bind_some]
  refine Ev.bind ho (Ev.pos (by decide) (Ev.bind hn ?_))
  have hz : (sB (sealL 1 2 (List.replicate 51 0 ++ [120]))).size = 64 := by rw [sB_size, sealL_length _ _ hd]
  have e6 : (sB (sealL 1 2 (List.replicate 51 0 ++ [120]))).extract 0 6 = sB (markL 1 2) := by rw [ext_sB, List.drop_zero, sealL_take]
  have e58 : (sB (sealL 1 2 (List.replicate 51 0 ++ [120]))).extract 58 64 = sB (markL 1 2) := by rw [ext_sB, sealL_drop _ _ hd]; decide
  simp only [hz, e6, e58, sB_toList]
  have hm : markL 1 2 = [0, 0, 0, 1, 0, 2] := by decide
  iterate 5 refine Ev.pos (by first | rfl | trivial | decide) ?_
  refine Ev.pos (by first | trivial | decide) (Ev.pos hm (Ev.pos (by first | trivial | decide) ?_))
  iterate 3 refine Ev.pos (by first | rfl | trivial | decide) ?_
  exact Ev.cst (by rw [beq_self_eq_true])
theorem open_ok {L : List UInt8} (h : okL L) (w : World) : Calls Try.prog 6 #[.string (sB L)] w fun e w' => e = .returned (.tuple #[.int .u32 (readL (L.take 4) : Nat), .int .i64 (readL ((L.drop 4).take 2) : Nat), .string (sB ((L.drop 6).take 52)), .int .i64 0]) ∧ Below w.heap.size w w' := by
  obtain ⟨k, hk⟩ := Ev.rounds ((open_f L (by rw [h.1]; decide)).1 h)
  exact seal_Open.calls k _ _ _ _ _ w hk
theorem open_no {L : List UInt8} (h : ¬ okL L) (hL : L.length ≤ 9223372036854775807) (w : World) : Calls Try.prog 6 #[.string (sB L)] w fun e w' => e = .returned (.tuple #[.int .u32 0, .int .i64 0, .string ⟨#[]⟩, .int .i64 4]) ∧ Below w.heap.size w w' := by
  obtain ⟨k, hk⟩ := Ev.rounds ((open_f L hL).2 h)
  exact seal_Open.calls k _ _ _ _ _ w hk
theorem ropen_ok {L : List UInt8} (h : okL L) (w : World) : Calls Try.prog 7 #[.string (sB L)] w fun e w' => e = .returned (.agg #[.int .u32 (readL (L.take 4) : Nat), .int .i64 (readL ((L.drop 4).take 2) : Nat), .string (sB ((L.drop 6).take 52)), .bool true]) ∧ Below w.heap.size w w' :=
  weighlockref09_Open.calls _ _ _ _ _ w ((ropen_f L (by rw [h.1]; decide)).1 h)
theorem ropen_no {L : List UInt8} (h : ¬ okL L) (hL : L.length ≤ 9223372036854775807) (w : World) : Calls Try.prog 7 #[.string (sB L)] w fun e w' => e = .returned (.agg #[.int .u32 0, .int .i64 0, .string ⟨#[]⟩, .bool false]) ∧ Below w.heap.size w w' :=
  weighlockref09_Open.calls _ _ _ _ _ w ((ropen_f L hL).2 h)
theorem seal_ok (st c : Nat) (d : List UInt8) (w : World) (hs : st < 4294967296) (hc1 : 1 ≤ c) (hc : c ≤ 65535) (hd : d.length = 52) :
    Calls Try.prog 8 #[.int .u32 (st : Int), .int .i64 (c : Int), .string (sB d)] w fun e w' => e = .returned (.tuple #[.string (sB (sealL st c d)), .int .i64 0]) ∧ Below w.heap.size w w' := by
  have := seal_any st c (sB d) w hs hc1 hc (by rw [sB_size]; exact hd)
  rwa [sB_list] at this
theorem seal_no (st c : Int) (d : List UInt8) (w : World) (h : c < 1 ∨ 65535 < c ∨ d.length ≠ 52) (hd : d.length ≤ 1000) :
    Calls Try.prog 8 #[.int .u32 st, .int .i64 c, .string (sB d)] w fun e w' => e = .returned (.tuple #[.string ⟨#[]⟩, .int .i64 1]) ∧ Below w.heap.size w w' :=
  (seal_bad st c (sB d) w (by rw [sB_size]; exact h) (by rw [sB_size]; unfold maxLen; omega)).mono (by rintro e w' ⟨rfl, rfl⟩; exact ⟨rfl, Below.refl _ _⟩)
theorem rseal_ok (st c : Nat) (d : List UInt8) (w : World) (hs : st < 4294967296) (hc : c < 65536) (hd : d.length ≤ 1000) :
    Calls Try.prog 11 #[.int .u32 (st : Int), .int .i64 (c : Int), .string (sB d)] w fun e w' => e = .returned (.string (sB (sealL st c d))) ∧ Below w.heap.size w w' :=
  weighlockref09_Seal.calls _ _ _ _ w (rseal_f st c d hs hc hd)
theorem may_f (c : Int) (d : List UInt8) : weighlockref09_May.f c (sB d) = some (decide (1 ≤ c ∧ c ≤ 65535 ∧ d.length = 52)) := by
  unfold weighlockref09_May.f
  rw [sB_size]
  by_cases h1 : c ≥ 1
  · rw [if_pos h1]
    by_cases h2 : c ≤ 65535
    · rw [if_pos h2]
      by_cases h3 : d.length = 52
      · simp [h1, h2, h3, show (1 : Int) ≤ c from h1]
      · have : ((d.length : Int) == 52) = false := by rw [beq_eq_false_iff_ne]; omega
        rw [this]; simp [h3]
    · rw [if_neg h2]; simp [h2]
  · rw [if_neg h1]; simp [show ¬ (1 : Int) ≤ c from h1]
theorem may_any (c : Int) (d : List UInt8) (w : World) : Calls Try.prog 10 #[.int .i64 c, .string (sB d)] w fun e w' => e = .returned (.bool (decide (1 ≤ c ∧ c ≤ 65535 ∧ d.length = 52))) ∧ Below w.heap.size w w' :=
  (weighlockref09_May.calls c (sB d) _ w (may_f c d)).mono (by rintro e w' ⟨he, hw⟩; exact ⟨he, hw.below⟩)
theorem two_any (w : World) : Calls Try.prog 5 #[] w fun e w' => e = .returned (.bool true) ∧ Below w.heap.size w w' := by
  obtain ⟨k, hk⟩ := Ev.rounds two_f
  exact weighlocklaw09_two.calls k true w hk
end Go.Proofs.Ytndkbmpdanbkjaa.Own
