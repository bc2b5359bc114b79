/- RecordPacks over lists alone. -/
import Derived.Test.YtmkpdknlkblegaaPuPack
import Derived.Test.YtmkpdknlkblegaaPAx22
namespace Go.Proofs.Ytmkpdknlkblegaa.Pu
open Go.RowKit Go.Proofs.YtmkpdknlkblegaaW.PrintWords Go.Proofs.YtmkpdknlkblegaaW.PrintMore Go.Proofs.Ytmkpdknlkblegaa.PA
set_option linter.unusedSimpArgs false
set_option linter.unusedVariables false
theorem large_eq (x : S23) : weighlocklaw16_large.f x.f0 x.f1 x.f2 x.f3 x.f4 x.f5 x.f6 x.f7 = some (decide ((x.f2.size : Int) > 300) || decide ((x.f3.size : Int) > 300)) := by
  unfold weighlocklaw16_large.f
  by_cases h : (x.f2.size : Int) > 300
  · rw [if_pos h]; simp only [h, decide_true, Bool.true_or]
  · rw [if_neg h]; simp only [h, decide_false, Bool.false_or]
theorem take8 {l : List S23} (h : ¬ 8 < l.length) : l.take 8 = l := List.take_of_length_le (by omega)
theorem packs_end (l : List S23) (h40 : l.length ≤ 40) : Ev (fun k => weighlocklaw16_RecordPacks.l0 k l l (l.length : Int) (l.length : Int)) true := by
  refine Ev.step (fun k => weighlocklaw16_RecordPacks.l0.eq_2 ..) (Ev.neg (by omega) ?_)
  have hbad : ∀ (c : Int), wrongF l = c → c ≠ 0 → Ev (fun k => record_Pack.f k l) (⟨#[]⟩, c) → Ev (fun k => (record_Pack.f k l).bind fun bt => (weighlockref16_Wrong.f k l).bind fun t => if t = 0 then (record_Unpack.f k bt.1).bind fun bu => (if bt.2 = 0 then ((weighlockref16_Pack.f k l).bind fun t2 => (if bt.1.toList = t2.toList then (if bu.2 = 0 then ((weighlockref16_Same.f l bu.1).bind fun t3 => (if t3 = true then ((weighlocklaw16_one.f k).bind fun t4 => (some t4)) else (some false))) else (some false)) else (some false))) else (some false)) else (if bt.2 = t then (if bt.1.toList = ([] : List UInt8) then ((weighlocklaw16_one.f k).bind fun t5 => (some t5)) else (some false)) else (some false))) true := by
    intro c hw hc hp
    refine Ev.bind hp (Ev.bind (Ev.get (wrong_ev l (by omega)) hw) (Ev.neg hc (Ev.pos rfl (Ev.pos ((str_nil _).2 rfl) (Ev.bind one_ev (Ev.now _))))))
  by_cases he : l = []
  · subst he
    refine hbad 1 ?_ (by decide) ?_
    · unfold wrongF; split
      · rfl
      · rfl
    · unfold record_Pack.f; exact Ev.pos rfl (Ev.now _)
  by_cases ha : allOk l
  · by_cases hb : 8 < l.length ∨ 773 < (cat l).length
    · refine hbad 2 ?_ (by decide) (Ev.get (pack_ev l (by omega) he) ?_)
      · unfold wrongF; rw [if_pos ha, if_neg (fun h => he (List.eq_nil_of_length_eq_zero h)), if_pos hb]
      · unfold packF; rw [if_pos ha, if_pos]
        by_cases h8 : 8 < l.length
        · exact Or.inl h8
        · rw [take8 h8]; exact Or.inr (hb.resolve_left h8)
    · have h8 : ¬ 8 < l.length := fun h => hb (Or.inl h)
      have hz : ¬ 773 < (cat l).length := fun h => hb (Or.inr h)
      have hw : wrongF l = 0 := by unfold wrongF; rw [if_pos ha, if_neg (fun h => he (List.eq_nil_of_length_eq_zero h)), if_neg hb]
      have hp : packF l = (Own.sB (cat l), 0) := by unfold packF; rw [if_pos ha, take8 h8, if_neg hb]
      have hs : weighlockref16_Same.f l l = some true := congrArg some (Sm.sameB_refl _)
      refine Ev.bind (Ev.get (pack_ev l (by omega) he) hp) (Ev.bind (Ev.get (wrong_ev l (by omega)) hw) (Ev.pos rfl ?_))
      refine Ev.bind (unpack_ok l (Own.sB (cat l)) (Own.sB_list _) he (allOk_may ha) (allOk_inc ha) (by omega) (by rw [Own.sB_size]; omega)) (Ev.pos rfl ?_)
      refine Ev.bind (refpack_ev l (by omega) ha) (Ev.pos rfl (Ev.pos rfl ?_))
      simp only [hs, Option.bind_some]
      exact Ev.pos (by first | rfl | trivial) (Ev.bind one_ev (Ev.now _))
  · refine hbad 1 ?_ (by decide) (Ev.get (pack_ev l (by omega) he) ?_)
    · unfold wrongF; rw [if_neg ha]
    · unfold packF; rw [if_neg ha]
theorem packs_ev (l : List S23) : Ev (fun k => weighlocklaw16_RecordPacks.f k l) true := by
  unfold weighlocklaw16_RecordPacks.f
  by_cases h : (l.length : Int) > 40
  · exact Ev.pos h (Ev.bind one_ev (Ev.now _))
  refine Ev.neg h ?_
  have key : ∀ (d m : Nat), l.length - m = d → m ≤ l.length → Ev (fun k => weighlocklaw16_RecordPacks.l0 k l l (l.length : Int) (m : Int)) true := by
    intro d
    induction d with
    | zero =>
      intro m hd hm
      obtain rfl : m = l.length := by omega
      exact packs_end l (by omega)
    | succ d ih =>
      intro m hd hm
      have hlt : m < l.length := by omega
      refine Ev.step (fun k => weighlocklaw16_RecordPacks.l0.eq_2 ..) (Ev.pos (by omega) (Ev.pos (by omega) (Ev.pos (by omega) ?_)))
      have hl := large_eq (rd_T23 l (m : Int))
      simp only [hl, Option.bind_some]
      rw [wrap_id (by omega) (by omega)]
      by_cases hb : (decide (((rd_T23 l (m : Int)).f2.size : Int) > 300) || decide (((rd_T23 l (m : Int)).f3.size : Int) > 300)) = true
      · exact Ev.pos hb (Ev.bind one_ev (Ev.now _))
      · exact Ev.neg hb (ih (m + 1) (by omega) (by omega))
  exact key _ 0 rfl (by omega)
end Go.Proofs.Ytmkpdknlkblegaa.Pu
