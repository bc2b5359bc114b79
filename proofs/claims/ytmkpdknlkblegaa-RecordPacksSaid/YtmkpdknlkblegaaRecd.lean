/- (*reader).record: its deferred closure, by hand. -/
import Derived.Test.YtmkpdknlkblegaaRdr
import Derived.Laws.Pointers
import Derived.WalkMore
namespace Go.Proofs.Ytmkpdknlkblegaa.Rd
open Go.RowKit Go.Proofs.YtmkpdknlkblegaaW.PrintWords Go.Proofs.Ytmkpdknlkblegaa.PB
set_option maxRecDepth 100000
set_option linter.unusedSimpArgs false
set_option linter.unusedVariables false
def zrec : Array Value := #[.int .i64 0, .int .i64 0, .string ⟨#[]⟩, .string ⟨#[]⟩, .bool false, .int .i64 0, .int .i64 0, .int .i64 0]
set_option maxHeartbeats 4000000 in
theorem catch_panicking {o : Nat} {v0 v1 v2 v3 v4 v5 v6 v7 b0 : Value} (older : List PanicEntry) (w : World) (ho : w.heap[o]? = some (.cells #[v0, v1, v2, v3, v4, v5, v6, v7] 23 (0, 0))) (hk : w.heap[o + 1]? = some (.cells #[b0] 4 (0, 0))) :
    CallsD Try.prog 33 #[.pointer (some ⟨o, 0, none⟩), .pointer (some ⟨o + 1, 0, none⟩)] (.panicking ({ v := .iface 66 (.agg #[]), recovered := false } :: older)) w fun e u' w' =>
      e = .returned (.tuple #[]) ∧ u' = .panicking ({ v := .iface 66 (.agg #[]), recovered := true } :: older) ∧ w'.heap[o]? = some (.cells zrec 23 (0, 0)) ∧ w'.heap[o + 1]? = some (.cells #[.bool false] 4 (0, 0)) ∧ ∀ B, B ≤ o → Below B w w' := by
  have hta : ∀ W : World, (Instr.typeAssert (.iface 66 (.agg #[])) 20 66 true).run Try.prog W = .ok (.tuple #[.agg #[], .bool true]) W := fun _ => by kernel_rfl
  have hno := Own.blk_lt ho
  have hnk := Own.blk_lt hk
  have c0 := Own.blk_cell ho 0
  have f0 := Own.blk_free ho 0
  have c1 := Own.blk_cell ho 1
  have f1 := Own.blk_free ho 1
  have c2 := Own.blk_cell ho 2
  have f2 := Own.blk_free ho 2
  have c3 := Own.blk_cell ho 3
  have f3 := Own.blk_free ho 3
  have c4 := Own.blk_cell ho 4
  have f4 := Own.blk_free ho 4
  have c5 := Own.blk_cell ho 5
  have f5 := Own.blk_free ho 5
  have c6 := Own.blk_cell ho 6
  have f6 := Own.blk_free ho 6
  have c7 := Own.blk_cell ho 7
  have f7 := Own.blk_free ho 7
  have ck := Own.blk_cell hk 0
  have fk := Own.blk_free hk 0
  simp at c0 c1 c2 c3 c4 c5 c6 c7 ck
  have HO := Lib.hid ho; clear ho
  have HK := Lib.hid hk; clear hk
  refine callsD_of_wpS Try.func33 rfl fun c₀ cs hu => ?_
  apply wpS_seq
  apply wpS_region
  simp [wpOpsS, go_sem, recoverD, hu, Try.ntmps33, Exit.thenS]
  refine wpS_of_wp ?_
  go_hide hQ
  change Code.wp _ _ _ { tmps := #[.pointer (some ⟨o, 0, none⟩), .pointer (some ⟨o + 1, 0, none⟩), .iface 66 (.agg #[]), undef, undef, .iface 66 (.agg #[]), undef, undef, undef, undef, undef, undef, undef, undef, undef, undef, undef], defers := [] } _
  go_wp2
  subst hQ
  have e1 := (Own.heap_set (i := 7) (Own.heap_set (i := 6) (Own.heap_set (i := 5) (Own.heap_set (i := 4) (Own.heap_set (i := 3) (Own.heap_set (i := 2) (Own.heap_set (i := 1) (Own.heap_set (i := 0) HO.out (.int .i64 0)) (.int .i64 0)) (.string ⟨#[]⟩)) (.string ⟨#[]⟩)) (.bool false)) (.int .i64 0)) (.int .i64 0)) (.int .i64 0))
  have e2 := ((Own.heap_far _ ⟨o, 7, none⟩ (.int .i64 0) (k := o + 1) (by simp)).trans ((Own.heap_far _ ⟨o, 6, none⟩ (.int .i64 0) (k := o + 1) (by simp)).trans ((Own.heap_far _ ⟨o, 5, none⟩ (.int .i64 0) (k := o + 1) (by simp)).trans ((Own.heap_far _ ⟨o, 4, none⟩ (.bool false) (k := o + 1) (by simp)).trans ((Own.heap_far _ ⟨o, 3, none⟩ (.string ⟨#[]⟩) (k := o + 1) (by simp)).trans ((Own.heap_far _ ⟨o, 2, none⟩ (.string ⟨#[]⟩) (k := o + 1) (by simp)).trans ((Own.heap_far _ ⟨o, 1, none⟩ (.int .i64 0) (k := o + 1) (by simp)).trans ((Own.heap_far _ ⟨o, 0, none⟩ (.int .i64 0) (k := o + 1) (by simp)).trans HK.out))))))))
  have e3 := Own.heap_set (i := 0) e2 (.bool false)
  have e4 := (Own.heap_far _ ⟨o + 1, 0, none⟩ (.bool false) (k := o) (by simp)).trans e1
  have n1 := Own.blk_lt e3
  have n2 := Own.blk_lt e4
  have e5 := (Own.heap_old _ (.cells #[] 66) n1).trans e3
  have e6 := (Own.heap_old _ (.cells #[] 66) n2).trans e4
  have eB : ∀ B, B ≤ o → Below B w (((((((((w.setCell ⟨o, 0, none⟩ (.int .i64 0)).setCell ⟨o, 1, none⟩ (.int .i64 0)).setCell ⟨o, 2, none⟩ (.string ⟨#[]⟩)).setCell ⟨o, 3, none⟩ (.string ⟨#[]⟩)).setCell ⟨o, 4, none⟩ (.bool false)).setCell ⟨o, 5, none⟩ (.int .i64 0)).setCell ⟨o, 6, none⟩ (.int .i64 0)).setCell ⟨o, 7, none⟩ (.int .i64 0)).setCell ⟨o + 1, 0, none⟩ (.bool false)) := by
    intro B hB
    repeat (refine Below.setCell ?_ (by simp; omega) _)
    exact Below.refl _ _
  simp only [bodyPostS, results, Try.results33]
  have e7 : ((((((((((w.setCell ⟨o, 0, none⟩ (.int .i64 0)).setCell ⟨o, 1, none⟩ (.int .i64 0)).setCell ⟨o, 2, none⟩ (.string ⟨#[]⟩)).setCell ⟨o, 3, none⟩ (.string ⟨#[]⟩)).setCell ⟨o, 4, none⟩ (.bool false)).setCell ⟨o, 5, none⟩ (.int .i64 0)).setCell ⟨o, 6, none⟩ (.int .i64 0)).setCell ⟨o, 7, none⟩ (.int .i64 0)).setCell ⟨o + 1, 0, none⟩ (.bool false)).alloc (.cells #[] 66)).heap[o]? = some (.cells zrec 23 (0, 0)) := e6
  refine ⟨trivial, _, rfl, .tuple #[], by simp, rfl, rfl, e7, e5, fun B hB => ?_⟩
  exact (eB B hB).alloc (Nat.le_trans hB (Nat.le_of_lt n2)) _
theorem catch_idle {o : Nat} (w : World) :
    CallsD Try.prog 33 #[.pointer (some ⟨o, 0, none⟩), .pointer (some ⟨o + 1, 0, none⟩)] .returning w fun e u' w' => e = .returned (.tuple #[]) ∧ u' = .returning ∧ w' = w := by
  refine callsD_of_wpS Try.func33 rfl fun c₀ cs hu => ?_
  apply wpS_seq
  apply wpS_region
  simp [wpOpsS, go_sem, recoverD, hu, Try.ntmps33, Exit.thenS]
  refine wpS_of_wp ?_
  go_hide hQ
  change Code.wp _ _ _ { tmps := #[.pointer (some ⟨o, 0, none⟩), .pointer (some ⟨o + 1, 0, none⟩), .nilIface, undef, undef, .nilIface, undef, undef, undef, undef, undef, undef, undef, undef, undef, undef, undef], defers := [] } _
  go_wp2
  subst hQ
  cases c₀
  simp_all [bodyPostS, results, Try.results33]
end Go.Proofs.Ytmkpdknlkblegaa.Rd
