/- The walk of DiskApart for every input. -/
import Derived.Test.YtlodjkmablogcaaDW
import Derived.Test.YtlodjkmablogcaaKdAct
namespace Go.Proofs.Ytlodjkmablogcaa.Own
open Go.RowKit Go.Proofs.YtlodjkmablogcaaW.PrintWords Go.Proofs.Ytlodjkmablogcaa.PB
set_option maxRecDepth 100000
set_option linter.unusedSimpArgs false
set_option linter.unusedVariables false
set_option maxHeartbeats 4000000 in
theorem apart_big (A : Option Addr) (c : Nat) (l : List S25) (x : S25) (KB : Option Addr) (kb : Nat) (w : World) (hl : Kd.C k25 w A l.length l) (hc : l.length ≤ c) (hm : x.f4.length ≤ 9223372036854775807) (h : largeB l = true ∨ largeB l = false ∧ ((x.f0 ≠ 1 ∧ x.f0 ≠ 2) ∨ ((x.f0 = 1 ∨ x.f0 = 2) ∧ 40 < x.f4.length))) :
    Calls Try.prog 3 #[.slice A l.length c, .agg #[.int .i64 x.f0, .int .i64 x.f1, .int .i64 x.f2, .int .u8 x.f3, .slice KB x.f4.length kb]] w fun e w' => e = .returned (.bool true) ∧ Below w.heap.size w w' := by
  have HL := Lib.hid hl
  have BX := Lib.hid (show Below w.heap.size w (w.alloc (.cells (ac x KB kb) 25)) from (Below.refl _ _).alloc (Nat.le_refl _) _)
  have XB := Lib.hid (AB.of (heap_new w (.cells (ac x KB kb) 25)))
  clear hl
  rcases h with h | ⟨h, ⟨n1, n2⟩ | ⟨hk, hb⟩⟩
  · have HG := Lib.hid h; clear h
    go_enter Try.func3, Try.ntmps3
    go_wp2_with fail
    change Calls _ _ _ (w.alloc (.cells (ac x KB kb) 25)) _
    refine (large_any A c l _ (Kd.C_below HL.out BX.out) hc).mono ?_
    rintro e w1 ⟨rfl, b1⟩
    rw [HG.out]
    have B1 := Lib.hid (below_two BX.out b1); clear b1
    go_wp2_with fail
    refine (torn_any _).mono ?_
    rintro e w2 ⟨rfl, b2⟩
    have B2 := Lib.hid (below_two B1.out b2); clear b2
    go_wp2
    go_ret
    exact ⟨rfl, B2.out⟩
  · have HG := Lib.hid h; clear h
    have m1 : (x.f0 != 1) = true := by rw [bne_iff_ne]; exact n1
    have m2 : (x.f0 != 2) = true := by rw [bne_iff_ne]; exact n2
    clear n1 n2
    go_enter Try.func3, Try.ntmps3
    go_wp2_with fail
    change Calls _ _ _ (w.alloc (.cells (ac x KB kb) 25)) _
    refine (large_any A c l _ (Kd.C_below HL.out BX.out) hc).mono ?_
    rintro e w1 ⟨rfl, b1⟩
    rw [HG.out]
    have B1 := Lib.hid (below_two BX.out b1)
    have XB1 := Lib.hid (XB.out.below b1)
    clear b1
    have c0 := XB1.out.c0
    go_wp2_with fail
    refine (torn_any _).mono ?_
    rintro e w2 ⟨rfl, b2⟩
    have B2 := Lib.hid (below_two B1.out b2); clear b2
    go_wp2
    go_ret
    exact ⟨rfl, B2.out⟩
  · have HG := Lib.hid h; clear h
    have hb' : (40 : Int) < (x.f4.length : Int) := by omega
    have hb2 : decide (40 < x.f4.length) = true := by simpa using hb
    have hn1 : (x.f0 != 1) = true ∧ (x.f0 != 2) = false ∨ (x.f0 != 1) = false := by
      rcases hk with h | h
      · right; rw [bne_eq_false_iff_eq]; exact h
      · left; exact ⟨by rw [bne_iff_ne]; omega, by rw [bne_eq_false_iff_eq]; exact h⟩
    clear hk
    rcases hn1 with ⟨m1, m2⟩ | m1
    all_goals
      go_enter Try.func3, Try.ntmps3
      go_wp2_with fail
      change Calls _ _ _ (w.alloc (.cells (ac x KB kb) 25)) _
      refine (large_any A c l _ (Kd.C_below HL.out BX.out) hc).mono ?_
      rintro e w1 ⟨rfl, b1⟩
      rw [HG.out]
      have B1 := Lib.hid (below_two BX.out b1)
      have XB1 := Lib.hid (XB.out.below b1)
      clear b1
      have c0 := XB1.out.c0
      have c4 := XB1.out.c4
      go_wp2_with fail
      refine (torn_any _).mono ?_
      rintro e w2 ⟨rfl, b2⟩
      have B2 := Lib.hid (below_two B1.out b2); clear b2
      go_wp2
      go_ret
      exact ⟨rfl, B2.out⟩
theorem diskApart_any (A : Option Addr) (c : Nat) (l : List S25) (x : S25) (KB : Option Addr) (kb : Nat) (w : World) (hl : Kd.C k25 w A l.length l) (hc : l.length ≤ c) (hok : LOK l) (hx0 : 0 ≤ x.f3) (hx1 : x.f3 ≤ 255) (hxw : ∀ q ∈ x.f4, (Lit.int .i64 q.f0).wf = true) (hkx : Kd.C k52 w KB x.f4.length x.f4) :
    Calls Try.prog 3 #[.slice A l.length c, .agg #[.int .i64 x.f0, .int .i64 x.f1, .int .i64 x.f2, .int .u8 x.f3, .slice KB x.f4.length kb]] w fun e w' => e = .returned (.bool true) ∧ Below w.heap.size w w' := by
  cases hlg : largeB l with
  | true => exact apart_big A c l x KB kb w hl hc (Kd.C_max hkx) (Or.inl hlg)
  | false =>
    by_cases hk : x.f0 = 1 ∨ x.f0 = 2
    · by_cases hb : 40 < x.f4.length
      · exact apart_big A c l x KB kb w hl hc (Kd.C_max hkx) (Or.inr ⟨hlg, Or.inr ⟨hk, hb⟩⟩)
      · exact apart_small A c l x KB kb w hl hc hok ⟨hx0, hx1, by omega, hxw⟩ hkx hlg hk
    · exact apart_big A c l x KB kb w hl hc (Kd.C_max hkx) (Or.inr ⟨hlg, Or.inl ⟨fun h => hk (Or.inl h), fun h => hk (Or.inr h)⟩⟩)
end Go.Proofs.Ytlodjkmablogcaa.Own
namespace Go.Proofs.Ytlodjkmablogcaa
open Go.RowKit Own
theorem acts_lok {w : World} {l : List Own.Act} (h : ∀ x ∈ l, Own.Act.ok w x) : LOK (l.map actS) := by
  intro y hy
  obtain ⟨x, hx, rfl⟩ := List.mem_map.1 hy
  obtain ⟨_, _, _, hc, _, hk, _⟩ := h x hx
  refine ⟨(Own.wf_u8 hc).1, (Own.wf_u8 hc).2, fun q hq => ?_⟩
  obtain ⟨z, hz, rfl⟩ := List.mem_map.1 (show q ∈ x.keeps.map keepS from hq)
  exact (hk z hz).1
theorem diskApart_walk (a0 : Option Addr) (len0 cap0 : Nat) (z0 : List Own.Act) (g1 : Own.Act) (w : World) (w0 : Own.Row w 5 Own.Act.cells a0 len0 z0) (u0 : ∀ x ∈ z0, Own.Act.ok w x) (c0 : len0 ≤ cap0) (w1 : g1.ok w) :
    Calls Try.prog 3 #[.slice a0 len0 cap0, .agg g1.cells.toArray] w fun e w' => e = .returned (.bool true) ∧ Below w.heap.size w w' := by
  have hl := acts_read w0 u0
  have e : (z0.map actS).length = len0 := by rw [List.length_map]; exact w0.1
  obtain ⟨_, _, _, hc, hr, hk, hcap⟩ := w1
  have e2 : g1.keepsN = (actS g1).f4.length := by show _ = (g1.keeps.map keepS).length; rw [List.length_map]; exact hr.1.symm
  have := diskApart_any a0 cap0 (z0.map actS) (actS g1) g1.keepsA g1.keepsC w (by rw [e]; exact hl) (by rw [e]; exact c0) (acts_lok u0) (Own.wf_u8 hc).1 (Own.wf_u8 hc).2 (by
    intro q hq
    obtain ⟨z, hz, rfl⟩ := List.mem_map.1 (show q ∈ g1.keeps.map keepS from hq)
    exact (hk z hz).1) (by rw [← e2]; exact keeps_read hr)
  rw [e, ← e2] at this
  exact this
end Go.Proofs.Ytlodjkmablogcaa
