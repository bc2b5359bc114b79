/- The walk of the law SumsParts. -/
import Derived.Test.YtopinfpjflogdaaNil
import Derived.Test.YtopinfpjflogdaaOpen
namespace Go.Proofs.Ytopinfpjflogdaa
open Go.RowKit
set_option maxRecDepth 100000
set_option linter.unusedSimpArgs false
set_option linter.unusedVariables false
theorem cat_list (T s : ByteArray) : (T ++ s).data.toList = T.data.toList ++ s.data.toList := by rw [ByteArray.data_append, Array.toList_append]
theorem sumsParts_long (x : BitVec 32) (a : Option Addr) (len cap : Nat) (w : World) (hl : 30 < len) (hm : len ≤ maxLen) :
    Calls Try.prog 4 #[.int .u32 (iw x), .slice a len cap] w fun e w' => e = .returned (.bool true) ∧ Below w.heap.size w w' := by
  unfold maxLen at hm
  go_enter Try.func4, Try.ntmps4
  go_wp2_with (go_at_call 9; refine (nine_any _).mono ?_; rintro e w1 ⟨rfl, hb2⟩)
  go_ret
  exact ⟨rfl, hb2⟩
set_option maxHeartbeats 1000000 in
theorem sumsParts_main (x : BitVec 32) (a : Option Addr) (len cap : Nat) (zs : List ByteArray) (w : World) (hl : len ≤ 30) (hz : Row w 1 (fun s => [Value.string s]) a len zs) (hsz : ∀ s ∈ zs, s.size ≤ maxLen) :
    Calls Try.prog 4 #[.int .u32 (iw x), .slice a len cap] w fun e w' => e = .returned (.bool true) ∧ Below w.heap.size w w' := by
  obtain ⟨hzl, _, hrow⟩ := hz
  have Hrow := Lib.hid hrow; clear hrow
  have Hsz := Lib.hid hsz; clear hsz
  have Hzl := Lib.hid hzl; clear hzl
  go_enter Try.func4, Try.ntmps4
  go_wp2_with fail
  refine (new_any x _).mono ?_
  rintro e w1 ⟨rfl, rfl⟩
  go_wp2_with fail
  go_loopw [6, 7, 19] (fun v t i wr => ∃ (k : Nat) (T : ByteArray), k ≤ len ∧ i = .int .i64 k ∧ v = .int .u32 (iw (crc x T.data.toList)) ∧ t = .string T ∧ T.size ≤ 100 * k ∧
      wr.heap[w.heap.size]? = some (.cells #[.int .u32 (iw (reg (~~~x) T.data.toList))] 44 (0, 0)) ∧ Below w.heap.size w wr) (fun _ _ i _ => len - (intOf i).toNat)
  case atStart => exact ⟨0, ByteArray.empty, by omega, rfl, by simp [crc, reg], rfl, by simp, heap_new _ _, (Below.refl _ _).alloc (Nat.le_refl _) _⟩
  case round =>
    obtain ⟨k, T, hk, rfl, rfl, rfl, hT, hbk, belk⟩ := hrel
    have Hbk := Lib.hid hbk; clear hbk
    have Belk := Lib.hid belk; clear belk
    by_cases hlt : k < len
    · have hkz : k < zs.length := by rw [Hzl.out]; exact hlt
      obtain ⟨bz, off, rfl, hbz, hcz⟩ := Hrow.out (by omega)
      have hc0 := hcz k hkz 0 (by simp)
      have hsm := Hsz.out zs[k] (List.getElem_mem hkz)
      generalize zs[k] = s at *
      clear hcz hkz
      simp at hc0
      have hc := cell_below hc0 Belk.out hbz
      clear hc0
      have Hsm := Lib.hid hsm
      unfold maxLen at hsm
      by_cases hs100 : 100 < s.size
      · go_wp2_with (go_at_call 9; refine (nine_any _).mono ?_; rintro e w1 ⟨rfl, hb2⟩)
        go_ret
        exact ⟨rfl, below_two Belk.out hb2⟩
      · have hap := cat_list T s
        have hszz : (T ++ s).size = T.size + s.size := ByteArray.size_append
        obtain ⟨T2, hT2⟩ : ∃ T2, T ++ s = T2 := ⟨_, rfl⟩
        rw [hT2] at hap hszz
        have Hap := Lib.hid hap; clear hap
        have Hszz := Lib.hid hszz; clear hszz
        go_wp2_with fail
        refine (add_any _ _ s _ Hsm.out Hbk.out).mono ?_
        rintro e w2 ⟨rfl, hb, hg⟩
        rw [← reg_append, ← Hap.out] at hb
        have Hb2 := Lib.hid hb; clear hb
        have Bel2 := Lib.hid (below_grown Belk.out hg (Nat.le_refl _)); clear hg
        go_wp2_with fail
        refine (crc_any _ s _ Hsm.out).mono ?_
        rintro e w3 ⟨rfl, b⟩
        rw [crc_append, ← Hap.out]
        have Hb3 := Lib.hid (blk_below Hb2.out b)
        have Bel3 := Lib.hid (below_two Bel2.out b); clear b
        go_wp2_with fail
        refine (value_any _ _ _ Hb3.out).mono ?_
        rintro e w4 ⟨rfl, rfl⟩
        rw [show ~~~ (reg (~~~x) T2.data.toList) = crc x T2.data.toList from rfl]
        go_wp2_with fail
        refine (refcrc_any _ T2 _ (by rw [Hszz.out]; unfold maxLen; omega)).mono ?_
        rintro e w5 ⟨rfl, rfl⟩
        go_wp2_with fail
        refine (value_any _ _ _ Hb3.out).mono ?_
        rintro e w4 ⟨rfl, rfl⟩
        rw [show ~~~ (reg (~~~x) T2.data.toList) = crc x T2.data.toList from rfl]
        go_wp2
        go_roundw
        case rel => exact ⟨k + 1, T2, by omega, by go_num, rfl, rfl, by rw [Hszz.out]; omega, Hb3.out, Bel3.out⟩
        case measure => simp [intOf]; omega
    · go_wp2_with fail
      refine (value_any _ _ _ Hbk.out).mono ?_
      rintro e w4 ⟨rfl, rfl⟩
      rw [show ~~~ (reg (~~~x) T.data.toList) = crc x T.data.toList from rfl]
      go_wp2_with (go_at_call 9; refine (nine_any _).mono ?_; rintro e w1 ⟨rfl, hb2⟩)
      go_ret
      exact ⟨rfl, below_two Belk.out hb2⟩
theorem sumsParts_walk (b : Int) (a : Option Addr) (len cap : Nat) (zs : List ByteArray) (w : World) (hb : (Lit.int .u32 b).wf = true) (hz : Row w 1 (fun s => [Value.string s]) a len zs) (hsz : ∀ s ∈ zs, s.size ≤ maxLen) :
    Calls Try.prog 4 #[.int .u32 b, .slice a len cap] w fun e w' => e = .returned (.bool true) ∧ Below w.heap.size w w' := by
  obtain ⟨x, rfl⟩ := word_of hb
  by_cases hl : 30 < len
  · exact sumsParts_long x a len cap w hl hz.2.1
  · exact sumsParts_main x a len cap zs w (by omega) hz hsz
end Go.Proofs.Ytopinfpjflogdaa
