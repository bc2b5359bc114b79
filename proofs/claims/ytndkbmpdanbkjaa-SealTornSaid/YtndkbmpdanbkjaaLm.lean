/- Sealed sectors: two lemmas more. -/
import Derived.Test.YtndkbmpdanbkjaaBx2
namespace Go.Proofs.Ytndkbmpdanbkjaa.Own
open Go.RowKit
set_option maxRecDepth 100000
set_option linter.unusedSimpArgs false
set_option linter.unusedVariables false
theorem open_seal {S C : Nat} {d : List UInt8} (hS : S < 4294967296) (hC1 : 1 ≤ C) (hC : C ≤ 65535) (hd : d.length = 52) (w : World) :
    Calls Try.prog 6 #[.string (sB (sealL S C d))] w fun e w' => e = .returned (.tuple #[.int .u32 (S : Int), .int .i64 (C : Int), .string (sB d), .int .i64 0]) ∧ Below w.heap.size w w' := by
  have := open_ok (sealL_ok (st := S) hd hC1 (show C < 65536 by omega)) w
  rwa [sealL_st hS, sealL_c (by omega), sealL_data _ _ hd] at this
theorem torn_eq (S T : List UInt8) (cu : Nat) : (sB S).extract 0 cu ++ (sB T).extract cu (sB T).size = sB (S.take cu ++ T.drop cu) := by
  rw [ext_sB, ext_sB, sB_append, sB_size, List.drop_zero, Nat.sub_zero, List.take_of_length_le (show (T.drop cu).length ≤ T.length - cu by rw [List.length_drop]; exact Nat.le_refl _)]
end Go.Proofs.Ytndkbmpdanbkjaa.Own
