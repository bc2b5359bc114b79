/- nums.Fixed and the reference's Fixed at a number of bytes that is written out. -/
import Derived.Test.YtcgmgecdlanolaaArr
namespace Go.Proofs.Ytcgmgecdlanolaa.Own
open Go.RowKit
theorem fixed8 (v : Nat) (w : World) (hv : v < 18446744073709551616) : Calls Try.prog 20 #[.int .u64 (v : Int), .int .i64 8] w fun e w' => e = .returned (.tuple #[.string (sB (fixL 8 v)), .int .i64 0]) ∧ Below w.heap.size w w' := fixed_any v 8 w (by decide) (by decide) (by simpa using hv)
theorem fixed4 (v : Nat) (w : World) (hv : v < 4294967296) : Calls Try.prog 20 #[.int .u64 (v : Int), .int .i64 4] w fun e w' => e = .returned (.tuple #[.string (sB (fixL 4 v)), .int .i64 0]) ∧ Below w.heap.size w w' := fixed_any v 4 w (by decide) (by decide) (by simpa using hv)
theorem fixed2 (v : Nat) (w : World) (hv : v < 65536) : Calls Try.prog 20 #[.int .u64 (v : Int), .int .i64 2] w fun e w' => e = .returned (.tuple #[.string (sB (fixL 2 v)), .int .i64 0]) ∧ Below w.heap.size w w' := fixed_any v 2 w (by decide) (by decide) (by simpa using hv)
theorem reffixed8 (v : Nat) (w : World) (hv : v < 18446744073709551616) : Calls Try.prog 22 #[.int .u64 (v : Int), .int .i64 8] w fun e w' => e = .returned (.string (sB (fixL 8 v))) ∧ Below w.heap.size w w' := reffixed_any v 8 w (by decide) hv
theorem reffixed4 (v : Nat) (w : World) (hv : v < 4294967296) : Calls Try.prog 22 #[.int .u64 (v : Int), .int .i64 4] w fun e w' => e = .returned (.string (sB (fixL 4 v))) ∧ Below w.heap.size w w' := reffixed_any v 4 w (by decide) (by omega)
theorem reffixed2 (v : Nat) (w : World) (hv : v < 65536) : Calls Try.prog 22 #[.int .u64 (v : Int), .int .i64 2] w fun e w' => e = .returned (.string (sB (fixL 2 v))) ∧ Below w.heap.size w w' := reffixed_any v 2 w (by decide) (by omega)
end Go.Proofs.Ytcgmgecdlanolaa.Own
