-- written by a program of this claim (a changed copy of a tool of the kit)
import Derived.Test.YtmkpdknlkblegaaPAx0
import Derived.Test.YtmkpdknlkblegaaPS
import Derived.Test.YtmkpdknlkblegaaPAx8
namespace Go.Proofs.Ytmkpdknlkblegaa.PA
open Go.RowKit Go.Proofs.YtmkpdknlkblegaaW.PrintWords Go.Proofs.YtmkpdknlkblegaaW.PrintLast Go.Proofs.YtmkpdknlkblegaaW.PrintMore
attribute [local go_sem] max2_int min2_int max_two min_two max_three min_three max_four min_four   -- for this text's walks alone
set_option linter.unusedVariables false
set_option linter.unusedSimpArgs false

attribute [local go_sem high] eqA23
/-! ### weighlocklaw16_one: function 9 -/
def weighlocklaw16_one.f (k : Nat)  : Option (Bool) := (record_Encode.f 1 2 (⟨#[97]⟩ : ByteArray) (⟨#[98]⟩ : ByteArray) false 0 0 0).bind fun bt127 => (if bt127.1.size + 4 ≤ 9223372036854775807 then ((record_Decode.f (bt127.1 ++ (⟨#[109, 111, 114, 101]⟩ : ByteArray))).bind fun bt129 => ((record_Unpack.f k bt127.1).bind fun bt140 => (if bt127.2 = 0 then (if bt129.2.2.2.2.2.2.2.2.2 = 0 then (if bt140.2 = 0 then (if bt127.1.toList = ([1, 2, 0, 0, 0, 0, 1, 97, 1, 98] : List UInt8) then (if (bt129.1 == 1 && (bt129.2.1 == 2 && (bt129.2.2.1.toList == ([97] : List UInt8) && (bt129.2.2.2.1.toList == ([98] : List UInt8) && (!bt129.2.2.2.2.1 && (bt129.2.2.2.2.2.1 == 0 && (bt129.2.2.2.2.2.2.1 == 0 && (bt129.2.2.2.2.2.2.2.1 == 0)))))))) = true then (if bt129.2.2.2.2.2.2.2.2.1 = 10 then (if (bt140.1.length : Int) = 1 then ((record_Size.f 1 2 (⟨#[97]⟩ : ByteArray) (⟨#[98]⟩ : ByteArray) false 0 0 0).bind fun t144 => (if t144 = 10 then ((record_May.f 1 2 (⟨#[97]⟩ : ByteArray) (⟨#[98]⟩ : ByteArray) false 0 0 0).bind fun t145 => (some t145)) else (some false))) else (some false)) else (some false)) else (some false)) else (some false)) else (some false)) else (some false)) else (some false)))) else (none))
theorem weighlocklaw16_one.mono : ∀ k, LeO (weighlocklaw16_one.f k ) (weighlocklaw16_one.f (k + 1) ) := by
  intro  k
  unfold weighlocklaw16_one.f
  repeat' first
      | (with_reducible exact record_Unpack.mono _ _)
      | (with_reducible exact LeO.refl _)
      | (with_reducible exact LeO.none _)
      | (with_reducible refine LeO.ite ?_ ?_)
      | (with_reducible refine LeO.bind ?_ (fun _ => ?_))
      | exact record_Unpack.mono _ _
      | exact LeO.none _
      | refine LeO.ite ?_ ?_
      | refine LeO.bind ?_ (fun _ => ?_)
end Go.Proofs.Ytmkpdknlkblegaa.PA
