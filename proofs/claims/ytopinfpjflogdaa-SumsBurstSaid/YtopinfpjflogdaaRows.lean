/-
  No cell of these rows narrows 'for every input' (looked for: loops, veiled, ifaces, maps, wideKeys, modest, calm, conditions, laid).
  DERIVED. THE GIVEN ROWS OF THIS SEAT. 6 by the template 'for every input the law returns true; each argument reads behind the call as it read before'; 0 by the template 'total and deterministic' (their statements: YtopinfpjflogdaaTotals.lean).
  GIVEN WITH THE SEED: the statements are not yours to turn. If you find one false, say at which input.
  Laid BY PROGRAM, IN A SANDBOX (cutbox-rows.mjs): the forced cells as the released guide's own fill.sh prints them over the translation f359b06a02e41033… (all of the seat's roots in one cut). By AI agents, Wed Nov 11 2026. No macro, syntax, notation, axiom, sorry.
-/
import Derived.Test.YtopinfpjflogdaaChecked
import GoSem.Claim
import GoSem.ClaimJoined
import GoSem.ClaimMapViews
import Derived.JoinedTies
import Derived.KernelRfl
namespace Go.Proofs.Ytopinfpjflogdaa
/- THE CELL 'sum', in the pinned program and in every row, IS THE sha256 OF THE DUMP (.gsa) THAT YtopinfpjflogdaaProg.lean LOADS. Nothing in Lean hashes anything: it is a label: what it is worth is what the hold of that sum in a sandbox is worth. -/
noncomputable def Try.pinned : Pinned := { name := "ytopinfpjflogdaa", sum := "f359b06a02e4103382f3a2904f61fcaba507ada162058c6e66bf3336b14cf1d2", checked := Try.checked }
namespace Rows
def none {H : Type} : Left H := { results := [], args := [] }

/-- 'weighlocklaw02.SumsOf': WHATEVER THE INPUT: true; the input reads as it did. -/
def sumsOfSpec : ChangeSpec := { name := "sumsOf", fn := fun _ => fun
  | [d1, d2] => { results := [.lit (.bool true)], args := [d1, d2] }
  | _ => none }
def sumsOfRow : OpenClaim := { program := "ytopinfpjflogdaa", sum := "f359b06a02e4103382f3a2904f61fcaba507ada162058c6e66bf3336b14cf1d2", func := "weighlock/weighlocklaw02.SumsOf", spec := "sumsOf", apart := false }
def SumsOfSaid : Prop := sumsOfRow.holds Try.pinned (OpenSpec.ofChange sumsOfSpec)

/-- ITS FALSE NEIGHBOUR: 'it returns false'. Refute it at one input. -/
def sumsOfWrong : ChangeSpec := { name := "sumsOf", fn := fun _ => fun
  | [d1, d2] => { results := [.lit (.bool false)], args := [d1, d2] }
  | _ => none }
def SumsOfWrongFalsely : Prop := sumsOfRow.holds Try.pinned (OpenSpec.ofChange sumsOfWrong)

/-- 'weighlocklaw02.SumsParts': WHATEVER THE INPUT: true; the input reads as it did. -/
def sumsPartsSpec : ChangeSpec := { name := "sumsParts", fn := fun _ => fun
  | [d1, d2] => { results := [.lit (.bool true)], args := [d1, d2] }
  | _ => none }
def sumsPartsRow : OpenClaim := { program := "ytopinfpjflogdaa", sum := "f359b06a02e4103382f3a2904f61fcaba507ada162058c6e66bf3336b14cf1d2", func := "weighlock/weighlocklaw02.SumsParts", spec := "sumsParts", apart := false }
def SumsPartsSaid : Prop := sumsPartsRow.holds Try.pinned (OpenSpec.ofChange sumsPartsSpec)

/-- ITS FALSE NEIGHBOUR: 'it returns false'. Refute it at one input. -/
def sumsPartsWrong : ChangeSpec := { name := "sumsParts", fn := fun _ => fun
  | [d1, d2] => { results := [.lit (.bool false)], args := [d1, d2] }
  | _ => none }
def SumsPartsWrongFalsely : Prop := sumsPartsRow.holds Try.pinned (OpenSpec.ofChange sumsPartsWrong)

/-- 'weighlocklaw02.SumsBit': WHATEVER THE INPUT: true; the input reads as it did. -/
def sumsBitSpec : ChangeSpec := { name := "sumsBit", fn := fun _ => fun
  | [d1, d2, d3] => { results := [.lit (.bool true)], args := [d1, d2, d3] }
  | _ => none }
def sumsBitRow : OpenClaim := { program := "ytopinfpjflogdaa", sum := "f359b06a02e4103382f3a2904f61fcaba507ada162058c6e66bf3336b14cf1d2", func := "weighlock/weighlocklaw02.SumsBit", spec := "sumsBit", apart := false }
def SumsBitSaid : Prop := sumsBitRow.holds Try.pinned (OpenSpec.ofChange sumsBitSpec)

/-- ITS FALSE NEIGHBOUR: 'it returns false'. Refute it at one input. -/
def sumsBitWrong : ChangeSpec := { name := "sumsBit", fn := fun _ => fun
  | [d1, d2, d3] => { results := [.lit (.bool false)], args := [d1, d2, d3] }
  | _ => none }
def SumsBitWrongFalsely : Prop := sumsBitRow.holds Try.pinned (OpenSpec.ofChange sumsBitWrong)

/-- 'weighlocklaw02.SumsBurst': WHATEVER THE INPUT: true; the input reads as it did. -/
def sumsBurstSpec : ChangeSpec := { name := "sumsBurst", fn := fun _ => fun
  | [d1, d2, d3] => { results := [.lit (.bool true)], args := [d1, d2, d3] }
  | _ => none }
def sumsBurstRow : OpenClaim := { program := "ytopinfpjflogdaa", sum := "f359b06a02e4103382f3a2904f61fcaba507ada162058c6e66bf3336b14cf1d2", func := "weighlock/weighlocklaw02.SumsBurst", spec := "sumsBurst", apart := false }
def SumsBurstSaid : Prop := sumsBurstRow.holds Try.pinned (OpenSpec.ofChange sumsBurstSpec)

/-- ITS FALSE NEIGHBOUR: 'it returns false'. Refute it at one input. -/
def sumsBurstWrong : ChangeSpec := { name := "sumsBurst", fn := fun _ => fun
  | [d1, d2, d3] => { results := [.lit (.bool false)], args := [d1, d2, d3] }
  | _ => none }
def SumsBurstWrongFalsely : Prop := sumsBurstRow.holds Try.pinned (OpenSpec.ofChange sumsBurstWrong)

/-- 'weighlocklaw02.SumsBegin': WHATEVER THE INPUT: true; the input reads as it did. -/
def sumsBeginSpec : ChangeSpec := { name := "sumsBegin", fn := fun _ => fun
  | [d1, d2, d3] => { results := [.lit (.bool true)], args := [d1, d2, d3] }
  | _ => none }
def sumsBeginRow : OpenClaim := { program := "ytopinfpjflogdaa", sum := "f359b06a02e4103382f3a2904f61fcaba507ada162058c6e66bf3336b14cf1d2", func := "weighlock/weighlocklaw02.SumsBegin", spec := "sumsBegin", apart := false }
def SumsBeginSaid : Prop := sumsBeginRow.holds Try.pinned (OpenSpec.ofChange sumsBeginSpec)

/-- ITS FALSE NEIGHBOUR: 'it returns false'. Refute it at one input. -/
def sumsBeginWrong : ChangeSpec := { name := "sumsBegin", fn := fun _ => fun
  | [d1, d2, d3] => { results := [.lit (.bool false)], args := [d1, d2, d3] }
  | _ => none }
def SumsBeginWrongFalsely : Prop := sumsBeginRow.holds Try.pinned (OpenSpec.ofChange sumsBeginWrong)

/-- 'weighlocklaw02.SumsNil': WHATEVER THE INPUT: true; the input reads as it did. -/
def sumsNilSpec : ChangeSpec := { name := "sumsNil", fn := fun _ => fun
  | [d] => { results := [.lit (.bool true)], args := [d] }
  | _ => none }
def sumsNilRow : OpenClaim := { program := "ytopinfpjflogdaa", sum := "f359b06a02e4103382f3a2904f61fcaba507ada162058c6e66bf3336b14cf1d2", func := "weighlock/weighlocklaw02.SumsNil", spec := "sumsNil", apart := false }
def SumsNilSaid : Prop := sumsNilRow.holds Try.pinned (OpenSpec.ofChange sumsNilSpec)

/-- ITS FALSE NEIGHBOUR: 'it returns false'. Refute it at one input. -/
def sumsNilWrong : ChangeSpec := { name := "sumsNil", fn := fun _ => fun
  | [d] => { results := [.lit (.bool false)], args := [d] }
  | _ => none }
def SumsNilWrongFalsely : Prop := sumsNilRow.holds Try.pinned (OpenSpec.ofChange sumsNilWrong)

/- THE SECOND FORM. 'bulk': how many values and letters a reading holds, each counted each time it is reached (what is shared counts as often as it is met; a slice's spare places count too). A statement '..UptoSaid' is the law's where the arguments, and the package variables that the reading takes, are together of bulk at most 1048576: NARROWER than '..Said'. Prove '..Said' where nothing that the law and all that it calls make is longer than what came in: it says more and counts as full. Else prove '..UptoSaid'. A law counts once. -/
mutual
def uptoBulk {H : Type} : DataW H → Nat
  | .lit (.string bytes) => bytes.length + 1
  | .lit _ => 1
  | .nil => 1
  | .ptr d => uptoBulk d + 1
  | .slice elems spare => uptoBulkAll elems + uptoBulkAll spare + 1
  | .agg parts => uptoBulkAll parts + 1
  | .iface _ d => uptoBulk d + 1
  | .map entries => uptoBulkEntries entries + 1
  | .held _ => 1
def uptoBulkAll {H : Type} : List (DataW H) → Nat
  | [] => 0
  | d :: r => uptoBulk d + uptoBulkAll r
def uptoBulkEntries {H : Type} : List (Lit × DataW H) → Nat
  | [] => 0
  | x :: r => uptoBulkEntry x + uptoBulkEntries r
def uptoBulkEntry {H : Type} : Lit × DataW H → Nat
  | (.string bytes, d) => bytes.length + uptoBulk d + 1
  | (_, d) => uptoBulk d + 1
 end
def uptoSmall : (H : Type) → List (DataW H) → Bool := fun _ ds => decide (uptoBulkAll ds ≤ 1048576)
def OpenSpec.upto (s : _root_.Go.ChangeSpec) : _root_.Go.OpenSpec := { _root_.Go.OpenSpec.ofChange s with cond := some uptoSmall }

/-- 'weighlocklaw02.SumsOf', WHERE WHAT IT READS IS OF BULK AT MOST 1048576: true; the input reads as it did. -/
def sumsOfUptoRow : OpenClaim := { program := "ytopinfpjflogdaa", sum := "f359b06a02e4103382f3a2904f61fcaba507ada162058c6e66bf3336b14cf1d2", func := "weighlock/weighlocklaw02.SumsOf", spec := "sumsOf", apart := false, narrowed := true }
def SumsOfUptoSaid : Prop := sumsOfUptoRow.holds Try.pinned (OpenSpec.upto sumsOfSpec)

/-- 'weighlocklaw02.SumsParts', WHERE WHAT IT READS IS OF BULK AT MOST 1048576: true; the input reads as it did. -/
def sumsPartsUptoRow : OpenClaim := { program := "ytopinfpjflogdaa", sum := "f359b06a02e4103382f3a2904f61fcaba507ada162058c6e66bf3336b14cf1d2", func := "weighlock/weighlocklaw02.SumsParts", spec := "sumsParts", apart := false, narrowed := true }
def SumsPartsUptoSaid : Prop := sumsPartsUptoRow.holds Try.pinned (OpenSpec.upto sumsPartsSpec)

/-- 'weighlocklaw02.SumsBit', WHERE WHAT IT READS IS OF BULK AT MOST 1048576: true; the input reads as it did. -/
def sumsBitUptoRow : OpenClaim := { program := "ytopinfpjflogdaa", sum := "f359b06a02e4103382f3a2904f61fcaba507ada162058c6e66bf3336b14cf1d2", func := "weighlock/weighlocklaw02.SumsBit", spec := "sumsBit", apart := false, narrowed := true }
def SumsBitUptoSaid : Prop := sumsBitUptoRow.holds Try.pinned (OpenSpec.upto sumsBitSpec)

/-- 'weighlocklaw02.SumsBurst', WHERE WHAT IT READS IS OF BULK AT MOST 1048576: true; the input reads as it did. -/
def sumsBurstUptoRow : OpenClaim := { program := "ytopinfpjflogdaa", sum := "f359b06a02e4103382f3a2904f61fcaba507ada162058c6e66bf3336b14cf1d2", func := "weighlock/weighlocklaw02.SumsBurst", spec := "sumsBurst", apart := false, narrowed := true }
def SumsBurstUptoSaid : Prop := sumsBurstUptoRow.holds Try.pinned (OpenSpec.upto sumsBurstSpec)

/-- 'weighlocklaw02.SumsBegin', WHERE WHAT IT READS IS OF BULK AT MOST 1048576: true; the input reads as it did. -/
def sumsBeginUptoRow : OpenClaim := { program := "ytopinfpjflogdaa", sum := "f359b06a02e4103382f3a2904f61fcaba507ada162058c6e66bf3336b14cf1d2", func := "weighlock/weighlocklaw02.SumsBegin", spec := "sumsBegin", apart := false, narrowed := true }
def SumsBeginUptoSaid : Prop := sumsBeginUptoRow.holds Try.pinned (OpenSpec.upto sumsBeginSpec)

/-- 'weighlocklaw02.SumsNil', WHERE WHAT IT READS IS OF BULK AT MOST 1048576: true; the input reads as it did. -/
def sumsNilUptoRow : OpenClaim := { program := "ytopinfpjflogdaa", sum := "f359b06a02e4103382f3a2904f61fcaba507ada162058c6e66bf3336b14cf1d2", func := "weighlock/weighlocklaw02.SumsNil", spec := "sumsNil", apart := false, narrowed := true }
def SumsNilUptoSaid : Prop := sumsNilUptoRow.holds Try.pinned (OpenSpec.upto sumsNilSpec)

end Rows
end Go.Proofs.Ytopinfpjflogdaa
