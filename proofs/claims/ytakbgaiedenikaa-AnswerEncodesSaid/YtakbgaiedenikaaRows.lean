/-
  No cell of these rows narrows 'for every input' (looked for: loops, veiled, ifaces, maps, wideKeys, modest, calm, conditions, laid).
  DERIVED. THE GIVEN ROWS OF THIS SEAT. 4 by the template 'for every input the law returns true; each argument reads behind the call as it read before'; 0 by the template 'total and deterministic' (their statements: YtakbgaiedenikaaTotals.lean).
  GIVEN WITH THE SEED: the statements are not yours to turn. If you find one false, say at which input.
  Laid BY PROGRAM, IN A SANDBOX (cutbox-rows.mjs): the forced cells as the released guide's own fill.sh prints them over the translation 6b9b2d8e4d681668… (all of the seat's roots in one cut). By AI agents, Wed Nov 11 2026. No macro, syntax, notation, axiom, sorry.
-/
import Derived.Test.YtakbgaiedenikaaChecked
import GoSem.Claim
import GoSem.ClaimJoined
import GoSem.ClaimMapViews
import Derived.JoinedTies
import Derived.KernelRfl
namespace Go.Proofs.Ytakbgaiedenikaa
/- THE CELL 'sum', in the pinned program and in every row, IS THE sha256 OF THE DUMP (.gsa) THAT YtakbgaiedenikaaProg.lean LOADS. Nothing in Lean hashes anything: it is a label: what it is worth is what the hold of that sum in a sandbox is worth. -/
noncomputable def Try.pinned : Pinned := { name := "ytakbgaiedenikaa", sum := "6b9b2d8e4d681668aefc85d7a29c1cb5266b538dc0d19d40b9100837f8cf9e59", checked := Try.checked }
namespace Rows
def none {H : Type} : Left H := { results := [], args := [] }

/-- 'weighlocklaw35.AnswerEncodes': WHATEVER THE INPUT: true; the input reads as it did. -/
def answerEncodesSpec : ChangeSpec := { name := "answerEncodes", fn := fun _ => fun
  | [d] => { results := [.lit (.bool true)], args := [d] }
  | _ => none }
def answerEncodesRow : OpenClaim := { program := "ytakbgaiedenikaa", sum := "6b9b2d8e4d681668aefc85d7a29c1cb5266b538dc0d19d40b9100837f8cf9e59", func := "weighlock/weighlocklaw35.AnswerEncodes", spec := "answerEncodes", inPlace := ["internal/abi.NoEscape", "internal/bytealg.MakeNoZero"], unfollowed := true, recurses := true, apart := false }
def AnswerEncodesSaid : Prop := answerEncodesRow.holds Try.pinned (OpenSpec.ofChange answerEncodesSpec)

/-- ITS FALSE NEIGHBOUR: 'it returns false'. Refute it at one input. -/
def answerEncodesWrong : ChangeSpec := { name := "answerEncodes", fn := fun _ => fun
  | [d] => { results := [.lit (.bool false)], args := [d] }
  | _ => none }
def AnswerEncodesWrongFalsely : Prop := answerEncodesRow.holds Try.pinned (OpenSpec.ofChange answerEncodesWrong)

/-- 'weighlocklaw35.AnswerDecodes': WHATEVER THE INPUT: true; the input reads as it did. -/
def answerDecodesSpec : ChangeSpec := { name := "answerDecodes", fn := fun _ => fun
  | [d] => { results := [.lit (.bool true)], args := [d] }
  | _ => none }
def answerDecodesRow : OpenClaim := { program := "ytakbgaiedenikaa", sum := "6b9b2d8e4d681668aefc85d7a29c1cb5266b538dc0d19d40b9100837f8cf9e59", func := "weighlock/weighlocklaw35.AnswerDecodes", spec := "answerDecodes", inPlace := ["internal/abi.NoEscape", "internal/bytealg.MakeNoZero"], unfollowed := true, recurses := true, apart := false }
def AnswerDecodesSaid : Prop := answerDecodesRow.holds Try.pinned (OpenSpec.ofChange answerDecodesSpec)

/-- ITS FALSE NEIGHBOUR: 'it returns false'. Refute it at one input. -/
def answerDecodesWrong : ChangeSpec := { name := "answerDecodes", fn := fun _ => fun
  | [d] => { results := [.lit (.bool false)], args := [d] }
  | _ => none }
def AnswerDecodesWrongFalsely : Prop := answerDecodesRow.holds Try.pinned (OpenSpec.ofChange answerDecodesWrong)

/-- 'weighlocklaw35.AnswerPlain': WHATEVER THE INPUT: true; the input reads as it did. -/
def answerPlainSpec : ChangeSpec := { name := "answerPlain", fn := fun _ => fun
  | [d1, d2, d3] => { results := [.lit (.bool true)], args := [d1, d2, d3] }
  | _ => none }
def answerPlainRow : OpenClaim := { program := "ytakbgaiedenikaa", sum := "6b9b2d8e4d681668aefc85d7a29c1cb5266b538dc0d19d40b9100837f8cf9e59", func := "weighlock/weighlocklaw35.AnswerPlain", spec := "answerPlain", inPlace := ["internal/abi.NoEscape", "internal/bytealg.MakeNoZero"], unfollowed := true, recurses := true, apart := false }
def AnswerPlainSaid : Prop := answerPlainRow.holds Try.pinned (OpenSpec.ofChange answerPlainSpec)

/-- ITS FALSE NEIGHBOUR: 'it returns false'. Refute it at one input. -/
def answerPlainWrong : ChangeSpec := { name := "answerPlain", fn := fun _ => fun
  | [d1, d2, d3] => { results := [.lit (.bool false)], args := [d1, d2, d3] }
  | _ => none }
def AnswerPlainWrongFalsely : Prop := answerPlainRow.holds Try.pinned (OpenSpec.ofChange answerPlainWrong)

/-- 'weighlocklaw35.AnswerFits': WHATEVER THE INPUT: true; the input reads as it did. -/
def answerFitsSpec : ChangeSpec := { name := "answerFits", fn := fun _ => fun
  | [d1, d2, d3] => { results := [.lit (.bool true)], args := [d1, d2, d3] }
  | _ => none }
def answerFitsRow : OpenClaim := { program := "ytakbgaiedenikaa", sum := "6b9b2d8e4d681668aefc85d7a29c1cb5266b538dc0d19d40b9100837f8cf9e59", func := "weighlock/weighlocklaw35.AnswerFits", spec := "answerFits", inPlace := ["internal/abi.NoEscape", "internal/bytealg.MakeNoZero"], unfollowed := true, recurses := true, apart := false }
def AnswerFitsSaid : Prop := answerFitsRow.holds Try.pinned (OpenSpec.ofChange answerFitsSpec)

/-- ITS FALSE NEIGHBOUR: 'it returns false'. Refute it at one input. -/
def answerFitsWrong : ChangeSpec := { name := "answerFits", fn := fun _ => fun
  | [d1, d2, d3] => { results := [.lit (.bool false)], args := [d1, d2, d3] }
  | _ => none }
def AnswerFitsWrongFalsely : Prop := answerFitsRow.holds Try.pinned (OpenSpec.ofChange answerFitsWrong)

/- THE SECOND FORM. 'bulk': how many values and letters a reading holds, each counted each time it is reached (what is shared counts as often as it is met; a slice's spare places count too). A statement '..UptoSaid' is the law's where the arguments, and the package variables that the reading takes, are together of bulk at most 1048576: NARROWER than '..Said'. Prove '..Said' where nothing that the law and all that it calls make is longer than what came in: it says more and counts as full. Else prove '..UptoSaid'. A law counts once. -/
mutual
def uptoBulk {H : Type} : DataW H → Nat
  | .lit (.string bytes) => bytes.length + 1
  | .lit _ => 1
  | .nil => 1
  | .ptr d => uptoBulk d + 1
  | .slice elems spare => uptoBulkAll elems + uptoBulkAll spare + 1
  | .agg parts => uptoBulkAll parts + 1
  | .iface _ d => uptoBulk d + 1
  | .map entries => uptoBulkEntries entries + 1
  | .held _ => 1
def uptoBulkAll {H : Type} : List (DataW H) → Nat
  | [] => 0
  | d :: r => uptoBulk d + uptoBulkAll r
def uptoBulkEntries {H : Type} : List (Lit × DataW H) → Nat
  | [] => 0
  | x :: r => uptoBulkEntry x + uptoBulkEntries r
def uptoBulkEntry {H : Type} : Lit × DataW H → Nat
  | (.string bytes, d) => bytes.length + uptoBulk d + 1
  | (_, d) => uptoBulk d + 1
 end
def uptoSmall : (H : Type) → List (DataW H) → Bool := fun _ ds => decide (uptoBulkAll ds ≤ 1048576)
def OpenSpec.upto (s : _root_.Go.ChangeSpec) : _root_.Go.OpenSpec := { _root_.Go.OpenSpec.ofChange s with cond := some uptoSmall }

/-- 'weighlocklaw35.AnswerEncodes', WHERE WHAT IT READS IS OF BULK AT MOST 1048576: true; the input reads as it did. -/
def answerEncodesUptoRow : OpenClaim := { program := "ytakbgaiedenikaa", sum := "6b9b2d8e4d681668aefc85d7a29c1cb5266b538dc0d19d40b9100837f8cf9e59", func := "weighlock/weighlocklaw35.AnswerEncodes", spec := "answerEncodes", inPlace := ["internal/abi.NoEscape", "internal/bytealg.MakeNoZero"], unfollowed := true, recurses := true, apart := false, narrowed := true }
def AnswerEncodesUptoSaid : Prop := answerEncodesUptoRow.holds Try.pinned (OpenSpec.upto answerEncodesSpec)

/-- 'weighlocklaw35.AnswerDecodes', WHERE WHAT IT READS IS OF BULK AT MOST 1048576: true; the input reads as it did. -/
def answerDecodesUptoRow : OpenClaim := { program := "ytakbgaiedenikaa", sum := "6b9b2d8e4d681668aefc85d7a29c1cb5266b538dc0d19d40b9100837f8cf9e59", func := "weighlock/weighlocklaw35.AnswerDecodes", spec := "answerDecodes", inPlace := ["internal/abi.NoEscape", "internal/bytealg.MakeNoZero"], unfollowed := true, recurses := true, apart := false, narrowed := true }
def AnswerDecodesUptoSaid : Prop := answerDecodesUptoRow.holds Try.pinned (OpenSpec.upto answerDecodesSpec)

/-- 'weighlocklaw35.AnswerPlain', WHERE WHAT IT READS IS OF BULK AT MOST 1048576: true; the input reads as it did. -/
def answerPlainUptoRow : OpenClaim := { program := "ytakbgaiedenikaa", sum := "6b9b2d8e4d681668aefc85d7a29c1cb5266b538dc0d19d40b9100837f8cf9e59", func := "weighlock/weighlocklaw35.AnswerPlain", spec := "answerPlain", inPlace := ["internal/abi.NoEscape", "internal/bytealg.MakeNoZero"], unfollowed := true, recurses := true, apart := false, narrowed := true }
def AnswerPlainUptoSaid : Prop := answerPlainUptoRow.holds Try.pinned (OpenSpec.upto answerPlainSpec)

/-- 'weighlocklaw35.AnswerFits', WHERE WHAT IT READS IS OF BULK AT MOST 1048576: true; the input reads as it did. -/
def answerFitsUptoRow : OpenClaim := { program := "ytakbgaiedenikaa", sum := "6b9b2d8e4d681668aefc85d7a29c1cb5266b538dc0d19d40b9100837f8cf9e59", func := "weighlock/weighlocklaw35.AnswerFits", spec := "answerFits", inPlace := ["internal/abi.NoEscape", "internal/bytealg.MakeNoZero"], unfollowed := true, recurses := true, apart := false, narrowed := true }
def AnswerFitsUptoSaid : Prop := answerFitsUptoRow.holds Try.pinned (OpenSpec.upto answerFitsSpec)

end Rows
end Go.Proofs.Ytakbgaiedenikaa
