/-
  No cell of these rows narrows 'for every input' (looked for: loops, veiled, ifaces, maps, wideKeys, modest, calm, conditions, laid).
  DERIVED. THE GIVEN ROWS OF THIS SEAT. 4 by the template 'for every input the law returns true; each argument reads behind the call as it read before'; 0 by the template 'total and deterministic' (their statements: YtcgmgecdlanolaaTotals.lean).
  GIVEN WITH THE SEED: the statements are not yours to turn. If you find one false, say at which input.
  Laid BY PROGRAM, IN A SANDBOX (cutbox-rows.mjs): the forced cells as the released guide's own fill.sh prints them over the translation d8268ff9e974baeb… (all of the seat's roots in one cut). By AI agents, Wed Nov 11 2026. No macro, syntax, notation, axiom, sorry.
-/
import Derived.Test.YtcgmgecdlanolaaChecked
import GoSem.Claim
import GoSem.ClaimJoined
import GoSem.ClaimMapViews
import Derived.JoinedTies
import Derived.KernelRfl
namespace Go.Proofs.Ytcgmgecdlanolaa
/- THE CELL 'sum', in the pinned program and in every row, IS THE sha256 OF THE DUMP (.gsa) THAT YtcgmgecdlanolaaProg.lean LOADS. Nothing in Lean hashes anything: it is a label: what it is worth is what the hold of that sum in a sandbox is worth. -/
noncomputable def Try.pinned : Pinned := { name := "ytcgmgecdlanolaa", sum := "d8268ff9e974baeb3a4dc7c3905ed54051c2caa334073e9cd0f9d07794ee39f5", checked := Try.checked }
namespace Rows
def none {H : Type} : Left H := { results := [], args := [] }

/-- 'weighlocklaw11.HeaderCodes': WHATEVER THE INPUT: true; the input reads as it did. -/
def headerCodesSpec : ChangeSpec := { name := "headerCodes", fn := fun _ => fun
  | [d1, d2] => { results := [.lit (.bool true)], args := [d1, d2] }
  | _ => none }
def headerCodesRow : OpenClaim := { program := "ytcgmgecdlanolaa", sum := "d8268ff9e974baeb3a4dc7c3905ed54051c2caa334073e9cd0f9d07794ee39f5", func := "weighlock/weighlocklaw11.HeaderCodes", spec := "headerCodes", apart := false }
def HeaderCodesSaid : Prop := headerCodesRow.holds Try.pinned (OpenSpec.ofChange headerCodesSpec)

/-- ITS FALSE NEIGHBOUR: 'it returns false'. Refute it at one input. -/
def headerCodesWrong : ChangeSpec := { name := "headerCodes", fn := fun _ => fun
  | [d1, d2] => { results := [.lit (.bool false)], args := [d1, d2] }
  | _ => none }
def HeaderCodesWrongFalsely : Prop := headerCodesRow.holds Try.pinned (OpenSpec.ofChange headerCodesWrong)

/-- 'weighlocklaw11.HeaderStamps': WHATEVER THE INPUT: true; the input reads as it did. -/
def headerStampsSpec : ChangeSpec := { name := "headerStamps", fn := fun _ => fun
  | [d1, d2, d3] => { results := [.lit (.bool true)], args := [d1, d2, d3] }
  | _ => none }
def headerStampsRow : OpenClaim := { program := "ytcgmgecdlanolaa", sum := "d8268ff9e974baeb3a4dc7c3905ed54051c2caa334073e9cd0f9d07794ee39f5", func := "weighlock/weighlocklaw11.HeaderStamps", spec := "headerStamps", apart := false }
def HeaderStampsSaid : Prop := headerStampsRow.holds Try.pinned (OpenSpec.ofChange headerStampsSpec)

/-- ITS FALSE NEIGHBOUR: 'it returns false'. Refute it at one input. -/
def headerStampsWrong : ChangeSpec := { name := "headerStamps", fn := fun _ => fun
  | [d1, d2, d3] => { results := [.lit (.bool false)], args := [d1, d2, d3] }
  | _ => none }
def HeaderStampsWrongFalsely : Prop := headerStampsRow.holds Try.pinned (OpenSpec.ofChange headerStampsWrong)

/-- 'weighlocklaw11.HeaderBefore': WHATEVER THE INPUT: true; the input reads as it did. -/
def headerBeforeSpec : ChangeSpec := { name := "headerBefore", fn := fun _ => fun
  | [d1, d2] => { results := [.lit (.bool true)], args := [d1, d2] }
  | _ => none }
def headerBeforeRow : OpenClaim := { program := "ytcgmgecdlanolaa", sum := "d8268ff9e974baeb3a4dc7c3905ed54051c2caa334073e9cd0f9d07794ee39f5", func := "weighlock/weighlocklaw11.HeaderBefore", spec := "headerBefore", apart := false }
def HeaderBeforeSaid : Prop := headerBeforeRow.holds Try.pinned (OpenSpec.ofChange headerBeforeSpec)

/-- ITS FALSE NEIGHBOUR: 'it returns false'. Refute it at one input. -/
def headerBeforeWrong : ChangeSpec := { name := "headerBefore", fn := fun _ => fun
  | [d1, d2] => { results := [.lit (.bool false)], args := [d1, d2] }
  | _ => none }
def HeaderBeforeWrongFalsely : Prop := headerBeforeRow.holds Try.pinned (OpenSpec.ofChange headerBeforeWrong)

/-- 'weighlocklaw11.HeaderChain': WHATEVER THE INPUT: true; the input reads as it did. -/
def headerChainSpec : ChangeSpec := { name := "headerChain", fn := fun _ => fun
  | [d1, d2, d3] => { results := [.lit (.bool true)], args := [d1, d2, d3] }
  | _ => none }
def headerChainRow : OpenClaim := { program := "ytcgmgecdlanolaa", sum := "d8268ff9e974baeb3a4dc7c3905ed54051c2caa334073e9cd0f9d07794ee39f5", func := "weighlock/weighlocklaw11.HeaderChain", spec := "headerChain", apart := false }
def HeaderChainSaid : Prop := headerChainRow.holds Try.pinned (OpenSpec.ofChange headerChainSpec)

/-- ITS FALSE NEIGHBOUR: 'it returns false'. Refute it at one input. -/
def headerChainWrong : ChangeSpec := { name := "headerChain", fn := fun _ => fun
  | [d1, d2, d3] => { results := [.lit (.bool false)], args := [d1, d2, d3] }
  | _ => none }
def HeaderChainWrongFalsely : Prop := headerChainRow.holds Try.pinned (OpenSpec.ofChange headerChainWrong)

/- THE SECOND FORM. 'bulk': how many values and letters a reading holds, each counted each time it is reached (what is shared counts as often as it is met; a slice's spare places count too). A statement '..UptoSaid' is the law's where the arguments, and the package variables that the reading takes, are together of bulk at most 1048576: NARROWER than '..Said'. Prove '..Said' where nothing that the law and all that it calls make is longer than what came in: it says more and counts as full. Else prove '..UptoSaid'. A law counts once. -/
mutual
def uptoBulk {H : Type} : DataW H → Nat
  | .lit (.string bytes) => bytes.length + 1
  | .lit _ => 1
  | .nil => 1
  | .ptr d => uptoBulk d + 1
  | .slice elems spare => uptoBulkAll elems + uptoBulkAll spare + 1
  | .agg parts => uptoBulkAll parts + 1
  | .iface _ d => uptoBulk d + 1
  | .map entries => uptoBulkEntries entries + 1
  | .held _ => 1
def uptoBulkAll {H : Type} : List (DataW H) → Nat
  | [] => 0
  | d :: r => uptoBulk d + uptoBulkAll r
def uptoBulkEntries {H : Type} : List (Lit × DataW H) → Nat
  | [] => 0
  | x :: r => uptoBulkEntry x + uptoBulkEntries r
def uptoBulkEntry {H : Type} : Lit × DataW H → Nat
  | (.string bytes, d) => bytes.length + uptoBulk d + 1
  | (_, d) => uptoBulk d + 1
 end
def uptoSmall : (H : Type) → List (DataW H) → Bool := fun _ ds => decide (uptoBulkAll ds ≤ 1048576)
def OpenSpec.upto (s : _root_.Go.ChangeSpec) : _root_.Go.OpenSpec := { _root_.Go.OpenSpec.ofChange s with cond := some uptoSmall }

/-- 'weighlocklaw11.HeaderCodes', WHERE WHAT IT READS IS OF BULK AT MOST 1048576: true; the input reads as it did. -/
def headerCodesUptoRow : OpenClaim := { program := "ytcgmgecdlanolaa", sum := "d8268ff9e974baeb3a4dc7c3905ed54051c2caa334073e9cd0f9d07794ee39f5", func := "weighlock/weighlocklaw11.HeaderCodes", spec := "headerCodes", apart := false, narrowed := true }
def HeaderCodesUptoSaid : Prop := headerCodesUptoRow.holds Try.pinned (OpenSpec.upto headerCodesSpec)

/-- 'weighlocklaw11.HeaderStamps', WHERE WHAT IT READS IS OF BULK AT MOST 1048576: true; the input reads as it did. -/
def headerStampsUptoRow : OpenClaim := { program := "ytcgmgecdlanolaa", sum := "d8268ff9e974baeb3a4dc7c3905ed54051c2caa334073e9cd0f9d07794ee39f5", func := "weighlock/weighlocklaw11.HeaderStamps", spec := "headerStamps", apart := false, narrowed := true }
def HeaderStampsUptoSaid : Prop := headerStampsUptoRow.holds Try.pinned (OpenSpec.upto headerStampsSpec)

/-- 'weighlocklaw11.HeaderBefore', WHERE WHAT IT READS IS OF BULK AT MOST 1048576: true; the input reads as it did. -/
def headerBeforeUptoRow : OpenClaim := { program := "ytcgmgecdlanolaa", sum := "d8268ff9e974baeb3a4dc7c3905ed54051c2caa334073e9cd0f9d07794ee39f5", func := "weighlock/weighlocklaw11.HeaderBefore", spec := "headerBefore", apart := false, narrowed := true }
def HeaderBeforeUptoSaid : Prop := headerBeforeUptoRow.holds Try.pinned (OpenSpec.upto headerBeforeSpec)

/-- 'weighlocklaw11.HeaderChain', WHERE WHAT IT READS IS OF BULK AT MOST 1048576: true; the input reads as it did. -/
def headerChainUptoRow : OpenClaim := { program := "ytcgmgecdlanolaa", sum := "d8268ff9e974baeb3a4dc7c3905ed54051c2caa334073e9cd0f9d07794ee39f5", func := "weighlock/weighlocklaw11.HeaderChain", spec := "headerChain", apart := false, narrowed := true }
def HeaderChainUptoSaid : Prop := headerChainUptoRow.holds Try.pinned (OpenSpec.upto headerChainSpec)

end Rows
end Go.Proofs.Ytcgmgecdlanolaa
