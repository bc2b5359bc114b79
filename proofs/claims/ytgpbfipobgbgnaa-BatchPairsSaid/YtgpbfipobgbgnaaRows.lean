/-
  No cell of these rows narrows 'for every input' (looked for: loops, veiled, ifaces, maps, wideKeys, modest, calm, conditions, laid).
  DERIVED. THE GIVEN ROWS OF THIS SEAT. 3 by the template 'for every input the law returns true; each argument reads behind the call as it read before'; 0 by the template 'total and deterministic' (their statements: YtgpbfipobgbgnaaTotals.lean).
  GIVEN WITH THE SEED: the statements are not yours to turn. If you find one false, say at which input.
  Laid BY PROGRAM, IN A SANDBOX (cutbox-rows.mjs): the forced cells as the released guide's own fill.sh prints them over the translation 782428872441a2e7… (all of the seat's roots in one cut). By AI agents, Wed Nov 11 2026. No macro, syntax, notation, axiom, sorry.
-/
import Derived.Test.YtgpbfipobgbgnaaChecked
import GoSem.Claim
import GoSem.ClaimJoined
import GoSem.ClaimMapViews
import Derived.JoinedTies
import Derived.KernelRfl
namespace Go.Proofs.Ytgpbfipobgbgnaa
/- THE CELL 'sum', in the pinned program and in every row, IS THE sha256 OF THE DUMP (.gsa) THAT YtgpbfipobgbgnaaProg.lean LOADS. Nothing in Lean hashes anything: it is a label: what it is worth is what the hold of that sum in a sandbox is worth. -/
noncomputable def Try.pinned : Pinned := { name := "ytgpbfipobgbgnaa", sum := "782428872441a2e7ecaf5c00d8cf1d96b487409e12d23b71ee2d63bafda01b1b", checked := Try.checked }
namespace Rows
def none {H : Type} : Left H := { results := [], args := [] }

/-- 'weighlocklaw17.BatchRight': WHATEVER THE INPUT: true; the input reads as it did. -/
def batchRightSpec : ChangeSpec := { name := "batchRight", fn := fun _ => fun
  | [d] => { results := [.lit (.bool true)], args := [d] }
  | _ => none }
def batchRightRow : OpenClaim := { program := "ytgpbfipobgbgnaa", sum := "782428872441a2e7ecaf5c00d8cf1d96b487409e12d23b71ee2d63bafda01b1b", func := "weighlock/weighlocklaw17.BatchRight", spec := "batchRight", unfollowed := true, recurses := true, apart := false }
def BatchRightSaid : Prop := batchRightRow.holds Try.pinned (OpenSpec.ofChange batchRightSpec)

/-- ITS FALSE NEIGHBOUR: 'it returns false'. Refute it at one input. -/
def batchRightWrong : ChangeSpec := { name := "batchRight", fn := fun _ => fun
  | [d] => { results := [.lit (.bool false)], args := [d] }
  | _ => none }
def BatchRightWrongFalsely : Prop := batchRightRow.holds Try.pinned (OpenSpec.ofChange batchRightWrong)

/-- 'weighlocklaw17.BatchParts': WHATEVER THE INPUT: true; the input reads as it did. -/
def batchPartsSpec : ChangeSpec := { name := "batchParts", fn := fun _ => fun
  | [d1, d2, d3] => { results := [.lit (.bool true)], args := [d1, d2, d3] }
  | _ => none }
def batchPartsRow : OpenClaim := { program := "ytgpbfipobgbgnaa", sum := "782428872441a2e7ecaf5c00d8cf1d96b487409e12d23b71ee2d63bafda01b1b", func := "weighlock/weighlocklaw17.BatchParts", spec := "batchParts", unfollowed := true, recurses := true, apart := false }
def BatchPartsSaid : Prop := batchPartsRow.holds Try.pinned (OpenSpec.ofChange batchPartsSpec)

/-- ITS FALSE NEIGHBOUR: 'it returns false'. Refute it at one input. -/
def batchPartsWrong : ChangeSpec := { name := "batchParts", fn := fun _ => fun
  | [d1, d2, d3] => { results := [.lit (.bool false)], args := [d1, d2, d3] }
  | _ => none }
def BatchPartsWrongFalsely : Prop := batchPartsRow.holds Try.pinned (OpenSpec.ofChange batchPartsWrong)

/-- 'weighlocklaw17.BatchPairs': WHATEVER THE INPUT: true; the input reads as it did. -/
def batchPairsSpec : ChangeSpec := { name := "batchPairs", fn := fun _ => fun
  | [d] => { results := [.lit (.bool true)], args := [d] }
  | _ => none }
def batchPairsRow : OpenClaim := { program := "ytgpbfipobgbgnaa", sum := "782428872441a2e7ecaf5c00d8cf1d96b487409e12d23b71ee2d63bafda01b1b", func := "weighlock/weighlocklaw17.BatchPairs", spec := "batchPairs", unfollowed := true, recurses := true, apart := false }
def BatchPairsSaid : Prop := batchPairsRow.holds Try.pinned (OpenSpec.ofChange batchPairsSpec)

/-- ITS FALSE NEIGHBOUR: 'it returns false'. Refute it at one input. -/
def batchPairsWrong : ChangeSpec := { name := "batchPairs", fn := fun _ => fun
  | [d] => { results := [.lit (.bool false)], args := [d] }
  | _ => none }
def BatchPairsWrongFalsely : Prop := batchPairsRow.holds Try.pinned (OpenSpec.ofChange batchPairsWrong)

/- THE SECOND FORM. 'bulk': how many values and letters a reading holds, each counted each time it is reached (what is shared counts as often as it is met; a slice's spare places count too). A statement '..UptoSaid' is the law's where the arguments, and the package variables that the reading takes, are together of bulk at most 1048576: NARROWER than '..Said'. Prove '..Said' where nothing that the law and all that it calls make is longer than what came in: it says more and counts as full. Else prove '..UptoSaid'. A law counts once. -/
mutual
def uptoBulk {H : Type} : DataW H → Nat
  | .lit (.string bytes) => bytes.length + 1
  | .lit _ => 1
  | .nil => 1
  | .ptr d => uptoBulk d + 1
  | .slice elems spare => uptoBulkAll elems + uptoBulkAll spare + 1
  | .agg parts => uptoBulkAll parts + 1
  | .iface _ d => uptoBulk d + 1
  | .map entries => uptoBulkEntries entries + 1
  | .held _ => 1
def uptoBulkAll {H : Type} : List (DataW H) → Nat
  | [] => 0
  | d :: r => uptoBulk d + uptoBulkAll r
def uptoBulkEntries {H : Type} : List (Lit × DataW H) → Nat
  | [] => 0
  | x :: r => uptoBulkEntry x + uptoBulkEntries r
def uptoBulkEntry {H : Type} : Lit × DataW H → Nat
  | (.string bytes, d) => bytes.length + uptoBulk d + 1
  | (_, d) => uptoBulk d + 1
 end
def uptoSmall : (H : Type) → List (DataW H) → Bool := fun _ ds => decide (uptoBulkAll ds ≤ 1048576)
def OpenSpec.upto (s : _root_.Go.ChangeSpec) : _root_.Go.OpenSpec := { _root_.Go.OpenSpec.ofChange s with cond := some uptoSmall }

/-- 'weighlocklaw17.BatchRight', WHERE WHAT IT READS IS OF BULK AT MOST 1048576: true; the input reads as it did. -/
def batchRightUptoRow : OpenClaim := { program := "ytgpbfipobgbgnaa", sum := "782428872441a2e7ecaf5c00d8cf1d96b487409e12d23b71ee2d63bafda01b1b", func := "weighlock/weighlocklaw17.BatchRight", spec := "batchRight", unfollowed := true, recurses := true, apart := false, narrowed := true }
def BatchRightUptoSaid : Prop := batchRightUptoRow.holds Try.pinned (OpenSpec.upto batchRightSpec)

/-- 'weighlocklaw17.BatchParts', WHERE WHAT IT READS IS OF BULK AT MOST 1048576: true; the input reads as it did. -/
def batchPartsUptoRow : OpenClaim := { program := "ytgpbfipobgbgnaa", sum := "782428872441a2e7ecaf5c00d8cf1d96b487409e12d23b71ee2d63bafda01b1b", func := "weighlock/weighlocklaw17.BatchParts", spec := "batchParts", unfollowed := true, recurses := true, apart := false, narrowed := true }
def BatchPartsUptoSaid : Prop := batchPartsUptoRow.holds Try.pinned (OpenSpec.upto batchPartsSpec)

/-- 'weighlocklaw17.BatchPairs', WHERE WHAT IT READS IS OF BULK AT MOST 1048576: true; the input reads as it did. -/
def batchPairsUptoRow : OpenClaim := { program := "ytgpbfipobgbgnaa", sum := "782428872441a2e7ecaf5c00d8cf1d96b487409e12d23b71ee2d63bafda01b1b", func := "weighlock/weighlocklaw17.BatchPairs", spec := "batchPairs", unfollowed := true, recurses := true, apart := false, narrowed := true }
def BatchPairsUptoSaid : Prop := batchPairsUptoRow.holds Try.pinned (OpenSpec.upto batchPairsSpec)

end Rows
end Go.Proofs.Ytgpbfipobgbgnaa
