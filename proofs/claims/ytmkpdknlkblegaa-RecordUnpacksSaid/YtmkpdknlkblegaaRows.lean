/-
  No cell of these rows narrows 'for every input' (looked for: loops, veiled, ifaces, maps, wideKeys, modest, calm, conditions, laid).
  DERIVED. THE GIVEN ROWS OF THIS SEAT. 5 by the template 'for every input the law returns true; each argument reads behind the call as it read before'; 0 by the template 'total and deterministic' (their statements: YtmkpdknlkblegaaTotals.lean).
  GIVEN WITH THE SEED: the statements are not yours to turn. If you find one false, say at which input.
  Laid BY PROGRAM, IN A SANDBOX (cutbox-rows.mjs): the forced cells as the released guide's own fill.sh prints them over the translation 3775841c772aae13… (all of the seat's roots in one cut). By AI agents, Wed Nov 11 2026. No macro, syntax, notation, axiom, sorry.
-/
import Derived.Test.YtmkpdknlkblegaaChecked
import GoSem.Claim
import GoSem.ClaimJoined
import GoSem.ClaimMapViews
import Derived.JoinedTies
import Derived.KernelRfl
namespace Go.Proofs.Ytmkpdknlkblegaa
/- THE CELL 'sum', in the pinned program and in every row, IS THE sha256 OF THE DUMP (.gsa) THAT YtmkpdknlkblegaaProg.lean LOADS. Nothing in Lean hashes anything: it is a label: what it is worth is what the hold of that sum in a sandbox is worth. -/
noncomputable def Try.pinned : Pinned := { name := "ytmkpdknlkblegaa", sum := "3775841c772aae13dff779818ea782707a69ee564b5b8bb4e38cbb99edc8d58e", checked := Try.checked }
namespace Rows
def none {H : Type} : Left H := { results := [], args := [] }

/-- 'weighlocklaw16.RecordCodes': WHATEVER THE INPUT: true; the input reads as it did. -/
def recordCodesSpec : ChangeSpec := { name := "recordCodes", fn := fun _ => fun
  | [d1, d2] => { results := [.lit (.bool true)], args := [d1, d2] }
  | _ => none }
def recordCodesRow : OpenClaim := { program := "ytmkpdknlkblegaa", sum := "3775841c772aae13dff779818ea782707a69ee564b5b8bb4e38cbb99edc8d58e", func := "weighlock/weighlocklaw16.RecordCodes", spec := "recordCodes", unfollowed := true, recurses := true, apart := false }
def RecordCodesSaid : Prop := recordCodesRow.holds Try.pinned (OpenSpec.ofChange recordCodesSpec)

/-- ITS FALSE NEIGHBOUR: 'it returns false'. Refute it at one input. -/
def recordCodesWrong : ChangeSpec := { name := "recordCodes", fn := fun _ => fun
  | [d1, d2] => { results := [.lit (.bool false)], args := [d1, d2] }
  | _ => none }
def RecordCodesWrongFalsely : Prop := recordCodesRow.holds Try.pinned (OpenSpec.ofChange recordCodesWrong)

/-- 'weighlocklaw16.RecordDecodes': WHATEVER THE INPUT: true; the input reads as it did. -/
def recordDecodesSpec : ChangeSpec := { name := "recordDecodes", fn := fun _ => fun
  | [d] => { results := [.lit (.bool true)], args := [d] }
  | _ => none }
def recordDecodesRow : OpenClaim := { program := "ytmkpdknlkblegaa", sum := "3775841c772aae13dff779818ea782707a69ee564b5b8bb4e38cbb99edc8d58e", func := "weighlock/weighlocklaw16.RecordDecodes", spec := "recordDecodes", unfollowed := true, recurses := true, apart := false }
def RecordDecodesSaid : Prop := recordDecodesRow.holds Try.pinned (OpenSpec.ofChange recordDecodesSpec)

/-- ITS FALSE NEIGHBOUR: 'it returns false'. Refute it at one input. -/
def recordDecodesWrong : ChangeSpec := { name := "recordDecodes", fn := fun _ => fun
  | [d] => { results := [.lit (.bool false)], args := [d] }
  | _ => none }
def RecordDecodesWrongFalsely : Prop := recordDecodesRow.holds Try.pinned (OpenSpec.ofChange recordDecodesWrong)

/-- 'weighlocklaw16.RecordBounds': WHATEVER THE INPUT: true; the input reads as it did. -/
def recordBoundsSpec : ChangeSpec := { name := "recordBounds", fn := fun _ => fun
  | [d] => { results := [.lit (.bool true)], args := [d] }
  | _ => none }
def recordBoundsRow : OpenClaim := { program := "ytmkpdknlkblegaa", sum := "3775841c772aae13dff779818ea782707a69ee564b5b8bb4e38cbb99edc8d58e", func := "weighlock/weighlocklaw16.RecordBounds", spec := "recordBounds", unfollowed := true, recurses := true, apart := false }
def RecordBoundsSaid : Prop := recordBoundsRow.holds Try.pinned (OpenSpec.ofChange recordBoundsSpec)

/-- ITS FALSE NEIGHBOUR: 'it returns false'. Refute it at one input. -/
def recordBoundsWrong : ChangeSpec := { name := "recordBounds", fn := fun _ => fun
  | [d] => { results := [.lit (.bool false)], args := [d] }
  | _ => none }
def RecordBoundsWrongFalsely : Prop := recordBoundsRow.holds Try.pinned (OpenSpec.ofChange recordBoundsWrong)

/-- 'weighlocklaw16.RecordPacks': WHATEVER THE INPUT: true; the input reads as it did. -/
def recordPacksSpec : ChangeSpec := { name := "recordPacks", fn := fun _ => fun
  | [d] => { results := [.lit (.bool true)], args := [d] }
  | _ => none }
def recordPacksRow : OpenClaim := { program := "ytmkpdknlkblegaa", sum := "3775841c772aae13dff779818ea782707a69ee564b5b8bb4e38cbb99edc8d58e", func := "weighlock/weighlocklaw16.RecordPacks", spec := "recordPacks", unfollowed := true, recurses := true, apart := false }
def RecordPacksSaid : Prop := recordPacksRow.holds Try.pinned (OpenSpec.ofChange recordPacksSpec)

/-- ITS FALSE NEIGHBOUR: 'it returns false'. Refute it at one input. -/
def recordPacksWrong : ChangeSpec := { name := "recordPacks", fn := fun _ => fun
  | [d] => { results := [.lit (.bool false)], args := [d] }
  | _ => none }
def RecordPacksWrongFalsely : Prop := recordPacksRow.holds Try.pinned (OpenSpec.ofChange recordPacksWrong)

/-- 'weighlocklaw16.RecordUnpacks': WHATEVER THE INPUT: true; the input reads as it did. -/
def recordUnpacksSpec : ChangeSpec := { name := "recordUnpacks", fn := fun _ => fun
  | [d] => { results := [.lit (.bool true)], args := [d] }
  | _ => none }
def recordUnpacksRow : OpenClaim := { program := "ytmkpdknlkblegaa", sum := "3775841c772aae13dff779818ea782707a69ee564b5b8bb4e38cbb99edc8d58e", func := "weighlock/weighlocklaw16.RecordUnpacks", spec := "recordUnpacks", unfollowed := true, recurses := true, apart := false }
def RecordUnpacksSaid : Prop := recordUnpacksRow.holds Try.pinned (OpenSpec.ofChange recordUnpacksSpec)

/-- ITS FALSE NEIGHBOUR: 'it returns false'. Refute it at one input. -/
def recordUnpacksWrong : ChangeSpec := { name := "recordUnpacks", fn := fun _ => fun
  | [d] => { results := [.lit (.bool false)], args := [d] }
  | _ => none }
def RecordUnpacksWrongFalsely : Prop := recordUnpacksRow.holds Try.pinned (OpenSpec.ofChange recordUnpacksWrong)

/- THE SECOND FORM. 'bulk': how many values and letters a reading holds, each counted each time it is reached (what is shared counts as often as it is met; a slice's spare places count too). A statement '..UptoSaid' is the law's where the arguments, and the package variables that the reading takes, are together of bulk at most 1048576: NARROWER than '..Said'. Prove '..Said' where nothing that the law and all that it calls make is longer than what came in: it says more and counts as full. Else prove '..UptoSaid'. A law counts once. -/
mutual
def uptoBulk {H : Type} : DataW H → Nat
  | .lit (.string bytes) => bytes.length + 1
  | .lit _ => 1
  | .nil => 1
  | .ptr d => uptoBulk d + 1
  | .slice elems spare => uptoBulkAll elems + uptoBulkAll spare + 1
  | .agg parts => uptoBulkAll parts + 1
  | .iface _ d => uptoBulk d + 1
  | .map entries => uptoBulkEntries entries + 1
  | .held _ => 1
def uptoBulkAll {H : Type} : List (DataW H) → Nat
  | [] => 0
  | d :: r => uptoBulk d + uptoBulkAll r
def uptoBulkEntries {H : Type} : List (Lit × DataW H) → Nat
  | [] => 0
  | x :: r => uptoBulkEntry x + uptoBulkEntries r
def uptoBulkEntry {H : Type} : Lit × DataW H → Nat
  | (.string bytes, d) => bytes.length + uptoBulk d + 1
  | (_, d) => uptoBulk d + 1
 end
def uptoSmall : (H : Type) → List (DataW H) → Bool := fun _ ds => decide (uptoBulkAll ds ≤ 1048576)
def OpenSpec.upto (s : _root_.Go.ChangeSpec) : _root_.Go.OpenSpec := { _root_.Go.OpenSpec.ofChange s with cond := some uptoSmall }

/-- 'weighlocklaw16.RecordCodes', WHERE WHAT IT READS IS OF BULK AT MOST 1048576: true; the input reads as it did. -/
def recordCodesUptoRow : OpenClaim := { program := "ytmkpdknlkblegaa", sum := "3775841c772aae13dff779818ea782707a69ee564b5b8bb4e38cbb99edc8d58e", func := "weighlock/weighlocklaw16.RecordCodes", spec := "recordCodes", unfollowed := true, recurses := true, apart := false, narrowed := true }
def RecordCodesUptoSaid : Prop := recordCodesUptoRow.holds Try.pinned (OpenSpec.upto recordCodesSpec)

/-- 'weighlocklaw16.RecordDecodes', WHERE WHAT IT READS IS OF BULK AT MOST 1048576: true; the input reads as it did. -/
def recordDecodesUptoRow : OpenClaim := { program := "ytmkpdknlkblegaa", sum := "3775841c772aae13dff779818ea782707a69ee564b5b8bb4e38cbb99edc8d58e", func := "weighlock/weighlocklaw16.RecordDecodes", spec := "recordDecodes", unfollowed := true, recurses := true, apart := false, narrowed := true }
def RecordDecodesUptoSaid : Prop := recordDecodesUptoRow.holds Try.pinned (OpenSpec.upto recordDecodesSpec)

/-- 'weighlocklaw16.RecordBounds', WHERE WHAT IT READS IS OF BULK AT MOST 1048576: true; the input reads as it did. -/
def recordBoundsUptoRow : OpenClaim := { program := "ytmkpdknlkblegaa", sum := "3775841c772aae13dff779818ea782707a69ee564b5b8bb4e38cbb99edc8d58e", func := "weighlock/weighlocklaw16.RecordBounds", spec := "recordBounds", unfollowed := true, recurses := true, apart := false, narrowed := true }
def RecordBoundsUptoSaid : Prop := recordBoundsUptoRow.holds Try.pinned (OpenSpec.upto recordBoundsSpec)

/-- 'weighlocklaw16.RecordPacks', WHERE WHAT IT READS IS OF BULK AT MOST 1048576: true; the input reads as it did. -/
def recordPacksUptoRow : OpenClaim := { program := "ytmkpdknlkblegaa", sum := "3775841c772aae13dff779818ea782707a69ee564b5b8bb4e38cbb99edc8d58e", func := "weighlock/weighlocklaw16.RecordPacks", spec := "recordPacks", unfollowed := true, recurses := true, apart := false, narrowed := true }
def RecordPacksUptoSaid : Prop := recordPacksUptoRow.holds Try.pinned (OpenSpec.upto recordPacksSpec)

/-- 'weighlocklaw16.RecordUnpacks', WHERE WHAT IT READS IS OF BULK AT MOST 1048576: true; the input reads as it did. -/
def recordUnpacksUptoRow : OpenClaim := { program := "ytmkpdknlkblegaa", sum := "3775841c772aae13dff779818ea782707a69ee564b5b8bb4e38cbb99edc8d58e", func := "weighlock/weighlocklaw16.RecordUnpacks", spec := "recordUnpacks", unfollowed := true, recurses := true, apart := false, narrowed := true }
def RecordUnpacksUptoSaid : Prop := recordUnpacksUptoRow.holds Try.pinned (OpenSpec.upto recordUnpacksSpec)

end Rows
end Go.Proofs.Ytmkpdknlkblegaa
