/-
  No cell of these rows narrows 'for every input' (looked for: loops, veiled, ifaces, maps, wideKeys, modest, calm, conditions, laid).
  DERIVED. THE GIVEN ROWS OF THIS SEAT. 5 by the template 'for every input the law returns true; each argument reads behind the call as it read before'; 0 by the template 'total and deterministic' (their statements: YtbnfocnhmpegjaaTotals.lean).
  GIVEN WITH THE SEED: the statements are not yours to turn. If you find one false, say at which input.
  Laid BY PROGRAM, IN A SANDBOX (cutbox-rows.mjs): the forced cells as the released guide's own fill.sh prints them over the translation 89d23f95913d0b0b… (all of the seat's roots in one cut). By AI agents, Wed Nov 11 2026. No macro, syntax, notation, axiom, sorry.
-/
import Derived.Test.YtbnfocnhmpegjaaChecked
import GoSem.Claim
import GoSem.ClaimJoined
import GoSem.ClaimMapViews
import Derived.JoinedTies
import Derived.KernelRfl
namespace Go.Proofs.Ytbnfocnhmpegjaa
/- THE CELL 'sum', in the pinned program and in every row, IS THE sha256 OF THE DUMP (.gsa) THAT YtbnfocnhmpegjaaProg.lean LOADS. Nothing in Lean hashes anything: it is a label: what it is worth is what the hold of that sum in a sandbox is worth. -/
noncomputable def Try.pinned : Pinned := { name := "ytbnfocnhmpegjaa", sum := "89d23f95913d0b0bc9f21ec387bc022394401a1ca206361fd5403803622594f1", checked := Try.checked }
namespace Rows
def none {H : Type} : Left H := { results := [], args := [] }

/-- 'shallotlaw10.CommandTells': WHATEVER THE INPUT: true; the input reads as it did. -/
def commandTellsSpec : ChangeSpec := { name := "commandTells", fn := fun _ => fun
  | [d] => { results := [.lit (.bool true)], args := [d] }
  | _ => none }
def commandTellsRow : OpenClaim := { program := "ytbnfocnhmpegjaa", sum := "89d23f95913d0b0bc9f21ec387bc022394401a1ca206361fd5403803622594f1", func := "shallot/shallotlaw10.CommandTells", spec := "commandTells", inPlace := ["internal/bytealg.MakeNoZero"], apart := false }
def CommandTellsSaid : Prop := commandTellsRow.holds Try.pinned (OpenSpec.ofChange commandTellsSpec)

/-- ITS FALSE NEIGHBOUR: 'it returns false'. Refute it at one input. -/
def commandTellsWrong : ChangeSpec := { name := "commandTells", fn := fun _ => fun
  | [d] => { results := [.lit (.bool false)], args := [d] }
  | _ => none }
def CommandTellsWrongFalsely : Prop := commandTellsRow.holds Try.pinned (OpenSpec.ofChange commandTellsWrong)

/-- 'shallotlaw10.CommandPaths': WHATEVER THE INPUT: true; the input reads as it did. -/
def commandPathsSpec : ChangeSpec := { name := "commandPaths", fn := fun _ => fun
  | [d1, d2] => { results := [.lit (.bool true)], args := [d1, d2] }
  | _ => none }
def commandPathsRow : OpenClaim := { program := "ytbnfocnhmpegjaa", sum := "89d23f95913d0b0bc9f21ec387bc022394401a1ca206361fd5403803622594f1", func := "shallot/shallotlaw10.CommandPaths", spec := "commandPaths", inPlace := ["internal/bytealg.MakeNoZero"], apart := false }
def CommandPathsSaid : Prop := commandPathsRow.holds Try.pinned (OpenSpec.ofChange commandPathsSpec)

/-- ITS FALSE NEIGHBOUR: 'it returns false'. Refute it at one input. -/
def commandPathsWrong : ChangeSpec := { name := "commandPaths", fn := fun _ => fun
  | [d1, d2] => { results := [.lit (.bool false)], args := [d1, d2] }
  | _ => none }
def CommandPathsWrongFalsely : Prop := commandPathsRow.holds Try.pinned (OpenSpec.ofChange commandPathsWrong)

/-- 'shallotlaw10.CommandEncodes': WHATEVER THE INPUT: true; the input reads as it did. -/
def commandEncodesSpec : ChangeSpec := { name := "commandEncodes", fn := fun _ => fun
  | [d] => { results := [.lit (.bool true)], args := [d] }
  | _ => none }
def commandEncodesRow : OpenClaim := { program := "ytbnfocnhmpegjaa", sum := "89d23f95913d0b0bc9f21ec387bc022394401a1ca206361fd5403803622594f1", func := "shallot/shallotlaw10.CommandEncodes", spec := "commandEncodes", inPlace := ["internal/bytealg.MakeNoZero"], apart := false }
def CommandEncodesSaid : Prop := commandEncodesRow.holds Try.pinned (OpenSpec.ofChange commandEncodesSpec)

/-- ITS FALSE NEIGHBOUR: 'it returns false'. Refute it at one input. -/
def commandEncodesWrong : ChangeSpec := { name := "commandEncodes", fn := fun _ => fun
  | [d] => { results := [.lit (.bool false)], args := [d] }
  | _ => none }
def CommandEncodesWrongFalsely : Prop := commandEncodesRow.holds Try.pinned (OpenSpec.ofChange commandEncodesWrong)

/-- 'shallotlaw10.CommandDecodes': WHATEVER THE INPUT: true; the input reads as it did. -/
def commandDecodesSpec : ChangeSpec := { name := "commandDecodes", fn := fun _ => fun
  | [d] => { results := [.lit (.bool true)], args := [d] }
  | _ => none }
def commandDecodesRow : OpenClaim := { program := "ytbnfocnhmpegjaa", sum := "89d23f95913d0b0bc9f21ec387bc022394401a1ca206361fd5403803622594f1", func := "shallot/shallotlaw10.CommandDecodes", spec := "commandDecodes", inPlace := ["internal/bytealg.MakeNoZero"], apart := false }
def CommandDecodesSaid : Prop := commandDecodesRow.holds Try.pinned (OpenSpec.ofChange commandDecodesSpec)

/-- ITS FALSE NEIGHBOUR: 'it returns false'. Refute it at one input. -/
def commandDecodesWrong : ChangeSpec := { name := "commandDecodes", fn := fun _ => fun
  | [d] => { results := [.lit (.bool false)], args := [d] }
  | _ => none }
def CommandDecodesWrongFalsely : Prop := commandDecodesRow.holds Try.pinned (OpenSpec.ofChange commandDecodesWrong)

/-- 'shallotlaw10.CommandKeeps': WHATEVER THE INPUT: true; the input reads as it did. -/
def commandKeepsSpec : ChangeSpec := { name := "commandKeeps", fn := fun _ => fun
  | [d1, d2] => { results := [.lit (.bool true)], args := [d1, d2] }
  | _ => none }
def commandKeepsRow : OpenClaim := { program := "ytbnfocnhmpegjaa", sum := "89d23f95913d0b0bc9f21ec387bc022394401a1ca206361fd5403803622594f1", func := "shallot/shallotlaw10.CommandKeeps", spec := "commandKeeps", inPlace := ["internal/bytealg.MakeNoZero"], apart := false }
def CommandKeepsSaid : Prop := commandKeepsRow.holds Try.pinned (OpenSpec.ofChange commandKeepsSpec)

/-- ITS FALSE NEIGHBOUR: 'it returns false'. Refute it at one input. -/
def commandKeepsWrong : ChangeSpec := { name := "commandKeeps", fn := fun _ => fun
  | [d1, d2] => { results := [.lit (.bool false)], args := [d1, d2] }
  | _ => none }
def CommandKeepsWrongFalsely : Prop := commandKeepsRow.holds Try.pinned (OpenSpec.ofChange commandKeepsWrong)

/- THE SECOND FORM. 'bulk': how many values and letters a reading holds, each counted each time it is reached (what is shared counts as often as it is met; a slice's spare places count too). A statement '..UptoSaid' is the law's where the arguments, and the package variables that the reading takes, are together of bulk at most 1048576: NARROWER than '..Said'. Prove '..Said' where nothing that the law and all that it calls make is longer than what came in: it says more and counts as full. Else prove '..UptoSaid'. A law counts once. -/
mutual
def uptoBulk {H : Type} : DataW H → Nat
  | .lit (.string bytes) => bytes.length + 1
  | .lit _ => 1
  | .nil => 1
  | .ptr d => uptoBulk d + 1
  | .slice elems spare => uptoBulkAll elems + uptoBulkAll spare + 1
  | .agg parts => uptoBulkAll parts + 1
  | .iface _ d => uptoBulk d + 1
  | .map entries => uptoBulkEntries entries + 1
  | .held _ => 1
def uptoBulkAll {H : Type} : List (DataW H) → Nat
  | [] => 0
  | d :: r => uptoBulk d + uptoBulkAll r
def uptoBulkEntries {H : Type} : List (Lit × DataW H) → Nat
  | [] => 0
  | x :: r => uptoBulkEntry x + uptoBulkEntries r
def uptoBulkEntry {H : Type} : Lit × DataW H → Nat
  | (.string bytes, d) => bytes.length + uptoBulk d + 1
  | (_, d) => uptoBulk d + 1
 end
def uptoSmall : (H : Type) → List (DataW H) → Bool := fun _ ds => decide (uptoBulkAll ds ≤ 1048576)
def OpenSpec.upto (s : _root_.Go.ChangeSpec) : _root_.Go.OpenSpec := { _root_.Go.OpenSpec.ofChange s with cond := some uptoSmall }

/-- 'shallotlaw10.CommandTells', WHERE WHAT IT READS IS OF BULK AT MOST 1048576: true; the input reads as it did. -/
def commandTellsUptoRow : OpenClaim := { program := "ytbnfocnhmpegjaa", sum := "89d23f95913d0b0bc9f21ec387bc022394401a1ca206361fd5403803622594f1", func := "shallot/shallotlaw10.CommandTells", spec := "commandTells", inPlace := ["internal/bytealg.MakeNoZero"], apart := false, narrowed := true }
def CommandTellsUptoSaid : Prop := commandTellsUptoRow.holds Try.pinned (OpenSpec.upto commandTellsSpec)

/-- 'shallotlaw10.CommandPaths', WHERE WHAT IT READS IS OF BULK AT MOST 1048576: true; the input reads as it did. -/
def commandPathsUptoRow : OpenClaim := { program := "ytbnfocnhmpegjaa", sum := "89d23f95913d0b0bc9f21ec387bc022394401a1ca206361fd5403803622594f1", func := "shallot/shallotlaw10.CommandPaths", spec := "commandPaths", inPlace := ["internal/bytealg.MakeNoZero"], apart := false, narrowed := true }
def CommandPathsUptoSaid : Prop := commandPathsUptoRow.holds Try.pinned (OpenSpec.upto commandPathsSpec)

/-- 'shallotlaw10.CommandEncodes', WHERE WHAT IT READS IS OF BULK AT MOST 1048576: true; the input reads as it did. -/
def commandEncodesUptoRow : OpenClaim := { program := "ytbnfocnhmpegjaa", sum := "89d23f95913d0b0bc9f21ec387bc022394401a1ca206361fd5403803622594f1", func := "shallot/shallotlaw10.CommandEncodes", spec := "commandEncodes", inPlace := ["internal/bytealg.MakeNoZero"], apart := false, narrowed := true }
def CommandEncodesUptoSaid : Prop := commandEncodesUptoRow.holds Try.pinned (OpenSpec.upto commandEncodesSpec)

/-- 'shallotlaw10.CommandDecodes', WHERE WHAT IT READS IS OF BULK AT MOST 1048576: true; the input reads as it did. -/
def commandDecodesUptoRow : OpenClaim := { program := "ytbnfocnhmpegjaa", sum := "89d23f95913d0b0bc9f21ec387bc022394401a1ca206361fd5403803622594f1", func := "shallot/shallotlaw10.CommandDecodes", spec := "commandDecodes", inPlace := ["internal/bytealg.MakeNoZero"], apart := false, narrowed := true }
def CommandDecodesUptoSaid : Prop := commandDecodesUptoRow.holds Try.pinned (OpenSpec.upto commandDecodesSpec)

/-- 'shallotlaw10.CommandKeeps', WHERE WHAT IT READS IS OF BULK AT MOST 1048576: true; the input reads as it did. -/
def commandKeepsUptoRow : OpenClaim := { program := "ytbnfocnhmpegjaa", sum := "89d23f95913d0b0bc9f21ec387bc022394401a1ca206361fd5403803622594f1", func := "shallot/shallotlaw10.CommandKeeps", spec := "commandKeeps", inPlace := ["internal/bytealg.MakeNoZero"], apart := false, narrowed := true }
def CommandKeepsUptoSaid : Prop := commandKeepsUptoRow.holds Try.pinned (OpenSpec.upto commandKeepsSpec)

end Rows
end Go.Proofs.Ytbnfocnhmpegjaa
