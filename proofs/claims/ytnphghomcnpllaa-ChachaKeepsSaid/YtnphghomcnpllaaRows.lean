/-
  No cell of these rows narrows 'for every input' (looked for: loops, veiled, ifaces, maps, wideKeys, modest, calm, conditions, laid).
  DERIVED. THE GIVEN ROWS OF THIS SEAT. 5 by the template 'for every input the law returns true; each argument reads behind the call as it read before'; 0 by the template 'total and deterministic' (their statements: YtnphghomcnpllaaTotals.lean).
  GIVEN WITH THE SEED: the statements are not yours to turn. If you find one false, say at which input.
  Laid BY PROGRAM, IN A SANDBOX (cutbox-rows.mjs): the forced cells as the released guide's own fill.sh prints them over the translation 61fccada9de9e709… (all of the seat's roots in one cut). By AI agents, Wed Nov 11 2026. No macro, syntax, notation, axiom, sorry.
-/
import Derived.Test.YtnphghomcnpllaaChecked
import GoSem.Claim
import GoSem.ClaimJoined
import GoSem.ClaimMapViews
import Derived.JoinedTies
import Derived.KernelRfl
namespace Go.Proofs.Ytnphghomcnpllaa
/- THE CELL 'sum', in the pinned program and in every row, IS THE sha256 OF THE DUMP (.gsa) THAT YtnphghomcnpllaaProg.lean LOADS. Nothing in Lean hashes anything: it is a label: what it is worth is what the hold of that sum in a sandbox is worth. -/
noncomputable def Try.pinned : Pinned := { name := "ytnphghomcnpllaa", sum := "61fccada9de9e7093fec89c3e22117d39fac46919d6f2cf9bf7dfe315fccc4ec", checked := Try.checked }
namespace Rows
def none {H : Type} : Left H := { results := [], args := [] }

/-- 'shallotlaw04.ChachaQuarters': WHATEVER THE INPUT: true; the input reads as it did. -/
def chachaQuartersSpec : ChangeSpec := { name := "chachaQuarters", fn := fun _ => fun
  | [d] => { results := [.lit (.bool true)], args := [d] }
  | _ => none }
def chachaQuartersRow : OpenClaim := { program := "ytnphghomcnpllaa", sum := "61fccada9de9e7093fec89c3e22117d39fac46919d6f2cf9bf7dfe315fccc4ec", func := "shallot/shallotlaw04.ChachaQuarters", spec := "chachaQuarters", apart := false }
def ChachaQuartersSaid : Prop := chachaQuartersRow.holds Try.pinned (OpenSpec.ofChange chachaQuartersSpec)

/-- ITS FALSE NEIGHBOUR: 'it returns false'. Refute it at one input. -/
def chachaQuartersWrong : ChangeSpec := { name := "chachaQuarters", fn := fun _ => fun
  | [d] => { results := [.lit (.bool false)], args := [d] }
  | _ => none }
def ChachaQuartersWrongFalsely : Prop := chachaQuartersRow.holds Try.pinned (OpenSpec.ofChange chachaQuartersWrong)

/-- 'shallotlaw04.ChachaStreams': WHATEVER THE INPUT: true; the input reads as it did. -/
def chachaStreamsSpec : ChangeSpec := { name := "chachaStreams", fn := fun _ => fun
  | [d1, d2] => { results := [.lit (.bool true)], args := [d1, d2] }
  | _ => none }
def chachaStreamsRow : OpenClaim := { program := "ytnphghomcnpllaa", sum := "61fccada9de9e7093fec89c3e22117d39fac46919d6f2cf9bf7dfe315fccc4ec", func := "shallot/shallotlaw04.ChachaStreams", spec := "chachaStreams", apart := false }
def ChachaStreamsSaid : Prop := chachaStreamsRow.holds Try.pinned (OpenSpec.ofChange chachaStreamsSpec)

/-- ITS FALSE NEIGHBOUR: 'it returns false'. Refute it at one input. -/
def chachaStreamsWrong : ChangeSpec := { name := "chachaStreams", fn := fun _ => fun
  | [d1, d2] => { results := [.lit (.bool false)], args := [d1, d2] }
  | _ => none }
def ChachaStreamsWrongFalsely : Prop := chachaStreamsRow.holds Try.pinned (OpenSpec.ofChange chachaStreamsWrong)

/-- 'shallotlaw04.ChachaBlocks': WHATEVER THE INPUT: true; the input reads as it did. -/
def chachaBlocksSpec : ChangeSpec := { name := "chachaBlocks", fn := fun _ => fun
  | [d1, d2, d3] => { results := [.lit (.bool true)], args := [d1, d2, d3] }
  | _ => none }
def chachaBlocksRow : OpenClaim := { program := "ytnphghomcnpllaa", sum := "61fccada9de9e7093fec89c3e22117d39fac46919d6f2cf9bf7dfe315fccc4ec", func := "shallot/shallotlaw04.ChachaBlocks", spec := "chachaBlocks", apart := false }
def ChachaBlocksSaid : Prop := chachaBlocksRow.holds Try.pinned (OpenSpec.ofChange chachaBlocksSpec)

/-- ITS FALSE NEIGHBOUR: 'it returns false'. Refute it at one input. -/
def chachaBlocksWrong : ChangeSpec := { name := "chachaBlocks", fn := fun _ => fun
  | [d1, d2, d3] => { results := [.lit (.bool false)], args := [d1, d2, d3] }
  | _ => none }
def ChachaBlocksWrongFalsely : Prop := chachaBlocksRow.holds Try.pinned (OpenSpec.ofChange chachaBlocksWrong)

/-- 'shallotlaw04.ChachaTurns': WHATEVER THE INPUT: true; the input reads as it did. -/
def chachaTurnsSpec : ChangeSpec := { name := "chachaTurns", fn := fun _ => fun
  | [d1, d2] => { results := [.lit (.bool true)], args := [d1, d2] }
  | _ => none }
def chachaTurnsRow : OpenClaim := { program := "ytnphghomcnpllaa", sum := "61fccada9de9e7093fec89c3e22117d39fac46919d6f2cf9bf7dfe315fccc4ec", func := "shallot/shallotlaw04.ChachaTurns", spec := "chachaTurns", inPlace := ["internal/bytealg.MakeNoZero"], apart := false }
def ChachaTurnsSaid : Prop := chachaTurnsRow.holds Try.pinned (OpenSpec.ofChange chachaTurnsSpec)

/-- ITS FALSE NEIGHBOUR: 'it returns false'. Refute it at one input. -/
def chachaTurnsWrong : ChangeSpec := { name := "chachaTurns", fn := fun _ => fun
  | [d1, d2] => { results := [.lit (.bool false)], args := [d1, d2] }
  | _ => none }
def ChachaTurnsWrongFalsely : Prop := chachaTurnsRow.holds Try.pinned (OpenSpec.ofChange chachaTurnsWrong)

/-- 'shallotlaw04.ChachaKeeps': WHATEVER THE INPUT: true; the input reads as it did. -/
def chachaKeepsSpec : ChangeSpec := { name := "chachaKeeps", fn := fun _ => fun
  | [d1, d2] => { results := [.lit (.bool true)], args := [d1, d2] }
  | _ => none }
def chachaKeepsRow : OpenClaim := { program := "ytnphghomcnpllaa", sum := "61fccada9de9e7093fec89c3e22117d39fac46919d6f2cf9bf7dfe315fccc4ec", func := "shallot/shallotlaw04.ChachaKeeps", spec := "chachaKeeps", inPlace := ["internal/bytealg.MakeNoZero"], apart := false }
def ChachaKeepsSaid : Prop := chachaKeepsRow.holds Try.pinned (OpenSpec.ofChange chachaKeepsSpec)

/-- ITS FALSE NEIGHBOUR: 'it returns false'. Refute it at one input. -/
def chachaKeepsWrong : ChangeSpec := { name := "chachaKeeps", fn := fun _ => fun
  | [d1, d2] => { results := [.lit (.bool false)], args := [d1, d2] }
  | _ => none }
def ChachaKeepsWrongFalsely : Prop := chachaKeepsRow.holds Try.pinned (OpenSpec.ofChange chachaKeepsWrong)

/- THE SECOND FORM. 'bulk': how many values and letters a reading holds, each counted each time it is reached (what is shared counts as often as it is met; a slice's spare places count too). A statement '..UptoSaid' is the law's where the arguments, and the package variables that the reading takes, are together of bulk at most 1048576: NARROWER than '..Said'. Prove '..Said' where nothing that the law and all that it calls make is longer than what came in: it says more and counts as full. Else prove '..UptoSaid'. A law counts once. -/
mutual
def uptoBulk {H : Type} : DataW H → Nat
  | .lit (.string bytes) => bytes.length + 1
  | .lit _ => 1
  | .nil => 1
  | .ptr d => uptoBulk d + 1
  | .slice elems spare => uptoBulkAll elems + uptoBulkAll spare + 1
  | .agg parts => uptoBulkAll parts + 1
  | .iface _ d => uptoBulk d + 1
  | .map entries => uptoBulkEntries entries + 1
  | .held _ => 1
def uptoBulkAll {H : Type} : List (DataW H) → Nat
  | [] => 0
  | d :: r => uptoBulk d + uptoBulkAll r
def uptoBulkEntries {H : Type} : List (Lit × DataW H) → Nat
  | [] => 0
  | x :: r => uptoBulkEntry x + uptoBulkEntries r
def uptoBulkEntry {H : Type} : Lit × DataW H → Nat
  | (.string bytes, d) => bytes.length + uptoBulk d + 1
  | (_, d) => uptoBulk d + 1
 end
def uptoSmall : (H : Type) → List (DataW H) → Bool := fun _ ds => decide (uptoBulkAll ds ≤ 1048576)
def OpenSpec.upto (s : _root_.Go.ChangeSpec) : _root_.Go.OpenSpec := { _root_.Go.OpenSpec.ofChange s with cond := some uptoSmall }

/-- 'shallotlaw04.ChachaQuarters', WHERE WHAT IT READS IS OF BULK AT MOST 1048576: true; the input reads as it did. -/
def chachaQuartersUptoRow : OpenClaim := { program := "ytnphghomcnpllaa", sum := "61fccada9de9e7093fec89c3e22117d39fac46919d6f2cf9bf7dfe315fccc4ec", func := "shallot/shallotlaw04.ChachaQuarters", spec := "chachaQuarters", apart := false, narrowed := true }
def ChachaQuartersUptoSaid : Prop := chachaQuartersUptoRow.holds Try.pinned (OpenSpec.upto chachaQuartersSpec)

/-- 'shallotlaw04.ChachaStreams', WHERE WHAT IT READS IS OF BULK AT MOST 1048576: true; the input reads as it did. -/
def chachaStreamsUptoRow : OpenClaim := { program := "ytnphghomcnpllaa", sum := "61fccada9de9e7093fec89c3e22117d39fac46919d6f2cf9bf7dfe315fccc4ec", func := "shallot/shallotlaw04.ChachaStreams", spec := "chachaStreams", apart := false, narrowed := true }
def ChachaStreamsUptoSaid : Prop := chachaStreamsUptoRow.holds Try.pinned (OpenSpec.upto chachaStreamsSpec)

/-- 'shallotlaw04.ChachaBlocks', WHERE WHAT IT READS IS OF BULK AT MOST 1048576: true; the input reads as it did. -/
def chachaBlocksUptoRow : OpenClaim := { program := "ytnphghomcnpllaa", sum := "61fccada9de9e7093fec89c3e22117d39fac46919d6f2cf9bf7dfe315fccc4ec", func := "shallot/shallotlaw04.ChachaBlocks", spec := "chachaBlocks", apart := false, narrowed := true }
def ChachaBlocksUptoSaid : Prop := chachaBlocksUptoRow.holds Try.pinned (OpenSpec.upto chachaBlocksSpec)

/-- 'shallotlaw04.ChachaTurns', WHERE WHAT IT READS IS OF BULK AT MOST 1048576: true; the input reads as it did. -/
def chachaTurnsUptoRow : OpenClaim := { program := "ytnphghomcnpllaa", sum := "61fccada9de9e7093fec89c3e22117d39fac46919d6f2cf9bf7dfe315fccc4ec", func := "shallot/shallotlaw04.ChachaTurns", spec := "chachaTurns", inPlace := ["internal/bytealg.MakeNoZero"], apart := false, narrowed := true }
def ChachaTurnsUptoSaid : Prop := chachaTurnsUptoRow.holds Try.pinned (OpenSpec.upto chachaTurnsSpec)

/-- 'shallotlaw04.ChachaKeeps', WHERE WHAT IT READS IS OF BULK AT MOST 1048576: true; the input reads as it did. -/
def chachaKeepsUptoRow : OpenClaim := { program := "ytnphghomcnpllaa", sum := "61fccada9de9e7093fec89c3e22117d39fac46919d6f2cf9bf7dfe315fccc4ec", func := "shallot/shallotlaw04.ChachaKeeps", spec := "chachaKeeps", inPlace := ["internal/bytealg.MakeNoZero"], apart := false, narrowed := true }
def ChachaKeepsUptoSaid : Prop := chachaKeepsUptoRow.holds Try.pinned (OpenSpec.upto chachaKeepsSpec)

end Rows
end Go.Proofs.Ytnphghomcnpllaa
