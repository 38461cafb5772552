/-
  No cell of these rows narrows 'for every input' (looked for: loops, veiled, ifaces, maps, wideKeys, modest, calm, conditions, laid).
  DERIVED. THE GIVEN ROWS OF THIS SEAT. 9 by the template 'for every input the law returns true; each argument reads behind the call as it read before'; 0 by the template 'total and deterministic' (their statements: YtmhleegjffdnkaaTotals.lean).
  GIVEN WITH THE SEED: the statements are not yours to turn. If you find one false, say at which input.
  Laid BY PROGRAM, IN A SANDBOX (cutbox-rows.mjs): the forced cells as the released guide's own fill.sh prints them over the translation 472acae4dde5f27b… (all of the seat's roots in one cut). By AI agents, Wed Nov 11 2026. No macro, syntax, notation, axiom, sorry.
-/
import Derived.Test.YtmhleegjffdnkaaChecked
import GoSem.Claim
import GoSem.ClaimJoined
import GoSem.ClaimMapViews
import Derived.JoinedTies
import Derived.KernelRfl
namespace Go.Proofs.Ytmhleegjffdnkaa
/- THE CELL 'sum', in the pinned program and in every row, IS THE sha256 OF THE DUMP (.gsa) THAT YtmhleegjffdnkaaProg.lean LOADS. Nothing in Lean hashes anything: it is a label: what it is worth is what the hold of that sum in a sandbox is worth. -/
noncomputable def Try.pinned : Pinned := { name := "ytmhleegjffdnkaa", sum := "472acae4dde5f27b107c951f919189ea6427b4d657852ab793659a0bb94e055d", checked := Try.checked }
namespace Rows
def none {H : Type} : Left H := { results := [], args := [] }

/-- 'shallotlaw01.CodecPads': WHATEVER THE INPUT: true; the input reads as it did. -/
def codecPadsSpec : ChangeSpec := { name := "codecPads", fn := fun _ => fun
  | [d1, d2] => { results := [.lit (.bool true)], args := [d1, d2] }
  | _ => none }
def codecPadsRow : OpenClaim := { program := "ytmhleegjffdnkaa", sum := "472acae4dde5f27b107c951f919189ea6427b4d657852ab793659a0bb94e055d", func := "shallot/shallotlaw01.CodecPads", spec := "codecPads", apart := false }
def CodecPadsSaid : Prop := codecPadsRow.holds Try.pinned (OpenSpec.ofChange codecPadsSpec)

/-- ITS FALSE NEIGHBOUR: 'it returns false'. Refute it at one input. -/
def codecPadsWrong : ChangeSpec := { name := "codecPads", fn := fun _ => fun
  | [d1, d2] => { results := [.lit (.bool false)], args := [d1, d2] }
  | _ => none }
def CodecPadsWrongFalsely : Prop := codecPadsRow.holds Try.pinned (OpenSpec.ofChange codecPadsWrong)

/-- 'shallotlaw01.CodecLooks': WHATEVER THE INPUT: true; the input reads as it did. -/
def codecLooksSpec : ChangeSpec := { name := "codecLooks", fn := fun _ => fun
  | [d1, d2] => { results := [.lit (.bool true)], args := [d1, d2] }
  | _ => none }
def codecLooksRow : OpenClaim := { program := "ytmhleegjffdnkaa", sum := "472acae4dde5f27b107c951f919189ea6427b4d657852ab793659a0bb94e055d", func := "shallot/shallotlaw01.CodecLooks", spec := "codecLooks", apart := false }
def CodecLooksSaid : Prop := codecLooksRow.holds Try.pinned (OpenSpec.ofChange codecLooksSpec)

/-- ITS FALSE NEIGHBOUR: 'it returns false'. Refute it at one input. -/
def codecLooksWrong : ChangeSpec := { name := "codecLooks", fn := fun _ => fun
  | [d1, d2] => { results := [.lit (.bool false)], args := [d1, d2] }
  | _ => none }
def CodecLooksWrongFalsely : Prop := codecLooksRow.holds Try.pinned (OpenSpec.ofChange codecLooksWrong)

/-- 'shallotlaw01.CodecXors': WHATEVER THE INPUT: true; the input reads as it did. -/
def codecXorsSpec : ChangeSpec := { name := "codecXors", fn := fun _ => fun
  | [d] => { results := [.lit (.bool true)], args := [d] }
  | _ => none }
def codecXorsRow : OpenClaim := { program := "ytmhleegjffdnkaa", sum := "472acae4dde5f27b107c951f919189ea6427b4d657852ab793659a0bb94e055d", func := "shallot/shallotlaw01.CodecXors", spec := "codecXors", apart := false }
def CodecXorsSaid : Prop := codecXorsRow.holds Try.pinned (OpenSpec.ofChange codecXorsSpec)

/-- ITS FALSE NEIGHBOUR: 'it returns false'. Refute it at one input. -/
def codecXorsWrong : ChangeSpec := { name := "codecXors", fn := fun _ => fun
  | [d] => { results := [.lit (.bool false)], args := [d] }
  | _ => none }
def CodecXorsWrongFalsely : Prop := codecXorsRow.holds Try.pinned (OpenSpec.ofChange codecXorsWrong)

/-- 'shallotlaw01.CodecGets': WHATEVER THE INPUT: true; the input reads as it did. -/
def codecGetsSpec : ChangeSpec := { name := "codecGets", fn := fun _ => fun
  | [d1, d2] => { results := [.lit (.bool true)], args := [d1, d2] }
  | _ => none }
def codecGetsRow : OpenClaim := { program := "ytmhleegjffdnkaa", sum := "472acae4dde5f27b107c951f919189ea6427b4d657852ab793659a0bb94e055d", func := "shallot/shallotlaw01.CodecGets", spec := "codecGets", apart := false }
def CodecGetsSaid : Prop := codecGetsRow.holds Try.pinned (OpenSpec.ofChange codecGetsSpec)

/-- ITS FALSE NEIGHBOUR: 'it returns false'. Refute it at one input. -/
def codecGetsWrong : ChangeSpec := { name := "codecGets", fn := fun _ => fun
  | [d1, d2] => { results := [.lit (.bool false)], args := [d1, d2] }
  | _ => none }
def CodecGetsWrongFalsely : Prop := codecGetsRow.holds Try.pinned (OpenSpec.ofChange codecGetsWrong)

/-- 'shallotlaw01.CodecCursors': WHATEVER THE INPUT: true; the input reads as it did. -/
def codecCursorsSpec : ChangeSpec := { name := "codecCursors", fn := fun _ => fun
  | [d1, d2] => { results := [.lit (.bool true)], args := [d1, d2] }
  | _ => none }
def codecCursorsRow : OpenClaim := { program := "ytmhleegjffdnkaa", sum := "472acae4dde5f27b107c951f919189ea6427b4d657852ab793659a0bb94e055d", func := "shallot/shallotlaw01.CodecCursors", spec := "codecCursors", apart := false }
def CodecCursorsSaid : Prop := codecCursorsRow.holds Try.pinned (OpenSpec.ofChange codecCursorsSpec)

/-- ITS FALSE NEIGHBOUR: 'it returns false'. Refute it at one input. -/
def codecCursorsWrong : ChangeSpec := { name := "codecCursors", fn := fun _ => fun
  | [d1, d2] => { results := [.lit (.bool false)], args := [d1, d2] }
  | _ => none }
def CodecCursorsWrongFalsely : Prop := codecCursorsRow.holds Try.pinned (OpenSpec.ofChange codecCursorsWrong)

/-- 'shallotlaw01.CodecPuts': WHATEVER THE INPUT: true; the input reads as it did. -/
def codecPutsSpec : ChangeSpec := { name := "codecPuts", fn := fun _ => fun
  | [d1, d2, d3] => { results := [.lit (.bool true)], args := [d1, d2, d3] }
  | _ => none }
def codecPutsRow : OpenClaim := { program := "ytmhleegjffdnkaa", sum := "472acae4dde5f27b107c951f919189ea6427b4d657852ab793659a0bb94e055d", func := "shallot/shallotlaw01.CodecPuts", spec := "codecPuts", inPlace := ["internal/bytealg.MakeNoZero"], apart := false }
def CodecPutsSaid : Prop := codecPutsRow.holds Try.pinned (OpenSpec.ofChange codecPutsSpec)

/-- ITS FALSE NEIGHBOUR: 'it returns false'. Refute it at one input. -/
def codecPutsWrong : ChangeSpec := { name := "codecPuts", fn := fun _ => fun
  | [d1, d2, d3] => { results := [.lit (.bool false)], args := [d1, d2, d3] }
  | _ => none }
def CodecPutsWrongFalsely : Prop := codecPutsRow.holds Try.pinned (OpenSpec.ofChange codecPutsWrong)

/-- 'shallotlaw01.CodecJoins': WHATEVER THE INPUT: true; the input reads as it did. -/
def codecJoinsSpec : ChangeSpec := { name := "codecJoins", fn := fun _ => fun
  | [d] => { results := [.lit (.bool true)], args := [d] }
  | _ => none }
def codecJoinsRow : OpenClaim := { program := "ytmhleegjffdnkaa", sum := "472acae4dde5f27b107c951f919189ea6427b4d657852ab793659a0bb94e055d", func := "shallot/shallotlaw01.CodecJoins", spec := "codecJoins", inPlace := ["internal/bytealg.MakeNoZero"], apart := false }
def CodecJoinsSaid : Prop := codecJoinsRow.holds Try.pinned (OpenSpec.ofChange codecJoinsSpec)

/-- ITS FALSE NEIGHBOUR: 'it returns false'. Refute it at one input. -/
def codecJoinsWrong : ChangeSpec := { name := "codecJoins", fn := fun _ => fun
  | [d] => { results := [.lit (.bool false)], args := [d] }
  | _ => none }
def CodecJoinsWrongFalsely : Prop := codecJoinsRow.holds Try.pinned (OpenSpec.ofChange codecJoinsWrong)

/-- 'shallotlaw01.CodecCuts': WHATEVER THE INPUT: true; the input reads as it did. -/
def codecCutsSpec : ChangeSpec := { name := "codecCuts", fn := fun _ => fun
  | [d1, d2] => { results := [.lit (.bool true)], args := [d1, d2] }
  | _ => none }
def codecCutsRow : OpenClaim := { program := "ytmhleegjffdnkaa", sum := "472acae4dde5f27b107c951f919189ea6427b4d657852ab793659a0bb94e055d", func := "shallot/shallotlaw01.CodecCuts", spec := "codecCuts", inPlace := ["internal/bytealg.MakeNoZero"], apart := false }
def CodecCutsSaid : Prop := codecCutsRow.holds Try.pinned (OpenSpec.ofChange codecCutsSpec)

/-- ITS FALSE NEIGHBOUR: 'it returns false'. Refute it at one input. -/
def codecCutsWrong : ChangeSpec := { name := "codecCuts", fn := fun _ => fun
  | [d1, d2] => { results := [.lit (.bool false)], args := [d1, d2] }
  | _ => none }
def CodecCutsWrongFalsely : Prop := codecCutsRow.holds Try.pinned (OpenSpec.ofChange codecCutsWrong)

/-- 'shallotlaw01.CodecKeeps': WHATEVER THE INPUT: true; the input reads as it did. -/
def codecKeepsSpec : ChangeSpec := { name := "codecKeeps", fn := fun _ => fun
  | [d1, d2] => { results := [.lit (.bool true)], args := [d1, d2] }
  | _ => none }
def codecKeepsRow : OpenClaim := { program := "ytmhleegjffdnkaa", sum := "472acae4dde5f27b107c951f919189ea6427b4d657852ab793659a0bb94e055d", func := "shallot/shallotlaw01.CodecKeeps", spec := "codecKeeps", inPlace := ["internal/bytealg.MakeNoZero"], apart := false }
def CodecKeepsSaid : Prop := codecKeepsRow.holds Try.pinned (OpenSpec.ofChange codecKeepsSpec)

/-- ITS FALSE NEIGHBOUR: 'it returns false'. Refute it at one input. -/
def codecKeepsWrong : ChangeSpec := { name := "codecKeeps", fn := fun _ => fun
  | [d1, d2] => { results := [.lit (.bool false)], args := [d1, d2] }
  | _ => none }
def CodecKeepsWrongFalsely : Prop := codecKeepsRow.holds Try.pinned (OpenSpec.ofChange codecKeepsWrong)

/- THE SECOND FORM. 'bulk': how many values and letters a reading holds, each counted each time it is reached (what is shared counts as often as it is met; a slice's spare places count too). A statement '..UptoSaid' is the law's where the arguments, and the package variables that the reading takes, are together of bulk at most 1048576: NARROWER than '..Said'. Prove '..Said' where nothing that the law and all that it calls make is longer than what came in: it says more and counts as full. Else prove '..UptoSaid'. A law counts once. -/
mutual
def uptoBulk {H : Type} : DataW H → Nat
  | .lit (.string bytes) => bytes.length + 1
  | .lit _ => 1
  | .nil => 1
  | .ptr d => uptoBulk d + 1
  | .slice elems spare => uptoBulkAll elems + uptoBulkAll spare + 1
  | .agg parts => uptoBulkAll parts + 1
  | .iface _ d => uptoBulk d + 1
  | .map entries => uptoBulkEntries entries + 1
  | .held _ => 1
def uptoBulkAll {H : Type} : List (DataW H) → Nat
  | [] => 0
  | d :: r => uptoBulk d + uptoBulkAll r
def uptoBulkEntries {H : Type} : List (Lit × DataW H) → Nat
  | [] => 0
  | x :: r => uptoBulkEntry x + uptoBulkEntries r
def uptoBulkEntry {H : Type} : Lit × DataW H → Nat
  | (.string bytes, d) => bytes.length + uptoBulk d + 1
  | (_, d) => uptoBulk d + 1
 end
def uptoSmall : (H : Type) → List (DataW H) → Bool := fun _ ds => decide (uptoBulkAll ds ≤ 1048576)
def OpenSpec.upto (s : _root_.Go.ChangeSpec) : _root_.Go.OpenSpec := { _root_.Go.OpenSpec.ofChange s with cond := some uptoSmall }

/-- 'shallotlaw01.CodecPads', WHERE WHAT IT READS IS OF BULK AT MOST 1048576: true; the input reads as it did. -/
def codecPadsUptoRow : OpenClaim := { program := "ytmhleegjffdnkaa", sum := "472acae4dde5f27b107c951f919189ea6427b4d657852ab793659a0bb94e055d", func := "shallot/shallotlaw01.CodecPads", spec := "codecPads", apart := false, narrowed := true }
def CodecPadsUptoSaid : Prop := codecPadsUptoRow.holds Try.pinned (OpenSpec.upto codecPadsSpec)

/-- 'shallotlaw01.CodecLooks', WHERE WHAT IT READS IS OF BULK AT MOST 1048576: true; the input reads as it did. -/
def codecLooksUptoRow : OpenClaim := { program := "ytmhleegjffdnkaa", sum := "472acae4dde5f27b107c951f919189ea6427b4d657852ab793659a0bb94e055d", func := "shallot/shallotlaw01.CodecLooks", spec := "codecLooks", apart := false, narrowed := true }
def CodecLooksUptoSaid : Prop := codecLooksUptoRow.holds Try.pinned (OpenSpec.upto codecLooksSpec)

/-- 'shallotlaw01.CodecXors', WHERE WHAT IT READS IS OF BULK AT MOST 1048576: true; the input reads as it did. -/
def codecXorsUptoRow : OpenClaim := { program := "ytmhleegjffdnkaa", sum := "472acae4dde5f27b107c951f919189ea6427b4d657852ab793659a0bb94e055d", func := "shallot/shallotlaw01.CodecXors", spec := "codecXors", apart := false, narrowed := true }
def CodecXorsUptoSaid : Prop := codecXorsUptoRow.holds Try.pinned (OpenSpec.upto codecXorsSpec)

/-- 'shallotlaw01.CodecGets', WHERE WHAT IT READS IS OF BULK AT MOST 1048576: true; the input reads as it did. -/
def codecGetsUptoRow : OpenClaim := { program := "ytmhleegjffdnkaa", sum := "472acae4dde5f27b107c951f919189ea6427b4d657852ab793659a0bb94e055d", func := "shallot/shallotlaw01.CodecGets", spec := "codecGets", apart := false, narrowed := true }
def CodecGetsUptoSaid : Prop := codecGetsUptoRow.holds Try.pinned (OpenSpec.upto codecGetsSpec)

/-- 'shallotlaw01.CodecCursors', WHERE WHAT IT READS IS OF BULK AT MOST 1048576: true; the input reads as it did. -/
def codecCursorsUptoRow : OpenClaim := { program := "ytmhleegjffdnkaa", sum := "472acae4dde5f27b107c951f919189ea6427b4d657852ab793659a0bb94e055d", func := "shallot/shallotlaw01.CodecCursors", spec := "codecCursors", apart := false, narrowed := true }
def CodecCursorsUptoSaid : Prop := codecCursorsUptoRow.holds Try.pinned (OpenSpec.upto codecCursorsSpec)

/-- 'shallotlaw01.CodecPuts', WHERE WHAT IT READS IS OF BULK AT MOST 1048576: true; the input reads as it did. -/
def codecPutsUptoRow : OpenClaim := { program := "ytmhleegjffdnkaa", sum := "472acae4dde5f27b107c951f919189ea6427b4d657852ab793659a0bb94e055d", func := "shallot/shallotlaw01.CodecPuts", spec := "codecPuts", inPlace := ["internal/bytealg.MakeNoZero"], apart := false, narrowed := true }
def CodecPutsUptoSaid : Prop := codecPutsUptoRow.holds Try.pinned (OpenSpec.upto codecPutsSpec)

/-- 'shallotlaw01.CodecJoins', WHERE WHAT IT READS IS OF BULK AT MOST 1048576: true; the input reads as it did. -/
def codecJoinsUptoRow : OpenClaim := { program := "ytmhleegjffdnkaa", sum := "472acae4dde5f27b107c951f919189ea6427b4d657852ab793659a0bb94e055d", func := "shallot/shallotlaw01.CodecJoins", spec := "codecJoins", inPlace := ["internal/bytealg.MakeNoZero"], apart := false, narrowed := true }
def CodecJoinsUptoSaid : Prop := codecJoinsUptoRow.holds Try.pinned (OpenSpec.upto codecJoinsSpec)

/-- 'shallotlaw01.CodecCuts', WHERE WHAT IT READS IS OF BULK AT MOST 1048576: true; the input reads as it did. -/
def codecCutsUptoRow : OpenClaim := { program := "ytmhleegjffdnkaa", sum := "472acae4dde5f27b107c951f919189ea6427b4d657852ab793659a0bb94e055d", func := "shallot/shallotlaw01.CodecCuts", spec := "codecCuts", inPlace := ["internal/bytealg.MakeNoZero"], apart := false, narrowed := true }
def CodecCutsUptoSaid : Prop := codecCutsUptoRow.holds Try.pinned (OpenSpec.upto codecCutsSpec)

/-- 'shallotlaw01.CodecKeeps', WHERE WHAT IT READS IS OF BULK AT MOST 1048576: true; the input reads as it did. -/
def codecKeepsUptoRow : OpenClaim := { program := "ytmhleegjffdnkaa", sum := "472acae4dde5f27b107c951f919189ea6427b4d657852ab793659a0bb94e055d", func := "shallot/shallotlaw01.CodecKeeps", spec := "codecKeeps", inPlace := ["internal/bytealg.MakeNoZero"], apart := false, narrowed := true }
def CodecKeepsUptoSaid : Prop := codecKeepsUptoRow.holds Try.pinned (OpenSpec.upto codecKeepsSpec)

end Rows
end Go.Proofs.Ytmhleegjffdnkaa
