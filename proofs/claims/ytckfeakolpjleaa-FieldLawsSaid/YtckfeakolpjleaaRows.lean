/-
  No cell of these rows narrows 'for every input' (looked for: loops, veiled, ifaces, maps, wideKeys, modest, calm, conditions, laid).
  DERIVED. THE GIVEN ROWS OF THIS SEAT. 7 by the template 'for every input the law returns true; each argument reads behind the call as it read before'; 0 by the template 'total and deterministic' (their statements: YtckfeakolpjleaaTotals.lean).
  GIVEN WITH THE SEED: the statements are not yours to turn. If you find one false, say at which input.
  Laid BY PROGRAM, IN A SANDBOX (cutbox-rows.mjs): the forced cells as the released guide's own fill.sh prints them over the translation 43474e5db26c36f3… (all of the seat's roots in one cut). By AI agents, Wed Nov 11 2026. No macro, syntax, notation, axiom, sorry.
-/
import Derived.Test.YtckfeakolpjleaaChecked
import GoSem.Claim
import GoSem.ClaimJoined
import GoSem.ClaimMapViews
import Derived.JoinedTies
import Derived.KernelRfl
namespace Go.Proofs.Ytckfeakolpjleaa
/- THE CELL 'sum', in the pinned program and in every row, IS THE sha256 OF THE DUMP (.gsa) THAT YtckfeakolpjleaaProg.lean LOADS. Nothing in Lean hashes anything: it is a label: what it is worth is what the hold of that sum in a sandbox is worth. -/
noncomputable def Try.pinned : Pinned := { name := "ytckfeakolpjleaa", sum := "43474e5db26c36f345a6f20b96d7889a399367c0f50df461bac258d2cc6480df", checked := Try.checked }
namespace Rows
def none {H : Type} : Left H := { results := [], args := [] }

/-- 'shallotlaw05.FieldPowers': WHATEVER THE INPUT: true; the input reads as it did. -/
def fieldPowersSpec : ChangeSpec := { name := "fieldPowers", fn := fun _ => fun
  | [d1, d2, d3] => { results := [.lit (.bool true)], args := [d1, d2, d3] }
  | _ => none }
def fieldPowersRow : OpenClaim := { program := "ytckfeakolpjleaa", sum := "43474e5db26c36f345a6f20b96d7889a399367c0f50df461bac258d2cc6480df", func := "shallot/shallotlaw05.FieldPowers", spec := "fieldPowers", inPlace := ["math/bits.Sub64", "math/bits.Add64"], unfollowed := true, recurses := true, apart := false }
def FieldPowersSaid : Prop := fieldPowersRow.holds Try.pinned (OpenSpec.ofChange fieldPowersSpec)

/-- ITS FALSE NEIGHBOUR: 'it returns false'. Refute it at one input. -/
def fieldPowersWrong : ChangeSpec := { name := "fieldPowers", fn := fun _ => fun
  | [d1, d2, d3] => { results := [.lit (.bool false)], args := [d1, d2, d3] }
  | _ => none }
def FieldPowersWrongFalsely : Prop := fieldPowersRow.holds Try.pinned (OpenSpec.ofChange fieldPowersWrong)

/-- 'shallotlaw05.FieldRatios': WHATEVER THE INPUT: true; the input reads as it did. -/
def fieldRatiosSpec : ChangeSpec := { name := "fieldRatios", fn := fun _ => fun
  | [d] => { results := [.lit (.bool true)], args := [d] }
  | _ => none }
def fieldRatiosRow : OpenClaim := { program := "ytckfeakolpjleaa", sum := "43474e5db26c36f345a6f20b96d7889a399367c0f50df461bac258d2cc6480df", func := "shallot/shallotlaw05.FieldRatios", spec := "fieldRatios", inPlace := ["math/bits.Sub64", "math/bits.Add64"], unfollowed := true, recurses := true, apart := false }
def FieldRatiosSaid : Prop := fieldRatiosRow.holds Try.pinned (OpenSpec.ofChange fieldRatiosSpec)

/-- ITS FALSE NEIGHBOUR: 'it returns false'. Refute it at one input. -/
def fieldRatiosWrong : ChangeSpec := { name := "fieldRatios", fn := fun _ => fun
  | [d] => { results := [.lit (.bool false)], args := [d] }
  | _ => none }
def FieldRatiosWrongFalsely : Prop := fieldRatiosRow.holds Try.pinned (OpenSpec.ofChange fieldRatiosWrong)

/-- 'shallotlaw05.FieldForms': WHATEVER THE INPUT: true; the input reads as it did. -/
def fieldFormsSpec : ChangeSpec := { name := "fieldForms", fn := fun _ => fun
  | [d1, d2, d3] => { results := [.lit (.bool true)], args := [d1, d2, d3] }
  | _ => none }
def fieldFormsRow : OpenClaim := { program := "ytckfeakolpjleaa", sum := "43474e5db26c36f345a6f20b96d7889a399367c0f50df461bac258d2cc6480df", func := "shallot/shallotlaw05.FieldForms", spec := "fieldForms", inPlace := ["math/bits.Sub64", "math/bits.Add64"], unfollowed := true, recurses := true, apart := false }
def FieldFormsSaid : Prop := fieldFormsRow.holds Try.pinned (OpenSpec.ofChange fieldFormsSpec)

/-- ITS FALSE NEIGHBOUR: 'it returns false'. Refute it at one input. -/
def fieldFormsWrong : ChangeSpec := { name := "fieldForms", fn := fun _ => fun
  | [d1, d2, d3] => { results := [.lit (.bool false)], args := [d1, d2, d3] }
  | _ => none }
def FieldFormsWrongFalsely : Prop := fieldFormsRow.holds Try.pinned (OpenSpec.ofChange fieldFormsWrong)

/-- 'shallotlaw05.FieldSums': WHATEVER THE INPUT: true; the input reads as it did. -/
def fieldSumsSpec : ChangeSpec := { name := "fieldSums", fn := fun _ => fun
  | [d] => { results := [.lit (.bool true)], args := [d] }
  | _ => none }
def fieldSumsRow : OpenClaim := { program := "ytckfeakolpjleaa", sum := "43474e5db26c36f345a6f20b96d7889a399367c0f50df461bac258d2cc6480df", func := "shallot/shallotlaw05.FieldSums", spec := "fieldSums", inPlace := ["math/bits.Sub64", "math/bits.Add64"], unfollowed := true, recurses := true, apart := false }
def FieldSumsSaid : Prop := fieldSumsRow.holds Try.pinned (OpenSpec.ofChange fieldSumsSpec)

/-- ITS FALSE NEIGHBOUR: 'it returns false'. Refute it at one input. -/
def fieldSumsWrong : ChangeSpec := { name := "fieldSums", fn := fun _ => fun
  | [d] => { results := [.lit (.bool false)], args := [d] }
  | _ => none }
def FieldSumsWrongFalsely : Prop := fieldSumsRow.holds Try.pinned (OpenSpec.ofChange fieldSumsWrong)

/-- 'shallotlaw05.FieldSubs': WHATEVER THE INPUT: true; the input reads as it did. -/
def fieldSubsSpec : ChangeSpec := { name := "fieldSubs", fn := fun _ => fun
  | [d1, d2] => { results := [.lit (.bool true)], args := [d1, d2] }
  | _ => none }
def fieldSubsRow : OpenClaim := { program := "ytckfeakolpjleaa", sum := "43474e5db26c36f345a6f20b96d7889a399367c0f50df461bac258d2cc6480df", func := "shallot/shallotlaw05.FieldSubs", spec := "fieldSubs", inPlace := ["math/bits.Sub64", "math/bits.Add64"], unfollowed := true, recurses := true, apart := false }
def FieldSubsSaid : Prop := fieldSubsRow.holds Try.pinned (OpenSpec.ofChange fieldSubsSpec)

/-- ITS FALSE NEIGHBOUR: 'it returns false'. Refute it at one input. -/
def fieldSubsWrong : ChangeSpec := { name := "fieldSubs", fn := fun _ => fun
  | [d1, d2] => { results := [.lit (.bool false)], args := [d1, d2] }
  | _ => none }
def FieldSubsWrongFalsely : Prop := fieldSubsRow.holds Try.pinned (OpenSpec.ofChange fieldSubsWrong)

/-- 'shallotlaw05.FieldReads': WHATEVER THE INPUT: true; the input reads as it did. -/
def fieldReadsSpec : ChangeSpec := { name := "fieldReads", fn := fun _ => fun
  | [d] => { results := [.lit (.bool true)], args := [d] }
  | _ => none }
def fieldReadsRow : OpenClaim := { program := "ytckfeakolpjleaa", sum := "43474e5db26c36f345a6f20b96d7889a399367c0f50df461bac258d2cc6480df", func := "shallot/shallotlaw05.FieldReads", spec := "fieldReads", inPlace := ["math/bits.Sub64", "math/bits.Add64"], unfollowed := true, recurses := true, apart := false }
def FieldReadsSaid : Prop := fieldReadsRow.holds Try.pinned (OpenSpec.ofChange fieldReadsSpec)

/-- ITS FALSE NEIGHBOUR: 'it returns false'. Refute it at one input. -/
def fieldReadsWrong : ChangeSpec := { name := "fieldReads", fn := fun _ => fun
  | [d] => { results := [.lit (.bool false)], args := [d] }
  | _ => none }
def FieldReadsWrongFalsely : Prop := fieldReadsRow.holds Try.pinned (OpenSpec.ofChange fieldReadsWrong)

/-- 'shallotlaw05.FieldLaws': WHATEVER THE INPUT: true; the input reads as it did. -/
def fieldLawsSpec : ChangeSpec := { name := "fieldLaws", fn := fun _ => fun
  | [d1, d2, d3] => { results := [.lit (.bool true)], args := [d1, d2, d3] }
  | _ => none }
def fieldLawsRow : OpenClaim := { program := "ytckfeakolpjleaa", sum := "43474e5db26c36f345a6f20b96d7889a399367c0f50df461bac258d2cc6480df", func := "shallot/shallotlaw05.FieldLaws", spec := "fieldLaws", inPlace := ["math/bits.Sub64", "math/bits.Add64"], unfollowed := true, recurses := true, apart := false }
def FieldLawsSaid : Prop := fieldLawsRow.holds Try.pinned (OpenSpec.ofChange fieldLawsSpec)

/-- ITS FALSE NEIGHBOUR: 'it returns false'. Refute it at one input. -/
def fieldLawsWrong : ChangeSpec := { name := "fieldLaws", fn := fun _ => fun
  | [d1, d2, d3] => { results := [.lit (.bool false)], args := [d1, d2, d3] }
  | _ => none }
def FieldLawsWrongFalsely : Prop := fieldLawsRow.holds Try.pinned (OpenSpec.ofChange fieldLawsWrong)

/- THE SECOND FORM. 'bulk': how many values and letters a reading holds, each counted each time it is reached (what is shared counts as often as it is met; a slice's spare places count too). A statement '..UptoSaid' is the law's where the arguments, and the package variables that the reading takes, are together of bulk at most 1048576: NARROWER than '..Said'. Prove '..Said' where nothing that the law and all that it calls make is longer than what came in: it says more and counts as full. Else prove '..UptoSaid'. A law counts once. -/
mutual
def uptoBulk {H : Type} : DataW H → Nat
  | .lit (.string bytes) => bytes.length + 1
  | .lit _ => 1
  | .nil => 1
  | .ptr d => uptoBulk d + 1
  | .slice elems spare => uptoBulkAll elems + uptoBulkAll spare + 1
  | .agg parts => uptoBulkAll parts + 1
  | .iface _ d => uptoBulk d + 1
  | .map entries => uptoBulkEntries entries + 1
  | .held _ => 1
def uptoBulkAll {H : Type} : List (DataW H) → Nat
  | [] => 0
  | d :: r => uptoBulk d + uptoBulkAll r
def uptoBulkEntries {H : Type} : List (Lit × DataW H) → Nat
  | [] => 0
  | x :: r => uptoBulkEntry x + uptoBulkEntries r
def uptoBulkEntry {H : Type} : Lit × DataW H → Nat
  | (.string bytes, d) => bytes.length + uptoBulk d + 1
  | (_, d) => uptoBulk d + 1
 end
def uptoSmall : (H : Type) → List (DataW H) → Bool := fun _ ds => decide (uptoBulkAll ds ≤ 1048576)
def OpenSpec.upto (s : _root_.Go.ChangeSpec) : _root_.Go.OpenSpec := { _root_.Go.OpenSpec.ofChange s with cond := some uptoSmall }

/-- 'shallotlaw05.FieldPowers', WHERE WHAT IT READS IS OF BULK AT MOST 1048576: true; the input reads as it did. -/
def fieldPowersUptoRow : OpenClaim := { program := "ytckfeakolpjleaa", sum := "43474e5db26c36f345a6f20b96d7889a399367c0f50df461bac258d2cc6480df", func := "shallot/shallotlaw05.FieldPowers", spec := "fieldPowers", inPlace := ["math/bits.Sub64", "math/bits.Add64"], unfollowed := true, recurses := true, apart := false, narrowed := true }
def FieldPowersUptoSaid : Prop := fieldPowersUptoRow.holds Try.pinned (OpenSpec.upto fieldPowersSpec)

/-- 'shallotlaw05.FieldRatios', WHERE WHAT IT READS IS OF BULK AT MOST 1048576: true; the input reads as it did. -/
def fieldRatiosUptoRow : OpenClaim := { program := "ytckfeakolpjleaa", sum := "43474e5db26c36f345a6f20b96d7889a399367c0f50df461bac258d2cc6480df", func := "shallot/shallotlaw05.FieldRatios", spec := "fieldRatios", inPlace := ["math/bits.Sub64", "math/bits.Add64"], unfollowed := true, recurses := true, apart := false, narrowed := true }
def FieldRatiosUptoSaid : Prop := fieldRatiosUptoRow.holds Try.pinned (OpenSpec.upto fieldRatiosSpec)

/-- 'shallotlaw05.FieldForms', WHERE WHAT IT READS IS OF BULK AT MOST 1048576: true; the input reads as it did. -/
def fieldFormsUptoRow : OpenClaim := { program := "ytckfeakolpjleaa", sum := "43474e5db26c36f345a6f20b96d7889a399367c0f50df461bac258d2cc6480df", func := "shallot/shallotlaw05.FieldForms", spec := "fieldForms", inPlace := ["math/bits.Sub64", "math/bits.Add64"], unfollowed := true, recurses := true, apart := false, narrowed := true }
def FieldFormsUptoSaid : Prop := fieldFormsUptoRow.holds Try.pinned (OpenSpec.upto fieldFormsSpec)

/-- 'shallotlaw05.FieldSums', WHERE WHAT IT READS IS OF BULK AT MOST 1048576: true; the input reads as it did. -/
def fieldSumsUptoRow : OpenClaim := { program := "ytckfeakolpjleaa", sum := "43474e5db26c36f345a6f20b96d7889a399367c0f50df461bac258d2cc6480df", func := "shallot/shallotlaw05.FieldSums", spec := "fieldSums", inPlace := ["math/bits.Sub64", "math/bits.Add64"], unfollowed := true, recurses := true, apart := false, narrowed := true }
def FieldSumsUptoSaid : Prop := fieldSumsUptoRow.holds Try.pinned (OpenSpec.upto fieldSumsSpec)

/-- 'shallotlaw05.FieldSubs', WHERE WHAT IT READS IS OF BULK AT MOST 1048576: true; the input reads as it did. -/
def fieldSubsUptoRow : OpenClaim := { program := "ytckfeakolpjleaa", sum := "43474e5db26c36f345a6f20b96d7889a399367c0f50df461bac258d2cc6480df", func := "shallot/shallotlaw05.FieldSubs", spec := "fieldSubs", inPlace := ["math/bits.Sub64", "math/bits.Add64"], unfollowed := true, recurses := true, apart := false, narrowed := true }
def FieldSubsUptoSaid : Prop := fieldSubsUptoRow.holds Try.pinned (OpenSpec.upto fieldSubsSpec)

/-- 'shallotlaw05.FieldReads', WHERE WHAT IT READS IS OF BULK AT MOST 1048576: true; the input reads as it did. -/
def fieldReadsUptoRow : OpenClaim := { program := "ytckfeakolpjleaa", sum := "43474e5db26c36f345a6f20b96d7889a399367c0f50df461bac258d2cc6480df", func := "shallot/shallotlaw05.FieldReads", spec := "fieldReads", inPlace := ["math/bits.Sub64", "math/bits.Add64"], unfollowed := true, recurses := true, apart := false, narrowed := true }
def FieldReadsUptoSaid : Prop := fieldReadsUptoRow.holds Try.pinned (OpenSpec.upto fieldReadsSpec)

/-- 'shallotlaw05.FieldLaws', WHERE WHAT IT READS IS OF BULK AT MOST 1048576: true; the input reads as it did. -/
def fieldLawsUptoRow : OpenClaim := { program := "ytckfeakolpjleaa", sum := "43474e5db26c36f345a6f20b96d7889a399367c0f50df461bac258d2cc6480df", func := "shallot/shallotlaw05.FieldLaws", spec := "fieldLaws", inPlace := ["math/bits.Sub64", "math/bits.Add64"], unfollowed := true, recurses := true, apart := false, narrowed := true }
def FieldLawsUptoSaid : Prop := fieldLawsUptoRow.holds Try.pinned (OpenSpec.upto fieldLawsSpec)

end Rows
end Go.Proofs.Ytckfeakolpjleaa
