/-
  No cell of these rows narrows 'for every input' (looked for: loops, veiled, ifaces, maps, wideKeys, modest, calm, conditions, laid).
  DERIVED. THE GIVEN ROWS OF THIS SEAT. 3 by the template 'for every input the law returns true; each argument reads behind the call as it read before'; 0 by the template 'total and deterministic' (their statements: YtkonbclggbcffaaGreatTotals.lean).
  GIVEN WITH THE SEED: the statements are not yours to turn. If you find one false, say at which input.
  Laid BY PROGRAM, IN A SANDBOX (cutbox-rows.mjs): the forced cells as the released guide's own fill.sh prints them over the translation 5d94536c86ad6396… (all of the seat's roots in one cut). By AI agents, Wed Nov 11 2026. No macro, syntax, notation, axiom, sorry.
-/
import Derived.Test.YtkonbclggbcffaaGreatChecked
import GoSem.Claim
import GoSem.ClaimJoined
import GoSem.ClaimMapViews
import Derived.JoinedTies
import Derived.KernelRfl
namespace Go.Proofs.YtkonbclggbcffaaGreat
/- THE CELL 'sum', in the pinned program and in every row, IS THE sha256 OF THE DUMP (.gsa) THAT YtkonbclggbcffaaGreatProg.lean LOADS. Nothing in Lean hashes anything: it is a label: what it is worth is what the hold of that sum in a sandbox is worth. -/
noncomputable def Tryz.pinned : Pinned := { name := "ytkonbclggbcffaagreat", sum := "5d94536c86ad63965e77b5568b2438cb3c4b89b4f2482c6a512b13a993df128b", checked := Tryz.checked }
namespace Rows
def none {H : Type} : Left H := { results := [], args := [] }

/-- 'shallotlaw12.KeysSchedules': WHATEVER THE INPUT: true; the input reads as it did. -/
def keysSchedulesSpec : ChangeSpec := { name := "keysSchedules", fn := fun _ => fun
  | [d1, d2] => { results := [.lit (.bool true)], args := [d1, d2] }
  | _ => none }
def keysSchedulesRow : OpenClaim := { program := "ytkonbclggbcffaagreat", sum := "5d94536c86ad63965e77b5568b2438cb3c4b89b4f2482c6a512b13a993df128b", func := "shallot/shallotlaw12.KeysSchedules", spec := "keysSchedules", inPlace := ["math/bits.Sub64", "math/bits.Add64", "internal/bytealg.MakeNoZero"], unfollowed := true, recurses := true, apart := false }
def KeysSchedulesSaid : Prop := keysSchedulesRow.holds Tryz.pinned (OpenSpec.ofChange keysSchedulesSpec)

/-- ITS FALSE NEIGHBOUR: 'it returns false'. Refute it at one input. -/
def keysSchedulesWrong : ChangeSpec := { name := "keysSchedules", fn := fun _ => fun
  | [d1, d2] => { results := [.lit (.bool false)], args := [d1, d2] }
  | _ => none }
def KeysSchedulesWrongFalsely : Prop := keysSchedulesRow.holds Tryz.pinned (OpenSpec.ofChange keysSchedulesWrong)

/-- 'shallotlaw12.KeysPeels': WHATEVER THE INPUT: true; the input reads as it did. -/
def keysPeelsSpec : ChangeSpec := { name := "keysPeels", fn := fun _ => fun
  | [d1, d2] => { results := [.lit (.bool true)], args := [d1, d2] }
  | _ => none }
def keysPeelsRow : OpenClaim := { program := "ytkonbclggbcffaagreat", sum := "5d94536c86ad63965e77b5568b2438cb3c4b89b4f2482c6a512b13a993df128b", func := "shallot/shallotlaw12.KeysPeels", spec := "keysPeels", inPlace := ["math/bits.Sub64", "math/bits.Add64", "internal/bytealg.MakeNoZero"], unfollowed := true, recurses := true, apart := false }
def KeysPeelsSaid : Prop := keysPeelsRow.holds Tryz.pinned (OpenSpec.ofChange keysPeelsSpec)

/-- ITS FALSE NEIGHBOUR: 'it returns false'. Refute it at one input. -/
def keysPeelsWrong : ChangeSpec := { name := "keysPeels", fn := fun _ => fun
  | [d1, d2] => { results := [.lit (.bool false)], args := [d1, d2] }
  | _ => none }
def KeysPeelsWrongFalsely : Prop := keysPeelsRow.holds Tryz.pinned (OpenSpec.ofChange keysPeelsWrong)

/-- 'shallotlaw12.KeysKeeps': WHATEVER THE INPUT: true; the input reads as it did. -/
def keysKeepsSpec : ChangeSpec := { name := "keysKeeps", fn := fun _ => fun
  | [d1, d2] => { results := [.lit (.bool true)], args := [d1, d2] }
  | _ => none }
def keysKeepsRow : OpenClaim := { program := "ytkonbclggbcffaagreat", sum := "5d94536c86ad63965e77b5568b2438cb3c4b89b4f2482c6a512b13a993df128b", func := "shallot/shallotlaw12.KeysKeeps", spec := "keysKeeps", inPlace := ["math/bits.Sub64", "math/bits.Add64", "internal/bytealg.MakeNoZero"], unfollowed := true, recurses := true, apart := false }
def KeysKeepsSaid : Prop := keysKeepsRow.holds Tryz.pinned (OpenSpec.ofChange keysKeepsSpec)

/-- ITS FALSE NEIGHBOUR: 'it returns false'. Refute it at one input. -/
def keysKeepsWrong : ChangeSpec := { name := "keysKeeps", fn := fun _ => fun
  | [d1, d2] => { results := [.lit (.bool false)], args := [d1, d2] }
  | _ => none }
def KeysKeepsWrongFalsely : Prop := keysKeepsRow.holds Tryz.pinned (OpenSpec.ofChange keysKeepsWrong)

/- THE SECOND FORM. 'bulk': how many values and letters a reading holds, each counted each time it is reached (what is shared counts as often as it is met; a slice's spare places count too). A statement '..UptoSaid' is the law's where the arguments, and the package variables that the reading takes, are together of bulk at most 1048576: NARROWER than '..Said'. Prove '..Said' where nothing that the law and all that it calls make is longer than what came in: it says more and counts as full. Else prove '..UptoSaid'. A law counts once. -/
mutual
def uptoBulk {H : Type} : DataW H → Nat
  | .lit (.string bytes) => bytes.length + 1
  | .lit _ => 1
  | .nil => 1
  | .ptr d => uptoBulk d + 1
  | .slice elems spare => uptoBulkAll elems + uptoBulkAll spare + 1
  | .agg parts => uptoBulkAll parts + 1
  | .iface _ d => uptoBulk d + 1
  | .map entries => uptoBulkEntries entries + 1
  | .held _ => 1
def uptoBulkAll {H : Type} : List (DataW H) → Nat
  | [] => 0
  | d :: r => uptoBulk d + uptoBulkAll r
def uptoBulkEntries {H : Type} : List (Lit × DataW H) → Nat
  | [] => 0
  | x :: r => uptoBulkEntry x + uptoBulkEntries r
def uptoBulkEntry {H : Type} : Lit × DataW H → Nat
  | (.string bytes, d) => bytes.length + uptoBulk d + 1
  | (_, d) => uptoBulk d + 1
 end
def uptoSmall : (H : Type) → List (DataW H) → Bool := fun _ ds => decide (uptoBulkAll ds ≤ 1048576)
def OpenSpec.upto (s : _root_.Go.ChangeSpec) : _root_.Go.OpenSpec := { _root_.Go.OpenSpec.ofChange s with cond := some uptoSmall }

/-- 'shallotlaw12.KeysSchedules', WHERE WHAT IT READS IS OF BULK AT MOST 1048576: true; the input reads as it did. -/
def keysSchedulesUptoRow : OpenClaim := { program := "ytkonbclggbcffaagreat", sum := "5d94536c86ad63965e77b5568b2438cb3c4b89b4f2482c6a512b13a993df128b", func := "shallot/shallotlaw12.KeysSchedules", spec := "keysSchedules", inPlace := ["math/bits.Sub64", "math/bits.Add64", "internal/bytealg.MakeNoZero"], unfollowed := true, recurses := true, apart := false, narrowed := true }
def KeysSchedulesUptoSaid : Prop := keysSchedulesUptoRow.holds Tryz.pinned (OpenSpec.upto keysSchedulesSpec)

/-- 'shallotlaw12.KeysPeels', WHERE WHAT IT READS IS OF BULK AT MOST 1048576: true; the input reads as it did. -/
def keysPeelsUptoRow : OpenClaim := { program := "ytkonbclggbcffaagreat", sum := "5d94536c86ad63965e77b5568b2438cb3c4b89b4f2482c6a512b13a993df128b", func := "shallot/shallotlaw12.KeysPeels", spec := "keysPeels", inPlace := ["math/bits.Sub64", "math/bits.Add64", "internal/bytealg.MakeNoZero"], unfollowed := true, recurses := true, apart := false, narrowed := true }
def KeysPeelsUptoSaid : Prop := keysPeelsUptoRow.holds Tryz.pinned (OpenSpec.upto keysPeelsSpec)

/-- 'shallotlaw12.KeysKeeps', WHERE WHAT IT READS IS OF BULK AT MOST 1048576: true; the input reads as it did. -/
def keysKeepsUptoRow : OpenClaim := { program := "ytkonbclggbcffaagreat", sum := "5d94536c86ad63965e77b5568b2438cb3c4b89b4f2482c6a512b13a993df128b", func := "shallot/shallotlaw12.KeysKeeps", spec := "keysKeeps", inPlace := ["math/bits.Sub64", "math/bits.Add64", "internal/bytealg.MakeNoZero"], unfollowed := true, recurses := true, apart := false, narrowed := true }
def KeysKeepsUptoSaid : Prop := keysKeepsUptoRow.holds Tryz.pinned (OpenSpec.upto keysKeepsSpec)

end Rows
end Go.Proofs.YtkonbclggbcffaaGreat
