/-
  No cell of these rows narrows 'for every input' (looked for: loops, veiled, ifaces, maps, wideKeys, modest, calm, conditions, laid).
  DERIVED. THE GIVEN ROWS OF THIS SEAT. 7 by the template 'for every input the law returns true; each argument reads behind the call as it read before'; 0 by the template 'total and deterministic' (their statements: YtigcogjilfnpcaaTotals.lean).
  GIVEN WITH THE SEED: the statements are not yours to turn. If you find one false, say at which input.
  Laid BY PROGRAM, IN A SANDBOX (cutbox-rows.mjs): the forced cells as the released guide's own fill.sh prints them over the translation b039eee5f72d7af3… (all of the seat's roots in one cut). By AI agents, Wed Nov 11 2026. No macro, syntax, notation, axiom, sorry.
-/
import Derived.Test.YtigcogjilfnpcaaChecked
import GoSem.Claim
import GoSem.ClaimJoined
import GoSem.ClaimMapViews
import Derived.JoinedTies
import Derived.KernelRfl
namespace Go.Proofs.Ytigcogjilfnpcaa
/- THE CELL 'sum', in the pinned program and in every row, IS THE sha256 OF THE DUMP (.gsa) THAT YtigcogjilfnpcaaProg.lean LOADS. Nothing in Lean hashes anything: it is a label: what it is worth is what the hold of that sum in a sandbox is worth. -/
noncomputable def Try.pinned : Pinned := { name := "ytigcogjilfnpcaa", sum := "b039eee5f72d7af38f3b8074a2ed7d60c4df93f4ee7c98d2ade392bec0b13542", checked := Try.checked }
namespace Rows
def none {H : Type} : Left H := { results := [], args := [] }

/-- 'shallottop.ShallotBytes': WHATEVER THE INPUT: true; the input reads as it did. -/
def shallotBytesSpec : ChangeSpec := { name := "shallotBytes", fn := fun _ => fun
  | [d1, d2] => { results := [.lit (.bool true)], args := [d1, d2] }
  | _ => none }
def shallotBytesRow : OpenClaim := { program := "ytigcogjilfnpcaa", sum := "b039eee5f72d7af38f3b8074a2ed7d60c4df93f4ee7c98d2ade392bec0b13542", func := "shallot/shallottop.ShallotBytes", spec := "shallotBytes", inPlace := ["internal/bytealg.MakeNoZero"], apart := false }
def ShallotBytesSaid : Prop := shallotBytesRow.holds Try.pinned (OpenSpec.ofChange shallotBytesSpec)

/-- ITS FALSE NEIGHBOUR: 'it returns false'. Refute it at one input. -/
def shallotBytesWrong : ChangeSpec := { name := "shallotBytes", fn := fun _ => fun
  | [d1, d2] => { results := [.lit (.bool false)], args := [d1, d2] }
  | _ => none }
def ShallotBytesWrongFalsely : Prop := shallotBytesRow.holds Try.pinned (OpenSpec.ofChange shallotBytesWrong)

/-- 'shallottop.ShallotTags': WHATEVER THE INPUT: true; the input reads as it did. -/
def shallotTagsSpec : ChangeSpec := { name := "shallotTags", fn := fun _ => fun
  | [d1, d2, d3] => { results := [.lit (.bool true)], args := [d1, d2, d3] }
  | _ => none }
def shallotTagsRow : OpenClaim := { program := "ytigcogjilfnpcaa", sum := "b039eee5f72d7af38f3b8074a2ed7d60c4df93f4ee7c98d2ade392bec0b13542", func := "shallot/shallottop.ShallotTags", spec := "shallotTags", inPlace := ["internal/bytealg.MakeNoZero"], apart := false }
def ShallotTagsSaid : Prop := shallotTagsRow.holds Try.pinned (OpenSpec.ofChange shallotTagsSpec)

/-- ITS FALSE NEIGHBOUR: 'it returns false'. Refute it at one input. -/
def shallotTagsWrong : ChangeSpec := { name := "shallotTags", fn := fun _ => fun
  | [d1, d2, d3] => { results := [.lit (.bool false)], args := [d1, d2, d3] }
  | _ => none }
def ShallotTagsWrongFalsely : Prop := shallotTagsRow.holds Try.pinned (OpenSpec.ofChange shallotTagsWrong)

/-- 'shallottop.ShallotLayers': WHATEVER THE INPUT: true; the input reads as it did. -/
def shallotLayersSpec : ChangeSpec := { name := "shallotLayers", fn := fun _ => fun
  | [d1, d2, d3] => { results := [.lit (.bool true)], args := [d1, d2, d3] }
  | _ => none }
def shallotLayersRow : OpenClaim := { program := "ytigcogjilfnpcaa", sum := "b039eee5f72d7af38f3b8074a2ed7d60c4df93f4ee7c98d2ade392bec0b13542", func := "shallot/shallottop.ShallotLayers", spec := "shallotLayers", inPlace := ["internal/bytealg.MakeNoZero"], unfollowed := true, recurses := true, apart := false }
def ShallotLayersSaid : Prop := shallotLayersRow.holds Try.pinned (OpenSpec.ofChange shallotLayersSpec)

/-- ITS FALSE NEIGHBOUR: 'it returns false'. Refute it at one input. -/
def shallotLayersWrong : ChangeSpec := { name := "shallotLayers", fn := fun _ => fun
  | [d1, d2, d3] => { results := [.lit (.bool false)], args := [d1, d2, d3] }
  | _ => none }
def ShallotLayersWrongFalsely : Prop := shallotLayersRow.holds Try.pinned (OpenSpec.ofChange shallotLayersWrong)

/-- 'shallottop.ShallotRoutes': WHATEVER THE INPUT: true; the input reads as it did. -/
def shallotRoutesSpec : ChangeSpec := { name := "shallotRoutes", fn := fun _ => fun
  | [d1, d2, d3] => { results := [.lit (.bool true)], args := [d1, d2, d3] }
  | _ => none }
def shallotRoutesRow : OpenClaim := { program := "ytigcogjilfnpcaa", sum := "b039eee5f72d7af38f3b8074a2ed7d60c4df93f4ee7c98d2ade392bec0b13542", func := "shallot/shallottop.ShallotRoutes", spec := "shallotRoutes", inPlace := ["internal/bytealg.MakeNoZero"], unfollowed := true, recurses := true, apart := false }
def ShallotRoutesSaid : Prop := shallotRoutesRow.holds Try.pinned (OpenSpec.ofChange shallotRoutesSpec)

/-- ITS FALSE NEIGHBOUR: 'it returns false'. Refute it at one input. -/
def shallotRoutesWrong : ChangeSpec := { name := "shallotRoutes", fn := fun _ => fun
  | [d1, d2, d3] => { results := [.lit (.bool false)], args := [d1, d2, d3] }
  | _ => none }
def ShallotRoutesWrongFalsely : Prop := shallotRoutesRow.holds Try.pinned (OpenSpec.ofChange shallotRoutesWrong)

/-- 'shallottop.ShallotParts': WHATEVER THE INPUT: true; the input reads as it did. -/
def shallotPartsSpec : ChangeSpec := { name := "shallotParts", fn := fun _ => fun
  | [d1, d2, d3] => { results := [.lit (.bool true)], args := [d1, d2, d3] }
  | _ => none }
def shallotPartsRow : OpenClaim := { program := "ytigcogjilfnpcaa", sum := "b039eee5f72d7af38f3b8074a2ed7d60c4df93f4ee7c98d2ade392bec0b13542", func := "shallot/shallottop.ShallotParts", spec := "shallotParts", inPlace := ["internal/bytealg.MakeNoZero"], unfollowed := true, recurses := true, apart := false }
def ShallotPartsSaid : Prop := shallotPartsRow.holds Try.pinned (OpenSpec.ofChange shallotPartsSpec)

/-- ITS FALSE NEIGHBOUR: 'it returns false'. Refute it at one input. -/
def shallotPartsWrong : ChangeSpec := { name := "shallotParts", fn := fun _ => fun
  | [d1, d2, d3] => { results := [.lit (.bool false)], args := [d1, d2, d3] }
  | _ => none }
def ShallotPartsWrongFalsely : Prop := shallotPartsRow.holds Try.pinned (OpenSpec.ofChange shallotPartsWrong)

/-- 'shallottop.ShallotExchange': WHATEVER THE INPUT: true; the input reads as it did. -/
def shallotExchangeSpec : ChangeSpec := { name := "shallotExchange", fn := fun _ => fun
  | [d1, d2, d3] => { results := [.lit (.bool true)], args := [d1, d2, d3] }
  | _ => none }
def shallotExchangeRow : OpenClaim := { program := "ytigcogjilfnpcaa", sum := "b039eee5f72d7af38f3b8074a2ed7d60c4df93f4ee7c98d2ade392bec0b13542", func := "shallot/shallottop.ShallotExchange", spec := "shallotExchange", inPlace := ["math/bits.Sub64", "math/bits.Add64"], unfollowed := true, recurses := true, apart := false }
def ShallotExchangeSaid : Prop := shallotExchangeRow.holds Try.pinned (OpenSpec.ofChange shallotExchangeSpec)

/-- ITS FALSE NEIGHBOUR: 'it returns false'. Refute it at one input. -/
def shallotExchangeWrong : ChangeSpec := { name := "shallotExchange", fn := fun _ => fun
  | [d1, d2, d3] => { results := [.lit (.bool false)], args := [d1, d2, d3] }
  | _ => none }
def ShallotExchangeWrongFalsely : Prop := shallotExchangeRow.holds Try.pinned (OpenSpec.ofChange shallotExchangeWrong)

/-- 'shallottop.ShallotSecrets': WHATEVER THE INPUT: true; the input reads as it did. -/
def shallotSecretsSpec : ChangeSpec := { name := "shallotSecrets", fn := fun _ => fun
  | [d1, d2] => { results := [.lit (.bool true)], args := [d1, d2] }
  | _ => none }
def shallotSecretsRow : OpenClaim := { program := "ytigcogjilfnpcaa", sum := "b039eee5f72d7af38f3b8074a2ed7d60c4df93f4ee7c98d2ade392bec0b13542", func := "shallot/shallottop.ShallotSecrets", spec := "shallotSecrets", inPlace := ["internal/bytealg.MakeNoZero", "math/bits.Sub64", "math/bits.Add64"], unfollowed := true, recurses := true, apart := false }
def ShallotSecretsSaid : Prop := shallotSecretsRow.holds Try.pinned (OpenSpec.ofChange shallotSecretsSpec)

/-- ITS FALSE NEIGHBOUR: 'it returns false'. Refute it at one input. -/
def shallotSecretsWrong : ChangeSpec := { name := "shallotSecrets", fn := fun _ => fun
  | [d1, d2] => { results := [.lit (.bool false)], args := [d1, d2] }
  | _ => none }
def ShallotSecretsWrongFalsely : Prop := shallotSecretsRow.holds Try.pinned (OpenSpec.ofChange shallotSecretsWrong)

/- THE SECOND FORM. 'bulk': how many values and letters a reading holds, each counted each time it is reached (what is shared counts as often as it is met; a slice's spare places count too). A statement '..UptoSaid' is the law's where the arguments, and the package variables that the reading takes, are together of bulk at most 1048576: NARROWER than '..Said'. Prove '..Said' where nothing that the law and all that it calls make is longer than what came in: it says more and counts as full. Else prove '..UptoSaid'. A law counts once. -/
mutual
def uptoBulk {H : Type} : DataW H → Nat
  | .lit (.string bytes) => bytes.length + 1
  | .lit _ => 1
  | .nil => 1
  | .ptr d => uptoBulk d + 1
  | .slice elems spare => uptoBulkAll elems + uptoBulkAll spare + 1
  | .agg parts => uptoBulkAll parts + 1
  | .iface _ d => uptoBulk d + 1
  | .map entries => uptoBulkEntries entries + 1
  | .held _ => 1
def uptoBulkAll {H : Type} : List (DataW H) → Nat
  | [] => 0
  | d :: r => uptoBulk d + uptoBulkAll r
def uptoBulkEntries {H : Type} : List (Lit × DataW H) → Nat
  | [] => 0
  | x :: r => uptoBulkEntry x + uptoBulkEntries r
def uptoBulkEntry {H : Type} : Lit × DataW H → Nat
  | (.string bytes, d) => bytes.length + uptoBulk d + 1
  | (_, d) => uptoBulk d + 1
 end
def uptoSmall : (H : Type) → List (DataW H) → Bool := fun _ ds => decide (uptoBulkAll ds ≤ 1048576)
def OpenSpec.upto (s : _root_.Go.ChangeSpec) : _root_.Go.OpenSpec := { _root_.Go.OpenSpec.ofChange s with cond := some uptoSmall }

/-- 'shallottop.ShallotBytes', WHERE WHAT IT READS IS OF BULK AT MOST 1048576: true; the input reads as it did. -/
def shallotBytesUptoRow : OpenClaim := { program := "ytigcogjilfnpcaa", sum := "b039eee5f72d7af38f3b8074a2ed7d60c4df93f4ee7c98d2ade392bec0b13542", func := "shallot/shallottop.ShallotBytes", spec := "shallotBytes", inPlace := ["internal/bytealg.MakeNoZero"], apart := false, narrowed := true }
def ShallotBytesUptoSaid : Prop := shallotBytesUptoRow.holds Try.pinned (OpenSpec.upto shallotBytesSpec)

/-- 'shallottop.ShallotTags', WHERE WHAT IT READS IS OF BULK AT MOST 1048576: true; the input reads as it did. -/
def shallotTagsUptoRow : OpenClaim := { program := "ytigcogjilfnpcaa", sum := "b039eee5f72d7af38f3b8074a2ed7d60c4df93f4ee7c98d2ade392bec0b13542", func := "shallot/shallottop.ShallotTags", spec := "shallotTags", inPlace := ["internal/bytealg.MakeNoZero"], apart := false, narrowed := true }
def ShallotTagsUptoSaid : Prop := shallotTagsUptoRow.holds Try.pinned (OpenSpec.upto shallotTagsSpec)

/-- 'shallottop.ShallotLayers', WHERE WHAT IT READS IS OF BULK AT MOST 1048576: true; the input reads as it did. -/
def shallotLayersUptoRow : OpenClaim := { program := "ytigcogjilfnpcaa", sum := "b039eee5f72d7af38f3b8074a2ed7d60c4df93f4ee7c98d2ade392bec0b13542", func := "shallot/shallottop.ShallotLayers", spec := "shallotLayers", inPlace := ["internal/bytealg.MakeNoZero"], unfollowed := true, recurses := true, apart := false, narrowed := true }
def ShallotLayersUptoSaid : Prop := shallotLayersUptoRow.holds Try.pinned (OpenSpec.upto shallotLayersSpec)

/-- 'shallottop.ShallotRoutes', WHERE WHAT IT READS IS OF BULK AT MOST 1048576: true; the input reads as it did. -/
def shallotRoutesUptoRow : OpenClaim := { program := "ytigcogjilfnpcaa", sum := "b039eee5f72d7af38f3b8074a2ed7d60c4df93f4ee7c98d2ade392bec0b13542", func := "shallot/shallottop.ShallotRoutes", spec := "shallotRoutes", inPlace := ["internal/bytealg.MakeNoZero"], unfollowed := true, recurses := true, apart := false, narrowed := true }
def ShallotRoutesUptoSaid : Prop := shallotRoutesUptoRow.holds Try.pinned (OpenSpec.upto shallotRoutesSpec)

/-- 'shallottop.ShallotParts', WHERE WHAT IT READS IS OF BULK AT MOST 1048576: true; the input reads as it did. -/
def shallotPartsUptoRow : OpenClaim := { program := "ytigcogjilfnpcaa", sum := "b039eee5f72d7af38f3b8074a2ed7d60c4df93f4ee7c98d2ade392bec0b13542", func := "shallot/shallottop.ShallotParts", spec := "shallotParts", inPlace := ["internal/bytealg.MakeNoZero"], unfollowed := true, recurses := true, apart := false, narrowed := true }
def ShallotPartsUptoSaid : Prop := shallotPartsUptoRow.holds Try.pinned (OpenSpec.upto shallotPartsSpec)

/-- 'shallottop.ShallotExchange', WHERE WHAT IT READS IS OF BULK AT MOST 1048576: true; the input reads as it did. -/
def shallotExchangeUptoRow : OpenClaim := { program := "ytigcogjilfnpcaa", sum := "b039eee5f72d7af38f3b8074a2ed7d60c4df93f4ee7c98d2ade392bec0b13542", func := "shallot/shallottop.ShallotExchange", spec := "shallotExchange", inPlace := ["math/bits.Sub64", "math/bits.Add64"], unfollowed := true, recurses := true, apart := false, narrowed := true }
def ShallotExchangeUptoSaid : Prop := shallotExchangeUptoRow.holds Try.pinned (OpenSpec.upto shallotExchangeSpec)

/-- 'shallottop.ShallotSecrets', WHERE WHAT IT READS IS OF BULK AT MOST 1048576: true; the input reads as it did. -/
def shallotSecretsUptoRow : OpenClaim := { program := "ytigcogjilfnpcaa", sum := "b039eee5f72d7af38f3b8074a2ed7d60c4df93f4ee7c98d2ade392bec0b13542", func := "shallot/shallottop.ShallotSecrets", spec := "shallotSecrets", inPlace := ["internal/bytealg.MakeNoZero", "math/bits.Sub64", "math/bits.Add64"], unfollowed := true, recurses := true, apart := false, narrowed := true }
def ShallotSecretsUptoSaid : Prop := shallotSecretsUptoRow.holds Try.pinned (OpenSpec.upto shallotSecretsSpec)

end Rows
end Go.Proofs.Ytigcogjilfnpcaa
