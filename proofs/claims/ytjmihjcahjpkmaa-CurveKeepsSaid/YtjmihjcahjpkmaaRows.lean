/-
  No cell of these rows narrows 'for every input' (looked for: loops, veiled, ifaces, maps, wideKeys, modest, calm, conditions, laid).
  DERIVED. THE GIVEN ROWS OF THIS SEAT. 7 by the template 'for every input the law returns true; each argument reads behind the call as it read before'; 0 by the template 'total and deterministic' (their statements: YtjmihjcahjpkmaaTotals.lean).
  GIVEN WITH THE SEED: the statements are not yours to turn. If you find one false, say at which input.
  Laid BY PROGRAM, IN A SANDBOX (cutbox-rows.mjs): the forced cells as the released guide's own fill.sh prints them over the translation 6cf04b19353e414c… (all of the seat's roots in one cut). By AI agents, Wed Nov 11 2026. No macro, syntax, notation, axiom, sorry.
-/
import Derived.Test.YtjmihjcahjpkmaaChecked
import GoSem.Claim
import GoSem.ClaimJoined
import GoSem.ClaimMapViews
import Derived.JoinedTies
import Derived.KernelRfl
namespace Go.Proofs.Ytjmihjcahjpkmaa
/- THE CELL 'sum', in the pinned program and in every row, IS THE sha256 OF THE DUMP (.gsa) THAT YtjmihjcahjpkmaaProg.lean LOADS. Nothing in Lean hashes anything: it is a label: what it is worth is what the hold of that sum in a sandbox is worth. -/
noncomputable def Try.pinned : Pinned := { name := "ytjmihjcahjpkmaa", sum := "6cf04b19353e414cfbbac14d2b6ddac77c54840008af3df5b731e4c4fc87a244", checked := Try.checked }
namespace Rows
def none {H : Type} : Left H := { results := [], args := [] }

/-- 'shallotlaw06.CurveMults': WHATEVER THE INPUT: true; the input reads as it did. -/
def curveMultsSpec : ChangeSpec := { name := "curveMults", fn := fun _ => fun
  | [d1, d2] => { results := [.lit (.bool true)], args := [d1, d2] }
  | _ => none }
def curveMultsRow : OpenClaim := { program := "ytjmihjcahjpkmaa", sum := "6cf04b19353e414cfbbac14d2b6ddac77c54840008af3df5b731e4c4fc87a244", func := "shallot/shallotlaw06.CurveMults", spec := "curveMults", inPlace := ["math/bits.Sub64", "math/bits.Add64"], unfollowed := true, recurses := true, apart := false }
def CurveMultsSaid : Prop := curveMultsRow.holds Try.pinned (OpenSpec.ofChange curveMultsSpec)

/-- ITS FALSE NEIGHBOUR: 'it returns false'. Refute it at one input. -/
def curveMultsWrong : ChangeSpec := { name := "curveMults", fn := fun _ => fun
  | [d1, d2] => { results := [.lit (.bool false)], args := [d1, d2] }
  | _ => none }
def CurveMultsWrongFalsely : Prop := curveMultsRow.holds Try.pinned (OpenSpec.ofChange curveMultsWrong)

/-- 'shallotlaw06.CurveBits': WHATEVER THE INPUT: true; the input reads as it did. -/
def curveBitsSpec : ChangeSpec := { name := "curveBits", fn := fun _ => fun
  | [d1, d2, d3] => { results := [.lit (.bool true)], args := [d1, d2, d3] }
  | _ => none }
def curveBitsRow : OpenClaim := { program := "ytjmihjcahjpkmaa", sum := "6cf04b19353e414cfbbac14d2b6ddac77c54840008af3df5b731e4c4fc87a244", func := "shallot/shallotlaw06.CurveBits", spec := "curveBits", inPlace := ["math/bits.Sub64", "math/bits.Add64"], unfollowed := true, recurses := true, apart := false }
def CurveBitsSaid : Prop := curveBitsRow.holds Try.pinned (OpenSpec.ofChange curveBitsSpec)

/-- ITS FALSE NEIGHBOUR: 'it returns false'. Refute it at one input. -/
def curveBitsWrong : ChangeSpec := { name := "curveBits", fn := fun _ => fun
  | [d1, d2, d3] => { results := [.lit (.bool false)], args := [d1, d2, d3] }
  | _ => none }
def CurveBitsWrongFalsely : Prop := curveBitsRow.holds Try.pinned (OpenSpec.ofChange curveBitsWrong)

/-- 'shallotlaw06.CurveLows': WHATEVER THE INPUT: true; the input reads as it did. -/
def curveLowsSpec : ChangeSpec := { name := "curveLows", fn := fun _ => fun
  | [d1, d2] => { results := [.lit (.bool true)], args := [d1, d2] }
  | _ => none }
def curveLowsRow : OpenClaim := { program := "ytjmihjcahjpkmaa", sum := "6cf04b19353e414cfbbac14d2b6ddac77c54840008af3df5b731e4c4fc87a244", func := "shallot/shallotlaw06.CurveLows", spec := "curveLows", inPlace := ["math/bits.Sub64", "math/bits.Add64"], unfollowed := true, recurses := true, apart := false }
def CurveLowsSaid : Prop := curveLowsRow.holds Try.pinned (OpenSpec.ofChange curveLowsSpec)

/-- ITS FALSE NEIGHBOUR: 'it returns false'. Refute it at one input. -/
def curveLowsWrong : ChangeSpec := { name := "curveLows", fn := fun _ => fun
  | [d1, d2] => { results := [.lit (.bool false)], args := [d1, d2] }
  | _ => none }
def CurveLowsWrongFalsely : Prop := curveLowsRow.holds Try.pinned (OpenSpec.ofChange curveLowsWrong)

/-- 'shallotlaw06.CurvePairs': WHATEVER THE INPUT: true; the input reads as it did. -/
def curvePairsSpec : ChangeSpec := { name := "curvePairs", fn := fun _ => fun
  | [d1, d2, d3] => { results := [.lit (.bool true)], args := [d1, d2, d3] }
  | _ => none }
def curvePairsRow : OpenClaim := { program := "ytjmihjcahjpkmaa", sum := "6cf04b19353e414cfbbac14d2b6ddac77c54840008af3df5b731e4c4fc87a244", func := "shallot/shallotlaw06.CurvePairs", spec := "curvePairs", inPlace := ["math/bits.Sub64", "math/bits.Add64"], unfollowed := true, recurses := true, apart := false }
def CurvePairsSaid : Prop := curvePairsRow.holds Try.pinned (OpenSpec.ofChange curvePairsSpec)

/-- ITS FALSE NEIGHBOUR: 'it returns false'. Refute it at one input. -/
def curvePairsWrong : ChangeSpec := { name := "curvePairs", fn := fun _ => fun
  | [d1, d2, d3] => { results := [.lit (.bool false)], args := [d1, d2, d3] }
  | _ => none }
def CurvePairsWrongFalsely : Prop := curvePairsRow.holds Try.pinned (OpenSpec.ofChange curvePairsWrong)

/-- 'shallotlaw06.CurveChains': WHATEVER THE INPUT: true; the input reads as it did. -/
def curveChainsSpec : ChangeSpec := { name := "curveChains", fn := fun _ => fun
  | [d1, d2] => { results := [.lit (.bool true)], args := [d1, d2] }
  | _ => none }
def curveChainsRow : OpenClaim := { program := "ytjmihjcahjpkmaa", sum := "6cf04b19353e414cfbbac14d2b6ddac77c54840008af3df5b731e4c4fc87a244", func := "shallot/shallotlaw06.CurveChains", spec := "curveChains", inPlace := ["math/bits.Sub64", "math/bits.Add64"], unfollowed := true, recurses := true, apart := false }
def CurveChainsSaid : Prop := curveChainsRow.holds Try.pinned (OpenSpec.ofChange curveChainsSpec)

/-- ITS FALSE NEIGHBOUR: 'it returns false'. Refute it at one input. -/
def curveChainsWrong : ChangeSpec := { name := "curveChains", fn := fun _ => fun
  | [d1, d2] => { results := [.lit (.bool false)], args := [d1, d2] }
  | _ => none }
def CurveChainsWrongFalsely : Prop := curveChainsRow.holds Try.pinned (OpenSpec.ofChange curveChainsWrong)

/-- 'shallotlaw06.CurveCommutes': WHATEVER THE INPUT: true; the input reads as it did. -/
def curveCommutesSpec : ChangeSpec := { name := "curveCommutes", fn := fun _ => fun
  | [d1, d2, d3] => { results := [.lit (.bool true)], args := [d1, d2, d3] }
  | _ => none }
def curveCommutesRow : OpenClaim := { program := "ytjmihjcahjpkmaa", sum := "6cf04b19353e414cfbbac14d2b6ddac77c54840008af3df5b731e4c4fc87a244", func := "shallot/shallotlaw06.CurveCommutes", spec := "curveCommutes", inPlace := ["math/bits.Sub64", "math/bits.Add64"], unfollowed := true, recurses := true, apart := false }
def CurveCommutesSaid : Prop := curveCommutesRow.holds Try.pinned (OpenSpec.ofChange curveCommutesSpec)

/-- ITS FALSE NEIGHBOUR: 'it returns false'. Refute it at one input. -/
def curveCommutesWrong : ChangeSpec := { name := "curveCommutes", fn := fun _ => fun
  | [d1, d2, d3] => { results := [.lit (.bool false)], args := [d1, d2, d3] }
  | _ => none }
def CurveCommutesWrongFalsely : Prop := curveCommutesRow.holds Try.pinned (OpenSpec.ofChange curveCommutesWrong)

/-- 'shallotlaw06.CurveKeeps': WHATEVER THE INPUT: true; the input reads as it did. -/
def curveKeepsSpec : ChangeSpec := { name := "curveKeeps", fn := fun _ => fun
  | [d1, d2] => { results := [.lit (.bool true)], args := [d1, d2] }
  | _ => none }
def curveKeepsRow : OpenClaim := { program := "ytjmihjcahjpkmaa", sum := "6cf04b19353e414cfbbac14d2b6ddac77c54840008af3df5b731e4c4fc87a244", func := "shallot/shallotlaw06.CurveKeeps", spec := "curveKeeps", inPlace := ["math/bits.Sub64", "math/bits.Add64"], unfollowed := true, recurses := true, apart := false }
def CurveKeepsSaid : Prop := curveKeepsRow.holds Try.pinned (OpenSpec.ofChange curveKeepsSpec)

/-- ITS FALSE NEIGHBOUR: 'it returns false'. Refute it at one input. -/
def curveKeepsWrong : ChangeSpec := { name := "curveKeeps", fn := fun _ => fun
  | [d1, d2] => { results := [.lit (.bool false)], args := [d1, d2] }
  | _ => none }
def CurveKeepsWrongFalsely : Prop := curveKeepsRow.holds Try.pinned (OpenSpec.ofChange curveKeepsWrong)

/- THE SECOND FORM. 'bulk': how many values and letters a reading holds, each counted each time it is reached (what is shared counts as often as it is met; a slice's spare places count too). A statement '..UptoSaid' is the law's where the arguments, and the package variables that the reading takes, are together of bulk at most 1048576: NARROWER than '..Said'. Prove '..Said' where nothing that the law and all that it calls make is longer than what came in: it says more and counts as full. Else prove '..UptoSaid'. A law counts once. -/
mutual
def uptoBulk {H : Type} : DataW H → Nat
  | .lit (.string bytes) => bytes.length + 1
  | .lit _ => 1
  | .nil => 1
  | .ptr d => uptoBulk d + 1
  | .slice elems spare => uptoBulkAll elems + uptoBulkAll spare + 1
  | .agg parts => uptoBulkAll parts + 1
  | .iface _ d => uptoBulk d + 1
  | .map entries => uptoBulkEntries entries + 1
  | .held _ => 1
def uptoBulkAll {H : Type} : List (DataW H) → Nat
  | [] => 0
  | d :: r => uptoBulk d + uptoBulkAll r
def uptoBulkEntries {H : Type} : List (Lit × DataW H) → Nat
  | [] => 0
  | x :: r => uptoBulkEntry x + uptoBulkEntries r
def uptoBulkEntry {H : Type} : Lit × DataW H → Nat
  | (.string bytes, d) => bytes.length + uptoBulk d + 1
  | (_, d) => uptoBulk d + 1
 end
def uptoSmall : (H : Type) → List (DataW H) → Bool := fun _ ds => decide (uptoBulkAll ds ≤ 1048576)
def OpenSpec.upto (s : _root_.Go.ChangeSpec) : _root_.Go.OpenSpec := { _root_.Go.OpenSpec.ofChange s with cond := some uptoSmall }

/-- 'shallotlaw06.CurveMults', WHERE WHAT IT READS IS OF BULK AT MOST 1048576: true; the input reads as it did. -/
def curveMultsUptoRow : OpenClaim := { program := "ytjmihjcahjpkmaa", sum := "6cf04b19353e414cfbbac14d2b6ddac77c54840008af3df5b731e4c4fc87a244", func := "shallot/shallotlaw06.CurveMults", spec := "curveMults", inPlace := ["math/bits.Sub64", "math/bits.Add64"], unfollowed := true, recurses := true, apart := false, narrowed := true }
def CurveMultsUptoSaid : Prop := curveMultsUptoRow.holds Try.pinned (OpenSpec.upto curveMultsSpec)

/-- 'shallotlaw06.CurveBits', WHERE WHAT IT READS IS OF BULK AT MOST 1048576: true; the input reads as it did. -/
def curveBitsUptoRow : OpenClaim := { program := "ytjmihjcahjpkmaa", sum := "6cf04b19353e414cfbbac14d2b6ddac77c54840008af3df5b731e4c4fc87a244", func := "shallot/shallotlaw06.CurveBits", spec := "curveBits", inPlace := ["math/bits.Sub64", "math/bits.Add64"], unfollowed := true, recurses := true, apart := false, narrowed := true }
def CurveBitsUptoSaid : Prop := curveBitsUptoRow.holds Try.pinned (OpenSpec.upto curveBitsSpec)

/-- 'shallotlaw06.CurveLows', WHERE WHAT IT READS IS OF BULK AT MOST 1048576: true; the input reads as it did. -/
def curveLowsUptoRow : OpenClaim := { program := "ytjmihjcahjpkmaa", sum := "6cf04b19353e414cfbbac14d2b6ddac77c54840008af3df5b731e4c4fc87a244", func := "shallot/shallotlaw06.CurveLows", spec := "curveLows", inPlace := ["math/bits.Sub64", "math/bits.Add64"], unfollowed := true, recurses := true, apart := false, narrowed := true }
def CurveLowsUptoSaid : Prop := curveLowsUptoRow.holds Try.pinned (OpenSpec.upto curveLowsSpec)

/-- 'shallotlaw06.CurvePairs', WHERE WHAT IT READS IS OF BULK AT MOST 1048576: true; the input reads as it did. -/
def curvePairsUptoRow : OpenClaim := { program := "ytjmihjcahjpkmaa", sum := "6cf04b19353e414cfbbac14d2b6ddac77c54840008af3df5b731e4c4fc87a244", func := "shallot/shallotlaw06.CurvePairs", spec := "curvePairs", inPlace := ["math/bits.Sub64", "math/bits.Add64"], unfollowed := true, recurses := true, apart := false, narrowed := true }
def CurvePairsUptoSaid : Prop := curvePairsUptoRow.holds Try.pinned (OpenSpec.upto curvePairsSpec)

/-- 'shallotlaw06.CurveChains', WHERE WHAT IT READS IS OF BULK AT MOST 1048576: true; the input reads as it did. -/
def curveChainsUptoRow : OpenClaim := { program := "ytjmihjcahjpkmaa", sum := "6cf04b19353e414cfbbac14d2b6ddac77c54840008af3df5b731e4c4fc87a244", func := "shallot/shallotlaw06.CurveChains", spec := "curveChains", inPlace := ["math/bits.Sub64", "math/bits.Add64"], unfollowed := true, recurses := true, apart := false, narrowed := true }
def CurveChainsUptoSaid : Prop := curveChainsUptoRow.holds Try.pinned (OpenSpec.upto curveChainsSpec)

/-- 'shallotlaw06.CurveCommutes', WHERE WHAT IT READS IS OF BULK AT MOST 1048576: true; the input reads as it did. -/
def curveCommutesUptoRow : OpenClaim := { program := "ytjmihjcahjpkmaa", sum := "6cf04b19353e414cfbbac14d2b6ddac77c54840008af3df5b731e4c4fc87a244", func := "shallot/shallotlaw06.CurveCommutes", spec := "curveCommutes", inPlace := ["math/bits.Sub64", "math/bits.Add64"], unfollowed := true, recurses := true, apart := false, narrowed := true }
def CurveCommutesUptoSaid : Prop := curveCommutesUptoRow.holds Try.pinned (OpenSpec.upto curveCommutesSpec)

/-- 'shallotlaw06.CurveKeeps', WHERE WHAT IT READS IS OF BULK AT MOST 1048576: true; the input reads as it did. -/
def curveKeepsUptoRow : OpenClaim := { program := "ytjmihjcahjpkmaa", sum := "6cf04b19353e414cfbbac14d2b6ddac77c54840008af3df5b731e4c4fc87a244", func := "shallot/shallotlaw06.CurveKeeps", spec := "curveKeeps", inPlace := ["math/bits.Sub64", "math/bits.Add64"], unfollowed := true, recurses := true, apart := false, narrowed := true }
def CurveKeepsUptoSaid : Prop := curveKeepsUptoRow.holds Try.pinned (OpenSpec.upto curveKeepsSpec)

end Rows
end Go.Proofs.Ytjmihjcahjpkmaa
