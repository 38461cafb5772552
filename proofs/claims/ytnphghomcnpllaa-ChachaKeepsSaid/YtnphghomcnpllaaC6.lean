/-
  The reference's turning of lists by one another. A list of lists takes at most 2^47 bytes.
-/
import Derived.Test.YtnphghomcnpllaaC5
set_option linter.unusedVariables false
set_option linter.unusedSimpArgs false
namespace Go.Sx
open Go Go.Proofs

def accR (ls : List (List (BitVec 8))) : Nat → List (BitVec 8)
  | 0 => []
  | i + 1 => match ls with
    | [] => []
    | l :: r => (r.take i).foldl xorL l
def okR (ls : List (List (BitVec 8))) : Nat → Bool
  | 0 => true
  | i + 1 => match ls with
    | [] => true
    | l :: r => ((r.take i).all fun m => m.length == l.length) && ((r.take i).foldl xorL l).length == l.length

end Go.Sx
