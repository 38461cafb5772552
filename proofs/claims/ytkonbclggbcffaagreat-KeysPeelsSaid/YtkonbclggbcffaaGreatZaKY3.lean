import Derived.Test.YtkonbclggbcffaaGreatZaKY2
import Derived.Test.YtkonbclggbcffaaGreatZaXC
import Derived.Test.YtkonbclggbcffaaGreatZaYA
set_option linter.unusedVariables false
set_option linter.unusedSimpArgs false
/-
  The document's schedule, the payload keys, and a step against a step. The lists fit memory.
-/
namespace Go.Sx
open Go Go.Proofs

def rchR : List (List (BitVec 8)) → List (BitVec 8) → List (List (BitVec 8)) → Int × List HopS
  | [], _, _ => (0, [])
  | pub :: r, al, sc => if (chP pub sc).2 = 0 then comb [(al, (chP pub sc).1)] (rchR r (xmV (kBlind (chP pub sc).1) al) (sc ++ [kBlind (chP pub sc).1])) else ((chP pub sc).2, [])
def rchP (k : List (BitVec 8)) (pubs : List (List (BitVec 8))) : Int × List HopS := if okS k pubs = true then rchR pubs (xmV k nine) [k] else (2, [])
end Go.Sx
