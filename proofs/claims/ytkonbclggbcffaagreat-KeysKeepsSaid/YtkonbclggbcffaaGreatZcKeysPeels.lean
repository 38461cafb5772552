import Derived.Test.YtkonbclggbcffaaGreatZcKY4
set_option linter.unusedVariables false
set_option linter.unusedSimpArgs false
/-
  KeysPeels: a hop's private key and the public value that it gets give its keys, and the value for the next hop. No condition.
-/
namespace Go.Sx
open Go Go.Proofs

theorem plV_length (k a : List (BitVec 8)) : (plV k a).length = 192 := by
  unfold plV
  split
  · exact stL'_length (xmE_u (by assumption)) (xmV_length _ _)
  · exact zeroL_length 192

end Go.Sx
