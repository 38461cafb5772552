import Derived.Test.YteblmnpklcdnpaaGW
set_option linter.unusedVariables false
set_option linter.unusedSimpArgs false
/-
  The fixed fact about the wide cipher, computed. No condition.
-/
namespace Go.Sx
open Go Go.Proofs

def wz (n : Nat) : List (BitVec 8) := List.replicate n 0#8
def zS : List Int := [1, 2, 3, 4]
def zO : List Int := [4, 3, 2, 1]
set_option maxRecDepth 100000 in
theorem aw_seal : (rdsL (wz 32) zS (wz 40) == wz 40) = false := by decide +kernel
end Go.Sx
