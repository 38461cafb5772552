import Derived.Test.YtigcogjilfnpcaaZeYB
import Derived.Test.YtigcogjilfnpcaaZeXE
set_option linter.unusedVariables false
set_option linter.unusedSimpArgs false
/-
  Small things of the theorems through the layers: bytes against bytes, and the first of a list. The lists fit memory.
-/
namespace Go.Sx
open Go Go.Proofs

end Go.Sx
