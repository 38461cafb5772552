/-
  The reference's way to read a number out of bytes. The order is 1 or 2, the width 1 to 8.
-/
import Derived.Test.YtbnfocnhmpegjaaC3
set_option linter.unusedVariables false
set_option linter.unusedSimpArgs false
namespace Go.Sx
open Go Go.Proofs

end Go.Sx
