import Derived.Test.YtigcogjilfnpcaaGS
import Derived.Test.YtigcogjilfnpcaaXC
set_option linter.unusedVariables false
set_option linter.unusedSimpArgs false
/-
  SHA-256 is awake: the sum of "abc". No condition.
-/
namespace Go.Sx
open Go Go.Proofs

set_option maxRecDepth 100000 in
theorem sha_abc : shaL [97#8, 98#8, 99#8] = [186#8, 120#8, 22#8, 191#8, 143#8, 1#8, 207#8, 234#8, 65#8, 65#8, 64#8, 222#8, 93#8, 174#8, 34#8, 35#8, 176#8, 3#8, 97#8, 163#8, 150#8, 23#8, 122#8, 156#8, 180#8, 16#8, 255#8, 97#8, 242#8, 0#8, 21#8, 173#8] := by decide +kernel

end Go.Sx
