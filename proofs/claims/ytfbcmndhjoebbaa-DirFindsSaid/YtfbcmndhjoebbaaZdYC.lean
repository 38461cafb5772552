import Derived.Test.YtfbcmndhjoebbaaZdYA
import Derived.Test.YtfbcmndhjoebbaaZdXE
import Derived.Test.YtfbcmndhjoebbaaZdYB
set_option linter.unusedVariables false
set_option linter.unusedSimpArgs false
/-
  Turning every byte of a list: of the reference. No condition.
-/
namespace Go.Sx
open Go Go.Proofs

end Go.Sx

/-
  The reference's spare room, its looking after it, and its looking whether lists share memory. Conditions: the lists are writable, in blocks of their own.
-/
namespace Go.Sx
open Go Go.Proofs

end Go.Sx

/-
  The reference's looking whether lists share memory: of lists that are writable, each in a block of its own, it says no. Conditions: at most 1000000 lists of at most 2^46 bytes.
-/
namespace Go.Sx
open Go Go.Proofs

end Go.Sx

/-
  Handing known parts of memory to the look whether lists share memory. No condition.
-/
namespace Go.Sx
open Go Go.Proofs

end Go.Sx

/-
  Lists of slices of the run's own, each in a block of its own, with their contents; handing them to the look whether lists share memory. No condition.
-/
namespace Go.Sx
open Go Go.Proofs

section
variable {P : Program} {fn : Func} {R : Ending → World → Prop} {N : Nat} {w0 : World} {D : Blocks} {e : List (Nat × Value)} {M : List (Nat × Ck)} {k : List It}
end
end Go.Sx
