/-
  The cube roots of 16 of the first primes, by the digits of the reference. No condition.
-/
import Derived.Test.YtieafkfdkhpffaaT1
set_option linter.unusedVariables false
set_option linter.unusedSimpArgs false
namespace Go.Sx
open Go Go.Proofs
set_option maxRecDepth 100000 in
theorem roots3_6 : ∀ i, i < 8 → rootM (prT.getD (48 + i) 0) 3 = some (kT.getD (48 + i) 0#32) := by decide +kernel
set_option maxRecDepth 100000 in
theorem roots3_7 : ∀ i, i < 8 → rootM (prT.getD (56 + i) 0) 3 = some (kT.getD (56 + i) 0#32) := by decide +kernel
end Go.Sx
