import Derived.Test.YtigcogjilfnpcaaZeEK
import Derived.Test.YtigcogjilfnpcaaZeEG
set_option linter.unusedVariables false
set_option linter.unusedSimpArgs false
/-
  A point in bytes comes to nought with one scalar just if it does with every other one. The lists have 32 bytes.
-/
namespace Go.Sx
open Go Go.Proofs

theorem xm_low {a b u : List (BitVec 8)} (ha : a.length = 32) (hb : b.length = 32) (hu : u.length = 32) (h : xmN a u = 0) : xmN b u = 0 := by
  rw [xmN_eq ha hu] at h
  rw [xmN_eq hb hu]
  exact low_iff (clm_clamp ha) (clm_clamp hb) h
end Go.Sx
