import Derived.Test.YtigcogjilfnpcaaEK
import Derived.Test.YtigcogjilfnpcaaEG
set_option linter.unusedVariables false
set_option linter.unusedSimpArgs false
/-
  A point in bytes comes to nought with one scalar just if it does with every other one. The lists have 32 bytes.
-/
namespace Go.Sx
open Go Go.Proofs

theorem xm_low {a b u : List (BitVec 8)} (ha : a.length = 32) (hb : b.length = 32) (hu : u.length = 32) (h : xmN a u = 0) : xmN b u = 0 := by
  rw [xmN_eq ha hu] at h
  rw [xmN_eq hb hu]
  exact low_iff (clm_clamp ha) (clm_clamp hb) h
theorem xmE_low {a b u : List (BitVec 8)} (ha : a.length = 32) (hb : b.length = 32) (hu : u.length = 32) : xmE a u = xmE b u := by
  by_cases h : xmN a u = 0
  · rw [xmE_z ha hu h, xmE_z hb hu (xm_low ha hb hu h)]
  · rw [xmE_nz ha hu h, xmE_nz hb hu (fun h2 => h (xm_low hb ha hu h2))]
end Go.Sx
