/-
  The library's sums with carry in this seat; the number of four limbs. No condition.
-/
import Derived.Test.YtckfeakolpjleaaFacts
import Derived.Test.YtckfeakolpjleaaSxCarry
set_option linter.unusedVariables false
set_option linter.unusedSimpArgs false
namespace Go.Sx
open Go Go.Proofs

instance : Ext Try.prog 50 add64Entry := ⟨Try.f50, Try.func50, by kernel_rfl, by kernel_rfl, by kernel_rfl, by kernel_rfl⟩
instance : Ext Try.prog 45 sub64Entry := ⟨Try.f45, Try.func45, by kernel_rfl, by kernel_rfl, by kernel_rfl, by kernel_rfl⟩

/-- The number of limbs, the least first. -/
def numL : List (BitVec 64) → Nat
  | [] => 0
  | a :: r => a.toNat + 18446744073709551616 * numL r
theorem numL_lt : ∀ l : List (BitVec 64), numL l < 18446744073709551616 ^ l.length
  | [] => by simp [numL]
  | a :: r => by
    have ih := numL_lt r
    have ha := a.isLt
    rw [numL, List.length_cons, Nat.pow_succ]
    omega
/-- The limbs of a number. -/
def limbs : Nat → Nat → List (BitVec 64)
  | 0, _ => []
  | k + 1, n => BitVec.ofNat 64 n :: limbs k (n / 18446744073709551616)
theorem limbs_length : ∀ k n, (limbs k n).length = k
  | 0, _ => rfl
  | k + 1, n => by rw [limbs, List.length_cons, limbs_length]
theorem numL_limbs : ∀ k n, n < 18446744073709551616 ^ k → numL (limbs k n) = n
  | 0, n, h => by simp at h; rw [h]; rfl
  | k + 1, n, h => by
    rw [limbs, numL, numL_limbs k _ (by rw [Nat.pow_succ] at h; exact (Nat.div_lt_iff_lt_mul (by omega)).2 h), BitVec.toNat_ofNat]
    omega
theorem limbs_numL : ∀ l : List (BitVec 64), limbs l.length (numL l) = l
  | [] => rfl
  | a :: r => by
    have ha := a.isLt
    rw [List.length_cons, limbs, numL, show (a.toNat + 18446744073709551616 * numL r) / 18446744073709551616 = numL r by omega, limbs_numL r]
    congr 1
    apply BitVec.eq_of_toNat_eq
    rw [BitVec.toNat_ofNat]
    omega
def pN : Nat := 57896044618658097711785492504343953926634992332820282019728792003956564819949
end Go.Sx
