/-
  bits.RotateLeft32. The number of places is 1 to 31.
-/
import Derived.Test.YteblmnpklcdnpaaFacts
set_option linter.unusedVariables false
set_option linter.unusedSimpArgs false
namespace Go.Sx
open Go Go.Proofs

def rotL (x : BitVec 32) (k : Nat) : BitVec 32 := x <<< k ||| x >>> (32 - k)
theorem and31 (k : Nat) (h : k < 32) : (BitVec.ofInt 64 (k : Int) &&& 31#64) = BitVec.ofNat 64 k := by
  apply BitVec.eq_of_toNat_eq
  have e : (BitVec.ofInt 64 (k : Int)).toNat = k := by rw [BitVec.toNat_ofInt]; omega
  have h5 := Nat.and_two_pow_sub_one_eq_mod k 5
  rw [BitVec.toNat_and, e, BitVec.toNat_ofNat]
  show k &&& (2 ^ 5 - 1) = k % 2 ^ 64
  rw [h5]; omega

theorem Rot_b (w : World) (x : BitVec 32) (k : Nat) (h0 : 0 < k) (h : k < 32) : Spec Try.prog 87 #[b32 x, .int .i64 (k : Int)] w (σ := Unit) (fun _ => True) (fun _ => b32 (rotL x k)) Nob (fun _ => []) := by
  refine enter Try.func87 rfl rfl (Mem.start w) ?_
  (repeat refine g_seq ?_)
  refine g_region ?_
  refine g_pu rfl rfl rfl (pu_assign (v := b32 0#32) rfl rfl) ?_
  refine g_nil ?_
  (repeat refine g_seq ?_)
  refine g_region ?_
  refine g_pu rfl rfl rfl (pu_move rfl rfl) ?_
  refine g_pu rfl rfl rfl (pu_convI_64 rfl rfl) ?_
  refine g_pu rfl rfl rfl (pu_and64 (b := 31#64) rfl rfl rfl) ?_
  rw [and31 k h]
  refine g_pu rfl rfl rfl (pu_assign rfl rfl) ?_
  refine g_nil ?_
  have e1 : (BitVec.ofNat 64 k).toNat = k := by rw [BitVec.toNat_ofNat]; omega
  have e2 : (32#64 - BitVec.ofNat 64 k).toNat = 32 - k := by rw [BitVec.toNat_sub, BitVec.toNat_ofNat]; simp; omega
  (repeat refine g_seq ?_)
  refine g_region ?_
  refine g_pu rfl rfl rfl (pu_move rfl rfl) ?_
  refine g_pu rfl rfl rfl (pu_move rfl rfl) ?_
  refine g_pu rfl rfl rfl (pu_shl32 rfl rfl rfl (by omega)) ?_
  refine g_pu rfl rfl rfl (pu_move rfl rfl) ?_
  refine g_pu rfl rfl rfl (pu_move rfl rfl) ?_
  refine g_pu rfl rfl rfl (pu_sub64 (a := 32#64) rfl rfl rfl) ?_
  refine g_pu rfl rfl rfl (pu_shr32 rfl rfl rfl (by omega)) ?_
  refine g_pu rfl rfl rfl (pu_or32 rfl rfl rfl) ?_
  refine g_pu rfl rfl rfl (pu_assign rfl rfl) ?_
  refine g_nil ?_
  refine g_ret1 rfl rfl (fun w' hm => ⟨(), trivial, ?_, hm.grows [] trivial rfl⟩)
  unfold rotL
  simp only [Int.toNat_natCast, e1, e2]
end Go.Sx
