import Derived.Test.YtfbcmndhjoebbaaZdEF
import Derived.Test.YtfbcmndhjoebbaaZdGL
set_option linter.unusedVariables false
set_option linter.unusedSimpArgs false
/-
  The multiplication of bytes by bytes: it commutes, and multiples of the base point never come to nought. The lists have 32 bytes.
-/
namespace Go.Sx
open Go Go.Proofs

theorem lowB_8 (x : BitVec 8) : (lowB x).toNat % 8 = 0 := by
  have h : ∀ n, n < 256 → (lowB (BitVec.ofNat 8 n)).toNat % 8 = 0 := by decide +kernel
  have h2 := h x.toNat x.isLt
  rwa [BitVec.ofNat_toNat, BitVec.setWidth_eq] at h2
theorem highB_r (x : BitVec 8) : 64 ≤ (highB x).toNat ∧ (highB x).toNat < 128 := by
  have h : ∀ n, n < 256 → 64 ≤ (highB (BitVec.ofNat 8 n)).toNat ∧ (highB (BitVec.ofNat 8 n)).toNat < 128 := by decide +kernel
  have h2 := h x.toNat x.isLt
  rwa [BitVec.ofNat_toNat, BitVec.setWidth_eq] at h2
theorem clm_clamp {k : List (BitVec 8)} (h : k.length = 32) : Clm (numB (clampL k)) := by
  have hl : (clampL k).length = 32 := by rw [clampL_length, h]
  have h0 := numB_digit (l := clampL k) (i := 0) (by omega)
  have h31 := numB_digit (l := clampL k) (i := 31) (by omega)
  have e0 : (clampL k).getD 0 0#8 = lowB (k.getD 0 0#8) := by
    unfold clampL
    rw [List.getD_eq_getElem?_getD, List.getElem?_set_ne (by omega), List.getElem?_set_self (by omega)]; rfl
  have e31 : (clampL k).getD 31 0#8 = highB (k.getD 31 0#8) := by
    unfold clampL
    rw [List.getD_eq_getElem?_getD, List.getElem?_set_self (by rw [List.length_set]; omega)]; rfl
  rw [e0] at h0
  rw [e31] at h31
  have hlt := numB_lt (clampL k)
  rw [hl] at hlt
  have h8 := lowB_8 (k.getD 0 0#8)
  have h64 := highB_r (k.getD 31 0#8)
  generalize numB (clampL k) = n at *
  rw [h0] at h8
  rw [h31] at h64
  refine ⟨Nat.dvd_of_mod_eq_zero ?_, ?_, ?_⟩ <;> omega
theorem readN_leB {v : Nat} (h : v < 57896044618658097711785492504343953926634992332820282019728792003956564819949) : readN (leB 32 v) = v := by
  unfold readN
  rw [if_pos (leB_length 32 v), numB_leB 32 v (by omega)]
  omega
theorem readN_nine : readN nine = 9 := readN_leB (by omega)
theorem xmE_nz {k u : List (BitVec 8)} (hk : k.length = 32) (hu : u.length = 32) (h : xmN k u ≠ 0) : xmE k u = 0 := by
  unfold xmE
  rw [if_pos ⟨hk, hu⟩, if_neg h]
theorem xmN_eq {k u : List (BitVec 8)} (hk : k.length = 32) (hu : u.length = 32) : xmN k u = ladV (readN u) (numB (clampL k)) := if_pos ⟨hk, hu⟩
/-- A multiple of the base point, in bytes. -/
def BasB (u : List (BitVec 8)) : Prop := u.length = 32 ∧ Bas (readN u)
theorem basB_nine : BasB nine := ⟨nine_length, by rw [readN_nine]; exact bas_9⟩
theorem BasB.ne {k u : List (BitVec 8)} (h : BasB u) (hk : k.length = 32) : xmN k u ≠ 0 := by
  rw [xmN_eq hk h.1]
  exact h.2.mul_ne (clm_clamp hk)
theorem BasB.e {k u : List (BitVec 8)} (h : BasB u) (hk : k.length = 32) : xmE k u = 0 := xmE_nz hk h.1 (h.ne hk)
theorem pub_ok {k : List (BitVec 8)} (hk : k.length = 32) : xmE k nine = 0 := basB_nine.e hk
end Go.Sx
