import Derived.Test.YtigcogjilfnpcaaEF
import Derived.Test.YtigcogjilfnpcaaGL
set_option linter.unusedVariables false
set_option linter.unusedSimpArgs false
/-
  The multiplication of bytes by bytes: it commutes, and multiples of the base point never come to nought. The lists have 32 bytes.
-/
namespace Go.Sx
open Go Go.Proofs

theorem lowB_8 (x : BitVec 8) : (lowB x).toNat % 8 = 0 := by
  have h : ∀ n, n < 256 → (lowB (BitVec.ofNat 8 n)).toNat % 8 = 0 := by decide +kernel
  have h2 := h x.toNat x.isLt
  rwa [BitVec.ofNat_toNat, BitVec.setWidth_eq] at h2
theorem highB_r (x : BitVec 8) : 64 ≤ (highB x).toNat ∧ (highB x).toNat < 128 := by
  have h : ∀ n, n < 256 → 64 ≤ (highB (BitVec.ofNat 8 n)).toNat ∧ (highB (BitVec.ofNat 8 n)).toNat < 128 := by decide +kernel
  have h2 := h x.toNat x.isLt
  rwa [BitVec.ofNat_toNat, BitVec.setWidth_eq] at h2
theorem clm_clamp {k : List (BitVec 8)} (h : k.length = 32) : Clm (numB (clampL k)) := by
  have hl : (clampL k).length = 32 := by rw [clampL_length, h]
  have h0 := numB_digit (l := clampL k) (i := 0) (by omega)
  have h31 := numB_digit (l := clampL k) (i := 31) (by omega)
  have e0 : (clampL k).getD 0 0#8 = lowB (k.getD 0 0#8) := by
    unfold clampL
    rw [List.getD_eq_getElem?_getD, List.getElem?_set_ne (by omega), List.getElem?_set_self (by omega)]; rfl
  have e31 : (clampL k).getD 31 0#8 = highB (k.getD 31 0#8) := by
    unfold clampL
    rw [List.getD_eq_getElem?_getD, List.getElem?_set_self (by rw [List.length_set]; omega)]; rfl
  rw [e0] at h0
  rw [e31] at h31
  have hlt := numB_lt (clampL k)
  rw [hl] at hlt
  have h8 := lowB_8 (k.getD 0 0#8)
  have h64 := highB_r (k.getD 31 0#8)
  generalize numB (clampL k) = n at *
  rw [h0] at h8
  rw [h31] at h64
  refine ⟨Nat.dvd_of_mod_eq_zero ?_, ?_, ?_⟩ <;> omega
theorem readN_leB {v : Nat} (h : v < 57896044618658097711785492504343953926634992332820282019728792003956564819949) : readN (leB 32 v) = v := by
  unfold readN
  rw [if_pos (leB_length 32 v), numB_leB 32 v (by omega)]
  omega
theorem readN_nine : readN nine = 9 := readN_leB (by omega)
theorem xmE_nz {k u : List (BitVec 8)} (hk : k.length = 32) (hu : u.length = 32) (h : xmN k u ≠ 0) : xmE k u = 0 := by
  unfold xmE
  rw [if_pos ⟨hk, hu⟩, if_neg h]
theorem xmE_z {k u : List (BitVec 8)} (hk : k.length = 32) (hu : u.length = 32) (h : xmN k u = 0) : xmE k u = 5 := by
  unfold xmE
  rw [if_pos ⟨hk, hu⟩, if_pos h]
theorem xmN_eq {k u : List (BitVec 8)} (hk : k.length = 32) (hu : u.length = 32) : xmN k u = ladV (readN u) (numB (clampL k)) := if_pos ⟨hk, hu⟩
/-- A multiple of the base point, in bytes. -/
def BasB (u : List (BitVec 8)) : Prop := u.length = 32 ∧ Bas (readN u)
theorem basB_nine : BasB nine := ⟨nine_length, by rw [readN_nine]; exact bas_9⟩
theorem BasB.ne {k u : List (BitVec 8)} (h : BasB u) (hk : k.length = 32) : xmN k u ≠ 0 := by
  rw [xmN_eq hk h.1]
  exact h.2.mul_ne (clm_clamp hk)
theorem BasB.e {k u : List (BitVec 8)} (h : BasB u) (hk : k.length = 32) : xmE k u = 0 := xmE_nz hk h.1 (h.ne hk)
theorem BasB.mul {k u : List (BitVec 8)} (h : BasB u) (hk : k.length = 32) : BasB (xmV k u) := ⟨xmV_length k u, by
  unfold xmV
  rw [readN_leB (xmN_lt k u), xmN_eq hk h.1]
  exact h.2.mul (clm_clamp hk)⟩
theorem pub_ok {k : List (BitVec 8)} (hk : k.length = 32) : xmE k nine = 0 := basB_nine.e hk
theorem xm_comm {a b u : List (BitVec 8)} (ha : a.length = 32) (hb : b.length = 32) (hu : u.length = 32) : xmN b (xmV a u) = xmN a (xmV b u) := by
  unfold xmV
  rw [xmN_eq hb (leB_length 32 _), xmN_eq ha (leB_length 32 _), readN_leB (xmN_lt a u), readN_leB (xmN_lt b u), xmN_eq ha hu, xmN_eq hb hu]
  exact lad_comm _ (clm_clamp ha).2.1 (clm_clamp hb).2.1 (clm_clamp ha).even (clm_clamp hb).even
theorem xmV_comm {a b u : List (BitVec 8)} (ha : a.length = 32) (hb : b.length = 32) (hu : u.length = 32) : xmV b (xmV a u) = xmV a (xmV b u) := by
  show leB 32 (xmN b (xmV a u)) = leB 32 (xmN a (xmV b u))
  rw [xm_comm ha hb hu]
/-- What is nought stays nought. -/
theorem xm_zero {a b u : List (BitVec 8)} (ha : a.length = 32) (hb : b.length = 32) (hu : u.length = 32) (h : xmN a u = 0) : xmN b (xmV a u) = 0 := by
  unfold xmV
  rw [h, xmN_eq hb (leB_length 32 _), readN_leB (by omega)]
  exact ladV_0 rfl _
theorem xmV_bad' {k u : List (BitVec 8)} (h : ¬ xmE k u = 0) : xmV k u = zero32 := by
  have h0 : xmN k u = 0 := by
    by_cases h1 : k.length = 32 ∧ u.length = 32
    · by_cases h2 : xmN k u = 0
      · exact h2
      · exact absurd (xmE_nz h1.1 h1.2 h2) h
    · exact if_neg h1
  rw [xmV, h0, zero32_leB]
theorem chP_one (k u : List (BitVec 8)) : chP u [k] = (xmV k u, xmE k u) := by
  by_cases h : k.length = 32 ∧ u.length = 32
  · have h1 : chP u [k] = chR [k] (leB 32 (readN u)) := if_pos ⟨h.2, by simp [all32, h.1]⟩
    have h2 : xmN k (leB 32 (readN u)) = xmN k u := by rw [xmN_eq h.1 (leB_length 32 _), readN_leB (readN_ltK h.2), xmN_eq h.1 h.2]
    have h3 : xmE k (leB 32 (readN u)) = xmE k u := by
      unfold xmE
      rw [h2, if_pos ⟨h.1, leB_length 32 _⟩, if_pos h]
    have h4 : xmV k (leB 32 (readN u)) = xmV k u := by unfold xmV; rw [h2]
    rw [h1]
    show (if xmE k (leB 32 (readN u)) = 0 then (xmV k (leB 32 (readN u)), 0) else (zero32, xmE k (leB 32 (readN u)))) = _
    rw [h3, h4]
    by_cases h5 : xmE k u = 0
    · rw [if_pos h5, h5]
    · rw [if_neg h5, xmV_bad' h5]
  · have h1 : chP u [k] = (zero32, 2) := if_neg (fun h2 => h ⟨by have := h2.2; simpa [all32] using this, h2.1⟩)
    have h2 : xmE k u = 2 := if_neg h
    rw [h1, h2, xmV_bad' (by rw [h2]; decide)]
end Go.Sx
