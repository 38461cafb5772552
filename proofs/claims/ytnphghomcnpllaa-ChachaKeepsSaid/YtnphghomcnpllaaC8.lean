/-
  Writing a number as bytes: the codec's way, its reference's way, and that it is read back. The order is 1 or 2, the width 1 to 8.
-/
import Derived.Test.YtnphghomcnpllaaC7
set_option linter.unusedVariables false
set_option linter.unusedSimpArgs false
namespace Go.Sx
open Go Go.Proofs

def putW (n : BitVec 64) (z : Nat) : List (BitVec 8) := (List.range z).map fun i => (n >>> (8 * i)).setWidth 8
def putE (o z : Int) (n : BitVec 64) : Int := if ¬ ShapeOk o z then 1 else if n >>> (8 * z.toNat) ≠ 0#64 then 2 else 0
def putL (o z : Int) (n : BitVec 64) : List (BitVec 8) := if putE o z n = 0 then (if o = 2 then (putW n z.toNat).reverse else putW n z.toNat) else []
def putAt (n : BitVec 64) (z i : Nat) : List (BitVec 8) := (putW n z).take i ++ List.replicate (z - i) 0#8

theorem putW_length (n : BitVec 64) (z : Nat) : (putW n z).length = z := by simp [putW]
theorem putW_get {n : BitVec 64} {z i : Nat} (h : i < z) : (putW n z)[i]? = some ((n >>> (8 * i)).setWidth 8) := by simp [putW, h]
theorem putAt_length {n : BitVec 64} {z i : Nat} (h : i ≤ z) : (putAt n z i).length = z := by simp [putAt, putW_length]; omega
theorem putAt_end (n : BitVec 64) (z : Nat) : putAt n z z = putW n z := by
  unfold putAt
  rw [List.take_of_length_le (by rw [putW_length]; exact Nat.le_refl _)]; simp
theorem putAt_set {n : BitVec 64} {z i : Nat} (h : i < z) : (putAt n z i).set i ((n >>> (8 * i)).setWidth 8) = putAt n z (i + 1) := by
  apply List.ext_getElem?
  intro j
  have hl := putW_length n z
  rw [get_set _ _ _ _ (by rw [putAt_length (by omega)]; exact h)]
  unfold putAt
  by_cases hj : i = j
  · subst hj
    rw [if_pos rfl, List.getElem?_append_left (by simp [hl]; omega), List.getElem?_take, if_pos (by omega), putW_get h]
  · rw [if_neg hj]
    by_cases hlt : j < i
    · rw [List.getElem?_append_left (by simp [hl]; omega), List.getElem?_append_left (by simp [hl]; omega), List.getElem?_take, List.getElem?_take, if_pos hlt, if_pos (by omega)]
    · rw [List.getElem?_append_right (by simp [hl]; omega), List.getElem?_append_right (by simp [hl]; omega), List.length_take, List.length_take, hl, List.getElem?_replicate, List.getElem?_replicate]
      by_cases hz : j < z
      · rw [if_pos (by omega), if_pos (by omega)]
      · rw [if_neg (by omega), if_neg (by omega)]

theorem rev_set (m : List (BitVec 8)) (i : Nat) (x : BitVec 8) (h : i < m.length) : m.reverse.set (m.length - 1 - i) x = (m.set i x).reverse := by
  apply List.ext_getElem?
  intro j
  rw [get_set _ _ _ _ (by simp; omega)]
  by_cases hj : j < m.length
  · rw [List.getElem?_reverse hj, List.getElem?_reverse (by simpa using hj), List.length_set, get_set _ _ _ _ h]
    by_cases e : m.length - 1 - i = j
    · rw [if_pos e, if_pos (by omega)]
    · rw [if_neg e, if_neg (by omega)]
  · rw [if_neg (by omega), List.getElem?_eq_none (by simp; omega), List.getElem?_eq_none (by simp; omega)]

theorem shr_add (n : BitVec 64) (i : Nat) : (n >>> (8 * i)) / 256#64 = n >>> (8 * (i + 1)) := by
  apply BitVec.eq_of_toNat_eq
  rw [BitVec.toNat_udiv, BitVec.toNat_ushiftRight, BitVec.toNat_ushiftRight, Nat.shiftRight_eq_div_pow, Nat.shiftRight_eq_div_pow, show (256#64).toNat = 2 ^ 8 from rfl, Nat.div_div_eq_div_mul, ← Nat.pow_add]
  congr 2
theorem rem_low (n : BitVec 64) : (n % 256#64).setWidth 8 = n.setWidth 8 := by
  apply BitVec.eq_of_toNat_eq
  rw [BitVec.toNat_setWidth, BitVec.toNat_setWidth, BitVec.toNat_umod, show (256#64).toNat = 2 ^ 8 from rfl, Nat.mod_mod]

theorem low_high (n : BitVec 64) : (n.setWidth 8).setWidth 64 + 256#64 * (n >>> 8) = n := by
  rw [← or_add]
  apply BitVec.eq_of_getLsbD_eq
  intro i hi
  simp only [BitVec.getLsbD_or, BitVec.getLsbD_shiftLeft, BitVec.getLsbD_ushiftRight, BitVec.getLsbD_setWidth]
  by_cases h : i < 8
  · simp [h]; omega
  · simp [h, hi, show 8 + (i - 8) = i by omega]
theorem leV_putW : ∀ (z : Nat) (n : BitVec 64), n >>> (8 * z) = 0#64 → leV (putW n z) = n
  | 0, n, h => by
    have : n = 0#64 := by simpa using h
    rw [this]; rfl
  | z + 1, n, h => by
    have e : putW n (z + 1) = n.setWidth 8 :: putW (n >>> 8) z := by
      unfold putW
      rw [List.range_succ_eq_map, List.map_cons, List.map_map]
      simp only [Nat.mul_zero, BitVec.ushiftRight_zero, List.cons.injEq, true_and]
      apply List.map_congr_left
      intro i _
      show (n >>> (8 * (i + 1))).setWidth 8 = ((n >>> 8) >>> (8 * i)).setWidth 8
      rw [← BitVec.shiftRight_add, show 8 + 8 * i = 8 * (i + 1) by omega]
    rw [e]
    simp only [leV]
    rw [leV_putW z (n >>> 8) (by rw [← BitVec.shiftRight_add, show 8 + 8 * z = 8 * (z + 1) by omega]; exact h), low_high]

end Go.Sx
