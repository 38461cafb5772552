/-
  The reference's way to write a number as bytes; what is written is read back. The order is 1 or 2, the width 1 to 8.
-/
import Derived.Test.YtbnfocnhmpegjaaC8
set_option linter.unusedVariables false
set_option linter.unusedSimpArgs false
namespace Go.Sx
open Go Go.Proofs

def rowR (o : Int) (n : BitVec 64) (z i : Nat) : List (BitVec 8) := if o = 2 then (putAt n z i).reverse else putAt n z i
theorem rowR_length {o : Int} {n : BitVec 64} {z i : Nat} (h : i ≤ z) : (rowR o n z i).length = z := by unfold rowR; split <;> simp [putAt_length h]
theorem rowR_set {o : Int} {n : BitVec 64} {z i : Nat} (h : i < z) : (rowR o n z i).set (if o = 2 then z - 1 - i else i) ((n >>> (8 * i)).setWidth 8) = rowR o n z (i + 1) := by
  unfold rowR
  by_cases ho : o = 2
  · rw [if_pos ho, if_pos ho, if_pos ho]
    have := rev_set (putAt n z i) i ((n >>> (8 * i)).setWidth 8) (by rw [putAt_length (by omega)]; exact h)
    rw [putAt_length (by omega)] at this
    rw [this, putAt_set h]
  · rw [if_neg ho, if_neg ho, if_neg ho, putAt_set h]

/-- What is written is read back. -/
theorem put_get {o z : Int} {n : BitVec 64} (h : putE o z n = 0) : getE o (putL o z n).length 0 z = 0 ∧ getV o (putL o z n) 0 z = n := by
  have hs : ShapeOk o z := by
    by_cases hs : ShapeOk o z
    · exact hs
    · unfold putE at h; rw [if_pos hs] at h; omega
  have hz := hs.2
  obtain ⟨z, rfl⟩ := Int.eq_ofNat_of_zero_le (show 0 ≤ z by omega)
  have hq : n >>> (8 * z) = 0#64 := by
    by_cases hq : n >>> (8 * z) = 0#64
    · exact hq
    · unfold putE at h
      rw [if_neg (fun h => h hs), if_pos (show n >>> (8 * ((z : Int)).toNat) ≠ 0#64 from hq)] at h
      omega
  have hL : putL o z n = if o = 2 then (putW n z).reverse else putW n z := by unfold putL; rw [if_pos h]; rfl
  have hlen : (putL o z n).length = z := by rw [hL]; split <;> simp [putW_length]
  have hE : getE o (putL o z n).length 0 z = 0 := by rw [hlen]; unfold getE; rw [if_neg (by omega), if_neg (by omega)]
  refine ⟨hE, ?_⟩
  unfold getV
  rw [if_pos hE]
  have hw : win (putL o z n) (0 : Int).toNat (z : Int).toNat = putL o z n := by
    unfold win
    rw [show (0 : Int).toNat = 0 from rfl, List.drop_zero]
    exact List.take_of_length_le (by rw [hlen]; exact Nat.le_refl _)
  rw [hw, beV_rev]
  have hb : (rdS o (putL o z n)).reverse = putW n z := by
    unfold rdS
    rw [hL]
    split <;> simp
  rw [hb, leV_putW z n hq]
end Go.Sx
