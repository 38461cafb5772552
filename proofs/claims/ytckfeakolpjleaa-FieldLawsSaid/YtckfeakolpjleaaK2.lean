/-
  The ladder's step of the program. The numbers are below 2^256.
-/
import Derived.Test.YtckfeakolpjleaaK1
import Derived.Test.YtckfeakolpjleaaSxFork
set_option linter.unusedVariables false
set_option linter.unusedSimpArgs false
namespace Go.Sx
open Go Go.Proofs

def ad (a b : Nat) : Nat := (a + b) % 57896044618658097711785492504343953926634992332820282019728792003956564819949
def sb (a b : Nat) : Nat := (a + (57896044618658097711785492504343953926634992332820282019728792003956564819949 - b % 57896044618658097711785492504343953926634992332820282019728792003956564819949)) % 57896044618658097711785492504343953926634992332820282019728792003956564819949
def ml (a b : Nat) : Nat := a * b % 57896044618658097711785492504343953926634992332820282019728792003956564819949
theorem ad_lt (a b : Nat) : ad a b < 115792089237316195423570985008687907853269984665640564039457584007913129639936 := modp _
theorem sb_lt (a b : Nat) : sb a b < 115792089237316195423570985008687907853269984665640564039457584007913129639936 := modp _
theorem ml_lt (a b : Nat) : ml a b < 115792089237316195423570985008687907853269984665640564039457584007913129639936 := modp _
def eeN (x z : Nat) : Nat := sb (ml (ad x z) (ad x z)) (ml (sb x z) (sb x z))
def dX (x z : Nat) : Nat := ml (ml (ad x z) (ad x z)) (ml (sb x z) (sb x z))
def dZ (x z : Nat) : Nat := ml (eeN x z) (ad (ml (ad x z) (ad x z)) (ml 121665 (eeN x z)))
def cA (x z u v : Nat) : Nat := ml (sb u v) (ad x z)
def cB (x z u v : Nat) : Nat := ml (ad u v) (sb x z)
def sX (x z u v : Nat) : Nat := ml (ad (cA x z u v) (cB x z u v)) (ad (cA x z u v) (cB x z u v))
def sZ (t x z u v : Nat) : Nat := ml t (ml (sb (cA x z u v) (cB x z u v)) (sb (cA x z u v) (cB x z u v)))
theorem dX_lt (x z : Nat) : dX x z < 115792089237316195423570985008687907853269984665640564039457584007913129639936 := ml_lt _ _
theorem dZ_lt (x z : Nat) : dZ x z < 115792089237316195423570985008687907853269984665640564039457584007913129639936 := ml_lt _ _
theorem sX_lt (x z u v : Nat) : sX x z u v < 115792089237316195423570985008687907853269984665640564039457584007913129639936 := ml_lt _ _
theorem sZ_lt (t x z u v : Nat) : sZ t x z u v < 115792089237316195423570985008687907853269984665640564039457584007913129639936 := ml_lt _ _

theorem lt2k {a b : Nat} (ha : a < 115792089237316195423570985008687907853269984665640564039457584007913129639936) (hb : b < 115792089237316195423570985008687907853269984665640564039457584007913129639936) : ∀ n ∈ [a, b], n < 115792089237316195423570985008687907853269984665640564039457584007913129639936 := fun n hn => by
  rcases List.mem_cons.1 hn with h | h
  · rw [h]; exact ha
  · rw [List.mem_singleton.1 h]; exact hb
theorem sum2 (a b : Nat) : sumN [a, b] = a + b := by simp [sumN]
theorem fill_rtK (a b : Nat) {A : Array Value} (hA : A.size = 8) : Instr.fill (fun i => [(0, 4), (4, 4)][i]?) A [(0, .agg (el a).toArray), (1, .agg (el b).toArray)] = some (rt a b).toArray := by
  rw [fill_stp (C := el a) (off := 0) (s := 4) rfl rfl rfl (by omega), List.take_zero, List.nil_append]
  have hd : (A.toList.drop (0 + 4)).length = 4 := by rw [List.length_drop, Array.length_toList]; omega
  generalize A.toList.drop (0 + 4) = D at hd
  rw [fill_stp (C := el b) (off := 4) (s := 4) rfl rfl rfl (by rw [List.size_toArray, List.length_append, hd, el_length]; omega)]
  rw [show (el a ++ D).toArray.toList.take 4 = el a from List.take_left' (el_length a), show (el a ++ D).toArray.toList.drop (4 + 4) = [] from by
    show (el a ++ D).drop (4 + 4) = []
    exact List.drop_of_length_le (by rw [List.length_append, hd, el_length]; omega)]
  simp [Instr.fill, rt]

theorem SumK (w : World) {q : Option Addr} (d : Nat) {a b : Nat} (hq : RdV w q (elsC [a, b])) (ha : a < 115792089237316195423570985008687907853269984665640564039457584007913129639936) (hb : b < 115792089237316195423570985008687907853269984665640564039457584007913129639936) :
    Spec Try.prog 28 #[.slice q 2 d] w (σ := Unit) (fun _ => True) (fun _ => .agg (el (ad a b)).toArray) Nob (fun _ => []) := by
  have h := Sum_b w d hq rfl (lt2k ha hb) (show 2 ≤ 4398046511104 by omega)
  rwa [sum2] at h
theorem ProductK (w : World) {q : Option Addr} (d : Nat) {a b : Nat} (hq : RdV w q (elsC [a, b])) (ha : a < 115792089237316195423570985008687907853269984665640564039457584007913129639936) (hb : b < 115792089237316195423570985008687907853269984665640564039457584007913129639936) :
    Spec Try.prog 18 #[.slice q 2 d] w (σ := Unit) (fun _ => True) (fun _ => .agg (el (ml a b)).toArray) Nob (fun _ => []) := by
  have h := Product_b w d hq rfl (lt2k ha hb) (show 2 ≤ 4398046511104 by omega)
  rwa [prod2] at h
theorem SubK (w : World) {a b : Nat} (ha : a < 115792089237316195423570985008687907853269984665640564039457584007913129639936) (hb : b < 115792089237316195423570985008687907853269984665640564039457584007913129639936) : Spec Try.prog 31 #[.agg (el a).toArray, .agg (el b).toArray] w (σ := Unit) (fun _ => True) (fun _ => .agg (el (sb a b)).toArray) Nob (fun _ => []) := SubE_b w a b ha hb
theorem SquareK (w : World) {a : Nat} (ha : a < 115792089237316195423570985008687907853269984665640564039457584007913129639936) : Spec Try.prog 33 #[.agg (el a).toArray] w (σ := Unit) (fun _ => True) (fun _ => .agg (el (ml a a)).toArray) Nob (fun _ => []) := Square_b w a ha

end Go.Sx
