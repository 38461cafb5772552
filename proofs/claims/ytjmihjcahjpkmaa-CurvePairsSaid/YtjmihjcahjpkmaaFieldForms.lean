/-
  FieldForms: every element stands for its number modulo p, whatever its limbs are. Each element has four limbs.
-/
import Derived.Test.YtjmihjcahjpkmaaF11
set_option linter.unusedVariables false
set_option linter.unusedSimpArgs false
namespace Go.Sx
open Go Go.Proofs

theorem el_word (n : BitVec 64) : el n.toNat = qs [n, 0#64, 0#64, 0#64] := by
  rw [el_of rfl]
  simp [numL]
theorem modp (a : Nat) : a % 57896044618658097711785492504343953926634992332820282019728792003956564819949 < 115792089237316195423570985008687907853269984665640564039457584007913129639936 := by omega
theorem Is_t (w : World) (a b : Nat) (ha : a < 115792089237316195423570985008687907853269984665640564039457584007913129639936) (hb : b < 115792089237316195423570985008687907853269984665640564039457584007913129639936) (h : a % 57896044618658097711785492504343953926634992332820282019728792003956564819949 = b % 57896044618658097711785492504343953926634992332820282019728792003956564819949) : Spec Try.prog 32 #[.agg (el a).toArray, .agg (el b).toArray] w (σ := Unit) (fun _ => True) (fun _ => .bool true) Nob (fun _ => []) := by
  have h2 := Is_b w a b ha hb
  rwa [decide_eq_true h] at h2
theorem Is_f (w : World) (a b : Nat) (ha : a < 115792089237316195423570985008687907853269984665640564039457584007913129639936) (hb : b < 115792089237316195423570985008687907853269984665640564039457584007913129639936) (h : ¬ a % 57896044618658097711785492504343953926634992332820282019728792003956564819949 = b % 57896044618658097711785492504343953926634992332820282019728792003956564819949) : Spec Try.prog 32 #[.agg (el a).toArray, .agg (el b).toArray] w (σ := Unit) (fun _ => True) (fun _ => .bool false) Nob (fun _ => []) := by
  have h2 := Is_b w a b ha hb
  rwa [decide_eq_false h] at h2
theorem RBytes_n (w : World) (a : Nat) (ha : a < 57896044618658097711785492504343953926634992332820282019728792003956564819949) : Spec Try.prog 39 #[.agg (dg a).toArray] w (σ := Unit) (fun _ => True) (fun _ => .agg (bs (leB 32 a)).toArray) Nob (fun _ => []) := by
  have h := RBytes_b w a (by omega)
  rwa [Nat.mod_eq_of_lt ha] at h
theorem Bytes_n (w : World) (a : Nat) (ha : a < 57896044618658097711785492504343953926634992332820282019728792003956564819949) : Spec Try.prog 33 #[.agg (el a).toArray] w (σ := Unit) (fun _ => True) (fun _ => .agg (bs (leB 32 a)).toArray) Nob (fun _ => []) := by
  have h := Bytes_b w a (by omega)
  rwa [Nat.mod_eq_of_lt ha] at h
theorem odd_digit (a : Nat) : (BitVec.ofNat 32 a % 2#32 = 1#32) ↔ a % 2 = 1 := by
  have e1 : (BitVec.ofNat 32 a % 2#32).toNat = a % 2 := by
    rw [BitVec.toNat_umod, BitVec.toNat_ofNat, show (2#32).toNat = 2 from rfl]; omega
  constructor
  · intro h; rw [← e1, h]; rfl
  · intro h; apply BitVec.eq_of_toNat_eq; rw [e1, h]; rfl

end Go.Sx
