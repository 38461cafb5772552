/-
  The field's products. The numbers are below 2^256.
-/
import Derived.Test.YtckfeakolpjleaaF3
set_option linter.unusedVariables false
set_option linter.unusedSimpArgs false
namespace Go.Sx
open Go Go.Proofs

def foldN (v : Nat) : Nat := v % 115792089237316195423570985008687907853269984665640564039457584007913129639936 + 38 * (v / 115792089237316195423570985008687907853269984665640564039457584007913129639936)
def mulN (a b : Nat) : Nat := raiseN (foldN (a * b) % 115792089237316195423570985008687907853269984665640564039457584007913129639936) (38 * (foldN (a * b) / 115792089237316195423570985008687907853269984665640564039457584007913129639936))
theorem mul512 {a b : Nat} (ha : a < 115792089237316195423570985008687907853269984665640564039457584007913129639936) (hb : b < 115792089237316195423570985008687907853269984665640564039457584007913129639936) : a * b < 13407807929942597099574024998205846127479365820592393377723561443721764030073546976801874298166903427690031858186486050853753882811946569946433649006084096 := by
  have : a * b ≤ (115792089237316195423570985008687907853269984665640564039457584007913129639936 - 1) * (115792089237316195423570985008687907853269984665640564039457584007913129639936 - 1) := Nat.mul_le_mul (by omega) (by omega)
  exact Nat.lt_of_le_of_lt this (by decide)
theorem mulN_lt {a b : Nat} (ha : a < 115792089237316195423570985008687907853269984665640564039457584007913129639936) (hb : b < 115792089237316195423570985008687907853269984665640564039457584007913129639936) : mulN a b < 115792089237316195423570985008687907853269984665640564039457584007913129639936 := by
  have h := mul512 ha hb
  unfold mulN foldN
  generalize a * b = v at *
  exact raiseN_lt (by omega) (by omega)
theorem mulN_mod {a b : Nat} (ha : a < 115792089237316195423570985008687907853269984665640564039457584007913129639936) (hb : b < 115792089237316195423570985008687907853269984665640564039457584007913129639936) : mulN a b % 57896044618658097711785492504343953926634992332820282019728792003956564819949 = (a * b) % 57896044618658097711785492504343953926634992332820282019728792003956564819949 := by
  have h := mul512 ha hb
  unfold mulN foldN
  generalize a * b = v at *
  rw [raiseN_mod (by omega) (by omega)]
  omega
theorem numL_zero {l : List (BitVec 64)} (h : ∀ k, l.getD k 0#64 = 0#64) : numL l = 0 := by
  induction l with
  | nil => rfl
  | cons a r ih =>
    have h0 : a = 0#64 := h 0
    have := ih (fun k => h (k + 1))
    rw [numL, this, h0]; rfl
theorem getD_set (l : List (BitVec 64)) (i k : Nat) (x : BitVec 64) (h : k ≠ i) : (l.set i x).getD k 0#64 = l.getD k 0#64 := by
  rw [List.getD_eq_getElem?_getD, List.getD_eq_getElem?_getD, List.getElem?_set_ne (Ne.symm h)]
theorem numL_split : ∀ (l : List (BitVec 64)) (i : Nat), numL l = numL (l.take i) + 18446744073709551616 ^ i * numL (l.drop i)
  | [], i => by simp [numL]
  | a :: r, 0 => by simp [numL]
  | a :: r, i + 1 => by
    have ih := numL_split r i
    simp only [List.take_succ_cons, List.drop_succ_cons, numL, Nat.pow_succ]
    have e1 : ∀ y, 18446744073709551616 ^ i * 18446744073709551616 * y = 18446744073709551616 * (18446744073709551616 ^ i * y) := fun y => by rw [Nat.mul_comm (18446744073709551616 ^ i), Nat.mul_assoc]
    rw [e1, ih]
    omega
/-- One product with two carries: nothing runs over. -/
theorem mac_eq (x y u v : BitVec 64) :
    (adS v (adS (x * y) u 0#64) 0#64).toNat + 18446744073709551616 * (mulHi x y + adC (x * y) u 0#64 + adC v (adS (x * y) u 0#64) 0#64).toNat = v.toNat + x.toNat * y.toNat + u.toNat := by
  have h := mul_eq x y
  have hlt := mul_lt x y
  have a1 := ad_eq (x * y) u 0#64 (by decide)
  have a2 := ad_eq v (adS (x * y) u 0#64) 0#64 (by decide)
  have hu := u.isLt
  have hv := v.isLt
  rw [show (0#64).toNat = 0 from rfl] at a1 a2
  rw [BitVec.toNat_add, BitVec.toNat_add]
  generalize x.toNat * y.toNat = t at *
  generalize (x * y).toNat = lo at *
  generalize (mulHi x y).toNat = hi at *
  generalize (adC v (adS (x * y) u 0#64) 0#64).toNat = c2 at *
  generalize (adS v (adS (x * y) u 0#64) 0#64).toNat = s2 at *
  generalize (adC (x * y) u 0#64).toNat = c1 at *
  generalize (adS (x * y) u 0#64).toNat = s1 at *
  omega

theorem mulE_b (w : World) (a b : Nat) (ha : a < 115792089237316195423570985008687907853269984665640564039457584007913129639936) (hb : b < 115792089237316195423570985008687907853269984665640564039457584007913129639936) : Spec Try.prog 38 #[.agg (el a).toArray, .agg (el b).toArray] w (σ := Unit) (fun _ => True) (fun _ => .agg (el (mulN a b)).toArray) Nob (fun _ => []) := by
  refine enter Try.func38 rfl rfl (Mem.start w) ?_
  have han := el_numL ha
  have hbn := el_numL hb
  have hal : (limbs 4 a).length = 4 := rfl
  have hbl : (limbs 4 b).length = 4 := rfl
  generalize hA : limbs 4 a = A at han hal
  generalize hB : limbs 4 b = B at hbn hbl
  have heA : el a = qs A := by rw [el, hA]
  have heB : el b = qs B := by rw [el, hB]
  rw [heA, heB]
  (repeat refine g_seq ?_)
  refine g_region ?_
  refine g_lo [2] rfl rfl rfl rfl (lo_box rfl rfl) (fun b2 hb2 => ?_)
  refine g_lo [3] rfl rfl rfl rfl (lo_box rfl rfl) (fun b3 hb3 => ?_)
  refine g_lo [4] rfl rfl rfl rfl (lo_alloc rfl) (fun b4 hb4 => ?_)
  refine g_nil ?_
  (repeat refine g_seq ?_)
  refine g_region ?_
  refine g_lo [5] rfl rfl rfl rfl (lo_alloc rfl) (fun b5 hb5 => ?_)
  refine g_nil ?_
  (repeat refine g_seq ?_)
  refine g_region ?_
  refine g_pu rfl rfl rfl (pu_move rfl rfl) ?_
  refine g_nil ?_
  (repeat refine g_seq ?_)
  refine g_block (g_loop2 (fun (i : Nat) (W : List (BitVec 64)) => [(2, .pointer (some ⟨b2, 0, none⟩)), (3, .pointer (some ⟨b3, 0, none⟩)), (4, .pointer (some ⟨b4, 0, none⟩)), (5, .pointer (some ⟨b5, 0, none⟩)), (18, .int .i64 (i : Int))]) (fun i W => [(2, .pt b2 (.cells (qs A).toArray 28 (0, 0))), (3, .pt b3 (.cells (qs B).toArray 28 (0, 0))), (4, .pt b4 (.cells (qs [0#64, 0#64, 0#64, 0#64]).toArray 28 (0, 0))), (5, .pt b5 (.cells (qs W).toArray 84 (0, 0)))])
    (fun i W => i ≤ 4 ∧ W.length = 8 ∧ (∀ k, i + 4 ≤ k → W.getD k 0#64 = 0#64) ∧ numL W = numL (A.take i) * b) (fun i W => 4 - i) 0 [0#64, 0#64, 0#64, 0#64, 0#64, 0#64, 0#64, 0#64] ⟨rfl, rfl, rfl, rfl, rfl, trivial⟩ ⟨rfl, rfl, rfl, rfl, trivial⟩ ⟨by omega, rfl, fun k hk => by
      rw [List.getD_eq_getElem?_getD]
      match k, hk with
      | 4, _ => rfl
      | 5, _ => rfl
      | 6, _ => rfl
      | 7, _ => rfl
      | k + 8, _ => rfl, by simp [numL]⟩ ?_)
  intro i W ⟨hi, hW, hz, hv⟩
  by_cases hi4 : i < 4
  · (repeat refine g_seq ?_)
    refine g_region ?_
    first | refine g_pu rfl rfl rfl (pu_lss_t rfl rfl rfl (by omega)) ?_ | refine g_pu rfl rfl rfl (pu_lss_f rfl rfl rfl (by omega)) ?_ | refine g_pu rfl rfl rfl (pu_lss rfl rfl rfl) ?_
    refine g_nil ?_
    (repeat refine g_seq ?_)
    refine g_cond_t rfl (g_skip ?_)
    have gi := getDq (l := A) (i := i) (by omega)
    have nA := numL_take A i (by omega)
    generalize A.getD i 0#64 = x at gi nA
    (repeat refine g_seq ?_); refine g_block ?_
    (repeat refine g_seq ?_)
    refine g_region ?_
    refine g_pu rfl rfl rfl (pu_move rfl rfl) ?_
    refine g_pu rfl rfl rfl (pu_assign rfl rfl) ?_
    refine g_nil ?_
    (repeat refine g_seq ?_)
    refine g_region ?_
    refine g_pu rfl rfl rfl (pu_assign (v := b64 0#64) rfl rfl) ?_
    refine g_nil ?_
    (repeat refine g_seq ?_)
    refine g_region ?_
    refine g_pu rfl rfl rfl (pu_move rfl rfl) ?_
    refine g_nil ?_
    (repeat refine g_seq ?_)
    refine g_block (g_loop3 (fun (j : Nat) (V : List (BitVec 64)) (u : BitVec 64) => [(2, .pointer (some ⟨b2, 0, none⟩)), (3, .pointer (some ⟨b3, 0, none⟩)), (4, .pointer (some ⟨b4, 0, none⟩)), (5, .pointer (some ⟨b5, 0, none⟩)), (6, .int .i64 (i : Int)), (7, b64 u), (18, .int .i64 (i : Int)), (21, .int .i64 (j : Int))]) (fun j V u => [(2, .pt b2 (.cells (qs A).toArray 28 (0, 0))), (3, .pt b3 (.cells (qs B).toArray 28 (0, 0))), (4, .pt b4 (.cells (qs [0#64, 0#64, 0#64, 0#64]).toArray 28 (0, 0))), (5, .pt b5 (.cells (qs V).toArray 84 (0, 0)))])
      (fun j V u => j ≤ 4 ∧ V.length = 8 ∧ (∀ k, i + 4 ≤ k → V.getD k 0#64 = 0#64) ∧ numL V + 18446744073709551616 ^ (i + j) * u.toNat = numL W + 18446744073709551616 ^ i * (x.toNat * numL (B.take j))) (fun j V u => 4 - j) 0 W 0#64 ⟨rfl, rfl, rfl, rfl, rfl, rfl, rfl, rfl, trivial⟩ ⟨rfl, rfl, rfl, rfl, trivial⟩ ⟨by omega, hW, hz, by simp [numL]⟩ ?_)
    intro j V u ⟨hj, hV, hVz, hVv⟩
    by_cases hj4 : j < 4
    · (repeat refine g_seq ?_)
      refine g_region ?_
      first | refine g_pu rfl rfl rfl (pu_lss_t rfl rfl rfl (by omega)) ?_ | refine g_pu rfl rfl rfl (pu_lss_f rfl rfl rfl (by omega)) ?_ | refine g_pu rfl rfl rfl (pu_lss rfl rfl rfl) ?_
      refine g_nil ?_
      (repeat refine g_seq ?_)
      refine g_cond_t rfl (g_skip ?_)
      have gj := getDq (l := B) (i := j) (by omega)
      have nB := numL_take B j (by omega)
      generalize B.getD j 0#64 = y at gj nB
      have gk := getDq (l := V) (i := i + j) (by omega)
      have me := mac_eq x y u (V.getD (i + j) 0#64)
      have ns := numL_set V (i + j) (adS (V.getD (i + j) 0#64) (adS (x * y) u 0#64) 0#64) (by omega)
      have st := cstep ns me
      (repeat refine g_seq ?_); refine g_block ?_
      (repeat refine g_seq ?_)
      refine g_region ?_
      refine g_pu rfl rfl rfl (pu_move rfl rfl) ?_
      refine g_pu rfl rfl rfl (pu_assign rfl rfl) ?_
      refine g_nil ?_
      (repeat refine g_seq ?_)
      refine g_any (12, []) ?_
      refine a_pu 0 rfl rfl rfl rfl (pu_move rfl rfl) rfl rfl (by kernel_rfl) ?_
      refine a_pu 1 rfl rfl rfl rfl (pu_atA1 i rfl rfl rfl rfl (by omega)) rfl rfl (by kernel_rfl) ?_
      refine a_pu 2 rfl rfl rfl rfl (pu_load 2 (v := b64 x) rfl rfl rfl (qs_load gi)) rfl rfl (by kernel_rfl) ?_
      refine a_pu 3 rfl rfl rfl rfl (pu_move rfl rfl) rfl rfl (by kernel_rfl) ?_
      refine a_pu 4 rfl rfl rfl rfl (pu_atA1 j rfl rfl rfl rfl (by omega)) rfl rfl (by kernel_rfl) ?_
      refine a_pu 5 rfl rfl rfl rfl (pu_load 3 (v := b64 y) rfl rfl rfl (qs_load gj)) rfl rfl (by kernel_rfl) ?_
      refine a_do 6 31 [] (does_call rfl rfl rfl rfl rfl (fun w' hm => Mul64_b w' x y)) rfl rfl (by kernel_rfl) rfl rfl (by kernel_rfl) (by kernel_rfl) (by kernel_rfl) rfl (fun p hp => by cases hp) ?_; rintro v_ cs_ ⟨_, _, rfl, rfl⟩
      refine a_pu 7 rfl rfl rfl rfl (pu_move rfl rfl) rfl rfl (by kernel_rfl) ?_
      refine a_pu 8 rfl rfl rfl rfl (pu_extract rfl rfl rfl) rfl rfl (by kernel_rfl) ?_
      refine a_pu 9 rfl rfl rfl rfl (pu_extract rfl rfl rfl) rfl rfl (by kernel_rfl) ?_
      refine a_pu 10 rfl rfl rfl rfl (pu_assign rfl rfl) rfl rfl (by kernel_rfl) ?_
      refine a_pu 11 rfl rfl rfl rfl (pu_assign rfl rfl) rfl rfl (by kernel_rfl) ?_
      refine a_done (by kernel_rfl) ?_
      (repeat refine g_seq ?_)
      refine g_region ?_
      refine g_pu rfl rfl rfl (pu_assign (v := b64 0#64) rfl rfl) ?_
      refine g_nil ?_
      (repeat refine g_seq ?_)
      refine g_region ?_
      refine g_pu rfl rfl rfl (pu_move rfl rfl) ?_
      refine g_pu rfl rfl rfl (pu_move rfl rfl) ?_
      refine g_pu rfl rfl rfl (pu_ad (c := 0#64) rfl rfl rfl rfl (by decide)) ?_
      refine g_pu rfl rfl rfl (pu_move rfl rfl) ?_
      refine g_pu rfl rfl rfl (pu_extract rfl rfl rfl) ?_
      refine g_pu rfl rfl rfl (pu_extract rfl rfl rfl) ?_
      refine g_pu rfl rfl rfl (pu_assign rfl rfl) ?_
      refine g_pu rfl rfl rfl (pu_assign rfl rfl) ?_
      refine g_nil ?_
      (repeat refine g_seq ?_)
      refine g_region ?_
      refine g_pu rfl rfl rfl (pu_move rfl rfl) ?_
      refine g_pu rfl rfl rfl (pu_move rfl rfl) ?_
      refine g_pu rfl rfl rfl (pu_add64 rfl rfl rfl) ?_
      refine g_pu rfl rfl rfl (pu_assign rfl rfl) ?_
      refine g_nil ?_
      (repeat refine g_seq ?_)
      refine g_region ?_
      refine g_pu rfl rfl rfl (pu_move rfl rfl) ?_
      refine g_pu rfl rfl rfl (pu_move rfl rfl) ?_
      refine g_pu rfl rfl rfl (pu_addI rfl rfl rfl (by omega)) ?_
      refine g_pu rfl rfl rfl (pu_move rfl rfl) ?_
      refine g_pu rfl rfl rfl (pu_move rfl rfl) ?_
      refine g_pu rfl rfl rfl (pu_addI rfl rfl rfl (by omega)) ?_
      refine g_pu rfl rfl rfl (pu_atA1 (i + j) rfl rfl rfl (by omega) (by omega)) ?_
      refine g_pu rfl rfl rfl (pu_load 5 (v := b64 (V.getD (i + j) 0#64)) rfl rfl rfl (qs_load gk)) ?_
      refine g_pu rfl rfl rfl (pu_move rfl rfl) ?_
      refine g_pu rfl rfl rfl (pu_ad (c := 0#64) rfl rfl rfl rfl (by decide)) ?_
      refine g_pu rfl rfl rfl (pu_move rfl rfl) ?_
      refine g_pu rfl rfl rfl (pu_extract rfl rfl rfl) ?_
      refine g_pu rfl rfl rfl (pu_extract rfl rfl rfl) ?_
      refine g_pu rfl rfl rfl (pu_atA1 (i + j) rfl rfl rfl (by omega) (by omega)) ?_
      refine g_store 5 (v := b64 (adS (V.getD (i + j) 0#64) (adS (x * y) u 0#64) 0#64)) rfl rfl rfl rfl rfl rfl rfl (by rw [qs_length]; omega) ?_
      rw [qs_set]
      refine g_pu rfl rfl rfl (pu_assign rfl rfl) ?_
      refine g_nil ?_
      (repeat refine g_seq ?_)
      refine g_region ?_
      refine g_pu rfl rfl rfl (pu_move rfl rfl) ?_
      refine g_pu rfl rfl rfl (pu_move rfl rfl) ?_
      refine g_pu rfl rfl rfl (pu_add64 rfl rfl rfl) ?_
      refine g_pu rfl rfl rfl (pu_assign rfl rfl) ?_
      refine g_nil ?_
      refine g_blk ?_
      (repeat refine g_seq ?_)
      refine g_region ?_
      refine g_pu rfl rfl rfl (pu_addI rfl rfl rfl (by omega)) ?_
      refine g_pu rfl rfl rfl (pu_move rfl rfl) ?_
      refine g_nil ?_
      refine g_round3 (j + 1) (V.set (i + j) (adS (V.getD (i + j) 0#64) (adS (x * y) u 0#64) 0#64)) (mulHi x y + adC (x * y) u 0#64 + adC (V.getD (i + j) 0#64) (adS (x * y) u 0#64) 0#64) ⟨by omega, by rw [List.length_set, hV], fun k hk => by rw [getD_set _ _ _ _ (by omega)]; exact hVz k hk, ?_⟩ (by omega) ⟨rfl, rfl, rfl, rfl, rfl, rfl, rfl, rfl, trivial⟩ ⟨rfl, rfl, rfl, rfl, trivial⟩
      rw [show i + (j + 1) = i + j + 1 by omega, Nat.pow_succ, st, nB, Nat.mul_add, Nat.mul_add]
      have e1 : 18446744073709551616 ^ i * (x.toNat * (18446744073709551616 ^ j * y.toNat)) = 18446744073709551616 ^ (i + j) * (x.toNat * y.toNat) := by
        rw [Nat.pow_add, Nat.mul_left_comm x.toNat, Nat.mul_assoc]
      rw [e1]
      omega
    · (repeat refine g_seq ?_)
      refine g_region ?_
      first | refine g_pu rfl rfl rfl (pu_lss_t rfl rfl rfl (by omega)) ?_ | refine g_pu rfl rfl rfl (pu_lss_f rfl rfl rfl (by omega)) ?_ | refine g_pu rfl rfl rfl (pu_lss rfl rfl rfl) ?_
      refine g_nil ?_
      (repeat refine g_seq ?_)
      refine g_cond_f rfl (g_exit rfl ?_)
      have e1 : j = 4 := by omega
      subst e1
      rw [List.take_of_length_le (by omega), hbn] at hVv
      have ns := numL_set V (i + 4) u (by omega)
      rw [hVz (i + 4) (by omega), show (0#64).toNat = 0 from rfl, Nat.mul_zero] at ns
      (repeat refine g_seq ?_)
      refine g_region ?_
      refine g_pu rfl rfl rfl (pu_move rfl rfl) ?_
      refine g_pu rfl rfl rfl (pu_addI rfl rfl rfl (by omega)) ?_
      refine g_pu rfl rfl rfl (pu_move rfl rfl) ?_
      refine g_pu rfl rfl rfl (pu_atA1 (i + 4) rfl rfl rfl (by omega) (by omega)) ?_
      refine g_store 5 (v := b64 u) rfl rfl rfl rfl rfl rfl rfl (by rw [qs_length]; omega) ?_
      rw [qs_set]
      refine g_nil ?_
      refine g_blk ?_
      (repeat refine g_seq ?_)
      refine g_region ?_
      refine g_pu rfl rfl rfl (pu_addI rfl rfl rfl (by omega)) ?_
      refine g_pu rfl rfl rfl (pu_move rfl rfl) ?_
      refine g_nil ?_
      refine g_round2 (i + 1) (V.set (i + 4) u) ⟨by omega, by rw [List.length_set, hV], fun k hk => by rw [getD_set _ _ _ _ (by omega)]; exact hVz k (by omega), ?_⟩ (by omega) ⟨rfl, rfl, rfl, rfl, rfl, trivial⟩ ⟨rfl, rfl, rfl, rfl, trivial⟩
      rw [nA, Nat.add_mul, ← hv, Nat.mul_assoc]
      omega
  · (repeat refine g_seq ?_)
    refine g_region ?_
    first | refine g_pu rfl rfl rfl (pu_lss_t rfl rfl rfl (by omega)) ?_ | refine g_pu rfl rfl rfl (pu_lss_f rfl rfl rfl (by omega)) ?_ | refine g_pu rfl rfl rfl (pu_lss rfl rfl rfl) ?_
    refine g_nil ?_
    (repeat refine g_seq ?_)
    refine g_cond_f rfl (g_exit rfl ?_)
    have e1 : i = 4 := by omega
    subst e1
    rw [List.take_of_length_le (by omega), han] at hv
    have hsp := numL_split W 4
    rw [show 18446744073709551616 ^ 4 = 115792089237316195423570985008687907853269984665640564039457584007913129639936 from rfl] at hsp
    have hlo := numL4_lt (l := W.take 4) (by rw [List.length_take]; omega)
    have hhi := numL4_lt (l := W.drop 4) (by rw [List.length_drop]; omega)
    (repeat refine g_seq ?_)
    refine g_region ?_
    refine g_lo [12] rfl rfl rfl rfl (lo_alloc rfl) (fun b12 hb12 => ?_)
    refine g_nil ?_
    (repeat refine g_seq ?_)
    refine g_region ?_
    refine g_pu rfl rfl rfl (pu_assign (v := b64 0#64) rfl rfl) ?_
    refine g_nil ?_
    (repeat refine g_seq ?_)
    refine g_region ?_
    refine g_pu rfl rfl rfl (pu_move rfl rfl) ?_
    refine g_nil ?_
    (repeat refine g_seq ?_)
    refine g_block (g_loop3 (fun (j : Nat) (V : List (BitVec 64)) (u : BitVec 64) => [(4, .pointer (some ⟨b4, 0, none⟩)), (5, .pointer (some ⟨b5, 0, none⟩)), (12, .pointer (some ⟨b12, 0, none⟩)), (13, b64 u), (66, .int .i64 (j : Int))]) (fun j V u => [(4, .pt b4 (.cells (qs [0#64, 0#64, 0#64, 0#64]).toArray 28 (0, 0))), (5, .pt b5 (.cells (qs W).toArray 84 (0, 0))), (12, .pt b12 (.cells (qs V).toArray 28 (0, 0)))])
      (fun j V u => j ≤ 4 ∧ V.length = 4 ∧ u.toNat ≤ 38 ∧ numL (V.take j) + 18446744073709551616 ^ j * u.toNat = numL (W.take j) + 38 * numL ((W.drop 4).take j)) (fun j V u => 4 - j) 0 [0#64, 0#64, 0#64, 0#64] 0#64 ⟨rfl, rfl, rfl, rfl, rfl, trivial⟩ ⟨rfl, rfl, rfl, trivial⟩ ⟨by omega, rfl, by decide, by simp [numL]⟩ ?_)
    intro j V u ⟨hj, hV, hu, hVv⟩
    by_cases hj4 : j < 4
    · (repeat refine g_seq ?_)
      refine g_region ?_
      first | refine g_pu rfl rfl rfl (pu_lss_t rfl rfl rfl (by omega)) ?_ | refine g_pu rfl rfl rfl (pu_lss_f rfl rfl rfl (by omega)) ?_ | refine g_pu rfl rfl rfl (pu_lss rfl rfl rfl) ?_
      refine g_nil ?_
      (repeat refine g_seq ?_)
      refine g_cond_t rfl (g_skip ?_)
      have gl := getDq (l := W) (i := j) (by omega)
      have gh := getDq (l := W) (i := j + 4) (by omega)
      have nl := numL_take W j (by omega)
      have nh := numL_take (W.drop 4) j (by rw [List.length_drop]; omega)
      have eh : (W.drop 4).getD j 0#64 = W.getD (j + 4) 0#64 := by rw [List.getD_eq_getElem?_getD, List.getD_eq_getElem?_getD, List.getElem?_drop, Nat.add_comm]
      rw [eh] at nh
      generalize W.getD j 0#64 = lo at gl nl
      generalize W.getD (j + 4) 0#64 = hi at gh nh
      have me := mac_eq hi 38#64 u lo
      rw [show (38#64).toNat = 38 from rfl] at me
      have hlt1 := lo.isLt
      have hlt2 := hi.isLt
      have ns : numL ((V.set j (adS lo (adS (hi * 38#64) u 0#64) 0#64)).take (j + 1)) = numL (V.take j) + 18446744073709551616 ^ j * (adS lo (adS (hi * 38#64) u 0#64) 0#64).toNat := by
        rw [numL_take _ j (by rw [List.length_set]; omega), List.take_set_of_le (Nat.le_refl _)]
        congr 2
        rw [List.getD_eq_getElem?_getD, List.getElem?_set_self (by omega)]; rfl
      (repeat refine g_seq ?_); refine g_block ?_
      (repeat refine g_seq ?_)
      refine g_region ?_
      refine g_pu rfl rfl rfl (pu_move rfl rfl) ?_
      refine g_pu rfl rfl rfl (pu_assign rfl rfl) ?_
      refine g_nil ?_
      (repeat refine g_seq ?_)
      refine g_region ?_
      refine g_pu rfl rfl rfl (pu_move rfl rfl) ?_
      refine g_pu rfl rfl rfl (pu_addI rfl rfl rfl (by omega)) ?_
      refine g_pu rfl rfl rfl (pu_atA1 (j + 4) rfl rfl rfl (by omega) (by omega)) ?_
      refine g_pu rfl rfl rfl (pu_load 5 (v := b64 hi) rfl rfl rfl (qs_load gh)) ?_
      refine g_call [] rfl rfl rfl rfl rfl rfl (fun w' hm => Mul64_b w' hi 38#64) (fun _ _ => ?_)
      refine g_pu rfl rfl rfl (pu_move rfl rfl) ?_
      refine g_pu rfl rfl rfl (pu_extract rfl rfl rfl) ?_
      refine g_pu rfl rfl rfl (pu_extract rfl rfl rfl) ?_
      refine g_pu rfl rfl rfl (pu_assign rfl rfl) ?_
      refine g_pu rfl rfl rfl (pu_assign rfl rfl) ?_
      refine g_nil ?_
      (repeat refine g_seq ?_)
      refine g_region ?_
      refine g_pu rfl rfl rfl (pu_assign (v := b64 0#64) rfl rfl) ?_
      refine g_nil ?_
      (repeat refine g_seq ?_)
      refine g_region ?_
      refine g_pu rfl rfl rfl (pu_move rfl rfl) ?_
      refine g_pu rfl rfl rfl (pu_move rfl rfl) ?_
      refine g_pu rfl rfl rfl (pu_ad (c := 0#64) rfl rfl rfl rfl (by decide)) ?_
      refine g_pu rfl rfl rfl (pu_move rfl rfl) ?_
      refine g_pu rfl rfl rfl (pu_extract rfl rfl rfl) ?_
      refine g_pu rfl rfl rfl (pu_extract rfl rfl rfl) ?_
      refine g_pu rfl rfl rfl (pu_assign rfl rfl) ?_
      refine g_pu rfl rfl rfl (pu_assign rfl rfl) ?_
      refine g_nil ?_
      (repeat refine g_seq ?_)
      refine g_region ?_
      refine g_pu rfl rfl rfl (pu_move rfl rfl) ?_
      refine g_pu rfl rfl rfl (pu_move rfl rfl) ?_
      refine g_pu rfl rfl rfl (pu_add64 rfl rfl rfl) ?_
      refine g_pu rfl rfl rfl (pu_assign rfl rfl) ?_
      refine g_nil ?_
      (repeat refine g_seq ?_)
      refine g_region ?_
      refine g_pu rfl rfl rfl (pu_move rfl rfl) ?_
      refine g_pu rfl rfl rfl (pu_move rfl rfl) ?_
      refine g_pu rfl rfl rfl (pu_atA1 j rfl rfl rfl rfl (by omega)) ?_
      refine g_pu rfl rfl rfl (pu_load 5 (v := b64 lo) rfl rfl rfl (qs_load gl)) ?_
      refine g_pu rfl rfl rfl (pu_move rfl rfl) ?_
      refine g_pu rfl rfl rfl (pu_ad (c := 0#64) rfl rfl rfl rfl (by decide)) ?_
      refine g_pu rfl rfl rfl (pu_move rfl rfl) ?_
      refine g_pu rfl rfl rfl (pu_extract rfl rfl rfl) ?_
      refine g_pu rfl rfl rfl (pu_extract rfl rfl rfl) ?_
      refine g_pu rfl rfl rfl (pu_atA1 j rfl rfl rfl rfl (by omega)) ?_
      refine g_store 12 (v := b64 (adS lo (adS (hi * 38#64) u 0#64) 0#64)) rfl rfl rfl rfl rfl rfl rfl (by rw [qs_length]; omega) ?_
      rw [qs_set]
      refine g_pu rfl rfl rfl (pu_assign rfl rfl) ?_
      refine g_nil ?_
      (repeat refine g_seq ?_)
      refine g_region ?_
      refine g_pu rfl rfl rfl (pu_move rfl rfl) ?_
      refine g_pu rfl rfl rfl (pu_move rfl rfl) ?_
      refine g_pu rfl rfl rfl (pu_add64 rfl rfl rfl) ?_
      refine g_pu rfl rfl rfl (pu_assign rfl rfl) ?_
      refine g_nil ?_
      refine g_blk ?_
      (repeat refine g_seq ?_)
      refine g_region ?_
      refine g_pu rfl rfl rfl (pu_addI rfl rfl rfl (by omega)) ?_
      refine g_pu rfl rfl rfl (pu_move rfl rfl) ?_
      refine g_nil ?_
      refine g_round3 (j + 1) (V.set j (adS lo (adS (hi * 38#64) u 0#64) 0#64)) (mulHi hi 38#64 + adC (hi * 38#64) u 0#64 + adC lo (adS (hi * 38#64) u 0#64) 0#64) ⟨by omega, by rw [List.length_set, hV], by omega, ?_⟩ (by omega) ⟨rfl, rfl, rfl, rfl, rfl, trivial⟩ ⟨rfl, rfl, rfl, trivial⟩
      rw [ns, nl, nh, Nat.mul_add, Nat.pow_succ, Nat.mul_assoc]
      have h2 := congrArg (18446744073709551616 ^ j * ·) me
      simp only [Nat.mul_add] at h2
      have e2 : 18446744073709551616 ^ j * (hi.toNat * 38) = 38 * (18446744073709551616 ^ j * hi.toNat) := by rw [Nat.mul_comm hi.toNat, Nat.mul_left_comm]
      rw [e2] at h2
      omega
    · (repeat refine g_seq ?_)
      refine g_region ?_
      first | refine g_pu rfl rfl rfl (pu_lss_t rfl rfl rfl (by omega)) ?_ | refine g_pu rfl rfl rfl (pu_lss_f rfl rfl rfl (by omega)) ?_ | refine g_pu rfl rfl rfl (pu_lss rfl rfl rfl) ?_
      refine g_nil ?_
      (repeat refine g_seq ?_)
      refine g_cond_f rfl (g_exit rfl ?_)
      have e1 : j = 4 := by omega
      subst e1
      rw [List.take_of_length_le (show V.length ≤ 4 by omega), List.take_of_length_le (show (W.drop 4).length ≤ 4 by rw [List.length_drop]; omega), show 18446744073709551616 ^ 4 = 115792089237316195423570985008687907853269984665640564039457584007913129639936 from rfl] at hVv
      have hVlt := numL4_lt hV
      have h38 : (u * 38#64).toNat = u.toNat * 38 := by
        rw [BitVec.toNat_mul, show (38#64).toNat = 38 from rfl]; omega
      have hF : foldN (a * b) = numL V + 115792089237316195423570985008687907853269984665640564039457584007913129639936 * u.toNat := by
        unfold foldN
        rw [← hv]
        omega
      have hR : mulN a b = raiseN (numL V) (u * 38#64).toNat := by
        unfold mulN
        rw [hF, h38, show (numL V + 115792089237316195423570985008687907853269984665640564039457584007913129639936 * u.toNat) % 115792089237316195423570985008687907853269984665640564039457584007913129639936 = numL V by omega, show (numL V + 115792089237316195423570985008687907853269984665640564039457584007913129639936 * u.toNat) / 115792089237316195423570985008687907853269984665640564039457584007913129639936 = u.toNat by omega, Nat.mul_comm]
      rw [hR]
      (repeat refine g_seq ?_)
      refine g_region ?_
      refine g_pu rfl rfl rfl (pu_loadW 12 (L := el (numL V)) rfl rfl (by rw [← el_of hV]; rfl) rfl) ?_
      refine g_pu rfl rfl rfl (pu_move rfl rfl) ?_
      refine g_pu rfl rfl rfl (pu_mul64 (b := 38#64) rfl rfl rfl) ?_
      refine g_call [] rfl rfl rfl rfl rfl rfl (fun w' hm => raise_b w' (numL V) (u * 38#64) hVlt) (fun _ _ => ?_)
      refine g_storeL 4 (s := 4) (C := el (raiseN (numL V) (u * 38#64).toNat)) rfl rfl rfl rfl rfl rfl rfl rfl (oneCell_el _) ?_
      refine g_nil ?_
      exact g_retL 4 (L := el (raiseN (numL V) (u * 38#64).toNat)) rfl rfl rfl rfl (fun w' hm => ⟨(), trivial, rfl, hm.grows [] trivial rfl⟩)

theorem Square_b (w : World) (a : Nat) (ha : a < 115792089237316195423570985008687907853269984665640564039457584007913129639936) : Spec Try.prog 33 #[.agg (el a).toArray] w (σ := Unit) (fun _ => True) (fun _ => .agg (el (a * a % 57896044618658097711785492504343953926634992332820282019728792003956564819949)).toArray) Nob (fun _ => []) := by
  refine enter Try.func33 rfl rfl (Mem.start w) ?_
  rw [← mulN_mod ha ha]
  (repeat refine g_seq ?_)
  refine g_region ?_
  refine g_lo [1] rfl rfl rfl rfl (lo_box rfl rfl) (fun b1 hb1 => ?_)
  refine g_lo [2] rfl rfl rfl rfl (lo_alloc rfl) (fun b2 hb2 => ?_)
  refine g_nil ?_
  (repeat refine g_seq ?_)
  refine g_region ?_
  refine g_pu rfl rfl rfl (pu_loadW 1 (L := el a) rfl rfl rfl rfl) ?_
  refine g_pu rfl rfl rfl (pu_loadW 1 (L := el a) rfl rfl rfl rfl) ?_
  refine g_call [] rfl rfl rfl rfl rfl rfl (fun w' hm => mulE_b w' a a ha ha) (fun _ _ => ?_)
  refine g_call [] rfl rfl rfl rfl rfl rfl (fun w' hm => Norm_b w' _ (mulN_lt ha ha)) (fun _ _ => ?_)
  refine g_storeL 2 (s := 4) (C := el (mulN a a % 57896044618658097711785492504343953926634992332820282019728792003956564819949)) rfl rfl rfl rfl rfl rfl rfl rfl (oneCell_el _) ?_
  refine g_nil ?_
  exact g_retL 2 (L := el (mulN a a % 57896044618658097711785492504343953926634992332820282019728792003956564819949)) rfl rfl rfl rfl (fun w' hm => ⟨(), trivial, rfl, hm.grows [] trivial rfl⟩)
end Go.Sx
