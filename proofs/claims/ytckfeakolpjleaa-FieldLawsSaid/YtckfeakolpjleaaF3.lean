/-
  The field's elements: taking p away, normal numbers, carries taken in, sums. The numbers are below 2^256.
-/
import Derived.Test.YtckfeakolpjleaaF2
set_option linter.unusedVariables false
set_option linter.unusedSimpArgs false
namespace Go.Sx
open Go Go.Proofs

theorem numL_set : ∀ (l : List (BitVec 64)) (i : Nat) (x : BitVec 64), i < l.length → numL (l.set i x) + 18446744073709551616 ^ i * (l.getD i 0#64).toNat = numL l + 18446744073709551616 ^ i * x.toNat
  | [], i, x, h => by simp at h
  | a :: r, 0, x, h => by
    simp only [List.set_cons_zero, numL, Nat.pow_zero, Nat.one_mul, List.getD_cons_zero]; omega
  | a :: r, i + 1, x, h => by
    have ih := numL_set r i x (by simpa using h)
    simp only [List.set_cons_succ, numL, List.getD_cons_succ, Nat.pow_succ]
    have e1 : ∀ y, 18446744073709551616 ^ i * 18446744073709551616 * y = 18446744073709551616 * (18446744073709551616 ^ i * y) := fun y => by rw [Nat.mul_comm (18446744073709551616 ^ i), Nat.mul_assoc]
    rw [e1, e1]
    omega
theorem numL_take : ∀ (l : List (BitVec 64)) (i : Nat), i < l.length → numL (l.take (i + 1)) = numL (l.take i) + 18446744073709551616 ^ i * (l.getD i 0#64).toNat
  | [], i, h => by simp at h
  | a :: r, 0, h => by simp [numL]
  | a :: r, i + 1, h => by
    have ih := numL_take r i (by simpa using h)
    simp only [List.take_succ_cons, numL, List.getD_cons_succ, Nat.pow_succ] at ih ⊢
    have e1 : ∀ y, 18446744073709551616 ^ i * 18446744073709551616 * y = 18446744073709551616 * (18446744073709551616 ^ i * y) := fun y => by rw [Nat.mul_comm (18446744073709551616 ^ i), Nat.mul_assoc]
    rw [e1, ih]
    omega
theorem cstep {P V V' x y x' c c' : Nat} (hset : V' + P * x = V + P * x') (had : x' + 18446744073709551616 * c' = x + y + c) : V' + P * 18446744073709551616 * c' = V + P * y + P * c := by
  have h2 : P * (x' + 18446744073709551616 * c') = P * (x + y + c) := by rw [had]
  rw [Nat.mul_add, Nat.mul_add, Nat.mul_add] at h2
  rw [Nat.mul_assoc]
  omega
theorem getDq {l : List (BitVec 64)} {i : Nat} (h : i < l.length) : l[i]? = some (l.getD i 0#64) := by
  rw [List.getD_eq_getElem?_getD, List.getElem?_eq_getElem h]; rfl

/-! ## The numbers -/
def lessN (n : Nat) : Nat := if n < 57896044618658097711785492504343953926634992332820282019728792003956564819949 then n else n - 57896044618658097711785492504343953926634992332820282019728792003956564819949
def raiseN (n w : Nat) : Nat := if n + w < 115792089237316195423570985008687907853269984665640564039457584007913129639936 then n + w else n + w - 115792089237316195423570985008687907853269984665640564039457584007913129639936 + 38
def addN (a b : Nat) : Nat := raiseN ((a + b) % 115792089237316195423570985008687907853269984665640564039457584007913129639936) (38 * ((a + b) / 115792089237316195423570985008687907853269984665640564039457584007913129639936))
theorem less_less {n : Nat} (h : n < 115792089237316195423570985008687907853269984665640564039457584007913129639936) : lessN (lessN n) = n % 57896044618658097711785492504343953926634992332820282019728792003956564819949 := by unfold lessN; split <;> (try split) <;> omega
theorem lessN_lt {n : Nat} (h : n < 115792089237316195423570985008687907853269984665640564039457584007913129639936) : lessN n < 115792089237316195423570985008687907853269984665640564039457584007913129639936 := by unfold lessN; split <;> omega
theorem raiseN_lt {n w : Nat} (h : n < 115792089237316195423570985008687907853269984665640564039457584007913129639936) (hw : w < 18446744073709551616) : raiseN n w < 115792089237316195423570985008687907853269984665640564039457584007913129639936 := by unfold raiseN; split <;> omega
theorem raiseN_mod {n w : Nat} (h : n < 115792089237316195423570985008687907853269984665640564039457584007913129639936) (hw : w < 18446744073709551616) : raiseN n w % 57896044618658097711785492504343953926634992332820282019728792003956564819949 = (n + w) % 57896044618658097711785492504343953926634992332820282019728792003956564819949 := by unfold raiseN; split <;> omega
theorem addN_lt {a b : Nat} (ha : a < 115792089237316195423570985008687907853269984665640564039457584007913129639936) (hb : b < 115792089237316195423570985008687907853269984665640564039457584007913129639936) : addN a b < 115792089237316195423570985008687907853269984665640564039457584007913129639936 := raiseN_lt (by omega) (by omega)
theorem addN_mod {a b : Nat} (ha : a < 115792089237316195423570985008687907853269984665640564039457584007913129639936) (hb : b < 115792089237316195423570985008687907853269984665640564039457584007913129639936) : addN a b % 57896044618658097711785492504343953926634992332820282019728792003956564819949 = (a + b) % 57896044618658097711785492504343953926634992332820282019728792003956564819949 := by
  unfold addN; rw [raiseN_mod (by omega) (by omega)]; omega

theorem less_b (w : World) (n : Nat) (hn : n < 115792089237316195423570985008687907853269984665640564039457584007913129639936) : Spec Try.prog 43 #[.agg (el n).toArray] w (σ := Unit) (fun _ => True) (fun _ => .agg (el (lessN n)).toArray) Nob (fun _ => []) := by
  obtain ⟨a, b, c, d, hl⟩ := el4 n
  have hnum := el_numL hn
  rw [hl] at hnum
  have he : el n = qs [a, b, c, d] := by rw [el, hl]
  rw [he]
  refine enter Try.func43 rfl rfl (Mem.start w) ?_
  have s0 := sb_eq a 18446744073709551597#64 0#64 (by decide)
  (repeat refine g_seq ?_)
  refine g_region ?_
  refine g_lo [1] rfl rfl rfl rfl (lo_box rfl rfl) (fun b1 hb1 => ?_)
  refine g_lo [2] rfl rfl rfl rfl (lo_alloc rfl) (fun b2 hb2 => ?_)
  refine g_nil ?_
  (repeat refine g_seq ?_)
  refine g_region ?_
  refine g_lo [3] rfl rfl rfl rfl (lo_alloc rfl) (fun b3 hb3 => ?_)
  refine g_nil ?_
  (repeat refine g_seq ?_)
  refine g_region ?_
  refine g_pu rfl rfl rfl (pu_assign (v := b64 0#64) rfl rfl) ?_
  refine g_nil ?_
  (repeat refine g_seq ?_)
  refine g_region ?_
  refine g_pu rfl rfl rfl (pu_atA1 0 rfl rfl rfl rfl (by omega)) ?_
  refine g_pu rfl rfl rfl (pu_load 1 (v := b64 a) rfl rfl rfl rfl) ?_
  refine g_pu rfl rfl rfl (pu_sb (b := 18446744073709551597#64) (c := 0#64) rfl rfl rfl rfl (by decide)) ?_
  refine g_pu rfl rfl rfl (pu_move rfl rfl) ?_
  refine g_pu rfl rfl rfl (pu_extract rfl rfl rfl) ?_
  refine g_pu rfl rfl rfl (pu_extract rfl rfl rfl) ?_
  refine g_pu rfl rfl rfl (pu_atA1 0 rfl rfl rfl rfl (by omega)) ?_
  refine g_store 3 rfl rfl rfl rfl rfl rfl rfl (by simp) ?_
  refine g_pu rfl rfl rfl (pu_assign rfl rfl) ?_
  refine g_nil ?_
  generalize sbS a 18446744073709551597#64 0#64 = x0 at s0
  generalize sbC a 18446744073709551597#64 0#64 = c0 at s0
  have s1 := sb_eq b 18446744073709551615#64 c0 s0.2
  (repeat refine g_seq ?_)
  refine g_region ?_
  refine g_pu rfl rfl rfl (pu_atA1 1 rfl rfl rfl rfl (by omega)) ?_
  refine g_pu rfl rfl rfl (pu_load 1 (v := b64 b) rfl rfl rfl rfl) ?_
  refine g_pu rfl rfl rfl (pu_move rfl rfl) ?_
  refine g_pu rfl rfl rfl (pu_sb (b := 18446744073709551615#64) (c := c0) rfl rfl rfl rfl s0.2) ?_
  refine g_pu rfl rfl rfl (pu_move rfl rfl) ?_
  refine g_pu rfl rfl rfl (pu_extract rfl rfl rfl) ?_
  refine g_pu rfl rfl rfl (pu_extract rfl rfl rfl) ?_
  refine g_pu rfl rfl rfl (pu_atA1 1 rfl rfl rfl rfl (by omega)) ?_
  refine g_store 3 rfl rfl rfl rfl rfl rfl rfl (by simp) ?_
  refine g_pu rfl rfl rfl (pu_assign rfl rfl) ?_
  refine g_nil ?_
  generalize sbS b 18446744073709551615#64 c0 = x1 at s1
  generalize sbC b 18446744073709551615#64 c0 = c1 at s1
  have s2 := sb_eq c 18446744073709551615#64 c1 s1.2
  (repeat refine g_seq ?_)
  refine g_region ?_
  refine g_pu rfl rfl rfl (pu_atA1 2 rfl rfl rfl rfl (by omega)) ?_
  refine g_pu rfl rfl rfl (pu_load 1 (v := b64 c) rfl rfl rfl rfl) ?_
  refine g_pu rfl rfl rfl (pu_move rfl rfl) ?_
  refine g_pu rfl rfl rfl (pu_sb (b := 18446744073709551615#64) (c := c1) rfl rfl rfl rfl s1.2) ?_
  refine g_pu rfl rfl rfl (pu_move rfl rfl) ?_
  refine g_pu rfl rfl rfl (pu_extract rfl rfl rfl) ?_
  refine g_pu rfl rfl rfl (pu_extract rfl rfl rfl) ?_
  refine g_pu rfl rfl rfl (pu_atA1 2 rfl rfl rfl rfl (by omega)) ?_
  refine g_store 3 rfl rfl rfl rfl rfl rfl rfl (by simp) ?_
  refine g_pu rfl rfl rfl (pu_assign rfl rfl) ?_
  refine g_nil ?_
  generalize sbS c 18446744073709551615#64 c1 = x2 at s2
  generalize sbC c 18446744073709551615#64 c1 = c2 at s2
  have s3 := sb_eq d 9223372036854775807#64 c2 s2.2
  (repeat refine g_seq ?_)
  refine g_region ?_
  refine g_pu rfl rfl rfl (pu_atA1 3 rfl rfl rfl rfl (by omega)) ?_
  refine g_pu rfl rfl rfl (pu_load 1 (v := b64 d) rfl rfl rfl rfl) ?_
  refine g_pu rfl rfl rfl (pu_move rfl rfl) ?_
  refine g_pu rfl rfl rfl (pu_sb (b := 9223372036854775807#64) (c := c2) rfl rfl rfl rfl s2.2) ?_
  refine g_pu rfl rfl rfl (pu_move rfl rfl) ?_
  refine g_pu rfl rfl rfl (pu_extract rfl rfl rfl) ?_
  refine g_pu rfl rfl rfl (pu_extract rfl rfl rfl) ?_
  refine g_pu rfl rfl rfl (pu_atA1 3 rfl rfl rfl rfl (by omega)) ?_
  refine g_store 3 rfl rfl rfl rfl rfl rfl rfl (by simp) ?_
  refine g_pu rfl rfl rfl (pu_assign rfl rfl) ?_
  refine g_nil ?_
  generalize sbS d 9223372036854775807#64 c2 = x3 at s3
  generalize sbC d 9223372036854775807#64 c2 = c3 at s3
  have hx := numL4_lt (l := [x0, x1, x2, x3]) rfl
  simp only [numL] at hnum hx
  rw [show (18446744073709551597#64).toNat = 18446744073709551597 from rfl, show (0#64).toNat = 0 from rfl] at s0
  rw [show (18446744073709551615#64).toNat = 18446744073709551615 from rfl] at s1 s2
  rw [show (9223372036854775807#64).toNat = 9223372036854775807 from rfl] at s3
  by_cases h3 : c3 = 0#64
  · subst h3
    rw [show (0#64).toNat = 0 from rfl] at s3
    have hL : el (lessN n) = qs [x0, x1, x2, x3] := by
      rw [el_of rfl]
      congr 1
      simp only [numL]
      unfold lessN
      split <;> omega
    rw [hL]
    (repeat refine g_seq ?_)
    refine g_region ?_
    refine g_pu rfl rfl rfl (pu_move rfl rfl) ?_
    first | refine g_pu rfl rfl rfl (pu_neq64_t (b := 0#64) rfl rfl rfl (by first | assumption | decide)) ?_ | refine g_pu rfl rfl rfl (pu_neq64_f (b := 0#64) rfl rfl rfl (by first | rfl | assumption | decide)) ?_ | refine g_pu rfl rfl rfl (pu_neq64 (b := 0#64) rfl rfl rfl) ?_
    refine g_nil ?_
    (repeat refine g_seq ?_)
    refine g_cond_f rfl (g_skip ?_)
    (repeat refine g_seq ?_)
    refine g_region ?_
    refine g_pu rfl rfl rfl (pu_loadW 3 (L := qs [x0, x1, x2, x3]) rfl rfl rfl rfl) ?_
    refine g_storeL 2 (s := 4) (C := qs [x0, x1, x2, x3]) rfl rfl rfl rfl rfl rfl rfl rfl (oneCell_qs _) ?_
    refine g_nil ?_
    exact g_retL 2 (L := qs [x0, x1, x2, x3]) rfl rfl rfl rfl (fun w' hm => ⟨(), trivial, rfl, hm.grows [] trivial rfl⟩)
  · have h4 : c3.toNat ≠ 0 := fun h => h3 (BitVec.eq_of_toNat_eq h)
    have hL : lessN n = n := by unfold lessN; rw [if_pos (by omega)]
    rw [hL, he]
    (repeat refine g_seq ?_)
    refine g_region ?_
    refine g_pu rfl rfl rfl (pu_move rfl rfl) ?_
    first | refine g_pu rfl rfl rfl (pu_neq64_t (b := 0#64) rfl rfl rfl (by first | assumption | decide)) ?_ | refine g_pu rfl rfl rfl (pu_neq64_f (b := 0#64) rfl rfl rfl (by first | rfl | assumption | decide)) ?_ | refine g_pu rfl rfl rfl (pu_neq64 (b := 0#64) rfl rfl rfl) ?_
    refine g_nil ?_
    (repeat refine g_seq ?_)
    refine g_cond_t rfl ?_
    (repeat refine g_seq ?_)
    refine g_region ?_
    refine g_pu rfl rfl rfl (pu_loadW 1 (L := qs [a, b, c, d]) rfl rfl rfl rfl) ?_
    refine g_storeL 2 (s := 4) (C := qs [a, b, c, d]) rfl rfl rfl rfl rfl rfl rfl rfl (oneCell_qs _) ?_
    refine g_nil ?_
    exact g_retL 2 (L := qs [a, b, c, d]) rfl rfl rfl rfl (fun w' hm => ⟨(), trivial, rfl, hm.grows [] trivial rfl⟩)

theorem Norm_b (w : World) (n : Nat) (hn : n < 115792089237316195423570985008687907853269984665640564039457584007913129639936) : Spec Try.prog 25 #[.agg (el n).toArray] w (σ := Unit) (fun _ => True) (fun _ => .agg (el (n % 57896044618658097711785492504343953926634992332820282019728792003956564819949)).toArray) Nob (fun _ => []) := by
  refine enter Try.func25 rfl rfl (Mem.start w) ?_
  rw [← less_less hn]
  have h0 := el_length (lessN (lessN n))
  (repeat refine g_seq ?_)
  refine g_region ?_
  refine g_lo [1] rfl rfl rfl rfl (lo_box rfl rfl) (fun b1 hb1 => ?_)
  refine g_lo [2] rfl rfl rfl rfl (lo_alloc rfl) (fun b2 hb2 => ?_)
  refine g_nil ?_
  (repeat refine g_seq ?_)
  refine g_region ?_
  refine g_pu rfl rfl rfl (pu_loadW 1 (L := el n) rfl rfl rfl rfl) ?_
  refine g_call [] rfl rfl rfl rfl rfl rfl (fun w' hm => less_b w' n hn) (fun _ _ => ?_)
  refine g_call [] rfl rfl rfl rfl rfl rfl (fun w' hm => less_b w' _ (lessN_lt hn)) (fun _ _ => ?_)
  refine g_storeL 2 (s := 4) (C := el (lessN (lessN n))) rfl rfl rfl rfl rfl rfl rfl rfl (oneCell_el _) ?_
  refine g_nil ?_
  exact g_retL 2 (L := el (lessN (lessN n))) rfl rfl rfl rfl (fun w' hm => ⟨(), trivial, rfl, hm.grows [] trivial rfl⟩)

theorem Of_b (w : World) (n : BitVec 64) : Spec Try.prog 13 #[b64 n] w (σ := Unit) (fun _ => True) (fun _ => .agg (el n.toNat).toArray) Nob (fun _ => []) := by
  have hl : el n.toNat = qs [n, 0#64, 0#64, 0#64] := by
    rw [el_of rfl]
    simp [numL]
  rw [hl]
  refine enter Try.func13 rfl rfl (Mem.start w) ?_
  (repeat refine g_seq ?_)
  refine g_region ?_
  refine g_lo [2] rfl rfl rfl rfl (lo_alloc rfl) (fun b2 hb2 => ?_)
  refine g_nil ?_
  (repeat refine g_seq ?_)
  refine g_region ?_
  refine g_pu rfl rfl rfl (pu_move rfl rfl) ?_
  refine g_pu rfl rfl rfl (pu_buildA' (cs := qs [n, 0#64, 0#64, 0#64]) rfl rfl rfl) ?_
  refine g_storeL 2 (s := 4) (C := qs [n, 0#64, 0#64, 0#64]) rfl rfl rfl rfl rfl rfl rfl rfl (oneCell_qs _) ?_
  refine g_nil ?_
  exact g_retL 2 (L := qs [n, 0#64, 0#64, 0#64]) rfl rfl rfl rfl (fun w' hm => ⟨(), trivial, rfl, hm.grows [] trivial rfl⟩)

theorem raise_b (w : World) (n : Nat) (x : BitVec 64) (hn : n < 115792089237316195423570985008687907853269984665640564039457584007913129639936) : Spec Try.prog 51 #[.agg (el n).toArray, b64 x] w (σ := Unit) (fun _ => True) (fun _ => .agg (el (raiseN n x.toNat)).toArray) Nob (fun _ => []) := by
  refine enter Try.func51 rfl rfl (Mem.start w) ?_
  (repeat refine g_seq ?_)
  refine g_region ?_
  refine g_lo [2] rfl rfl rfl rfl (lo_box rfl rfl) (fun b2 hb2 => ?_)
  refine g_lo [4] rfl rfl rfl rfl (lo_alloc rfl) (fun b4 hb4 => ?_)
  refine g_nil ?_
  (repeat refine g_seq ?_)
  refine g_block (g_loop2 (fun (l : List (BitVec 64)) (y : BitVec 64) => [(1, b64 y), (2, .pointer (some ⟨b2, 0, none⟩)), (4, .pointer (some ⟨b4, 0, none⟩))]) (fun l y => [(2, .pt b2 (.cells (qs l).toArray 28 (0, 0))), (4, .pt b4 (.cells (qs [0#64, 0#64, 0#64, 0#64]).toArray 28 (0, 0)))])
    (fun l y => l.length = 4 ∧ raiseN (numL l) y.toNat = raiseN n x.toNat) (fun l y => if y.toNat = 0 then 0 else if numL l + y.toNat < 115792089237316195423570985008687907853269984665640564039457584007913129639936 then 1 else 2) (limbs 4 n) x ⟨rfl, rfl, rfl, trivial⟩ ⟨rfl, rfl, trivial⟩ ⟨rfl, by rw [el_numL hn]⟩ ?_)
  intro l y ⟨hl, hr⟩
  have hlt := numL4_lt hl
  by_cases hy : y = 0#64
  · subst hy
    (repeat refine g_seq ?_)
    refine g_region ?_
    refine g_pu rfl rfl rfl (pu_move rfl rfl) ?_
    first | refine g_pu rfl rfl rfl (pu_neq64_t (b := 0#64) rfl rfl rfl (by first | assumption | decide)) ?_ | refine g_pu rfl rfl rfl (pu_neq64_f (b := 0#64) rfl rfl rfl (by first | rfl | assumption | decide)) ?_ | refine g_pu rfl rfl rfl (pu_neq64 (b := 0#64) rfl rfl rfl) ?_
    refine g_nil ?_
    (repeat refine g_seq ?_)
    refine g_cond_f rfl (g_exit rfl ?_)
    have hv : raiseN n x.toNat = numL l := by
      rw [← hr]; unfold raiseN
      rw [show (0#64).toNat = 0 from rfl, if_pos (by omega)]; rfl
    rw [hv, ← el_of hl]
    have hql : (qs l).length = 4 := by rw [qs_length, hl]
    (repeat refine g_seq ?_)
    refine g_region ?_
    refine g_pu rfl rfl rfl (pu_loadW 2 (L := qs l) rfl rfl rfl hql) ?_
    refine g_storeL 4 (s := 4) (C := qs l) rfl rfl rfl rfl rfl rfl hql rfl (oneCell_qs _) ?_
    refine g_nil ?_
    exact g_retL 4 (L := qs l) rfl hql rfl rfl (fun w' hm => ⟨(), trivial, rfl, hm.grows [] trivial rfl⟩)
  · have hy0 : y.toNat ≠ 0 := fun h => hy (BitVec.eq_of_toNat_eq h)
    (repeat refine g_seq ?_)
    refine g_region ?_
    refine g_pu rfl rfl rfl (pu_move rfl rfl) ?_
    first | refine g_pu rfl rfl rfl (pu_neq64_t (b := 0#64) rfl rfl rfl (by first | assumption | decide)) ?_ | refine g_pu rfl rfl rfl (pu_neq64_f (b := 0#64) rfl rfl rfl (by first | rfl | assumption | decide)) ?_ | refine g_pu rfl rfl rfl (pu_neq64 (b := 0#64) rfl rfl rfl) ?_
    refine g_nil ?_
    (repeat refine g_seq ?_)
    refine g_cond_t rfl (g_skip ?_)
    (repeat refine g_seq ?_); refine g_block ?_
    (repeat refine g_seq ?_)
    refine g_region ?_
    refine g_pu rfl rfl rfl (pu_assign (v := b64 0#64) rfl rfl) ?_
    refine g_nil ?_
    have g0 := getDq (l := l) (i := 0) (by omega)
    have a0 := ad_eq (l.getD 0 0#64) y 0#64 (by decide)
    have n0 := numL_set l 0 (adS (l.getD 0 0#64) y 0#64) (by omega)
    (repeat refine g_seq ?_)
    refine g_region ?_
    refine g_pu rfl rfl rfl (pu_atA1 0 rfl rfl rfl rfl (by omega)) ?_
    refine g_pu rfl rfl rfl (pu_load 2 (v := b64 (l.getD 0 0#64)) rfl rfl rfl (qs_load g0)) ?_
    refine g_pu rfl rfl rfl (pu_move rfl rfl) ?_
    refine g_pu rfl rfl rfl (pu_ad (c := 0#64) rfl rfl rfl rfl (by decide)) ?_
    refine g_pu rfl rfl rfl (pu_move rfl rfl) ?_
    refine g_pu rfl rfl rfl (pu_extract rfl rfl rfl) ?_
    refine g_pu rfl rfl rfl (pu_extract rfl rfl rfl) ?_
    refine g_pu rfl rfl rfl (pu_atA1 0 rfl rfl rfl rfl (by omega)) ?_
    refine g_store 2 (v := b64 (adS (l.getD 0 0#64) y 0#64)) rfl rfl rfl rfl rfl rfl rfl (by rw [qs_length]; omega) ?_
    rw [qs_set]
    refine g_pu rfl rfl rfl (pu_assign rfl rfl) ?_
    refine g_nil ?_
    (repeat refine g_seq ?_)
    refine g_region ?_
    refine g_pu rfl rfl rfl (pu_assign rfl rfl) ?_
    refine g_nil ?_
    generalize hl1 : l.set 0 (adS (l.getD 0 0#64) y 0#64) = l1 at n0
    generalize adS (l.getD 0 0#64) y 0#64 = x0 at *
    generalize adC (l.getD 0 0#64) y 0#64 = c0 at *
    have hl1l : l1.length = 4 := by rw [← hl1, List.length_set, hl]
    (repeat refine g_seq ?_)
    refine g_block (g_loop3 (fun (i : Nat) (m : List (BitVec 64)) (c : BitVec 64) => [(2, .pointer (some ⟨b2, 0, none⟩)), (4, .pointer (some ⟨b4, 0, none⟩)), (5, b64 c), (6, .int .i64 (i : Int))]) (fun i m c => [(2, .pt b2 (.cells (qs m).toArray 28 (0, 0))), (4, .pt b4 (.cells (qs [0#64, 0#64, 0#64, 0#64]).toArray 28 (0, 0)))])
      (fun i m c => 1 ≤ i ∧ i ≤ 4 ∧ m.length = 4 ∧ c.toNat ≤ 1 ∧ numL m + 18446744073709551616 ^ i * c.toNat = numL l + y.toNat) (fun i m c => 4 - i) 1 l1 c0 ⟨rfl, rfl, rfl, rfl, trivial⟩ ⟨rfl, rfl, trivial⟩ ⟨by omega, by omega, hl1l, a0.2, by
        rw [Nat.pow_one]
        have e0 : (0#64).toNat = 0 := rfl
        rw [e0] at a0
        simp only [Nat.pow_zero, Nat.one_mul] at n0
        omega⟩ ?_)
    intro i m c ⟨h1, hi, hm4, hc, hv⟩
    by_cases hi4 : i < 4
    · (repeat refine g_seq ?_)
      refine g_region ?_
      refine g_pu rfl rfl rfl (pu_move rfl rfl) ?_
      first | refine g_pu rfl rfl rfl (pu_lss_t rfl rfl rfl (by omega)) ?_ | refine g_pu rfl rfl rfl (pu_lss_f rfl rfl rfl (by omega)) ?_ | refine g_pu rfl rfl rfl (pu_lss rfl rfl rfl) ?_
      refine g_nil ?_
      (repeat refine g_seq ?_)
      refine g_cond_t rfl (g_skip ?_)
      have gi := getDq (l := m) (i := i) (by omega)
      have ai := ad_eq (m.getD i 0#64) 0#64 c hc
      have ni := numL_set m i (adS (m.getD i 0#64) 0#64 c) (by omega)
      have st := cstep ni ai.1
      (repeat refine g_seq ?_); refine g_block ?_
      (repeat refine g_seq ?_)
      refine g_region ?_
      refine g_pu rfl rfl rfl (pu_move rfl rfl) ?_
      refine g_pu rfl rfl rfl (pu_move rfl rfl) ?_
      refine g_pu rfl rfl rfl (pu_atA1 i rfl rfl rfl rfl (by omega)) ?_
      refine g_pu rfl rfl rfl (pu_load 2 (v := b64 (m.getD i 0#64)) rfl rfl rfl (qs_load gi)) ?_
      refine g_pu rfl rfl rfl (pu_move rfl rfl) ?_
      refine g_pu rfl rfl rfl (pu_ad (b := 0#64) rfl rfl rfl rfl hc) ?_
      refine g_pu rfl rfl rfl (pu_move rfl rfl) ?_
      refine g_pu rfl rfl rfl (pu_extract rfl rfl rfl) ?_
      refine g_pu rfl rfl rfl (pu_extract rfl rfl rfl) ?_
      refine g_pu rfl rfl rfl (pu_atA1 i rfl rfl rfl rfl (by omega)) ?_
      refine g_store 2 (v := b64 (adS (m.getD i 0#64) 0#64 c)) rfl rfl rfl rfl rfl rfl rfl (by rw [qs_length]; omega) ?_
      rw [qs_set]
      refine g_pu rfl rfl rfl (pu_assign rfl rfl) ?_
      refine g_nil ?_
      refine g_blk ?_
      (repeat refine g_seq ?_)
      refine g_region ?_
      refine g_pu rfl rfl rfl (pu_move rfl rfl) ?_
      refine g_pu rfl rfl rfl (pu_addI rfl rfl rfl (by omega)) ?_
      refine g_pu rfl rfl rfl (pu_assign rfl rfl) ?_
      refine g_nil ?_
      refine g_round3 (i + 1) (m.set i (adS (m.getD i 0#64) 0#64 c)) (adC (m.getD i 0#64) 0#64 c) ⟨by omega, by omega, by rw [List.length_set, hm4], ai.2, ?_⟩ (by omega) ⟨rfl, rfl, rfl, rfl, trivial⟩ ⟨rfl, rfl, trivial⟩
      rw [Nat.pow_succ]
      rw [show (0#64).toNat = 0 from rfl, Nat.mul_zero] at st
      omega
    · (repeat refine g_seq ?_)
      refine g_region ?_
      refine g_pu rfl rfl rfl (pu_move rfl rfl) ?_
      first | refine g_pu rfl rfl rfl (pu_lss_t rfl rfl rfl (by omega)) ?_ | refine g_pu rfl rfl rfl (pu_lss_f rfl rfl rfl (by omega)) ?_ | refine g_pu rfl rfl rfl (pu_lss rfl rfl rfl) ?_
      refine g_nil ?_
      (repeat refine g_seq ?_)
      refine g_cond_f rfl (g_exit rfl ?_)
      have e1 : i = 4 := by omega
      subst e1
      have hmlt := numL4_lt hm4
      have hylt := y.isLt
      rw [show 18446744073709551616 ^ 4 = 115792089237316195423570985008687907853269984665640564039457584007913129639936 from rfl] at hv
      (repeat refine g_seq ?_)
      refine g_region ?_
      refine g_pu rfl rfl rfl (pu_move rfl rfl) ?_
      refine g_pu rfl rfl rfl (pu_mul64 (b := 38#64) rfl rfl rfl) ?_
      refine g_pu rfl rfl rfl (pu_assign rfl rfl) ?_
      refine g_nil ?_
      refine g_blk ?_
      have h38 : (c * 38#64).toNat = c.toNat * 38 := by
        rw [BitVec.toNat_mul, show (38#64).toNat = 38 from rfl]; omega
      refine g_round2 m (c * 38#64) ⟨hm4, ?_⟩ ?_ ⟨rfl, rfl, rfl, trivial⟩ ⟨rfl, rfl, trivial⟩
      · rw [← hr, h38]
        unfold raiseN
        split <;> split <;> omega
      · rw [h38]
        split <;> split <;> (try split) <;> omega

theorem addE_b (w : World) (a b : Nat) (ha : a < 115792089237316195423570985008687907853269984665640564039457584007913129639936) (hb : b < 115792089237316195423570985008687907853269984665640564039457584007913129639936) : Spec Try.prog 44 #[.agg (el a).toArray, .agg (el b).toArray] w (σ := Unit) (fun _ => True) (fun _ => .agg (el (addN a b)).toArray) Nob (fun _ => []) := by
  refine enter Try.func44 rfl rfl (Mem.start w) ?_
  have hb4 : (limbs 4 b).length = 4 := rfl
  have hbn := el_numL hb
  (repeat refine g_seq ?_)
  refine g_region ?_
  refine g_lo [2] rfl rfl rfl rfl (lo_box rfl rfl) (fun b2 hb2 => ?_)
  refine g_lo [3] rfl rfl rfl rfl (lo_box rfl rfl) (fun b3 hb3 => ?_)
  refine g_lo [4] rfl rfl rfl rfl (lo_alloc rfl) (fun b4 hb4 => ?_)
  refine g_nil ?_
  (repeat refine g_seq ?_)
  refine g_region ?_
  refine g_pu rfl rfl rfl (pu_assign (v := b64 0#64) rfl rfl) ?_
  refine g_nil ?_
  (repeat refine g_seq ?_)
  refine g_region ?_
  refine g_pu rfl rfl rfl (pu_move rfl rfl) ?_
  refine g_nil ?_
  (repeat refine g_seq ?_)
  refine g_block (g_loop3 (fun (i : Nat) (m : List (BitVec 64)) (c : BitVec 64) => [(2, .pointer (some ⟨b2, 0, none⟩)), (3, .pointer (some ⟨b3, 0, none⟩)), (4, .pointer (some ⟨b4, 0, none⟩)), (5, b64 c), (7, .int .i64 (i : Int))]) (fun i m c => [(2, .pt b2 (.cells (qs m).toArray 28 (0, 0))), (3, .pt b3 (.cells (el b).toArray 28 (0, 0))), (4, .pt b4 (.cells (qs [0#64, 0#64, 0#64, 0#64]).toArray 28 (0, 0)))])
    (fun i m c => i ≤ 4 ∧ m.length = 4 ∧ c.toNat ≤ 1 ∧ numL m + 18446744073709551616 ^ i * c.toNat = a + numL ((limbs 4 b).take i)) (fun i m c => 4 - i) 0 (limbs 4 a) 0#64 ⟨rfl, rfl, rfl, rfl, rfl, trivial⟩ ⟨rfl, rfl, rfl, trivial⟩ ⟨by omega, rfl, by decide, by rw [el_numL ha]; rfl⟩ ?_)
  intro i m c ⟨hi, hm4, hc, hv⟩
  by_cases hi4 : i < 4
  · (repeat refine g_seq ?_)
    refine g_region ?_
    first | refine g_pu rfl rfl rfl (pu_lss_t rfl rfl rfl (by omega)) ?_ | refine g_pu rfl rfl rfl (pu_lss_f rfl rfl rfl (by omega)) ?_ | refine g_pu rfl rfl rfl (pu_lss rfl rfl rfl) ?_
    refine g_nil ?_
    (repeat refine g_seq ?_)
    refine g_cond_t rfl (g_skip ?_)
    have gi := getDq (l := m) (i := i) (by omega)
    have gb := getDq (l := limbs 4 b) (i := i) (by omega)
    have ai := ad_eq (m.getD i 0#64) ((limbs 4 b).getD i 0#64) c hc
    have ni := numL_set m i (adS (m.getD i 0#64) ((limbs 4 b).getD i 0#64) c) (by omega)
    have st := cstep ni ai.1
    have nb := numL_take (limbs 4 b) i (by omega)
    (repeat refine g_seq ?_); refine g_block ?_
    (repeat refine g_seq ?_)
    refine g_region ?_
    refine g_pu rfl rfl rfl (pu_move rfl rfl) ?_
    refine g_pu rfl rfl rfl (pu_assign rfl rfl) ?_
    refine g_nil ?_
    (repeat refine g_seq ?_)
    refine g_any (13, [11]) ?_
    refine a_pu 0 rfl rfl rfl rfl (pu_move rfl rfl) rfl rfl (by kernel_rfl) ?_
    refine a_pu 1 rfl rfl rfl rfl (pu_move rfl rfl) rfl rfl (by kernel_rfl) ?_
    refine a_pu 2 rfl rfl rfl rfl (pu_atA1 i rfl rfl rfl rfl (by omega)) rfl rfl (by kernel_rfl) ?_
    refine a_pu 3 rfl rfl rfl rfl (pu_load 2 (v := b64 (m.getD i 0#64)) rfl rfl rfl (qs_load gi)) rfl rfl (by kernel_rfl) ?_
    refine a_pu 4 rfl rfl rfl rfl (pu_move rfl rfl) rfl rfl (by kernel_rfl) ?_
    refine a_pu 5 rfl rfl rfl rfl (pu_atA1 i rfl rfl rfl rfl (by omega)) rfl rfl (by kernel_rfl) ?_
    refine a_pu 6 rfl rfl rfl rfl (pu_load 3 (v := b64 ((limbs 4 b).getD i 0#64)) rfl rfl rfl (qs_load gb)) rfl rfl (by kernel_rfl) ?_
    refine a_pu 7 rfl rfl rfl rfl (pu_move rfl rfl) rfl rfl (by kernel_rfl) ?_
    refine a_pu 8 rfl rfl rfl rfl (pu_ad rfl rfl rfl rfl hc) rfl rfl (by kernel_rfl) ?_
    refine a_pu 9 rfl rfl rfl rfl (pu_move rfl rfl) rfl rfl (by kernel_rfl) ?_
    refine a_pu 10 rfl rfl rfl rfl (pu_extract rfl rfl rfl) rfl rfl (by kernel_rfl) ?_
    first | refine a_mv 11 rfl rfl rfl rfl (fun _ => (pu_extract rfl rfl rfl)) rfl rfl rfl (by kernel_rfl) (by kernel_rfl) (by kernel_rfl) rfl ?_
    refine a_pu 12 rfl rfl rfl rfl (pu_atA1 i rfl rfl rfl rfl (by omega)) rfl rfl (by kernel_rfl) ?_
    refine a_tail [13, 14] (by kernel_rfl) rfl rfl (by kernel_rfl) ?_
    refine g_store 2 (v := b64 (adS (m.getD i 0#64) ((limbs 4 b).getD i 0#64) c)) rfl rfl rfl rfl rfl rfl rfl (by rw [qs_length]; omega) ?_
    rw [qs_set]
    refine g_pu rfl rfl rfl (pu_assign rfl rfl) ?_
    refine g_nil ?_
    refine g_blk ?_
    (repeat refine g_seq ?_)
    refine g_region ?_
    refine g_pu rfl rfl rfl (pu_addI rfl rfl rfl (by omega)) ?_
    refine g_pu rfl rfl rfl (pu_move rfl rfl) ?_
    refine g_nil ?_
    refine g_round3 (i + 1) (m.set i (adS (m.getD i 0#64) ((limbs 4 b).getD i 0#64) c)) (adC (m.getD i 0#64) ((limbs 4 b).getD i 0#64) c) ⟨by omega, by rw [List.length_set, hm4], ai.2, ?_⟩ (by omega) ⟨rfl, rfl, rfl, rfl, rfl, trivial⟩ ⟨rfl, rfl, rfl, trivial⟩
    rw [Nat.pow_succ, nb]
    omega
  · (repeat refine g_seq ?_)
    refine g_region ?_
    first | refine g_pu rfl rfl rfl (pu_lss_t rfl rfl rfl (by omega)) ?_ | refine g_pu rfl rfl rfl (pu_lss_f rfl rfl rfl (by omega)) ?_ | refine g_pu rfl rfl rfl (pu_lss rfl rfl rfl) ?_
    refine g_nil ?_
    (repeat refine g_seq ?_)
    refine g_cond_f rfl (g_exit rfl ?_)
    have e1 : i = 4 := by omega
    subst e1
    rw [List.take_of_length_le (by omega), hbn, show 18446744073709551616 ^ 4 = 115792089237316195423570985008687907853269984665640564039457584007913129639936 from rfl] at hv
    have hmlt := numL4_lt hm4
    have h38 : (c * 38#64).toNat = c.toNat * 38 := by
      rw [BitVec.toNat_mul, show (38#64).toNat = 38 from rfl]; omega
    have hR : addN a b = raiseN (numL m) (c * 38#64).toNat := by
      unfold addN
      rw [h38, show (a + b) % 115792089237316195423570985008687907853269984665640564039457584007913129639936 = numL m by omega, show (a + b) / 115792089237316195423570985008687907853269984665640564039457584007913129639936 = c.toNat by omega, Nat.mul_comm]
    rw [hR]
    (repeat refine g_seq ?_)
    refine g_region ?_
    refine g_pu rfl rfl rfl (pu_loadW 2 (L := el (numL m)) rfl rfl (by rw [← el_of hm4]; rfl) rfl) ?_
    refine g_pu rfl rfl rfl (pu_move rfl rfl) ?_
    refine g_pu rfl rfl rfl (pu_mul64 (b := 38#64) rfl rfl rfl) ?_
    refine g_call [] rfl rfl rfl rfl rfl rfl (fun w' hm => raise_b w' (numL m) (c * 38#64) hmlt) (fun _ _ => ?_)
    refine g_storeL 4 (s := 4) (C := el (raiseN (numL m) (c * 38#64).toNat)) rfl rfl rfl rfl rfl rfl rfl rfl (oneCell_el _) ?_
    refine g_nil ?_
    exact g_retL 4 (L := el (raiseN (numL m) (c * 38#64).toNat)) rfl rfl rfl rfl (fun w' hm => ⟨(), trivial, rfl, hm.grows [] trivial rfl⟩)
end Go.Sx
