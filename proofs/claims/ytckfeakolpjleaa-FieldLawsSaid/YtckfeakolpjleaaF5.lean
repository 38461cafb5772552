/-
  The field's sums and products of lists, differences, equality. The numbers are below 2^256.
-/
import Derived.Test.YtckfeakolpjleaaF4
import Derived.Test.YtckfeakolpjleaaCRow
import Derived.Test.YtckfeakolpjleaaSxIdx
set_option linter.unusedVariables false
set_option linter.unusedSimpArgs false
namespace Go.Sx
open Go Go.Proofs

def sumN : List Nat → Nat
  | [] => 0
  | a :: r => a + sumN r
def prodN : List Nat → Nat
  | [] => 1
  | a :: r => a * prodN r
theorem sumN_append : ∀ (l m : List Nat), sumN (l ++ m) = sumN l + sumN m
  | [], m => by simp [sumN]
  | a :: r, m => by simp only [List.cons_append, sumN, sumN_append r m]; omega
theorem prodN_append : ∀ (l m : List Nat), prodN (l ++ m) = prodN l * prodN m
  | [], m => by simp [prodN]
  | a :: r, m => by simp only [List.cons_append, prodN, prodN_append r m, Nat.mul_assoc]
theorem sumN_take {l : List Nat} {i x : Nat} (h : l[i]? = some x) : sumN (l.take (i + 1)) = sumN (l.take i) + x := by
  rw [List.take_add_one, h, sumN_append]; simp [sumN]
theorem prodN_take {l : List Nat} {i x : Nat} (h : l[i]? = some x) : prodN (l.take (i + 1)) = prodN (l.take i) * x := by
  rw [List.take_add_one, h, prodN_append]; simp [prodN]
theorem mulmod {a b c d : Nat} (h : a % 57896044618658097711785492504343953926634992332820282019728792003956564819949 = b % 57896044618658097711785492504343953926634992332820282019728792003956564819949) (h' : c % 57896044618658097711785492504343953926634992332820282019728792003956564819949 = d % 57896044618658097711785492504343953926634992332820282019728792003956564819949) : (a * c) % 57896044618658097711785492504343953926634992332820282019728792003956564819949 = (b * d) % 57896044618658097711785492504343953926634992332820282019728792003956564819949 := by
  rw [Nat.mul_mod, h, h', ← Nat.mul_mod]
theorem powmod {a b : Nat} (h : a % 57896044618658097711785492504343953926634992332820282019728792003956564819949 = b % 57896044618658097711785492504343953926634992332820282019728792003956564819949) (n : Nat) : a ^ n % 57896044618658097711785492504343953926634992332820282019728792003956564819949 = b ^ n % 57896044618658097711785492504343953926634992332820282019728792003956564819949 := by
  rw [Nat.pow_mod, h, ← Nat.pow_mod]

def elsC (ns : List Nat) : List Value := rowsC el ns
theorem elsC_len (ns : List Nat) : (elsC ns).length = ns.length * 4 := rowsC_length (fun x _ => el_length x)

theorem Sum_b (w : World) {q : Option Addr} {m : Nat} (d : Nat) {ns : List Nat} (hq : RdV w q (elsC ns)) (hn : ns.length = m) (hlt : ∀ n ∈ ns, n < 115792089237316195423570985008687907853269984665640564039457584007913129639936) (hmb : m ≤ 4398046511104) :
    Spec Try.prog 28 #[.slice q m d] w (σ := Unit) (fun _ => True) (fun _ => .agg (el (sumN ns % 57896044618658097711785492504343953926634992332820282019728792003956564819949)).toArray) Nob (fun _ => []) := by
  refine enter Try.func28 rfl rfl (Mem.start w) ?_
  have hcl := elsC_len ns
  (repeat refine g_seq ?_)
  refine g_region ?_
  refine g_lo [2] rfl rfl rfl rfl (lo_alloc rfl) (fun b2 hb2 => ?_)
  refine g_nil ?_
  (repeat refine g_seq ?_)
  refine g_region ?_
  refine g_lo [3] rfl rfl rfl rfl (lo_alloc rfl) (fun b3 hb3 => ?_)
  refine g_nil ?_
  (repeat refine g_seq ?_)
  refine g_region ?_
  refine g_pu rfl rfl rfl (pu_move rfl rfl) ?_
  first | refine g_pu rfl rfl rfl (pu_len rfl rfl) ?_ | refine g_pu rfl rfl rfl (pu_lenS rfl rfl) ?_
  refine g_pu rfl rfl rfl (pu_move rfl rfl) ?_
  refine g_nil ?_
  (repeat refine g_seq ?_)
  refine g_block (g_loop2 (fun (i : Nat) (x : Nat) => [(2, .pointer (some ⟨b2, 0, none⟩)), (3, .pointer (some ⟨b3, 0, none⟩)), (6, .slice q m d), (7, .int .i64 (m : Int)), (8, .int .i64 (i : Int))]) (fun i x => [(2, .pt b2 (.cells (qs [0#64, 0#64, 0#64, 0#64]).toArray 28 (0, 0))), (3, .pt b3 (.cells (el x).toArray 28 (0, 0)))])
    (fun i x => i ≤ m ∧ x < 115792089237316195423570985008687907853269984665640564039457584007913129639936 ∧ x % 57896044618658097711785492504343953926634992332820282019728792003956564819949 = sumN (ns.take i) % 57896044618658097711785492504343953926634992332820282019728792003956564819949) (fun i _ => m - i) 0 0 ⟨rfl, rfl, rfl, rfl, rfl, trivial⟩ ⟨rfl, rfl, trivial⟩ ⟨by omega, by decide, rfl⟩ ?_)
  intro i x ⟨hi, hx, hv⟩
  by_cases him : i < m
  · (repeat refine g_seq ?_)
    refine g_region ?_
    first | refine g_pu rfl rfl rfl (pu_lss_t rfl rfl rfl (by omega)) ?_ | refine g_pu rfl rfl rfl (pu_lss_f rfl rfl rfl (by omega)) ?_ | refine g_pu rfl rfl rfl (pu_lss rfl rfl rfl) ?_
    refine g_nil ?_
    (repeat refine g_seq ?_)
    refine g_cond_t rfl (g_skip ?_)
    have h1 : ns[i]? = some ns[i] := List.getElem?_eq_getElem (by omega)
    have hy := hlt ns[i] (List.getElem_mem (by omega))
    generalize ns[i] = y at h1 hy
    have hg : ((elsC ns).drop (i * 4)).take 4 = el y := rowsC_get (fun x _ => el_length x) h1
    have hs := sumN_take h1
    (repeat refine g_seq ?_); refine g_block ?_
    (repeat refine g_seq ?_)
    refine g_region ?_
    refine g_pu rfl rfl rfl (pu_atM i (s := 4) (L := elsC ns) (fun w' hm => hq.mem0 hm) rfl rfl rfl rfl him (by omega)) ?_
    refine g_pu rfl rfl rfl (pu_rdMA (L := elsC ns) (j := i * 4) (s := 4) (fun w' hm => hq.mem0 hm) rfl rfl (by omega) (by omega)) ?_
    rw [hg]
    refine g_lo [5] rfl rfl rfl rfl (lo_alloc rfl) (fun b5 hb5 => ?_)
    refine g_storeL 5 (s := 4) (C := el y) rfl rfl rfl rfl rfl rfl rfl rfl (oneCell_el _) ?_
    refine g_nil ?_
    (repeat refine g_seq ?_)
    refine g_region ?_
    refine g_pu rfl rfl rfl (pu_loadW 3 (L := el x) rfl rfl rfl rfl) ?_
    refine g_pu rfl rfl rfl (pu_loadW 5 (L := el y) rfl rfl rfl rfl) ?_
    refine g_call [] rfl rfl rfl rfl rfl rfl (fun w' hm => addE_b w' x y hx hy) (fun _ _ => ?_)
    refine g_storeL 3 (s := 4) (C := el (addN x y)) rfl rfl rfl rfl rfl rfl rfl rfl (oneCell_el _) ?_
    refine g_nil ?_
    refine g_blk ?_
    (repeat refine g_seq ?_)
    refine g_region ?_
    refine g_pu rfl rfl rfl (pu_addI rfl rfl rfl (by omega)) ?_
    refine g_pu rfl rfl rfl (pu_move rfl rfl) ?_
    refine g_nil ?_
    have hm := addN_mod hx hy
    exact g_round2 (i + 1) (addN x y) ⟨by omega, addN_lt hx hy, by omega⟩ (by omega) ⟨rfl, rfl, rfl, rfl, rfl, trivial⟩ ⟨rfl, rfl, trivial⟩
  · (repeat refine g_seq ?_)
    refine g_region ?_
    first | refine g_pu rfl rfl rfl (pu_lss_t rfl rfl rfl (by omega)) ?_ | refine g_pu rfl rfl rfl (pu_lss_f rfl rfl rfl (by omega)) ?_ | refine g_pu rfl rfl rfl (pu_lss rfl rfl rfl) ?_
    refine g_nil ?_
    (repeat refine g_seq ?_)
    refine g_cond_f rfl (g_exit rfl ?_)
    rw [List.take_of_length_le (by omega)] at hv
    rw [← hv]
    (repeat refine g_seq ?_)
    refine g_region ?_
    refine g_pu rfl rfl rfl (pu_loadW 3 (L := el x) rfl rfl rfl rfl) ?_
    refine g_call [] rfl rfl rfl rfl rfl rfl (fun w' hm => Norm_b w' x hx) (fun _ _ => ?_)
    refine g_storeL 2 (s := 4) (C := el (x % 57896044618658097711785492504343953926634992332820282019728792003956564819949)) rfl rfl rfl rfl rfl rfl rfl rfl (oneCell_el _) ?_
    refine g_nil ?_
    exact g_retL 2 (L := el (x % 57896044618658097711785492504343953926634992332820282019728792003956564819949)) rfl rfl rfl rfl (fun w' hm => ⟨(), trivial, rfl, hm.grows [] trivial rfl⟩)

theorem Product_b (w : World) {q : Option Addr} {m : Nat} (d : Nat) {ns : List Nat} (hq : RdV w q (elsC ns)) (hn : ns.length = m) (hlt : ∀ n ∈ ns, n < 115792089237316195423570985008687907853269984665640564039457584007913129639936) (hmb : m ≤ 4398046511104) :
    Spec Try.prog 18 #[.slice q m d] w (σ := Unit) (fun _ => True) (fun _ => .agg (el (prodN ns % 57896044618658097711785492504343953926634992332820282019728792003956564819949)).toArray) Nob (fun _ => []) := by
  refine enter Try.func18 rfl rfl (Mem.start w) ?_
  have hcl := elsC_len ns
  (repeat refine g_seq ?_)
  refine g_region ?_
  refine g_lo [2] rfl rfl rfl rfl (lo_alloc rfl) (fun b2 hb2 => ?_)
  refine g_nil ?_
  (repeat refine g_seq ?_)
  refine g_region ?_
  refine g_call [] rfl rfl rfl rfl rfl rfl (fun w' hm => Of_b w' 1#64) (fun _ _ => ?_)
  refine g_lo [3] rfl rfl rfl rfl (lo_alloc rfl) (fun b3 hb3 => ?_)
  refine g_storeL 3 (s := 4) (C := el 1) rfl rfl rfl rfl rfl rfl rfl rfl (oneCell_el _) ?_
  refine g_nil ?_
  (repeat refine g_seq ?_)
  refine g_region ?_
  refine g_pu rfl rfl rfl (pu_move rfl rfl) ?_
  first | refine g_pu rfl rfl rfl (pu_len rfl rfl) ?_ | refine g_pu rfl rfl rfl (pu_lenS rfl rfl) ?_
  refine g_pu rfl rfl rfl (pu_move rfl rfl) ?_
  refine g_nil ?_
  (repeat refine g_seq ?_)
  refine g_block (g_loop2 (fun (i : Nat) (x : Nat) => [(2, .pointer (some ⟨b2, 0, none⟩)), (3, .pointer (some ⟨b3, 0, none⟩)), (7, .slice q m d), (8, .int .i64 (m : Int)), (9, .int .i64 (i : Int))]) (fun i x => [(2, .pt b2 (.cells (qs [0#64, 0#64, 0#64, 0#64]).toArray 28 (0, 0))), (3, .pt b3 (.cells (el x).toArray 28 (0, 0)))])
    (fun i x => i ≤ m ∧ x < 115792089237316195423570985008687907853269984665640564039457584007913129639936 ∧ x % 57896044618658097711785492504343953926634992332820282019728792003956564819949 = prodN (ns.take i) % 57896044618658097711785492504343953926634992332820282019728792003956564819949) (fun i _ => m - i) 0 1 ⟨rfl, rfl, rfl, rfl, rfl, trivial⟩ ⟨rfl, rfl, trivial⟩ ⟨by omega, by decide, rfl⟩ ?_)
  intro i x ⟨hi, hx, hv⟩
  by_cases him : i < m
  · (repeat refine g_seq ?_)
    refine g_region ?_
    first | refine g_pu rfl rfl rfl (pu_lss_t rfl rfl rfl (by omega)) ?_ | refine g_pu rfl rfl rfl (pu_lss_f rfl rfl rfl (by omega)) ?_ | refine g_pu rfl rfl rfl (pu_lss rfl rfl rfl) ?_
    refine g_nil ?_
    (repeat refine g_seq ?_)
    refine g_cond_t rfl (g_skip ?_)
    have h1 : ns[i]? = some ns[i] := List.getElem?_eq_getElem (by omega)
    have hy := hlt ns[i] (List.getElem_mem (by omega))
    generalize ns[i] = y at h1 hy
    have hg : ((elsC ns).drop (i * 4)).take 4 = el y := rowsC_get (fun x _ => el_length x) h1
    have hs := prodN_take h1
    (repeat refine g_seq ?_); refine g_block ?_
    (repeat refine g_seq ?_)
    refine g_region ?_
    refine g_pu rfl rfl rfl (pu_atM i (s := 4) (L := elsC ns) (fun w' hm => hq.mem0 hm) rfl rfl rfl rfl him (by omega)) ?_
    refine g_pu rfl rfl rfl (pu_rdMA (L := elsC ns) (j := i * 4) (s := 4) (fun w' hm => hq.mem0 hm) rfl rfl (by omega) (by omega)) ?_
    rw [hg]
    refine g_lo [5] rfl rfl rfl rfl (lo_alloc rfl) (fun b5 hb5 => ?_)
    refine g_storeL 5 (s := 4) (C := el y) rfl rfl rfl rfl rfl rfl rfl rfl (oneCell_el _) ?_
    refine g_nil ?_
    (repeat refine g_seq ?_)
    refine g_region ?_
    refine g_pu rfl rfl rfl (pu_loadW 3 (L := el x) rfl rfl rfl rfl) ?_
    refine g_pu rfl rfl rfl (pu_loadW 5 (L := el y) rfl rfl rfl rfl) ?_
    refine g_call [] rfl rfl rfl rfl rfl rfl (fun w' hm => mulE_b w' x y hx hy) (fun _ _ => ?_)
    refine g_storeL 3 (s := 4) (C := el (mulN x y)) rfl rfl rfl rfl rfl rfl rfl rfl (oneCell_el _) ?_
    refine g_nil ?_
    refine g_blk ?_
    (repeat refine g_seq ?_)
    refine g_region ?_
    refine g_pu rfl rfl rfl (pu_addI rfl rfl rfl (by omega)) ?_
    refine g_pu rfl rfl rfl (pu_move rfl rfl) ?_
    refine g_nil ?_
    exact g_round2 (i + 1) (mulN x y) ⟨by omega, mulN_lt hx hy, by rw [mulN_mod hx hy, hs]; exact mulmod hv rfl⟩ (by omega) ⟨rfl, rfl, rfl, rfl, rfl, trivial⟩ ⟨rfl, rfl, trivial⟩
  · (repeat refine g_seq ?_)
    refine g_region ?_
    first | refine g_pu rfl rfl rfl (pu_lss_t rfl rfl rfl (by omega)) ?_ | refine g_pu rfl rfl rfl (pu_lss_f rfl rfl rfl (by omega)) ?_ | refine g_pu rfl rfl rfl (pu_lss rfl rfl rfl) ?_
    refine g_nil ?_
    (repeat refine g_seq ?_)
    refine g_cond_f rfl (g_exit rfl ?_)
    rw [List.take_of_length_le (by omega)] at hv
    rw [← hv]
    (repeat refine g_seq ?_)
    refine g_region ?_
    refine g_pu rfl rfl rfl (pu_loadW 3 (L := el x) rfl rfl rfl rfl) ?_
    refine g_call [] rfl rfl rfl rfl rfl rfl (fun w' hm => Norm_b w' x hx) (fun _ _ => ?_)
    refine g_storeL 2 (s := 4) (C := el (x % 57896044618658097711785492504343953926634992332820282019728792003956564819949)) rfl rfl rfl rfl rfl rfl rfl rfl (oneCell_el _) ?_
    refine g_nil ?_
    exact g_retL 2 (L := el (x % 57896044618658097711785492504343953926634992332820282019728792003956564819949)) rfl rfl rfl rfl (fun w' hm => ⟨(), trivial, rfl, hm.grows [] trivial rfl⟩)

theorem Is_b (w : World) (a b : Nat) (ha : a < 115792089237316195423570985008687907853269984665640564039457584007913129639936) (hb : b < 115792089237316195423570985008687907853269984665640564039457584007913129639936) : Spec Try.prog 11 #[.agg (el a).toArray, .agg (el b).toArray] w (σ := Unit) (fun _ => True) (fun _ => .bool (decide (a % 57896044618658097711785492504343953926634992332820282019728792003956564819949 = b % 57896044618658097711785492504343953926634992332820282019728792003956564819949))) Nob (fun _ => []) := by
  refine enter Try.func11 rfl rfl (Mem.start w) ?_
  (repeat refine g_seq ?_)
  refine g_region ?_
  refine g_lo [2] rfl rfl rfl rfl (lo_box rfl rfl) (fun b2 hb2 => ?_)
  refine g_lo [3] rfl rfl rfl rfl (lo_box rfl rfl) (fun b3 hb3 => ?_)
  refine g_pu rfl rfl rfl (pu_assign rfl rfl) ?_
  refine g_nil ?_
  by_cases h : a % 57896044618658097711785492504343953926634992332820282019728792003956564819949 = b % 57896044618658097711785492504343953926634992332820282019728792003956564819949
  · (repeat refine g_seq ?_)
    refine g_any (3, []) ?_
    refine a_pu 0 rfl rfl rfl rfl (pu_loadW 2 (L := el a) rfl rfl rfl rfl) rfl rfl (by kernel_rfl) ?_
    refine a_pu 2 rfl rfl rfl rfl (pu_loadW 3 (L := el b) rfl rfl rfl rfl) rfl rfl (by kernel_rfl) ?_
    refine a_do 1 6 [] (does_call rfl rfl rfl rfl rfl (fun w' hm => Norm_b w' a ha)) rfl rfl (by kernel_rfl) rfl rfl (by kernel_rfl) (by kernel_rfl) (by kernel_rfl) rfl (fun p hp => by cases hp) ?_; rintro v_ cs_ ⟨_, _, rfl, rfl⟩
    refine a_tail [3, 4, 5] (by kernel_rfl) rfl rfl (by kernel_rfl) ?_
    refine g_call [] rfl rfl rfl rfl rfl rfl (fun w' hm => Norm_b w' b hb) (fun _ _ => ?_)
    refine g_pu rfl rfl rfl (pu_eqlA_t (a := el (a % 57896044618658097711785492504343953926634992332820282019728792003956564819949)) (b := el (b % 57896044618658097711785492504343953926634992332820282019728792003956564819949)) rfl rfl rfl (by rw [h]) (all_el _) (el_length _)) ?_
    refine g_pu rfl rfl rfl (pu_assign rfl rfl) ?_
    refine g_nil ?_
    exact g_ret1 rfl rfl (fun w' hm => ⟨(), trivial, by rw [decide_eq_true h], hm.grows [] trivial rfl⟩)
  · have h' : el (a % 57896044618658097711785492504343953926634992332820282019728792003956564819949) ≠ el (b % 57896044618658097711785492504343953926634992332820282019728792003956564819949) := fun e => h (el_inj (by omega) (by omega) e)
    (repeat refine g_seq ?_)
    refine g_any (3, []) ?_
    refine a_pu 0 rfl rfl rfl rfl (pu_loadW 2 (L := el a) rfl rfl rfl rfl) rfl rfl (by kernel_rfl) ?_
    refine a_pu 2 rfl rfl rfl rfl (pu_loadW 3 (L := el b) rfl rfl rfl rfl) rfl rfl (by kernel_rfl) ?_
    refine a_do 1 6 [] (does_call rfl rfl rfl rfl rfl (fun w' hm => Norm_b w' a ha)) rfl rfl (by kernel_rfl) rfl rfl (by kernel_rfl) (by kernel_rfl) (by kernel_rfl) rfl (fun p hp => by cases hp) ?_; rintro v_ cs_ ⟨_, _, rfl, rfl⟩
    refine a_tail [3, 4, 5] (by kernel_rfl) rfl rfl (by kernel_rfl) ?_
    refine g_call [] rfl rfl rfl rfl rfl rfl (fun w' hm => Norm_b w' b hb) (fun _ _ => ?_)
    refine g_pu rfl rfl rfl (pu_eqlA_f (a := el (a % 57896044618658097711785492504343953926634992332820282019728792003956564819949)) (b := el (b % 57896044618658097711785492504343953926634992332820282019728792003956564819949)) rfl rfl rfl h' (all_el _) (all_el _) (el_length _) (el_length _)) ?_
    refine g_pu rfl rfl rfl (pu_assign rfl rfl) ?_
    refine g_nil ?_
    exact g_ret1 rfl rfl (fun w' hm => ⟨(), trivial, by rw [decide_eq_false h], hm.grows [] trivial rfl⟩)

theorem bstep {P V V' x y s c c' : Nat} (hset : V' + P * x = V + P * s) (h : s + y + c = x + 18446744073709551616 * c') : V' + P * y + P * c = V + P * 18446744073709551616 * c' := by
  have h2 : P * (s + y + c) = P * (x + 18446744073709551616 * c') := by rw [h]
  rw [Nat.mul_add, Nat.mul_add, Nat.mul_add] at h2
  rw [Nat.mul_assoc]
  omega

theorem SubE_b (w : World) (a b : Nat) (ha : a < 115792089237316195423570985008687907853269984665640564039457584007913129639936) (hb : b < 115792089237316195423570985008687907853269984665640564039457584007913129639936) : Spec Try.prog 31 #[.agg (el a).toArray, .agg (el b).toArray] w (σ := Unit) (fun _ => True) (fun _ => .agg (el ((a + (57896044618658097711785492504343953926634992332820282019728792003956564819949 - b % 57896044618658097711785492504343953926634992332820282019728792003956564819949)) % 57896044618658097711785492504343953926634992332820282019728792003956564819949)).toArray) Nob (fun _ => []) := by
  refine enter Try.func31 rfl rfl (Mem.start w) ?_
  have hr : b % 57896044618658097711785492504343953926634992332820282019728792003956564819949 < 57896044618658097711785492504343953926634992332820282019728792003956564819949 := Nat.mod_lt _ (by decide)
  have hrn := el_numL (n := b % 57896044618658097711785492504343953926634992332820282019728792003956564819949) (by omega)
  have hb4 : (limbs 4 (b % 57896044618658097711785492504343953926634992332820282019728792003956564819949)).length = 4 := rfl
  have pe : numL [18446744073709551597#64, 18446744073709551615#64, 18446744073709551615#64, 9223372036854775807#64] = 57896044618658097711785492504343953926634992332820282019728792003956564819949 := by decide
  (repeat refine g_seq ?_)
  refine g_region ?_
  refine g_lo [2] rfl rfl rfl rfl (lo_box rfl rfl) (fun b2 hb2 => ?_)
  refine g_lo [3] rfl rfl rfl rfl (lo_box rfl rfl) (fun b3 hb3 => ?_)
  refine g_lo [4] rfl rfl rfl rfl (lo_alloc rfl) (fun b4 hb4 => ?_)
  refine g_nil ?_
  (repeat refine g_seq ?_)
  refine g_region ?_
  refine g_pu rfl rfl rfl (pu_loadW 3 (L := el b) rfl rfl rfl rfl) ?_
  refine g_call [] rfl rfl rfl rfl rfl rfl (fun w' hm => Norm_b w' b hb) (fun _ _ => ?_)
  refine g_storeL 3 (s := 4) (C := el (b % 57896044618658097711785492504343953926634992332820282019728792003956564819949)) rfl rfl rfl rfl rfl rfl rfl rfl (oneCell_el _) ?_
  refine g_nil ?_
  generalize b % 57896044618658097711785492504343953926634992332820282019728792003956564819949 = r at *
  have heB : el r = qs (limbs 4 r) := rfl
  generalize limbs 4 r = B at hrn hb4 heB
  rw [heB]
  (repeat refine g_seq ?_)
  refine g_region ?_
  refine g_pu rfl rfl rfl (pu_buildA' (cs := qs [18446744073709551597#64, 18446744073709551615#64, 18446744073709551615#64, 9223372036854775807#64]) rfl rfl rfl) ?_
  refine g_lo [5] rfl rfl rfl rfl (lo_alloc rfl) (fun b5 hb5 => ?_)
  refine g_storeL 5 (s := 4) (C := qs [18446744073709551597#64, 18446744073709551615#64, 18446744073709551615#64, 9223372036854775807#64]) rfl rfl rfl rfl rfl rfl rfl rfl (oneCell_qs _) ?_
  refine g_nil ?_
  (repeat refine g_seq ?_)
  refine g_region ?_
  refine g_pu rfl rfl rfl (pu_assign (v := b64 0#64) rfl rfl) ?_
  refine g_nil ?_
  (repeat refine g_seq ?_)
  refine g_region ?_
  refine g_pu rfl rfl rfl (pu_move rfl rfl) ?_
  refine g_nil ?_
  (repeat refine g_seq ?_)
  refine g_block (g_loop3 (fun (i : Nat) (m : List (BitVec 64)) (c : BitVec 64) => [(2, .pointer (some ⟨b2, 0, none⟩)), (3, .pointer (some ⟨b3, 0, none⟩)), (4, .pointer (some ⟨b4, 0, none⟩)), (5, .pointer (some ⟨b5, 0, none⟩)), (6, b64 c), (11, .int .i64 (i : Int))]) (fun i m c => [(2, .pt b2 (.cells (el a).toArray 28 (0, 0))), (3, .pt b3 (.cells (qs B).toArray 28 (0, 0))), (4, .pt b4 (.cells (qs [0#64, 0#64, 0#64, 0#64]).toArray 28 (0, 0))), (5, .pt b5 (.cells (qs m).toArray 28 (0, 0)))])
    (fun i m c => i ≤ 4 ∧ m.length = 4 ∧ c.toNat ≤ 1 ∧ numL m + numL (B.take i) = 57896044618658097711785492504343953926634992332820282019728792003956564819949 + 18446744073709551616 ^ i * c.toNat) (fun i m c => 4 - i) 0 [18446744073709551597#64, 18446744073709551615#64, 18446744073709551615#64, 9223372036854775807#64] 0#64 ⟨rfl, rfl, rfl, rfl, rfl, rfl, trivial⟩ ⟨rfl, rfl, rfl, rfl, trivial⟩ ⟨by omega, rfl, by decide, by rw [pe]; rfl⟩ ?_)
  intro i m c ⟨hi, hm4, hc, hv⟩
  by_cases hi4 : i < 4
  · (repeat refine g_seq ?_)
    refine g_region ?_
    first | refine g_pu rfl rfl rfl (pu_lss_t rfl rfl rfl (by omega)) ?_ | refine g_pu rfl rfl rfl (pu_lss_f rfl rfl rfl (by omega)) ?_ | refine g_pu rfl rfl rfl (pu_lss rfl rfl rfl) ?_
    refine g_nil ?_
    (repeat refine g_seq ?_)
    refine g_cond_t rfl (g_skip ?_)
    have gi := getDq (l := m) (i := i) (by omega)
    have gb := getDq (l := B) (i := i) (by omega)
    have ai := sb_eq (m.getD i 0#64) (B.getD i 0#64) c hc
    have ni := numL_set m i (sbS (m.getD i 0#64) (B.getD i 0#64) c) (by omega)
    have st := bstep ni ai.1
    have nb := numL_take B i (by omega)
    (repeat refine g_seq ?_); refine g_block ?_
    (repeat refine g_seq ?_)
    refine g_region ?_
    refine g_pu rfl rfl rfl (pu_move rfl rfl) ?_
    refine g_pu rfl rfl rfl (pu_assign rfl rfl) ?_
    refine g_nil ?_
    (repeat refine g_seq ?_)
    refine g_any (13, [11]) ?_
    refine a_pu 0 rfl rfl rfl rfl (pu_move rfl rfl) rfl rfl (by kernel_rfl) ?_
    refine a_pu 1 rfl rfl rfl rfl (pu_move rfl rfl) rfl rfl (by kernel_rfl) ?_
    refine a_pu 2 rfl rfl rfl rfl (pu_atA1 i rfl rfl rfl rfl (by omega)) rfl rfl (by kernel_rfl) ?_
    refine a_pu 3 rfl rfl rfl rfl (pu_load 5 (v := b64 (m.getD i 0#64)) rfl rfl rfl (qs_load gi)) rfl rfl (by kernel_rfl) ?_
    refine a_pu 4 rfl rfl rfl rfl (pu_move rfl rfl) rfl rfl (by kernel_rfl) ?_
    refine a_pu 5 rfl rfl rfl rfl (pu_atA1 i rfl rfl rfl rfl (by omega)) rfl rfl (by kernel_rfl) ?_
    refine a_pu 6 rfl rfl rfl rfl (pu_load 3 (v := b64 (B.getD i 0#64)) rfl rfl rfl (qs_load gb)) rfl rfl (by kernel_rfl) ?_
    refine a_pu 7 rfl rfl rfl rfl (pu_move rfl rfl) rfl rfl (by kernel_rfl) ?_
    refine a_pu 8 rfl rfl rfl rfl (pu_sb rfl rfl rfl rfl hc) rfl rfl (by kernel_rfl) ?_
    refine a_pu 9 rfl rfl rfl rfl (pu_move rfl rfl) rfl rfl (by kernel_rfl) ?_
    refine a_pu 10 rfl rfl rfl rfl (pu_extract rfl rfl rfl) rfl rfl (by kernel_rfl) ?_
    first | refine a_mv 11 rfl rfl rfl rfl (fun _ => (pu_extract rfl rfl rfl)) rfl rfl rfl (by kernel_rfl) (by kernel_rfl) (by kernel_rfl) rfl ?_
    refine a_pu 12 rfl rfl rfl rfl (pu_atA1 i rfl rfl rfl rfl (by omega)) rfl rfl (by kernel_rfl) ?_
    refine a_tail [13, 14] (by kernel_rfl) rfl rfl (by kernel_rfl) ?_
    refine g_store 5 (v := b64 (sbS (m.getD i 0#64) (B.getD i 0#64) c)) rfl rfl rfl rfl rfl rfl rfl (by rw [qs_length]; omega) ?_
    rw [qs_set]
    refine g_pu rfl rfl rfl (pu_assign rfl rfl) ?_
    refine g_nil ?_
    refine g_blk ?_
    (repeat refine g_seq ?_)
    refine g_region ?_
    refine g_pu rfl rfl rfl (pu_addI rfl rfl rfl (by omega)) ?_
    refine g_pu rfl rfl rfl (pu_move rfl rfl) ?_
    refine g_nil ?_
    refine g_round3 (i + 1) (m.set i (sbS (m.getD i 0#64) (B.getD i 0#64) c)) (sbC (m.getD i 0#64) (B.getD i 0#64) c) ⟨by omega, by rw [List.length_set, hm4], ai.2, ?_⟩ (by omega) ⟨rfl, rfl, rfl, rfl, rfl, rfl, trivial⟩ ⟨rfl, rfl, rfl, rfl, trivial⟩
    rw [Nat.pow_succ, nb]
    omega
  · (repeat refine g_seq ?_)
    refine g_region ?_
    first | refine g_pu rfl rfl rfl (pu_lss_t rfl rfl rfl (by omega)) ?_ | refine g_pu rfl rfl rfl (pu_lss_f rfl rfl rfl (by omega)) ?_ | refine g_pu rfl rfl rfl (pu_lss rfl rfl rfl) ?_
    refine g_nil ?_
    (repeat refine g_seq ?_)
    refine g_cond_f rfl (g_exit rfl ?_)
    have e1 : i = 4 := by omega
    subst e1
    rw [List.take_of_length_le (by omega), hrn, show 18446744073709551616 ^ 4 = 115792089237316195423570985008687907853269984665640564039457584007913129639936 from rfl] at hv
    have hmlt := numL4_lt hm4
    have hV : numL m = 57896044618658097711785492504343953926634992332820282019728792003956564819949 - r := by omega
    have hlt2 : 57896044618658097711785492504343953926634992332820282019728792003956564819949 - r < 115792089237316195423570985008687907853269984665640564039457584007913129639936 := by omega
    rw [← addN_mod ha hlt2]
    (repeat refine g_seq ?_)
    refine g_region ?_
    refine g_pu rfl rfl rfl (pu_loadW 2 (L := el a) rfl rfl rfl rfl) ?_
    refine g_pu rfl rfl rfl (pu_loadW 5 (L := el (57896044618658097711785492504343953926634992332820282019728792003956564819949 - r)) rfl rfl (by rw [← hV, ← el_of hm4]; rfl) rfl) ?_
    refine g_call [] rfl rfl rfl rfl rfl rfl (fun w' hm => addE_b w' a _ ha hlt2) (fun _ _ => ?_)
    refine g_call [] rfl rfl rfl rfl rfl rfl (fun w' hm => Norm_b w' _ (addN_lt ha hlt2)) (fun _ _ => ?_)
    refine g_storeL 4 (s := 4) (C := el (addN a (57896044618658097711785492504343953926634992332820282019728792003956564819949 - r) % 57896044618658097711785492504343953926634992332820282019728792003956564819949)) rfl rfl rfl rfl rfl rfl rfl rfl (oneCell_el _) ?_
    refine g_nil ?_
    exact g_retL 4 (L := el (addN a (57896044618658097711785492504343953926634992332820282019728792003956564819949 - r) % 57896044618658097711785492504343953926634992332820282019728792003956564819949)) rfl rfl rfl rfl (fun w' hm => ⟨(), trivial, rfl, hm.grows [] trivial rfl⟩)

theorem Odd_b (w : World) (a : Nat) (ha : a < 115792089237316195423570985008687907853269984665640564039457584007913129639936) : Spec Try.prog 22 #[.agg (el a).toArray] w (σ := Unit) (fun _ => True) (fun _ => .bool (decide (a % 57896044618658097711785492504343953926634992332820282019728792003956564819949 % 2 = 1))) Nob (fun _ => []) := by
  refine enter Try.func22 rfl rfl (Mem.start w) ?_
  have h1 : (el (a % 57896044618658097711785492504343953926634992332820282019728792003956564819949)).toArray[0]? = some (b64 (BitVec.ofNat 64 (a % 57896044618658097711785492504343953926634992332820282019728792003956564819949))) := rfl
  have h2 : ((BitVec.ofNat 64 (a % 57896044618658097711785492504343953926634992332820282019728792003956564819949) &&& 1#64) = 1#64) ↔ a % 57896044618658097711785492504343953926634992332820282019728792003956564819949 % 2 = 1 := by
    have e1 : (BitVec.ofNat 64 (a % 57896044618658097711785492504343953926634992332820282019728792003956564819949) &&& 1#64).toNat = a % 57896044618658097711785492504343953926634992332820282019728792003956564819949 % 2 := by
      rw [BitVec.toNat_and, BitVec.toNat_ofNat, show (1#64).toNat = 2 ^ 1 - 1 from rfl, Nat.and_two_pow_sub_one_eq_mod]
      omega
    constructor
    · intro h; rw [← e1, h]; rfl
    · intro h; apply BitVec.eq_of_toNat_eq; rw [e1, h]; rfl
  (repeat refine g_seq ?_)
  refine g_region ?_
  refine g_lo [1] rfl rfl rfl rfl (lo_box rfl rfl) (fun b1 hb1 => ?_)
  refine g_pu rfl rfl rfl (pu_assign rfl rfl) ?_
  refine g_nil ?_
  (repeat refine g_seq ?_)
  refine g_region ?_
  refine g_pu rfl rfl rfl (pu_loadW 1 (L := el a) rfl rfl rfl rfl) ?_
  refine g_call [] rfl rfl rfl rfl rfl rfl (fun w' hm => Norm_b w' a ha) (fun _ _ => ?_)
  refine g_pu rfl rfl rfl (pu_indexA 0 rfl rfl rfl rfl (by omega) h1) ?_
  refine g_pu rfl rfl rfl (pu_and64 (b := 1#64) rfl rfl rfl) ?_
  refine g_pu rfl rfl rfl (pu_eql64 (b := 1#64) rfl rfl rfl) ?_
  refine g_pu rfl rfl rfl (pu_assign rfl rfl) ?_
  refine g_nil ?_
  exact g_ret1 rfl rfl (fun w' hm => ⟨(), trivial, by rw [decide_eq_decide.2 h2], hm.grows [] trivial rfl⟩)
end Go.Sx
