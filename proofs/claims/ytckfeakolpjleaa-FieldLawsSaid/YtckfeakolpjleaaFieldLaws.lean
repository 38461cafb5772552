/-
  FieldLaws: the elements keep the laws of a field. Each element has four limbs.
-/
import Derived.Test.YtckfeakolpjleaaFPrime
import Derived.Test.YtckfeakolpjleaaK2
set_option linter.unusedVariables false
set_option linter.unusedSimpArgs false
namespace Go.Sx
open Go Go.Proofs

theorem Gen.fermatN {n g : Nat} (h : Gen n g) {x N : Nat} (hN : N = n - 1) (hx : x % n ≠ 0) : x ^ N % n = 1 := by subst hN; exact h.fermat hx
theorem inv_invG {n N x : Nat} (h1 : 1 < n) (h2 : 1 ≤ N) (h : x ^ (N + 1) % n = 1) : (x ^ N % n) ^ N % n = x % n := by
  rw [← Nat.pow_mod, ← Nat.pow_mul]
  obtain ⟨M, rfl⟩ : ∃ M, N = M + 1 := ⟨N - 1, by omega⟩
  rw [show (M + 1) * (M + 1) = (M + 1 + 1) * M + 1 by rw [Nat.mul_add_one, Nat.add_mul (M + 1) 1 M, Nat.one_mul]; omega, Nat.pow_succ, Nat.pow_mul, Nat.mul_mod, pow_mod_one h1 h, Nat.one_mul, Nat.mod_mod]
theorem mul_invG {n N x : Nat} (h : x ^ (N + 1) % n = 1) : x * (x ^ N % n) % n = 1 := by
  rw [← h, Nat.pow_succ, Nat.mul_mod, Nat.mod_mod, ← Nat.mul_mod, Nat.mul_comm]
theorem pe_succ : pe + 1 = 57896044618658097711785492504343953926634992332820282019728792003956564819949 - 1 := rfl
theorem fermat_p {x : Nat} (hx : x % 57896044618658097711785492504343953926634992332820282019728792003956564819949 ≠ 0) : x ^ (pe + 1) % 57896044618658097711785492504343953926634992332820282019728792003956564819949 = 1 := genprime_p.fermatN pe_succ hx
theorem ml_inv {x : Nat} (hx : x % 57896044618658097711785492504343953926634992332820282019728792003956564819949 ≠ 0) : ml x (invN x) = 1 := mul_invG (fermat_p hx)
theorem inv_inv {x : Nat} (hx : x % 57896044618658097711785492504343953926634992332820282019728792003956564819949 ≠ 0) : invN (invN x) = x % 57896044618658097711785492504343953926634992332820282019728792003956564819949 := inv_invG (by decide) (by decide) (fermat_p hx)
theorem zero_powG {n N x : Nat} (hN : 0 < N) (hx : x % n = 0) : x ^ N % n = 0 := by
  rw [Nat.pow_mod, hx, Nat.zero_pow hN, Nat.zero_mod]
theorem inv_zero {x : Nat} (hx : x % 57896044618658097711785492504343953926634992332820282019728792003956564819949 = 0) : invN x = 0 := zero_powG (by decide) hx
theorem ad_comm (a b : Nat) : ad a b = ad b a := by unfold ad; rw [Nat.add_comm]
theorem ml_comm (a b : Nat) : ml a b = ml b a := by unfold ml; rw [Nat.mul_comm]
theorem ad_ad (a b c : Nat) : (a + b + c) % 57896044618658097711785492504343953926634992332820282019728792003956564819949 = ad (ad a b) c := by unfold ad; omega
theorem ml_ml (a b c : Nat) : a * b * c % 57896044618658097711785492504343953926634992332820282019728792003956564819949 = ml (ml a b) c := by unfold ml; rw [Nat.mul_mod (a * b % _) c, Nat.mod_mod, ← Nat.mul_mod]
theorem ml_ad (a b c : Nat) : ad (ml a b) (ml a c) = ml a (ad b c) := by
  unfold ml ad
  rw [← Nat.add_mod, ← Nat.mul_add, Nat.mul_mod, Nat.mul_mod a ((b + c) % _), Nat.mod_mod]
theorem sb_ad (a b : Nat) : sb (ad a b) b = a % 57896044618658097711785492504343953926634992332820282019728792003956564819949 := by unfold sb ad; omega
theorem ad_sb (a b : Nat) : ad (sb a b) b = a % 57896044618658097711785492504343953926634992332820282019728792003956564819949 := by unfold sb ad; omega
theorem lt3k {a b c : Nat} (ha : a < 115792089237316195423570985008687907853269984665640564039457584007913129639936) (hb : b < 115792089237316195423570985008687907853269984665640564039457584007913129639936) (hc : c < 115792089237316195423570985008687907853269984665640564039457584007913129639936) : ∀ n ∈ [a, b, c], n < 115792089237316195423570985008687907853269984665640564039457584007913129639936 := fun n hn => by
  rcases List.mem_cons.1 hn with h | h
  · rw [h]; exact ha
  · exact lt2k hb hc n h
theorem sum3 (a b c : Nat) : sumN [a, b, c] = a + b + c := by simp [sumN]; omega
theorem prod3 (a b c : Nat) : prodN [a, b, c] = a * b * c := by simp [prodN, Nat.mul_assoc]
theorem Sum3K (w : World) {q : Option Addr} (d : Nat) {a b c : Nat} (hq : RdV w q (elsC [a, b, c])) (ha : a < 115792089237316195423570985008687907853269984665640564039457584007913129639936) (hb : b < 115792089237316195423570985008687907853269984665640564039457584007913129639936) (hc : c < 115792089237316195423570985008687907853269984665640564039457584007913129639936) :
    Spec Try.prog 28 #[.slice q 3 d] w (σ := Unit) (fun _ => True) (fun _ => .agg (el (ad (ad a b) c)).toArray) Nob (fun _ => []) := by
  have h := Sum_b w d hq rfl (lt3k ha hb hc) (show 3 ≤ 4398046511104 by omega)
  rwa [sum3, ad_ad] at h
theorem Product3K (w : World) {q : Option Addr} (d : Nat) {a b c : Nat} (hq : RdV w q (elsC [a, b, c])) (ha : a < 115792089237316195423570985008687907853269984665640564039457584007913129639936) (hb : b < 115792089237316195423570985008687907853269984665640564039457584007913129639936) (hc : c < 115792089237316195423570985008687907853269984665640564039457584007913129639936) :
    Spec Try.prog 18 #[.slice q 3 d] w (σ := Unit) (fun _ => True) (fun _ => .agg (el (ml (ml a b) c)).toArray) Nob (fun _ => []) := by
  have h := Product_b w d hq rfl (lt3k ha hb hc) (show 3 ≤ 4398046511104 by omega)
  rwa [prod3, ml_ml] at h
def fillF (i : Nat) : List (BitVec 8) := List.replicate i 255#8 ++ List.replicate (32 - i) 0#8
theorem fillF_length {i : Nat} (h : i ≤ 32) : (fillF i).length = 32 := by simp [fillF]; omega
theorem fillF_set {i : Nat} (h : i < 32) : (fillF i).set i 255#8 = fillF (i + 1) := by
  unfold fillF
  rw [List.set_append_right _ _ (by simp), List.length_replicate, Nat.sub_self, show 32 - i = (32 - (i + 1)) + 1 by omega, List.replicate_succ, List.set_cons_zero, List.replicate_succ', List.append_assoc]
  rfl
def expL : List (BitVec 8) := ((fillF 32).set 0 236#8).set 31 127#8
theorem expL_num : numB expL = pe + 1 := by
  have h : (numB expL == pe + 1) = true := by kernel_rfl
  exact eq_of_beq h
theorem pow_expL {x : Nat} (hx : x % 57896044618658097711785492504343953926634992332820282019728792003956564819949 ≠ 0) : x ^ numB expL % 57896044618658097711785492504343953926634992332820282019728792003956564819949 = 1 := by rw [expL_num]; exact fermat_p hx

theorem FieldLaws_spec (w : World) {qa qb qc : List (BitVec 64)} (hqa : qa.length = 4) (hqb : qb.length = 4) (hqc : qc.length = 4) : Spec Try.prog 9 #[.agg (qs qa).toArray, .agg (qs qb).toArray, .agg (qs qc).toArray] w (σ := Unit) (fun _ => True) (fun _ => .bool true) Nob (fun _ => []) := by
  have hx := numL4_lt hqa
  have hy := numL4_lt hqb
  have hz := numL4_lt hqc
  rw [el_of hqa, el_of hqb, el_of hqc]
  generalize numL qa = x at hx
  generalize numL qb = y at hy
  generalize numL qc = z at hz
  refine enter Try.func9 rfl rfl (Mem.start w) ?_
  have h0 : el 0 = qs [0#64, 0#64, 0#64, 0#64] := el_small (by decide)
  (repeat refine g_seq ?_)
  refine g_region ?_
  refine g_lo [3] rfl rfl rfl rfl (lo_box rfl rfl) (fun b3 hb3 => ?_)
  refine g_lo [4] rfl rfl rfl rfl (lo_box rfl rfl) (fun b4 hb4 => ?_)
  refine g_lo [5] rfl rfl rfl rfl (lo_box rfl rfl) (fun b5 hb5 => ?_)
  refine g_pu rfl rfl rfl (pu_assign rfl rfl) ?_
  refine g_nil ?_
  (repeat refine g_seq ?_)
  refine g_region ?_
  refine g_call [] rfl rfl rfl rfl rfl rfl (fun w' hm => awake05_b w') (fun _ _ => ?_)
  refine g_pu rfl rfl rfl (pu_not rfl rfl) ?_
  refine g_nil ?_
  (repeat refine g_seq ?_)
  refine g_cond_f rfl (g_skip ?_)
  (repeat refine g_seq ?_)
  refine g_any (9, []) ?_
  refine a_pu 0 rfl rfl rfl rfl (pu_loadW 3 (L := el x) rfl rfl rfl rfl) rfl rfl (by kernel_rfl) ?_
  refine a_pu 1 rfl rfl rfl rfl (pu_loadW 4 (L := el y) rfl rfl rfl rfl) rfl rfl (by kernel_rfl) ?_
  refine a_pu 2 rfl rfl rfl rfl (pu_loadW 5 (L := el z) rfl rfl rfl rfl) rfl rfl (by kernel_rfl) ?_
  refine a_pendR 3 7 7 28 4 ?_
  refine a_pendR 4 8 8 28 4 ?_
  refine a_pendR 5 9 9 28 4 ?_
  refine a_force _ (by kernel_rfl) rfl rfl rfl (by kernel_rfl) (by kernel_rfl) (by kernel_rfl) rfl (fun p hp => by simp only [List.mem_cons, List.not_mem_nil, or_false] at hp; rcases hp with rfl | rfl | rfl <;> exact does_PR rfl rfl rfl rfl rfl) ?_; rintro v_ cs_ ⟨b9, hb9, rfl, rfl⟩
  refine a_force _ (by kernel_rfl) rfl rfl rfl (by kernel_rfl) (by kernel_rfl) (by kernel_rfl) rfl (fun p hp => by simp only [List.mem_cons, List.not_mem_nil, or_false] at hp; rcases hp with rfl | rfl <;> exact does_PR rfl rfl rfl rfl rfl) ?_; rintro v_ cs_ ⟨q8, hb8, rfl, rfl⟩
  refine a_force _ (by kernel_rfl) rfl rfl rfl (by kernel_rfl) (by kernel_rfl) (by kernel_rfl) rfl (fun p hp => by simp only [List.mem_cons, List.not_mem_nil, or_false] at hp; subst hp; exact does_PR rfl rfl rfl rfl rfl) ?_; rintro v_ cs_ ⟨b7, hb7, rfl, rfl⟩
  refine a_stR 6 7 (s := 4) (C := el x) rfl rfl rfl rfl (by kernel_rfl) rfl rfl rfl rfl rfl (oneCell_el _) ?_
  refine a_stR 7 8 (s := 4) (C := el y) rfl rfl rfl rfl (by kernel_rfl) rfl rfl rfl rfl rfl (oneCell_el _) ?_
  refine a_stR 8 9 (s := 4) (C := el z) rfl rfl rfl rfl (by kernel_rfl) rfl rfl rfl rfl rfl (oneCell_el _) ?_
  refine a_done (by kernel_rfl) ?_
  (repeat refine g_seq ?_)
  refine g_any (50, []) ?_
  refine a_pu 0 rfl rfl rfl rfl (pu_loadW 7 (L := el x) rfl rfl rfl rfl) rfl rfl (by kernel_rfl) ?_
  refine a_pu 1 rfl rfl rfl rfl (pu_loadW 8 (L := el y) rfl rfl rfl rfl) rfl rfl (by kernel_rfl) ?_
  refine a_pu 4 rfl rfl rfl rfl (pu_loadW 8 (L := el y) rfl rfl rfl rfl) rfl rfl (by kernel_rfl) ?_
  refine a_pu 5 rfl rfl rfl rfl (pu_loadW 7 (L := el x) rfl rfl rfl rfl) rfl rfl (by kernel_rfl) ?_
  refine a_pendB 6 24 24 2 28 (elsC [y, x]) ?_
  refine a_do 2 20 [20] (does_lo rfl rfl rfl (lo_buildSlice rfl rfl (by decide) (by decide) rfl rfl)) rfl rfl (by kernel_rfl) rfl rfl (by kernel_rfl) (by kernel_rfl) (by kernel_rfl) rfl (fun p hp => by simp only [List.mem_cons, List.not_mem_nil, or_false] at hp; subst hp; first | exact does_PA rfl rfl rfl rfl | exact does_PB rfl rfl rfl rfl rfl (by decide) (by decide) rfl rfl) ?_; rintro v_ cs_ ⟨b20, hb20, rfl, rfl⟩
  refine a_do 3 21 [] (does_call rfl rfl rfl rfl rfl (fun w' hm => SumK w' 2 (hm.rowA 20 (L := elsC [x, y]) rfl) hx hy)) rfl rfl (by kernel_rfl) rfl rfl (by kernel_rfl) (by kernel_rfl) (by kernel_rfl) rfl (fun p hp => by simp only [List.mem_cons, List.not_mem_nil, or_false] at hp; subst hp; first | exact does_PA rfl rfl rfl rfl | exact does_PB rfl rfl rfl rfl rfl (by decide) (by decide) rfl rfl) ?_; rintro v_ cs_ ⟨_, _, rfl, rfl⟩
  refine a_force _ (by kernel_rfl) rfl rfl rfl (by kernel_rfl) (by kernel_rfl) (by kernel_rfl) rfl (fun p hp => by simp only [List.mem_cons, List.not_mem_nil, or_false] at hp; subst hp; first | exact does_PA rfl rfl rfl rfl | exact does_PB rfl rfl rfl rfl rfl (by decide) (by decide) rfl rfl) ?_; rintro v_ cs_ ⟨b24, hb24, rfl, rfl⟩
  refine a_do 7 25 [] (does_call rfl rfl rfl rfl rfl (fun w' hm => SumK w' 2 (hm.rowA 24 (L := elsC [y, x]) rfl) hy hx)) rfl rfl (by kernel_rfl) rfl rfl (by kernel_rfl) (by kernel_rfl) (by kernel_rfl) rfl (fun p hp => by cases hp) ?_; rintro v_ cs_ ⟨_, _, rfl, rfl⟩
  rw [ad_comm y x]
  refine a_pu 8 rfl rfl rfl rfl (pu_neqA_f (a := el (ad x y)) (b := el (ad x y)) rfl rfl rfl rfl (all_el _) (el_length _)) rfl rfl (by kernel_rfl) ?_
  refine a_pu 9 rfl rfl rfl rfl (pu_move rfl rfl) rfl rfl (by kernel_rfl) ?_
  refine a_pu 10 rfl rfl rfl rfl (pu_loadW 7 (L := el x) rfl rfl rfl rfl) rfl rfl (by kernel_rfl) ?_
  refine a_pu 11 rfl rfl rfl rfl (pu_loadW 8 (L := el y) rfl rfl rfl rfl) rfl rfl (by kernel_rfl) ?_
  refine a_pu 14 rfl rfl rfl rfl (pu_loadW 8 (L := el y) rfl rfl rfl rfl) rfl rfl (by kernel_rfl) ?_
  refine a_pu 15 rfl rfl rfl rfl (pu_loadW 7 (L := el x) rfl rfl rfl rfl) rfl rfl (by kernel_rfl) ?_
  refine a_pendB 16 34 34 2 28 (elsC [y, x]) ?_
  refine a_do 12 30 [30] (does_lo rfl rfl rfl (lo_buildSlice rfl rfl (by decide) (by decide) rfl rfl)) rfl rfl (by kernel_rfl) rfl rfl (by kernel_rfl) (by kernel_rfl) (by kernel_rfl) rfl (fun p hp => by simp only [List.mem_cons, List.not_mem_nil, or_false] at hp; subst hp; first | exact does_PA rfl rfl rfl rfl | exact does_PB rfl rfl rfl rfl rfl (by decide) (by decide) rfl rfl) ?_; rintro v_ cs_ ⟨b30, hb30, rfl, rfl⟩
  refine a_do 13 31 [] (does_call rfl rfl rfl rfl rfl (fun w' hm => ProductK w' 2 (hm.rowA 30 (L := elsC [x, y]) rfl) hx hy)) rfl rfl (by kernel_rfl) rfl rfl (by kernel_rfl) (by kernel_rfl) (by kernel_rfl) rfl (fun p hp => by simp only [List.mem_cons, List.not_mem_nil, or_false] at hp; subst hp; first | exact does_PA rfl rfl rfl rfl | exact does_PB rfl rfl rfl rfl rfl (by decide) (by decide) rfl rfl) ?_; rintro v_ cs_ ⟨_, _, rfl, rfl⟩
  refine a_force _ (by kernel_rfl) rfl rfl rfl (by kernel_rfl) (by kernel_rfl) (by kernel_rfl) rfl (fun p hp => by simp only [List.mem_cons, List.not_mem_nil, or_false] at hp; subst hp; first | exact does_PA rfl rfl rfl rfl | exact does_PB rfl rfl rfl rfl rfl (by decide) (by decide) rfl rfl) ?_; rintro v_ cs_ ⟨b34, hb34, rfl, rfl⟩
  refine a_do 17 35 [] (does_call rfl rfl rfl rfl rfl (fun w' hm => ProductK w' 2 (hm.rowA 34 (L := elsC [y, x]) rfl) hy hx)) rfl rfl (by kernel_rfl) rfl rfl (by kernel_rfl) (by kernel_rfl) (by kernel_rfl) rfl (fun p hp => by cases hp) ?_; rintro v_ cs_ ⟨_, _, rfl, rfl⟩
  rw [ml_comm y x]
  refine a_pu 18 rfl rfl rfl rfl (pu_neqA_f (a := el (ml x y)) (b := el (ml x y)) rfl rfl rfl rfl (all_el _) (el_length _)) rfl rfl (by kernel_rfl) ?_
  first | refine a_pu 19 rfl rfl rfl rfl (pu_pick_t rfl rfl rfl) rfl rfl (by kernel_rfl) ?_ | refine a_pu 19 rfl rfl rfl rfl (pu_pick_f rfl rfl rfl) rfl rfl (by kernel_rfl) ?_
  refine a_pu 20 rfl rfl rfl rfl (pu_move rfl rfl) rfl rfl (by kernel_rfl) ?_
  refine a_pu 21 rfl rfl rfl rfl (pu_loadW 7 (L := el x) rfl rfl rfl rfl) rfl rfl (by kernel_rfl) ?_
  refine a_pu 22 rfl rfl rfl rfl (pu_loadW 8 (L := el y) rfl rfl rfl rfl) rfl rfl (by kernel_rfl) ?_
  refine a_pu 25 rfl rfl rfl rfl (pu_loadW 9 (L := el z) rfl rfl rfl rfl) rfl rfl (by kernel_rfl) ?_
  refine a_pu 28 rfl rfl rfl rfl (pu_loadW 7 (L := el x) rfl rfl rfl rfl) rfl rfl (by kernel_rfl) ?_
  refine a_pu 29 rfl rfl rfl rfl (pu_loadW 8 (L := el y) rfl rfl rfl rfl) rfl rfl (by kernel_rfl) ?_
  refine a_pu 30 rfl rfl rfl rfl (pu_loadW 9 (L := el z) rfl rfl rfl rfl) rfl rfl (by kernel_rfl) ?_
  refine a_pendB 31 49 49 3 28 (elsC [x, y, z]) ?_
  refine a_do 23 41 [41] (does_lo rfl rfl rfl (lo_buildSlice rfl rfl (by decide) (by decide) rfl rfl)) rfl rfl (by kernel_rfl) rfl rfl (by kernel_rfl) (by kernel_rfl) (by kernel_rfl) rfl (fun p hp => by simp only [List.mem_cons, List.not_mem_nil, or_false] at hp; subst hp; first | exact does_PA rfl rfl rfl rfl | exact does_PB rfl rfl rfl rfl rfl (by decide) (by decide) rfl rfl) ?_; rintro v_ cs_ ⟨b41, hb41, rfl, rfl⟩
  refine a_do 24 42 [] (does_call rfl rfl rfl rfl rfl (fun w' hm => SumK w' 2 (hm.rowA 41 (L := elsC [x, y]) rfl) hx hy)) rfl rfl (by kernel_rfl) rfl rfl (by kernel_rfl) (by kernel_rfl) (by kernel_rfl) rfl (fun p hp => by simp only [List.mem_cons, List.not_mem_nil, or_false] at hp; subst hp; first | exact does_PA rfl rfl rfl rfl | exact does_PB rfl rfl rfl rfl rfl (by decide) (by decide) rfl rfl) ?_; rintro v_ cs_ ⟨_, _, rfl, rfl⟩
  refine a_do 26 44 [44] (does_lo rfl rfl rfl (lo_buildSlice rfl rfl (by decide) (by decide) rfl rfl)) rfl rfl (by kernel_rfl) rfl rfl (by kernel_rfl) (by kernel_rfl) (by kernel_rfl) rfl (fun p hp => by simp only [List.mem_cons, List.not_mem_nil, or_false] at hp; subst hp; first | exact does_PA rfl rfl rfl rfl | exact does_PB rfl rfl rfl rfl rfl (by decide) (by decide) rfl rfl) ?_; rintro v_ cs_ ⟨b44, hb44, rfl, rfl⟩
  refine a_do 27 45 [] (does_call rfl rfl rfl rfl rfl (fun w' hm => SumK w' 2 (hm.rowA 44 (L := elsC [ad x y, z]) rfl) (ad_lt _ _) hz)) rfl rfl (by kernel_rfl) rfl rfl (by kernel_rfl) (by kernel_rfl) (by kernel_rfl) rfl (fun p hp => by simp only [List.mem_cons, List.not_mem_nil, or_false] at hp; subst hp; first | exact does_PA rfl rfl rfl rfl | exact does_PB rfl rfl rfl rfl rfl (by decide) (by decide) rfl rfl) ?_; rintro v_ cs_ ⟨_, _, rfl, rfl⟩
  refine a_force _ (by kernel_rfl) rfl rfl rfl (by kernel_rfl) (by kernel_rfl) (by kernel_rfl) rfl (fun p hp => by simp only [List.mem_cons, List.not_mem_nil, or_false] at hp; subst hp; first | exact does_PA rfl rfl rfl rfl | exact does_PB rfl rfl rfl rfl rfl (by decide) (by decide) rfl rfl) ?_; rintro v_ cs_ ⟨b49, hb49, rfl, rfl⟩
  refine a_do 32 50 [] (does_call rfl rfl rfl rfl rfl (fun w' hm => Sum3K w' 3 (hm.rowA 49 (L := elsC [x, y, z]) rfl) hx hy hz)) rfl rfl (by kernel_rfl) rfl rfl (by kernel_rfl) (by kernel_rfl) (by kernel_rfl) rfl (fun p hp => by cases hp) ?_; rintro v_ cs_ ⟨_, _, rfl, rfl⟩
  refine a_pu 33 rfl rfl rfl rfl (pu_neqA_f (a := el (ad (ad x y) z)) (b := el (ad (ad x y) z)) rfl rfl rfl rfl (all_el _) (el_length _)) rfl rfl (by kernel_rfl) ?_
  first | refine a_pu 34 rfl rfl rfl rfl (pu_pick_t rfl rfl rfl) rfl rfl (by kernel_rfl) ?_ | refine a_pu 34 rfl rfl rfl rfl (pu_pick_f rfl rfl rfl) rfl rfl (by kernel_rfl) ?_
  refine a_pu 35 rfl rfl rfl rfl (pu_move rfl rfl) rfl rfl (by kernel_rfl) ?_
  refine a_pu 36 rfl rfl rfl rfl (pu_loadW 7 (L := el x) rfl rfl rfl rfl) rfl rfl (by kernel_rfl) ?_
  refine a_pu 37 rfl rfl rfl rfl (pu_loadW 8 (L := el y) rfl rfl rfl rfl) rfl rfl (by kernel_rfl) ?_
  refine a_pu 40 rfl rfl rfl rfl (pu_loadW 9 (L := el z) rfl rfl rfl rfl) rfl rfl (by kernel_rfl) ?_
  refine a_pu 43 rfl rfl rfl rfl (pu_loadW 7 (L := el x) rfl rfl rfl rfl) rfl rfl (by kernel_rfl) ?_
  refine a_pu 44 rfl rfl rfl rfl (pu_loadW 8 (L := el y) rfl rfl rfl rfl) rfl rfl (by kernel_rfl) ?_
  refine a_pu 45 rfl rfl rfl rfl (pu_loadW 9 (L := el z) rfl rfl rfl rfl) rfl rfl (by kernel_rfl) ?_
  refine a_pendB 46 64 64 3 28 (elsC [x, y, z]) ?_
  refine a_do 38 56 [56] (does_lo rfl rfl rfl (lo_buildSlice rfl rfl (by decide) (by decide) rfl rfl)) rfl rfl (by kernel_rfl) rfl rfl (by kernel_rfl) (by kernel_rfl) (by kernel_rfl) rfl (fun p hp => by simp only [List.mem_cons, List.not_mem_nil, or_false] at hp; subst hp; first | exact does_PA rfl rfl rfl rfl | exact does_PB rfl rfl rfl rfl rfl (by decide) (by decide) rfl rfl) ?_; rintro v_ cs_ ⟨b56, hb56, rfl, rfl⟩
  refine a_do 39 57 [] (does_call rfl rfl rfl rfl rfl (fun w' hm => ProductK w' 2 (hm.rowA 56 (L := elsC [x, y]) rfl) hx hy)) rfl rfl (by kernel_rfl) rfl rfl (by kernel_rfl) (by kernel_rfl) (by kernel_rfl) rfl (fun p hp => by simp only [List.mem_cons, List.not_mem_nil, or_false] at hp; subst hp; first | exact does_PA rfl rfl rfl rfl | exact does_PB rfl rfl rfl rfl rfl (by decide) (by decide) rfl rfl) ?_; rintro v_ cs_ ⟨_, _, rfl, rfl⟩
  refine a_do 41 59 [59] (does_lo rfl rfl rfl (lo_buildSlice rfl rfl (by decide) (by decide) rfl rfl)) rfl rfl (by kernel_rfl) rfl rfl (by kernel_rfl) (by kernel_rfl) (by kernel_rfl) rfl (fun p hp => by simp only [List.mem_cons, List.not_mem_nil, or_false] at hp; subst hp; first | exact does_PA rfl rfl rfl rfl | exact does_PB rfl rfl rfl rfl rfl (by decide) (by decide) rfl rfl) ?_; rintro v_ cs_ ⟨b59, hb59, rfl, rfl⟩
  refine a_do 42 60 [] (does_call rfl rfl rfl rfl rfl (fun w' hm => ProductK w' 2 (hm.rowA 59 (L := elsC [ml x y, z]) rfl) (ml_lt _ _) hz)) rfl rfl (by kernel_rfl) rfl rfl (by kernel_rfl) (by kernel_rfl) (by kernel_rfl) rfl (fun p hp => by simp only [List.mem_cons, List.not_mem_nil, or_false] at hp; subst hp; first | exact does_PA rfl rfl rfl rfl | exact does_PB rfl rfl rfl rfl rfl (by decide) (by decide) rfl rfl) ?_; rintro v_ cs_ ⟨_, _, rfl, rfl⟩
  refine a_force _ (by kernel_rfl) rfl rfl rfl (by kernel_rfl) (by kernel_rfl) (by kernel_rfl) rfl (fun p hp => by simp only [List.mem_cons, List.not_mem_nil, or_false] at hp; subst hp; first | exact does_PA rfl rfl rfl rfl | exact does_PB rfl rfl rfl rfl rfl (by decide) (by decide) rfl rfl) ?_; rintro v_ cs_ ⟨q64, hb64, rfl, rfl⟩
  refine a_do 47 65 [] (does_call rfl rfl rfl rfl rfl (fun w' hm => Product3K w' 3 (hm.rowA 64 (L := elsC [x, y, z]) rfl) hx hy hz)) rfl rfl (by kernel_rfl) rfl rfl (by kernel_rfl) (by kernel_rfl) (by kernel_rfl) rfl (fun p hp => by cases hp) ?_; rintro v_ cs_ ⟨_, _, rfl, rfl⟩
  refine a_pu 48 rfl rfl rfl rfl (pu_neqA_f (a := el (ml (ml x y) z)) (b := el (ml (ml x y) z)) rfl rfl rfl rfl (all_el _) (el_length _)) rfl rfl (by kernel_rfl) ?_
  first | refine a_pu 49 rfl rfl rfl rfl (pu_pick_t rfl rfl rfl) rfl rfl (by kernel_rfl) ?_ | refine a_pu 49 rfl rfl rfl rfl (pu_pick_f rfl rfl rfl) rfl rfl (by kernel_rfl) ?_
  refine a_done (by kernel_rfl) ?_
  (repeat refine g_seq ?_)
  refine g_cond_f rfl (g_skip ?_)
  (repeat refine g_seq ?_)
  refine g_any (40, []) ?_
  refine a_pu 0 rfl rfl rfl rfl (pu_loadW 7 (L := el x) rfl rfl rfl rfl) rfl rfl (by kernel_rfl) ?_
  refine a_pu 1 rfl rfl rfl rfl (pu_loadW 8 (L := el y) rfl rfl rfl rfl) rfl rfl (by kernel_rfl) ?_
  refine a_pu 2 rfl rfl rfl rfl (pu_loadW 9 (L := el z) rfl rfl rfl rfl) rfl rfl (by kernel_rfl) ?_
  refine a_pu 7 rfl rfl rfl rfl (pu_loadW 7 (L := el x) rfl rfl rfl rfl) rfl rfl (by kernel_rfl) ?_
  refine a_pu 8 rfl rfl rfl rfl (pu_loadW 8 (L := el y) rfl rfl rfl rfl) rfl rfl (by kernel_rfl) ?_
  refine a_pu 11 rfl rfl rfl rfl (pu_loadW 7 (L := el x) rfl rfl rfl rfl) rfl rfl (by kernel_rfl) ?_
  refine a_pu 12 rfl rfl rfl rfl (pu_loadW 9 (L := el z) rfl rfl rfl rfl) rfl rfl (by kernel_rfl) ?_
  refine a_pendB 13 81 81 2 28 (elsC [x, z]) ?_
  refine a_pendB 9 77 77 2 28 (elsC [x, y]) ?_
  refine a_do 3 71 [71] (does_lo rfl rfl rfl (lo_buildSlice rfl rfl (by decide) (by decide) rfl rfl)) rfl rfl (by kernel_rfl) rfl rfl (by kernel_rfl) (by kernel_rfl) (by kernel_rfl) rfl (fun p hp => by simp only [List.mem_cons, List.not_mem_nil, or_false] at hp; rcases hp with rfl | rfl <;> first | exact does_PA rfl rfl rfl rfl | exact does_PB rfl rfl rfl rfl rfl (by decide) (by decide) rfl rfl) ?_; rintro v_ cs_ ⟨b71, hb71, rfl, rfl⟩
  refine a_do 4 72 [] (does_call rfl rfl rfl rfl rfl (fun w' hm => SumK w' 2 (hm.rowA 71 (L := elsC [y, z]) rfl) hy hz)) rfl rfl (by kernel_rfl) rfl rfl (by kernel_rfl) (by kernel_rfl) (by kernel_rfl) rfl (fun p hp => by simp only [List.mem_cons, List.not_mem_nil, or_false] at hp; rcases hp with rfl | rfl <;> first | exact does_PA rfl rfl rfl rfl | exact does_PB rfl rfl rfl rfl rfl (by decide) (by decide) rfl rfl) ?_; rintro v_ cs_ ⟨_, _, rfl, rfl⟩
  refine a_do 5 73 [73] (does_lo rfl rfl rfl (lo_buildSlice rfl rfl (by decide) (by decide) rfl rfl)) rfl rfl (by kernel_rfl) rfl rfl (by kernel_rfl) (by kernel_rfl) (by kernel_rfl) rfl (fun p hp => by simp only [List.mem_cons, List.not_mem_nil, or_false] at hp; rcases hp with rfl | rfl <;> first | exact does_PA rfl rfl rfl rfl | exact does_PB rfl rfl rfl rfl rfl (by decide) (by decide) rfl rfl) ?_; rintro v_ cs_ ⟨b73, hb73, rfl, rfl⟩
  refine a_do 6 74 [] (does_call rfl rfl rfl rfl rfl (fun w' hm => ProductK w' 2 (hm.rowA 73 (L := elsC [x, ad y z]) rfl) hx (ad_lt _ _))) rfl rfl (by kernel_rfl) rfl rfl (by kernel_rfl) (by kernel_rfl) (by kernel_rfl) rfl (fun p hp => by simp only [List.mem_cons, List.not_mem_nil, or_false] at hp; rcases hp with rfl | rfl <;> first | exact does_PA rfl rfl rfl rfl | exact does_PB rfl rfl rfl rfl rfl (by decide) (by decide) rfl rfl) ?_; rintro v_ cs_ ⟨_, _, rfl, rfl⟩
  refine a_force _ (by kernel_rfl) rfl rfl rfl (by kernel_rfl) (by kernel_rfl) (by kernel_rfl) rfl (fun p hp => by simp only [List.mem_cons, List.not_mem_nil, or_false] at hp; rcases hp with rfl | rfl <;> first | exact does_PA rfl rfl rfl rfl | exact does_PB rfl rfl rfl rfl rfl (by decide) (by decide) rfl rfl) ?_; rintro v_ cs_ ⟨b77, hb77, rfl, rfl⟩
  refine a_do 10 78 [] (does_call rfl rfl rfl rfl rfl (fun w' hm => ProductK w' 2 (hm.rowA 77 (L := elsC [x, y]) rfl) hx hy)) rfl rfl (by kernel_rfl) rfl rfl (by kernel_rfl) (by kernel_rfl) (by kernel_rfl) rfl (fun p hp => by simp only [List.mem_cons, List.not_mem_nil, or_false] at hp; subst hp; first | exact does_PA rfl rfl rfl rfl | exact does_PB rfl rfl rfl rfl rfl (by decide) (by decide) rfl rfl) ?_; rintro v_ cs_ ⟨_, _, rfl, rfl⟩
  refine a_force _ (by kernel_rfl) rfl rfl rfl (by kernel_rfl) (by kernel_rfl) (by kernel_rfl) rfl (fun p hp => by simp only [List.mem_cons, List.not_mem_nil, or_false] at hp; subst hp; first | exact does_PA rfl rfl rfl rfl | exact does_PB rfl rfl rfl rfl rfl (by decide) (by decide) rfl rfl) ?_; rintro v_ cs_ ⟨b81, hb81, rfl, rfl⟩
  refine a_do 14 82 [] (does_call rfl rfl rfl rfl rfl (fun w' hm => ProductK w' 2 (hm.rowA 81 (L := elsC [x, z]) rfl) hx hz)) rfl rfl (by kernel_rfl) rfl rfl (by kernel_rfl) (by kernel_rfl) (by kernel_rfl) rfl (fun p hp => by cases hp) ?_; rintro v_ cs_ ⟨_, _, rfl, rfl⟩
  refine a_do 15 83 [83] (does_lo rfl rfl rfl (lo_buildSlice rfl rfl (by decide) (by decide) rfl rfl)) rfl rfl (by kernel_rfl) rfl rfl (by kernel_rfl) (by kernel_rfl) (by kernel_rfl) rfl (fun p hp => by cases hp) ?_; rintro v_ cs_ ⟨b83, hb83, rfl, rfl⟩
  refine a_do 16 84 [] (does_call rfl rfl rfl rfl rfl (fun w' hm => SumK w' 2 (hm.rowA 83 (L := elsC [ml x y, ml x z]) rfl) (ml_lt _ _) (ml_lt _ _))) rfl rfl (by kernel_rfl) rfl rfl (by kernel_rfl) (by kernel_rfl) (by kernel_rfl) rfl (fun p hp => by cases hp) ?_; rintro v_ cs_ ⟨_, _, rfl, rfl⟩
  rw [ml_ad x y z]
  refine a_pu 17 rfl rfl rfl rfl (pu_neqA_f (a := el (ml x (ad y z))) (b := el (ml x (ad y z))) rfl rfl rfl rfl (all_el _) (el_length _)) rfl rfl (by kernel_rfl) ?_
  refine a_pu 18 rfl rfl rfl rfl (pu_move rfl rfl) rfl rfl (by kernel_rfl) ?_
  refine a_pu 19 rfl rfl rfl rfl (pu_loadW 7 (L := el x) rfl rfl rfl rfl) rfl rfl (by kernel_rfl) ?_
  refine a_pu 20 rfl rfl rfl rfl (pu_loadW 8 (L := el y) rfl rfl rfl rfl) rfl rfl (by kernel_rfl) ?_
  refine a_pu 23 rfl rfl rfl rfl (pu_loadW 8 (L := el y) rfl rfl rfl rfl) rfl rfl (by kernel_rfl) ?_
  refine a_pu 25 rfl rfl rfl rfl (pu_loadW 7 (L := el x) rfl rfl rfl rfl) rfl rfl (by kernel_rfl) ?_
  refine a_do 21 89 [89] (does_lo rfl rfl rfl (lo_buildSlice rfl rfl (by decide) (by decide) rfl rfl)) rfl rfl (by kernel_rfl) rfl rfl (by kernel_rfl) (by kernel_rfl) (by kernel_rfl) rfl (fun p hp => by cases hp) ?_; rintro v_ cs_ ⟨b89, hb89, rfl, rfl⟩
  refine a_do 22 90 [] (does_call rfl rfl rfl rfl rfl (fun w' hm => SumK w' 2 (hm.rowA 89 (L := elsC [x, y]) rfl) hx hy)) rfl rfl (by kernel_rfl) rfl rfl (by kernel_rfl) (by kernel_rfl) (by kernel_rfl) rfl (fun p hp => by cases hp) ?_; rintro v_ cs_ ⟨_, _, rfl, rfl⟩
  refine a_do 24 92 [] (does_call rfl rfl rfl rfl rfl (fun w' hm => SubK w' (ad_lt x y) hy)) rfl rfl (by kernel_rfl) rfl rfl (by kernel_rfl) (by kernel_rfl) (by kernel_rfl) rfl (fun p hp => by cases hp) ?_; rintro v_ cs_ ⟨_, _, rfl, rfl⟩
  rw [sb_ad x y]
  refine a_do 26 94 [] (does_call rfl rfl rfl rfl rfl (fun w' hm => Norm_b w' x hx)) rfl rfl (by kernel_rfl) rfl rfl (by kernel_rfl) (by kernel_rfl) (by kernel_rfl) rfl (fun p hp => by cases hp) ?_; rintro v_ cs_ ⟨_, _, rfl, rfl⟩
  refine a_pu 27 rfl rfl rfl rfl (pu_neqA_f (a := el (x % 57896044618658097711785492504343953926634992332820282019728792003956564819949)) (b := el (x % 57896044618658097711785492504343953926634992332820282019728792003956564819949)) rfl rfl rfl rfl (all_el _) (el_length _)) rfl rfl (by kernel_rfl) ?_
  first | refine a_pu 28 rfl rfl rfl rfl (pu_pick_t rfl rfl rfl) rfl rfl (by kernel_rfl) ?_ | refine a_pu 28 rfl rfl rfl rfl (pu_pick_f rfl rfl rfl) rfl rfl (by kernel_rfl) ?_
  refine a_pu 29 rfl rfl rfl rfl (pu_move rfl rfl) rfl rfl (by kernel_rfl) ?_
  refine a_pu 30 rfl rfl rfl rfl (pu_loadW 7 (L := el x) rfl rfl rfl rfl) rfl rfl (by kernel_rfl) ?_
  refine a_pu 31 rfl rfl rfl rfl (pu_loadW 8 (L := el y) rfl rfl rfl rfl) rfl rfl (by kernel_rfl) ?_
  refine a_pu 33 rfl rfl rfl rfl (pu_loadW 8 (L := el y) rfl rfl rfl rfl) rfl rfl (by kernel_rfl) ?_
  refine a_pu 36 rfl rfl rfl rfl (pu_loadW 7 (L := el x) rfl rfl rfl rfl) rfl rfl (by kernel_rfl) ?_
  refine a_do 32 100 [] (does_call rfl rfl rfl rfl rfl (fun w' hm => SubK w' hx hy)) rfl rfl (by kernel_rfl) rfl rfl (by kernel_rfl) (by kernel_rfl) (by kernel_rfl) rfl (fun p hp => by cases hp) ?_; rintro v_ cs_ ⟨_, _, rfl, rfl⟩
  refine a_do 34 102 [102] (does_lo rfl rfl rfl (lo_buildSlice rfl rfl (by decide) (by decide) rfl rfl)) rfl rfl (by kernel_rfl) rfl rfl (by kernel_rfl) (by kernel_rfl) (by kernel_rfl) rfl (fun p hp => by cases hp) ?_; rintro v_ cs_ ⟨b102, hb102, rfl, rfl⟩
  refine a_do 35 103 [] (does_call rfl rfl rfl rfl rfl (fun w' hm => SumK w' 2 (hm.rowA 102 (L := elsC [sb x y, y]) rfl) (sb_lt _ _) hy)) rfl rfl (by kernel_rfl) rfl rfl (by kernel_rfl) (by kernel_rfl) (by kernel_rfl) rfl (fun p hp => by cases hp) ?_; rintro v_ cs_ ⟨_, _, rfl, rfl⟩
  rw [ad_sb x y]
  refine a_do 37 105 [] (does_call rfl rfl rfl rfl rfl (fun w' hm => Norm_b w' x hx)) rfl rfl (by kernel_rfl) rfl rfl (by kernel_rfl) (by kernel_rfl) (by kernel_rfl) rfl (fun p hp => by cases hp) ?_; rintro v_ cs_ ⟨_, _, rfl, rfl⟩
  refine a_pu 38 rfl rfl rfl rfl (pu_neqA_f (a := el (x % 57896044618658097711785492504343953926634992332820282019728792003956564819949)) (b := el (x % 57896044618658097711785492504343953926634992332820282019728792003956564819949)) rfl rfl rfl rfl (all_el _) (el_length _)) rfl rfl (by kernel_rfl) ?_
  first | refine a_pu 39 rfl rfl rfl rfl (pu_pick_t rfl rfl rfl) rfl rfl (by kernel_rfl) ?_ | refine a_pu 39 rfl rfl rfl rfl (pu_pick_f rfl rfl rfl) rfl rfl (by kernel_rfl) ?_
  refine a_done (by kernel_rfl) ?_
  (repeat refine g_seq ?_)
  refine g_cond_f rfl (g_skip ?_)
  (repeat refine g_seq ?_)
  refine g_any (12, []) ?_
  refine a_pu 0 rfl rfl rfl rfl (pu_loadW 7 (L := el x) rfl rfl rfl rfl) rfl rfl (by kernel_rfl) ?_
  refine a_pu 2 rfl rfl rfl rfl (pu_loadW 7 (L := el x) rfl rfl rfl rfl) rfl rfl (by kernel_rfl) ?_
  refine a_pu 3 rfl rfl rfl rfl (pu_loadW 7 (L := el x) rfl rfl rfl rfl) rfl rfl (by kernel_rfl) ?_
  refine a_pendB 4 112 112 2 28 (elsC [x, x]) ?_
  refine a_do 1 109 [] (does_call rfl rfl rfl rfl rfl (fun w' hm => SquareK w' hx)) rfl rfl (by kernel_rfl) rfl rfl (by kernel_rfl) (by kernel_rfl) (by kernel_rfl) rfl (fun p hp => by simp only [List.mem_cons, List.not_mem_nil, or_false] at hp; subst hp; first | exact does_PA rfl rfl rfl rfl | exact does_PB rfl rfl rfl rfl rfl (by decide) (by decide) rfl rfl) ?_; rintro v_ cs_ ⟨_, _, rfl, rfl⟩
  refine a_force _ (by kernel_rfl) rfl rfl rfl (by kernel_rfl) (by kernel_rfl) (by kernel_rfl) rfl (fun p hp => by simp only [List.mem_cons, List.not_mem_nil, or_false] at hp; subst hp; first | exact does_PA rfl rfl rfl rfl | exact does_PB rfl rfl rfl rfl rfl (by decide) (by decide) rfl rfl) ?_; rintro v_ cs_ ⟨b112, hb112, rfl, rfl⟩
  refine a_do 5 113 [] (does_call rfl rfl rfl rfl rfl (fun w' hm => ProductK w' 2 (hm.rowA 112 (L := elsC [x, x]) rfl) hx hx)) rfl rfl (by kernel_rfl) rfl rfl (by kernel_rfl) (by kernel_rfl) (by kernel_rfl) rfl (fun p hp => by cases hp) ?_; rintro v_ cs_ ⟨_, _, rfl, rfl⟩
  refine a_pu 6 rfl rfl rfl rfl (pu_neqA_f (a := el (ml x x)) (b := el (ml x x)) rfl rfl rfl rfl (all_el _) (el_length _)) rfl rfl (by kernel_rfl) ?_
  refine a_pu 7 rfl rfl rfl rfl (pu_move rfl rfl) rfl rfl (by kernel_rfl) ?_
  refine a_pu 8 rfl rfl rfl rfl (pu_loadW 7 (L := el x) rfl rfl rfl rfl) rfl rfl (by kernel_rfl) ?_
  refine a_pu 11 rfl rfl rfl rfl (pu_loadW 7 (L := el x) rfl rfl rfl rfl) rfl rfl (by kernel_rfl) ?_
  refine a_do 9 117 [] (does_call rfl rfl rfl rfl rfl (fun w' hm => Norm_b w' x hx)) rfl rfl (by kernel_rfl) rfl rfl (by kernel_rfl) (by kernel_rfl) (by kernel_rfl) rfl (fun p hp => by cases hp) ?_; rintro v_ cs_ ⟨_, _, rfl, rfl⟩
  refine a_do 10 118 [] (does_call rfl rfl rfl rfl rfl (fun w' hm => Norm_b w' (x % 57896044618658097711785492504343953926634992332820282019728792003956564819949) (modp _))) rfl rfl (by kernel_rfl) rfl rfl (by kernel_rfl) (by kernel_rfl) (by kernel_rfl) rfl (fun p hp => by cases hp) ?_; rintro v_ cs_ ⟨_, _, rfl, rfl⟩
  rw [Nat.mod_mod]
  refine a_tail [12, 13, 14] (by kernel_rfl) rfl rfl (by kernel_rfl) ?_
  refine g_call [] rfl rfl rfl rfl rfl rfl (fun w' hm => Norm_b w' x hx) (fun _ _ => ?_)
  refine g_pu rfl rfl rfl (pu_neqA_f (a := el (x % 57896044618658097711785492504343953926634992332820282019728792003956564819949)) (b := el (x % 57896044618658097711785492504343953926634992332820282019728792003956564819949)) rfl rfl rfl rfl (all_el _) (el_length _)) ?_
  first | refine g_pu rfl rfl rfl (pu_pick_t rfl rfl rfl) ?_ | refine g_pu rfl rfl rfl (pu_pick_f rfl rfl rfl) ?_
  refine g_nil ?_
  (repeat refine g_seq ?_)
  refine g_cond_f rfl (g_skip ?_)
  have hi := invN_lt x
  (repeat refine g_seq ?_)
  refine g_region ?_
  refine g_pu rfl rfl rfl (pu_loadW 7 (L := el x) rfl rfl rfl rfl) ?_
  refine g_call [] rfl rfl rfl rfl rfl rfl (fun w' hm => Inv_b w' x hx) (fun _ _ => ?_)
  refine g_lo [10] rfl rfl rfl rfl (lo_alloc rfl) (fun b10 hb10 => ?_)
  refine g_storeL 10 (s := 4) (C := el (invN x)) rfl rfl rfl rfl rfl rfl rfl rfl (oneCell_el _) ?_
  refine g_nil ?_
  by_cases hx0 : x % 57896044618658097711785492504343953926634992332820282019728792003956564819949 = 0
  · have hi0 := inv_zero hx0
    rw [hi0]
    (repeat refine g_seq ?_)
    refine g_region ?_
    refine g_pu rfl rfl rfl (pu_loadW 7 (L := el x) rfl rfl rfl rfl) ?_
    refine g_pu rfl rfl rfl (pu_buildA' (cs := el 0) rfl rfl (by rw [h0]; rfl)) ?_
    refine g_call [] rfl rfl rfl rfl rfl rfl (fun w' hm => Is_t w' x 0 hx (by decide) (by rw [hx0])) (fun _ _ => ?_)
    refine g_nil ?_
    (repeat refine g_seq ?_)
    refine g_cond_t rfl ?_
    (repeat refine g_seq ?_)
    refine g_region ?_
    refine g_pu rfl rfl rfl (pu_loadW 10 (L := el 0) rfl rfl rfl rfl) ?_
    refine g_pu rfl rfl rfl (pu_buildA' (cs := el 0) rfl rfl (by rw [h0]; rfl)) ?_
    refine g_pu rfl rfl rfl (pu_eqlA_t (a := el 0) (b := el 0) rfl rfl rfl rfl (all_el _) (el_length _)) ?_
    refine g_pu rfl rfl rfl (pu_assign rfl rfl) ?_
    refine g_nil ?_
    exact g_ret1 rfl rfl (fun w' hm => ⟨(), trivial, rfl, hm.grows [] trivial rfl⟩)
  · have e1 := ml_inv hx0
    have e2 := inv_inv hx0
    have e3 := pow_expL hx0
    generalize invN x = v at hi e1 e2
    (repeat refine g_seq ?_)
    refine g_region ?_
    refine g_pu rfl rfl rfl (pu_loadW 7 (L := el x) rfl rfl rfl rfl) ?_
    refine g_pu rfl rfl rfl (pu_buildA' (cs := el 0) rfl rfl (by rw [h0]; rfl)) ?_
    refine g_call [] rfl rfl rfl rfl rfl rfl (fun w' hm => Is_f w' x 0 hx (by decide) (by rw [Nat.zero_mod]; exact hx0)) (fun _ _ => ?_)
    refine g_nil ?_
    (repeat refine g_seq ?_)
    refine g_cond_f rfl (g_skip ?_)
    (repeat refine g_seq ?_)
    refine g_region ?_
    refine g_lo [131] rfl rfl rfl rfl (lo_make (n := 32) (c := 32) rfl rfl rfl (by omega) (by omega) (by omega) rfl) (fun b131 hb131 => ?_)
    refine g_pu rfl rfl rfl (pu_assign rfl rfl) ?_
    refine g_nil ?_
    (repeat refine g_seq ?_)
    refine g_region ?_
    refine g_pu rfl rfl rfl (pu_move rfl rfl) ?_
    first | refine g_pu rfl rfl rfl (pu_len rfl rfl) ?_ | refine g_pu rfl rfl rfl (pu_lenS rfl rfl) ?_
    refine g_pu rfl rfl rfl (pu_move rfl rfl) ?_
    refine g_nil ?_
    (repeat refine g_seq ?_)
    refine g_block (g_loop (σ := Nat) (fun i => [(7, .pointer (some ⟨b7, 0, none⟩)), (10, .pointer (some ⟨b10, 0, none⟩)), (11, .slice (some ⟨b131, 0, none⟩) 32 32), (133, .int .i64 32), (134, .int .i64 (i : Int))]) (fun i => [(7, .pt b7 (.cells (el x).toArray 28 (0, 0))), (10, .pt b10 (.cells (el v).toArray 28 (0, 0))), (131, .pt b131 (.cells (bs (fillF i)).toArray 5 (0, 0)))]) (fun i => i ≤ 32) (fun i => 32 - i) 0 ⟨rfl, rfl, rfl, rfl, rfl, trivial⟩ ⟨rfl, rfl, rfl, trivial⟩ (by omega) ?_)
    intro i hi32
    by_cases hlt : i < 32
    · (repeat refine g_seq ?_)
      refine g_region ?_
      first | refine g_pu rfl rfl rfl (pu_lss_t rfl rfl rfl (by omega)) ?_ | refine g_pu rfl rfl rfl (pu_lss_f rfl rfl rfl (by omega)) ?_ | refine g_pu rfl rfl rfl (pu_lss rfl rfl rfl) ?_
      refine g_nil ?_
      (repeat refine g_seq ?_)
      refine g_cond_t rfl (g_skip ?_)
      (repeat refine g_seq ?_); refine g_block ?_
      (repeat refine g_seq ?_)
      refine g_region ?_
      refine g_pu rfl rfl rfl (pu_move rfl rfl) ?_
      refine g_pu rfl rfl rfl (pu_assign rfl rfl) ?_
      refine g_nil ?_
      (repeat refine g_seq ?_)
      refine g_region ?_
      refine g_pu rfl rfl rfl (pu_move rfl rfl) ?_
      refine g_pu rfl rfl rfl (pu_move rfl rfl) ?_
      refine g_pu rfl rfl rfl (pu_at1 i rfl rfl rfl rfl (by omega)) ?_
      refine g_store 131 (v := b8 255#8) rfl rfl rfl rfl rfl rfl rfl (by rw [bs_length, fillF_length hi32]; omega) ?_
      rw [bs_setW, fillF_set hlt]
      refine g_nil ?_
      refine g_blk ?_
      (repeat refine g_seq ?_)
      refine g_region ?_
      refine g_pu rfl rfl rfl (pu_addI rfl rfl rfl (by omega)) ?_
      refine g_pu rfl rfl rfl (pu_move rfl rfl) ?_
      refine g_nil ?_
      exact g_round (i + 1) (by omega) (by omega) ⟨rfl, rfl, rfl, rfl, rfl, trivial⟩ ⟨rfl, rfl, rfl, trivial⟩
    · (repeat refine g_seq ?_)
      refine g_region ?_
      first | refine g_pu rfl rfl rfl (pu_lss_t rfl rfl rfl (by omega)) ?_ | refine g_pu rfl rfl rfl (pu_lss_f rfl rfl rfl (by omega)) ?_ | refine g_pu rfl rfl rfl (pu_lss rfl rfl rfl) ?_
      refine g_nil ?_
      (repeat refine g_seq ?_)
      refine g_cond_f rfl (g_exit rfl ?_)
      have ei : i = 32 := by omega
      subst ei
      (repeat refine g_seq ?_)
      refine g_region ?_
      refine g_pu rfl rfl rfl (pu_move rfl rfl) ?_
      refine g_pu rfl rfl rfl (pu_move rfl rfl) ?_
      refine g_pu rfl rfl rfl (pu_at1 0 rfl rfl rfl rfl (by omega)) ?_
      refine g_store 131 (v := b8 236#8) rfl rfl rfl rfl rfl rfl rfl (by rw [bs_length, fillF_length (by omega)]; omega) ?_
      rw [bs_setW]
      refine g_pu rfl rfl rfl (pu_at1 31 rfl rfl rfl rfl (by omega)) ?_
      refine g_store 131 (v := b8 127#8) rfl rfl rfl rfl rfl rfl rfl (by rw [bs_length, List.length_set, fillF_length (by omega)]; omega) ?_
      rw [bs_setW, show ((fillF 32).set 0 236#8).set 31 127#8 = expL from rfl]
      refine g_nil ?_
      have hel : expL.length = 32 := rfl
      generalize expL = E at e3 hel
      (repeat refine g_seq ?_)
      refine g_any (16, []) ?_
      refine a_pu 0 rfl rfl rfl rfl (pu_loadW 7 (L := el x) rfl rfl rfl rfl) rfl rfl (by kernel_rfl) ?_
      refine a_pu 1 rfl rfl rfl rfl (pu_loadW 10 (L := el v) rfl rfl rfl rfl) rfl rfl (by kernel_rfl) ?_
      refine a_do 2 147 [147] (does_lo rfl rfl rfl (lo_buildSlice rfl rfl (by decide) (by decide) rfl rfl)) rfl rfl (by kernel_rfl) rfl rfl (by kernel_rfl) (by kernel_rfl) (by kernel_rfl) rfl (fun p hp => by cases hp) ?_; rintro v_ cs_ ⟨b147, hb147, rfl, rfl⟩
      refine a_do 3 148 [] (does_call rfl rfl rfl rfl rfl (fun w' hm => ProductK w' 2 (hm.rowA 147 (L := elsC [x, v]) rfl) hx hi)) rfl rfl (by kernel_rfl) rfl rfl (by kernel_rfl) (by kernel_rfl) (by kernel_rfl) rfl (fun p hp => by cases hp) ?_; rintro v_ cs_ ⟨_, _, rfl, rfl⟩
      rw [e1]
      refine a_do 4 149 [] (does_call rfl rfl rfl rfl rfl (fun w' hm => Of_b w' 1#64)) rfl rfl (by kernel_rfl) rfl rfl (by kernel_rfl) (by kernel_rfl) (by kernel_rfl) rfl (fun p hp => by cases hp) ?_; rintro v_ cs_ ⟨_, _, rfl, rfl⟩
      refine a_pu 5 rfl rfl rfl rfl (pu_eqlA_t (a := el 1) (b := el 1) rfl rfl rfl rfl (all_el _) (el_length _)) rfl rfl (by kernel_rfl) ?_
      refine a_pu 6 rfl rfl rfl rfl (pu_move rfl rfl) rfl rfl (by kernel_rfl) ?_
      refine a_pu 7 rfl rfl rfl rfl (pu_loadW 10 (L := el v) rfl rfl rfl rfl) rfl rfl (by kernel_rfl) ?_
      refine a_pu 9 rfl rfl rfl rfl (pu_loadW 7 (L := el x) rfl rfl rfl rfl) rfl rfl (by kernel_rfl) ?_
      refine a_do 8 153 [] (does_call rfl rfl rfl rfl rfl (fun w' hm => Inv_b w' v hi)) rfl rfl (by kernel_rfl) rfl rfl (by kernel_rfl) (by kernel_rfl) (by kernel_rfl) rfl (fun p hp => by cases hp) ?_; rintro v_ cs_ ⟨_, _, rfl, rfl⟩
      rw [e2]
      refine a_do 10 155 [] (does_call rfl rfl rfl rfl rfl (fun w' hm => Norm_b w' x hx)) rfl rfl (by kernel_rfl) rfl rfl (by kernel_rfl) (by kernel_rfl) (by kernel_rfl) rfl (fun p hp => by cases hp) ?_; rintro v_ cs_ ⟨_, _, rfl, rfl⟩
      refine a_pu 11 rfl rfl rfl rfl (pu_eqlA_t (a := el (x % 57896044618658097711785492504343953926634992332820282019728792003956564819949)) (b := el (x % 57896044618658097711785492504343953926634992332820282019728792003956564819949)) rfl rfl rfl rfl (all_el _) (el_length _)) rfl rfl (by kernel_rfl) ?_
      first | refine a_pu 12 rfl rfl rfl rfl (pu_pick_t rfl rfl rfl) rfl rfl (by kernel_rfl) ?_ | refine a_pu 12 rfl rfl rfl rfl (pu_pick_f rfl rfl rfl) rfl rfl (by kernel_rfl) ?_
      refine a_pu 13 rfl rfl rfl rfl (pu_move rfl rfl) rfl rfl (by kernel_rfl) ?_
      refine a_pu 14 rfl rfl rfl rfl (pu_loadW 7 (L := el x) rfl rfl rfl rfl) rfl rfl (by kernel_rfl) ?_
      first | refine a_pass 15 rfl rfl rfl rfl rfl rfl (by kernel_rfl) ?_ | refine a_pu 15 rfl rfl rfl rfl (pu_move rfl rfl) rfl rfl (by kernel_rfl) ?_
      refine a_tail [16, 17, 18, 19, 20] (by kernel_rfl) rfl rfl (by kernel_rfl) ?_
      refine g_call [] rfl rfl rfl rfl rfl rfl (fun w' hm => Power_b w' x hx 32 (l := E) (By.full 131 rfl hm hel (by omega))) (fun _ _ => ?_)
      rw [e3]
      refine g_call [] rfl rfl rfl rfl rfl rfl (fun w' hm => Of_b w' 1#64) (fun _ _ => ?_)
      refine g_pu rfl rfl rfl (pu_eqlA_t (a := el 1) (b := el 1) rfl rfl rfl rfl (all_el _) (el_length _)) ?_
      first | refine g_pu rfl rfl rfl (pu_pick_t rfl rfl rfl) ?_ | refine g_pu rfl rfl rfl (pu_pick_f rfl rfl rfl) ?_
      refine g_pu rfl rfl rfl (pu_assign rfl rfl) ?_
      refine g_nil ?_
      exact g_ret1 rfl rfl (fun w' hm => ⟨(), trivial, rfl, hm.grows [] trivial rfl⟩)
end Go.Sx
