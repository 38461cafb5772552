/-
  The ladder's step of the program. The numbers are below 2^256.
-/
import Derived.Test.YtjmihjcahjpkmaaK1
import Derived.Test.YtjmihjcahjpkmaaSxFork
set_option linter.unusedVariables false
set_option linter.unusedSimpArgs false
namespace Go.Sx
open Go Go.Proofs

def ad (a b : Nat) : Nat := (a + b) % 57896044618658097711785492504343953926634992332820282019728792003956564819949
def sb (a b : Nat) : Nat := (a + (57896044618658097711785492504343953926634992332820282019728792003956564819949 - b % 57896044618658097711785492504343953926634992332820282019728792003956564819949)) % 57896044618658097711785492504343953926634992332820282019728792003956564819949
def ml (a b : Nat) : Nat := a * b % 57896044618658097711785492504343953926634992332820282019728792003956564819949
theorem ad_lt (a b : Nat) : ad a b < 115792089237316195423570985008687907853269984665640564039457584007913129639936 := modp _
theorem sb_lt (a b : Nat) : sb a b < 115792089237316195423570985008687907853269984665640564039457584007913129639936 := modp _
theorem ml_lt (a b : Nat) : ml a b < 115792089237316195423570985008687907853269984665640564039457584007913129639936 := modp _
def eeN (x z : Nat) : Nat := sb (ml (ad x z) (ad x z)) (ml (sb x z) (sb x z))
def dX (x z : Nat) : Nat := ml (ml (ad x z) (ad x z)) (ml (sb x z) (sb x z))
def dZ (x z : Nat) : Nat := ml (eeN x z) (ad (ml (ad x z) (ad x z)) (ml 121665 (eeN x z)))
def cA (x z u v : Nat) : Nat := ml (sb u v) (ad x z)
def cB (x z u v : Nat) : Nat := ml (ad u v) (sb x z)
def sX (x z u v : Nat) : Nat := ml (ad (cA x z u v) (cB x z u v)) (ad (cA x z u v) (cB x z u v))
def sZ (t x z u v : Nat) : Nat := ml t (ml (sb (cA x z u v) (cB x z u v)) (sb (cA x z u v) (cB x z u v)))
theorem dX_lt (x z : Nat) : dX x z < 115792089237316195423570985008687907853269984665640564039457584007913129639936 := ml_lt _ _
theorem dZ_lt (x z : Nat) : dZ x z < 115792089237316195423570985008687907853269984665640564039457584007913129639936 := ml_lt _ _
theorem sX_lt (x z u v : Nat) : sX x z u v < 115792089237316195423570985008687907853269984665640564039457584007913129639936 := ml_lt _ _
theorem sZ_lt (t x z u v : Nat) : sZ t x z u v < 115792089237316195423570985008687907853269984665640564039457584007913129639936 := ml_lt _ _

theorem lt2k {a b : Nat} (ha : a < 115792089237316195423570985008687907853269984665640564039457584007913129639936) (hb : b < 115792089237316195423570985008687907853269984665640564039457584007913129639936) : ∀ n ∈ [a, b], n < 115792089237316195423570985008687907853269984665640564039457584007913129639936 := fun n hn => by
  rcases List.mem_cons.1 hn with h | h
  · rw [h]; exact ha
  · rw [List.mem_singleton.1 h]; exact hb
theorem sum2 (a b : Nat) : sumN [a, b] = a + b := by simp [sumN]
theorem fill_rtK (a b : Nat) {A : Array Value} (hA : A.size = 8) : Instr.fill (fun i => [(0, 4), (4, 4)][i]?) A [(0, .agg (el a).toArray), (1, .agg (el b).toArray)] = some (rt a b).toArray := by
  rw [fill_stp (C := el a) (off := 0) (s := 4) rfl rfl rfl (by omega), List.take_zero, List.nil_append]
  have hd : (A.toList.drop (0 + 4)).length = 4 := by rw [List.length_drop, Array.length_toList]; omega
  generalize A.toList.drop (0 + 4) = D at hd
  rw [fill_stp (C := el b) (off := 4) (s := 4) rfl rfl rfl (by rw [List.size_toArray, List.length_append, hd, el_length]; omega)]
  rw [show (el a ++ D).toArray.toList.take 4 = el a from List.take_left' (el_length a), show (el a ++ D).toArray.toList.drop (4 + 4) = [] from by
    show (el a ++ D).drop (4 + 4) = []
    exact List.drop_of_length_le (by rw [List.length_append, hd, el_length]; omega)]
  simp [Instr.fill, rt]

theorem SumK (w : World) {q : Option Addr} (d : Nat) {a b : Nat} (hq : RdV w q (elsC [a, b])) (ha : a < 115792089237316195423570985008687907853269984665640564039457584007913129639936) (hb : b < 115792089237316195423570985008687907853269984665640564039457584007913129639936) :
    Spec Try.prog 41 #[.slice q 2 d] w (σ := Unit) (fun _ => True) (fun _ => .agg (el (ad a b)).toArray) Nob (fun _ => []) := by
  have h := Sum_b w d hq rfl (lt2k ha hb) (show 2 ≤ 4398046511104 by omega)
  rwa [sum2] at h
theorem ProductK (w : World) {q : Option Addr} (d : Nat) {a b : Nat} (hq : RdV w q (elsC [a, b])) (ha : a < 115792089237316195423570985008687907853269984665640564039457584007913129639936) (hb : b < 115792089237316195423570985008687907853269984665640564039457584007913129639936) :
    Spec Try.prog 43 #[.slice q 2 d] w (σ := Unit) (fun _ => True) (fun _ => .agg (el (ml a b)).toArray) Nob (fun _ => []) := by
  have h := Product_b w d hq rfl (lt2k ha hb) (show 2 ≤ 4398046511104 by omega)
  rwa [prod2] at h
theorem SubK (w : World) {a b : Nat} (ha : a < 115792089237316195423570985008687907853269984665640564039457584007913129639936) (hb : b < 115792089237316195423570985008687907853269984665640564039457584007913129639936) : Spec Try.prog 42 #[.agg (el a).toArray, .agg (el b).toArray] w (σ := Unit) (fun _ => True) (fun _ => .agg (el (sb a b)).toArray) Nob (fun _ => []) := SubE_b w a b ha hb
theorem SquareK (w : World) {a : Nat} (ha : a < 115792089237316195423570985008687907853269984665640564039457584007913129639936) : Spec Try.prog 44 #[.agg (el a).toArray] w (σ := Unit) (fun _ => True) (fun _ => .agg (el (ml a a)).toArray) Nob (fun _ => []) := Square_b w a ha

theorem step_b (w : World) {x z u v t : Nat} (hx : x < 115792089237316195423570985008687907853269984665640564039457584007913129639936) (hz : z < 115792089237316195423570985008687907853269984665640564039457584007913129639936) (hu : u < 115792089237316195423570985008687907853269984665640564039457584007913129639936) (hv : v < 115792089237316195423570985008687907853269984665640564039457584007913129639936) (ht : t < 115792089237316195423570985008687907853269984665640564039457584007913129639936) :
    Spec Try.prog 30 #[.agg (rt x z).toArray, .agg (rt u v).toArray, .agg (el t).toArray] w (σ := Unit) (fun _ => True) (fun _ => .tuple #[.agg (rt (dX x z) (dZ x z)).toArray, .agg (rt (sX x z u v) (sZ t x z u v)).toArray]) Nob (fun _ => []) := by
  refine enter Try.func30 rfl rfl (Mem.start w) ?_
  have hA := ad_lt x z
  have hB := sb_lt x z
  have hC := ad_lt u v
  have hD := sb_lt u v
  have hAA := ml_lt (ad x z) (ad x z)
  have hBB := ml_lt (sb x z) (sb x z)
  have hEE : eeN x z < 115792089237316195423570985008687907853269984665640564039457584007913129639936 := sb_lt _ _
  have hDA : cA x z u v < 115792089237316195423570985008687907853269984665640564039457584007913129639936 := ml_lt _ _
  have hCB : cB x z u v < 115792089237316195423570985008687907853269984665640564039457584007913129639936 := ml_lt _ _
  (repeat refine g_seq ?_)
  refine g_region ?_
  refine g_lo [3] rfl rfl rfl rfl (lo_box rfl rfl) (fun b3 hb3 => ?_)
  refine g_lo [4] rfl rfl rfl rfl (lo_box rfl rfl) (fun b4 hb4 => ?_)
  refine g_lo [5] rfl rfl rfl rfl (lo_box rfl rfl) (fun b5 hb5 => ?_)
  refine g_lo [6] rfl rfl rfl rfl (lo_alloc rfl) (fun b6 hb6 => ?_)
  refine g_lo [7] rfl rfl rfl rfl (lo_alloc rfl) (fun b7 hb7 => ?_)
  refine g_nil ?_
  (repeat refine g_seq ?_)
  refine g_any (13, []) ?_
  refine a_pu 0 rfl rfl rfl rfl (pu_fieldAddr (by decide) rfl rfl) rfl rfl (by kernel_rfl) ?_
  refine a_pu 1 rfl rfl rfl rfl (pu_loadE 3 (el x).toArray rfl rfl rfl (show 0 + 0 + 4 ≤ (rt x z).toArray.size from (by decide : 4 ≤ 8)) (rt_fst x z)) rfl rfl (by kernel_rfl) ?_
  refine a_pu 2 rfl rfl rfl rfl (pu_fieldAddr (by decide) rfl rfl) rfl rfl (by kernel_rfl) ?_
  refine a_pu 3 rfl rfl rfl rfl (pu_loadE 3 (el z).toArray rfl rfl rfl (show 0 + 4 + 4 ≤ (rt x z).toArray.size from (by decide : 8 ≤ 8)) (rt_snd x z)) rfl rfl (by kernel_rfl) ?_
  refine a_pu 6 rfl rfl rfl rfl (pu_fieldAddr (by decide) rfl rfl) rfl rfl (by kernel_rfl) ?_
  refine a_pu 7 rfl rfl rfl rfl (pu_loadE 3 (el x).toArray rfl rfl rfl (show 0 + 0 + 4 ≤ (rt x z).toArray.size from (by decide : 4 ≤ 8)) (rt_fst x z)) rfl rfl (by kernel_rfl) ?_
  refine a_pu 8 rfl rfl rfl rfl (pu_fieldAddr (by decide) rfl rfl) rfl rfl (by kernel_rfl) ?_
  refine a_pu 9 rfl rfl rfl rfl (pu_loadE 3 (el z).toArray rfl rfl rfl (show 0 + 4 + 4 ≤ (rt x z).toArray.size from (by decide : 8 ≤ 8)) (rt_snd x z)) rfl rfl (by kernel_rfl) ?_
  refine a_pendA 11 8 8 56 ?_
  refine a_pendA 12 9 9 56 ?_
  refine a_do 4 23 [23] (does_lo rfl rfl rfl (lo_buildSlice rfl rfl (by decide) (by decide) rfl rfl)) rfl rfl (by kernel_rfl) rfl rfl (by kernel_rfl) (by kernel_rfl) (by kernel_rfl) rfl (fun p hp => by simp only [List.mem_cons, List.not_mem_nil, or_false] at hp; rcases hp with rfl | rfl <;> first | exact does_PA rfl rfl rfl rfl | exact does_PB rfl rfl rfl rfl rfl (by decide) (by decide) rfl rfl) ?_; rintro v_ cs_ ⟨b23, hb23, rfl, rfl⟩
  refine a_do 5 24 [] (does_call rfl rfl rfl rfl rfl (fun w' hm => SumK w' 2 (hm.rowA 23 (L := elsC [x, z]) rfl) hx hz)) rfl rfl (by kernel_rfl) rfl rfl (by kernel_rfl) (by kernel_rfl) (by kernel_rfl) rfl (fun p hp => by simp only [List.mem_cons, List.not_mem_nil, or_false] at hp; rcases hp with rfl | rfl <;> first | exact does_PA rfl rfl rfl rfl | exact does_PB rfl rfl rfl rfl rfl (by decide) (by decide) rfl rfl) ?_; rintro v_ cs_ ⟨_, _, rfl, rfl⟩
  refine a_do 10 29 [] (does_call rfl rfl rfl rfl rfl (fun w' hm => SubK w' hx hz)) rfl rfl (by kernel_rfl) rfl rfl (by kernel_rfl) (by kernel_rfl) (by kernel_rfl) rfl (fun p hp => by simp only [List.mem_cons, List.not_mem_nil, or_false] at hp; rcases hp with rfl | rfl <;> first | exact does_PA rfl rfl rfl rfl | exact does_PB rfl rfl rfl rfl rfl (by decide) (by decide) rfl rfl) ?_; rintro v_ cs_ ⟨_, _, rfl, rfl⟩
  refine a_force _ (by kernel_rfl) rfl rfl rfl (by kernel_rfl) (by kernel_rfl) (by kernel_rfl) rfl (fun p hp => by simp only [List.mem_cons, List.not_mem_nil, or_false] at hp; rcases hp with rfl | rfl <;> first | exact does_PA rfl rfl rfl rfl | exact does_PB rfl rfl rfl rfl rfl (by decide) (by decide) rfl rfl) ?_; rintro v_ cs_ ⟨b9, hb9, rfl, rfl⟩
  refine a_force _ (by kernel_rfl) rfl rfl rfl (by kernel_rfl) (by kernel_rfl) (by kernel_rfl) rfl (fun p hp => by simp only [List.mem_cons, List.not_mem_nil, or_false] at hp; subst hp; first | exact does_PA rfl rfl rfl rfl | exact does_PB rfl rfl rfl rfl rfl (by decide) (by decide) rfl rfl) ?_; rintro v_ cs_ ⟨q8, hb8, rfl, rfl⟩
  refine a_tail [13, 14] (by kernel_rfl) rfl rfl (by kernel_rfl) ?_
  refine g_storeL 8 (s := 4) (C := el (ad x z)) rfl rfl rfl rfl rfl rfl rfl rfl (oneCell_el _) ?_
  refine g_storeL 9 (s := 4) (C := el (sb x z)) rfl rfl rfl rfl rfl rfl rfl rfl (oneCell_el _) ?_
  refine g_nil ?_
  (repeat refine g_seq ?_)
  refine g_any (13, []) ?_
  refine a_pu 0 rfl rfl rfl rfl (pu_fieldAddr (by decide) rfl rfl) rfl rfl (by kernel_rfl) ?_
  refine a_pu 1 rfl rfl rfl rfl (pu_loadE 4 (el u).toArray rfl rfl rfl (show 0 + 0 + 4 ≤ (rt u v).toArray.size from (by decide : 4 ≤ 8)) (rt_fst u v)) rfl rfl (by kernel_rfl) ?_
  refine a_pu 2 rfl rfl rfl rfl (pu_fieldAddr (by decide) rfl rfl) rfl rfl (by kernel_rfl) ?_
  refine a_pu 3 rfl rfl rfl rfl (pu_loadE 4 (el v).toArray rfl rfl rfl (show 0 + 4 + 4 ≤ (rt u v).toArray.size from (by decide : 8 ≤ 8)) (rt_snd u v)) rfl rfl (by kernel_rfl) ?_
  refine a_pu 6 rfl rfl rfl rfl (pu_fieldAddr (by decide) rfl rfl) rfl rfl (by kernel_rfl) ?_
  refine a_pu 7 rfl rfl rfl rfl (pu_loadE 4 (el u).toArray rfl rfl rfl (show 0 + 0 + 4 ≤ (rt u v).toArray.size from (by decide : 4 ≤ 8)) (rt_fst u v)) rfl rfl (by kernel_rfl) ?_
  refine a_pu 8 rfl rfl rfl rfl (pu_fieldAddr (by decide) rfl rfl) rfl rfl (by kernel_rfl) ?_
  refine a_pu 9 rfl rfl rfl rfl (pu_loadE 4 (el v).toArray rfl rfl rfl (show 0 + 4 + 4 ≤ (rt u v).toArray.size from (by decide : 8 ≤ 8)) (rt_snd u v)) rfl rfl (by kernel_rfl) ?_
  refine a_pendA 11 10 10 56 ?_
  refine a_pendA 12 11 11 56 ?_
  refine a_do 4 34 [34] (does_lo rfl rfl rfl (lo_buildSlice rfl rfl (by decide) (by decide) rfl rfl)) rfl rfl (by kernel_rfl) rfl rfl (by kernel_rfl) (by kernel_rfl) (by kernel_rfl) rfl (fun p hp => by simp only [List.mem_cons, List.not_mem_nil, or_false] at hp; rcases hp with rfl | rfl <;> first | exact does_PA rfl rfl rfl rfl | exact does_PB rfl rfl rfl rfl rfl (by decide) (by decide) rfl rfl) ?_; rintro v_ cs_ ⟨b34, hb34, rfl, rfl⟩
  refine a_do 5 35 [] (does_call rfl rfl rfl rfl rfl (fun w' hm => SumK w' 2 (hm.rowA 34 (L := elsC [u, v]) rfl) hu hv)) rfl rfl (by kernel_rfl) rfl rfl (by kernel_rfl) (by kernel_rfl) (by kernel_rfl) rfl (fun p hp => by simp only [List.mem_cons, List.not_mem_nil, or_false] at hp; rcases hp with rfl | rfl <;> first | exact does_PA rfl rfl rfl rfl | exact does_PB rfl rfl rfl rfl rfl (by decide) (by decide) rfl rfl) ?_; rintro v_ cs_ ⟨_, _, rfl, rfl⟩
  refine a_do 10 40 [] (does_call rfl rfl rfl rfl rfl (fun w' hm => SubK w' hu hv)) rfl rfl (by kernel_rfl) rfl rfl (by kernel_rfl) (by kernel_rfl) (by kernel_rfl) rfl (fun p hp => by simp only [List.mem_cons, List.not_mem_nil, or_false] at hp; rcases hp with rfl | rfl <;> first | exact does_PA rfl rfl rfl rfl | exact does_PB rfl rfl rfl rfl rfl (by decide) (by decide) rfl rfl) ?_; rintro v_ cs_ ⟨_, _, rfl, rfl⟩
  refine a_force _ (by kernel_rfl) rfl rfl rfl (by kernel_rfl) (by kernel_rfl) (by kernel_rfl) rfl (fun p hp => by simp only [List.mem_cons, List.not_mem_nil, or_false] at hp; rcases hp with rfl | rfl <;> first | exact does_PA rfl rfl rfl rfl | exact does_PB rfl rfl rfl rfl rfl (by decide) (by decide) rfl rfl) ?_; rintro v_ cs_ ⟨b11, hb11, rfl, rfl⟩
  refine a_force _ (by kernel_rfl) rfl rfl rfl (by kernel_rfl) (by kernel_rfl) (by kernel_rfl) rfl (fun p hp => by simp only [List.mem_cons, List.not_mem_nil, or_false] at hp; subst hp; first | exact does_PA rfl rfl rfl rfl | exact does_PB rfl rfl rfl rfl rfl (by decide) (by decide) rfl rfl) ?_; rintro v_ cs_ ⟨b10, hb10, rfl, rfl⟩
  refine a_tail [13, 14] (by kernel_rfl) rfl rfl (by kernel_rfl) ?_
  refine g_storeL 10 (s := 4) (C := el (ad u v)) rfl rfl rfl rfl rfl rfl rfl rfl (oneCell_el _) ?_
  refine g_storeL 11 (s := 4) (C := el (sb u v)) rfl rfl rfl rfl rfl rfl rfl rfl (oneCell_el _) ?_
  refine g_nil ?_
  (repeat refine g_seq ?_)
  refine g_any (10, []) ?_
  refine a_pu 0 rfl rfl rfl rfl (pu_loadW 11 (L := el (sb u v)) rfl rfl rfl rfl) rfl rfl (by kernel_rfl) ?_
  refine a_pu 1 rfl rfl rfl rfl (pu_loadW 8 (L := el (ad x z)) rfl rfl rfl rfl) rfl rfl (by kernel_rfl) ?_
  refine a_pu 4 rfl rfl rfl rfl (pu_loadW 10 (L := el (ad u v)) rfl rfl rfl rfl) rfl rfl (by kernel_rfl) ?_
  refine a_pu 5 rfl rfl rfl rfl (pu_loadW 9 (L := el (sb x z)) rfl rfl rfl rfl) rfl rfl (by kernel_rfl) ?_
  refine a_pendA 8 12 12 56 ?_
  refine a_pendA 9 13 13 56 ?_
  refine a_pendB 6 47 47 2 56 (elsC [ad u v, sb x z]) ?_
  refine a_do 2 43 [43] (does_lo rfl rfl rfl (lo_buildSlice rfl rfl (by decide) (by decide) rfl rfl)) rfl rfl (by kernel_rfl) rfl rfl (by kernel_rfl) (by kernel_rfl) (by kernel_rfl) rfl (fun p hp => by simp only [List.mem_cons, List.not_mem_nil, or_false] at hp; rcases hp with rfl | rfl | rfl <;> first | exact does_PA rfl rfl rfl rfl | exact does_PB rfl rfl rfl rfl rfl (by decide) (by decide) rfl rfl) ?_; rintro v_ cs_ ⟨b43, hb43, rfl, rfl⟩
  refine a_do 3 44 [] (does_call rfl rfl rfl rfl rfl (fun w' hm => ProductK w' 2 (hm.rowA 43 (L := elsC [sb u v, ad x z]) rfl) hD hA)) rfl rfl (by kernel_rfl) rfl rfl (by kernel_rfl) (by kernel_rfl) (by kernel_rfl) rfl (fun p hp => by simp only [List.mem_cons, List.not_mem_nil, or_false] at hp; rcases hp with rfl | rfl | rfl <;> first | exact does_PA rfl rfl rfl rfl | exact does_PB rfl rfl rfl rfl rfl (by decide) (by decide) rfl rfl) ?_; rintro v_ cs_ ⟨_, _, rfl, rfl⟩
  refine a_force _ (by kernel_rfl) rfl rfl rfl (by kernel_rfl) (by kernel_rfl) (by kernel_rfl) rfl (fun p hp => by simp only [List.mem_cons, List.not_mem_nil, or_false] at hp; rcases hp with rfl | rfl | rfl <;> first | exact does_PA rfl rfl rfl rfl | exact does_PB rfl rfl rfl rfl rfl (by decide) (by decide) rfl rfl) ?_; rintro v_ cs_ ⟨b47, hb47, rfl, rfl⟩
  refine a_do 7 48 [] (does_call rfl rfl rfl rfl rfl (fun w' hm => ProductK w' 2 (hm.rowA 47 (L := elsC [ad u v, sb x z]) rfl) hC hB)) rfl rfl (by kernel_rfl) rfl rfl (by kernel_rfl) (by kernel_rfl) (by kernel_rfl) rfl (fun p hp => by simp only [List.mem_cons, List.not_mem_nil, or_false] at hp; rcases hp with rfl | rfl <;> first | exact does_PA rfl rfl rfl rfl | exact does_PB rfl rfl rfl rfl rfl (by decide) (by decide) rfl rfl) ?_; rintro v_ cs_ ⟨_, _, rfl, rfl⟩
  refine a_force _ (by kernel_rfl) rfl rfl rfl (by kernel_rfl) (by kernel_rfl) (by kernel_rfl) rfl (fun p hp => by simp only [List.mem_cons, List.not_mem_nil, or_false] at hp; rcases hp with rfl | rfl <;> first | exact does_PA rfl rfl rfl rfl | exact does_PB rfl rfl rfl rfl rfl (by decide) (by decide) rfl rfl) ?_; rintro v_ cs_ ⟨b13, hb13, rfl, rfl⟩
  refine a_force _ (by kernel_rfl) rfl rfl rfl (by kernel_rfl) (by kernel_rfl) (by kernel_rfl) rfl (fun p hp => by simp only [List.mem_cons, List.not_mem_nil, or_false] at hp; subst hp; first | exact does_PA rfl rfl rfl rfl | exact does_PB rfl rfl rfl rfl rfl (by decide) (by decide) rfl rfl) ?_; rintro v_ cs_ ⟨b12, hb12, rfl, rfl⟩
  refine a_tail [10, 11] (by kernel_rfl) rfl rfl (by kernel_rfl) ?_
  refine g_storeL 12 (s := 4) (C := el (cA x z u v)) rfl rfl rfl rfl rfl rfl rfl rfl (oneCell_el _) ?_
  refine g_storeL 13 (s := 4) (C := el (cB x z u v)) rfl rfl rfl rfl rfl rfl rfl rfl (oneCell_el _) ?_
  refine g_nil ?_
  (repeat refine g_seq ?_)
  refine g_any (6, []) ?_
  refine a_pu 0 rfl rfl rfl rfl (pu_loadW 8 (L := el (ad x z)) rfl rfl rfl rfl) rfl rfl (by kernel_rfl) ?_
  refine a_pu 2 rfl rfl rfl rfl (pu_loadW 9 (L := el (sb x z)) rfl rfl rfl rfl) rfl rfl (by kernel_rfl) ?_
  refine a_pendA 4 14 14 56 ?_
  refine a_pendA 5 15 15 56 ?_
  refine a_do 1 50 [] (does_call rfl rfl rfl rfl rfl (fun w' hm => SquareK w' hA)) rfl rfl (by kernel_rfl) rfl rfl (by kernel_rfl) (by kernel_rfl) (by kernel_rfl) rfl (fun p hp => by simp only [List.mem_cons, List.not_mem_nil, or_false] at hp; rcases hp with rfl | rfl <;> first | exact does_PA rfl rfl rfl rfl | exact does_PB rfl rfl rfl rfl rfl (by decide) (by decide) rfl rfl) ?_; rintro v_ cs_ ⟨_, _, rfl, rfl⟩
  refine a_do 3 52 [] (does_call rfl rfl rfl rfl rfl (fun w' hm => SquareK w' hB)) rfl rfl (by kernel_rfl) rfl rfl (by kernel_rfl) (by kernel_rfl) (by kernel_rfl) rfl (fun p hp => by simp only [List.mem_cons, List.not_mem_nil, or_false] at hp; rcases hp with rfl | rfl <;> first | exact does_PA rfl rfl rfl rfl | exact does_PB rfl rfl rfl rfl rfl (by decide) (by decide) rfl rfl) ?_; rintro v_ cs_ ⟨_, _, rfl, rfl⟩
  refine a_force _ (by kernel_rfl) rfl rfl rfl (by kernel_rfl) (by kernel_rfl) (by kernel_rfl) rfl (fun p hp => by simp only [List.mem_cons, List.not_mem_nil, or_false] at hp; rcases hp with rfl | rfl <;> first | exact does_PA rfl rfl rfl rfl | exact does_PB rfl rfl rfl rfl rfl (by decide) (by decide) rfl rfl) ?_; rintro v_ cs_ ⟨b15, hb15, rfl, rfl⟩
  refine a_force _ (by kernel_rfl) rfl rfl rfl (by kernel_rfl) (by kernel_rfl) (by kernel_rfl) rfl (fun p hp => by simp only [List.mem_cons, List.not_mem_nil, or_false] at hp; subst hp; first | exact does_PA rfl rfl rfl rfl | exact does_PB rfl rfl rfl rfl rfl (by decide) (by decide) rfl rfl) ?_; rintro v_ cs_ ⟨b14, hb14, rfl, rfl⟩
  refine a_tail [6, 7] (by kernel_rfl) rfl rfl (by kernel_rfl) ?_
  refine g_storeL 14 (s := 4) (C := el (ml (ad x z) (ad x z))) rfl rfl rfl rfl rfl rfl rfl rfl (oneCell_el _) ?_
  refine g_storeL 15 (s := 4) (C := el (ml (sb x z) (sb x z))) rfl rfl rfl rfl rfl rfl rfl rfl (oneCell_el _) ?_
  refine g_nil ?_
  (repeat refine g_seq ?_)
  refine g_region ?_
  refine g_pu rfl rfl rfl (pu_loadW 14 (L := el (ml (ad x z) (ad x z))) rfl rfl rfl rfl) ?_
  refine g_pu rfl rfl rfl (pu_loadW 15 (L := el (ml (sb x z) (sb x z))) rfl rfl rfl rfl) ?_
  refine g_call [] rfl rfl rfl rfl rfl rfl (fun w' hm => SubK w' hAA hBB) (fun _ _ => ?_)
  refine g_lo [16] rfl rfl rfl rfl (lo_alloc rfl) (fun b16 hb16 => ?_)
  refine g_storeL 16 (s := 4) (C := el (eeN x z)) rfl rfl rfl rfl rfl rfl rfl rfl (oneCell_el _) ?_
  refine g_nil ?_
  (repeat refine g_seq ?_)
  refine g_any (16, []) ?_
  refine a_pu 0 rfl rfl rfl rfl (pu_loadW 14 (L := el (ml (ad x z) (ad x z))) rfl rfl rfl rfl) rfl rfl (by kernel_rfl) ?_
  refine a_pu 1 rfl rfl rfl rfl (pu_loadW 15 (L := el (ml (sb x z) (sb x z))) rfl rfl rfl rfl) rfl rfl (by kernel_rfl) ?_
  refine a_pu 4 rfl rfl rfl rfl (pu_loadW 16 (L := el (eeN x z)) rfl rfl rfl rfl) rfl rfl (by kernel_rfl) ?_
  refine a_pu 5 rfl rfl rfl rfl (pu_loadW 14 (L := el (ml (ad x z) (ad x z))) rfl rfl rfl rfl) rfl rfl (by kernel_rfl) ?_
  refine a_pu 7 rfl rfl rfl rfl (pu_loadW 16 (L := el (eeN x z)) rfl rfl rfl rfl) rfl rfl (by kernel_rfl) ?_
  refine a_pendA 15 17 17 61 ?_
  refine a_do 2 58 [58] (does_lo rfl rfl rfl (lo_buildSlice rfl rfl (by decide) (by decide) rfl rfl)) rfl rfl (by kernel_rfl) rfl rfl (by kernel_rfl) (by kernel_rfl) (by kernel_rfl) rfl (fun p hp => by simp only [List.mem_cons, List.not_mem_nil, or_false] at hp; subst hp; first | exact does_PA rfl rfl rfl rfl | exact does_PB rfl rfl rfl rfl rfl (by decide) (by decide) rfl rfl) ?_; rintro v_ cs_ ⟨b58, hb58, rfl, rfl⟩
  refine a_do 3 59 [] (does_call rfl rfl rfl rfl rfl (fun w' hm => ProductK w' 2 (hm.rowA 58 (L := elsC [ml (ad x z) (ad x z), ml (sb x z) (sb x z)]) rfl) hAA hBB)) rfl rfl (by kernel_rfl) rfl rfl (by kernel_rfl) (by kernel_rfl) (by kernel_rfl) rfl (fun p hp => by simp only [List.mem_cons, List.not_mem_nil, or_false] at hp; subst hp; first | exact does_PA rfl rfl rfl rfl | exact does_PB rfl rfl rfl rfl rfl (by decide) (by decide) rfl rfl) ?_; rintro v_ cs_ ⟨_, _, rfl, rfl⟩
  refine a_do 6 62 [] (does_call rfl rfl rfl rfl rfl (fun w' hm => Of_b w' 121665#64)) rfl rfl (by kernel_rfl) rfl rfl (by kernel_rfl) (by kernel_rfl) (by kernel_rfl) rfl (fun p hp => by simp only [List.mem_cons, List.not_mem_nil, or_false] at hp; subst hp; first | exact does_PA rfl rfl rfl rfl | exact does_PB rfl rfl rfl rfl rfl (by decide) (by decide) rfl rfl) ?_; rintro v_ cs_ ⟨_, _, rfl, rfl⟩
  refine a_do 8 64 [64] (does_lo rfl rfl rfl (lo_buildSlice rfl rfl (by decide) (by decide) rfl rfl)) rfl rfl (by kernel_rfl) rfl rfl (by kernel_rfl) (by kernel_rfl) (by kernel_rfl) rfl (fun p hp => by simp only [List.mem_cons, List.not_mem_nil, or_false] at hp; subst hp; first | exact does_PA rfl rfl rfl rfl | exact does_PB rfl rfl rfl rfl rfl (by decide) (by decide) rfl rfl) ?_; rintro v_ cs_ ⟨q64, hb64, rfl, rfl⟩
  refine a_do 9 65 [] (does_call rfl rfl rfl rfl rfl (fun w' hm => ProductK w' 2 (hm.rowA 64 (L := elsC [121665, eeN x z]) rfl) (by decide) hEE)) rfl rfl (by kernel_rfl) rfl rfl (by kernel_rfl) (by kernel_rfl) (by kernel_rfl) rfl (fun p hp => by simp only [List.mem_cons, List.not_mem_nil, or_false] at hp; subst hp; first | exact does_PA rfl rfl rfl rfl | exact does_PB rfl rfl rfl rfl rfl (by decide) (by decide) rfl rfl) ?_; rintro v_ cs_ ⟨_, _, rfl, rfl⟩
  refine a_do 10 66 [66] (does_lo rfl rfl rfl (lo_buildSlice rfl rfl (by decide) (by decide) rfl rfl)) rfl rfl (by kernel_rfl) rfl rfl (by kernel_rfl) (by kernel_rfl) (by kernel_rfl) rfl (fun p hp => by simp only [List.mem_cons, List.not_mem_nil, or_false] at hp; subst hp; first | exact does_PA rfl rfl rfl rfl | exact does_PB rfl rfl rfl rfl rfl (by decide) (by decide) rfl rfl) ?_; rintro v_ cs_ ⟨b66, hb66, rfl, rfl⟩
  refine a_do 11 67 [] (does_call rfl rfl rfl rfl rfl (fun w' hm => SumK w' 2 (hm.rowA 66 (L := elsC [ml (ad x z) (ad x z), ml 121665 (eeN x z)]) rfl) hAA (ml_lt _ _))) rfl rfl (by kernel_rfl) rfl rfl (by kernel_rfl) (by kernel_rfl) (by kernel_rfl) rfl (fun p hp => by simp only [List.mem_cons, List.not_mem_nil, or_false] at hp; subst hp; first | exact does_PA rfl rfl rfl rfl | exact does_PB rfl rfl rfl rfl rfl (by decide) (by decide) rfl rfl) ?_; rintro v_ cs_ ⟨_, _, rfl, rfl⟩
  refine a_do 12 68 [68] (does_lo rfl rfl rfl (lo_buildSlice rfl rfl (by decide) (by decide) rfl rfl)) rfl rfl (by kernel_rfl) rfl rfl (by kernel_rfl) (by kernel_rfl) (by kernel_rfl) rfl (fun p hp => by simp only [List.mem_cons, List.not_mem_nil, or_false] at hp; subst hp; first | exact does_PA rfl rfl rfl rfl | exact does_PB rfl rfl rfl rfl rfl (by decide) (by decide) rfl rfl) ?_; rintro v_ cs_ ⟨b68, hb68, rfl, rfl⟩
  refine a_do 13 69 [] (does_call rfl rfl rfl rfl rfl (fun w' hm => ProductK w' 2 (hm.rowA 68 (L := elsC [eeN x z, ad (ml (ad x z) (ad x z)) (ml 121665 (eeN x z))]) rfl) hEE (ad_lt _ _))) rfl rfl (by kernel_rfl) rfl rfl (by kernel_rfl) (by kernel_rfl) (by kernel_rfl) rfl (fun p hp => by simp only [List.mem_cons, List.not_mem_nil, or_false] at hp; subst hp; first | exact does_PA rfl rfl rfl rfl | exact does_PB rfl rfl rfl rfl rfl (by decide) (by decide) rfl rfl) ?_; rintro v_ cs_ ⟨_, _, rfl, rfl⟩
  refine a_pu 14 rfl rfl rfl rfl (pu_buildS (cs := rt (dX x z) (dZ x z)) rfl rfl (fill_rtK _ _ rfl)) rfl rfl (by kernel_rfl) ?_
  refine a_force _ (by kernel_rfl) rfl rfl rfl (by kernel_rfl) (by kernel_rfl) (by kernel_rfl) rfl (fun p hp => by simp only [List.mem_cons, List.not_mem_nil, or_false] at hp; subst hp; first | exact does_PA rfl rfl rfl rfl | exact does_PB rfl rfl rfl rfl rfl (by decide) (by decide) rfl rfl) ?_; rintro v_ cs_ ⟨b17, hb17, rfl, rfl⟩
  refine a_tail [16] (by kernel_rfl) rfl rfl (by kernel_rfl) ?_
  refine g_storeL 17 (s := 8) (C := rt (dX x z) (dZ x z)) rfl rfl rfl rfl rfl rfl rfl rfl (oneCell_rt _ _) ?_
  refine g_nil ?_
  (repeat refine g_seq ?_)
  refine g_any (14, []) ?_
  refine a_pu 0 rfl rfl rfl rfl (pu_loadW 12 (L := el (cA x z u v)) rfl rfl rfl rfl) rfl rfl (by kernel_rfl) ?_
  refine a_pu 1 rfl rfl rfl rfl (pu_loadW 13 (L := el (cB x z u v)) rfl rfl rfl rfl) rfl rfl (by kernel_rfl) ?_
  refine a_pu 5 rfl rfl rfl rfl (pu_loadW 5 (L := el t) rfl rfl rfl rfl) rfl rfl (by kernel_rfl) ?_
  refine a_pu 6 rfl rfl rfl rfl (pu_loadW 12 (L := el (cA x z u v)) rfl rfl rfl rfl) rfl rfl (by kernel_rfl) ?_
  refine a_pu 7 rfl rfl rfl rfl (pu_loadW 13 (L := el (cB x z u v)) rfl rfl rfl rfl) rfl rfl (by kernel_rfl) ?_
  refine a_pendA 13 18 18 61 ?_
  refine a_do 2 73 [73] (does_lo rfl rfl rfl (lo_buildSlice rfl rfl (by decide) (by decide) rfl rfl)) rfl rfl (by kernel_rfl) rfl rfl (by kernel_rfl) (by kernel_rfl) (by kernel_rfl) rfl (fun p hp => by simp only [List.mem_cons, List.not_mem_nil, or_false] at hp; subst hp; first | exact does_PA rfl rfl rfl rfl | exact does_PB rfl rfl rfl rfl rfl (by decide) (by decide) rfl rfl) ?_; rintro v_ cs_ ⟨b73, hb73, rfl, rfl⟩
  refine a_do 3 74 [] (does_call rfl rfl rfl rfl rfl (fun w' hm => SumK w' 2 (hm.rowA 73 (L := elsC [cA x z u v, cB x z u v]) rfl) hDA hCB)) rfl rfl (by kernel_rfl) rfl rfl (by kernel_rfl) (by kernel_rfl) (by kernel_rfl) rfl (fun p hp => by simp only [List.mem_cons, List.not_mem_nil, or_false] at hp; subst hp; first | exact does_PA rfl rfl rfl rfl | exact does_PB rfl rfl rfl rfl rfl (by decide) (by decide) rfl rfl) ?_; rintro v_ cs_ ⟨_, _, rfl, rfl⟩
  refine a_do 4 75 [] (does_call rfl rfl rfl rfl rfl (fun w' hm => SquareK w' (ad_lt _ _))) rfl rfl (by kernel_rfl) rfl rfl (by kernel_rfl) (by kernel_rfl) (by kernel_rfl) rfl (fun p hp => by simp only [List.mem_cons, List.not_mem_nil, or_false] at hp; subst hp; first | exact does_PA rfl rfl rfl rfl | exact does_PB rfl rfl rfl rfl rfl (by decide) (by decide) rfl rfl) ?_; rintro v_ cs_ ⟨_, _, rfl, rfl⟩
  refine a_do 8 79 [] (does_call rfl rfl rfl rfl rfl (fun w' hm => SubK w' hDA hCB)) rfl rfl (by kernel_rfl) rfl rfl (by kernel_rfl) (by kernel_rfl) (by kernel_rfl) rfl (fun p hp => by simp only [List.mem_cons, List.not_mem_nil, or_false] at hp; subst hp; first | exact does_PA rfl rfl rfl rfl | exact does_PB rfl rfl rfl rfl rfl (by decide) (by decide) rfl rfl) ?_; rintro v_ cs_ ⟨_, _, rfl, rfl⟩
  refine a_do 9 80 [] (does_call rfl rfl rfl rfl rfl (fun w' hm => SquareK w' (sb_lt _ _))) rfl rfl (by kernel_rfl) rfl rfl (by kernel_rfl) (by kernel_rfl) (by kernel_rfl) rfl (fun p hp => by simp only [List.mem_cons, List.not_mem_nil, or_false] at hp; subst hp; first | exact does_PA rfl rfl rfl rfl | exact does_PB rfl rfl rfl rfl rfl (by decide) (by decide) rfl rfl) ?_; rintro v_ cs_ ⟨_, _, rfl, rfl⟩
  refine a_do 10 81 [81] (does_lo rfl rfl rfl (lo_buildSlice rfl rfl (by decide) (by decide) rfl rfl)) rfl rfl (by kernel_rfl) rfl rfl (by kernel_rfl) (by kernel_rfl) (by kernel_rfl) rfl (fun p hp => by simp only [List.mem_cons, List.not_mem_nil, or_false] at hp; subst hp; first | exact does_PA rfl rfl rfl rfl | exact does_PB rfl rfl rfl rfl rfl (by decide) (by decide) rfl rfl) ?_; rintro v_ cs_ ⟨b81, hb81, rfl, rfl⟩
  refine a_do 11 82 [] (does_call rfl rfl rfl rfl rfl (fun w' hm => ProductK w' 2 (hm.rowA 81 (L := elsC [t, ml (sb (cA x z u v) (cB x z u v)) (sb (cA x z u v) (cB x z u v))]) rfl) ht (ml_lt _ _))) rfl rfl (by kernel_rfl) rfl rfl (by kernel_rfl) (by kernel_rfl) (by kernel_rfl) rfl (fun p hp => by simp only [List.mem_cons, List.not_mem_nil, or_false] at hp; subst hp; first | exact does_PA rfl rfl rfl rfl | exact does_PB rfl rfl rfl rfl rfl (by decide) (by decide) rfl rfl) ?_; rintro v_ cs_ ⟨_, _, rfl, rfl⟩
  refine a_pu 12 rfl rfl rfl rfl (pu_buildS (cs := rt (sX x z u v) (sZ t x z u v)) rfl rfl (fill_rtK _ _ rfl)) rfl rfl (by kernel_rfl) ?_
  refine a_force _ (by kernel_rfl) rfl rfl rfl (by kernel_rfl) (by kernel_rfl) (by kernel_rfl) rfl (fun p hp => by simp only [List.mem_cons, List.not_mem_nil, or_false] at hp; subst hp; first | exact does_PA rfl rfl rfl rfl | exact does_PB rfl rfl rfl rfl rfl (by decide) (by decide) rfl rfl) ?_; rintro v_ cs_ ⟨b18, hb18, rfl, rfl⟩
  refine a_tail [14] (by kernel_rfl) rfl rfl (by kernel_rfl) ?_
  refine g_storeL 18 (s := 8) (C := rt (sX x z u v) (sZ t x z u v)) rfl rfl rfl rfl rfl rfl rfl rfl (oneCell_rt _ _) ?_
  refine g_nil ?_
  (repeat refine g_seq ?_)
  refine g_anyK [(17, .pt b17 (.cells (rt (dX x z) (dZ x z)).toArray 61 (0, 0))), (18, .pt b18 (.cells (rt (sX x z u v) (sZ t x z u v)).toArray 61 (0, 0)))] ?_
  refine a_puK 0 rfl rfl rfl rfl ⟨rfl, rfl, trivial⟩ (pu_loadW 17 (L := rt (dX x z) (dZ x z)) rfl rfl rfl rfl) (by kernel_rfl) ?_
  refine a_puK 1 rfl rfl rfl rfl ⟨rfl, rfl, trivial⟩ (pu_loadW 18 (L := rt (sX x z u v) (sZ t x z u v)) rfl rfl rfl rfl) (by kernel_rfl) ?_
  refine a_stK 2 rfl rfl rfl (st_rowF 6 (s := 8) (C := rt (dX x z) (dZ x z)) rfl rfl rfl rfl rfl rfl (oneCell_rt _ _)) ⟨rfl, rfl, trivial⟩ (by kernel_rfl) ?_
  refine a_stK 3 rfl rfl rfl (st_rowF 7 (s := 8) (C := rt (sX x z u v) (sZ t x z u v)) rfl rfl rfl rfl rfl rfl (oneCell_rt _ _)) ⟨rfl, rfl, trivial⟩ (by kernel_rfl) ?_
  refine a_doneK (by kernel_rfl) ?_
  exact g_retLL 6 7 (L := rt (dX x z) (dZ x z)) (L' := rt (sX x z u v) (sZ t x z u v)) rfl rfl rfl rfl rfl rfl rfl (fun w' hm => ⟨(), trivial, rfl, hm.grows [] trivial rfl⟩)
end Go.Sx
