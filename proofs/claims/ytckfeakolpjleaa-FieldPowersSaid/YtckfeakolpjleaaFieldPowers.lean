/-
  FieldPowers: every power is the number's, and exponents that are added multiply the powers. The element has four limbs; the bytes fit memory.
-/
import Derived.Test.YtckfeakolpjleaaFieldForms
import Derived.Test.YtckfeakolpjleaaC2
set_option linter.unusedVariables false
set_option linter.unusedSimpArgs false
namespace Go.Sx
open Go Go.Proofs

theorem By.pre {w : World} {p : Option Addr} {n : Nat} {l : List (BitVec 8)} (h : By w p n l) {k : Nat} (hk : k ≤ n) : By w p k (l.take k) :=
  ⟨RdV.take (L' := bs (l.drop k)) (by rw [← bs_append, List.take_append_drop]; exact h.rd), by rw [List.length_take, h.len]; omega, by have := h.big; omega⟩
theorem numB_step (l : List (BitVec 8)) (i : Nat) : numB (l.take (i + 1)) = numB (l.take i) + 256 ^ i * (l.getD i 0#8).toNat := by
  by_cases h : i < l.length
  · exact numB_take (getDb h)
  · rw [List.take_of_length_le (by omega), List.take_of_length_le (by omega), List.getD_eq_getElem?_getD, List.getElem?_eq_none (by omega)]; rfl
theorem numB_snoc (S : List (BitVec 8)) (x : BitVec 8) : numB (S ++ [x]) = numB S + 256 ^ S.length * x.toNat := by
  have h := numB_take (l := S ++ [x]) (i := S.length) (x := x) (by simp)
  rw [List.take_of_length_le (by simp), List.take_left' rfl] at h
  exact h
theorem carry_pow {E F N P de df c r q : Nat} (h : E + F = N + P * c) (ht : c + de + df = r + 256 * q) : (E + P * de) + (F + P * df) = (N + P * r) + P * 256 * q := by
  have h2 := congrArg (P * ·) ht
  simp only [Nat.mul_add] at h2
  rw [Nat.mul_assoc]
  omega
theorem pow_sum {x a b s : Nat} (h : a + b = s) : x ^ s % 57896044618658097711785492504343953926634992332820282019728792003956564819949 = (x ^ a % 57896044618658097711785492504343953926634992332820282019728792003956564819949) * (x ^ b % 57896044618658097711785492504343953926634992332820282019728792003956564819949) % 57896044618658097711785492504343953926634992332820282019728792003956564819949 := by
  rw [← h, Nat.pow_add]; exact Nat.mul_mod ..

theorem lt2p {a b : Nat} (ha : a < 115792089237316195423570985008687907853269984665640564039457584007913129639936) (hb : b < 115792089237316195423570985008687907853269984665640564039457584007913129639936) : ∀ n ∈ [a, b], n < 115792089237316195423570985008687907853269984665640564039457584007913129639936 := fun n hn => by
  rcases List.mem_cons.1 hn with h | h
  · rw [h]; exact ha
  · rw [List.mem_singleton.1 h]; exact hb
theorem Product2p_b (w : World) {q : Option Addr} (d : Nat) {a b : Nat} (hq : RdV w q (elsC [a, b])) (ha : a < 115792089237316195423570985008687907853269984665640564039457584007913129639936) (hb : b < 115792089237316195423570985008687907853269984665640564039457584007913129639936) :
    Spec Try.prog 18 #[.slice q 2 d] w (σ := Unit) (fun _ => True) (fun _ => .agg (el (a * b % 57896044618658097711785492504343953926634992332820282019728792003956564819949)).toArray) Nob (fun _ => []) := by
  have h := Product_b w d hq rfl (lt2p ha hb) (show 2 ≤ 4398046511104 by omega)
  rwa [prod2] at h
theorem pow255 : 2 ^ numB [255#8] % 57896044618658097711785492504343953926634992332820282019728792003956564819949 = 19 := by
  rw [show numB [255#8] = 255 from rfl]
theorem Power255_b (w : World) {p : Option Addr} {c : Nat} (h : By w p 1 [255#8]) : Spec Try.prog 12 #[.agg (el 2).toArray, .slice p 1 c] w (σ := Unit) (fun _ => True) (fun _ => .agg (el 19).toArray) Nob (fun _ => []) := by
  have h := Power_b w 2 (by decide) c h
  rwa [pow255] at h

theorem FieldPowers_spec (w : World) {qa : List (BitVec 64)} (hqa : qa.length = 4) {p q : Option Addr} {n m : Nat} (c d : Nat) {l k : List (BitVec 8)} (hl : By w p n l) (hk : By w q m k) (hc : n ≤ c) (hd : m ≤ d) : Spec Try.prog 3 #[.agg (qs qa).toArray, .slice p n c, .slice q m d] w (σ := Unit) (fun _ => True) (fun _ => .bool true) Nob (fun _ => []) := by
  have ha := numL4_lt hqa
  rw [el_of hqa]
  generalize numL qa = a at ha
  refine enter Try.func3 rfl rfl (Mem.start w) ?_
  (repeat refine g_seq ?_)
  refine g_region ?_
  refine g_lo [3] rfl rfl rfl rfl (lo_box rfl rfl) (fun b3 hb3 => ?_)
  refine g_pu rfl rfl rfl (pu_assign rfl rfl) ?_
  refine g_nil ?_
  (repeat refine g_seq ?_)
  refine g_region ?_
  refine g_call [] rfl rfl rfl rfl rfl rfl (fun w' hm => awake05_b w') (fun _ _ => ?_)
  refine g_pu rfl rfl rfl (pu_not rfl rfl) ?_
  refine g_pu rfl rfl rfl (pu_move rfl rfl) ?_
  refine g_call [] rfl rfl rfl rfl rfl rfl (fun w' hm => Of_b w' 2#64) (fun _ _ => ?_)
  first | (refine g_pass rfl rfl rfl ?_) | (refine g_lo [15] rfl rfl rfl rfl (lo_buildSlice rfl rfl (by decide) (by decide) rfl rfl) (fun b15 hb15 => ?_))
  refine g_call [] rfl rfl rfl rfl rfl rfl (fun w' hm => Power255_b w' (By.full 15 rfl hm rfl (by omega))) (fun _ _ => ?_)
  refine g_call [] rfl rfl rfl rfl rfl rfl (fun w' hm => Of_b w' 19#64) (fun _ _ => ?_)
  refine g_call [] rfl rfl rfl rfl rfl rfl (fun w' hm => Is_t w' 19 19 (by decide) (by decide) rfl) (fun _ _ => ?_)
  first | refine g_pass rfl rfl rfl ?_ | refine g_pu rfl rfl rfl (pu_not rfl rfl) ?_
  first | refine g_pu rfl rfl rfl (pu_pick_t rfl rfl rfl) ?_ | refine g_pu rfl rfl rfl (pu_pick_f rfl rfl rfl) ?_
  refine g_nil ?_
  (repeat refine g_seq ?_)
  refine g_cond_f rfl (g_skip ?_)
  refine g_seq ?_
  refine g_join (σ := Nat × List (BitVec 8)) (fun x => [(1, .slice p x.1 c), (2, .slice q m d), (3, .pointer (some ⟨b3, 0, none⟩))]) (fun _ => [(3, .pt b3 (.cells (el a).toArray 24 (0, 0)))]) (fun x => By w p x.1 x.2 ∧ x.1 ≤ 40) ?_ (fun x hx => ?_)
  · by_cases h40 : n > 40
    · (repeat refine g_seq ?_)
      refine g_region ?_
      refine g_pu rfl rfl rfl (pu_move rfl rfl) ?_
      first | refine g_pu rfl rfl rfl (pu_len rfl rfl) ?_ | refine g_pu rfl rfl rfl (pu_lenS rfl rfl) ?_
      first | refine g_pu rfl rfl rfl (pu_gtr_t rfl rfl rfl (by omega)) ?_ | refine g_pu rfl rfl rfl (pu_gtr_f rfl rfl rfl (by omega)) ?_ | refine g_pu rfl rfl rfl (pu_gtr rfl rfl rfl) ?_
      refine g_nil ?_
      (repeat refine g_seq ?_)
      refine g_cond_t rfl ?_
      (repeat refine g_seq ?_)
      refine g_region ?_
      refine g_pu rfl rfl rfl (pu_move rfl rfl) ?_
      refine g_pu rfl rfl rfl (pu_slice_h 40 rfl rfl rfl rfl (by omega)) ?_
      refine g_pu rfl rfl rfl (pu_assign rfl rfl) ?_
      refine g_nil ?_
      exact g_meet (40, l.take 40) ⟨hl.pre (by omega), by omega⟩ ⟨rfl, rfl, rfl, trivial⟩ ⟨rfl, trivial⟩
    · (repeat refine g_seq ?_)
      refine g_region ?_
      refine g_pu rfl rfl rfl (pu_move rfl rfl) ?_
      first | refine g_pu rfl rfl rfl (pu_len rfl rfl) ?_ | refine g_pu rfl rfl rfl (pu_lenS rfl rfl) ?_
      first | refine g_pu rfl rfl rfl (pu_gtr_t rfl rfl rfl (by omega)) ?_ | refine g_pu rfl rfl rfl (pu_gtr_f rfl rfl rfl (by omega)) ?_ | refine g_pu rfl rfl rfl (pu_gtr rfl rfl rfl) ?_
      refine g_nil ?_
      (repeat refine g_seq ?_)
      refine g_cond_f rfl (g_skip ?_)
      exact g_meet (n, l) ⟨hl, by omega⟩ ⟨rfl, rfl, rfl, trivial⟩ ⟨rfl, trivial⟩
  obtain ⟨n1, l1⟩ := x
  obtain ⟨hl1, hn1⟩ := hx
  dsimp only at hl1 hn1 ⊢
  refine g_seq ?_
  refine g_join (σ := Nat × List (BitVec 8)) (fun x => [(1, .slice p n1 c), (2, .slice q x.1 d), (3, .pointer (some ⟨b3, 0, none⟩))]) (fun _ => [(3, .pt b3 (.cells (el a).toArray 24 (0, 0)))]) (fun x => By w q x.1 x.2 ∧ x.1 ≤ 40) ?_ (fun x hx => ?_)
  · by_cases h40 : m > 40
    · (repeat refine g_seq ?_)
      refine g_region ?_
      refine g_pu rfl rfl rfl (pu_move rfl rfl) ?_
      first | refine g_pu rfl rfl rfl (pu_len rfl rfl) ?_ | refine g_pu rfl rfl rfl (pu_lenS rfl rfl) ?_
      first | refine g_pu rfl rfl rfl (pu_gtr_t rfl rfl rfl (by omega)) ?_ | refine g_pu rfl rfl rfl (pu_gtr_f rfl rfl rfl (by omega)) ?_ | refine g_pu rfl rfl rfl (pu_gtr rfl rfl rfl) ?_
      refine g_nil ?_
      (repeat refine g_seq ?_)
      refine g_cond_t rfl ?_
      (repeat refine g_seq ?_)
      refine g_region ?_
      refine g_pu rfl rfl rfl (pu_move rfl rfl) ?_
      refine g_pu rfl rfl rfl (pu_slice_h 40 rfl rfl rfl rfl (by omega)) ?_
      refine g_pu rfl rfl rfl (pu_assign rfl rfl) ?_
      refine g_nil ?_
      exact g_meet (40, k.take 40) ⟨hk.pre (by omega), by omega⟩ ⟨rfl, rfl, rfl, trivial⟩ ⟨rfl, trivial⟩
    · (repeat refine g_seq ?_)
      refine g_region ?_
      refine g_pu rfl rfl rfl (pu_move rfl rfl) ?_
      first | refine g_pu rfl rfl rfl (pu_len rfl rfl) ?_ | refine g_pu rfl rfl rfl (pu_lenS rfl rfl) ?_
      first | refine g_pu rfl rfl rfl (pu_gtr_t rfl rfl rfl (by omega)) ?_ | refine g_pu rfl rfl rfl (pu_gtr_f rfl rfl rfl (by omega)) ?_ | refine g_pu rfl rfl rfl (pu_gtr rfl rfl rfl) ?_
      refine g_nil ?_
      (repeat refine g_seq ?_)
      refine g_cond_f rfl (g_skip ?_)
      exact g_meet (m, k) ⟨hk, by omega⟩ ⟨rfl, rfl, rfl, trivial⟩ ⟨rfl, trivial⟩
  obtain ⟨m1, k1⟩ := x
  obtain ⟨hk1, hm1⟩ := hx
  dsimp only at hk1 hm1 ⊢
  have hll := hl1.len
  have hkl := hk1.len
  (repeat refine g_seq ?_)
  refine g_region ?_
  refine g_pu rfl rfl rfl (pu_loadW 3 (L := el a) rfl rfl rfl rfl) ?_
  refine g_lo [7] rfl rfl rfl rfl (lo_alloc rfl) (fun b7 hb7 => ?_)
  refine g_storeL 7 (s := 4) (C := el a) rfl rfl rfl rfl rfl rfl rfl rfl (oneCell_el _) ?_
  refine g_nil ?_
  (repeat refine g_seq ?_)
  refine g_any (5, [6]) ?_
  refine a_pu 0 rfl rfl rfl rfl (pu_loadW 7 (L := el a) rfl rfl rfl rfl) rfl rfl (by kernel_rfl) ?_
  refine a_pu 1 rfl rfl rfl rfl (pu_move rfl rfl) rfl rfl (by kernel_rfl) ?_
  refine a_pu 4 rfl rfl rfl rfl (pu_loadW 3 (L := el a) rfl rfl rfl rfl) rfl rfl (by kernel_rfl) ?_
  first | refine a_mv 6 rfl rfl rfl rfl (fun _ => (pu_move rfl rfl)) rfl rfl rfl (by kernel_rfl) (by kernel_rfl) (by kernel_rfl) rfl ?_
  refine a_do 2 34 [34] (does_call rfl rfl rfl rfl rfl (fun w' hm => Copy_b w' c (hl1.m hm))) rfl rfl (by kernel_rfl) rfl rfl (by kernel_rfl) (by kernel_rfl) (by kernel_rfl) rfl (fun p hp => by cases hp) ?_; rintro v_ cs_ ⟨x34, _, rfl, rfl⟩
  refine a_do 3 35 [] (does_call rfl rfl rfl rfl rfl (fun w' hm => Power_b w' a ha x34.c (By.ow 34 rfl hm hll (by omega)))) rfl rfl (by kernel_rfl) rfl rfl (by kernel_rfl) (by kernel_rfl) (by kernel_rfl) rfl (fun p hp => by cases hp) ?_; rintro v_ cs_ ⟨_, _, rfl, rfl⟩
  refine a_tail [5, 7, 8, 9] (by kernel_rfl) rfl rfl (by kernel_rfl) ?_
  refine g_call [] rfl rfl rfl rfl rfl rfl (fun w' hm => From_b w' a) (fun _ _ => ?_)
  refine g_call [] rfl rfl rfl rfl rfl rfl (fun w' hm => RPower_b w' a ha c (hl1.m hm)) (fun _ _ => ?_)
  refine g_call [] rfl rfl rfl rfl rfl rfl (fun w' hm => is05_t w' (a ^ numB l1 % 57896044618658097711785492504343953926634992332820282019728792003956564819949) (modp _)) (fun _ _ => ?_)
  refine g_pu rfl rfl rfl (pu_not rfl rfl) ?_
  refine g_nil ?_
  (repeat refine g_seq ?_)
  refine g_cond_f rfl (g_skip ?_)
  (repeat refine g_seq ?_)
  refine g_region ?_
  refine g_pu rfl rfl rfl (pu_assign rfl rfl) ?_
  refine g_nil ?_
  refine g_nilOwn 90 5 1 rfl ?_
  (repeat refine g_seq ?_)
  refine g_region ?_
  refine g_pu rfl rfl rfl (pu_assign rfl rfl) ?_
  refine g_nil ?_
  (repeat refine g_seq ?_)
  refine g_region ?_
  refine g_pu rfl rfl rfl (pu_assign rfl rfl) ?_
  refine g_nil ?_
  (repeat refine g_seq ?_)
  refine g_block (g_loop4 (fun (i u : Nat) (S : List (BitVec 8)) (y : Ow) => [(1, .slice p n1 c), (2, .slice q m1 d), (7, .pointer (some ⟨b7, 0, none⟩)), (8, y.sl i), (9, .int .i64 (u : Int)), (10, .int .i64 (i : Int))]) (fun i u S y => [(7, .pt b7 (.cells (el a).toArray 28 (0, 0))), (90, y.ck 5 1 (bs S))])
    (fun i u S y => i ≤ 41 ∧ u ≤ 1 ∧ (i = 41 → u = 0) ∧ S.length = i ∧ numB (l1.take i) + numB (k1.take i) = numB S + 256 ^ i * u) (fun i u S y => 41 - i) 0 0 [] ⟨none, 0⟩ ⟨rfl, rfl, rfl, rfl, rfl, rfl, trivial⟩ ⟨rfl, rfl, trivial⟩ ⟨by omega, by omega, fun _ => rfl, rfl, rfl⟩ ?_)
  intro i u S y ⟨hi, hu, h41, hS, hN⟩
  by_cases hgo : i < n1 ∨ i < m1 ∨ 0 < u
  · refine g_seq ?_
    refine g_join (σ := Unit) (fun _ => [(1, .slice p n1 c), (2, .slice q m1 d), (7, .pointer (some ⟨b7, 0, none⟩)), (8, y.sl i), (9, .int .i64 (u : Int)), (10, .int .i64 (i : Int))]) (fun _ => [(7, .pt b7 (.cells (el a).toArray 28 (0, 0))), (90, y.ck 5 1 (bs S))]) (fun _ => True) ?_ (fun _ _ => ?_)
    · by_cases g1 : i < n1
      · (repeat refine g_seq ?_)
        refine g_region ?_
        refine g_pu rfl rfl rfl (pu_move rfl rfl) ?_
        refine g_pu rfl rfl rfl (pu_move rfl rfl) ?_
        first | refine g_pu rfl rfl rfl (pu_len rfl rfl) ?_ | refine g_pu rfl rfl rfl (pu_lenS rfl rfl) ?_
        first | refine g_pu rfl rfl rfl (pu_lss_t rfl rfl rfl (by omega)) ?_ | refine g_pu rfl rfl rfl (pu_lss_f rfl rfl rfl (by omega)) ?_ | refine g_pu rfl rfl rfl (pu_lss rfl rfl rfl) ?_
        refine g_pu rfl rfl rfl (pu_move rfl rfl) ?_
        first | refine g_pass rfl rfl rfl ?_ | refine g_pu rfl rfl rfl (pu_move rfl rfl) ?_
        first | refine g_pass rfl rfl rfl ?_ | refine g_pu rfl rfl rfl (pu_move rfl rfl) ?_
        first | refine g_pass rfl rfl rfl ?_ | refine g_pu rfl rfl rfl (pu_len rfl rfl) ?_ | refine g_pu rfl rfl rfl (pu_lenS rfl rfl) ?_
        first | refine g_pass rfl rfl rfl ?_ | refine g_pu rfl rfl rfl (pu_lss_t rfl rfl rfl (by omega)) ?_ | refine g_pu rfl rfl rfl (pu_lss_f rfl rfl rfl (by omega)) ?_ | refine g_pu rfl rfl rfl (pu_lss rfl rfl rfl) ?_
        first | refine g_pu rfl rfl rfl (pu_pick_t rfl rfl rfl) ?_ | refine g_pu rfl rfl rfl (pu_pick_f rfl rfl rfl) ?_
        refine g_pu rfl rfl rfl (pu_move rfl rfl) ?_
        first | refine g_pass rfl rfl rfl ?_ | refine g_pu rfl rfl rfl (pu_move rfl rfl) ?_
        first | refine g_pass rfl rfl rfl ?_ | refine g_pu rfl rfl rfl (pu_gtr_t rfl rfl rfl (by omega)) ?_ | refine g_pu rfl rfl rfl (pu_gtr_f rfl rfl rfl (by omega)) ?_ | refine g_pu rfl rfl rfl (pu_gtr rfl rfl rfl) ?_
        first | refine g_pu rfl rfl rfl (pu_pick_t rfl rfl rfl) ?_ | refine g_pu rfl rfl rfl (pu_pick_f rfl rfl rfl) ?_
        refine g_nil ?_
        (repeat refine g_seq ?_)
        refine g_cond_t rfl (g_skip ?_)
        exact g_meet () trivial ⟨rfl, rfl, rfl, rfl, rfl, rfl, trivial⟩ ⟨rfl, rfl, trivial⟩
      · by_cases g2 : i < m1
        · (repeat refine g_seq ?_)
          refine g_region ?_
          refine g_pu rfl rfl rfl (pu_move rfl rfl) ?_
          refine g_pu rfl rfl rfl (pu_move rfl rfl) ?_
          first | refine g_pu rfl rfl rfl (pu_len rfl rfl) ?_ | refine g_pu rfl rfl rfl (pu_lenS rfl rfl) ?_
          first | refine g_pu rfl rfl rfl (pu_lss_t rfl rfl rfl (by omega)) ?_ | refine g_pu rfl rfl rfl (pu_lss_f rfl rfl rfl (by omega)) ?_ | refine g_pu rfl rfl rfl (pu_lss rfl rfl rfl) ?_
          refine g_pu rfl rfl rfl (pu_move rfl rfl) ?_
          first | refine g_pass rfl rfl rfl ?_ | refine g_pu rfl rfl rfl (pu_move rfl rfl) ?_
          first | refine g_pass rfl rfl rfl ?_ | refine g_pu rfl rfl rfl (pu_move rfl rfl) ?_
          first | refine g_pass rfl rfl rfl ?_ | refine g_pu rfl rfl rfl (pu_len rfl rfl) ?_ | refine g_pu rfl rfl rfl (pu_lenS rfl rfl) ?_
          first | refine g_pass rfl rfl rfl ?_ | refine g_pu rfl rfl rfl (pu_lss_t rfl rfl rfl (by omega)) ?_ | refine g_pu rfl rfl rfl (pu_lss_f rfl rfl rfl (by omega)) ?_ | refine g_pu rfl rfl rfl (pu_lss rfl rfl rfl) ?_
          first | refine g_pu rfl rfl rfl (pu_pick_t rfl rfl rfl) ?_ | refine g_pu rfl rfl rfl (pu_pick_f rfl rfl rfl) ?_
          refine g_pu rfl rfl rfl (pu_move rfl rfl) ?_
          first | refine g_pass rfl rfl rfl ?_ | refine g_pu rfl rfl rfl (pu_move rfl rfl) ?_
          first | refine g_pass rfl rfl rfl ?_ | refine g_pu rfl rfl rfl (pu_gtr_t rfl rfl rfl (by omega)) ?_ | refine g_pu rfl rfl rfl (pu_gtr_f rfl rfl rfl (by omega)) ?_ | refine g_pu rfl rfl rfl (pu_gtr rfl rfl rfl) ?_
          first | refine g_pu rfl rfl rfl (pu_pick_t rfl rfl rfl) ?_ | refine g_pu rfl rfl rfl (pu_pick_f rfl rfl rfl) ?_
          refine g_nil ?_
          (repeat refine g_seq ?_)
          refine g_cond_t rfl (g_skip ?_)
          exact g_meet () trivial ⟨rfl, rfl, rfl, rfl, rfl, rfl, trivial⟩ ⟨rfl, rfl, trivial⟩
        · have g3 : 0 < u := by omega
          (repeat refine g_seq ?_)
          refine g_region ?_
          refine g_pu rfl rfl rfl (pu_move rfl rfl) ?_
          refine g_pu rfl rfl rfl (pu_move rfl rfl) ?_
          first | refine g_pu rfl rfl rfl (pu_len rfl rfl) ?_ | refine g_pu rfl rfl rfl (pu_lenS rfl rfl) ?_
          first | refine g_pu rfl rfl rfl (pu_lss_t rfl rfl rfl (by omega)) ?_ | refine g_pu rfl rfl rfl (pu_lss_f rfl rfl rfl (by omega)) ?_ | refine g_pu rfl rfl rfl (pu_lss rfl rfl rfl) ?_
          refine g_pu rfl rfl rfl (pu_move rfl rfl) ?_
          first | refine g_pass rfl rfl rfl ?_ | refine g_pu rfl rfl rfl (pu_move rfl rfl) ?_
          first | refine g_pass rfl rfl rfl ?_ | refine g_pu rfl rfl rfl (pu_move rfl rfl) ?_
          first | refine g_pass rfl rfl rfl ?_ | refine g_pu rfl rfl rfl (pu_len rfl rfl) ?_ | refine g_pu rfl rfl rfl (pu_lenS rfl rfl) ?_
          first | refine g_pass rfl rfl rfl ?_ | refine g_pu rfl rfl rfl (pu_lss_t rfl rfl rfl (by omega)) ?_ | refine g_pu rfl rfl rfl (pu_lss_f rfl rfl rfl (by omega)) ?_ | refine g_pu rfl rfl rfl (pu_lss rfl rfl rfl) ?_
          first | refine g_pu rfl rfl rfl (pu_pick_t rfl rfl rfl) ?_ | refine g_pu rfl rfl rfl (pu_pick_f rfl rfl rfl) ?_
          refine g_pu rfl rfl rfl (pu_move rfl rfl) ?_
          first | refine g_pass rfl rfl rfl ?_ | refine g_pu rfl rfl rfl (pu_move rfl rfl) ?_
          first | refine g_pass rfl rfl rfl ?_ | refine g_pu rfl rfl rfl (pu_gtr_t rfl rfl rfl (by omega)) ?_ | refine g_pu rfl rfl rfl (pu_gtr_f rfl rfl rfl (by omega)) ?_ | refine g_pu rfl rfl rfl (pu_gtr rfl rfl rfl) ?_
          first | refine g_pu rfl rfl rfl (pu_pick_t rfl rfl rfl) ?_ | refine g_pu rfl rfl rfl (pu_pick_f rfl rfl rfl) ?_
          refine g_nil ?_
          (repeat refine g_seq ?_)
          refine g_cond_t rfl (g_skip ?_)
          exact g_meet () trivial ⟨rfl, rfl, rfl, rfl, rfl, rfl, trivial⟩ ⟨rfl, rfl, trivial⟩
    have hx := numB_step l1 i
    have hz := numB_step k1 i
    have hxd : ¬ i < n1 → l1.getD i 0#8 = 0#8 := fun h => by rw [List.getD_eq_getElem?_getD, List.getElem?_eq_none (by omega)]; rfl
    have hzd : ¬ i < m1 → k1.getD i 0#8 = 0#8 := fun h => by rw [List.getD_eq_getElem?_getD, List.getElem?_eq_none (by omega)]; rfl
    have hxg : i < n1 → l1[i]? = some (l1.getD i 0#8) := fun h => getDb (by omega)
    have hzg : i < m1 → k1[i]? = some (k1.getD i 0#8) := fun h => getDb (by omega)
    generalize l1.getD i 0#8 = x at hx hxd hxg
    generalize k1.getD i 0#8 = z at hz hzd hzg
    have hxl := x.isLt
    have hzl := z.isLt
    (repeat refine g_seq ?_); refine g_block ?_
    refine g_seq ?_
    refine g_join (σ := Unit) (fun _ => [(1, .slice p n1 c), (2, .slice q m1 d), (7, .pointer (some ⟨b7, 0, none⟩)), (8, y.sl i), (9, .int .i64 ((u + x.toNat : Nat) : Int)), (10, .int .i64 (i : Int))]) (fun _ => [(7, .pt b7 (.cells (el a).toArray 28 (0, 0))), (90, y.ck 5 1 (bs S))]) (fun _ => True) ?_ (fun _ _ => ?_)
    · by_cases g1 : i < n1
      · (repeat refine g_seq ?_)
        refine g_region ?_
        refine g_pu rfl rfl rfl (pu_move rfl rfl) ?_
        refine g_pu rfl rfl rfl (pu_move rfl rfl) ?_
        first | refine g_pu rfl rfl rfl (pu_len rfl rfl) ?_ | refine g_pu rfl rfl rfl (pu_lenS rfl rfl) ?_
        first | refine g_pu rfl rfl rfl (pu_lss_t rfl rfl rfl (by omega)) ?_ | refine g_pu rfl rfl rfl (pu_lss_f rfl rfl rfl (by omega)) ?_ | refine g_pu rfl rfl rfl (pu_lss rfl rfl rfl) ?_
        refine g_nil ?_
        (repeat refine g_seq ?_)
        refine g_cond_t rfl ?_
        (repeat refine g_seq ?_)
        refine g_region ?_
        refine g_pu rfl rfl rfl (pu_move rfl rfl) ?_
        refine g_pu rfl rfl rfl (pu_move rfl rfl) ?_
        refine g_pu rfl rfl rfl (pu_move rfl rfl) ?_
        refine g_pu rfl rfl rfl (pu_atB i (fun w' hm => hl1.m hm) rfl rfl rfl rfl (by omega)) ?_
        refine g_pu rfl rfl rfl (pu_rdB (fun w' hm => hl1.m hm) rfl rfl (hxg g1)) ?_
        refine g_pu rfl rfl rfl (pu_conv8_I rfl rfl) ?_
        refine g_pu rfl rfl rfl (pu_addI rfl rfl rfl (by omega)) ?_
        refine g_pu rfl rfl rfl (pu_assign rfl rfl) ?_
        refine g_nil ?_
        exact g_meet () trivial ⟨rfl, rfl, rfl, rfl, rfl, rfl, trivial⟩ ⟨rfl, rfl, trivial⟩
      · (repeat refine g_seq ?_)
        refine g_region ?_
        refine g_pu rfl rfl rfl (pu_move rfl rfl) ?_
        refine g_pu rfl rfl rfl (pu_move rfl rfl) ?_
        first | refine g_pu rfl rfl rfl (pu_len rfl rfl) ?_ | refine g_pu rfl rfl rfl (pu_lenS rfl rfl) ?_
        first | refine g_pu rfl rfl rfl (pu_lss_t rfl rfl rfl (by omega)) ?_ | refine g_pu rfl rfl rfl (pu_lss_f rfl rfl rfl (by omega)) ?_ | refine g_pu rfl rfl rfl (pu_lss rfl rfl rfl) ?_
        refine g_nil ?_
        (repeat refine g_seq ?_)
        refine g_cond_f rfl (g_skip ?_)
        have hx0 := hxd g1
        subst hx0
        exact g_meet () trivial ⟨rfl, rfl, rfl, rfl, rfl, rfl, trivial⟩ ⟨rfl, rfl, trivial⟩
    refine g_seq ?_
    refine g_join (σ := Unit) (fun _ => [(1, .slice p n1 c), (2, .slice q m1 d), (7, .pointer (some ⟨b7, 0, none⟩)), (8, y.sl i), (9, .int .i64 ((u + x.toNat + z.toNat : Nat) : Int)), (10, .int .i64 (i : Int))]) (fun _ => [(7, .pt b7 (.cells (el a).toArray 28 (0, 0))), (90, y.ck 5 1 (bs S))]) (fun _ => True) ?_ (fun _ _ => ?_)
    · by_cases g1 : i < m1
      · (repeat refine g_seq ?_)
        refine g_region ?_
        refine g_pu rfl rfl rfl (pu_move rfl rfl) ?_
        refine g_pu rfl rfl rfl (pu_move rfl rfl) ?_
        first | refine g_pu rfl rfl rfl (pu_len rfl rfl) ?_ | refine g_pu rfl rfl rfl (pu_lenS rfl rfl) ?_
        first | refine g_pu rfl rfl rfl (pu_lss_t rfl rfl rfl (by omega)) ?_ | refine g_pu rfl rfl rfl (pu_lss_f rfl rfl rfl (by omega)) ?_ | refine g_pu rfl rfl rfl (pu_lss rfl rfl rfl) ?_
        refine g_nil ?_
        (repeat refine g_seq ?_)
        refine g_cond_t rfl ?_
        (repeat refine g_seq ?_)
        refine g_region ?_
        refine g_pu rfl rfl rfl (pu_move rfl rfl) ?_
        refine g_pu rfl rfl rfl (pu_move rfl rfl) ?_
        refine g_pu rfl rfl rfl (pu_move rfl rfl) ?_
        refine g_pu rfl rfl rfl (pu_atB i (fun w' hm => hk1.m hm) rfl rfl rfl rfl (by omega)) ?_
        refine g_pu rfl rfl rfl (pu_rdB (fun w' hm => hk1.m hm) rfl rfl (hzg g1)) ?_
        refine g_pu rfl rfl rfl (pu_conv8_I rfl rfl) ?_
        refine g_pu rfl rfl rfl (pu_addI rfl rfl rfl (by omega)) ?_
        refine g_pu rfl rfl rfl (pu_assign rfl rfl) ?_
        refine g_nil ?_
        exact g_meet () trivial ⟨rfl, rfl, rfl, rfl, rfl, rfl, trivial⟩ ⟨rfl, rfl, trivial⟩
      · (repeat refine g_seq ?_)
        refine g_region ?_
        refine g_pu rfl rfl rfl (pu_move rfl rfl) ?_
        refine g_pu rfl rfl rfl (pu_move rfl rfl) ?_
        first | refine g_pu rfl rfl rfl (pu_len rfl rfl) ?_ | refine g_pu rfl rfl rfl (pu_lenS rfl rfl) ?_
        first | refine g_pu rfl rfl rfl (pu_lss_t rfl rfl rfl (by omega)) ?_ | refine g_pu rfl rfl rfl (pu_lss_f rfl rfl rfl (by omega)) ?_ | refine g_pu rfl rfl rfl (pu_lss rfl rfl rfl) ?_
        refine g_nil ?_
        (repeat refine g_seq ?_)
        refine g_cond_f rfl (g_skip ?_)
        have hz0 := hzd g1
        subst hz0
        exact g_meet () trivial ⟨rfl, rfl, rfl, rfl, rfl, rfl, trivial⟩ ⟨rfl, rfl, trivial⟩
    have ht : u + x.toNat + z.toNat = (u + x.toNat + z.toNat) % 256 + 256 * ((u + x.toNat + z.toNat) / 256) := by omega
    have hcp := carry_pow hN ht
    have ht2 : u + x.toNat + z.toNat < 512 := by omega
    have h41' : i + 1 = 41 → (u + x.toNat + z.toNat) / 256 = 0 := fun h => by
      rw [hxd (by omega), hzd (by omega)]
      show (u + 0 + 0) / 256 = 0
      omega
    rw [← hx, ← hz] at hcp
    generalize u + x.toNat + z.toNat = t at ht ht2 h41' hcp
    have hsn := numB_snoc S (BitVec.ofNat 8 (t % 256))
    rw [BitVec.toNat_ofNat, Nat.mod_eq_of_lt (show t % 256 < 2 ^ 8 by omega), hS] at hsn
    (repeat refine g_seq ?_)
    refine g_region ?_
    refine g_pu rfl rfl rfl (pu_move rfl rfl) ?_
    refine g_pu rfl rfl rfl (pu_move rfl rfl) ?_
    refine g_pu rfl rfl rfl (pu_remI rfl rfl rfl (by omega)) ?_
    refine g_pu rfl rfl rfl (pu_convI_8 rfl rfl) ?_
    refine g_as (t := 83) (u := b8 (BitVec.ofNat 8 (t % 256))) rfl (by rw [show ((t : Int) % 256) = ((t % 256 : Nat) : Int) by omega, BitVec.ofInt_natCast]) rfl ?_
    refine g_lo [84] rfl rfl rfl rfl (lo_buildSlice rfl rfl (by decide) (by decide) rfl rfl) (fun b84 hb84 => ?_)
    refine g_append1 90 (bs [BitVec.ofNat 8 (t % 256)]) rfl rfl rfl rfl rfl rfl rfl rfl (by rw [bs_length, hS]) (fun w' hm => hm.rowA 84 rfl) rfl (oneCell_bs _) (by omega) (by omega) (fun p' c' => ?_)
    rw [← bs_append]
    refine g_pu rfl rfl rfl (pu_assign rfl rfl) ?_
    refine g_nil ?_
    (repeat refine g_seq ?_)
    refine g_region ?_
    refine g_pu rfl rfl rfl (pu_move rfl rfl) ?_
    refine g_pu rfl rfl rfl (pu_quoI rfl rfl rfl (by omega)) ?_
    refine g_pu rfl rfl rfl (pu_assign rfl rfl) ?_
    refine g_as (t := 9) (u := .int .i64 ((t / 256 : Nat) : Int)) rfl (by rfl) rfl ?_
    refine g_nil ?_
    refine g_blk ?_
    (repeat refine g_seq ?_)
    refine g_region ?_
    refine g_pu rfl rfl rfl (pu_move rfl rfl) ?_
    refine g_pu rfl rfl rfl (pu_addI rfl rfl rfl (by omega)) ?_
    refine g_pu rfl rfl rfl (pu_assign rfl rfl) ?_
    refine g_nil ?_
    exact g_round4 (i + 1) (t / 256) (S ++ [BitVec.ofNat 8 (t % 256)]) (⟨p', c'⟩ : Ow) ⟨by omega, by omega, h41', by rw [List.length_append, hS]; rfl, by rw [hsn, Nat.pow_succ]; exact hcp⟩ (by omega) ⟨rfl, rfl, rfl, rfl, rfl, rfl, trivial⟩ ⟨rfl, rfl, trivial⟩
  · have g1 : ¬ i < n1 := by omega
    have g2 : ¬ i < m1 := by omega
    have g3 : u = 0 := by omega
    subst g3
    rw [List.take_of_length_le (by omega), List.take_of_length_le (by omega), Nat.mul_zero, Nat.add_zero] at hN
    have hps := pow_sum (x := a) hN
    (repeat refine g_seq ?_)
    refine g_region ?_
    refine g_pu rfl rfl rfl (pu_move rfl rfl) ?_
    refine g_pu rfl rfl rfl (pu_move rfl rfl) ?_
    first | refine g_pu rfl rfl rfl (pu_len rfl rfl) ?_ | refine g_pu rfl rfl rfl (pu_lenS rfl rfl) ?_
    first | refine g_pu rfl rfl rfl (pu_lss_t rfl rfl rfl (by omega)) ?_ | refine g_pu rfl rfl rfl (pu_lss_f rfl rfl rfl (by omega)) ?_ | refine g_pu rfl rfl rfl (pu_lss rfl rfl rfl) ?_
    refine g_pu rfl rfl rfl (pu_move rfl rfl) ?_
    first | refine g_pass rfl rfl rfl ?_ | refine g_pu rfl rfl rfl (pu_move rfl rfl) ?_
    first | refine g_pass rfl rfl rfl ?_ | refine g_pu rfl rfl rfl (pu_move rfl rfl) ?_
    first | refine g_pass rfl rfl rfl ?_ | refine g_pu rfl rfl rfl (pu_len rfl rfl) ?_ | refine g_pu rfl rfl rfl (pu_lenS rfl rfl) ?_
    first | refine g_pass rfl rfl rfl ?_ | refine g_pu rfl rfl rfl (pu_lss_t rfl rfl rfl (by omega)) ?_ | refine g_pu rfl rfl rfl (pu_lss_f rfl rfl rfl (by omega)) ?_ | refine g_pu rfl rfl rfl (pu_lss rfl rfl rfl) ?_
    first | refine g_pu rfl rfl rfl (pu_pick_t rfl rfl rfl) ?_ | refine g_pu rfl rfl rfl (pu_pick_f rfl rfl rfl) ?_
    refine g_pu rfl rfl rfl (pu_move rfl rfl) ?_
    first | refine g_pass rfl rfl rfl ?_ | refine g_pu rfl rfl rfl (pu_move rfl rfl) ?_
    first | refine g_pass rfl rfl rfl ?_ | refine g_pu rfl rfl rfl (pu_gtr_t rfl rfl rfl (by omega)) ?_ | refine g_pu rfl rfl rfl (pu_gtr_f rfl rfl rfl (by omega)) ?_ | refine g_pu rfl rfl rfl (pu_gtr rfl rfl rfl) ?_
    first | refine g_pu rfl rfl rfl (pu_pick_t rfl rfl rfl) ?_ | refine g_pu rfl rfl rfl (pu_pick_f rfl rfl rfl) ?_
    refine g_nil ?_
    (repeat refine g_seq ?_)
    refine g_cond_f rfl (g_exit rfl ?_)
    (repeat refine g_seq ?_)
    refine g_any (10, []) ?_
    refine a_pu 0 rfl rfl rfl rfl (pu_loadW 7 (L := el a) rfl rfl rfl rfl) rfl rfl (by kernel_rfl) ?_
    refine a_pu 1 rfl rfl rfl rfl (pu_move rfl rfl) rfl rfl (by kernel_rfl) ?_
    refine a_pu 3 rfl rfl rfl rfl (pu_loadW 7 (L := el a) rfl rfl rfl rfl) rfl rfl (by kernel_rfl) ?_
    refine a_pu 4 rfl rfl rfl rfl (pu_move rfl rfl) rfl rfl (by kernel_rfl) ?_
    refine a_pu 7 rfl rfl rfl rfl (pu_loadW 7 (L := el a) rfl rfl rfl rfl) rfl rfl (by kernel_rfl) ?_
    refine a_pu 8 rfl rfl rfl rfl (pu_move rfl rfl) rfl rfl (by kernel_rfl) ?_
    refine a_do 2 90 [] (does_call rfl rfl rfl rfl rfl (fun w' hm => Power_b w' a ha y.c (l := S) (By.ow 90 rfl hm hS (by omega)))) rfl rfl (by kernel_rfl) rfl rfl (by kernel_rfl) (by kernel_rfl) (by kernel_rfl) rfl (fun p hp => by cases hp) ?_; rintro v_ cs_ ⟨_, _, rfl, rfl⟩
    refine a_do 5 93 [93] (does_call rfl rfl rfl rfl rfl (fun w' hm => Copy_b w' c (hl1.m hm))) rfl rfl (by kernel_rfl) rfl rfl (by kernel_rfl) (by kernel_rfl) (by kernel_rfl) rfl (fun p hp => by cases hp) ?_; rintro v_ cs_ ⟨x93, _, rfl, rfl⟩
    refine a_do 6 94 [] (does_call rfl rfl rfl rfl rfl (fun w' hm => Power_b w' a ha x93.c (By.ow 93 rfl hm hll (by omega)))) rfl rfl (by kernel_rfl) rfl rfl (by kernel_rfl) (by kernel_rfl) (by kernel_rfl) rfl (fun p hp => by cases hp) ?_; rintro v_ cs_ ⟨_, _, rfl, rfl⟩
    refine a_do 9 97 [97] (does_call rfl rfl rfl rfl rfl (fun w' hm => Copy_b w' d (hk1.m hm))) rfl rfl (by kernel_rfl) rfl rfl (by kernel_rfl) (by kernel_rfl) (by kernel_rfl) rfl (fun p hp => by cases hp) ?_; rintro v_ cs_ ⟨x97, _, rfl, rfl⟩
    refine a_tail [10, 11, 12, 13, 14] (by kernel_rfl) rfl rfl (by kernel_rfl) ?_
    refine g_call [] rfl rfl rfl rfl rfl rfl (fun w' hm => Power_b w' a ha x97.c (By.ow 97 rfl hm hkl (by omega))) (fun _ _ => ?_)
    refine g_lo [99] rfl rfl rfl rfl (lo_buildSlice rfl rfl (by decide) (by decide) rfl rfl) (fun b99 hb99 => ?_)
    refine g_call [] rfl rfl rfl rfl rfl rfl (fun w' hm => Product2p_b w' 2 (hm.rowA 99 (L := elsC [a ^ numB l1 % 57896044618658097711785492504343953926634992332820282019728792003956564819949, a ^ numB k1 % 57896044618658097711785492504343953926634992332820282019728792003956564819949]) rfl) (modp _) (modp _)) (fun _ _ => ?_)
    rw [← hps]
    refine g_pu rfl rfl rfl (pu_eqlA_t (a := el (a ^ numB S % 57896044618658097711785492504343953926634992332820282019728792003956564819949)) (b := el (a ^ numB S % 57896044618658097711785492504343953926634992332820282019728792003956564819949)) rfl rfl rfl rfl (all_el _) (el_length _)) ?_
    refine g_pu rfl rfl rfl (pu_assign rfl rfl) ?_
    refine g_nil ?_
    exact g_ret1 rfl rfl (fun w' hm => ⟨(), trivial, rfl, hm.grows [] trivial rfl⟩)
end Go.Sx
