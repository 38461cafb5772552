import Derived.Test.YtjmihjcahjpkmaaEL
import Derived.Test.YtjmihjcahjpkmaaYA
set_option linter.unusedVariables false
set_option linter.unusedSimpArgs false
/-
  CurveLows: a point comes to nought with one scalar just if it does with every other one. No condition.
-/
namespace Go.Sx
open Go Go.Proofs

theorem low_zero : xmE zero32 zero32 = 5 := xmE_z rfl rfl (by
  rw [xmN_eq rfl rfl, show readN zero32 = 0 from by rw [zero32_leB]; exact readN_leB (by omega)]
  exact ladV_0 rfl _)
theorem xmV_zero {k u : List (BitVec 8)} (h : xmN k u = 0) : xmV k u = zero32 := by rw [xmV, h, zero32_leB]
theorem xmV_nz {k u : List (BitVec 8)} (h : xmN k u ≠ 0) : xmV k u ≠ zero32 := fun e => h (by
  rw [zero32_leB] at e
  exact leB_inj (by have := xmN_lt k u; omega) (by omega) e)

theorem CurveLows_spec (w : World) {p q : Option Addr} {n m : Nat} (c d : Nat) {u k : List (BitVec 8)} (hu : By w p n u) (hk : By w q m k) : Spec Try.prog 5 #[.slice p n c, .slice q m d] w (σ := Unit) (fun _ => True) (fun _ => .bool true) Nob (fun _ => []) := by
  refine enter Try.func5 rfl rfl (Mem.start w) ?_
  have hul := hu.len
  have hkl := hk.len
  have hub := hu.big
  have hkb := hk.big
  have hz : zero32.length = 32 := rfl
  (repeat refine g_seq ?_)
  refine g_region ?_
  refine g_pu rfl rfl rfl (pu_assign rfl rfl) ?_
  refine g_nil ?_
  (repeat refine g_seq ?_)
  refine g_region ?_
  refine g_lo [9] rfl rfl rfl rfl (lo_make (n := 32) (c := 32) rfl rfl rfl (by omega) (by omega) (by omega) rfl) (fun b9 hb9 => ?_)
  refine g_call [] rfl rfl rfl rfl rfl rfl (fun w' hm => Low_b w' 32 (u := zero32) (By.full 9 rfl hm rfl (by omega))) (fun _ _ => ?_)
  rw [low_zero, decide_eq_true (rfl : (5 : Int) = 5), if_neg (show ¬ (5 : Int) = 2 by decide)]
  refine g_pu rfl rfl rfl (pu_move rfl rfl) ?_
  refine g_pu rfl rfl rfl (pu_extract rfl rfl rfl) ?_
  refine g_pu rfl rfl rfl (pu_extract rfl rfl rfl) ?_
  refine g_pu rfl rfl rfl (pu_assign rfl rfl) ?_
  refine g_pu rfl rfl rfl (pu_assign rfl rfl) ?_
  refine g_nil ?_
  (repeat refine g_seq ?_)
  refine g_region ?_
  refine g_pu rfl rfl rfl (pu_move rfl rfl) ?_
  first | refine g_pu rfl rfl rfl (pu_neq_t rfl rfl rfl (by omega)) ?_ | refine g_pu rfl rfl rfl (pu_neq_f rfl rfl rfl (by omega)) ?_ | refine g_pu rfl rfl rfl (pu_neq rfl rfl rfl) ?_
  refine g_pu rfl rfl rfl (pu_move rfl rfl) ?_
  first | refine g_pass rfl rfl rfl ?_ | refine g_pu rfl rfl rfl (pu_move rfl rfl) ?_
  first | refine g_pass rfl rfl rfl ?_ | refine g_pu rfl rfl rfl (pu_not rfl rfl) ?_
  first | refine g_pu rfl rfl rfl (pu_pick_t rfl rfl rfl) ?_ | refine g_pu rfl rfl rfl (pu_pick_f rfl rfl rfl) ?_
  refine g_pu rfl rfl rfl (pu_move rfl rfl) ?_
  refine g_call [] rfl rfl rfl rfl rfl rfl (fun w' hm => awake06_b w') (fun _ _ => ?_)
  first | refine g_pass rfl rfl rfl ?_ | refine g_pu rfl rfl rfl (pu_not rfl rfl) ?_
  first | refine g_pu rfl rfl rfl (pu_pick_t rfl rfl rfl) ?_ | refine g_pu rfl rfl rfl (pu_pick_f rfl rfl rfl) ?_
  refine g_nil ?_
  (repeat refine g_seq ?_)
  refine g_cond_f rfl (g_skip ?_)
  by_cases hn : n = 32
  · subst hn
    by_cases hlow : xmN zero32 u = 0
    · have hE := xmE_z hz hul hlow
      (repeat refine g_seq ?_)
      refine g_region ?_
      refine g_pu rfl rfl rfl (pu_move rfl rfl) ?_
      refine g_call [25] rfl rfl rfl rfl rfl rfl (fun w' hm => Copy_b w' c (hu.m hm)) (fun x25 _ => ?_)
      refine g_call [] rfl rfl rfl rfl rfl rfl (fun w' hm => Low_b w' x25.c (By.ow 25 rfl hm hul hub)) (fun _ _ => ?_)
      rw [hE, decide_eq_true (rfl : (5 : Int) = 5), if_neg (show ¬ (5 : Int) = 2 by decide)]
      refine g_pu rfl rfl rfl (pu_move rfl rfl) ?_
      refine g_pu rfl rfl rfl (pu_extract rfl rfl rfl) ?_
      refine g_pu rfl rfl rfl (pu_extract rfl rfl rfl) ?_
      refine g_pu rfl rfl rfl (pu_assign rfl rfl) ?_
      refine g_pu rfl rfl rfl (pu_assign rfl rfl) ?_
      refine g_nil ?_
      (repeat refine g_seq ?_)
      refine g_region ?_
      refine g_pu rfl rfl rfl (pu_move rfl rfl) ?_
      first | refine g_pu rfl rfl rfl (pu_len rfl rfl) ?_ | refine g_pu rfl rfl rfl (pu_lenS rfl rfl) ?_
      first | refine g_pu rfl rfl rfl (pu_neq_t rfl rfl rfl (by omega)) ?_ | refine g_pu rfl rfl rfl (pu_neq_f rfl rfl rfl (by omega)) ?_ | refine g_pu rfl rfl rfl (pu_neq rfl rfl rfl) ?_
      refine g_nil ?_
      (repeat refine g_seq ?_)
      refine g_cond_f rfl (g_skip ?_)
      (repeat refine g_seq ?_)
      refine g_region ?_
      refine g_pu rfl rfl rfl (pu_move rfl rfl) ?_
      first | refine g_pu rfl rfl rfl (pu_neq_t rfl rfl rfl (by omega)) ?_ | refine g_pu rfl rfl rfl (pu_neq_f rfl rfl rfl (by omega)) ?_ | refine g_pu rfl rfl rfl (pu_neq rfl rfl rfl) ?_
      refine g_nil ?_
      (repeat refine g_seq ?_)
      refine g_cond_f rfl (g_skip ?_)
      by_cases hm32 : m = 32
      · subst hm32
        have hlk := xm_low hz hkl hul hlow
        have hEk := xmE_z hkl hul hlk
        have hVk := xmV_zero hlk
        (repeat refine g_seq ?_)
        refine g_region ?_
        refine g_pu rfl rfl rfl (pu_move rfl rfl) ?_
        first | refine g_pu rfl rfl rfl (pu_len rfl rfl) ?_ | refine g_pu rfl rfl rfl (pu_lenS rfl rfl) ?_
        first | refine g_pu rfl rfl rfl (pu_neq_t rfl rfl rfl (by omega)) ?_ | refine g_pu rfl rfl rfl (pu_neq_f rfl rfl rfl (by omega)) ?_ | refine g_pu rfl rfl rfl (pu_neq rfl rfl rfl) ?_
        refine g_nil ?_
        (repeat refine g_seq ?_)
        refine g_cond_f rfl (g_skip ?_)
        (repeat refine g_seq ?_)
        refine g_region ?_
        refine g_pu rfl rfl rfl (pu_move rfl rfl) ?_
        refine g_call [46] rfl rfl rfl rfl rfl rfl (fun w' hm => Copy_b w' d (hk.m hm)) (fun x46 _ => ?_)
        refine g_pu rfl rfl rfl (pu_move rfl rfl) ?_
        refine g_call [48] rfl rfl rfl rfl rfl rfl (fun w' hm => Copy_b w' c (hu.m hm)) (fun x48 _ => ?_)
        refine g_call [] rfl rfl rfl rfl rfl rfl (fun w' hm => Mult_b w' x46.c x48.c (By.ow 46 rfl hm hkl (by omega)) (By.ow 48 rfl hm hul hub)) (fun _ _ => ?_)
        rw [hEk, hVk]
        refine g_pu rfl rfl rfl (pu_move rfl rfl) ?_
        refine g_pu rfl rfl rfl (pu_extract rfl rfl rfl) ?_
        refine g_pu rfl rfl rfl (pu_extract rfl rfl rfl) ?_
        refine g_lo [7] rfl rfl rfl rfl (lo_alloc rfl) (fun b7 hb7 => ?_)
        refine g_storeL 7 (s := 32) (C := bs zero32) rfl rfl rfl rfl rfl rfl rfl rfl (oneCell_bs _) ?_
        refine g_pu rfl rfl rfl (pu_assign rfl rfl) ?_
        refine g_nil ?_
        (repeat refine g_seq ?_)
        refine g_region ?_
        refine g_pu rfl rfl rfl (pu_move rfl rfl) ?_
        first | refine g_pu rfl rfl rfl (pu_eql_t rfl rfl rfl (by omega)) ?_ | refine g_pu rfl rfl rfl (pu_eql_f rfl rfl rfl (by omega)) ?_ | refine g_pu rfl rfl rfl (pu_eql rfl rfl rfl) ?_
        refine g_pu rfl rfl rfl (pu_move rfl rfl) ?_
        first | refine g_pu rfl rfl rfl (pu_eqlB_t rfl rfl rfl rfl) ?_ | refine g_pu rfl rfl rfl (pu_eqlB rfl rfl rfl) ?_
        refine g_pu rfl rfl rfl (pu_move rfl rfl) ?_
        first | refine g_pass rfl rfl rfl ?_ | refine g_pu rfl rfl rfl (pu_move rfl rfl) ?_
        first | refine g_pass rfl rfl rfl ?_ | refine g_pu rfl rfl rfl (pu_eql_t rfl rfl rfl (by omega)) ?_ | refine g_pu rfl rfl rfl (pu_eql_f rfl rfl rfl (by omega)) ?_ | refine g_pu rfl rfl rfl (pu_eql rfl rfl rfl) ?_
        first | refine g_pass rfl rfl rfl ?_ | refine g_pu rfl rfl rfl (pu_move rfl rfl) ?_
        first | refine g_pass rfl rfl rfl ?_ | refine g_pu rfl rfl rfl (pu_neqB rfl rfl rfl) ?_
        first | refine g_pu rfl rfl rfl (pu_pick_t rfl rfl rfl) ?_ | refine g_pu rfl rfl rfl (pu_pick_f rfl rfl rfl) ?_
        refine g_pu rfl rfl rfl (pu_move rfl rfl) ?_
        refine g_pu rfl rfl rfl (pu_loadW 7 (L := bs zero32) rfl rfl rfl rfl) ?_
        refine g_pu rfl rfl rfl (pu_buildA' (cs := bs zero32) rfl rfl rfl) ?_
        refine g_pu rfl rfl rfl (pu_eqlA_t (a := bs zero32) (b := bs zero32) rfl rfl rfl rfl (all_bs _) rfl) ?_
        first | refine g_pass rfl rfl rfl ?_ | refine g_pu rfl rfl rfl (pu_move rfl rfl) ?_
        first | refine g_pass rfl rfl rfl ?_ | refine g_pu rfl rfl rfl (pu_eqlB_t rfl rfl rfl rfl) ?_ | refine g_pu rfl rfl rfl (pu_eqlB rfl rfl rfl) ?_
        first | refine g_pu rfl rfl rfl (pu_pick_t rfl rfl rfl) ?_ | refine g_pu rfl rfl rfl (pu_pick_f rfl rfl rfl) ?_
        refine g_pu rfl rfl rfl (pu_assign rfl rfl) ?_
        refine g_nil ?_
        exact g_ret1 rfl rfl (fun w' hm => ⟨(), trivial, rfl, hm.grows [] trivial rfl⟩)
      · have hlk := xm_low hz hz hul hlow
        have hEk := xmE_z hz hul hlk
        have hVk := xmV_zero hlk
        (repeat refine g_seq ?_)
        refine g_region ?_
        refine g_pu rfl rfl rfl (pu_move rfl rfl) ?_
        first | refine g_pu rfl rfl rfl (pu_len rfl rfl) ?_ | refine g_pu rfl rfl rfl (pu_lenS rfl rfl) ?_
        first | refine g_pu rfl rfl rfl (pu_neq_t rfl rfl rfl (by omega)) ?_ | refine g_pu rfl rfl rfl (pu_neq_f rfl rfl rfl (by omega)) ?_ | refine g_pu rfl rfl rfl (pu_neq rfl rfl rfl) ?_
        refine g_nil ?_
        (repeat refine g_seq ?_)
        refine g_cond_t rfl ?_
        (repeat refine g_seq ?_)
        refine g_region ?_
        refine g_lo [43] rfl rfl rfl rfl (lo_make (n := 32) (c := 32) rfl rfl rfl (by omega) (by omega) (by omega) rfl) (fun b43 hb43 => ?_)
        refine g_pu rfl rfl rfl (pu_assign rfl rfl) ?_
        refine g_nil ?_
        (repeat refine g_seq ?_)
        refine g_region ?_
        refine g_pu rfl rfl rfl (pu_move rfl rfl) ?_
        refine g_call [46] rfl rfl rfl rfl rfl rfl (fun w' hm => Copy_b w' 32 (By.full (l := zero32) 43 rfl hm rfl (by omega))) (fun x46 _ => ?_)
        refine g_pu rfl rfl rfl (pu_move rfl rfl) ?_
        refine g_call [48] rfl rfl rfl rfl rfl rfl (fun w' hm => Copy_b w' c (hu.m hm)) (fun x48 _ => ?_)
        refine g_call [] rfl rfl rfl rfl rfl rfl (fun w' hm => Mult_b w' x46.c x48.c (By.ow 46 rfl hm hz (by omega)) (By.ow 48 rfl hm hul hub)) (fun _ _ => ?_)
        rw [hEk, hVk]
        refine g_pu rfl rfl rfl (pu_move rfl rfl) ?_
        refine g_pu rfl rfl rfl (pu_extract rfl rfl rfl) ?_
        refine g_pu rfl rfl rfl (pu_extract rfl rfl rfl) ?_
        refine g_lo [7] rfl rfl rfl rfl (lo_alloc rfl) (fun b7 hb7 => ?_)
        refine g_storeL 7 (s := 32) (C := bs zero32) rfl rfl rfl rfl rfl rfl rfl rfl (oneCell_bs _) ?_
        refine g_pu rfl rfl rfl (pu_assign rfl rfl) ?_
        refine g_nil ?_
        (repeat refine g_seq ?_)
        refine g_region ?_
        refine g_pu rfl rfl rfl (pu_move rfl rfl) ?_
        first | refine g_pu rfl rfl rfl (pu_eql_t rfl rfl rfl (by omega)) ?_ | refine g_pu rfl rfl rfl (pu_eql_f rfl rfl rfl (by omega)) ?_ | refine g_pu rfl rfl rfl (pu_eql rfl rfl rfl) ?_
        refine g_pu rfl rfl rfl (pu_move rfl rfl) ?_
        first | refine g_pu rfl rfl rfl (pu_eqlB_t rfl rfl rfl rfl) ?_ | refine g_pu rfl rfl rfl (pu_eqlB rfl rfl rfl) ?_
        refine g_pu rfl rfl rfl (pu_move rfl rfl) ?_
        first | refine g_pass rfl rfl rfl ?_ | refine g_pu rfl rfl rfl (pu_move rfl rfl) ?_
        first | refine g_pass rfl rfl rfl ?_ | refine g_pu rfl rfl rfl (pu_eql_t rfl rfl rfl (by omega)) ?_ | refine g_pu rfl rfl rfl (pu_eql_f rfl rfl rfl (by omega)) ?_ | refine g_pu rfl rfl rfl (pu_eql rfl rfl rfl) ?_
        first | refine g_pass rfl rfl rfl ?_ | refine g_pu rfl rfl rfl (pu_move rfl rfl) ?_
        first | refine g_pass rfl rfl rfl ?_ | refine g_pu rfl rfl rfl (pu_neqB rfl rfl rfl) ?_
        first | refine g_pu rfl rfl rfl (pu_pick_t rfl rfl rfl) ?_ | refine g_pu rfl rfl rfl (pu_pick_f rfl rfl rfl) ?_
        refine g_pu rfl rfl rfl (pu_move rfl rfl) ?_
        refine g_pu rfl rfl rfl (pu_loadW 7 (L := bs zero32) rfl rfl rfl rfl) ?_
        refine g_pu rfl rfl rfl (pu_buildA' (cs := bs zero32) rfl rfl rfl) ?_
        refine g_pu rfl rfl rfl (pu_eqlA_t (a := bs zero32) (b := bs zero32) rfl rfl rfl rfl (all_bs _) rfl) ?_
        first | refine g_pass rfl rfl rfl ?_ | refine g_pu rfl rfl rfl (pu_move rfl rfl) ?_
        first | refine g_pass rfl rfl rfl ?_ | refine g_pu rfl rfl rfl (pu_eqlB_t rfl rfl rfl rfl) ?_ | refine g_pu rfl rfl rfl (pu_eqlB rfl rfl rfl) ?_
        first | refine g_pu rfl rfl rfl (pu_pick_t rfl rfl rfl) ?_ | refine g_pu rfl rfl rfl (pu_pick_f rfl rfl rfl) ?_
        refine g_pu rfl rfl rfl (pu_assign rfl rfl) ?_
        refine g_nil ?_
        exact g_ret1 rfl rfl (fun w' hm => ⟨(), trivial, rfl, hm.grows [] trivial rfl⟩)
    · have hE := xmE_nz hz hul hlow
      (repeat refine g_seq ?_)
      refine g_region ?_
      refine g_pu rfl rfl rfl (pu_move rfl rfl) ?_
      refine g_call [25] rfl rfl rfl rfl rfl rfl (fun w' hm => Copy_b w' c (hu.m hm)) (fun x25 _ => ?_)
      refine g_call [] rfl rfl rfl rfl rfl rfl (fun w' hm => Low_b w' x25.c (By.ow 25 rfl hm hul hub)) (fun _ _ => ?_)
      rw [hE, decide_eq_false (show ¬ (0 : Int) = 5 by decide), if_neg (show ¬ (0 : Int) = 2 by decide)]
      refine g_pu rfl rfl rfl (pu_move rfl rfl) ?_
      refine g_pu rfl rfl rfl (pu_extract rfl rfl rfl) ?_
      refine g_pu rfl rfl rfl (pu_extract rfl rfl rfl) ?_
      refine g_pu rfl rfl rfl (pu_assign rfl rfl) ?_
      refine g_pu rfl rfl rfl (pu_assign rfl rfl) ?_
      refine g_nil ?_
      (repeat refine g_seq ?_)
      refine g_region ?_
      refine g_pu rfl rfl rfl (pu_move rfl rfl) ?_
      first | refine g_pu rfl rfl rfl (pu_len rfl rfl) ?_ | refine g_pu rfl rfl rfl (pu_lenS rfl rfl) ?_
      first | refine g_pu rfl rfl rfl (pu_neq_t rfl rfl rfl (by omega)) ?_ | refine g_pu rfl rfl rfl (pu_neq_f rfl rfl rfl (by omega)) ?_ | refine g_pu rfl rfl rfl (pu_neq rfl rfl rfl) ?_
      refine g_nil ?_
      (repeat refine g_seq ?_)
      refine g_cond_f rfl (g_skip ?_)
      (repeat refine g_seq ?_)
      refine g_region ?_
      refine g_pu rfl rfl rfl (pu_move rfl rfl) ?_
      first | refine g_pu rfl rfl rfl (pu_neq_t rfl rfl rfl (by omega)) ?_ | refine g_pu rfl rfl rfl (pu_neq_f rfl rfl rfl (by omega)) ?_ | refine g_pu rfl rfl rfl (pu_neq rfl rfl rfl) ?_
      refine g_nil ?_
      (repeat refine g_seq ?_)
      refine g_cond_f rfl (g_skip ?_)
      by_cases hm32 : m = 32
      · subst hm32
        have hlk : xmN k u ≠ 0 := fun h => hlow (xm_low hkl hz hul h)
        have hEk := xmE_nz hkl hul hlk
        have hvb : (bs (xmV k u)).length = 32 := by rw [bs_length, xmV_length]
        (repeat refine g_seq ?_)
        refine g_region ?_
        refine g_pu rfl rfl rfl (pu_move rfl rfl) ?_
        first | refine g_pu rfl rfl rfl (pu_len rfl rfl) ?_ | refine g_pu rfl rfl rfl (pu_lenS rfl rfl) ?_
        first | refine g_pu rfl rfl rfl (pu_neq_t rfl rfl rfl (by omega)) ?_ | refine g_pu rfl rfl rfl (pu_neq_f rfl rfl rfl (by omega)) ?_ | refine g_pu rfl rfl rfl (pu_neq rfl rfl rfl) ?_
        refine g_nil ?_
        (repeat refine g_seq ?_)
        refine g_cond_f rfl (g_skip ?_)
        (repeat refine g_seq ?_)
        refine g_region ?_
        refine g_pu rfl rfl rfl (pu_move rfl rfl) ?_
        refine g_call [46] rfl rfl rfl rfl rfl rfl (fun w' hm => Copy_b w' d (hk.m hm)) (fun x46 _ => ?_)
        refine g_pu rfl rfl rfl (pu_move rfl rfl) ?_
        refine g_call [48] rfl rfl rfl rfl rfl rfl (fun w' hm => Copy_b w' c (hu.m hm)) (fun x48 _ => ?_)
        refine g_call [] rfl rfl rfl rfl rfl rfl (fun w' hm => Mult_b w' x46.c x48.c (By.ow 46 rfl hm hkl (by omega)) (By.ow 48 rfl hm hul hub)) (fun _ _ => ?_)
        rw [hEk]
        refine g_pu rfl rfl rfl (pu_move rfl rfl) ?_
        refine g_pu rfl rfl rfl (pu_extract rfl rfl rfl) ?_
        refine g_pu rfl rfl rfl (pu_extract rfl rfl rfl) ?_
        refine g_lo [7] rfl rfl rfl rfl (lo_alloc rfl) (fun b7 hb7 => ?_)
        refine g_storeL 7 (s := 32) (C := bs (xmV k u)) rfl rfl rfl rfl rfl rfl hvb rfl (oneCell_bs _) ?_
        refine g_pu rfl rfl rfl (pu_assign rfl rfl) ?_
        refine g_nil ?_
        (repeat refine g_seq ?_)
        refine g_region ?_
        refine g_pu rfl rfl rfl (pu_move rfl rfl) ?_
        first | refine g_pu rfl rfl rfl (pu_eql_t rfl rfl rfl (by omega)) ?_ | refine g_pu rfl rfl rfl (pu_eql_f rfl rfl rfl (by omega)) ?_ | refine g_pu rfl rfl rfl (pu_eql rfl rfl rfl) ?_
        refine g_pu rfl rfl rfl (pu_move rfl rfl) ?_
        first | refine g_pu rfl rfl rfl (pu_eqlB_t rfl rfl rfl rfl) ?_ | refine g_pu rfl rfl rfl (pu_eqlB rfl rfl rfl) ?_
        refine g_pu rfl rfl rfl (pu_move rfl rfl) ?_
        first | refine g_pass rfl rfl rfl ?_ | refine g_pu rfl rfl rfl (pu_move rfl rfl) ?_
        first | refine g_pass rfl rfl rfl ?_ | refine g_pu rfl rfl rfl (pu_eql_t rfl rfl rfl (by omega)) ?_ | refine g_pu rfl rfl rfl (pu_eql_f rfl rfl rfl (by omega)) ?_ | refine g_pu rfl rfl rfl (pu_eql rfl rfl rfl) ?_
        first | refine g_pass rfl rfl rfl ?_ | refine g_pu rfl rfl rfl (pu_move rfl rfl) ?_
        first | refine g_pass rfl rfl rfl ?_ | refine g_pu rfl rfl rfl (pu_neqB rfl rfl rfl) ?_
        first | refine g_pu rfl rfl rfl (pu_pick_t rfl rfl rfl) ?_ | refine g_pu rfl rfl rfl (pu_pick_f rfl rfl rfl) ?_
        refine g_pu rfl rfl rfl (pu_move rfl rfl) ?_
        refine g_pu rfl rfl rfl (pu_loadW 7 (L := bs (xmV k u)) rfl rfl rfl hvb) ?_
        refine g_pu rfl rfl rfl (pu_buildA' (cs := bs zero32) rfl rfl rfl) ?_
        refine g_pu rfl rfl rfl (pu_eqlA_f (a := bs (xmV k u)) (b := bs zero32) rfl rfl rfl (fun h => xmV_nz hlk (bs_inj h)) (all_bs _) (all_bs _) hvb rfl) ?_
        first | refine g_pass rfl rfl rfl ?_ | refine g_pu rfl rfl rfl (pu_move rfl rfl) ?_
        first | refine g_pass rfl rfl rfl ?_ | refine g_pu rfl rfl rfl (pu_eqlB_t rfl rfl rfl rfl) ?_ | refine g_pu rfl rfl rfl (pu_eqlB rfl rfl rfl) ?_
        first | refine g_pu rfl rfl rfl (pu_pick_t rfl rfl rfl) ?_ | refine g_pu rfl rfl rfl (pu_pick_f rfl rfl rfl) ?_
        refine g_pu rfl rfl rfl (pu_assign rfl rfl) ?_
        refine g_nil ?_
        exact g_ret1 rfl rfl (fun w' hm => ⟨(), trivial, rfl, hm.grows [] trivial rfl⟩)
      · have hlk : xmN zero32 u ≠ 0 := fun h => hlow (xm_low hz hz hul h)
        have hEk := xmE_nz hz hul hlk
        have hvb : (bs (xmV zero32 u)).length = 32 := by rw [bs_length, xmV_length]
        (repeat refine g_seq ?_)
        refine g_region ?_
        refine g_pu rfl rfl rfl (pu_move rfl rfl) ?_
        first | refine g_pu rfl rfl rfl (pu_len rfl rfl) ?_ | refine g_pu rfl rfl rfl (pu_lenS rfl rfl) ?_
        first | refine g_pu rfl rfl rfl (pu_neq_t rfl rfl rfl (by omega)) ?_ | refine g_pu rfl rfl rfl (pu_neq_f rfl rfl rfl (by omega)) ?_ | refine g_pu rfl rfl rfl (pu_neq rfl rfl rfl) ?_
        refine g_nil ?_
        (repeat refine g_seq ?_)
        refine g_cond_t rfl ?_
        (repeat refine g_seq ?_)
        refine g_region ?_
        refine g_lo [43] rfl rfl rfl rfl (lo_make (n := 32) (c := 32) rfl rfl rfl (by omega) (by omega) (by omega) rfl) (fun b43 hb43 => ?_)
        refine g_pu rfl rfl rfl (pu_assign rfl rfl) ?_
        refine g_nil ?_
        (repeat refine g_seq ?_)
        refine g_region ?_
        refine g_pu rfl rfl rfl (pu_move rfl rfl) ?_
        refine g_call [46] rfl rfl rfl rfl rfl rfl (fun w' hm => Copy_b w' 32 (By.full (l := zero32) 43 rfl hm rfl (by omega))) (fun x46 _ => ?_)
        refine g_pu rfl rfl rfl (pu_move rfl rfl) ?_
        refine g_call [48] rfl rfl rfl rfl rfl rfl (fun w' hm => Copy_b w' c (hu.m hm)) (fun x48 _ => ?_)
        refine g_call [] rfl rfl rfl rfl rfl rfl (fun w' hm => Mult_b w' x46.c x48.c (By.ow 46 rfl hm hz (by omega)) (By.ow 48 rfl hm hul hub)) (fun _ _ => ?_)
        rw [hEk]
        refine g_pu rfl rfl rfl (pu_move rfl rfl) ?_
        refine g_pu rfl rfl rfl (pu_extract rfl rfl rfl) ?_
        refine g_pu rfl rfl rfl (pu_extract rfl rfl rfl) ?_
        refine g_lo [7] rfl rfl rfl rfl (lo_alloc rfl) (fun b7 hb7 => ?_)
        refine g_storeL 7 (s := 32) (C := bs (xmV zero32 u)) rfl rfl rfl rfl rfl rfl hvb rfl (oneCell_bs _) ?_
        refine g_pu rfl rfl rfl (pu_assign rfl rfl) ?_
        refine g_nil ?_
        (repeat refine g_seq ?_)
        refine g_region ?_
        refine g_pu rfl rfl rfl (pu_move rfl rfl) ?_
        first | refine g_pu rfl rfl rfl (pu_eql_t rfl rfl rfl (by omega)) ?_ | refine g_pu rfl rfl rfl (pu_eql_f rfl rfl rfl (by omega)) ?_ | refine g_pu rfl rfl rfl (pu_eql rfl rfl rfl) ?_
        refine g_pu rfl rfl rfl (pu_move rfl rfl) ?_
        first | refine g_pu rfl rfl rfl (pu_eqlB_t rfl rfl rfl rfl) ?_ | refine g_pu rfl rfl rfl (pu_eqlB rfl rfl rfl) ?_
        refine g_pu rfl rfl rfl (pu_move rfl rfl) ?_
        first | refine g_pass rfl rfl rfl ?_ | refine g_pu rfl rfl rfl (pu_move rfl rfl) ?_
        first | refine g_pass rfl rfl rfl ?_ | refine g_pu rfl rfl rfl (pu_eql_t rfl rfl rfl (by omega)) ?_ | refine g_pu rfl rfl rfl (pu_eql_f rfl rfl rfl (by omega)) ?_ | refine g_pu rfl rfl rfl (pu_eql rfl rfl rfl) ?_
        first | refine g_pass rfl rfl rfl ?_ | refine g_pu rfl rfl rfl (pu_move rfl rfl) ?_
        first | refine g_pass rfl rfl rfl ?_ | refine g_pu rfl rfl rfl (pu_neqB rfl rfl rfl) ?_
        first | refine g_pu rfl rfl rfl (pu_pick_t rfl rfl rfl) ?_ | refine g_pu rfl rfl rfl (pu_pick_f rfl rfl rfl) ?_
        refine g_pu rfl rfl rfl (pu_move rfl rfl) ?_
        refine g_pu rfl rfl rfl (pu_loadW 7 (L := bs (xmV zero32 u)) rfl rfl rfl hvb) ?_
        refine g_pu rfl rfl rfl (pu_buildA' (cs := bs zero32) rfl rfl rfl) ?_
        refine g_pu rfl rfl rfl (pu_eqlA_f (a := bs (xmV zero32 u)) (b := bs zero32) rfl rfl rfl (fun h => xmV_nz hlk (bs_inj h)) (all_bs _) (all_bs _) hvb rfl) ?_
        first | refine g_pass rfl rfl rfl ?_ | refine g_pu rfl rfl rfl (pu_move rfl rfl) ?_
        first | refine g_pass rfl rfl rfl ?_ | refine g_pu rfl rfl rfl (pu_eqlB_t rfl rfl rfl rfl) ?_ | refine g_pu rfl rfl rfl (pu_eqlB rfl rfl rfl) ?_
        first | refine g_pu rfl rfl rfl (pu_pick_t rfl rfl rfl) ?_ | refine g_pu rfl rfl rfl (pu_pick_f rfl rfl rfl) ?_
        refine g_pu rfl rfl rfl (pu_assign rfl rfl) ?_
        refine g_nil ?_
        exact g_ret1 rfl rfl (fun w' hm => ⟨(), trivial, rfl, hm.grows [] trivial rfl⟩)
  · have hE : xmE zero32 u = 2 := if_neg (fun h => hn (by rw [← hul]; exact h.2))
    (repeat refine g_seq ?_)
    refine g_region ?_
    refine g_pu rfl rfl rfl (pu_move rfl rfl) ?_
    refine g_call [25] rfl rfl rfl rfl rfl rfl (fun w' hm => Copy_b w' c (hu.m hm)) (fun x25 _ => ?_)
    refine g_call [] rfl rfl rfl rfl rfl rfl (fun w' hm => Low_b w' x25.c (By.ow 25 rfl hm hul hub)) (fun _ _ => ?_)
    rw [hE, decide_eq_false (show ¬ (2 : Int) = 5 by decide), if_pos (show (2 : Int) = 2 by decide)]
    refine g_pu rfl rfl rfl (pu_move rfl rfl) ?_
    refine g_pu rfl rfl rfl (pu_extract rfl rfl rfl) ?_
    refine g_pu rfl rfl rfl (pu_extract rfl rfl rfl) ?_
    refine g_pu rfl rfl rfl (pu_assign rfl rfl) ?_
    refine g_pu rfl rfl rfl (pu_assign rfl rfl) ?_
    refine g_nil ?_
    (repeat refine g_seq ?_)
    refine g_region ?_
    refine g_pu rfl rfl rfl (pu_move rfl rfl) ?_
    first | refine g_pu rfl rfl rfl (pu_len rfl rfl) ?_ | refine g_pu rfl rfl rfl (pu_lenS rfl rfl) ?_
    first | refine g_pu rfl rfl rfl (pu_neq_t rfl rfl rfl (by omega)) ?_ | refine g_pu rfl rfl rfl (pu_neq_f rfl rfl rfl (by omega)) ?_ | refine g_pu rfl rfl rfl (pu_neq rfl rfl rfl) ?_
    refine g_nil ?_
    (repeat refine g_seq ?_)
    refine g_cond_t rfl ?_
    (repeat refine g_seq ?_)
    refine g_region ?_
    refine g_pu rfl rfl rfl (pu_move rfl rfl) ?_
    first | refine g_pu rfl rfl rfl (pu_eql_t rfl rfl rfl (by omega)) ?_ | refine g_pu rfl rfl rfl (pu_eql_f rfl rfl rfl (by omega)) ?_ | refine g_pu rfl rfl rfl (pu_eql rfl rfl rfl) ?_
    refine g_pu rfl rfl rfl (pu_move rfl rfl) ?_
    first | refine g_pass rfl rfl rfl ?_ | refine g_pu rfl rfl rfl (pu_move rfl rfl) ?_
    first | refine g_pass rfl rfl rfl ?_ | refine g_pu rfl rfl rfl (pu_not rfl rfl) ?_
    first | refine g_pu rfl rfl rfl (pu_pick_t rfl rfl rfl) ?_ | refine g_pu rfl rfl rfl (pu_pick_f rfl rfl rfl) ?_
    refine g_pu rfl rfl rfl (pu_assign rfl rfl) ?_
    refine g_nil ?_
    exact g_ret1 rfl rfl (fun w' hm => ⟨(), trivial, rfl, hm.grows [] trivial rfl⟩)
end Go.Sx
