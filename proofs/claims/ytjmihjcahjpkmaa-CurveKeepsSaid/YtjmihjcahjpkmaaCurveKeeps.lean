import Derived.Test.YtjmihjcahjpkmaaEK
import Derived.Test.YtjmihjcahjpkmaaYC
import Derived.Test.YtjmihjcahjpkmaaYA
set_option linter.unusedVariables false
set_option linter.unusedSimpArgs false
/-
  CurveKeeps: no call of curve changes or keeps what it is handed. No condition.
-/
namespace Go.Sx
open Go Go.Proofs

theorem xmV_bad' {k u : List (BitVec 8)} (h : ¬ xmE k u = 0) : xmV k u = zero32 := by
  have h0 : xmN k u = 0 := by
    by_cases h1 : k.length = 32 ∧ u.length = 32
    · by_cases h2 : xmN k u = 0
      · exact h2
      · exact absurd (xmE_nz h1.1 h1.2 h2) h
    · exact if_neg h1
  rw [xmV, h0, zero32_leB]
theorem chP_one (k u : List (BitVec 8)) : chP u [k] = (xmV k u, xmE k u) := by
  by_cases h : k.length = 32 ∧ u.length = 32
  · have h1 : chP u [k] = chR [k] (leB 32 (readN u)) := if_pos ⟨h.2, by simp [all32, h.1]⟩
    have h2 : xmN k (leB 32 (readN u)) = xmN k u := by rw [xmN_eq h.1 (leB_length 32 _), readN_leB (readN_ltK h.2), xmN_eq h.1 h.2]
    have h3 : xmE k (leB 32 (readN u)) = xmE k u := by
      unfold xmE
      rw [h2, if_pos ⟨h.1, leB_length 32 _⟩, if_pos h]
    have h4 : xmV k (leB 32 (readN u)) = xmV k u := by unfold xmV; rw [h2]
    rw [h1]
    show (if xmE k (leB 32 (readN u)) = 0 then (xmV k (leB 32 (readN u)), 0) else (zero32, xmE k (leB 32 (readN u)))) = _
    rw [h3, h4]
    by_cases h5 : xmE k u = 0
    · rw [if_pos h5, h5]
    · rw [if_neg h5, xmV_bad' h5]
  · have h1 : chP u [k] = (zero32, 2) := if_neg (fun h2 => h ⟨by have := h2.2; simpa [all32] using this, h2.1⟩)
    have h2 : xmE k u = 2 := if_neg h
    rw [h1, h2, xmV_bad' (by rw [h2]; decide)]

theorem oneCell_npC (k : List (BitVec 8)) : ∀ u ∈ npC k, u.oneCell' = true := by
  unfold npC
  split
  · exact oneCell_prC _ _
  · exact oneCell_prC _ _

theorem CurveKeeps_spec (w : World) {p q : Option Addr} {n m : Nat} (c d : Nat) {k u : List (BitVec 8)} (hk : By w p n k) (hu : By w q m u) (hnb : n ≤ 140737488351232) (hmb : m ≤ 140737488351232) : Spec Try.prog 9 #[.slice p n c, .slice q m d] w (σ := Unit) (fun _ => True) (fun _ => .bool true) Nob (fun _ => []) := by
  refine enter Try.func9 rfl rfl (Mem.start w) ?_
  have hkl := hk.len
  have hul := hu.len
  have hsa := spareL_length k 40
  have hsb := spareL_length u 40
  have hvb : (bs (xmV k u)).length = 32 := by rw [bs_length, xmV_length]
  have hnl := npC_length k
  (repeat refine g_seq ?_)
  refine g_region ?_
  refine g_pu rfl rfl rfl (pu_assign rfl rfl) ?_
  refine g_nil ?_
  (repeat refine g_seq ?_)
  refine g_region ?_
  refine g_call [] rfl rfl rfl rfl rfl rfl (fun w' hm => awake06_b w') (fun _ _ => ?_)
  refine g_pu rfl rfl rfl (pu_not rfl rfl) ?_
  refine g_nil ?_
  (repeat refine g_seq ?_)
  refine g_cond_f rfl (g_skip ?_)
  (repeat refine g_seq ?_)
  refine g_region ?_
  refine g_pu rfl rfl rfl (pu_move rfl rfl) ?_
  refine g_call [21] rfl rfl rfl rfl rfl rfl (fun w' hm => Spare_b w' c (hk.m hm)) (fun x21 _ => ?_)
  refine g_pu rfl rfl rfl (pu_move rfl rfl) ?_
  refine g_pu rfl rfl rfl (pu_extract rfl rfl rfl) ?_
  refine g_pu rfl rfl rfl (pu_extract rfl rfl rfl) ?_
  refine g_pu rfl rfl rfl (pu_assign rfl rfl) ?_
  refine g_pu rfl rfl rfl (pu_assign rfl rfl) ?_
  refine g_nil ?_
  (repeat refine g_seq ?_)
  refine g_region ?_
  refine g_pu rfl rfl rfl (pu_move rfl rfl) ?_
  refine g_call [26] rfl rfl rfl rfl rfl rfl (fun w' hm => Spare_b w' d (hu.m hm)) (fun x26 _ => ?_)
  refine g_pu rfl rfl rfl (pu_move rfl rfl) ?_
  refine g_pu rfl rfl rfl (pu_extract rfl rfl rfl) ?_
  refine g_pu rfl rfl rfl (pu_extract rfl rfl rfl) ?_
  refine g_pu rfl rfl rfl (pu_assign rfl rfl) ?_
  refine g_pu rfl rfl rfl (pu_assign rfl rfl) ?_
  refine g_nil ?_
  (repeat refine g_seq ?_)
  refine g_region ?_
  refine g_pu rfl rfl rfl (pu_move rfl rfl) ?_
  refine g_pu rfl rfl rfl (pu_move rfl rfl) ?_
  refine g_call [] rfl rfl rfl rfl rfl rfl (fun w' hm => Mult_b w' _ _ (By.spare 21 rfl hm hkl (by omega)) (By.spare 26 rfl hm hul (by omega))) (fun _ _ => ?_)
  refine g_pu rfl rfl rfl (pu_move rfl rfl) ?_
  refine g_pu rfl rfl rfl (pu_extract rfl rfl rfl) ?_
  refine g_pu rfl rfl rfl (pu_extract rfl rfl rfl) ?_
  refine g_lo [9] rfl rfl rfl rfl (lo_alloc rfl) (fun b9 hb9 => ?_)
  refine g_storeL 9 (s := 32) (C := bs (xmV k u)) rfl rfl rfl rfl rfl rfl hvb rfl (oneCell_bs _) ?_
  refine g_pu rfl rfl rfl (pu_assign rfl rfl) ?_
  refine g_nil ?_
  (repeat refine g_seq ?_)
  refine g_region ?_
  refine g_pu rfl rfl rfl (pu_move rfl rfl) ?_
  refine g_call [] rfl rfl rfl rfl rfl rfl (fun w' hm => Clamp_b w' _ (By.spare 21 rfl hm hkl (by omega))) (fun _ _ => ?_)
  refine g_nil ?_
  (repeat refine g_seq ?_)
  refine g_region ?_
  refine g_pu rfl rfl rfl (pu_move rfl rfl) ?_
  refine g_pu rfl rfl rfl (pu_move rfl rfl) ?_
  refine g_lo [40] rfl rfl rfl rfl (lo_buildSlice rfl rfl (by decide) (by decide) rfl rfl) (fun b40 hb40 => ?_)
  refine g_call [] rfl rfl rfl rfl rfl rfl (fun w' hm => Chain_b w' _ 1 (ks := [k]) (By.spare 26 rfl hm hul (by omega)) ⟨hm.rowA 40 rfl, rfl, All2.cons ⟨_, _, _, rfl, By.spare 21 rfl hm hkl (by omega), fun _ _ => trivial⟩ All2.nil, by omega⟩) (fun _ _ => ?_)
  rw [chP_one]
  refine g_pu rfl rfl rfl (pu_move rfl rfl) ?_
  refine g_pu rfl rfl rfl (pu_extract rfl rfl rfl) ?_
  refine g_pu rfl rfl rfl (pu_extract rfl rfl rfl) ?_
  refine g_lo [11] rfl rfl rfl rfl (lo_alloc rfl) (fun b11 hb11 => ?_)
  refine g_storeL 11 (s := 32) (C := bs (xmV k u)) rfl rfl rfl rfl rfl rfl hvb rfl (oneCell_bs _) ?_
  refine g_pu rfl rfl rfl (pu_assign rfl rfl) ?_
  refine g_nil ?_
  (repeat refine g_seq ?_)
  refine g_region ?_
  refine g_pu rfl rfl rfl (pu_move rfl rfl) ?_
  refine g_call [] rfl rfl rfl rfl rfl rfl (fun w' hm => NewPair_b w' _ (By.spare 21 rfl hm hkl (by omega))) (fun _ _ => ?_)
  refine g_pu rfl rfl rfl (pu_move rfl rfl) ?_
  refine g_pu rfl rfl rfl (pu_extract rfl rfl rfl) ?_
  refine g_pu rfl rfl rfl (pu_extract rfl rfl rfl) ?_
  refine g_lo [13] rfl rfl rfl rfl (lo_alloc rfl) (fun b13 hb13 => ?_)
  refine g_storeL 13 (s := 64) (C := npC k) rfl rfl rfl rfl rfl rfl hnl rfl (oneCell_npC k) ?_
  refine g_pu rfl rfl rfl (pu_assign rfl rfl) ?_
  refine g_nil ?_
  (repeat refine g_seq ?_)
  refine g_region ?_
  refine g_pu rfl rfl rfl (pu_move rfl rfl) ?_
  refine g_call [] rfl rfl rfl rfl rfl rfl (fun w' hm => Low_b w' _ (By.spare 26 rfl hm hul (by omega))) (fun _ _ => ?_)
  refine g_nil ?_
  (repeat refine g_seq ?_)
  refine g_region ?_
  refine g_pu rfl rfl rfl (pu_move rfl rfl) ?_
  refine g_pu rfl rfl rfl (pu_move rfl rfl) ?_
  refine g_call [] rfl rfl rfl rfl rfl rfl (fun w' hm => Kept_b w' _ c (By.full 21 rfl hm (by rw [hsa, hkl]) (by omega)) (hk.m hm)) (fun _ _ => ?_)
  refine g_pu rfl rfl rfl (pu_not rfl rfl) ?_
  refine g_pu rfl rfl rfl (pu_move rfl rfl) ?_
  first | refine g_pass rfl rfl rfl ?_ | refine g_pu rfl rfl rfl (pu_move rfl rfl) ?_
  first | refine g_pass rfl rfl rfl ?_ | refine g_pu rfl rfl rfl (pu_move rfl rfl) ?_
  refine g_call [] rfl rfl rfl rfl rfl rfl (fun w' hm => Kept_b w' _ d (By.full 26 rfl hm (by rw [hsb, hul]) (by omega)) (hu.m hm)) (fun _ _ => ?_)
  first | refine g_pass rfl rfl rfl ?_ | refine g_pu rfl rfl rfl (pu_not rfl rfl) ?_
  first | refine g_pu rfl rfl rfl (pu_pick_t rfl rfl rfl) ?_ | refine g_pu rfl rfl rfl (pu_pick_f rfl rfl rfl) ?_
  refine g_pu rfl rfl rfl (pu_move rfl rfl) ?_
  refine g_pu rfl rfl rfl (pu_loadW 9 (L := bs (xmV k u)) rfl rfl rfl hvb) ?_
  refine g_pu rfl rfl rfl (pu_loadW 11 (L := bs (xmV k u)) rfl rfl rfl hvb) ?_
  refine g_pu rfl rfl rfl (pu_neqA_f (a := bs (xmV k u)) (b := bs (xmV k u)) rfl rfl rfl rfl (all_bs _) hvb) ?_
  first | refine g_pu rfl rfl rfl (pu_pick_t rfl rfl rfl) ?_ | refine g_pu rfl rfl rfl (pu_pick_f rfl rfl rfl) ?_
  refine g_pu rfl rfl rfl (pu_move rfl rfl) ?_
  first | refine g_pass rfl rfl rfl ?_ | refine g_pu rfl rfl rfl (pu_move rfl rfl) ?_
  first | refine g_pass rfl rfl rfl ?_ | refine g_pu rfl rfl rfl (pu_move rfl rfl) ?_
  refine g_pu rfl rfl rfl (pu_neq_f rfl rfl rfl (fun h => h rfl)) ?_
  first | refine g_pu rfl rfl rfl (pu_pick_t rfl rfl rfl) ?_ | refine g_pu rfl rfl rfl (pu_pick_f rfl rfl rfl) ?_
  refine g_nil ?_
  (repeat refine g_seq ?_)
  refine g_cond_f rfl (g_skip ?_)
  (repeat refine g_seq ?_)
  refine g_region ?_
  refine g_pu rfl rfl rfl (pu_move rfl rfl) ?_
  refine g_callW [21] [21] rfl rfl rfl rfl rfl rfl (fun j hj => ⟨21, by simp, _, rfl, hj⟩) (fun w' hm => OverP_b w' x21 (n + 40) (l := k) (hm.holds 21 _ rfl) hkl (by omega)) (fun _ _ => ?_)
  refine g_nil ?_
  (repeat refine g_seq ?_)
  refine g_region ?_
  refine g_pu rfl rfl rfl (pu_move rfl rfl) ?_
  refine g_callW [26] [26] rfl rfl rfl rfl rfl rfl (fun j hj => ⟨26, by simp, _, rfl, hj⟩) (fun w' hm => OverP_b w' x26 (m + 40) (l := u) (hm.holds 26 _ rfl) hul (by omega)) (fun _ _ => ?_)
  refine g_nil ?_
  (repeat refine g_seq ?_)
  refine g_region ?_
  refine g_pu rfl rfl rfl (pu_move rfl rfl) ?_
  refine g_call [77] rfl rfl rfl rfl rfl rfl (fun w' hm => Copy_b w' c (hk.m hm)) (fun x77 _ => ?_)
  refine g_pu rfl rfl rfl (pu_move rfl rfl) ?_
  refine g_call [79] rfl rfl rfl rfl rfl rfl (fun w' hm => Copy_b w' d (hu.m hm)) (fun x79 _ => ?_)
  refine g_call [] rfl rfl rfl rfl rfl rfl (fun w' hm => Mult_b w' x77.c x79.c (By.ow 77 rfl hm hkl (by omega)) (By.ow 79 rfl hm hul (by omega))) (fun _ _ => ?_)
  refine g_pu rfl rfl rfl (pu_move rfl rfl) ?_
  refine g_pu rfl rfl rfl (pu_extract rfl rfl rfl) ?_
  refine g_pu rfl rfl rfl (pu_extract rfl rfl rfl) ?_
  refine g_lo [15] rfl rfl rfl rfl (lo_alloc rfl) (fun b15 hb15 => ?_)
  refine g_storeL 15 (s := 32) (C := bs (xmV k u)) rfl rfl rfl rfl rfl rfl hvb rfl (oneCell_bs _) ?_
  refine g_pu rfl rfl rfl (pu_assign rfl rfl) ?_
  refine g_nil ?_
  by_cases h32 : n = 32
  · have hk32 : k.length = 32 := by omega
    have hN : npC k = prC k (xmV k nine) := if_pos (pub_ok hk32)
    rw [hN]
    (repeat refine g_seq ?_)
    refine g_region ?_
    refine g_pu rfl rfl rfl (pu_loadW 15 (L := bs (xmV k u)) rfl rfl rfl hvb) ?_
    refine g_pu rfl rfl rfl (pu_loadW 9 (L := bs (xmV k u)) rfl rfl rfl hvb) ?_
    refine g_pu rfl rfl rfl (pu_eqlA_t (a := bs (xmV k u)) (b := bs (xmV k u)) rfl rfl rfl rfl (all_bs _) hvb) ?_
    refine g_pu rfl rfl rfl (pu_move rfl rfl) ?_
    first | refine g_pass rfl rfl rfl ?_ | refine g_pu rfl rfl rfl (pu_move rfl rfl) ?_
    first | refine g_pass rfl rfl rfl ?_ | refine g_pu rfl rfl rfl (pu_move rfl rfl) ?_
    refine g_pu rfl rfl rfl (pu_eql_t rfl rfl rfl rfl) ?_
    first | refine g_pu rfl rfl rfl (pu_pick_t rfl rfl rfl) ?_ | refine g_pu rfl rfl rfl (pu_pick_f rfl rfl rfl) ?_
    refine g_pu rfl rfl rfl (pu_move rfl rfl) ?_
    first | refine g_pass rfl rfl rfl ?_ | refine g_pu rfl rfl rfl (pu_move rfl rfl) ?_
    first | refine g_pass rfl rfl rfl ?_ | refine g_pu rfl rfl rfl (pu_len rfl rfl) ?_ | refine g_pu rfl rfl rfl (pu_lenS rfl rfl) ?_
    first | refine g_pass rfl rfl rfl ?_ | refine g_pu rfl rfl rfl (pu_neq_t rfl rfl rfl (by omega)) ?_ | refine g_pu rfl rfl rfl (pu_neq_f rfl rfl rfl (by omega)) ?_ | refine g_pu rfl rfl rfl (pu_neq rfl rfl rfl) ?_
    first | refine g_pass rfl rfl rfl ?_ | refine g_pu rfl rfl rfl (pu_move rfl rfl) ?_
    first | refine g_pass rfl rfl rfl ?_ | refine g_pu rfl rfl rfl (pu_fieldAddr (by decide) rfl rfl) ?_
    refine g_pu rfl rfl rfl (pu_sliceA rfl rfl) ?_
    first | refine g_pass rfl rfl rfl ?_ | refine g_pu rfl rfl rfl (pu_move rfl rfl) ?_
    refine g_call [] rfl rfl rfl rfl rfl rfl (fun w' hm => Equal_b w' 32 c (a := k) ⟨(RdV.take (hm.rowA 13 (L := prC k (xmV k nine)) rfl) : RdV w' _ (bs k)), hk32, by omega⟩ (hk.m hm)) (fun _ _ => ?_)
    rw [decide_eq_true (rfl : k = k)]
    first | refine g_pass rfl rfl rfl ?_ | refine g_pu rfl rfl rfl (pu_pick_t rfl rfl rfl) ?_ | refine g_pu rfl rfl rfl (pu_pick_f rfl rfl rfl) ?_
    first | refine g_pu rfl rfl rfl (pu_pick_t rfl rfl rfl) ?_ | refine g_pu rfl rfl rfl (pu_pick_f rfl rfl rfl) ?_
    refine g_pu rfl rfl rfl (pu_assign rfl rfl) ?_
    refine g_nil ?_
    exact g_ret1 rfl rfl (fun w' hm => ⟨(), trivial, rfl, hm.grows [] trivial rfl⟩)
  · (repeat refine g_seq ?_)
    refine g_region ?_
    refine g_pu rfl rfl rfl (pu_loadW 15 (L := bs (xmV k u)) rfl rfl rfl hvb) ?_
    refine g_pu rfl rfl rfl (pu_loadW 9 (L := bs (xmV k u)) rfl rfl rfl hvb) ?_
    refine g_pu rfl rfl rfl (pu_eqlA_t (a := bs (xmV k u)) (b := bs (xmV k u)) rfl rfl rfl rfl (all_bs _) hvb) ?_
    refine g_pu rfl rfl rfl (pu_move rfl rfl) ?_
    first | refine g_pass rfl rfl rfl ?_ | refine g_pu rfl rfl rfl (pu_move rfl rfl) ?_
    first | refine g_pass rfl rfl rfl ?_ | refine g_pu rfl rfl rfl (pu_move rfl rfl) ?_
    refine g_pu rfl rfl rfl (pu_eql_t rfl rfl rfl rfl) ?_
    first | refine g_pu rfl rfl rfl (pu_pick_t rfl rfl rfl) ?_ | refine g_pu rfl rfl rfl (pu_pick_f rfl rfl rfl) ?_
    refine g_pu rfl rfl rfl (pu_move rfl rfl) ?_
    first | refine g_pass rfl rfl rfl ?_ | refine g_pu rfl rfl rfl (pu_move rfl rfl) ?_
    first | refine g_pass rfl rfl rfl ?_ | refine g_pu rfl rfl rfl (pu_len rfl rfl) ?_ | refine g_pu rfl rfl rfl (pu_lenS rfl rfl) ?_
    first | refine g_pass rfl rfl rfl ?_ | refine g_pu rfl rfl rfl (pu_neq_t rfl rfl rfl (by omega)) ?_ | refine g_pu rfl rfl rfl (pu_neq_f rfl rfl rfl (by omega)) ?_ | refine g_pu rfl rfl rfl (pu_neq rfl rfl rfl) ?_
    first | refine g_pass rfl rfl rfl ?_ | refine g_pu rfl rfl rfl (pu_move rfl rfl) ?_
    first | refine g_pass rfl rfl rfl ?_ | refine g_pu rfl rfl rfl (pu_fieldAddr (by decide) rfl rfl) ?_
    refine g_pass rfl rfl rfl ?_
    first | refine g_pass rfl rfl rfl ?_ | refine g_pu rfl rfl rfl (pu_move rfl rfl) ?_
    refine g_pass rfl rfl rfl ?_
    first | refine g_pass rfl rfl rfl ?_ | refine g_pu rfl rfl rfl (pu_pick_t rfl rfl rfl) ?_ | refine g_pu rfl rfl rfl (pu_pick_f rfl rfl rfl) ?_
    first | refine g_pu rfl rfl rfl (pu_pick_t rfl rfl rfl) ?_ | refine g_pu rfl rfl rfl (pu_pick_f rfl rfl rfl) ?_
    refine g_pu rfl rfl rfl (pu_assign rfl rfl) ?_
    refine g_nil ?_
    exact g_ret1 rfl rfl (fun w' hm => ⟨(), trivial, rfl, hm.grows [] trivial rfl⟩)
end Go.Sx
