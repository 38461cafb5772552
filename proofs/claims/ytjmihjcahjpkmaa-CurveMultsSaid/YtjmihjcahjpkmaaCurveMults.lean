/-
  CurveMults: every multiplication of a point by a scalar is X25519's. The bytes fit memory.
-/
import Derived.Test.YtjmihjcahjpkmaaK5
import Derived.Test.YtjmihjcahjpkmaaC2
set_option linter.unusedVariables false
set_option linter.unusedSimpArgs false
namespace Go.Sx
open Go Go.Proofs

theorem CurveMults_spec (w : World) {p q : Option Addr} {n m : Nat} (c d : Nat) {k u : List (BitVec 8)} (hk : By w p n k) (hu : By w q m u) : Spec Try.prog 3 #[.slice p n c, .slice q m d] w (σ := Unit) (fun _ => True) (fun _ => .bool true) Nob (fun _ => []) := by
  refine enter Try.func3 rfl rfl (Mem.start w) ?_
  have hkl := hk.len
  have hul := hu.len
  have hkb := hk.big
  have hub := hu.big
  have hcv := clampV_length k
  have hcl : (bs (clampV k)).length = 32 := by rw [bs_length, hcv]
  have hxl := xmV_length k u
  have hbl : (bs (xmV k u)).length = 32 := by rw [bs_length, hxl]
  (repeat refine g_seq ?_)
  refine g_region ?_
  refine g_pu rfl rfl rfl (pu_assign rfl rfl) ?_
  refine g_nil ?_
  (repeat refine g_seq ?_)
  refine g_region ?_
  refine g_call [] rfl rfl rfl rfl rfl rfl (fun w' hm => awake06_b w') (fun _ _ => ?_)
  refine g_pu rfl rfl rfl (pu_not rfl rfl) ?_
  refine g_nil ?_
  (repeat refine g_seq ?_)
  refine g_cond_f rfl (g_skip ?_)
  (repeat refine g_seq ?_)
  refine g_region ?_
  refine g_pu rfl rfl rfl (pu_move rfl rfl) ?_
  refine g_call [15] rfl rfl rfl rfl rfl rfl (fun w' hm => Copy_b w' c (hk.m hm)) (fun x15 _ => ?_)
  refine g_call [] rfl rfl rfl rfl rfl rfl (fun w' hm => Clamp_b w' x15.c (By.ow 15 rfl hm hkl hkb)) (fun _ _ => ?_)
  refine g_pu rfl rfl rfl (pu_move rfl rfl) ?_
  refine g_pu rfl rfl rfl (pu_extract rfl rfl rfl) ?_
  refine g_pu rfl rfl rfl (pu_extract rfl rfl rfl) ?_
  refine g_lo [5] rfl rfl rfl rfl (lo_alloc rfl) (fun b5 hb5 => ?_)
  refine g_storeL 5 (s := 32) (C := bs (clampV k)) rfl rfl rfl rfl rfl rfl hcl rfl (oneCell_bs _) ?_
  refine g_pu rfl rfl rfl (pu_assign rfl rfl) ?_
  refine g_nil ?_
  (repeat refine g_seq ?_)
  refine g_region ?_
  refine g_pu rfl rfl rfl (pu_move rfl rfl) ?_
  refine g_call [] rfl rfl rfl rfl rfl rfl (fun w' hm => RClamp_b w' c (hk.m hm)) (fun _ _ => ?_)
  refine g_pu rfl rfl rfl (pu_move rfl rfl) ?_
  refine g_pu rfl rfl rfl (pu_extract rfl rfl rfl) ?_
  refine g_pu rfl rfl rfl (pu_extract rfl rfl rfl) ?_
  refine g_lo [7] rfl rfl rfl rfl (lo_alloc rfl) (fun b7 hb7 => ?_)
  refine g_storeL 7 (s := 32) (C := bs (clampV k)) rfl rfl rfl rfl rfl rfl hcl rfl (oneCell_bs _) ?_
  refine g_pu rfl rfl rfl (pu_assign rfl rfl) ?_
  refine g_nil ?_
  (repeat refine g_seq ?_)
  refine g_region ?_
  refine g_pu rfl rfl rfl (pu_loadW 5 (L := bs (clampV k)) rfl rfl rfl hcl) ?_
  refine g_pu rfl rfl rfl (pu_loadW 7 (L := bs (clampV k)) rfl rfl rfl hcl) ?_
  refine g_pu rfl rfl rfl (pu_neqA_f (a := bs (clampV k)) (b := bs (clampV k)) rfl rfl rfl rfl (all_bs _) hcl) ?_
  refine g_pu rfl rfl rfl (pu_move rfl rfl) ?_
  first | refine g_pass rfl rfl rfl ?_ | refine g_pu rfl rfl rfl (pu_move rfl rfl) ?_
  first | refine g_pass rfl rfl rfl ?_ | refine g_pu rfl rfl rfl (pu_move rfl rfl) ?_
  refine g_pu rfl rfl rfl (pu_neq_f rfl rfl rfl (fun h => h rfl)) ?_
  first | refine g_pu rfl rfl rfl (pu_pick_t rfl rfl rfl) ?_ | refine g_pu rfl rfl rfl (pu_pick_f rfl rfl rfl) ?_
  refine g_nil ?_
  (repeat refine g_seq ?_)
  refine g_cond_f rfl (g_skip ?_)
  (repeat refine g_seq ?_)
  refine g_region ?_
  refine g_pu rfl rfl rfl (pu_move rfl rfl) ?_
  refine g_call [34] rfl rfl rfl rfl rfl rfl (fun w' hm => Copy_b w' c (hk.m hm)) (fun x34 _ => ?_)
  refine g_pu rfl rfl rfl (pu_move rfl rfl) ?_
  refine g_call [36] rfl rfl rfl rfl rfl rfl (fun w' hm => Copy_b w' d (hu.m hm)) (fun x36 _ => ?_)
  refine g_call [] rfl rfl rfl rfl rfl rfl (fun w' hm => Mult_b w' x34.c x36.c (By.ow 34 rfl hm hkl hkb) (By.ow 36 rfl hm hul hub)) (fun _ _ => ?_)
  refine g_pu rfl rfl rfl (pu_move rfl rfl) ?_
  refine g_pu rfl rfl rfl (pu_extract rfl rfl rfl) ?_
  refine g_pu rfl rfl rfl (pu_extract rfl rfl rfl) ?_
  refine g_lo [9] rfl rfl rfl rfl (lo_alloc rfl) (fun b9 hb9 => ?_)
  refine g_storeL 9 (s := 32) (C := bs (xmV k u)) rfl rfl rfl rfl rfl rfl hbl rfl (oneCell_bs _) ?_
  refine g_pu rfl rfl rfl (pu_assign rfl rfl) ?_
  refine g_nil ?_
  (repeat refine g_seq ?_)
  refine g_region ?_
  refine g_pu rfl rfl rfl (pu_move rfl rfl) ?_
  refine g_pu rfl rfl rfl (pu_move rfl rfl) ?_
  refine g_call [] rfl rfl rfl rfl rfl rfl (fun w' hm => RMult_b w' c d (hk.m hm) (hu.m hm)) (fun _ _ => ?_)
  refine g_pu rfl rfl rfl (pu_move rfl rfl) ?_
  refine g_pu rfl rfl rfl (pu_extract rfl rfl rfl) ?_
  refine g_pu rfl rfl rfl (pu_extract rfl rfl rfl) ?_
  refine g_lo [10] rfl rfl rfl rfl (lo_alloc rfl) (fun b10 hb10 => ?_)
  refine g_storeL 10 (s := 32) (C := bs (xmV k u)) rfl rfl rfl rfl rfl rfl hbl rfl (oneCell_bs _) ?_
  refine g_pu rfl rfl rfl (pu_assign rfl rfl) ?_
  refine g_nil ?_
  (repeat refine g_seq ?_)
  refine g_region ?_
  refine g_pu rfl rfl rfl (pu_loadW 9 (L := bs (xmV k u)) rfl rfl rfl hbl) ?_
  refine g_pu rfl rfl rfl (pu_loadW 10 (L := bs (xmV k u)) rfl rfl rfl hbl) ?_
  refine g_pu rfl rfl rfl (pu_eqlA_t (a := bs (xmV k u)) (b := bs (xmV k u)) rfl rfl rfl rfl (all_bs _) hbl) ?_
  refine g_pu rfl rfl rfl (pu_move rfl rfl) ?_
  first | refine g_pass rfl rfl rfl ?_ | refine g_pu rfl rfl rfl (pu_move rfl rfl) ?_
  first | refine g_pass rfl rfl rfl ?_ | refine g_pu rfl rfl rfl (pu_move rfl rfl) ?_
  refine g_pu rfl rfl rfl (pu_eql_t rfl rfl rfl rfl) ?_
  first | refine g_pu rfl rfl rfl (pu_pick_t rfl rfl rfl) ?_ | refine g_pu rfl rfl rfl (pu_pick_f rfl rfl rfl) ?_
  refine g_pu rfl rfl rfl (pu_assign rfl rfl) ?_
  refine g_nil ?_
  exact g_ret1 rfl rfl (fun w' hm => ⟨(), trivial, rfl, hm.grows [] trivial rfl⟩)
end Go.Sx
