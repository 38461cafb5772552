import Derived.Test.YtkonbclggbcffaaGreatZaKY4
set_option linter.unusedVariables false
set_option linter.unusedSimpArgs false
/-
  KeysPeels: a hop's private key and the public value that it gets give its keys, and the value for the next hop. No condition.
-/
namespace Go.Sx
open Go Go.Proofs

theorem plV_length (k a : List (BitVec 8)) : (plV k a).length = 192 := by
  unfold plV
  split
  · exact stL'_length (xmE_u (by assumption)) (xmV_length _ _)
  · exact zeroL_length 192

theorem KeysPeels_spec (w : World) {p q : Option Addr} {n m : Nat} (c d : Nat) {k a : List (BitVec 8)} (hk : By w p n k) (ha : By w q m a) : Spec Tryz.prog 4 #[.slice p n c, .slice q m d] w (σ := Unit) (fun _ => True) (fun _ => .bool true) Nob (fun _ => []) := by
  refine enter Tryz.func4 rfl rfl (Mem.start w) ?_
  have hkl := hk.len
  have hal := ha.len
  have hkb := hk.big
  have hab := ha.big
  have hpl := plV_length k a
  have hpb : (bs (plV k a)).length = 192 := by rw [bs_length, hpl]
  (repeat refine g_seq ?_)
  refine g_region ?_
  refine g_pu rfl rfl rfl (pu_assign rfl rfl) ?_
  refine g_nil ?_
  (repeat refine g_seq ?_)
  refine g_region ?_
  refine g_call [] rfl rfl rfl rfl rfl rfl (fun w' hm => awake12_b w') (fun _ _ => ?_)
  refine g_pu rfl rfl rfl (pu_not rfl rfl) ?_
  refine g_nil ?_
  (repeat refine g_seq ?_)
  refine g_cond_f rfl (g_skip ?_)
  (repeat refine g_seq ?_)
  refine g_region ?_
  refine g_pu rfl rfl rfl (pu_move rfl rfl) ?_
  refine g_call [15] rfl rfl rfl rfl rfl rfl (fun w' hm => Copy_b w' c (hk.m hm)) (fun x15 _ => ?_)
  refine g_pu rfl rfl rfl (pu_move rfl rfl) ?_
  refine g_call [17] rfl rfl rfl rfl rfl rfl (fun w' hm => Copy_b w' d (ha.m hm)) (fun x17 _ => ?_)
  refine g_call [] rfl rfl rfl rfl rfl rfl (fun w' hm => Peel_b w' x15.c x17.c (By.ow 15 rfl hm hkl hkb) (By.ow 17 rfl hm hal hab)) (fun _ _ => ?_)
  refine g_pu rfl rfl rfl (pu_move rfl rfl) ?_
  refine g_pu rfl rfl rfl (pu_extract rfl rfl rfl) ?_
  refine g_pu rfl rfl rfl (pu_extract rfl rfl rfl) ?_
  refine g_lo [5] rfl rfl rfl rfl (lo_alloc rfl) (fun b5 hb5 => ?_)
  refine g_storeL 5 (s := 192) (C := bs (plV k a)) rfl rfl rfl rfl rfl rfl hpb (by rw [List.length_replicate]) (oneCell_bs _) ?_
  refine g_pu rfl rfl rfl (pu_assign rfl rfl) ?_
  refine g_nil ?_
  (repeat refine g_seq ?_)
  refine g_region ?_
  refine g_pu rfl rfl rfl (pu_move rfl rfl) ?_
  refine g_pu rfl rfl rfl (pu_move rfl rfl) ?_
  refine g_call [] rfl rfl rfl rfl rfl rfl (fun w' hm => RPeel_b w' c d (hk.m hm) (ha.m hm)) (fun _ _ => ?_)
  refine g_pu rfl rfl rfl (pu_move rfl rfl) ?_
  refine g_pu rfl rfl rfl (pu_extract rfl rfl rfl) ?_
  refine g_pu rfl rfl rfl (pu_extract rfl rfl rfl) ?_
  refine g_lo [7] rfl rfl rfl rfl (lo_alloc rfl) (fun b7 hb7 => ?_)
  refine g_storeL 7 (s := 192) (C := bs (plV k a)) rfl rfl rfl rfl rfl rfl hpb (by rw [List.length_replicate]) (oneCell_bs _) ?_
  refine g_pu rfl rfl rfl (pu_assign rfl rfl) ?_
  refine g_nil ?_
  (repeat refine g_seq ?_)
  refine g_region ?_
  refine g_pu rfl rfl rfl (pu_move rfl rfl) ?_
  refine g_pu rfl rfl rfl (pu_move rfl rfl) ?_
  refine g_pu rfl rfl rfl (pu_neq_f rfl rfl rfl (fun h => h rfl)) ?_
  refine g_pu rfl rfl rfl (pu_move rfl rfl) ?_
  refine g_pu rfl rfl rfl (pu_loadW 5 (L := bs (plV k a)) rfl rfl rfl hpb) ?_
  refine g_pu rfl rfl rfl (pu_loadW 7 (L := bs (plV k a)) rfl rfl rfl hpb) ?_
  refine g_call [] rfl rfl rfl rfl rfl rfl (fun w' hm => is12_b w' hpl) (fun _ _ => ?_)
  first | refine g_pass rfl rfl rfl ?_ | refine g_pu rfl rfl rfl (pu_not rfl rfl) ?_
  first | refine g_pu rfl rfl rfl (pu_pick_t rfl rfl rfl) ?_ | refine g_pu rfl rfl rfl (pu_pick_f rfl rfl rfl) ?_
  refine g_nil ?_
  (repeat refine g_seq ?_)
  refine g_cond_f rfl (g_skip ?_)
  by_cases hE : xmE k a = 0
  · have ha32 := xmE_u hE
    have hsl := xmV_length k a
    have hV : plV k a = stL' a (xmV k a) := if_pos hE
    rw [hV] at hpb ⊢
    rw [hE]
    generalize xmV k a = s at hsl hpb
    have hxb : (bs (xmV (kBlind s) a)).length = 32 := by rw [bs_length, xmV_length]
    (repeat refine g_seq ?_)
    refine g_region ?_
    refine g_pu rfl rfl rfl (pu_move rfl rfl) ?_
    first | refine g_pu rfl rfl rfl (pu_neq_t rfl rfl rfl (by omega)) ?_ | refine g_pu rfl rfl rfl (pu_neq_f rfl rfl rfl (by omega)) ?_ | refine g_pu rfl rfl rfl (pu_neq rfl rfl rfl) ?_
    refine g_nil ?_
    (repeat refine g_seq ?_)
    refine g_cond_f rfl (g_skip ?_)
    (repeat refine g_seq ?_)
    refine g_region ?_
    refine g_pu rfl rfl rfl (pu_loadW 5 (L := bs (stL' a s)) rfl rfl rfl hpb) ?_
    refine g_call [] rfl rfl rfl rfl rfl rfl (fun w' hm => Next12_b w' ha32 hsl) (fun _ _ => ?_)
    refine g_pu rfl rfl rfl (pu_move rfl rfl) ?_
    refine g_pu rfl rfl rfl (pu_extract rfl rfl rfl) ?_
    refine g_pu rfl rfl rfl (pu_extract rfl rfl rfl) ?_
    refine g_lo [9] rfl rfl rfl rfl (lo_alloc rfl) (fun b9 hb9 => ?_)
    refine g_storeL 9 (s := 32) (C := bs (xmV (kBlind s) a)) rfl rfl rfl rfl rfl rfl hxb rfl (oneCell_bs _) ?_
    refine g_pu rfl rfl rfl (pu_assign rfl rfl) ?_
    refine g_nil ?_
    (repeat refine g_seq ?_)
    refine g_region ?_
    refine g_pu rfl rfl rfl (pu_loadW 7 (L := bs (stL' a s)) rfl rfl rfl hpb) ?_
    refine g_call [] rfl rfl rfl rfl rfl rfl (fun w' hm => RNext12_b w' ha32 hsl) (fun _ _ => ?_)
    refine g_pu rfl rfl rfl (pu_move rfl rfl) ?_
    refine g_pu rfl rfl rfl (pu_extract rfl rfl rfl) ?_
    refine g_pu rfl rfl rfl (pu_extract rfl rfl rfl) ?_
    refine g_lo [10] rfl rfl rfl rfl (lo_alloc rfl) (fun b10 hb10 => ?_)
    refine g_storeL 10 (s := 32) (C := bs (xmV (kBlind s) a)) rfl rfl rfl rfl rfl rfl hxb rfl (oneCell_bs _) ?_
    refine g_pu rfl rfl rfl (pu_assign rfl rfl) ?_
    refine g_nil ?_
    (repeat refine g_seq ?_)
    refine g_region ?_
    refine g_pu rfl rfl rfl (pu_loadW 9 (L := bs (xmV (kBlind s) a)) rfl rfl rfl hxb) ?_
    refine g_pu rfl rfl rfl (pu_loadW 10 (L := bs (xmV (kBlind s) a)) rfl rfl rfl hxb) ?_
    refine g_pu rfl rfl rfl (pu_eqlA_t (a := bs (xmV (kBlind s) a)) (b := bs (xmV (kBlind s) a)) rfl rfl rfl rfl (all_bs _) hxb) ?_
    refine g_pu rfl rfl rfl (pu_move rfl rfl) ?_
    first | refine g_pass rfl rfl rfl ?_ | refine g_pu rfl rfl rfl (pu_move rfl rfl) ?_
    first | refine g_pass rfl rfl rfl ?_ | refine g_pu rfl rfl rfl (pu_move rfl rfl) ?_
    refine g_pu rfl rfl rfl (pu_eql_t rfl rfl rfl rfl) ?_
    first | refine g_pu rfl rfl rfl (pu_pick_t rfl rfl rfl) ?_ | refine g_pu rfl rfl rfl (pu_pick_f rfl rfl rfl) ?_
    refine g_pu rfl rfl rfl (pu_assign rfl rfl) ?_
    refine g_nil ?_
    exact g_ret1 rfl rfl (fun w' hm => ⟨(), trivial, rfl, hm.grows [] trivial rfl⟩)
  · (repeat refine g_seq ?_)
    refine g_region ?_
    refine g_pu rfl rfl rfl (pu_move rfl rfl) ?_
    refine g_pu rfl rfl rfl (pu_neq_t rfl rfl rfl hE) ?_
    refine g_nil ?_
    (repeat refine g_seq ?_)
    refine g_cond_t rfl ?_
    (repeat refine g_seq ?_)
    refine g_region ?_
    refine g_pu rfl rfl rfl (pu_assign rfl rfl) ?_
    refine g_nil ?_
    exact g_ret1 rfl rfl (fun w' hm => ⟨(), trivial, rfl, hm.grows [] trivial rfl⟩)
end Go.Sx
