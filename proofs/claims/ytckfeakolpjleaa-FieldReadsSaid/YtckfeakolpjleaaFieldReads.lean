/-
  FieldReads: every 32 bytes are read as their number without the highest bit, and written as the normal one. No condition.
-/
import Derived.Test.YtckfeakolpjleaaFieldForms
set_option linter.unusedVariables false
set_option linter.unusedSimpArgs false
namespace Go.Sx
open Go Go.Proofs

theorem readN_lt (l : List (BitVec 8)) : readN l < 57896044618658097711785492504343953926634992332820282019728792003956564819949 := by
  unfold readN
  split
  · omega
  · decide
theorem read_back {r : Nat} (h : r < 57896044618658097711785492504343953926634992332820282019728792003956564819949) : readN (leB 32 r) = r ∧ readE (leB 32 r) = 0 := by
  have hl := leB_length 32 r
  have hn : numB (leB 32 r) = r := numB_leB 32 r (Nat.lt_of_lt_of_le h (by decide))
  unfold readN readE
  rw [if_pos hl, if_pos hl, hn]
  exact ⟨by omega, rfl⟩

theorem FieldReads_spec (w : World) {p : Option Addr} {n : Nat} (c : Nat) {l : List (BitVec 8)} (ha : By w p n l) : Spec Try.prog 8 #[.slice p n c] w (σ := Unit) (fun _ => True) (fun _ => .bool true) Nob (fun _ => []) := by
  refine enter Try.func8 rfl rfl (Mem.start w) ?_
  have hr := readN_lt l
  have hr2 : readN l < 115792089237316195423570985008687907853269984665640564039457584007913129639936 := by omega
  have hE : readE l = 0 ∨ readE l = 2 := by unfold readE; split <;> simp
  generalize hN : readN l = r at *
  have hrb := read_back hr
  (repeat refine g_seq ?_)
  refine g_region ?_
  refine g_pu rfl rfl rfl (pu_assign rfl rfl) ?_
  refine g_nil ?_
  (repeat refine g_seq ?_)
  refine g_region ?_
  refine g_call [] rfl rfl rfl rfl rfl rfl (fun w' hm => awake05_b w') (fun _ _ => ?_)
  refine g_pu rfl rfl rfl (pu_not rfl rfl) ?_
  refine g_nil ?_
  (repeat refine g_seq ?_)
  refine g_cond_f rfl (g_skip ?_)
  (repeat refine g_seq ?_)
  refine g_region ?_
  refine g_pu rfl rfl rfl (pu_move rfl rfl) ?_
  refine g_call [13] rfl rfl rfl rfl rfl rfl (fun w' hm => Copy_b w' c (ha.m hm)) (fun x13 _ => ?_)
  refine g_call [] rfl rfl rfl rfl rfl rfl (fun w' hm => Read_b w' x13.c (l := l) (By.ow 13 rfl hm ha.len ha.big)) (fun _ _ => ?_)
  rw [hN]
  refine g_pu rfl rfl rfl (pu_move rfl rfl) ?_
  refine g_pu rfl rfl rfl (pu_extract rfl rfl rfl) ?_
  refine g_pu rfl rfl rfl (pu_extract rfl rfl rfl) ?_
  refine g_lo [3] rfl rfl rfl rfl (lo_alloc rfl) (fun b3 hb3 => ?_)
  refine g_storeL 3 (s := 4) (C := el r) rfl rfl rfl rfl rfl rfl rfl rfl (oneCell_el _) ?_
  refine g_pu rfl rfl rfl (pu_assign rfl rfl) ?_
  refine g_nil ?_
  (repeat refine g_seq ?_)
  refine g_region ?_
  refine g_pu rfl rfl rfl (pu_move rfl rfl) ?_
  refine g_call [] rfl rfl rfl rfl rfl rfl (fun w' hm => RRead_b w' c (ha.m hm)) (fun _ _ => ?_)
  rw [hN]
  refine g_pu rfl rfl rfl (pu_move rfl rfl) ?_
  refine g_pu rfl rfl rfl (pu_extract rfl rfl rfl) ?_
  refine g_pu rfl rfl rfl (pu_extract rfl rfl rfl) ?_
  refine g_lo [5] rfl rfl rfl rfl (lo_alloc rfl) (fun b5 hb5 => ?_)
  refine g_storeL 5 (s := 8) (C := dg r) rfl rfl rfl rfl rfl rfl rfl rfl (oneCell_dg _) ?_
  refine g_pu rfl rfl rfl (pu_assign rfl rfl) ?_
  refine g_nil ?_
  (repeat refine g_seq ?_)
  refine g_region ?_
  refine g_pu rfl rfl rfl (pu_move rfl rfl) ?_
  refine g_pu rfl rfl rfl (pu_move rfl rfl) ?_
  refine g_pu rfl rfl rfl (pu_neq_f rfl rfl rfl (fun h => h rfl)) ?_
  refine g_pu rfl rfl rfl (pu_move rfl rfl) ?_
  refine g_pu rfl rfl rfl (pu_loadW 3 (L := el r) rfl rfl rfl rfl) ?_
  refine g_pu rfl rfl rfl (pu_loadW 5 (L := dg r) rfl rfl rfl rfl) ?_
  refine g_call [] rfl rfl rfl rfl rfl rfl (fun w' hm => is05_t w' r hr2) (fun _ _ => ?_)
  first | refine g_pass rfl rfl rfl ?_ | refine g_pu rfl rfl rfl (pu_not rfl rfl) ?_
  first | refine g_pu rfl rfl rfl (pu_pick_t rfl rfl rfl) ?_ | refine g_pu rfl rfl rfl (pu_pick_f rfl rfl rfl) ?_
  refine g_nil ?_
  (repeat refine g_seq ?_)
  refine g_cond_f rfl (g_skip ?_)
  rcases hE with hE | hE
  · (repeat refine g_seq ?_)
    refine g_region ?_
    refine g_pu rfl rfl rfl (pu_move rfl rfl) ?_
    refine g_pu rfl rfl rfl (pu_neq_f rfl rfl rfl (by omega)) ?_
    refine g_nil ?_
    (repeat refine g_seq ?_)
    refine g_cond_f rfl (g_skip ?_)
    (repeat refine g_seq ?_)
    refine g_region ?_
    refine g_pu rfl rfl rfl (pu_loadW 3 (L := el r) rfl rfl rfl rfl) ?_
    refine g_call [] rfl rfl rfl rfl rfl rfl (fun w' hm => Bytes_n w' r hr) (fun _ _ => ?_)
    refine g_lo [7] rfl rfl rfl rfl (lo_alloc rfl) (fun b7 hb7 => ?_)
    refine g_storeL 7 (s := 32) (C := bs (leB 32 r)) rfl rfl rfl rfl rfl rfl (by rw [bs_length, leB_length]) rfl (oneCell_bs _) ?_
    refine g_nil ?_
    have hbl : (bs (leB 32 r)).length = 32 := by rw [bs_length, leB_length]
    (repeat refine g_seq ?_)
    refine g_region ?_
    refine g_pu rfl rfl rfl (pu_sliceA rfl rfl) ?_
    refine g_call [] rfl rfl rfl rfl rfl rfl (fun w' hm => Read_b w' 32 (l := leB 32 r) (By.full 7 rfl hm (leB_length 32 r) (by omega))) (fun _ _ => ?_)
    rw [hrb.1, hrb.2]
    refine g_pu rfl rfl rfl (pu_move rfl rfl) ?_
    refine g_pu rfl rfl rfl (pu_extract rfl rfl rfl) ?_
    refine g_pu rfl rfl rfl (pu_extract rfl rfl rfl) ?_
    refine g_lo [8] rfl rfl rfl rfl (lo_alloc rfl) (fun q8 hb8 => ?_)
    refine g_storeL 8 (s := 4) (C := el r) rfl rfl rfl rfl rfl rfl rfl rfl (oneCell_el _) ?_
    refine g_pu rfl rfl rfl (pu_assign rfl rfl) ?_
    refine g_nil ?_
    (repeat refine g_seq ?_)
    refine g_any (14, []) ?_
    refine a_pu 0 rfl rfl rfl rfl (pu_loadW 7 (L := bs (leB 32 r)) rfl rfl rfl hbl) rfl rfl (by kernel_rfl) ?_
    refine a_pu 1 rfl rfl rfl rfl (pu_loadW 5 (L := dg r) rfl rfl rfl rfl) rfl rfl (by kernel_rfl) ?_
    refine a_do 2 42 [] (does_call rfl rfl rfl rfl rfl (fun w' hm => RBytes_n w' r hr)) rfl rfl (by kernel_rfl) rfl rfl (by kernel_rfl) (by kernel_rfl) (by kernel_rfl) rfl (fun p hp => by cases hp) ?_; rintro v_ cs_ ⟨_, _, rfl, rfl⟩
    refine a_pu 3 rfl rfl rfl rfl (pu_eqlA_t (a := bs (leB 32 r)) (b := bs (leB 32 r)) rfl rfl rfl rfl (all_bs _) hbl) rfl rfl (by kernel_rfl) ?_
    refine a_pu 4 rfl rfl rfl rfl (pu_move rfl rfl) rfl rfl (by kernel_rfl) ?_
    first | refine a_pass 5 rfl rfl rfl rfl rfl rfl (by kernel_rfl) ?_ | refine a_pu 5 rfl rfl rfl rfl (pu_move rfl rfl) rfl rfl (by kernel_rfl) ?_
    refine a_pu 6 rfl rfl rfl rfl (pu_eql_t rfl rfl rfl rfl) rfl rfl (by kernel_rfl) ?_
    first | refine a_pu 7 rfl rfl rfl rfl (pu_pick_t rfl rfl rfl) rfl rfl (by kernel_rfl) ?_ | refine a_pu 7 rfl rfl rfl rfl (pu_pick_f rfl rfl rfl) rfl rfl (by kernel_rfl) ?_
    refine a_pu 8 rfl rfl rfl rfl (pu_move rfl rfl) rfl rfl (by kernel_rfl) ?_
    refine a_pu 9 rfl rfl rfl rfl (pu_loadW 8 (L := el r) rfl rfl rfl rfl) rfl rfl (by kernel_rfl) ?_
    refine a_pu 10 rfl rfl rfl rfl (pu_loadW 3 (L := el r) rfl rfl rfl rfl) rfl rfl (by kernel_rfl) ?_
    refine a_pu 11 rfl rfl rfl rfl (pu_eqlA_t (a := el r) (b := el r) rfl rfl rfl rfl (all_el _) (el_length _)) rfl rfl (by kernel_rfl) ?_
    first | refine a_pu 12 rfl rfl rfl rfl (pu_pick_t rfl rfl rfl) rfl rfl (by kernel_rfl) ?_ | refine a_pu 12 rfl rfl rfl rfl (pu_pick_f rfl rfl rfl) rfl rfl (by kernel_rfl) ?_
    refine a_pu 13 rfl rfl rfl rfl (pu_assign rfl rfl) rfl rfl (by kernel_rfl) ?_
    refine a_done (by kernel_rfl) ?_
    exact g_ret1 rfl rfl (fun w' hm => ⟨(), trivial, rfl, hm.grows [] trivial rfl⟩)
  · (repeat refine g_seq ?_)
    refine g_region ?_
    refine g_pu rfl rfl rfl (pu_move rfl rfl) ?_
    refine g_pu rfl rfl rfl (pu_neq_t rfl rfl rfl (by omega)) ?_
    refine g_nil ?_
    (repeat refine g_seq ?_)
    refine g_cond_t rfl ?_
    (repeat refine g_seq ?_)
    refine g_region ?_
    refine g_pu rfl rfl rfl (pu_assign rfl rfl) ?_
    refine g_nil ?_
    exact g_ret1 rfl rfl (fun w' hm => ⟨(), trivial, rfl, hm.grows [] trivial rfl⟩)
end Go.Sx
