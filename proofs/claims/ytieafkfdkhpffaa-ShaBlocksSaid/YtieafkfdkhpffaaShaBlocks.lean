/-
  ShaBlocks: every block is compressed as the standard says, and no list of another length is. No condition.
-/
import Derived.Test.YtieafkfdkhpffaaS7
set_option linter.unusedVariables false
set_option linter.unusedSimpArgs false
namespace Go.Sx
open Go Go.Proofs
theorem ShaBlocks_spec (w : World) {p : Option Addr} {n : Nat} (c : Nat) {s : List (BitVec 32)} (hs : s.length = 8) {L : List Value} {ls : List (List (BitVec 8))} (ha : ByL w p n L ls) :
    Spec Try.prog 6 #[.agg (ws s).toArray, .slice p n c] w (σ := Unit) (fun _ => True) (fun _ => .bool true) Nob (fun _ => []) := by
  refine enter Try.func6 rfl rfl (Mem.start w) ?_
  have hbig := ha.big
  have hn := ha.len
  have hln := ha.lenL
  (repeat refine g_seq ?_)
  refine g_region ?_
  refine g_lo [2] rfl rfl rfl rfl (lo_box rfl rfl) (fun b2 hb2 => ?_)
  refine g_pu rfl rfl rfl (pu_assign rfl rfl) ?_
  refine g_nil ?_
  (repeat refine g_seq ?_)
  refine g_region ?_
  refine g_call [] rfl rfl rfl rfl rfl rfl (fun w' hm => awake02_b w') (fun _ _ => ?_)
  refine g_pu rfl rfl rfl (pu_not rfl rfl) ?_
  refine g_nil ?_
  (repeat refine g_seq ?_)
  refine g_cond_f rfl (g_skip ?_)
  (repeat refine g_seq ?_)
  refine g_region ?_
  refine g_pu rfl rfl rfl (pu_move rfl rfl) ?_
  first | refine g_pu rfl rfl rfl (pu_len rfl rfl) ?_ | refine g_pu rfl rfl rfl (pu_lenS rfl rfl) ?_
  refine g_pu rfl rfl rfl (pu_move rfl rfl) ?_
  refine g_nil ?_
  refine g_block (g_loop2 (fun (i : Nat) (s : List (BitVec 32)) => [(2, .pointer (some ⟨b2, 0, none⟩)), (12, .slice p n c), (13, .int .i64 (n : Int)), (14, .int .i64 (i : Int))]) (fun i s => [(2, .pt b2 (.cells (ws s).toArray 23 (0, 0)))]) (fun i s => i ≤ n ∧ s.length = 8) (fun i _ => n - i) 0 s ⟨rfl, rfl, rfl, rfl, trivial⟩ ⟨rfl, trivial⟩ ⟨by omega, hs⟩ ?_)
  clear hs
  intro i s ⟨hi, hs⟩
  by_cases hlt : i < n
  · (repeat refine g_seq ?_)
    refine g_region ?_
    first | refine g_pu rfl rfl rfl (pu_lss_t rfl rfl rfl (by omega)) ?_ | refine g_pu rfl rfl rfl (pu_lss_f rfl rfl rfl (by omega)) ?_ | refine g_pu rfl rfl rfl (pu_lss rfl rfl rfl) ?_
    refine g_nil ?_
    (repeat refine g_seq ?_)
    refine g_cond_t rfl (g_skip ?_)
    have hl : ls[i]? = some ls[i] := List.getElem?_eq_getElem (by omega)
    generalize ls[i] = l at hl
    obtain ⟨qi, mi, ci, hL2, hby⟩ := ha.at hl
    have hbm := hby.big
    have hcl := cmp_length l hs
    (repeat refine g_seq ?_); refine g_block ?_
    (repeat refine g_seq ?_)
    refine g_region ?_
    refine g_pu rfl rfl rfl (pu_atM1 i (fun w' hm => (ha.m hm).rd) rfl rfl rfl rfl hlt (by omega)) ?_
    refine g_pu rfl rfl rfl (pu_rdM (fun w' hm => (ha.m hm).rd) rfl rfl hL2) ?_
    refine g_pu rfl rfl rfl (pu_assign rfl rfl) ?_
    refine g_nil ?_
    by_cases h64 : mi = 64
    · subst h64
      (repeat refine g_seq ?_)
      refine g_any (8, [6]) ?_
      refine a_pu 0 rfl rfl rfl rfl (pu_loadW 2 (L := ws s) rfl rfl rfl (by rw [ws_length, hs])) rfl rfl (by kernel_rfl) ?_
      refine a_pu 1 rfl rfl rfl rfl (pu_move rfl rfl) rfl rfl (by kernel_rfl) ?_
      refine a_pendA 7 7 7 23 ?_
      refine a_do 2 21 [21] (does_call rfl rfl rfl rfl rfl (fun w' hm => Copy_b w' ci (hby.m hm))) rfl rfl (by kernel_rfl) rfl rfl (by kernel_rfl) (by kernel_rfl) (by kernel_rfl) rfl (fun p hp => by simp only [List.mem_cons, List.not_mem_nil, or_false] at hp; subst hp; exact does_PA rfl rfl rfl rfl) ?_; rintro v_ cs_ ⟨x21, _, rfl, rfl⟩
      refine a_do 3 22 [] (does_call rfl rfl rfl rfl rfl (fun w' hm => Compress_b w' _ (By.ow 21 rfl hm hby.len (by omega)) hs)) rfl rfl (by kernel_rfl) rfl rfl (by kernel_rfl) (by kernel_rfl) (by kernel_rfl) rfl (fun p hp => by simp only [List.mem_cons, List.not_mem_nil, or_false] at hp; subst hp; exact does_PA rfl rfl rfl rfl) ?_; rintro v_ cs_ ⟨_, _, rfl, rfl⟩
      refine a_pu 4 rfl rfl rfl rfl (pu_move rfl rfl) rfl rfl (by kernel_rfl) ?_
      refine a_pu 5 rfl rfl rfl rfl (pu_extract rfl rfl rfl) rfl rfl (by kernel_rfl) ?_
      first | refine a_mv 6 rfl rfl rfl rfl (fun _ => (pu_extract rfl rfl rfl)) rfl rfl rfl (by kernel_rfl) (by kernel_rfl) (by kernel_rfl) rfl ?_
      refine a_force _ (by kernel_rfl) rfl rfl rfl (by kernel_rfl) (by kernel_rfl) (by kernel_rfl) rfl (fun p hp => by simp only [List.mem_cons, List.not_mem_nil, or_false] at hp; subst hp; exact does_PA rfl rfl rfl rfl) ?_; rintro v_ cs_ ⟨b7, hb7, rfl, rfl⟩
      refine a_tail [8, 9] (by kernel_rfl) rfl rfl (by kernel_rfl) ?_
      refine g_storeL 7 (s := 8) (C := ws (cmp s l)) rfl rfl rfl rfl rfl rfl (by rw [ws_length, hcl]) rfl (oneCell_ws _) ?_
      refine g_pu rfl rfl rfl (pu_assign rfl rfl) ?_
      refine g_nil ?_
      (repeat refine g_seq ?_)
      refine g_region ?_
      refine g_pu rfl rfl rfl (pu_move rfl rfl) ?_
      first | refine g_pu rfl rfl rfl (pu_len rfl rfl) ?_ | refine g_pu rfl rfl rfl (pu_lenS rfl rfl) ?_
      first | refine g_pu rfl rfl rfl (pu_neq_t rfl rfl rfl (by omega)) ?_ | refine g_pu rfl rfl rfl (pu_neq_f rfl rfl rfl (by omega)) ?_ | refine g_pu rfl rfl rfl (pu_neq rfl rfl rfl) ?_
      refine g_nil ?_
      (repeat refine g_seq ?_)
      refine g_cond_f rfl (g_skip ?_)
      (repeat refine g_seq ?_)
      refine g_region ?_
      refine g_pu rfl rfl rfl (pu_loadW 2 (L := ws s) rfl rfl rfl (by rw [ws_length, hs])) ?_
      refine g_pu rfl rfl rfl (pu_move rfl rfl) ?_
      refine g_call [] rfl rfl rfl rfl rfl rfl (fun w' hm => RCompress_b w' ci (hby.m hm) hs) (fun _ _ => ?_)
      refine g_lo [9] rfl rfl rfl rfl (lo_alloc rfl) (fun b9 hb9 => ?_)
      refine g_storeL 9 (s := 8) (C := ws (cmp s l)) rfl rfl rfl rfl rfl rfl (by rw [ws_length, hcl]) rfl (oneCell_ws _) ?_
      refine g_nil ?_
      (repeat refine g_seq ?_)
      refine g_region ?_
      refine g_pu rfl rfl rfl (pu_move rfl rfl) ?_
      first | refine g_pu rfl rfl rfl (pu_neq_t rfl rfl rfl (by omega)) ?_ | refine g_pu rfl rfl rfl (pu_neq_f rfl rfl rfl (by omega)) ?_ | refine g_pu rfl rfl rfl (pu_neq rfl rfl rfl) ?_
      refine g_pu rfl rfl rfl (pu_move rfl rfl) ?_
      refine g_pu rfl rfl rfl (pu_loadW 7 (L := ws (cmp s l)) rfl rfl rfl (by rw [ws_length, hcl])) ?_
      refine g_pu rfl rfl rfl (pu_loadW 9 (L := ws (cmp s l)) rfl rfl rfl (by rw [ws_length, hcl])) ?_
      refine g_pu rfl rfl rfl (pu_neqA_f rfl rfl rfl rfl (all_ws _) (by rw [ws_length, hcl])) ?_
      first | refine g_pu rfl rfl rfl (pu_pick_t rfl rfl rfl) ?_ | refine g_pu rfl rfl rfl (pu_pick_f rfl rfl rfl) ?_
      refine g_nil ?_
      (repeat refine g_seq ?_)
      refine g_cond_f rfl (g_skip ?_)
      (repeat refine g_seq ?_)
      refine g_region ?_
      refine g_pu rfl rfl rfl (pu_loadW 7 (L := ws (cmp s l)) rfl rfl rfl (by rw [ws_length, hcl])) ?_
      refine g_storeL 2 (s := 8) (C := ws (cmp s l)) rfl rfl rfl rfl rfl rfl (by rw [ws_length, hcl]) (by rw [ws_length, hs]) (oneCell_ws _) ?_
      refine g_nil ?_
      refine g_blk ?_
      (repeat refine g_seq ?_)
      refine g_region ?_
      refine g_pu rfl rfl rfl (pu_addI rfl rfl rfl (by omega)) ?_
      refine g_pu rfl rfl rfl (pu_move rfl rfl) ?_
      refine g_nil ?_
      exact g_round2 (i + 1) (cmp s l) ⟨by omega, hcl⟩ (by omega) ⟨rfl, rfl, rfl, rfl, trivial⟩ ⟨rfl, trivial⟩
    · (repeat refine g_seq ?_)
      refine g_any (8, [6]) ?_
      refine a_pu 0 rfl rfl rfl rfl (pu_loadW 2 (L := ws s) rfl rfl rfl (by rw [ws_length, hs])) rfl rfl (by kernel_rfl) ?_
      refine a_pu 1 rfl rfl rfl rfl (pu_move rfl rfl) rfl rfl (by kernel_rfl) ?_
      refine a_pendA 7 7 7 23 ?_
      refine a_do 2 21 [21] (does_call rfl rfl rfl rfl rfl (fun w' hm => Copy_b w' ci (hby.m hm))) rfl rfl (by kernel_rfl) rfl rfl (by kernel_rfl) (by kernel_rfl) (by kernel_rfl) rfl (fun p hp => by simp only [List.mem_cons, List.not_mem_nil, or_false] at hp; subst hp; exact does_PA rfl rfl rfl rfl) ?_; rintro v_ cs_ ⟨x21, _, rfl, rfl⟩
      refine a_do 3 22 [] (does_call rfl rfl rfl rfl rfl (fun w' hm => Compress_e w' _ (s := s) h64)) rfl rfl (by kernel_rfl) rfl rfl (by kernel_rfl) (by kernel_rfl) (by kernel_rfl) rfl (fun p hp => by simp only [List.mem_cons, List.not_mem_nil, or_false] at hp; subst hp; exact does_PA rfl rfl rfl rfl) ?_; rintro v_ cs_ ⟨_, _, rfl, rfl⟩
      refine a_pu 4 rfl rfl rfl rfl (pu_move rfl rfl) rfl rfl (by kernel_rfl) ?_
      refine a_pu 5 rfl rfl rfl rfl (pu_extract rfl rfl rfl) rfl rfl (by kernel_rfl) ?_
      first | refine a_mv 6 rfl rfl rfl rfl (fun _ => (pu_extract rfl rfl rfl)) rfl rfl rfl (by kernel_rfl) (by kernel_rfl) (by kernel_rfl) rfl ?_
      refine a_force _ (by kernel_rfl) rfl rfl rfl (by kernel_rfl) (by kernel_rfl) (by kernel_rfl) rfl (fun p hp => by simp only [List.mem_cons, List.not_mem_nil, or_false] at hp; subst hp; exact does_PA rfl rfl rfl rfl) ?_; rintro v_ cs_ ⟨b7, hb7, rfl, rfl⟩
      refine a_tail [8, 9] (by kernel_rfl) rfl rfl (by kernel_rfl) ?_
      refine g_storeL 7 (C := ws (List.replicate 8 0#32)) rfl rfl rfl rfl rfl rfl rfl rfl (oneCell_ws _) ?_
      refine g_pu rfl rfl rfl (pu_assign rfl rfl) ?_
      refine g_nil ?_
      (repeat refine g_seq ?_)
      refine g_region ?_
      refine g_pu rfl rfl rfl (pu_move rfl rfl) ?_
      first | refine g_pu rfl rfl rfl (pu_len rfl rfl) ?_ | refine g_pu rfl rfl rfl (pu_lenS rfl rfl) ?_
      first | refine g_pu rfl rfl rfl (pu_neq_t rfl rfl rfl (by omega)) ?_ | refine g_pu rfl rfl rfl (pu_neq_f rfl rfl rfl (by omega)) ?_ | refine g_pu rfl rfl rfl (pu_neq rfl rfl rfl) ?_
      refine g_nil ?_
      (repeat refine g_seq ?_)
      refine g_cond_t rfl ?_
      (repeat refine g_seq ?_)
      refine g_region ?_
      refine g_pu rfl rfl rfl (pu_move rfl rfl) ?_
      first | refine g_pu rfl rfl rfl (pu_neq_t rfl rfl rfl (by omega)) ?_ | refine g_pu rfl rfl rfl (pu_neq_f rfl rfl rfl (by omega)) ?_ | refine g_pu rfl rfl rfl (pu_neq rfl rfl rfl) ?_
      refine g_pu rfl rfl rfl (pu_move rfl rfl) ?_
      refine g_pu rfl rfl rfl (pu_loadW 7 (L := ws (List.replicate 8 0#32)) rfl rfl rfl rfl) ?_
      first | refine g_pass rfl rfl rfl ?_ | refine g_pu rfl rfl rfl (pu_buildA rfl rfl rfl rfl rfl) ?_ | refine g_pu rfl rfl rfl (pu_buildA' rfl rfl rfl) ?_
      refine g_pu rfl rfl rfl (pu_neqA_f rfl rfl rfl rfl (all_ws _) rfl) ?_
      first | refine g_pu rfl rfl rfl (pu_pick_t rfl rfl rfl) ?_ | refine g_pu rfl rfl rfl (pu_pick_f rfl rfl rfl) ?_
      refine g_nil ?_
      (repeat refine g_seq ?_)
      refine g_cond_f rfl (g_skip ?_)
      refine g_exit rfl ?_
      (repeat refine g_seq ?_)
      refine g_region ?_
      refine g_pu rfl rfl rfl (pu_addI rfl rfl rfl (by omega)) ?_
      refine g_pu rfl rfl rfl (pu_move rfl rfl) ?_
      refine g_nil ?_
      exact g_round2 (i + 1) s ⟨by omega, hs⟩ (by omega) ⟨rfl, rfl, rfl, rfl, trivial⟩ ⟨rfl, trivial⟩
  · (repeat refine g_seq ?_)
    refine g_region ?_
    first | refine g_pu rfl rfl rfl (pu_lss_t rfl rfl rfl (by omega)) ?_ | refine g_pu rfl rfl rfl (pu_lss_f rfl rfl rfl (by omega)) ?_ | refine g_pu rfl rfl rfl (pu_lss rfl rfl rfl) ?_
    refine g_nil ?_
    (repeat refine g_seq ?_)
    refine g_cond_f rfl (g_exit rfl ?_)
    (repeat refine g_seq ?_)
    refine g_region ?_
    refine g_pu rfl rfl rfl (pu_assign rfl rfl) ?_
    refine g_nil ?_
    exact g_ret1 rfl rfl (fun w' hm => ⟨(), trivial, rfl, hm.grows [] trivial rfl⟩)
end Go.Sx
