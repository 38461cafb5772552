import Derived.Test.YtkonbclggbcffaaKY4
set_option linter.unusedVariables false
set_option linter.unusedSimpArgs false
/-
  KeysOf: a secret gives the four keys that the document says. No condition.
-/
namespace Go.Sx
open Go Go.Proofs

theorem KeysOf_spec (w : World) {p : Option Addr} {n : Nat} (c : Nat) {s : List (BitVec 8)} (hs : By w p n s) : Spec Try.prog 3 #[.slice p n c] w (σ := Unit) (fun _ => True) (fun _ => .bool true) Nob (fun _ => []) := by
  refine enter Try.func3 rfl rfl (Mem.start w) ?_
  have hsl := hs.len
  have hsb := hs.big
  have hol := ofV_length s
  have hob : (bs (ofV s)).length = 128 := by rw [bs_length, hol]
  (repeat refine g_seq ?_)
  refine g_region ?_
  refine g_pu rfl rfl rfl (pu_assign rfl rfl) ?_
  refine g_nil ?_
  (repeat refine g_seq ?_)
  refine g_region ?_
  refine g_call [] rfl rfl rfl rfl rfl rfl (fun w' hm => awake12_b w') (fun _ _ => ?_)
  refine g_pu rfl rfl rfl (pu_not rfl rfl) ?_
  refine g_nil ?_
  (repeat refine g_seq ?_)
  refine g_cond_f rfl (g_skip ?_)
  (repeat refine g_seq ?_)
  refine g_region ?_
  refine g_pu rfl rfl rfl (pu_move rfl rfl) ?_
  refine g_call [11] rfl rfl rfl rfl rfl rfl (fun w' hm => Copy_b w' c (hs.m hm)) (fun x11 _ => ?_)
  refine g_call [] rfl rfl rfl rfl rfl rfl (fun w' hm => Of12_b w' x11.c (By.ow 11 rfl hm hsl hsb)) (fun _ _ => ?_)
  refine g_pu rfl rfl rfl (pu_move rfl rfl) ?_
  refine g_pu rfl rfl rfl (pu_extract rfl rfl rfl) ?_
  refine g_pu rfl rfl rfl (pu_extract rfl rfl rfl) ?_
  refine g_lo [3] rfl rfl rfl rfl (lo_alloc rfl) (fun b3 hb3 => ?_)
  refine g_storeL 3 (s := 128) (C := bs (ofV s)) rfl rfl rfl rfl rfl rfl hob (by rw [List.length_replicate]) (oneCell_bs _) ?_
  refine g_pu rfl rfl rfl (pu_assign rfl rfl) ?_
  refine g_nil ?_
  (repeat refine g_seq ?_)
  refine g_region ?_
  refine g_pu rfl rfl rfl (pu_move rfl rfl) ?_
  refine g_call [] rfl rfl rfl rfl rfl rfl (fun w' hm => ROf12_b w' c (hs.m hm)) (fun _ _ => ?_)
  refine g_pu rfl rfl rfl (pu_move rfl rfl) ?_
  refine g_pu rfl rfl rfl (pu_extract rfl rfl rfl) ?_
  refine g_pu rfl rfl rfl (pu_extract rfl rfl rfl) ?_
  refine g_lo [5] rfl rfl rfl rfl (lo_alloc rfl) (fun b5 hb5 => ?_)
  refine g_storeL 5 (s := 128) (C := bs (ofV s)) rfl rfl rfl rfl rfl rfl hob (by rw [List.length_replicate]) (oneCell_bs _) ?_
  refine g_pu rfl rfl rfl (pu_assign rfl rfl) ?_
  refine g_nil ?_
  (repeat refine g_seq ?_)
  refine g_region ?_
  refine g_pu rfl rfl rfl (pu_loadW 3 (L := bs (ofV s)) rfl rfl rfl hob) ?_
  refine g_pu rfl rfl rfl (pu_loadW 5 (L := bs (ofV s)) rfl rfl rfl hob) ?_
  refine g_pu rfl rfl rfl (pu_eqlR (keys_refl _ hol) rfl rfl rfl) ?_
  refine g_pu rfl rfl rfl (pu_move rfl rfl) ?_
  first | refine g_pass rfl rfl rfl ?_ | refine g_pu rfl rfl rfl (pu_move rfl rfl) ?_
  first | refine g_pass rfl rfl rfl ?_ | refine g_pu rfl rfl rfl (pu_move rfl rfl) ?_
  refine g_pu rfl rfl rfl (pu_eql_t rfl rfl rfl rfl) ?_
  first | refine g_pu rfl rfl rfl (pu_pick_t rfl rfl rfl) ?_ | refine g_pu rfl rfl rfl (pu_pick_f rfl rfl rfl) ?_
  refine g_pu rfl rfl rfl (pu_assign rfl rfl) ?_
  refine g_nil ?_
  exact g_ret1 rfl rfl (fun w' hm => ⟨(), trivial, rfl, hm.grows [] trivial rfl⟩)
end Go.Sx
