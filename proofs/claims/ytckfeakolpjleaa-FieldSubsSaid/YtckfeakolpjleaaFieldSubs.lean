/-
  FieldSubs: differences, squares and inverses are those of the numbers modulo p. Each element has four limbs.
-/
import Derived.Test.YtckfeakolpjleaaFieldForms
set_option linter.unusedVariables false
set_option linter.unusedSimpArgs false
namespace Go.Sx
open Go Go.Proofs

theorem FieldSubs_spec (w : World) {qa qb : List (BitVec 64)} (hqa : qa.length = 4) (hqb : qb.length = 4) : Spec Try.prog 7 #[.agg (qs qa).toArray, .agg (qs qb).toArray] w (σ := Unit) (fun _ => True) (fun _ => .bool true) Nob (fun _ => []) := by
  have ha := numL4_lt hqa
  have hb := numL4_lt hqb
  rw [el_of hqa, el_of hqb]
  generalize numL qa = a at *
  generalize numL qb = b at *
  refine enter Try.func7 rfl rfl (Mem.start w) ?_
  (repeat refine g_seq ?_)
  refine g_region ?_
  refine g_lo [2] rfl rfl rfl rfl (lo_box rfl rfl) (fun b2 hb2 => ?_)
  refine g_lo [3] rfl rfl rfl rfl (lo_box rfl rfl) (fun b3 hb3 => ?_)
  refine g_pu rfl rfl rfl (pu_assign rfl rfl) ?_
  refine g_nil ?_
  (repeat refine g_seq ?_)
  refine g_region ?_
  refine g_call [] rfl rfl rfl rfl rfl rfl (fun w' hm => awake05_b w') (fun _ _ => ?_)
  refine g_pu rfl rfl rfl (pu_not rfl rfl) ?_
  refine g_nil ?_
  (repeat refine g_seq ?_)
  refine g_cond_f rfl (g_skip ?_)
  (repeat refine g_seq ?_)
  refine g_any (6, []) ?_
  refine a_pu 0 rfl rfl rfl rfl (pu_loadW 2 (L := el a) rfl rfl rfl rfl) rfl rfl (by kernel_rfl) ?_
  refine a_pu 2 rfl rfl rfl rfl (pu_loadW 3 (L := el b) rfl rfl rfl rfl) rfl rfl (by kernel_rfl) ?_
  refine a_pendA 4 5 5 35 ?_
  refine a_pendA 5 6 6 35 ?_
  refine a_do 1 10 [] (does_call rfl rfl rfl rfl rfl (fun w' hm => From_b w' a)) rfl rfl (by kernel_rfl) rfl rfl (by kernel_rfl) (by kernel_rfl) (by kernel_rfl) rfl (fun p hp => by simp only [List.mem_cons, List.not_mem_nil, or_false] at hp; rcases hp with rfl | rfl <;> first | exact does_PA rfl rfl rfl rfl | exact does_PB rfl rfl rfl rfl rfl (by decide) (by decide) rfl rfl) ?_; rintro v_ cs_ ⟨_, _, rfl, rfl⟩
  refine a_do 3 12 [] (does_call rfl rfl rfl rfl rfl (fun w' hm => From_b w' b)) rfl rfl (by kernel_rfl) rfl rfl (by kernel_rfl) (by kernel_rfl) (by kernel_rfl) rfl (fun p hp => by simp only [List.mem_cons, List.not_mem_nil, or_false] at hp; rcases hp with rfl | rfl <;> first | exact does_PA rfl rfl rfl rfl | exact does_PB rfl rfl rfl rfl rfl (by decide) (by decide) rfl rfl) ?_; rintro v_ cs_ ⟨_, _, rfl, rfl⟩
  refine a_force _ (by kernel_rfl) rfl rfl rfl (by kernel_rfl) (by kernel_rfl) (by kernel_rfl) rfl (fun p hp => by simp only [List.mem_cons, List.not_mem_nil, or_false] at hp; rcases hp with rfl | rfl <;> first | exact does_PA rfl rfl rfl rfl | exact does_PB rfl rfl rfl rfl rfl (by decide) (by decide) rfl rfl) ?_; rintro v_ cs_ ⟨b6, hb6, rfl, rfl⟩
  refine a_force _ (by kernel_rfl) rfl rfl rfl (by kernel_rfl) (by kernel_rfl) (by kernel_rfl) rfl (fun p hp => by simp only [List.mem_cons, List.not_mem_nil, or_false] at hp; subst hp; first | exact does_PA rfl rfl rfl rfl | exact does_PB rfl rfl rfl rfl rfl (by decide) (by decide) rfl rfl) ?_; rintro v_ cs_ ⟨b5, hb5, rfl, rfl⟩
  refine a_tail [6, 7] (by kernel_rfl) rfl rfl (by kernel_rfl) ?_
  refine g_storeL 5 (s := 8) (C := dg a) rfl rfl rfl rfl rfl rfl rfl rfl (oneCell_dg _) ?_
  refine g_storeL 6 (s := 8) (C := dg b) rfl rfl rfl rfl rfl rfl rfl rfl (oneCell_dg _) ?_
  refine g_nil ?_
  (repeat refine g_seq ?_)
  refine g_any (19, []) ?_
  refine a_pu 0 rfl rfl rfl rfl (pu_loadW 2 (L := el a) rfl rfl rfl rfl) rfl rfl (by kernel_rfl) ?_
  refine a_pu 1 rfl rfl rfl rfl (pu_loadW 3 (L := el b) rfl rfl rfl rfl) rfl rfl (by kernel_rfl) ?_
  refine a_pu 3 rfl rfl rfl rfl (pu_loadW 5 (L := dg a) rfl rfl rfl rfl) rfl rfl (by kernel_rfl) ?_
  refine a_pu 4 rfl rfl rfl rfl (pu_loadW 6 (L := dg b) rfl rfl rfl rfl) rfl rfl (by kernel_rfl) ?_
  refine a_do 2 15 [] (does_call rfl rfl rfl rfl rfl (fun w' hm => SubE_b w' a b ha hb)) rfl rfl (by kernel_rfl) rfl rfl (by kernel_rfl) (by kernel_rfl) (by kernel_rfl) rfl (fun p hp => by cases hp) ?_; rintro v_ cs_ ⟨_, _, rfl, rfl⟩
  refine a_do 5 18 [] (does_call rfl rfl rfl rfl rfl (fun w' hm => RSub_b w' a b ha hb)) rfl rfl (by kernel_rfl) rfl rfl (by kernel_rfl) (by kernel_rfl) (by kernel_rfl) rfl (fun p hp => by cases hp) ?_; rintro v_ cs_ ⟨_, _, rfl, rfl⟩
  refine a_do 6 19 [] (does_call rfl rfl rfl rfl rfl (fun w' hm => is05_t w' ((a + (57896044618658097711785492504343953926634992332820282019728792003956564819949 - b % 57896044618658097711785492504343953926634992332820282019728792003956564819949)) % 57896044618658097711785492504343953926634992332820282019728792003956564819949) (modp _))) rfl rfl (by kernel_rfl) rfl rfl (by kernel_rfl) (by kernel_rfl) (by kernel_rfl) rfl (fun p hp => by cases hp) ?_; rintro v_ cs_ ⟨_, _, rfl, rfl⟩
  refine a_pu 7 rfl rfl rfl rfl (pu_move rfl rfl) rfl rfl (by kernel_rfl) ?_
  refine a_pu 8 rfl rfl rfl rfl (pu_loadW 2 (L := el a) rfl rfl rfl rfl) rfl rfl (by kernel_rfl) ?_
  refine a_pu 10 rfl rfl rfl rfl (pu_loadW 5 (L := dg a) rfl rfl rfl rfl) rfl rfl (by kernel_rfl) ?_
  refine a_pu 11 rfl rfl rfl rfl (pu_loadW 5 (L := dg a) rfl rfl rfl rfl) rfl rfl (by kernel_rfl) ?_
  refine a_do 9 22 [] (does_call rfl rfl rfl rfl rfl (fun w' hm => Square_b w' a ha)) rfl rfl (by kernel_rfl) rfl rfl (by kernel_rfl) (by kernel_rfl) (by kernel_rfl) rfl (fun p hp => by cases hp) ?_; rintro v_ cs_ ⟨_, _, rfl, rfl⟩
  refine a_do 12 25 [] (does_call rfl rfl rfl rfl rfl (fun w' hm => RMul_b w' a a ha ha)) rfl rfl (by kernel_rfl) rfl rfl (by kernel_rfl) (by kernel_rfl) (by kernel_rfl) rfl (fun p hp => by cases hp) ?_; rintro v_ cs_ ⟨_, _, rfl, rfl⟩
  refine a_do 13 26 [] (does_call rfl rfl rfl rfl rfl (fun w' hm => is05_t w' (a * a % 57896044618658097711785492504343953926634992332820282019728792003956564819949) (modp _))) rfl rfl (by kernel_rfl) rfl rfl (by kernel_rfl) (by kernel_rfl) (by kernel_rfl) rfl (fun p hp => by cases hp) ?_; rintro v_ cs_ ⟨_, _, rfl, rfl⟩
  first | refine a_pu 14 rfl rfl rfl rfl (pu_pick_t rfl rfl rfl) rfl rfl (by kernel_rfl) ?_ | refine a_pu 14 rfl rfl rfl rfl (pu_pick_f rfl rfl rfl) rfl rfl (by kernel_rfl) ?_
  refine a_pu 15 rfl rfl rfl rfl (pu_move rfl rfl) rfl rfl (by kernel_rfl) ?_
  refine a_pu 16 rfl rfl rfl rfl (pu_loadW 3 (L := el b) rfl rfl rfl rfl) rfl rfl (by kernel_rfl) ?_
  refine a_pu 18 rfl rfl rfl rfl (pu_loadW 6 (L := dg b) rfl rfl rfl rfl) rfl rfl (by kernel_rfl) ?_
  refine a_do 17 30 [] (does_call rfl rfl rfl rfl rfl (fun w' hm => Inv_b w' b hb)) rfl rfl (by kernel_rfl) rfl rfl (by kernel_rfl) (by kernel_rfl) (by kernel_rfl) rfl (fun p hp => by cases hp) ?_; rintro v_ cs_ ⟨_, _, rfl, rfl⟩
  refine a_tail [19, 20, 21, 22] (by kernel_rfl) rfl rfl (by kernel_rfl) ?_
  refine g_call [] rfl rfl rfl rfl rfl rfl (fun w' hm => RInv_b w' b hb) (fun _ _ => ?_)
  refine g_call [] rfl rfl rfl rfl rfl rfl (fun w' hm => is05_t w' (invN b) (invN_lt b)) (fun _ _ => ?_)
  first | refine g_pu rfl rfl rfl (pu_pick_t rfl rfl rfl) ?_ | refine g_pu rfl rfl rfl (pu_pick_f rfl rfl rfl) ?_
  refine g_pu rfl rfl rfl (pu_assign rfl rfl) ?_
  refine g_nil ?_
  exact g_ret1 rfl rfl (fun w' hm => ⟨(), trivial, rfl, hm.grows [] trivial rfl⟩)
end Go.Sx
