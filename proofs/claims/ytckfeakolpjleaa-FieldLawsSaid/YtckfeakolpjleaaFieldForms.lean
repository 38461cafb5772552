/-
  FieldForms: every element stands for its number modulo p, whatever its limbs are. Each element has four limbs.
-/
import Derived.Test.YtckfeakolpjleaaF11
set_option linter.unusedVariables false
set_option linter.unusedSimpArgs false
namespace Go.Sx
open Go Go.Proofs

theorem el_word (n : BitVec 64) : el n.toNat = qs [n, 0#64, 0#64, 0#64] := by
  rw [el_of rfl]
  simp [numL]
theorem modp (a : Nat) : a % 57896044618658097711785492504343953926634992332820282019728792003956564819949 < 115792089237316195423570985008687907853269984665640564039457584007913129639936 := by omega
theorem is05_t (w : World) (a : Nat) (ha : a < 115792089237316195423570985008687907853269984665640564039457584007913129639936) : Spec Try.prog 14 #[.agg (el a).toArray, .agg (dg a).toArray] w (σ := Unit) (fun _ => True) (fun _ => .bool true) Nob (fun _ => []) := by
  have h := is05_b w a a ha ha
  rwa [decide_eq_true rfl] at h
theorem Is_t (w : World) (a b : Nat) (ha : a < 115792089237316195423570985008687907853269984665640564039457584007913129639936) (hb : b < 115792089237316195423570985008687907853269984665640564039457584007913129639936) (h : a % 57896044618658097711785492504343953926634992332820282019728792003956564819949 = b % 57896044618658097711785492504343953926634992332820282019728792003956564819949) : Spec Try.prog 11 #[.agg (el a).toArray, .agg (el b).toArray] w (σ := Unit) (fun _ => True) (fun _ => .bool true) Nob (fun _ => []) := by
  have h2 := Is_b w a b ha hb
  rwa [decide_eq_true h] at h2
theorem Is_f (w : World) (a b : Nat) (ha : a < 115792089237316195423570985008687907853269984665640564039457584007913129639936) (hb : b < 115792089237316195423570985008687907853269984665640564039457584007913129639936) (h : ¬ a % 57896044618658097711785492504343953926634992332820282019728792003956564819949 = b % 57896044618658097711785492504343953926634992332820282019728792003956564819949) : Spec Try.prog 11 #[.agg (el a).toArray, .agg (el b).toArray] w (σ := Unit) (fun _ => True) (fun _ => .bool false) Nob (fun _ => []) := by
  have h2 := Is_b w a b ha hb
  rwa [decide_eq_false h] at h2
theorem RBytes_n (w : World) (a : Nat) (ha : a < 57896044618658097711785492504343953926634992332820282019728792003956564819949) : Spec Try.prog 27 #[.agg (dg a).toArray] w (σ := Unit) (fun _ => True) (fun _ => .agg (bs (leB 32 a)).toArray) Nob (fun _ => []) := by
  have h := RBytes_b w a (by omega)
  rwa [Nat.mod_eq_of_lt ha] at h
theorem Bytes_n (w : World) (a : Nat) (ha : a < 57896044618658097711785492504343953926634992332820282019728792003956564819949) : Spec Try.prog 26 #[.agg (el a).toArray] w (σ := Unit) (fun _ => True) (fun _ => .agg (bs (leB 32 a)).toArray) Nob (fun _ => []) := by
  have h := Bytes_b w a (by omega)
  rwa [Nat.mod_eq_of_lt ha] at h
theorem odd_digit (a : Nat) : (BitVec.ofNat 32 a % 2#32 = 1#32) ↔ a % 2 = 1 := by
  have e1 : (BitVec.ofNat 32 a % 2#32).toNat = a % 2 := by
    rw [BitVec.toNat_umod, BitVec.toNat_ofNat, show (2#32).toNat = 2 from rfl]; omega
  constructor
  · intro h; rw [← e1, h]; rfl
  · intro h; apply BitVec.eq_of_toNat_eq; rw [e1, h]; rfl

theorem FieldForms_spec (w : World) {qa qb : List (BitVec 64)} (n : BitVec 64) (hqa : qa.length = 4) (hqb : qb.length = 4) : Spec Try.prog 5 #[.agg (qs qa).toArray, .agg (qs qb).toArray, b64 n] w (σ := Unit) (fun _ => True) (fun _ => .bool true) Nob (fun _ => []) := by
  have ha := numL4_lt hqa
  have hb := numL4_lt hqb
  rw [el_of hqa, el_of hqb]
  generalize numL qa = a at *
  generalize numL qb = b at *
  refine enter Try.func5 rfl rfl (Mem.start w) ?_
  have hn := el_word n
  have hma : a % 57896044618658097711785492504343953926634992332820282019728792003956564819949 < 57896044618658097711785492504343953926634992332820282019728792003956564819949 := Nat.mod_lt _ (by decide)
  have hmb : b % 57896044618658097711785492504343953926634992332820282019728792003956564819949 < 57896044618658097711785492504343953926634992332820282019728792003956564819949 := Nat.mod_lt _ (by decide)
  (repeat refine g_seq ?_)
  refine g_region ?_
  refine g_lo [3] rfl rfl rfl rfl (lo_box rfl rfl) (fun b3 hb3 => ?_)
  refine g_lo [4] rfl rfl rfl rfl (lo_box rfl rfl) (fun b4 hb4 => ?_)
  refine g_pu rfl rfl rfl (pu_assign rfl rfl) ?_
  refine g_nil ?_
  (repeat refine g_seq ?_)
  refine g_region ?_
  refine g_call [] rfl rfl rfl rfl rfl rfl (fun w' hm => awake05_b w') (fun _ _ => ?_)
  refine g_pu rfl rfl rfl (pu_not rfl rfl) ?_
  refine g_nil ?_
  (repeat refine g_seq ?_)
  refine g_cond_f rfl (g_skip ?_)
  (repeat refine g_seq ?_)
  refine g_any (8, []) ?_
  refine a_pu 0 rfl rfl rfl rfl (pu_loadW 3 (L := el a) rfl rfl rfl rfl) rfl rfl (by kernel_rfl) ?_
  refine a_pu 3 rfl rfl rfl rfl (pu_loadW 4 (L := el b) rfl rfl rfl rfl) rfl rfl (by kernel_rfl) ?_
  refine a_pendA 6 7 7 35 ?_
  refine a_pendA 7 8 8 35 ?_
  refine a_do 1 12 [] (does_call rfl rfl rfl rfl rfl (fun w' hm => From_b w' a)) rfl rfl (by kernel_rfl) rfl rfl (by kernel_rfl) (by kernel_rfl) (by kernel_rfl) rfl (fun p hp => by simp only [List.mem_cons, List.not_mem_nil, or_false] at hp; rcases hp with rfl | rfl <;> first | exact does_PA rfl rfl rfl rfl | exact does_PB rfl rfl rfl rfl rfl (by decide) (by decide) rfl rfl) ?_; rintro v_ cs_ ⟨_, _, rfl, rfl⟩
  refine a_do 2 13 [] (does_call rfl rfl rfl rfl rfl (fun w' hm => RNorm_b w' a ha)) rfl rfl (by kernel_rfl) rfl rfl (by kernel_rfl) (by kernel_rfl) (by kernel_rfl) rfl (fun p hp => by simp only [List.mem_cons, List.not_mem_nil, or_false] at hp; rcases hp with rfl | rfl <;> first | exact does_PA rfl rfl rfl rfl | exact does_PB rfl rfl rfl rfl rfl (by decide) (by decide) rfl rfl) ?_; rintro v_ cs_ ⟨_, _, rfl, rfl⟩
  refine a_do 4 15 [] (does_call rfl rfl rfl rfl rfl (fun w' hm => From_b w' b)) rfl rfl (by kernel_rfl) rfl rfl (by kernel_rfl) (by kernel_rfl) (by kernel_rfl) rfl (fun p hp => by simp only [List.mem_cons, List.not_mem_nil, or_false] at hp; rcases hp with rfl | rfl <;> first | exact does_PA rfl rfl rfl rfl | exact does_PB rfl rfl rfl rfl rfl (by decide) (by decide) rfl rfl) ?_; rintro v_ cs_ ⟨_, _, rfl, rfl⟩
  refine a_do 5 16 [] (does_call rfl rfl rfl rfl rfl (fun w' hm => RNorm_b w' b hb)) rfl rfl (by kernel_rfl) rfl rfl (by kernel_rfl) (by kernel_rfl) (by kernel_rfl) rfl (fun p hp => by simp only [List.mem_cons, List.not_mem_nil, or_false] at hp; rcases hp with rfl | rfl <;> first | exact does_PA rfl rfl rfl rfl | exact does_PB rfl rfl rfl rfl rfl (by decide) (by decide) rfl rfl) ?_; rintro v_ cs_ ⟨_, _, rfl, rfl⟩
  refine a_force _ (by kernel_rfl) rfl rfl rfl (by kernel_rfl) (by kernel_rfl) (by kernel_rfl) rfl (fun p hp => by simp only [List.mem_cons, List.not_mem_nil, or_false] at hp; rcases hp with rfl | rfl <;> first | exact does_PA rfl rfl rfl rfl | exact does_PB rfl rfl rfl rfl rfl (by decide) (by decide) rfl rfl) ?_; rintro v_ cs_ ⟨q8, hb8, rfl, rfl⟩
  refine a_force _ (by kernel_rfl) rfl rfl rfl (by kernel_rfl) (by kernel_rfl) (by kernel_rfl) rfl (fun p hp => by simp only [List.mem_cons, List.not_mem_nil, or_false] at hp; subst hp; first | exact does_PA rfl rfl rfl rfl | exact does_PB rfl rfl rfl rfl rfl (by decide) (by decide) rfl rfl) ?_; rintro v_ cs_ ⟨b7, hb7, rfl, rfl⟩
  refine a_tail [8, 9] (by kernel_rfl) rfl rfl (by kernel_rfl) ?_
  refine g_storeL 7 (s := 8) (C := dg (a % 57896044618658097711785492504343953926634992332820282019728792003956564819949)) rfl rfl rfl rfl rfl rfl rfl rfl (oneCell_dg _) ?_
  refine g_storeL 8 (s := 8) (C := dg (b % 57896044618658097711785492504343953926634992332820282019728792003956564819949)) rfl rfl rfl rfl rfl rfl rfl rfl (oneCell_dg _) ?_
  refine g_nil ?_
  (repeat refine g_seq ?_)
  refine g_any (16, []) ?_
  refine a_pu 0 rfl rfl rfl rfl (pu_loadW 3 (L := el a) rfl rfl rfl rfl) rfl rfl (by kernel_rfl) ?_
  refine a_pu 2 rfl rfl rfl rfl (pu_loadW 7 (L := dg (a % 57896044618658097711785492504343953926634992332820282019728792003956564819949)) rfl rfl rfl rfl) rfl rfl (by kernel_rfl) ?_
  refine a_do 1 18 [] (does_call rfl rfl rfl rfl rfl (fun w' hm => Norm_b w' a ha)) rfl rfl (by kernel_rfl) rfl rfl (by kernel_rfl) (by kernel_rfl) (by kernel_rfl) rfl (fun p hp => by cases hp) ?_; rintro v_ cs_ ⟨_, _, rfl, rfl⟩
  refine a_do 3 20 [] (does_call rfl rfl rfl rfl rfl (fun w' hm => is05_t w' (a % 57896044618658097711785492504343953926634992332820282019728792003956564819949) (modp a))) rfl rfl (by kernel_rfl) rfl rfl (by kernel_rfl) (by kernel_rfl) (by kernel_rfl) rfl (fun p hp => by cases hp) ?_; rintro v_ cs_ ⟨_, _, rfl, rfl⟩
  refine a_pu 4 rfl rfl rfl rfl (pu_not rfl rfl) rfl rfl (by kernel_rfl) ?_
  refine a_pu 5 rfl rfl rfl rfl (pu_move rfl rfl) rfl rfl (by kernel_rfl) ?_
  first | refine a_pass 6 rfl rfl rfl rfl rfl rfl (by kernel_rfl) ?_ | refine a_pu 6 rfl rfl rfl rfl (pu_move rfl rfl) rfl rfl (by kernel_rfl) ?_
  first | refine a_pass 8 rfl rfl rfl rfl rfl rfl (by kernel_rfl) ?_ | refine a_pu 8 rfl rfl rfl rfl (pu_move rfl rfl) rfl rfl (by kernel_rfl) ?_
  refine a_pu 9 rfl rfl rfl rfl (pu_buildA' (cs := el n.toNat) rfl rfl (by rw [hn]; rfl)) rfl rfl (by kernel_rfl) ?_
  refine a_do 7 24 [] (does_call rfl rfl rfl rfl rfl (fun w' hm => Of_b w' n)) rfl rfl (by kernel_rfl) rfl rfl (by kernel_rfl) (by kernel_rfl) (by kernel_rfl) rfl (fun p hp => by cases hp) ?_; rintro v_ cs_ ⟨_, _, rfl, rfl⟩
  refine a_pu 10 rfl rfl rfl rfl (pu_neqA_f (a := el n.toNat) (b := el n.toNat) rfl rfl rfl rfl (all_el _) (el_length _)) rfl rfl (by kernel_rfl) ?_
  first | refine a_pu 11 rfl rfl rfl rfl (pu_pick_t rfl rfl rfl) rfl rfl (by kernel_rfl) ?_ | refine a_pu 11 rfl rfl rfl rfl (pu_pick_f rfl rfl rfl) rfl rfl (by kernel_rfl) ?_
  refine a_pu 12 rfl rfl rfl rfl (pu_move rfl rfl) rfl rfl (by kernel_rfl) ?_
  refine a_pu 13 rfl rfl rfl rfl (pu_loadW 3 (L := el a) rfl rfl rfl rfl) rfl rfl (by kernel_rfl) ?_
  refine a_pu 15 rfl rfl rfl rfl (pu_loadW 7 (L := dg (a % 57896044618658097711785492504343953926634992332820282019728792003956564819949)) rfl rfl rfl rfl) rfl rfl (by kernel_rfl) ?_
  refine a_do 14 31 [] (does_call rfl rfl rfl rfl rfl (fun w' hm => Bytes_b w' a ha)) rfl rfl (by kernel_rfl) rfl rfl (by kernel_rfl) (by kernel_rfl) (by kernel_rfl) rfl (fun p hp => by cases hp) ?_; rintro v_ cs_ ⟨_, _, rfl, rfl⟩
  refine a_tail [16, 17, 18] (by kernel_rfl) rfl rfl (by kernel_rfl) ?_
  refine g_call [] rfl rfl rfl rfl rfl rfl (fun w' hm => RBytes_n w' (a % 57896044618658097711785492504343953926634992332820282019728792003956564819949) hma) (fun _ _ => ?_)
  refine g_pu rfl rfl rfl (pu_neqA_f (a := bs (leB 32 (a % 57896044618658097711785492504343953926634992332820282019728792003956564819949))) (b := bs (leB 32 (a % 57896044618658097711785492504343953926634992332820282019728792003956564819949))) rfl rfl rfl rfl (all_bs _) (by rw [bs_length, leB_length])) ?_
  first | refine g_pu rfl rfl rfl (pu_pick_t rfl rfl rfl) ?_ | refine g_pu rfl rfl rfl (pu_pick_f rfl rfl rfl) ?_
  refine g_nil ?_
  (repeat refine g_seq ?_)
  refine g_cond_f rfl (g_skip ?_)
  have hg0 : (dg (a % 57896044618658097711785492504343953926634992332820282019728792003956564819949)).toArray[0 + 0]? = some (b32 (BitVec.ofNat 32 (a % 57896044618658097711785492504343953926634992332820282019728792003956564819949))) := rfl
  have hodd := odd_digit (a % 57896044618658097711785492504343953926634992332820282019728792003956564819949)
  by_cases h : a % 57896044618658097711785492504343953926634992332820282019728792003956564819949 = b % 57896044618658097711785492504343953926634992332820282019728792003956564819949
  · have hE := h
    (repeat refine g_seq ?_)
    refine g_any (17, []) ?_
    refine a_pu 0 rfl rfl rfl rfl (pu_loadW 3 (L := el a) rfl rfl rfl rfl) rfl rfl (by kernel_rfl) ?_
    refine a_pu 1 rfl rfl rfl rfl (pu_loadW 4 (L := el b) rfl rfl rfl rfl) rfl rfl (by kernel_rfl) ?_
    refine a_pu 3 rfl rfl rfl rfl (pu_loadW 7 (L := dg (a % 57896044618658097711785492504343953926634992332820282019728792003956564819949)) rfl rfl rfl rfl) rfl rfl (by kernel_rfl) ?_
    refine a_pu 4 rfl rfl rfl rfl (pu_loadW 8 (L := dg (b % 57896044618658097711785492504343953926634992332820282019728792003956564819949)) rfl rfl rfl rfl) rfl rfl (by kernel_rfl) ?_
    refine a_pu 5 rfl rfl rfl rfl (pu_eqlA_t (a := dg (a % 57896044618658097711785492504343953926634992332820282019728792003956564819949)) (b := dg (b % 57896044618658097711785492504343953926634992332820282019728792003956564819949)) rfl rfl rfl (congrArg dg hE) (all_dg _) (dg_length _)) rfl rfl (by kernel_rfl) ?_
    refine a_do 2 38 [] (does_call rfl rfl rfl rfl rfl (fun w' hm => Is_t w' a b ha hb hE)) rfl rfl (by kernel_rfl) rfl rfl (by kernel_rfl) (by kernel_rfl) (by kernel_rfl) rfl (fun p hp => by cases hp) ?_; rintro v_ cs_ ⟨_, _, rfl, rfl⟩
    refine a_pu 6 rfl rfl rfl rfl (pu_eqlB_t rfl rfl rfl rfl) rfl rfl (by kernel_rfl) ?_
    refine a_pu 7 rfl rfl rfl rfl (pu_move rfl rfl) rfl rfl (by kernel_rfl) ?_
    refine a_pu 8 rfl rfl rfl rfl (pu_loadW 3 (L := el a) rfl rfl rfl rfl) rfl rfl (by kernel_rfl) ?_
    first | refine a_pass 10 rfl rfl rfl rfl rfl rfl (by kernel_rfl) ?_ | refine a_pu 10 rfl rfl rfl rfl (pu_atA1 0 rfl rfl rfl rfl (by omega)) rfl rfl (by kernel_rfl) ?_
    refine a_pu 11 rfl rfl rfl rfl (pu_load 7 (v := b32 (BitVec.ofNat 32 (a % 57896044618658097711785492504343953926634992332820282019728792003956564819949))) rfl rfl rfl hg0) rfl rfl (by kernel_rfl) ?_
    refine a_pu 12 rfl rfl rfl rfl (pu_rem32 (b := 2#32) rfl rfl rfl (by decide)) rfl rfl (by kernel_rfl) ?_
    refine a_pu 13 rfl rfl rfl rfl (pu_eql32 (b := 1#32) rfl rfl rfl) rfl rfl (by kernel_rfl) ?_
    refine a_do 9 45 [] (does_call rfl rfl rfl rfl rfl (fun w' hm => Odd_b w' a ha)) rfl rfl (by kernel_rfl) rfl rfl (by kernel_rfl) (by kernel_rfl) (by kernel_rfl) rfl (fun p hp => by cases hp) ?_; rintro v_ cs_ ⟨_, _, rfl, rfl⟩
    refine a_pu 14 rfl rfl rfl rfl (pu_eqlB_t rfl rfl rfl (decide_eq_decide.2 hodd.symm)) rfl rfl (by kernel_rfl) ?_
    first | refine a_pu 15 rfl rfl rfl rfl (pu_pick_t rfl rfl rfl) rfl rfl (by kernel_rfl) ?_ | refine a_pu 15 rfl rfl rfl rfl (pu_pick_f rfl rfl rfl) rfl rfl (by kernel_rfl) ?_
    refine a_pu 16 rfl rfl rfl rfl (pu_assign rfl rfl) rfl rfl (by kernel_rfl) ?_
    refine a_done (by kernel_rfl) ?_
    exact g_ret1 rfl rfl (fun w' hm => ⟨(), trivial, rfl, hm.grows [] trivial rfl⟩)
  · have hE := h
    have hne : dg (a % 57896044618658097711785492504343953926634992332820282019728792003956564819949) ≠ dg (b % 57896044618658097711785492504343953926634992332820282019728792003956564819949) := fun e => h (dg_inj (modp a) (modp b) e)
    (repeat refine g_seq ?_)
    refine g_any (17, []) ?_
    refine a_pu 0 rfl rfl rfl rfl (pu_loadW 3 (L := el a) rfl rfl rfl rfl) rfl rfl (by kernel_rfl) ?_
    refine a_pu 1 rfl rfl rfl rfl (pu_loadW 4 (L := el b) rfl rfl rfl rfl) rfl rfl (by kernel_rfl) ?_
    refine a_pu 3 rfl rfl rfl rfl (pu_loadW 7 (L := dg (a % 57896044618658097711785492504343953926634992332820282019728792003956564819949)) rfl rfl rfl rfl) rfl rfl (by kernel_rfl) ?_
    refine a_pu 4 rfl rfl rfl rfl (pu_loadW 8 (L := dg (b % 57896044618658097711785492504343953926634992332820282019728792003956564819949)) rfl rfl rfl rfl) rfl rfl (by kernel_rfl) ?_
    refine a_pu 5 rfl rfl rfl rfl (pu_eqlA_f (a := dg (a % 57896044618658097711785492504343953926634992332820282019728792003956564819949)) (b := dg (b % 57896044618658097711785492504343953926634992332820282019728792003956564819949)) rfl rfl rfl hne (all_dg _) (all_dg _) (dg_length _) (dg_length _)) rfl rfl (by kernel_rfl) ?_
    refine a_do 2 38 [] (does_call rfl rfl rfl rfl rfl (fun w' hm => Is_f w' a b ha hb hE)) rfl rfl (by kernel_rfl) rfl rfl (by kernel_rfl) (by kernel_rfl) (by kernel_rfl) rfl (fun p hp => by cases hp) ?_; rintro v_ cs_ ⟨_, _, rfl, rfl⟩
    refine a_pu 6 rfl rfl rfl rfl (pu_eqlB_t rfl rfl rfl rfl) rfl rfl (by kernel_rfl) ?_
    refine a_pu 7 rfl rfl rfl rfl (pu_move rfl rfl) rfl rfl (by kernel_rfl) ?_
    refine a_pu 8 rfl rfl rfl rfl (pu_loadW 3 (L := el a) rfl rfl rfl rfl) rfl rfl (by kernel_rfl) ?_
    first | refine a_pass 10 rfl rfl rfl rfl rfl rfl (by kernel_rfl) ?_ | refine a_pu 10 rfl rfl rfl rfl (pu_atA1 0 rfl rfl rfl rfl (by omega)) rfl rfl (by kernel_rfl) ?_
    refine a_pu 11 rfl rfl rfl rfl (pu_load 7 (v := b32 (BitVec.ofNat 32 (a % 57896044618658097711785492504343953926634992332820282019728792003956564819949))) rfl rfl rfl hg0) rfl rfl (by kernel_rfl) ?_
    refine a_pu 12 rfl rfl rfl rfl (pu_rem32 (b := 2#32) rfl rfl rfl (by decide)) rfl rfl (by kernel_rfl) ?_
    refine a_pu 13 rfl rfl rfl rfl (pu_eql32 (b := 1#32) rfl rfl rfl) rfl rfl (by kernel_rfl) ?_
    refine a_do 9 45 [] (does_call rfl rfl rfl rfl rfl (fun w' hm => Odd_b w' a ha)) rfl rfl (by kernel_rfl) rfl rfl (by kernel_rfl) (by kernel_rfl) (by kernel_rfl) rfl (fun p hp => by cases hp) ?_; rintro v_ cs_ ⟨_, _, rfl, rfl⟩
    refine a_pu 14 rfl rfl rfl rfl (pu_eqlB_t rfl rfl rfl (decide_eq_decide.2 hodd.symm)) rfl rfl (by kernel_rfl) ?_
    first | refine a_pu 15 rfl rfl rfl rfl (pu_pick_t rfl rfl rfl) rfl rfl (by kernel_rfl) ?_ | refine a_pu 15 rfl rfl rfl rfl (pu_pick_f rfl rfl rfl) rfl rfl (by kernel_rfl) ?_
    refine a_pu 16 rfl rfl rfl rfl (pu_assign rfl rfl) rfl rfl (by kernel_rfl) ?_
    refine a_done (by kernel_rfl) ?_
    exact g_ret1 rfl rfl (fun w' hm => ⟨(), trivial, rfl, hm.grows [] trivial rfl⟩)
end Go.Sx
