/-
  FieldSums: sums and products of any number of elements are those of their numbers modulo p. Each element has four limbs.
-/
import Derived.Test.YtckfeakolpjleaaFieldForms
set_option linter.unusedVariables false
set_option linter.unusedSimpArgs false
namespace Go.Sx
open Go Go.Proofs

theorem FieldSums_spec (w : World) {q : Option Addr} {m : Nat} (d : Nat) {ns : List Nat} (hq : RdV w q (elsC ns)) (hn : ns.length = m) (hlt : ∀ n ∈ ns, n < 115792089237316195423570985008687907853269984665640564039457584007913129639936) (hmb : m ≤ 4398046511104) : Spec Try.prog 6 #[.slice q m d] w (σ := Unit) (fun _ => True) (fun _ => .bool true) Nob (fun _ => []) := by
  refine enter Try.func6 rfl rfl (Mem.start w) ?_
  have hcl := elsC_len ns
  have h0 : el 0 = qs [0#64, 0#64, 0#64, 0#64] := el_small (by decide)
  have h1 : el 1 = qs [1#64, 0#64, 0#64, 0#64] := el_small (by decide)
  have d0 : dg 0 = ws [0#32, 0#32, 0#32, 0#32, 0#32, 0#32, 0#32, 0#32] := dg_small (by decide)
  have d1 : dg 1 = ws [1#32, 0#32, 0#32, 0#32, 0#32, 0#32, 0#32, 0#32] := dg_small (by decide)
  (repeat refine g_seq ?_)
  refine g_region ?_
  refine g_pu rfl rfl rfl (pu_assign rfl rfl) ?_
  refine g_nil ?_
  (repeat refine g_seq ?_)
  refine g_region ?_
  refine g_call [] rfl rfl rfl rfl rfl rfl (fun w' hm => awake05_b w') (fun _ _ => ?_)
  refine g_pu rfl rfl rfl (pu_not rfl rfl) ?_
  refine g_pu rfl rfl rfl (pu_move rfl rfl) ?_
  refine g_call [] rfl rfl rfl rfl rfl rfl (fun w' hm => Sum_b w' (q := none) 0 (ns := []) (RdV.nil ..) rfl (fun n hn => by cases hn) (by omega)) (fun _ _ => ?_)
  refine g_pu rfl rfl rfl (pu_buildA' (cs := el 0) rfl rfl (by rw [h0]; rfl)) ?_
  refine g_pu rfl rfl rfl (pu_neqA_f (a := el 0) (b := el 0) rfl rfl rfl rfl (all_el _) (el_length _)) ?_
  first | refine g_pu rfl rfl rfl (pu_pick_t rfl rfl rfl) ?_ | refine g_pu rfl rfl rfl (pu_pick_f rfl rfl rfl) ?_
  refine g_pu rfl rfl rfl (pu_move rfl rfl) ?_
  refine g_call [] rfl rfl rfl rfl rfl rfl (fun w' hm => Product_b w' (q := none) 0 (ns := []) (RdV.nil ..) rfl (fun n hn => by cases hn) (by omega)) (fun _ _ => ?_)
  refine g_pu rfl rfl rfl (pu_buildA' (cs := el 1) rfl rfl (by rw [h1]; rfl)) ?_
  refine g_pu rfl rfl rfl (pu_neqA_f (a := el 1) (b := el 1) rfl rfl rfl rfl (all_el _) (el_length _)) ?_
  first | refine g_pu rfl rfl rfl (pu_pick_t rfl rfl rfl) ?_ | refine g_pu rfl rfl rfl (pu_pick_f rfl rfl rfl) ?_
  refine g_nil ?_
  (repeat refine g_seq ?_)
  refine g_cond_f rfl (g_skip ?_)
  (repeat refine g_seq ?_)
  refine g_region ?_
  refine g_pu rfl rfl rfl (pu_buildA' (cs := dg 0) rfl rfl (by rw [d0]; rfl)) ?_
  refine g_pu rfl rfl rfl (pu_buildA' (cs := dg 1) rfl rfl (by rw [d1]; rfl)) ?_
  refine g_lo [3] rfl rfl rfl rfl (lo_alloc rfl) (fun b3 hb3 => ?_)
  refine g_lo [4] rfl rfl rfl rfl (lo_alloc rfl) (fun b4 hb4 => ?_)
  refine g_storeL 3 (s := 8) (C := dg 0) rfl rfl rfl rfl rfl rfl rfl rfl (oneCell_dg _) ?_
  refine g_storeL 4 (s := 8) (C := dg 1) rfl rfl rfl rfl rfl rfl rfl rfl (oneCell_dg _) ?_
  refine g_nil ?_
  (repeat refine g_seq ?_)
  refine g_region ?_
  refine g_pu rfl rfl rfl (pu_move rfl rfl) ?_
  first | refine g_pu rfl rfl rfl (pu_len rfl rfl) ?_ | refine g_pu rfl rfl rfl (pu_lenS rfl rfl) ?_
  refine g_pu rfl rfl rfl (pu_move rfl rfl) ?_
  refine g_nil ?_
  (repeat refine g_seq ?_)
  refine g_block (g_loop3 (fun (i s u : Nat) => [(0, .slice q m d), (3, .pointer (some ⟨b3, 0, none⟩)), (4, .pointer (some ⟨b4, 0, none⟩)), (21, .slice q m d), (22, .int .i64 (m : Int)), (23, .int .i64 (i : Int))]) (fun i s u => [(3, .pt b3 (.cells (dg s).toArray 35 (0, 0))), (4, .pt b4 (.cells (dg u).toArray 35 (0, 0)))])
    (fun i s u => i ≤ m ∧ s = sumN (ns.take i) % 57896044618658097711785492504343953926634992332820282019728792003956564819949 ∧ u = prodN (ns.take i) % 57896044618658097711785492504343953926634992332820282019728792003956564819949) (fun i _ _ => m - i) 0 0 1 ⟨rfl, rfl, rfl, rfl, rfl, rfl, trivial⟩ ⟨rfl, rfl, trivial⟩ ⟨by omega, rfl, rfl⟩ ?_)
  intro i s u ⟨hi, hs, hu⟩
  have hsl : s < 115792089237316195423570985008687907853269984665640564039457584007913129639936 := by rw [hs]; exact modp _
  have hul : u < 115792089237316195423570985008687907853269984665640564039457584007913129639936 := by rw [hu]; exact modp _
  by_cases him : i < m
  · (repeat refine g_seq ?_)
    refine g_region ?_
    first | refine g_pu rfl rfl rfl (pu_lss_t rfl rfl rfl (by omega)) ?_ | refine g_pu rfl rfl rfl (pu_lss_f rfl rfl rfl (by omega)) ?_ | refine g_pu rfl rfl rfl (pu_lss rfl rfl rfl) ?_
    refine g_nil ?_
    (repeat refine g_seq ?_)
    refine g_cond_t rfl (g_skip ?_)
    have h1 : ns[i]? = some ns[i] := List.getElem?_eq_getElem (by omega)
    have hy := hlt ns[i] (List.getElem_mem (by omega))
    generalize ns[i] = y at h1 hy
    have hg : ((elsC ns).drop (i * 4)).take 4 = el y := rowsC_get (fun x _ => el_length x) h1
    have hst := sumN_take h1
    have hpt := prodN_take h1
    (repeat refine g_seq ?_); refine g_block ?_
    (repeat refine g_seq ?_)
    refine g_region ?_
    refine g_pu rfl rfl rfl (pu_atM i (s := 4) (L := elsC ns) (fun w' hm => hq.mem0 hm) rfl rfl rfl rfl him (by omega)) ?_
    refine g_pu rfl rfl rfl (pu_rdMA (L := elsC ns) (j := i * 4) (s := 4) (fun w' hm => hq.mem0 hm) rfl rfl (by omega) (by omega)) ?_
    rw [hg]
    refine g_lo [6] rfl rfl rfl rfl (lo_alloc rfl) (fun b6 hb6 => ?_)
    refine g_storeL 6 (s := 4) (C := el y) rfl rfl rfl rfl rfl rfl rfl rfl (oneCell_el _) ?_
    refine g_nil ?_
    (repeat refine g_seq ?_)
    refine g_any (3, []) ?_
    refine a_pu 0 rfl rfl rfl rfl (pu_loadW 3 (L := dg s) rfl rfl rfl rfl) rfl rfl (by kernel_rfl) ?_
    refine a_pu 1 rfl rfl rfl rfl (pu_loadW 6 (L := el y) rfl rfl rfl rfl) rfl rfl (by kernel_rfl) ?_
    refine a_do 2 29 [] (does_call rfl rfl rfl rfl rfl (fun w' hm => From_b w' y)) rfl rfl (by kernel_rfl) rfl rfl (by kernel_rfl) (by kernel_rfl) (by kernel_rfl) rfl (fun p hp => by cases hp) ?_; rintro v_ cs_ ⟨_, _, rfl, rfl⟩
    refine a_tail [3, 4] (by kernel_rfl) rfl rfl (by kernel_rfl) ?_
    refine g_call [] rfl rfl rfl rfl rfl rfl (fun w' hm => RAdd_b w' s y hsl hy) (fun _ _ => ?_)
    refine g_storeL 3 (s := 8) (C := dg ((s + y) % 57896044618658097711785492504343953926634992332820282019728792003956564819949)) rfl rfl rfl rfl rfl rfl rfl rfl (oneCell_dg _) ?_
    refine g_nil ?_
    (repeat refine g_seq ?_)
    refine g_any (3, []) ?_
    refine a_pu 0 rfl rfl rfl rfl (pu_loadW 4 (L := dg u) rfl rfl rfl rfl) rfl rfl (by kernel_rfl) ?_
    refine a_pu 1 rfl rfl rfl rfl (pu_loadW 6 (L := el y) rfl rfl rfl rfl) rfl rfl (by kernel_rfl) ?_
    refine a_do 2 33 [] (does_call rfl rfl rfl rfl rfl (fun w' hm => From_b w' y)) rfl rfl (by kernel_rfl) rfl rfl (by kernel_rfl) (by kernel_rfl) (by kernel_rfl) rfl (fun p hp => by cases hp) ?_; rintro v_ cs_ ⟨_, _, rfl, rfl⟩
    refine a_tail [3, 4] (by kernel_rfl) rfl rfl (by kernel_rfl) ?_
    refine g_call [] rfl rfl rfl rfl rfl rfl (fun w' hm => RMul_b w' u y hul hy) (fun _ _ => ?_)
    refine g_storeL 4 (s := 8) (C := dg (u * y % 57896044618658097711785492504343953926634992332820282019728792003956564819949)) rfl rfl rfl rfl rfl rfl rfl rfl (oneCell_dg _) ?_
    refine g_nil ?_
    refine g_blk ?_
    (repeat refine g_seq ?_)
    refine g_region ?_
    refine g_pu rfl rfl rfl (pu_addI rfl rfl rfl (by omega)) ?_
    refine g_pu rfl rfl rfl (pu_move rfl rfl) ?_
    refine g_nil ?_
    exact g_round3 (i + 1) ((s + y) % 57896044618658097711785492504343953926634992332820282019728792003956564819949) (u * y % 57896044618658097711785492504343953926634992332820282019728792003956564819949) ⟨by omega, by rw [hst, hs, Nat.mod_add_mod], by rw [hpt, hu]; exact mulmod (Nat.mod_mod _ _) rfl⟩ (by omega) ⟨rfl, rfl, rfl, rfl, rfl, rfl, trivial⟩ ⟨rfl, rfl, trivial⟩
  · (repeat refine g_seq ?_)
    refine g_region ?_
    first | refine g_pu rfl rfl rfl (pu_lss_t rfl rfl rfl (by omega)) ?_ | refine g_pu rfl rfl rfl (pu_lss_f rfl rfl rfl (by omega)) ?_ | refine g_pu rfl rfl rfl (pu_lss rfl rfl rfl) ?_
    refine g_nil ?_
    (repeat refine g_seq ?_)
    refine g_cond_f rfl (g_exit rfl ?_)
    rw [List.take_of_length_le (by omega)] at hs hu
    subst hs hu
    (repeat refine g_seq ?_)
    refine g_any (10, []) ?_
    refine a_pu 0 rfl rfl rfl rfl (pu_move rfl rfl) rfl rfl (by kernel_rfl) ?_
    refine a_pu 3 rfl rfl rfl rfl (pu_loadW 3 (L := dg (sumN ns % 57896044618658097711785492504343953926634992332820282019728792003956564819949)) rfl rfl rfl rfl) rfl rfl (by kernel_rfl) ?_
    refine a_do 1 37 [37] (does_call rfl rfl rfl rfl rfl (fun w' hm => list05_b w' d (hq.mem0 hm) hn hmb)) rfl rfl (by kernel_rfl) rfl rfl (by kernel_rfl) (by kernel_rfl) (by kernel_rfl) rfl (fun p hp => by cases hp) ?_; rintro v_ cs_ ⟨x37, _, rfl, rfl⟩
    refine a_do 2 38 [] (does_call rfl rfl rfl rfl rfl (fun w' hm => Sum_b w' x37.c (Own.rd (hm.holds 37 _ rfl)) hn hlt hmb)) rfl rfl (by kernel_rfl) rfl rfl (by kernel_rfl) (by kernel_rfl) (by kernel_rfl) rfl (fun p hp => by cases hp) ?_; rintro v_ cs_ ⟨_, _, rfl, rfl⟩
    refine a_do 4 40 [] (does_call rfl rfl rfl rfl rfl (fun w' hm => is05_t w' (sumN ns % 57896044618658097711785492504343953926634992332820282019728792003956564819949) hsl)) rfl rfl (by kernel_rfl) rfl rfl (by kernel_rfl) (by kernel_rfl) (by kernel_rfl) rfl (fun p hp => by cases hp) ?_; rintro v_ cs_ ⟨_, _, rfl, rfl⟩
    refine a_pu 5 rfl rfl rfl rfl (pu_move rfl rfl) rfl rfl (by kernel_rfl) ?_
    first | refine a_pass 6 rfl rfl rfl rfl rfl rfl (by kernel_rfl) ?_ | refine a_pu 6 rfl rfl rfl rfl (pu_move rfl rfl) rfl rfl (by kernel_rfl) ?_
    refine a_pu 9 rfl rfl rfl rfl (pu_loadW 4 (L := dg (prodN ns % 57896044618658097711785492504343953926634992332820282019728792003956564819949)) rfl rfl rfl rfl) rfl rfl (by kernel_rfl) ?_
    refine a_do 7 43 [43] (does_call rfl rfl rfl rfl rfl (fun w' hm => list05_b w' d (hq.mem0 hm) hn hmb)) rfl rfl (by kernel_rfl) rfl rfl (by kernel_rfl) (by kernel_rfl) (by kernel_rfl) rfl (fun p hp => by cases hp) ?_; rintro v_ cs_ ⟨x43, _, rfl, rfl⟩
    refine a_do 8 44 [] (does_call rfl rfl rfl rfl rfl (fun w' hm => Product_b w' x43.c (Own.rd (hm.holds 43 _ rfl)) hn hlt hmb)) rfl rfl (by kernel_rfl) rfl rfl (by kernel_rfl) (by kernel_rfl) (by kernel_rfl) rfl (fun p hp => by cases hp) ?_; rintro v_ cs_ ⟨_, _, rfl, rfl⟩
    refine a_tail [10, 11, 12] (by kernel_rfl) rfl rfl (by kernel_rfl) ?_
    refine g_call [] rfl rfl rfl rfl rfl rfl (fun w' hm => is05_t w' (prodN ns % 57896044618658097711785492504343953926634992332820282019728792003956564819949) hul) (fun _ _ => ?_)
    first | refine g_pu rfl rfl rfl (pu_pick_t rfl rfl rfl) ?_ | refine g_pu rfl rfl rfl (pu_pick_f rfl rfl rfl) ?_
    refine g_pu rfl rfl rfl (pu_assign rfl rfl) ?_
    refine g_nil ?_
    exact g_ret1 rfl rfl (fun w' hm => ⟨(), trivial, rfl, hm.grows [] trivial rfl⟩)
end Go.Sx
