/-
  FieldRatios: a fraction's value and a product of fractions are those of the numbers. Each element has four limbs.
-/
import Derived.Test.YtckfeakolpjleaaFieldForms
set_option linter.unusedVariables false
set_option linter.unusedSimpArgs false
namespace Go.Sx
open Go Go.Proofs

def rtC (x : Nat × Nat) : List Value := rt x.1 x.2
def rtsC (xs : List (Nat × Nat)) : List Value := rowsC rtC xs
theorem rtC_length (x : Nat × Nat) : (rtC x).length = 8 := rfl
theorem rtsC_len (xs : List (Nat × Nat)) : (rtsC xs).length = xs.length * 8 := rowsC_length (fun x _ => rtC_length x)
def ups (xs : List (Nat × Nat)) : Nat := prodN (xs.map (·.1))
def downs (xs : List (Nat × Nat)) : Nat := prodN (xs.map (·.2))
theorem ups_take {xs : List (Nat × Nat)} {i : Nat} {x : Nat × Nat} (h : xs[i]? = some x) : ups (xs.take (i + 1)) = ups (xs.take i) * x.1 := by
  unfold ups
  rw [List.take_add_one, h, List.map_append, prodN_append]; simp [prodN]
theorem downs_take {xs : List (Nat × Nat)} {i : Nat} {x : Nat × Nat} (h : xs[i]? = some x) : downs (xs.take (i + 1)) = downs (xs.take i) * x.2 := by
  unfold downs
  rw [List.take_add_one, h, List.map_append, prodN_append]; simp [prodN]
def okR (x : Nat × Nat) : Prop := x.1 < 115792089237316195423570985008687907853269984665640564039457584007913129639936 ∧ x.2 < 115792089237316195423570985008687907853269984665640564039457584007913129639936
theorem lt2 {a b : Nat} (ha : a < 115792089237316195423570985008687907853269984665640564039457584007913129639936) (hb : b < 115792089237316195423570985008687907853269984665640564039457584007913129639936) : ∀ n ∈ [a, b], n < 115792089237316195423570985008687907853269984665640564039457584007913129639936 := fun n hn => by
  rcases List.mem_cons.1 hn with h | h
  · rw [h]; exact ha
  · rw [List.mem_singleton.1 h]; exact hb
theorem rt_set1 (a b a' : Nat) : (rt a b).take (0 + 0) ++ el a' ++ (rt a b).drop (0 + 0 + 4) = rt a' b := rfl
theorem rt_set2 (a b b' : Nat) : (rt a b).take (0 + 4) ++ el b' ++ (rt a b).drop (0 + 4 + 4) = rt a b' := rfl

theorem fill_rt (a b : Nat) {A : Array Value} (hA : A.size = 8) : Instr.fill (fun i => [(0, 4), (4, 4)][i]?) A [(0, .agg (el a).toArray), (1, .agg (el b).toArray)] = some (rt a b).toArray := by
  rw [fill_stp (C := el a) (off := 0) (s := 4) rfl rfl rfl (by omega), List.take_zero, List.nil_append]
  have hd : (A.toList.drop (0 + 4)).length = 4 := by rw [List.length_drop, Array.length_toList]; omega
  generalize A.toList.drop (0 + 4) = D at hd
  rw [fill_stp (C := el b) (off := 4) (s := 4) rfl rfl rfl (by rw [List.size_toArray, List.length_append, hd, el_length]; omega)]
  rw [show (el a ++ D).toArray.toList.take 4 = el a from List.take_left' (el_length a), show (el a ++ D).toArray.toList.drop (4 + 4) = [] from by
    show (el a ++ D).drop (4 + 4) = []
    exact List.drop_of_length_le (by rw [List.length_append, hd, el_length]; omega)]
  simp [Instr.fill, rt]

theorem Product2_b (w : World) {q : Option Addr} (d : Nat) {a b : Nat} (hq : RdV w q (elsC [a, b])) (ha : a < 115792089237316195423570985008687907853269984665640564039457584007913129639936) (hb : b < 115792089237316195423570985008687907853269984665640564039457584007913129639936) :
    Spec Try.prog 18 #[.slice q 2 d] w (σ := Unit) (fun _ => True) (fun _ => .agg (el (a * b % 57896044618658097711785492504343953926634992332820282019728792003956564819949)).toArray) Nob (fun _ => []) := by
  have h := Product_b w d hq rfl (lt2 ha hb) (show 2 ≤ 4398046511104 by omega)
  rwa [prod2] at h

theorem OverR_b (w : World) {q : Option Addr} {m : Nat} (d : Nat) {xs : List (Nat × Nat)} (hq : RdV w q (rtsC xs)) (hn : xs.length = m) (hlt : ∀ x ∈ xs, okR x) (hmb : m ≤ 2199023255552) :
    Spec Try.prog 24 #[.slice q m d] w (σ := Unit) (fun _ => True) (fun _ => .agg (rt (ups xs % 57896044618658097711785492504343953926634992332820282019728792003956564819949) (downs xs % 57896044618658097711785492504343953926634992332820282019728792003956564819949)).toArray) Nob (fun _ => []) := by
  refine enter Try.func24 rfl rfl (Mem.start w) ?_
  have hcl := rtsC_len xs
  (repeat refine g_seq ?_)
  refine g_region ?_
  refine g_lo [2] rfl rfl rfl rfl (lo_alloc rfl) (fun b2 hb2 => ?_)
  refine g_nil ?_
  (repeat refine g_seq ?_)
  refine g_region ?_
  refine g_call [] rfl rfl rfl rfl rfl rfl (fun w' hm => Of_b w' 1#64) (fun _ _ => ?_)
  refine g_call [] rfl rfl rfl rfl rfl rfl (fun w' hm => Of_b w' 1#64) (fun _ _ => ?_)
  refine g_pu rfl rfl rfl (pu_buildS (cs := rt 1 1) rfl rfl rfl) ?_
  refine g_lo [3] rfl rfl rfl rfl (lo_alloc rfl) (fun b3 hb3 => ?_)
  refine g_storeL 3 (s := 8) (C := rt 1 1) rfl rfl rfl rfl rfl rfl rfl rfl (oneCell_rt _ _) ?_
  refine g_nil ?_
  (repeat refine g_seq ?_)
  refine g_region ?_
  refine g_pu rfl rfl rfl (pu_move rfl rfl) ?_
  first | refine g_pu rfl rfl rfl (pu_len rfl rfl) ?_ | refine g_pu rfl rfl rfl (pu_lenS rfl rfl) ?_
  refine g_pu rfl rfl rfl (pu_move rfl rfl) ?_
  refine g_nil ?_
  (repeat refine g_seq ?_)
  refine g_block (g_loop3 (fun (i u v : Nat) => [(2, .pointer (some ⟨b2, 0, none⟩)), (3, .pointer (some ⟨b3, 0, none⟩)), (9, .slice q m d), (10, .int .i64 (m : Int)), (11, .int .i64 (i : Int))]) (fun i u v => [(2, .pt b2 (.cells (qs (List.replicate 8 0#64)).toArray 42 (0, 0))), (3, .pt b3 (.cells (rt u v).toArray 42 (0, 0)))])
    (fun i u v => i ≤ m ∧ u = ups (xs.take i) % 57896044618658097711785492504343953926634992332820282019728792003956564819949 ∧ v = downs (xs.take i) % 57896044618658097711785492504343953926634992332820282019728792003956564819949) (fun i _ _ => m - i) 0 1 1 ⟨rfl, rfl, rfl, rfl, rfl, trivial⟩ ⟨rfl, rfl, trivial⟩ ⟨by omega, rfl, rfl⟩ ?_)
  intro i u v ⟨hi, hu, hv⟩
  have hul : u < 115792089237316195423570985008687907853269984665640564039457584007913129639936 := by rw [hu]; exact modp _
  have hvl : v < 115792089237316195423570985008687907853269984665640564039457584007913129639936 := by rw [hv]; exact modp _
  by_cases him : i < m
  · (repeat refine g_seq ?_)
    refine g_region ?_
    first | refine g_pu rfl rfl rfl (pu_lss_t rfl rfl rfl (by omega)) ?_ | refine g_pu rfl rfl rfl (pu_lss_f rfl rfl rfl (by omega)) ?_ | refine g_pu rfl rfl rfl (pu_lss rfl rfl rfl) ?_
    refine g_nil ?_
    (repeat refine g_seq ?_)
    refine g_cond_t rfl (g_skip ?_)
    have h1 : xs[i]? = some xs[i] := List.getElem?_eq_getElem (by omega)
    have hy := hlt xs[i] (List.getElem_mem (by omega))
    generalize xs[i] = y at h1 hy
    have hg : ((rtsC xs).drop (i * 8)).take 8 = rtC y := rowsC_get (fun x _ => rtC_length x) h1
    have hut := ups_take h1
    have hvt := downs_take h1
    obtain ⟨a, b⟩ := y
    obtain ⟨ha, hb⟩ := hy
    dsimp only at ha hb hut hvt
    have hg' : ((rtsC xs).drop (i * 8)).take 8 = rt a b := hg
    (repeat refine g_seq ?_); refine g_block ?_
    (repeat refine g_seq ?_)
    refine g_region ?_
    refine g_pu rfl rfl rfl (pu_atM i (s := 8) (L := rtsC xs) (fun w' hm => hq.mem0 hm) rfl rfl rfl rfl him (by omega)) ?_
    refine g_pu rfl rfl rfl (pu_rdMA (L := rtsC xs) (j := i * 8) (s := 8) (fun w' hm => hq.mem0 hm) rfl rfl (by omega) (by omega)) ?_
    rw [hg']
    refine g_lo [5] rfl rfl rfl rfl (lo_alloc rfl) (fun b5 hb5 => ?_)
    refine g_storeL 5 (s := 8) (C := rt a b) rfl rfl rfl rfl rfl rfl rfl rfl (oneCell_rt _ _) ?_
    refine g_nil ?_
    (repeat refine g_seq ?_)
    refine g_any (11, [12]) ?_
    refine a_pu 0 rfl rfl rfl rfl (pu_fieldAddr (by decide) rfl rfl) rfl rfl (by kernel_rfl) ?_
    refine a_pu 1 rfl rfl rfl rfl (pu_loadE 3 (el u).toArray rfl rfl rfl (show 0 + 0 + 4 ≤ (rt u v).toArray.size from (by decide : 4 ≤ 8)) (rt_fst u v)) rfl rfl (by kernel_rfl) ?_
    refine a_pu 2 rfl rfl rfl rfl (pu_fieldAddr (by decide) rfl rfl) rfl rfl (by kernel_rfl) ?_
    refine a_pu 3 rfl rfl rfl rfl (pu_loadE 5 (el a).toArray rfl rfl rfl (show 0 + 0 + 4 ≤ (rt a b).toArray.size from (by decide : 4 ≤ 8)) (rt_fst a b)) rfl rfl (by kernel_rfl) ?_
    refine a_pu 6 rfl rfl rfl rfl (pu_fieldAddr (by decide) rfl rfl) rfl rfl (by kernel_rfl) ?_
    refine a_pu 7 rfl rfl rfl rfl (pu_loadE 3 (el v).toArray rfl rfl rfl (show 0 + 4 + 4 ≤ (rt u v).toArray.size from (by decide : 8 ≤ 8)) (rt_snd u v)) rfl rfl (by kernel_rfl) ?_
    refine a_pu 8 rfl rfl rfl rfl (pu_fieldAddr (by decide) rfl rfl) rfl rfl (by kernel_rfl) ?_
    refine a_pu 9 rfl rfl rfl rfl (pu_loadE 5 (el b).toArray rfl rfl rfl (show 0 + 4 + 4 ≤ (rt a b).toArray.size from (by decide : 8 ≤ 8)) (rt_snd a b)) rfl rfl (by kernel_rfl) ?_
    refine a_pendB 10 25 25 2 28 (elsC [v, b]) ?_
    refine a_do 4 19 [19] (does_lo rfl rfl rfl (lo_buildSlice rfl rfl (by decide) (by decide) rfl rfl)) rfl rfl (by kernel_rfl) rfl rfl (by kernel_rfl) (by kernel_rfl) (by kernel_rfl) rfl (fun p hp => by simp only [List.mem_cons, List.not_mem_nil, or_false] at hp; subst hp; first | exact does_PA rfl rfl rfl rfl | exact does_PB rfl rfl rfl rfl rfl (by decide) (by decide) rfl rfl) ?_; rintro v_ cs_ ⟨b19, hb19, rfl, rfl⟩
    refine a_do 5 20 [] (does_call rfl rfl rfl rfl rfl (fun w' hm => Product2_b w' 2 (hm.rowA 19 (L := elsC [u, a]) rfl) hul ha)) rfl rfl (by kernel_rfl) rfl rfl (by kernel_rfl) (by kernel_rfl) (by kernel_rfl) rfl (fun p hp => by simp only [List.mem_cons, List.not_mem_nil, or_false] at hp; subst hp; first | exact does_PA rfl rfl rfl rfl | exact does_PB rfl rfl rfl rfl rfl (by decide) (by decide) rfl rfl) ?_; rintro v_ cs_ ⟨_, _, rfl, rfl⟩
    first | refine a_mv 12 rfl rfl rfl rfl (fun _ => (pu_fieldAddr (by decide) rfl rfl)) rfl rfl rfl (by kernel_rfl) (by kernel_rfl) (by kernel_rfl) rfl ?_
    refine a_force _ (by kernel_rfl) rfl rfl rfl (by kernel_rfl) (by kernel_rfl) (by kernel_rfl) rfl (fun p hp => by simp only [List.mem_cons, List.not_mem_nil, or_false] at hp; subst hp; first | exact does_PA rfl rfl rfl rfl | exact does_PB rfl rfl rfl rfl rfl (by decide) (by decide) rfl rfl) ?_; rintro v_ cs_ ⟨b25, hb25, rfl, rfl⟩
    refine a_tail [11, 13, 14, 15] (by kernel_rfl) rfl rfl (by kernel_rfl) ?_
    refine g_call [] rfl rfl rfl rfl rfl rfl (fun w' hm => Product2_b w' 2 (hm.rowA 25 (L := elsC [v, b]) rfl) hvl hb) (fun _ _ => ?_)
    refine g_storeA 3 (s := 4) (C := el (u * a % 57896044618658097711785492504343953926634992332820282019728792003956564819949)) (L := rt u v) rfl rfl rfl rfl rfl rfl rfl (oneCell_el _) (show 0 + 0 + 4 ≤ 8 by omega) ?_
    rw [rt_set1]
    refine g_pu rfl rfl rfl (pu_fieldAddr (by decide) rfl rfl) ?_
    refine g_storeA 3 (s := 4) (C := el (v * b % 57896044618658097711785492504343953926634992332820282019728792003956564819949)) (L := rt (u * a % 57896044618658097711785492504343953926634992332820282019728792003956564819949) v) rfl rfl rfl rfl rfl rfl rfl (oneCell_el _) (show 0 + 4 + 4 ≤ 8 by omega) ?_
    rw [rt_set2]
    refine g_nil ?_
    refine g_blk ?_
    (repeat refine g_seq ?_)
    refine g_region ?_
    refine g_pu rfl rfl rfl (pu_addI rfl rfl rfl (by omega)) ?_
    refine g_pu rfl rfl rfl (pu_move rfl rfl) ?_
    refine g_nil ?_
    exact g_round3 (i + 1) (u * a % 57896044618658097711785492504343953926634992332820282019728792003956564819949) (v * b % 57896044618658097711785492504343953926634992332820282019728792003956564819949) ⟨by omega, by rw [hut, hu]; exact mulmod (Nat.mod_mod _ _) rfl, by rw [hvt, hv]; exact mulmod (Nat.mod_mod _ _) rfl⟩ (by omega) ⟨rfl, rfl, rfl, rfl, rfl, trivial⟩ ⟨rfl, rfl, trivial⟩
  · (repeat refine g_seq ?_)
    refine g_region ?_
    first | refine g_pu rfl rfl rfl (pu_lss_t rfl rfl rfl (by omega)) ?_ | refine g_pu rfl rfl rfl (pu_lss_f rfl rfl rfl (by omega)) ?_ | refine g_pu rfl rfl rfl (pu_lss rfl rfl rfl) ?_
    refine g_nil ?_
    (repeat refine g_seq ?_)
    refine g_cond_f rfl (g_exit rfl ?_)
    rw [List.take_of_length_le (by omega)] at hu hv
    rw [← hu, ← hv]
    (repeat refine g_seq ?_)
    refine g_region ?_
    refine g_pu rfl rfl rfl (pu_loadW 3 (L := rt u v) rfl rfl rfl rfl) ?_
    refine g_storeL 2 (s := 8) (C := rt u v) rfl rfl rfl rfl rfl rfl rfl rfl (oneCell_rt _ _) ?_
    refine g_nil ?_
    exact g_retL 2 (L := rt u v) rfl rfl rfl rfl (fun w' hm => ⟨(), trivial, rfl, hm.grows [] trivial rfl⟩)

theorem inv3 : invN 3 = 38597363079105398474523661669562635951089994888546854679819194669304376546633 := by
  rw [inv_pm]
  have h : (pm 57896044618658097711785492504343953926634992332820282019728792003956564819949 255 3 pe == 38597363079105398474523661669562635951089994888546854679819194669304376546633) = true := by kernel_rfl
  exact eq_of_beq h
theorem ratio6 : 6 * invN 3 % 57896044618658097711785492504343953926634992332820282019728792003956564819949 = 2 := by rw [inv3]
theorem Value63_b (w : World) : Spec Try.prog 19 #[.agg (rt 6 3).toArray] w (σ := Unit) (fun _ => True) (fun _ => .agg (el 2).toArray) Nob (fun _ => []) := by
  have h := Value_b w 6 3 (by decide) (by decide)
  rwa [ratio6] at h

theorem rs_length (x : Nat × Nat) : (rtC x).length = 8 := rfl

theorem FieldRatios_spec (w : World) {q : Option Addr} {m : Nat} (d : Nat) {xs : List (Nat × Nat)} (hq : RdV w q (rtsC xs)) (hn : xs.length = m) (hlt : ∀ x ∈ xs, okR x) (hmb : m ≤ 2199023255552) : Spec Try.prog 4 #[.slice q m d] w (σ := Unit) (fun _ => True) (fun _ => .bool true) Nob (fun _ => []) := by
  refine enter Try.func4 rfl rfl (Mem.start w) ?_
  have hcl := rtsC_len xs
  have d1 : dg 1 = ws [1#32, 0#32, 0#32, 0#32, 0#32, 0#32, 0#32, 0#32] := dg_small (by decide)
  (repeat refine g_seq ?_)
  refine g_region ?_
  refine g_pu rfl rfl rfl (pu_assign rfl rfl) ?_
  refine g_nil ?_
  (repeat refine g_seq ?_)
  refine g_region ?_
  refine g_call [] rfl rfl rfl rfl rfl rfl (fun w' hm => awake05_b w') (fun _ _ => ?_)
  refine g_pu rfl rfl rfl (pu_not rfl rfl) ?_
  refine g_pu rfl rfl rfl (pu_move rfl rfl) ?_
  refine g_call [] rfl rfl rfl rfl rfl rfl (fun w' hm => Of_b w' 6#64) (fun _ _ => ?_)
  refine g_call [] rfl rfl rfl rfl rfl rfl (fun w' hm => Of_b w' 3#64) (fun _ _ => ?_)
  refine g_pu rfl rfl rfl (pu_buildS (cs := rt 6 3) rfl rfl rfl) ?_
  refine g_call [] rfl rfl rfl rfl rfl rfl (fun w' hm => Value63_b w') (fun _ _ => ?_)
  refine g_call [] rfl rfl rfl rfl rfl rfl (fun w' hm => Of_b w' 2#64) (fun _ _ => ?_)
  refine g_pu rfl rfl rfl (pu_neqA_f (a := el 2) (b := el 2) rfl rfl rfl rfl (all_el _) (el_length _)) ?_
  first | refine g_pu rfl rfl rfl (pu_pick_t rfl rfl rfl) ?_ | refine g_pu rfl rfl rfl (pu_pick_f rfl rfl rfl) ?_
  refine g_nil ?_
  (repeat refine g_seq ?_)
  refine g_cond_f rfl (g_skip ?_)
  (repeat refine g_seq ?_)
  refine g_region ?_
  refine g_pu rfl rfl rfl (pu_assign rfl rfl) ?_
  refine g_nil ?_
  refine g_nilOwn 90 42 8 rfl ?_
  (repeat refine g_seq ?_)
  refine g_region ?_
  refine g_pu rfl rfl rfl (pu_buildA' (cs := dg 1) rfl rfl (by rw [d1]; rfl)) ?_
  refine g_pu rfl rfl rfl (pu_buildA' (cs := dg 1) rfl rfl (by rw [d1]; rfl)) ?_
  refine g_lo [4] rfl rfl rfl rfl (lo_alloc rfl) (fun b4 hb4 => ?_)
  refine g_lo [5] rfl rfl rfl rfl (lo_alloc rfl) (fun b5 hb5 => ?_)
  refine g_storeL 4 (s := 8) (C := dg 1) rfl rfl rfl rfl rfl rfl rfl rfl (oneCell_dg _) ?_
  refine g_storeL 5 (s := 8) (C := dg 1) rfl rfl rfl rfl rfl rfl rfl rfl (oneCell_dg _) ?_
  refine g_nil ?_
  (repeat refine g_seq ?_)
  refine g_region ?_
  refine g_pu rfl rfl rfl (pu_move rfl rfl) ?_
  first | refine g_pu rfl rfl rfl (pu_len rfl rfl) ?_ | refine g_pu rfl rfl rfl (pu_lenS rfl rfl) ?_
  refine g_pu rfl rfl rfl (pu_move rfl rfl) ?_
  refine g_nil ?_
  (repeat refine g_seq ?_)
  refine g_block (g_loop4 (fun (i u v : Nat) (y : Ow) => [(3, y.sl i), (4, .pointer (some ⟨b4, 0, none⟩)), (5, .pointer (some ⟨b5, 0, none⟩)), (22, .slice q m d), (23, .int .i64 (m : Int)), (24, .int .i64 (i : Int))]) (fun i u v y => [(90, y.ck 42 8 (rtsC (xs.take i))), (4, .pt b4 (.cells (dg u).toArray 35 (0, 0))), (5, .pt b5 (.cells (dg v).toArray 35 (0, 0)))])
    (fun i u v _ => i ≤ m ∧ u = ups (xs.take i) % 57896044618658097711785492504343953926634992332820282019728792003956564819949 ∧ v = downs (xs.take i) % 57896044618658097711785492504343953926634992332820282019728792003956564819949) (fun i _ _ _ => m - i) 0 1 1 ⟨none, 0⟩ ⟨rfl, rfl, rfl, rfl, rfl, rfl, trivial⟩ ⟨rfl, rfl, rfl, trivial⟩ ⟨by omega, rfl, rfl⟩ ?_)
  intro i u v y ⟨hi, hu, hv⟩
  have hul : u < 115792089237316195423570985008687907853269984665640564039457584007913129639936 := by rw [hu]; exact modp _
  have hvl : v < 115792089237316195423570985008687907853269984665640564039457584007913129639936 := by rw [hv]; exact modp _
  by_cases him : i < m
  · (repeat refine g_seq ?_)
    refine g_region ?_
    first | refine g_pu rfl rfl rfl (pu_lss_t rfl rfl rfl (by omega)) ?_ | refine g_pu rfl rfl rfl (pu_lss_f rfl rfl rfl (by omega)) ?_ | refine g_pu rfl rfl rfl (pu_lss rfl rfl rfl) ?_
    refine g_nil ?_
    (repeat refine g_seq ?_)
    refine g_cond_t rfl (g_skip ?_)
    have h1 : xs[i]? = some xs[i] := List.getElem?_eq_getElem (by omega)
    have hy := hlt xs[i] (List.getElem_mem (by omega))
    generalize xs[i] = z at h1 hy
    have hg : ((rtsC xs).drop (i * 8)).take 8 = rtC z := rowsC_get (fun x _ => rtC_length x) h1
    have hA : rtsC (xs.take (i + 1)) = rtsC (xs.take i) ++ rtC z := rowsC_at h1
    have htl : (rtsC (xs.take i)).length = i * 8 := rowsC_take (fun x _ => rtC_length x) (by omega)
    have hut := ups_take h1
    have hvt := downs_take h1
    obtain ⟨a, b⟩ := z
    obtain ⟨ha, hb⟩ := hy
    dsimp only at ha hb hut hvt
    have hg' : ((rtsC xs).drop (i * 8)).take 8 = rt a b := hg
    have hA' : rtsC (xs.take (i + 1)) = rtsC (xs.take i) ++ rt a b := hA
    have hib := invN_lt b
    have hodd := odd_digit (a % 57896044618658097711785492504343953926634992332820282019728792003956564819949)
    have hg0 : (dg (a % 57896044618658097711785492504343953926634992332820282019728792003956564819949)).toArray[0]? = some (b32 (BitVec.ofNat 32 (a % 57896044618658097711785492504343953926634992332820282019728792003956564819949))) := rfl
    (repeat refine g_seq ?_); refine g_block ?_
    (repeat refine g_seq ?_)
    refine g_region ?_
    refine g_pu rfl rfl rfl (pu_atM i (s := 8) (L := rtsC xs) (fun w' hm => hq.mem0 hm) rfl rfl rfl rfl him (by omega)) ?_
    refine g_pu rfl rfl rfl (pu_rdMA (L := rtsC xs) (j := i * 8) (s := 8) (fun w' hm => hq.mem0 hm) rfl rfl (by omega) (by omega)) ?_
    rw [hg']
    refine g_lo [7] rfl rfl rfl rfl (lo_alloc rfl) (fun b7 hb7 => ?_)
    refine g_storeL 7 (s := 8) (C := rt a b) rfl rfl rfl rfl rfl rfl rfl rfl (oneCell_rt _ _) ?_
    refine g_nil ?_
    (repeat refine g_seq ?_)
    refine g_region ?_
    refine g_pu rfl rfl rfl (pu_atA 0 (s := 4) rfl rfl rfl rfl (by omega)) ?_
    refine g_pu rfl rfl rfl (pu_loadE 7 (el a).toArray rfl rfl rfl (show 0 + 0 * 4 + 4 ≤ (rt a b).toArray.size from (by decide : 4 ≤ 8)) (rt_fst a b)) ?_
    refine g_pu rfl rfl rfl (pu_atA 1 (s := 4) rfl rfl rfl rfl (by omega)) ?_
    refine g_pu rfl rfl rfl (pu_loadE 7 (el b).toArray rfl rfl rfl (show 0 + 1 * 4 + 4 ≤ (rt a b).toArray.size from (by decide : 8 ≤ 8)) (rt_snd a b)) ?_
    refine g_pu rfl rfl rfl (pu_buildS (cs := rt a b) rfl rfl (fill_rt a b rfl)) ?_
    refine g_lo [8] rfl rfl rfl rfl (lo_alloc rfl) (fun q8 hb8 => ?_)
    refine g_storeL 8 (s := 8) (C := rt a b) rfl rfl rfl rfl rfl rfl rfl rfl (oneCell_rt _ _) ?_
    refine g_nil ?_
    (repeat refine g_seq ?_)
    refine g_any (18, []) ?_
    refine a_pu 0 rfl rfl rfl rfl (pu_loadW 8 (L := rt a b) rfl rfl rfl rfl) rfl rfl (by kernel_rfl) ?_
    refine a_pu 2 rfl rfl rfl rfl (pu_atA 0 (s := 4) rfl rfl rfl rfl (by omega)) rfl rfl (by kernel_rfl) ?_
    refine a_pu 3 rfl rfl rfl rfl (pu_loadE 7 (el a).toArray rfl rfl rfl (show 0 + 0 * 4 + 4 ≤ (rt a b).toArray.size from (by decide : 4 ≤ 8)) (rt_fst a b)) rfl rfl (by kernel_rfl) ?_
    refine a_pu 5 rfl rfl rfl rfl (pu_atA 1 (s := 4) rfl rfl rfl rfl (by omega)) rfl rfl (by kernel_rfl) ?_
    refine a_pu 6 rfl rfl rfl rfl (pu_loadE 7 (el b).toArray rfl rfl rfl (show 0 + 1 * 4 + 4 ≤ (rt a b).toArray.size from (by decide : 8 ≤ 8)) (rt_snd a b)) rfl rfl (by kernel_rfl) ?_
    refine a_do 1 34 [] (does_call rfl rfl rfl rfl rfl (fun w' hm => Value_b w' a b ha hb)) rfl rfl (by kernel_rfl) rfl rfl (by kernel_rfl) (by kernel_rfl) (by kernel_rfl) rfl (fun p hp => by cases hp) ?_; rintro v_ cs_ ⟨_, _, rfl, rfl⟩
    refine a_do 4 37 [] (does_call rfl rfl rfl rfl rfl (fun w' hm => From_b w' a)) rfl rfl (by kernel_rfl) rfl rfl (by kernel_rfl) (by kernel_rfl) (by kernel_rfl) rfl (fun p hp => by cases hp) ?_; rintro v_ cs_ ⟨_, _, rfl, rfl⟩
    refine a_do 7 40 [] (does_call rfl rfl rfl rfl rfl (fun w' hm => From_b w' b)) rfl rfl (by kernel_rfl) rfl rfl (by kernel_rfl) (by kernel_rfl) (by kernel_rfl) rfl (fun p hp => by cases hp) ?_; rintro v_ cs_ ⟨_, _, rfl, rfl⟩
    refine a_do 8 41 [] (does_call rfl rfl rfl rfl rfl (fun w' hm => RInv_b w' b hb)) rfl rfl (by kernel_rfl) rfl rfl (by kernel_rfl) (by kernel_rfl) (by kernel_rfl) rfl (fun p hp => by cases hp) ?_; rintro v_ cs_ ⟨_, _, rfl, rfl⟩
    refine a_do 9 42 [] (does_call rfl rfl rfl rfl rfl (fun w' hm => RMul_b w' a (invN b) ha hib)) rfl rfl (by kernel_rfl) rfl rfl (by kernel_rfl) (by kernel_rfl) (by kernel_rfl) rfl (fun p hp => by cases hp) ?_; rintro v_ cs_ ⟨_, _, rfl, rfl⟩
    refine a_do 10 43 [] (does_call rfl rfl rfl rfl rfl (fun w' hm => is05_t w' (a * invN b % 57896044618658097711785492504343953926634992332820282019728792003956564819949) (modp _))) rfl rfl (by kernel_rfl) rfl rfl (by kernel_rfl) (by kernel_rfl) (by kernel_rfl) rfl (fun p hp => by cases hp) ?_; rintro v_ cs_ ⟨_, _, rfl, rfl⟩
    refine a_pu 11 rfl rfl rfl rfl (pu_not rfl rfl) rfl rfl (by kernel_rfl) ?_
    refine a_pu 12 rfl rfl rfl rfl (pu_move rfl rfl) rfl rfl (by kernel_rfl) ?_
    first | refine a_pass 13 rfl rfl rfl rfl rfl rfl (by kernel_rfl) ?_ | refine a_pu 13 rfl rfl rfl rfl (pu_fieldAddr (by decide) rfl rfl) rfl rfl (by kernel_rfl) ?_
    refine a_pu 14 rfl rfl rfl rfl (pu_loadE 8 (el a).toArray rfl rfl rfl (show 0 + 0 + 4 ≤ (rt a b).toArray.size from (by decide : 4 ≤ 8)) (rt_fst a b)) rfl rfl (by kernel_rfl) ?_
    refine a_pu 16 rfl rfl rfl rfl (pu_atA 0 (s := 4) rfl rfl rfl rfl (by omega)) rfl rfl (by kernel_rfl) ?_
    refine a_pu 17 rfl rfl rfl rfl (pu_loadE 7 (el a).toArray rfl rfl rfl (show 0 + 0 * 4 + 4 ≤ (rt a b).toArray.size from (by decide : 4 ≤ 8)) (rt_fst a b)) rfl rfl (by kernel_rfl) ?_
    refine a_do 15 48 [] (does_call rfl rfl rfl rfl rfl (fun w' hm => Odd_b w' a ha)) rfl rfl (by kernel_rfl) rfl rfl (by kernel_rfl) (by kernel_rfl) (by kernel_rfl) rfl (fun p hp => by cases hp) ?_; rintro v_ cs_ ⟨_, _, rfl, rfl⟩
    refine a_tail [18, 19, 20, 21, 22, 23, 24] (by kernel_rfl) rfl rfl (by kernel_rfl) ?_
    refine g_call [] rfl rfl rfl rfl rfl rfl (fun w' hm => From_b w' a) (fun _ _ => ?_)
    refine g_call [] rfl rfl rfl rfl rfl rfl (fun w' hm => RNorm_b w' a ha) (fun _ _ => ?_)
    refine g_pu rfl rfl rfl (pu_indexA 0 rfl rfl rfl rfl (by omega) hg0) ?_
    refine g_pu rfl rfl rfl (pu_rem32 (b := 2#32) rfl rfl rfl (by decide)) ?_
    refine g_pu rfl rfl rfl (pu_eql32 (b := 1#32) rfl rfl rfl) ?_
    refine g_pu rfl rfl rfl (pu_neqB rfl rfl rfl) ?_
    refine g_as (t := 56) (u := .bool false) rfl (by rw [show decide _ = decide (a % 57896044618658097711785492504343953926634992332820282019728792003956564819949 % 2 = 1) from decide_eq_decide.2 hodd]; cases decide (a % 57896044618658097711785492504343953926634992332820282019728792003956564819949 % 2 = 1) <;> rfl) rfl ?_
    first | refine g_pu rfl rfl rfl (pu_pick_t rfl rfl rfl) ?_ | refine g_pu rfl rfl rfl (pu_pick_f rfl rfl rfl) ?_
    refine g_nil ?_
    (repeat refine g_seq ?_)
    refine g_cond_f rfl (g_skip ?_)
    have hsq : seqCells 8 0 [(0, Value.agg (rt a b).toArray)] = some (rt a b) := rfl
    (repeat refine g_seq ?_)
    refine g_region ?_
    refine g_pu rfl rfl rfl (pu_move rfl rfl) ?_
    refine g_pu rfl rfl rfl (pu_loadW 8 (L := rt a b) rfl rfl rfl rfl) ?_
    refine g_lo [60] rfl rfl rfl rfl (lo_buildSlice rfl rfl (by decide) (by decide) rfl hsq) (fun b60 hb60 => ?_)
    refine g_append 90 (s := 8) (rt a b) rfl rfl rfl (by omega) rfl rfl rfl rfl rfl htl (fun w' hm => hm.rowA 60 (L := rt a b) rfl) rfl (oneCell_rt a b) (by omega) (by omega) (fun p' c' => ?_)
    rw [← hA']
    refine g_pu rfl rfl rfl (pu_assign rfl rfl) ?_
    refine g_nil ?_
    (repeat refine g_seq ?_)
    refine g_any (4, []) ?_
    refine a_pu 0 rfl rfl rfl rfl (pu_loadW 4 (L := dg u) rfl rfl rfl rfl) rfl rfl (by kernel_rfl) ?_
    refine a_pu 1 rfl rfl rfl rfl (pu_atA 0 (s := 4) rfl rfl rfl rfl (by omega)) rfl rfl (by kernel_rfl) ?_
    refine a_pu 2 rfl rfl rfl rfl (pu_loadE 7 (el a).toArray rfl rfl rfl (show 0 + 0 * 4 + 4 ≤ (rt a b).toArray.size from (by decide : 4 ≤ 8)) (rt_fst a b)) rfl rfl (by kernel_rfl) ?_
    refine a_do 3 65 [] (does_call rfl rfl rfl rfl rfl (fun w' hm => From_b w' a)) rfl rfl (by kernel_rfl) rfl rfl (by kernel_rfl) (by kernel_rfl) (by kernel_rfl) rfl (fun p hp => by cases hp) ?_; rintro v_ cs_ ⟨_, _, rfl, rfl⟩
    refine a_tail [4, 5] (by kernel_rfl) rfl rfl (by kernel_rfl) ?_
    refine g_call [] rfl rfl rfl rfl rfl rfl (fun w' hm => RMul_b w' u a hul ha) (fun _ _ => ?_)
    refine g_storeL 4 (s := 8) (C := dg (u * a % 57896044618658097711785492504343953926634992332820282019728792003956564819949)) rfl rfl rfl rfl rfl rfl rfl rfl (oneCell_dg _) ?_
    refine g_nil ?_
    (repeat refine g_seq ?_)
    refine g_any (4, []) ?_
    refine a_pu 0 rfl rfl rfl rfl (pu_loadW 5 (L := dg v) rfl rfl rfl rfl) rfl rfl (by kernel_rfl) ?_
    refine a_pu 1 rfl rfl rfl rfl (pu_atA 1 (s := 4) rfl rfl rfl rfl (by omega)) rfl rfl (by kernel_rfl) ?_
    refine a_pu 2 rfl rfl rfl rfl (pu_loadE 7 (el b).toArray rfl rfl rfl (show 0 + 1 * 4 + 4 ≤ (rt a b).toArray.size from (by decide : 8 ≤ 8)) (rt_snd a b)) rfl rfl (by kernel_rfl) ?_
    refine a_do 3 70 [] (does_call rfl rfl rfl rfl rfl (fun w' hm => From_b w' b)) rfl rfl (by kernel_rfl) rfl rfl (by kernel_rfl) (by kernel_rfl) (by kernel_rfl) rfl (fun p hp => by cases hp) ?_; rintro v_ cs_ ⟨_, _, rfl, rfl⟩
    refine a_tail [4, 5] (by kernel_rfl) rfl rfl (by kernel_rfl) ?_
    refine g_call [] rfl rfl rfl rfl rfl rfl (fun w' hm => RMul_b w' v b hvl hb) (fun _ _ => ?_)
    refine g_storeL 5 (s := 8) (C := dg (v * b % 57896044618658097711785492504343953926634992332820282019728792003956564819949)) rfl rfl rfl rfl rfl rfl rfl rfl (oneCell_dg _) ?_
    refine g_nil ?_
    refine g_blk ?_
    (repeat refine g_seq ?_)
    refine g_region ?_
    refine g_pu rfl rfl rfl (pu_addI rfl rfl rfl (by omega)) ?_
    refine g_pu rfl rfl rfl (pu_move rfl rfl) ?_
    refine g_nil ?_
    exact g_round4 (i + 1) (u * a % 57896044618658097711785492504343953926634992332820282019728792003956564819949) (v * b % 57896044618658097711785492504343953926634992332820282019728792003956564819949) (⟨p', c'⟩ : Ow) ⟨by omega, by rw [hut, hu]; exact mulmod (Nat.mod_mod _ _) rfl, by rw [hvt, hv]; exact mulmod (Nat.mod_mod _ _) rfl⟩ (by omega) ⟨rfl, rfl, rfl, rfl, rfl, rfl, trivial⟩ ⟨rfl, rfl, rfl, trivial⟩
  · (repeat refine g_seq ?_)
    refine g_region ?_
    first | refine g_pu rfl rfl rfl (pu_lss_t rfl rfl rfl (by omega)) ?_ | refine g_pu rfl rfl rfl (pu_lss_f rfl rfl rfl (by omega)) ?_ | refine g_pu rfl rfl rfl (pu_lss rfl rfl rfl) ?_
    refine g_nil ?_
    (repeat refine g_seq ?_)
    refine g_cond_f rfl (g_exit rfl ?_)
    have e1 : m = i := by omega
    subst e1
    rw [List.take_of_length_le (by omega)] at hu hv ⊢
    subst hu hv
    (repeat refine g_seq ?_)
    refine g_region ?_
    refine g_pu rfl rfl rfl (pu_move rfl rfl) ?_
    refine g_call [] rfl rfl rfl rfl rfl rfl (fun w' hm => OverR_b w' y.c (Own.rd (hm.holds 90 _ rfl)) hn hlt hmb) (fun _ _ => ?_)
    refine g_lo [9] rfl rfl rfl rfl (lo_alloc rfl) (fun b9 hb9 => ?_)
    refine g_storeL 9 (s := 8) (C := rt (ups xs % 57896044618658097711785492504343953926634992332820282019728792003956564819949) (downs xs % 57896044618658097711785492504343953926634992332820282019728792003956564819949)) rfl rfl rfl rfl rfl rfl rfl rfl (oneCell_rt _ _) ?_
    refine g_nil ?_
    (repeat refine g_seq ?_)
    refine g_region ?_
    refine g_pu rfl rfl rfl (pu_fieldAddr (by decide) rfl rfl) ?_
    refine g_pu rfl rfl rfl (pu_loadE 9 (el (ups xs % 57896044618658097711785492504343953926634992332820282019728792003956564819949)).toArray rfl rfl rfl (show 0 + 0 + 4 ≤ (rt (ups xs % 57896044618658097711785492504343953926634992332820282019728792003956564819949) (downs xs % 57896044618658097711785492504343953926634992332820282019728792003956564819949)).toArray.size from (by decide : 4 ≤ 8)) (rt_fst _ _)) ?_
    refine g_pu rfl rfl rfl (pu_loadW 4 (L := dg (ups xs % 57896044618658097711785492504343953926634992332820282019728792003956564819949)) rfl rfl rfl rfl) ?_
    refine g_call [] rfl rfl rfl rfl rfl rfl (fun w' hm => is05_t w' (ups xs % 57896044618658097711785492504343953926634992332820282019728792003956564819949) hul) (fun _ _ => ?_)
    refine g_pu rfl rfl rfl (pu_move rfl rfl) ?_
    first | refine g_pass rfl rfl rfl ?_ | refine g_pu rfl rfl rfl (pu_fieldAddr (by decide) rfl rfl) ?_
    refine g_pu rfl rfl rfl (pu_loadE 9 (el (downs xs % 57896044618658097711785492504343953926634992332820282019728792003956564819949)).toArray rfl rfl rfl (show 0 + 4 + 4 ≤ (rt (ups xs % 57896044618658097711785492504343953926634992332820282019728792003956564819949) (downs xs % 57896044618658097711785492504343953926634992332820282019728792003956564819949)).toArray.size from (by decide : 8 ≤ 8)) (rt_snd _ _)) ?_
    refine g_pu rfl rfl rfl (pu_loadW 5 (L := dg (downs xs % 57896044618658097711785492504343953926634992332820282019728792003956564819949)) rfl rfl rfl rfl) ?_
    refine g_call [] rfl rfl rfl rfl rfl rfl (fun w' hm => is05_t w' (downs xs % 57896044618658097711785492504343953926634992332820282019728792003956564819949) hvl) (fun _ _ => ?_)
    first | refine g_pu rfl rfl rfl (pu_pick_t rfl rfl rfl) ?_ | refine g_pu rfl rfl rfl (pu_pick_f rfl rfl rfl) ?_
    refine g_pu rfl rfl rfl (pu_assign rfl rfl) ?_
    refine g_nil ?_
    exact g_ret1 rfl rfl (fun w' hm => ⟨(), trivial, rfl, hm.grows [] trivial rfl⟩)
end Go.Sx
