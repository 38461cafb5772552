/-
  CurvePairs: a pair of keys belongs together, and a named pair exchanges as the pair inside it does. The bytes fit memory.
-/
import Derived.Test.YtjmihjcahjpkmaaK5
import Derived.Test.YtjmihjcahjpkmaaC2
import Derived.Test.YtjmihjcahjpkmaaSxStruct
import Derived.Test.YtjmihjcahjpkmaaSxEq
set_option linter.unusedVariables false
set_option linter.unusedSimpArgs false
namespace Go.Sx
open Go Go.Proofs

theorem xmV_bad {k u : List (BitVec 8)} (h : ¬ xmE k u = 0) : xmV k u = zero32 := by
  have h0 : xmN k u = 0 := by
    by_cases h2 : k.length = 32 ∧ u.length = 32
    · have e1 : xmE k u = if xmN k u = 0 then 5 else 0 := if_pos h2
      by_cases h3 : xmN k u = 0
      · exact h3
      · exact absurd (e1.trans (if_neg h3)) h
    · exact if_neg h2
  rw [xmV, h0, zero32_leB]
/-- The pair's private part. -/
def npP (k : List (BitVec 8)) : List (BitVec 8) := if xmE k nine = 0 then k else zero32
theorem npP_length (k : List (BitVec 8)) : (npP k).length = 32 := by
  unfold npP
  split
  · exact xmE_32 (by assumption)
  · rfl
theorem npC_eq (k : List (BitVec 8)) : npC k = prC (npP k) (xmV k nine) := by
  unfold npC npP
  by_cases h : xmE k nine = 0
  · rw [if_pos h, if_pos h]
  · rw [if_neg h, if_neg h, xmV_bad h]
theorem ext_two {a b : List (BitVec 8)} (ha : a.length = 32) (hb : b.length = 32) : (prC a b).take 32 = bs a ∧ ((prC a b).drop 32).take 32 = bs b := by
  unfold prC
  rw [List.take_left' (by rw [bs_length, ha]), List.drop_left' (by rw [bs_length, ha]), List.take_of_length_le (by rw [bs_length, hb]; exact Nat.le_refl _)]
  exact ⟨rfl, rfl⟩
theorem pr_refl (a b : List (BitVec 8)) (ha : a.length = 32) (hb : b.length = 32) (w : World) : (Op.equal 39 (.agg (prC a b).toArray) (.agg (prC a b).toArray)).run Try.prog w = .ok true w := by
  obtain ⟨d, hd⟩ : ∃ d, Op.maxDepth = d + 3 := ⟨_, rfl⟩
  have hfs : (Try.prog.fieldsOf 39).toList.map (fun f => (f.type, f.offset)) = [(24, 0), (24, 32)] := by kernel_rfl
  have hu : Try.prog.underlying 39 = some (.struct (Try.prog.fieldsOf 39)) := by kernel_rfl
  obtain ⟨e1, e2⟩ := ext_two ha hb
  rw [Op.equal, hd, run_equalIn_struct w (d + 2) _ _ _ hu (by kernel_rfl)]
  refine eqFields_refl _ _ w _ fun f hf => ?_
  have hmem : (f.type, f.offset) ∈ [((24 : Nat), 0), (24, 32)] := by
    rw [← hfs]; exact List.mem_map.2 ⟨f, hf, rfl⟩
  simp only [List.mem_cons, Prod.mk.injEq, List.not_mem_nil, or_false] at hmem
  rcases hmem with ⟨h1, h2⟩ | ⟨h1, h2⟩ <;> rw [h1, h2]
  · refine ⟨.agg (bs a).toArray, ?_, run_eqA_refl d w (Und.h (P := Try.prog) (t := 24)) (Und.h (P := Try.prog) (t := 5)) (One.h (P := Try.prog) (t := 5)) (bs a) (all_bs _) (by rw [bs_length, ha])⟩
    simp [part, run_isAgg (Agg.h (P := Try.prog) (t := 24)), run_size (Siz.h (P := Try.prog) (t := 24)), e1]
  · refine ⟨.agg (bs b).toArray, ?_, run_eqA_refl d w (Und.h (P := Try.prog) (t := 24)) (Und.h (P := Try.prog) (t := 5)) (One.h (P := Try.prog) (t := 5)) (bs b) (all_bs _) (by rw [bs_length, hb])⟩
    have := ext_two ha hb
    simp [part, run_isAgg (Agg.h (P := Try.prog) (t := 24)), run_size (Siz.h (P := Try.prog) (t := 24)), e2]
/-- A named pair's cells. -/
def nmC (a b : List (BitVec 8)) (s : ByteArray) : List Value := prC a b ++ [.string s]
theorem nmC_length {a b : List (BitVec 8)} (ha : a.length = 32) (hb : b.length = 32) (s : ByteArray) : (nmC a b s).length = 65 := by rw [nmC, List.length_append, prC_length ha hb]; rfl
theorem oneCell_nmC (a b : List (BitVec 8)) (s : ByteArray) : ∀ u ∈ nmC a b s, u.oneCell' = true := fun u hu => (List.mem_append.1 hu).elim (oneCell_prC a b u) (fun h => by rw [List.mem_singleton.1 h]; rfl)
theorem fill_nm {A : Array Value} {a b : List (BitVec 8)} (s : ByteArray) (ha : a.length = 32) (hb : b.length = 32) (hA : A.size = 65) : Instr.fill (fun i => [(0, 64), (64, 1)][i]?) A [(0, .agg (prC a b).toArray), (1, .string s)] = some (nmC a b s).toArray := by
  have hp := prC_length ha hb
  rw [fill_stp (C := prC a b) (off := 0) (s := 64) rfl rfl hp (by omega), List.take_zero, List.nil_append]
  have hd : (A.toList.drop (0 + 64)).length = 1 := by rw [List.length_drop, Array.length_toList]; omega
  generalize A.toList.drop (0 + 64) = D at hd
  rw [fill_stp (C := [.string s]) (off := 64) (s := 1) rfl rfl rfl (by rw [List.size_toArray, List.length_append, hd, hp]; omega)]
  rw [show (prC a b ++ D).toArray.toList.take 64 = prC a b from List.take_left' hp, show (prC a b ++ D).toArray.toList.drop (64 + 1) = [] from by
    show (prC a b ++ D).drop (64 + 1) = []
    exact List.drop_of_length_le (by rw [List.length_append, hd, hp]; omega)]
  simp [Instr.fill, nmC]
theorem nmC_pr {a b : List (BitVec 8)} (s : ByteArray) (ha : a.length = 32) (hb : b.length = 32) : (nmC a b s).toArray.extract (0 + 0) (0 + 0 + 64) = (prC a b).toArray := by
  apply Array.ext'
  simp only [Array.toList_extract, List.extract_eq_take_drop]
  rw [nmC, Nat.add_zero, List.drop_zero, Nat.zero_add, Nat.sub_zero, List.take_left' (prC_length ha hb)]
theorem nmC_pub {a b : List (BitVec 8)} (s : ByteArray) (ha : a.length = 32) (hb : b.length = 32) : (nmC a b s).toArray.extract (0 + 0 + 32) (0 + 0 + 32 + 32) = (bs b).toArray := by
  apply Array.ext'
  simp only [Array.toList_extract, List.extract_eq_take_drop]
  rw [nmC, prC, Nat.zero_add, Nat.add_sub_cancel, List.append_assoc, List.drop_left' (by rw [bs_length, ha]), List.take_left' (by rw [bs_length, hb])]
theorem nmC_name {a b : List (BitVec 8)} (s : ByteArray) (ha : a.length = 32) (hb : b.length = 32) : (nmC a b s).toArray[0 + 64]? = some (.string s) := by
  rw [Nat.zero_add, List.getElem?_toArray, nmC, List.getElem?_append_right (by rw [prC_length ha hb]; omega), prC_length ha hb]
  rfl

theorem CurvePairs_spec (w : World) {p q : Option Addr} {n m : Nat} (c d : Nat) {k u : List (BitVec 8)} (s : ByteArray) (hk : By w p n k) (hu : By w q m u) : Spec Try.prog 6 #[.slice p n c, .slice q m d, .string s] w (σ := Unit) (fun _ => True) (fun _ => .bool true) Nob (fun _ => []) := by
  refine enter Try.func6 rfl rfl (Mem.start w) ?_
  have hkl := hk.len
  have hul := hu.len
  have hkb := hk.big
  have hub := hu.big
  have hpl := npP_length k
  have hvl := xmV_length k nine
  have hvb : (bs (xmV k nine)).length = 32 := by rw [bs_length, hvl]
  have hnl := prC_length hpl hvl
  have hxb : (bs (xmV k u)).length = 32 := by rw [bs_length, xmV_length]
  have hnq := npC_eq k
  (repeat refine g_seq ?_)
  refine g_region ?_
  refine g_pu rfl rfl rfl (pu_assign rfl rfl) ?_
  refine g_nil ?_
  (repeat refine g_seq ?_)
  refine g_region ?_
  refine g_call [] rfl rfl rfl rfl rfl rfl (fun w' hm => awake06_b w') (fun _ _ => ?_)
  refine g_pu rfl rfl rfl (pu_not rfl rfl) ?_
  refine g_nil ?_
  (repeat refine g_seq ?_)
  refine g_cond_f rfl (g_skip ?_)
  (repeat refine g_seq ?_)
  refine g_region ?_
  refine g_pu rfl rfl rfl (pu_move rfl rfl) ?_
  refine g_call [18] rfl rfl rfl rfl rfl rfl (fun w' hm => Copy_b w' c (hk.m hm)) (fun x18 _ => ?_)
  refine g_call [] rfl rfl rfl rfl rfl rfl (fun w' hm => NewPair_b w' x18.c (By.ow 18 rfl hm hkl hkb)) (fun _ _ => ?_)
  rw [hnq]
  refine g_pu rfl rfl rfl (pu_move rfl rfl) ?_
  refine g_pu rfl rfl rfl (pu_extract rfl rfl rfl) ?_
  refine g_pu rfl rfl rfl (pu_extract rfl rfl rfl) ?_
  refine g_lo [7] rfl rfl rfl rfl (lo_alloc rfl) (fun b7 hb7 => ?_)
  refine g_storeL 7 (s := 64) (C := prC (npP k) (xmV k nine)) rfl rfl rfl rfl rfl rfl hnl rfl (oneCell_prC _ _) ?_
  refine g_pu rfl rfl rfl (pu_assign rfl rfl) ?_
  refine g_nil ?_
  (repeat refine g_seq ?_)
  refine g_region ?_
  refine g_pu rfl rfl rfl (pu_move rfl rfl) ?_
  refine g_call [] rfl rfl rfl rfl rfl rfl (fun w' hm => RPublic_b w' c (hk.m hm)) (fun _ _ => ?_)
  refine g_pu rfl rfl rfl (pu_move rfl rfl) ?_
  refine g_pu rfl rfl rfl (pu_extract rfl rfl rfl) ?_
  refine g_pu rfl rfl rfl (pu_extract rfl rfl rfl) ?_
  refine g_lo [9] rfl rfl rfl rfl (lo_alloc rfl) (fun b9 hb9 => ?_)
  refine g_storeL 9 (s := 32) (C := bs (xmV k nine)) rfl rfl rfl rfl rfl rfl hvb rfl (oneCell_bs _) ?_
  refine g_pu rfl rfl rfl (pu_assign rfl rfl) ?_
  refine g_nil ?_
  (repeat refine g_seq ?_)
  refine g_region ?_
  refine g_pu rfl rfl rfl (pu_move rfl rfl) ?_
  refine g_pu rfl rfl rfl (pu_move rfl rfl) ?_
  refine g_pu rfl rfl rfl (pu_neq_f rfl rfl rfl (fun h => h rfl)) ?_
  refine g_pu rfl rfl rfl (pu_move rfl rfl) ?_
  first | refine g_pass rfl rfl rfl ?_ | refine g_pu rfl rfl rfl (pu_fieldAddr (by decide) rfl rfl) ?_
  refine g_pu rfl rfl rfl (pu_loadE 7 (bs (xmV k nine)).toArray rfl rfl rfl (by rw [List.size_toArray, hnl]; omega) (prC_snd hpl hvl)) ?_
  refine g_pu rfl rfl rfl (pu_loadW 9 (L := bs (xmV k nine)) rfl rfl rfl hvb) ?_
  refine g_pu rfl rfl rfl (pu_neqA_f (a := bs (xmV k nine)) (b := bs (xmV k nine)) rfl rfl rfl rfl (all_bs _) hvb) ?_
  first | refine g_pu rfl rfl rfl (pu_pick_t rfl rfl rfl) ?_ | refine g_pu rfl rfl rfl (pu_pick_f rfl rfl rfl) ?_
  refine g_nil ?_
  (repeat refine g_seq ?_)
  refine g_cond_f rfl (g_skip ?_)
  by_cases hE : xmE k nine = 0
  · have hP : npP k = k := if_pos hE
    have h32 := xmE_32 hE
    have hml := nmC_length h32 hvl s
    rw [hP, hE]
    rw [hP] at hnl
    (repeat refine g_seq ?_)
    refine g_region ?_
    refine g_pu rfl rfl rfl (pu_move rfl rfl) ?_
    first | refine g_pu rfl rfl rfl (pu_neq_t rfl rfl rfl (by omega)) ?_ | refine g_pu rfl rfl rfl (pu_neq_f rfl rfl rfl (by omega)) ?_ | refine g_pu rfl rfl rfl (pu_neq rfl rfl rfl) ?_
    refine g_nil ?_
    (repeat refine g_seq ?_)
    refine g_cond_f rfl (g_skip ?_)
    (repeat refine g_seq ?_)
    refine g_region ?_
    refine g_pu rfl rfl rfl (pu_loadW 7 (L := prC k (xmV k nine)) rfl rfl rfl hnl) ?_
    refine g_pu rfl rfl rfl (pu_move rfl rfl) ?_
    refine g_pu rfl rfl rfl (pu_buildS (cs := nmC k (xmV k nine) s) rfl rfl (fill_nm s h32 hvl rfl)) ?_
    refine g_lo [11] rfl rfl rfl rfl (lo_alloc rfl) (fun b11 hb11 => ?_)
    refine g_storeL 11 (s := 65) (C := nmC k (xmV k nine) s) rfl rfl rfl rfl rfl rfl hml rfl (oneCell_nmC _ _ _) ?_
    refine g_nil ?_
    (repeat refine g_seq ?_)
    refine g_any (9, [7]) ?_
    refine a_pu 0 rfl rfl rfl rfl (pu_fieldAddr (by decide) rfl rfl) rfl rfl (by kernel_rfl) ?_
    refine a_pu 1 rfl rfl rfl rfl (pu_loadE 11 (prC k (xmV k nine)).toArray rfl rfl rfl (by rw [List.size_toArray, hml]; omega) (nmC_pr s h32 hvl)) rfl rfl (by kernel_rfl) ?_
    refine a_pu 2 rfl rfl rfl rfl (pu_move rfl rfl) rfl rfl (by kernel_rfl) ?_
    refine a_pendA 8 12 12 24 ?_
    refine a_do 3 48 [48] (does_call rfl rfl rfl rfl rfl (fun w' hm => Copy_b w' d (hu.m hm))) rfl rfl (by kernel_rfl) rfl rfl (by kernel_rfl) (by kernel_rfl) (by kernel_rfl) rfl (fun p hp => by simp only [List.mem_cons, List.not_mem_nil, or_false] at hp; subst hp; first | exact does_PA rfl rfl rfl rfl | exact does_PB rfl rfl rfl rfl rfl (by decide) (by decide) rfl rfl) ?_; rintro v_ cs_ ⟨x48, _, rfl, rfl⟩
    refine a_do 4 49 [] (does_call rfl rfl rfl rfl rfl (fun w' hm => Shared_b w' x48.c h32 hvl (By.ow 48 rfl hm hul hub))) rfl rfl (by kernel_rfl) rfl rfl (by kernel_rfl) (by kernel_rfl) (by kernel_rfl) rfl (fun p hp => by simp only [List.mem_cons, List.not_mem_nil, or_false] at hp; subst hp; first | exact does_PA rfl rfl rfl rfl | exact does_PB rfl rfl rfl rfl rfl (by decide) (by decide) rfl rfl) ?_; rintro v_ cs_ ⟨_, _, rfl, rfl⟩
    refine a_pu 5 rfl rfl rfl rfl (pu_move rfl rfl) rfl rfl (by kernel_rfl) ?_
    refine a_pu 6 rfl rfl rfl rfl (pu_extract rfl rfl rfl) rfl rfl (by kernel_rfl) ?_
    first | refine a_mv 7 rfl rfl rfl rfl (fun _ => (pu_extract rfl rfl rfl)) rfl rfl rfl (by kernel_rfl) (by kernel_rfl) (by kernel_rfl) rfl ?_
    refine a_force _ (by kernel_rfl) rfl rfl rfl (by kernel_rfl) (by kernel_rfl) (by kernel_rfl) rfl (fun p hp => by simp only [List.mem_cons, List.not_mem_nil, or_false] at hp; subst hp; first | exact does_PA rfl rfl rfl rfl | exact does_PB rfl rfl rfl rfl rfl (by decide) (by decide) rfl rfl) ?_; rintro v_ cs_ ⟨b12, hb12, rfl, rfl⟩
    refine a_tail [9, 10] (by kernel_rfl) rfl rfl (by kernel_rfl) ?_
    refine g_storeL 12 (s := 32) (C := bs (xmV k u)) rfl rfl rfl rfl rfl rfl hxb rfl (oneCell_bs _) ?_
    refine g_pu rfl rfl rfl (pu_assign rfl rfl) ?_
    refine g_nil ?_
    (repeat refine g_seq ?_)
    refine g_region ?_
    refine g_pu rfl rfl rfl (pu_move rfl rfl) ?_
    refine g_pu rfl rfl rfl (pu_move rfl rfl) ?_
    refine g_call [] rfl rfl rfl rfl rfl rfl (fun w' hm => RMult_b w' c d (hk.m hm) (hu.m hm)) (fun _ _ => ?_)
    refine g_pu rfl rfl rfl (pu_move rfl rfl) ?_
    refine g_pu rfl rfl rfl (pu_extract rfl rfl rfl) ?_
    refine g_pu rfl rfl rfl (pu_extract rfl rfl rfl) ?_
    refine g_lo [13] rfl rfl rfl rfl (lo_alloc rfl) (fun b13 hb13 => ?_)
    refine g_storeL 13 (s := 32) (C := bs (xmV k u)) rfl rfl rfl rfl rfl rfl hxb rfl (oneCell_bs _) ?_
    refine g_pu rfl rfl rfl (pu_assign rfl rfl) ?_
    refine g_nil ?_
    (repeat refine g_seq ?_)
    refine g_region ?_
    refine g_pu rfl rfl rfl (pu_fieldAddr (by decide) rfl rfl) ?_
    refine g_pu rfl rfl rfl (pu_fieldAddr (by decide) rfl rfl) ?_
    refine g_pu rfl rfl rfl (pu_sliceA rfl rfl) ?_
    refine g_pu rfl rfl rfl (pu_move rfl rfl) ?_
    refine g_call [] rfl rfl rfl rfl rfl rfl (fun w' hm => Equal_b w' 32 c (a := k) ⟨(RdV.take (RdV.take (L' := [.string s]) (hm.rowA 11 (L := nmC k (xmV k nine) s) rfl)) : RdV w' _ (bs k)), h32, by omega⟩ (hk.m hm)) (fun _ _ => ?_)
    rw [decide_eq_true (rfl : k = k)]
    refine g_pu rfl rfl rfl (pu_move rfl rfl) ?_
    first | refine g_pass rfl rfl rfl ?_ | refine g_pu rfl rfl rfl (pu_fieldAddr (by decide) rfl rfl) ?_
    first | refine g_pass rfl rfl rfl ?_ | refine g_pu rfl rfl rfl (pu_fieldAddr (by decide) rfl rfl) ?_
    refine g_pu rfl rfl rfl (pu_loadE 11 (bs (xmV k nine)).toArray rfl rfl rfl (by rw [List.size_toArray, hml]; omega) (nmC_pub s h32 hvl)) ?_
    refine g_pu rfl rfl rfl (pu_loadW 9 (L := bs (xmV k nine)) rfl rfl rfl hvb) ?_
    refine g_pu rfl rfl rfl (pu_eqlA_t (a := bs (xmV k nine)) (b := bs (xmV k nine)) rfl rfl rfl rfl (all_bs _) hvb) ?_
    first | refine g_pu rfl rfl rfl (pu_pick_t rfl rfl rfl) ?_ | refine g_pu rfl rfl rfl (pu_pick_f rfl rfl rfl) ?_
    refine g_pu rfl rfl rfl (pu_move rfl rfl) ?_
    first | refine g_pass rfl rfl rfl ?_ | refine g_pu rfl rfl rfl (pu_fieldAddr (by decide) rfl rfl) ?_
    refine g_pu rfl rfl rfl (pu_load 11 (v := .string s) rfl rfl rfl (nmC_name s h32 hvl)) ?_
    first | refine g_pass rfl rfl rfl ?_ | refine g_pu rfl rfl rfl (pu_move rfl rfl) ?_
    refine g_pu rfl rfl rfl (pu_eqlS_t rfl rfl rfl rfl) ?_
    first | refine g_pu rfl rfl rfl (pu_pick_t rfl rfl rfl) ?_ | refine g_pu rfl rfl rfl (pu_pick_f rfl rfl rfl) ?_
    refine g_pu rfl rfl rfl (pu_move rfl rfl) ?_
    refine g_pu rfl rfl rfl (pu_loadW 12 (L := bs (xmV k u)) rfl rfl rfl hxb) ?_
    refine g_pu rfl rfl rfl (pu_loadW 13 (L := bs (xmV k u)) rfl rfl rfl hxb) ?_
    refine g_pu rfl rfl rfl (pu_eqlA_t (a := bs (xmV k u)) (b := bs (xmV k u)) rfl rfl rfl rfl (all_bs _) hxb) ?_
    first | refine g_pu rfl rfl rfl (pu_pick_t rfl rfl rfl) ?_ | refine g_pu rfl rfl rfl (pu_pick_f rfl rfl rfl) ?_
    refine g_pu rfl rfl rfl (pu_move rfl rfl) ?_
    first | refine g_pass rfl rfl rfl ?_ | refine g_pu rfl rfl rfl (pu_move rfl rfl) ?_
    first | refine g_pass rfl rfl rfl ?_ | refine g_pu rfl rfl rfl (pu_move rfl rfl) ?_
    refine g_pu rfl rfl rfl (pu_eql_t rfl rfl rfl rfl) ?_
    first | refine g_pu rfl rfl rfl (pu_pick_t rfl rfl rfl) ?_ | refine g_pu rfl rfl rfl (pu_pick_f rfl rfl rfl) ?_
    refine g_pu rfl rfl rfl (pu_assign rfl rfl) ?_
    refine g_nil ?_
    exact g_ret1 rfl rfl (fun w' hm => ⟨(), trivial, rfl, hm.grows [] trivial rfl⟩)
  · have hP : npP k = zero32 := if_neg hE
    have hV : xmV k nine = zero32 := xmV_bad hE
    rw [hP, hV]
    (repeat refine g_seq ?_)
    refine g_region ?_
    refine g_pu rfl rfl rfl (pu_move rfl rfl) ?_
    refine g_pu rfl rfl rfl (pu_neq_t rfl rfl rfl hE) ?_
    refine g_nil ?_
    (repeat refine g_seq ?_)
    refine g_cond_t rfl ?_
    (repeat refine g_seq ?_)
    refine g_region ?_
    refine g_pu rfl rfl rfl (pu_loadW 7 (L := prC zero32 zero32) rfl rfl rfl rfl) ?_
    refine g_pu rfl rfl rfl (pu_buildS (cs := prC zero32 zero32) rfl rfl rfl) ?_
    refine g_pu rfl rfl rfl (pu_eqlR (pr_refl zero32 zero32 rfl rfl) rfl rfl rfl) ?_
    refine g_pu rfl rfl rfl (pu_assign rfl rfl) ?_
    refine g_nil ?_
    exact g_ret1 rfl rfl (fun w' hm => ⟨(), trivial, rfl, hm.grows [] trivial rfl⟩)
end Go.Sx
