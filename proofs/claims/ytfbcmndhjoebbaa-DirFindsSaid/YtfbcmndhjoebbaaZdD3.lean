import Derived.Test.YtfbcmndhjoebbaaZdD2
import Derived.Test.YtfbcmndhjoebbaaZdEK
set_option linter.unusedVariables false
set_option linter.unusedSimpArgs false
/-
  Directories that are copied, that are the same, and whose keys belong together. A directory fits memory.
-/
namespace Go.Sx
open Go Go.Proofs

section
variable {P : Program} {N : Nat} {w0 : World} {D : Blocks} {e : List (Nat × Value)} {M : List (Nat × Ck)} {o : Oper}
end
theorem By.nodT (t : Nat) {w0 w : World} {D : Blocks} {M : List (Nat × Ck)} {b : Nat} {E : TypeId} {fz : Nat × Nat} {x : Hop} (hM : mget M t = some (.pt b (.cells (nodeC x).toArray E fz))) (hm : Mem w0 D M w) (ho : x.ok) : By w (some ⟨b, 2, none⟩) 32 x.pv := by
  refine ⟨RdV.pt (hm.holds t _ hM) (fun i v hv => ?_), ho.1, by omega⟩
  have hi : i < 32 := by
    have := (List.getElem?_eq_some_iff.1 hv).1
    rw [bs_length, ho.1] at this
    exact this
  rw [← node_pv ho, List.getElem?_take, if_pos hi, List.getElem?_drop] at hv
  rw [List.getElem?_toArray]
  exact hv

theorem nodes_reflD (d : Nat) (x : Hop) (ho : x.ok) (w : World) : (Op.equalIn (d + 3) 45 (.agg (nodeC x).toArray) (.agg (nodeC x).toArray)).run Try.prog w = .ok true w := by
  have hfs : (Try.prog.fieldsOf 45).toList.map (fun f => (f.type, f.offset)) = [(9, 0), (42, 1), (43, 2), (43, 34)] := by kernel_rfl
  have hu : Try.prog.underlying 45 = some (.struct (Try.prog.fieldsOf 45)) := by kernel_rfl
  rw [run_equalIn_struct w (d + 2) _ _ _ hu (by kernel_rfl)]
  refine eqFields_refl _ _ w _ fun f hf => ?_
  have hmem : (f.type, f.offset) ∈ [((9 : Nat), 0), (42, 1), (43, 2), (43, 34)] := by
    rw [← hfs]; exact List.mem_map.2 ⟨f, hf, rfl⟩
  simp only [List.mem_cons, Prod.mk.injEq, List.not_mem_nil, or_false] at hmem
  have key : ∀ (off : Nat) (l : List (BitVec 8)), l.length = 32 → ((nodeC x).drop off).take 32 = bs l → ∃ v, (part 43 (nodeC x).toArray off).run Try.prog w = .ok v w ∧ (Op.equalIn (d + 2) 43 v v).run Try.prog w = .ok true w := fun off l hl hx => by
    refine ⟨.agg (bs l).toArray, ?_, run_eqA_refl d w (Und.h (P := Try.prog) (t := 43)) (Und.h (P := Try.prog) (t := 5)) (One.h (P := Try.prog) (t := 5)) (bs l) (all_bs _) (by rw [bs_length, hl])⟩
    have he : (nodeC x).toArray.extract off (off + 32) = (bs l).toArray := by
      apply Array.ext'
      simp only [Array.toList_extract, List.extract_eq_take_drop]
      rw [show off + 32 - off = 32 by omega]
      exact hx
    simp [part, run_isAgg (Agg.h (P := Try.prog) (t := 43)), run_size (Siz.h (P := Try.prog) (t := 43)), he]
    rw [hx]
  rcases hmem with ⟨h1, h2⟩ | ⟨h1, h2⟩ | ⟨h1, h2⟩ | ⟨h1, h2⟩ <;> rw [h1, h2]
  · exact ⟨.string x.name, by simp [part, run_isAgg (Agg.h (P := Try.prog) (t := 9)), nodeC], by rw [run_equalIn_string w _ _ _ _ (Und.h (P := Try.prog) (t := 9)), beq_self_eq_true]⟩
  · exact ⟨b64 x.id, by simp [part, run_isAgg (Agg.h (P := Try.prog) (t := 42)), nodeC], by unfold b64; rw [run_equalIn_int w _ _ _ _ _ _ (Und.h (P := Try.prog) (t := 42)), beq_self_eq_true]⟩
  · exact key 2 x.pv ho.1 (node_pv ho)
  · exact key 34 x.pb ho.2 (node_pb ho)
theorem node_refl (x : Hop) (ho : x.ok) (w : World) : (Op.equal 45 (.agg (nodeC x).toArray) (.agg (nodeC x).toArray)).run Try.prog w = .ok true w := by
  obtain ⟨d, hd⟩ : ∃ d, Op.maxDepth = d + 3 := ⟨_, rfl⟩
  rw [Op.equal, hd]
  exact nodes_reflD d x ho w
theorem dnode_refl (x : Hop) (ho : x.ok) (w : World) : (Op.equal 47 (.agg (nodeC x).toArray) (.agg (nodeC x).toArray)).run Try.prog w = .ok true w := by
  obtain ⟨d, hd⟩ : ∃ d, Op.maxDepth = d + 4 := ⟨_, rfl⟩
  have hfs : (Try.prog.fieldsOf 47).toList.map (fun f => (f.type, f.offset)) = [(45, 0)] := by kernel_rfl
  have hu : Try.prog.underlying 47 = some (.struct (Try.prog.fieldsOf 47)) := by kernel_rfl
  rw [Op.equal, hd, run_equalIn_struct w (d + 3) _ _ _ hu (by kernel_rfl)]
  refine eqFields_refl _ _ w _ fun f hf => ?_
  have hmem : (f.type, f.offset) ∈ [((45 : Nat), 0)] := by
    rw [← hfs]; exact List.mem_map.2 ⟨f, hf, rfl⟩
  simp only [List.mem_cons, Prod.mk.injEq, List.not_mem_nil, or_false] at hmem
  rw [hmem.1, hmem.2]
  have he : (nodeC x).toArray.extract 0 (0 + 66) = (nodeC x).toArray := by
    apply Array.ext'
    simp only [Array.toList_extract, List.extract_eq_take_drop]
    rw [List.drop_zero]
    exact List.take_of_length_le (by rw [nodeC_length ho]; omega)
  refine ⟨.agg (nodeC x).toArray, ?_, nodes_reflD d x ho w⟩
  rw [Nat.zero_add] at he
  simp [part, run_isAgg (Agg.h (P := Try.prog) (t := 45)), run_size (Siz.h (P := Try.prog) (t := 45)), he]
  exact List.take_of_length_le (by rw [nodeC_length ho]; omega)

theorem twin_b (w : World) {p : Option Addr} {n : Nat} (c : Nat) {hs : List Hop} (hp : RdV w p (nodsC hs)) (hn : hs.length = n) (ho : ∀ x ∈ hs, x.ok) (hb : n ≤ 1599289640401) : Spec Try.prog 10 #[.slice p n c] w (σ := Ow) (fun _ => True) (fun x => x.sl n) Nob (fun x => [x.ck 45 66 (nodsC hs)]) := by
  refine enter Try.func10 rfl rfl (Mem.start w) ?_
  have hcl := nodsC_length ho
  (repeat refine g_seq ?_)
  refine g_region ?_
  refine g_pu rfl rfl rfl (pu_assign rfl rfl) ?_
  refine g_nil ?_
  (repeat refine g_seq ?_)
  refine g_region ?_
  refine g_lo [3] rfl rfl rfl rfl (lo_buildSlice0 rfl) (fun b3 hb3 => ?_)
  refine g_own 3 (L := []) (J := []) (c := 0) (s := 66) rfl (by simp) (by omega) ?_
  refine g_pu rfl rfl rfl (pu_move rfl rfl) ?_
  refine g_append 3 (s := 66) (nodsC hs) rfl rfl rfl (by omega) rfl rfl rfl rfl rfl (by simp) (fun w' hm => hp.mem0 hm) (by omega) (oneCell_nods hs) (by omega) (by omega) (fun p1 c1 => ?_)
  rw [Nat.zero_add, List.nil_append]
  refine g_pu rfl rfl rfl (pu_assign rfl rfl) ?_
  refine g_nil ?_
  exact g_ret1 rfl rfl (fun w' hm => ⟨⟨p1, c1⟩, trivial, rfl, hm.grows [3] ⟨rfl, trivial⟩ rfl⟩)

theorem DSame_b (w : World) {p q : Option Addr} {n : Nat} (c d : Nat) {hs : List Hop} (hp : RdV w p (nodsC hs)) (hq : RdV w q (nodsC hs)) (hn : hs.length = n) (ho : ∀ x ∈ hs, x.ok) (hb : n ≤ 1599289640401) : Spec Try.prog 17 #[.slice p n c, .slice q n d] w (σ := Unit) (fun _ => True) (fun _ => .bool true) Nob (fun _ => []) := by
  refine enter Try.func17 rfl rfl (Mem.start w) ?_
  have hcl := nodsC_length ho
  (repeat refine g_seq ?_)
  refine g_region ?_
  refine g_pu rfl rfl rfl (pu_assign rfl rfl) ?_
  refine g_nil ?_
  (repeat refine g_seq ?_)
  refine g_region ?_
  refine g_pu rfl rfl rfl (pu_move rfl rfl) ?_
  first | refine g_pu rfl rfl rfl (pu_len rfl rfl) ?_ | refine g_pu rfl rfl rfl (pu_lenS rfl rfl) ?_
  refine g_pu rfl rfl rfl (pu_move rfl rfl) ?_
  first | refine g_pu rfl rfl rfl (pu_len rfl rfl) ?_ | refine g_pu rfl rfl rfl (pu_lenS rfl rfl) ?_
  refine g_pu rfl rfl rfl (pu_neq_f rfl rfl rfl (fun h => h rfl)) ?_
  refine g_nil ?_
  (repeat refine g_seq ?_)
  refine g_cond_f rfl (g_skip ?_)
  (repeat refine g_seq ?_)
  refine g_region ?_
  refine g_pu rfl rfl rfl (pu_assign rfl rfl) ?_
  refine g_nil ?_
  refine g_block (g_loop (σ := Nat) (fun i => [(0, .slice p n c), (1, .slice q n d), (5, .int .i64 (i : Int))]) (fun _ => []) (fun i => i ≤ n) (fun i => n - i) 0 ⟨rfl, rfl, rfl, trivial⟩ trivial (by omega) ?_)
  intro i hi
  by_cases hlt : i < n
  · (repeat refine g_seq ?_)
    refine g_region ?_
    refine g_pu rfl rfl rfl (pu_move rfl rfl) ?_
    refine g_pu rfl rfl rfl (pu_move rfl rfl) ?_
    first | refine g_pu rfl rfl rfl (pu_len rfl rfl) ?_ | refine g_pu rfl rfl rfl (pu_lenS rfl rfl) ?_
    refine g_pu rfl rfl rfl (pu_lss_t rfl rfl rfl (by omega)) ?_
    refine g_nil ?_
    (repeat refine g_seq ?_)
    refine g_cond_t rfl (g_skip ?_)
    have h1 : hs[i]? = some hs[i] := List.getElem?_eq_getElem (by omega)
    have hxm : hs[i] ∈ hs := List.getElem_mem _
    generalize hs[i] = x at h1 hxm
    have hg := nodsC_get ho h1
    (repeat refine g_seq ?_); refine g_block ?_
    (repeat refine g_seq ?_)
    refine g_any (9, []) ?_
    refine a_pu 0 rfl rfl rfl rfl (pu_move rfl rfl) rfl rfl (by kernel_rfl) ?_
    refine a_pu 1 rfl rfl rfl rfl (pu_move rfl rfl) rfl rfl (by kernel_rfl) ?_
    refine a_pu 2 rfl rfl rfl rfl (pu_atM i (s := 66) (L := nodsC hs) (fun w' hm => hp.mem0 hm) rfl rfl rfl rfl hlt (by omega)) rfl rfl (by kernel_rfl) ?_
    refine a_pu 3 rfl rfl rfl rfl (pu_rdMA (L := nodsC hs) (j := i * 66) (s := 66) (fun w' hm => hp.mem0 hm) rfl rfl (by omega) (by omega)) rfl rfl (by kernel_rfl) ?_
    rw [hg]
    refine a_pu 4 rfl rfl rfl rfl (pu_move rfl rfl) rfl rfl (by kernel_rfl) ?_
    refine a_pu 5 rfl rfl rfl rfl (pu_move rfl rfl) rfl rfl (by kernel_rfl) ?_
    refine a_pu 6 rfl rfl rfl rfl (pu_atM i (s := 66) (L := nodsC hs) (fun w' hm => hq.mem0 hm) rfl rfl rfl rfl hlt (by omega)) rfl rfl (by kernel_rfl) ?_
    refine a_pu 7 rfl rfl rfl rfl (pu_rdMA (L := nodsC hs) (j := i * 66) (s := 66) (fun w' hm => hq.mem0 hm) rfl rfl (by omega) (by omega)) rfl rfl (by kernel_rfl) ?_
    rw [hg]
    refine a_pu 8 rfl rfl rfl rfl (pu_neqR (node_refl x (ho x hxm)) rfl rfl rfl) rfl rfl (by kernel_rfl) ?_
    refine a_done (by kernel_rfl) ?_
    (repeat refine g_seq ?_)
    refine g_cond_f rfl (g_skip ?_)
    refine g_blk ?_
    (repeat refine g_seq ?_)
    refine g_region ?_
    refine g_pu rfl rfl rfl (pu_move rfl rfl) ?_
    refine g_pu rfl rfl rfl (pu_addI rfl rfl rfl (by omega)) ?_
    refine g_pu rfl rfl rfl (pu_assign rfl rfl) ?_
    refine g_nil ?_
    exact g_round (i + 1) (by omega) (by omega) ⟨rfl, rfl, rfl, trivial⟩ trivial
  · (repeat refine g_seq ?_)
    refine g_region ?_
    refine g_pu rfl rfl rfl (pu_move rfl rfl) ?_
    refine g_pu rfl rfl rfl (pu_move rfl rfl) ?_
    first | refine g_pu rfl rfl rfl (pu_len rfl rfl) ?_ | refine g_pu rfl rfl rfl (pu_lenS rfl rfl) ?_
    refine g_pu rfl rfl rfl (pu_lss_f rfl rfl rfl (by omega)) ?_
    refine g_nil ?_
    (repeat refine g_seq ?_)
    refine g_cond_f rfl (g_exit rfl ?_)
    (repeat refine g_seq ?_)
    refine g_region ?_
    refine g_pu rfl rfl rfl (pu_assign rfl rfl) ?_
    refine g_nil ?_
    exact g_ret1 rfl rfl (fun w' hm => ⟨(), trivial, rfl, hm.grows [] trivial rfl⟩)

def pairOk (x : Hop) : Bool := decide (xmV x.pv nine = x.pb)
noncomputable def fitN (hs : List Hop) : Bool × Int := if chkN hs = 0 then (hs.all pairOk, 0) else (false, chkN hs)
theorem fitN_bad {hs : List Hop} (h : ¬ chkN hs = 0) : fitN hs = (false, chkN hs) := if_neg h
theorem fitN_ok {hs : List Hop} (h : chkN hs = 0) : fitN hs = (hs.all pairOk, 0) := if_pos h
theorem all_bad {hs : List Hop} {x : Hop} (hx : x ∈ hs) (h : pairOk x = false) : hs.all pairOk = false := by
  cases h3 : hs.all pairOk
  · rfl
  · have := List.all_eq_true.1 h3 x hx
    rw [h] at this; cases this

theorem DFits_b (w : World) {p : Option Addr} {n : Nat} (c : Nat) {hs : List Hop} (hp : RdV w p (nodsC hs)) (hn : hs.length = n) (ho : ∀ x ∈ hs, x.ok) : Spec Try.prog 12 #[.slice p n c] w (σ := Unit) (fun _ => True) (fun _ => .tuple #[.bool (fitN hs).1, .int .i64 (fitN hs).2]) Nob (fun _ => []) := by
  refine enter Try.func12 rfl rfl (Mem.start w) ?_
  have hcl := nodsC_length ho
  (repeat refine g_seq ?_)
  refine g_region ?_
  refine g_pu rfl rfl rfl (pu_assign rfl rfl) ?_
  refine g_pu rfl rfl rfl (pu_assign rfl rfl) ?_
  refine g_nil ?_
  (repeat refine g_seq ?_)
  refine g_region ?_
  refine g_pu rfl rfl rfl (pu_move rfl rfl) ?_
  refine g_call [] rfl rfl rfl rfl rfl rfl (fun w' hm => DCheck_b w' c (hp.mem0 hm) hn ho) (fun _ _ => ?_)
  refine g_pu rfl rfl rfl (pu_assign rfl rfl) ?_
  refine g_nil ?_
  by_cases h0 : chkN hs = 0
  · have h64 := (chkN_ok h0).1
    rw [fitN_ok h0, h0]
    (repeat refine g_seq ?_)
    refine g_region ?_
    refine g_pu rfl rfl rfl (pu_move rfl rfl) ?_
    refine g_pu rfl rfl rfl (pu_neq_f rfl rfl rfl (fun h => h rfl)) ?_
    refine g_nil ?_
    (repeat refine g_seq ?_)
    refine g_cond_f rfl (g_skip ?_)
    (repeat refine g_seq ?_)
    refine g_region ?_
    refine g_pu rfl rfl rfl (pu_move rfl rfl) ?_
    first | refine g_pu rfl rfl rfl (pu_len rfl rfl) ?_ | refine g_pu rfl rfl rfl (pu_lenS rfl rfl) ?_
    refine g_pu rfl rfl rfl (pu_move rfl rfl) ?_
    refine g_nil ?_
    refine g_block (g_loop (σ := Nat) (fun i => [(0, .slice p n c), (14, .slice p n c), (15, .int .i64 (n : Int)), (16, .int .i64 (i : Int))]) (fun _ => []) (fun i => i ≤ n ∧ ∀ x ∈ hs.take i, pairOk x = true) (fun i => n - i) 0 ⟨rfl, rfl, rfl, rfl, trivial⟩ trivial ⟨by omega, fun _ h => by simp at h⟩ ?_)
    intro i ⟨hi, hall⟩
    by_cases hlt : i < n
    · (repeat refine g_seq ?_)
      refine g_region ?_
      first | refine g_pu rfl rfl rfl (pu_lss_t rfl rfl rfl (by omega)) ?_ | refine g_pu rfl rfl rfl (pu_lss_f rfl rfl rfl (by omega)) ?_ | refine g_pu rfl rfl rfl (pu_lss rfl rfl rfl) ?_
      refine g_nil ?_
      (repeat refine g_seq ?_)
      refine g_cond_t rfl (g_skip ?_)
      have h1 : hs[i]? = some hs[i] := List.getElem?_eq_getElem (by omega)
      have hxm : hs[i] ∈ hs := List.getElem_mem _
      generalize hs[i] = x at h1 hxm
      have hxo := ho x hxm
      have hnl := nodeC_length hxo
      have hg := nodsC_get ho h1
      have hvl := xmV_length x.pv nine
      have hvb : (bs (xmV x.pv nine)).length = 32 := by rw [bs_length, hvl]
      have hpb : (bs x.pb).length = 32 := by rw [bs_length, hxo.2]
      have hext : (nodeC x).toArray.extract (0 + 34) (0 + 34 + 32) = (bs x.pb).toArray := by
        apply Array.ext'
        simp only [Array.toList_extract, List.extract_eq_take_drop]
        exact node_pb hxo
      (repeat refine g_seq ?_); refine g_block ?_
      (repeat refine g_seq ?_)
      refine g_region ?_
      refine g_pu rfl rfl rfl (pu_atM i (s := 66) (L := nodsC hs) (fun w' hm => hp.mem0 hm) rfl rfl rfl rfl hlt (by omega)) ?_
      refine g_pu rfl rfl rfl (pu_rdMA (L := nodsC hs) (j := i * 66) (s := 66) (fun w' hm => hp.mem0 hm) rfl rfl (by omega) (by omega)) ?_
      rw [hg]
      refine g_lo [6] rfl rfl rfl rfl (lo_alloc rfl) (fun b6 hb6 => ?_)
      refine g_storeL 6 (s := 66) (C := nodeC x) rfl rfl rfl rfl rfl rfl hnl rfl (oneCell_node x) ?_
      refine g_nil ?_
      (repeat refine g_seq ?_)
      refine g_region ?_
      refine g_pu rfl rfl rfl (pu_fieldAddr (by decide) rfl rfl) ?_
      refine g_pu rfl rfl rfl (pu_sliceA rfl rfl) ?_
      refine g_call [] rfl rfl rfl rfl rfl rfl (fun w' hm => Public_b w' 32 (k := x.pv) (By.nodT 6 rfl hm hxo)) (fun _ _ => ?_)
      refine g_pu rfl rfl rfl (pu_move rfl rfl) ?_
      refine g_pu rfl rfl rfl (pu_extract rfl rfl rfl) ?_
      refine g_pu rfl rfl rfl (pu_extract rfl rfl rfl) ?_
      refine g_lo [7] rfl rfl rfl rfl (lo_alloc rfl) (fun b7 hb7 => ?_)
      refine g_storeL 7 (s := 32) (C := bs (xmV x.pv nine)) rfl rfl rfl rfl rfl rfl hvb rfl (oneCell_bs _) ?_
      refine g_pu rfl rfl rfl (pu_assign rfl rfl) ?_
      refine g_nil ?_
      by_cases hpr : xmV x.pv nine = x.pb
      · have hok : pairOk x = true := decide_eq_true hpr
        (repeat refine g_seq ?_)
        refine g_region ?_
        refine g_pu rfl rfl rfl (pu_loadW 7 (L := bs (xmV x.pv nine)) rfl rfl rfl hvb) ?_
        refine g_pu rfl rfl rfl (pu_fieldAddr (by decide) rfl rfl) ?_
        refine g_pu rfl rfl rfl (pu_loadE 6 (bs x.pb).toArray rfl rfl rfl (show 0 + 34 + 32 ≤ (nodeC x).toArray.size by rw [List.size_toArray]; omega) hext) ?_
        refine g_pu rfl rfl rfl (pu_neqA_f (a := bs (xmV x.pv nine)) (b := bs x.pb) rfl rfl rfl (by rw [hpr]) (all_bs _) hvb) ?_
        refine g_nil ?_
        (repeat refine g_seq ?_)
        refine g_cond_f rfl (g_skip ?_)
        refine g_blk ?_
        (repeat refine g_seq ?_)
        refine g_region ?_
        refine g_pu rfl rfl rfl (pu_addI rfl rfl rfl (by omega)) ?_
        refine g_pu rfl rfl rfl (pu_move rfl rfl) ?_
        refine g_nil ?_
        exact g_round (i + 1) ⟨by omega, takeN_mem hall h1 hok⟩ (by omega) ⟨rfl, rfl, rfl, rfl, trivial⟩ trivial
      · rw [all_bad hxm (decide_eq_false hpr)]
        (repeat refine g_seq ?_)
        refine g_region ?_
        refine g_pu rfl rfl rfl (pu_loadW 7 (L := bs (xmV x.pv nine)) rfl rfl rfl hvb) ?_
        refine g_pu rfl rfl rfl (pu_fieldAddr (by decide) rfl rfl) ?_
        refine g_pu rfl rfl rfl (pu_loadE 6 (bs x.pb).toArray rfl rfl rfl (show 0 + 34 + 32 ≤ (nodeC x).toArray.size by rw [List.size_toArray]; omega) hext) ?_
        refine g_pu rfl rfl rfl (pu_neqA_t (a := bs (xmV x.pv nine)) (b := bs x.pb) rfl rfl rfl (fun h => hpr (bs_inj h)) (all_bs _) (all_bs _) hvb hpb) ?_
        refine g_nil ?_
        (repeat refine g_seq ?_)
        refine g_cond_t rfl ?_
        (repeat refine g_seq ?_)
        refine g_region ?_
        refine g_pu rfl rfl rfl (pu_assign rfl rfl) ?_
        refine g_pu rfl rfl rfl (pu_assign rfl rfl) ?_
        refine g_nil ?_
        exact g_ret2 rfl rfl rfl (fun w' hm => ⟨(), trivial, rfl, hm.grows [] trivial rfl⟩)
    · (repeat refine g_seq ?_)
      refine g_region ?_
      first | refine g_pu rfl rfl rfl (pu_lss_t rfl rfl rfl (by omega)) ?_ | refine g_pu rfl rfl rfl (pu_lss_f rfl rfl rfl (by omega)) ?_ | refine g_pu rfl rfl rfl (pu_lss rfl rfl rfl) ?_
      refine g_nil ?_
      (repeat refine g_seq ?_)
      refine g_cond_f rfl (g_exit rfl ?_)
      rw [List.take_of_length_le (by omega)] at hall
      rw [List.all_eq_true.2 hall]
      (repeat refine g_seq ?_)
      refine g_region ?_
      refine g_pu rfl rfl rfl (pu_assign rfl rfl) ?_
      refine g_pu rfl rfl rfl (pu_assign rfl rfl) ?_
      refine g_nil ?_
      exact g_ret2 rfl rfl rfl (fun w' hm => ⟨(), trivial, rfl, hm.grows [] trivial rfl⟩)
  · rw [fitN_bad h0]
    (repeat refine g_seq ?_)
    refine g_region ?_
    refine g_pu rfl rfl rfl (pu_move rfl rfl) ?_
    refine g_pu rfl rfl rfl (pu_neq_t rfl rfl rfl h0) ?_
    refine g_nil ?_
    (repeat refine g_seq ?_)
    refine g_cond_t rfl ?_
    (repeat refine g_seq ?_)
    refine g_region ?_
    refine g_pu rfl rfl rfl (pu_move rfl rfl) ?_
    refine g_pu rfl rfl rfl (pu_assign rfl rfl) ?_
    refine g_pu rfl rfl rfl (pu_assign rfl rfl) ?_
    refine g_nil ?_
    exact g_ret2 rfl rfl rfl (fun w' hm => ⟨(), trivial, rfl, hm.grows [] trivial rfl⟩)

end Go.Sx
