/-
  MacDerives: each label gives its own key, in the order of the labels. Condition: at most 2^42 labels.
-/
import Derived.Test.YtfnbedjnbofliaaM4
set_option linter.unusedVariables false
set_option linter.unusedSimpArgs false
namespace Go.Sx
open Go Go.Proofs

theorem oneCell_strs (ss : List ByteArray) : ∀ u ∈ ss.map Value.string, u.oneCell' = true := fun u hu => by
  obtain ⟨s, _, rfl⟩ := List.mem_map.1 hu
  rfl

theorem MacDerives_spec (w : World) {p q : Option Addr} {n m : Nat} (c d : Nat) {secret : List (BitVec 8)} {ss : List ByteArray} (ha : By w p n secret) (hq : RdV w q (ss.map Value.string)) (hm' : ss.length = m) (hnb : n ≤ 140737488355072) (hmb : m ≤ 4398046511104) (hlb : ∀ s ∈ ss, s.size ≤ 140737488355072) :
    Spec Try.prog 6 #[.slice p n c, .slice q m d] w (σ := Unit) (fun _ => True) (fun _ => .bool true) Nob (fun _ => []) := by
  refine enter Try.func6 rfl rfl (Mem.start w) ?_
  have hsl := ha.len
  have hml : (ss.map Value.string).length = m := by rw [List.length_map, hm']
  have hdl := drvs_length secret ss
  (repeat refine g_seq ?_)
  refine g_region ?_
  refine g_pu rfl rfl rfl (pu_assign rfl rfl) ?_
  refine g_nil ?_
  (repeat refine g_seq ?_)
  refine g_region ?_
  refine g_call [] rfl rfl rfl rfl rfl rfl (fun w' hm => awake03_b w') (fun _ _ => ?_)
  refine g_pu rfl rfl rfl (pu_not rfl rfl) ?_
  refine g_nil ?_
  (repeat refine g_seq ?_)
  refine g_cond_f rfl (g_skip ?_)
  (repeat refine g_seq ?_)
  refine g_region ?_
  refine g_pu rfl rfl rfl (pu_move rfl rfl) ?_
  refine g_call [11] rfl rfl rfl rfl rfl rfl (fun w' hm => Copy_b w' c (ha.m hm)) (fun x11 _ => ?_)
  refine g_lo [12] rfl rfl rfl rfl (lo_buildSlice0 rfl) (fun b12 hb12 => ?_)
  refine g_own 12 (L := []) (J := []) (c := 0) (s := 1) rfl (by simp) (by omega) ?_
  refine g_pu rfl rfl rfl (pu_move rfl rfl) ?_
  refine g_append1 12 (ss.map Value.string) rfl rfl rfl rfl rfl rfl rfl rfl rfl (fun w' hm => hq.mem0 hm) hml (oneCell_strs ss) (by omega) (by omega) (fun p1 c1 => ?_)
  rw [Nat.zero_add, List.nil_append]
  refine g_call [15] rfl rfl rfl rfl rfl rfl (fun w' hm => Derive_b w' _ _ (By.ow 11 rfl hm hsl (by omega)) (Own.rd (hm.holds 12 _ rfl)) hm' hnb hmb hlb) (fun x15 _ => ?_)
  refine g_pu rfl rfl rfl (pu_assign rfl rfl) ?_
  refine g_nil ?_
  (repeat refine g_seq ?_)
  refine g_region ?_
  refine g_pu rfl rfl rfl (pu_move rfl rfl) ?_
  first | refine g_pu rfl rfl rfl (pu_len rfl rfl) ?_ | refine g_pu rfl rfl rfl (pu_lenS rfl rfl) ?_
  refine g_pu rfl rfl rfl (pu_move rfl rfl) ?_
  first | refine g_pu rfl rfl rfl (pu_len rfl rfl) ?_ | refine g_pu rfl rfl rfl (pu_lenS rfl rfl) ?_
  refine g_pu rfl rfl rfl (pu_neq_f rfl rfl rfl (by omega)) ?_
  refine g_nil ?_
  (repeat refine g_seq ?_)
  refine g_cond_f rfl (g_skip ?_)
  (repeat refine g_seq ?_)
  refine g_region ?_
  refine g_pu rfl rfl rfl (pu_move rfl rfl) ?_
  first | refine g_pu rfl rfl rfl (pu_len rfl rfl) ?_ | refine g_pu rfl rfl rfl (pu_lenS rfl rfl) ?_
  refine g_pu rfl rfl rfl (pu_move rfl rfl) ?_
  refine g_nil ?_
  refine g_block (g_loop (σ := Nat) (fun (i : Nat) => [(0, .slice p n c), (1, .slice q m d), (5, x15.sl m), (21, .slice q m d), (22, .int .i64 (m : Int)), (23, .int .i64 (i : Int))]) (fun i => [(15, x15.ck 34 32 (bs (drvs secret ss)))]) (fun i => i ≤ m) (fun i => m - i) 0 ⟨rfl, rfl, rfl, rfl, rfl, rfl, trivial⟩ ⟨rfl, trivial⟩ (by omega) ?_)
  intro i hi
  by_cases hlt : i < m
  · (repeat refine g_seq ?_)
    refine g_region ?_
    first | refine g_pu rfl rfl rfl (pu_lss_t rfl rfl rfl (by omega)) ?_ | refine g_pu rfl rfl rfl (pu_lss_f rfl rfl rfl (by omega)) ?_ | refine g_pu rfl rfl rfl (pu_lss rfl rfl rfl) ?_
    refine g_nil ?_
    (repeat refine g_seq ?_)
    refine g_cond_t rfl (g_skip ?_)
    have h1 : ss[i]? = some ss[i] := List.getElem?_eq_getElem (by omega)
    have hsz := hlb ss[i] (List.getElem_mem (by omega))
    generalize ss[i] = s at h1 hsz
    have h2 : (ss.map Value.string)[i]? = some (.string s) := by rw [List.getElem?_map, h1]; rfl
    have hg := drvs_get (secret := secret) h1
    have hdv := drvL_length secret (bytesOf s)
    (repeat refine g_seq ?_); refine g_block ?_
    (repeat refine g_seq ?_)
    refine g_region ?_
    refine g_pu rfl rfl rfl (pu_move rfl rfl) ?_
    refine g_pu rfl rfl rfl (pu_atM1 i (fun w' hm => hq.mem0 hm) rfl rfl rfl rfl hlt (by omega)) ?_
    refine g_pu rfl rfl rfl (pu_rdM (fun w' hm => hq.mem0 hm) rfl rfl h2) ?_
    refine g_pu rfl rfl rfl (pu_assign rfl rfl) ?_
    refine g_pu rfl rfl rfl (pu_assign rfl rfl) ?_
    refine g_nil ?_
    (repeat refine g_seq ?_)
    refine g_any (8, []) ?_
    refine a_pu 0 rfl rfl rfl rfl (pu_move rfl rfl) rfl rfl (by kernel_rfl) ?_
    refine a_pu 1 rfl rfl rfl rfl (pu_move rfl rfl) rfl rfl (by kernel_rfl) ?_
    refine a_pu 2 rfl rfl rfl rfl (pu_atM i (s := 32) (L := bs (drvs secret ss)) (fun w' hm => Ow.rd (t := 15) rfl hm) rfl rfl rfl rfl hlt (by rw [bs_length]; omega)) rfl rfl (by kernel_rfl) ?_
    refine a_pu 3 rfl rfl rfl rfl (pu_rdMA (L := bs (drvs secret ss)) (j := i * 32) (s := 32) (fun w' hm => Ow.rd (t := 15) rfl hm) rfl rfl (by omega) (by rw [bs_length]; omega)) rfl rfl (by kernel_rfl) ?_
    rw [bs_drop, bs_take, hg]
    refine a_pu 4 rfl rfl rfl rfl (pu_move rfl rfl) rfl rfl (by kernel_rfl) ?_
    refine a_pu 5 rfl rfl rfl rfl (pu_move rfl rfl) rfl rfl (by kernel_rfl) ?_
    refine a_do 6 34 [] (does_call rfl rfl rfl rfl rfl (fun w' hm => RDerive_b w' c s (ha.m hm) hnb hsz)) rfl rfl (by kernel_rfl) rfl rfl (by kernel_rfl) (by kernel_rfl) (by kernel_rfl) rfl (fun p hp => by cases hp) ?_; rintro v_ cs_ ⟨_, _, rfl, rfl⟩
    refine a_pu 7 rfl rfl rfl rfl (pu_neqA_f rfl rfl rfl rfl (all_bs _) (by rw [bs_length, hdv])) rfl rfl (by kernel_rfl) ?_
    refine a_done (by kernel_rfl) ?_
    (repeat refine g_seq ?_)
    refine g_cond_f rfl (g_skip ?_)
    refine g_blk ?_
    (repeat refine g_seq ?_)
    refine g_region ?_
    refine g_pu rfl rfl rfl (pu_addI rfl rfl rfl (by omega)) ?_
    refine g_pu rfl rfl rfl (pu_move rfl rfl) ?_
    refine g_nil ?_
    exact g_round (i + 1) (by omega) (by omega) ⟨rfl, rfl, rfl, rfl, rfl, rfl, trivial⟩ ⟨rfl, trivial⟩
  · (repeat refine g_seq ?_)
    refine g_region ?_
    first | refine g_pu rfl rfl rfl (pu_lss_t rfl rfl rfl (by omega)) ?_ | refine g_pu rfl rfl rfl (pu_lss_f rfl rfl rfl (by omega)) ?_ | refine g_pu rfl rfl rfl (pu_lss rfl rfl rfl) ?_
    refine g_nil ?_
    (repeat refine g_seq ?_)
    refine g_cond_f rfl (g_exit rfl ?_)
    (repeat refine g_seq ?_)
    refine g_region ?_
    refine g_pu rfl rfl rfl (pu_assign rfl rfl) ?_
    refine g_nil ?_
    exact g_ret1 rfl rfl (fun w' hm => ⟨(), trivial, rfl, hm.grows [] trivial rfl⟩)
end Go.Sx
