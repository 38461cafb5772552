/-
  CodecCuts: bytes are cut into just the pieces that are asked for. Condition: at most 2^47 / 24 sizes.
-/
import Derived.Test.YtmhleegjffdnkaaCodecPuts
import Derived.Test.YtmhleegjffdnkaaC12
set_option linter.unusedVariables false
set_option linter.unusedSimpArgs false
namespace Go.Sx
open Go Go.Proofs

theorem oneCell_is (ns : List Int) : ∀ u ∈ is ns, u.oneCell' = true := fun u hu => by
  obtain ⟨z, _, rfl⟩ := List.mem_map.1 hu; rfl
theorem flat_cutV (l : List (BitVec 8)) (ns : List Int) : (cutV l ns).flatten = if cutE l ns = 0 then l.take (cutS ns) else [] := by
  unfold cutV
  split
  · rw [flat_cutP]
  · rfl
theorem cutE_zero {l : List (BitVec 8)} {ns : List Int} (h : cutE l ns = 0) : cutS ns = l.length := by
  unfold cutE at h
  split at h
  · omega
  · split at h
    · assumption
    · omega

theorem CodecCuts_spec (w : World) {p q : Option Addr} {n m : Nat} (c d : Nat) {l : List (BitVec 8)} (ns : List Int) (ha : By w p n l) (hc : n ≤ c) (hq : RdV w q (is ns)) (hm' : ns.length = m) (hbm : m * 24 ≤ 140737488355328) :
    Spec Try.prog 10 #[.slice p n c, .slice q m d] w (σ := Unit) (fun _ => True) (fun _ => .bool true) Nob (fun _ => []) := by
  refine enter Try.func10 rfl rfl (Mem.start w) ?_
  have hn := ha.len
  have hbig := ha.big
  have hisl := is_length ns
  have hvl := cutV_length l ns
  (repeat refine g_seq ?_)
  refine g_region ?_
  refine g_pu rfl rfl rfl (pu_assign rfl rfl) ?_
  refine g_nil ?_
  (repeat refine g_seq ?_)
  refine g_region ?_
  refine g_lo [10] rfl rfl rfl rfl (lo_buildSlice rfl rfl (by decide) (by decide) rfl rfl) (fun b10 hb10 => ?_)
  refine g_lo [11] rfl rfl rfl rfl (lo_buildSlice rfl rfl (by decide) (by decide) rfl rfl) (fun b11 hb11 => ?_)
  refine g_call [12, 112] rfl rfl rfl rfl rfl rfl (fun w' hm => Cut_b w' _ _ (l := [1#8, 2#8, 3#8]) [1, 0, 2] (By.full 10 rfl hm rfl (by decide)) (by decide) (hm.rowA 11 rfl) rfl (by decide)) (fun x12 h12 => ?_)
  rw [show cutV [1#8, 2#8, 3#8] [1, 0, 2] = [[1#8], [], [2#8, 3#8]] from by decide, show cutE [1#8, 2#8, 3#8] [1, 0, 2] = 0 from by decide]
  refine g_pu rfl rfl rfl (pu_move rfl rfl) ?_
  refine g_pu rfl rfl rfl (pu_extract rfl rfl rfl) ?_
  refine g_pu rfl rfl rfl (pu_extract rfl rfl rfl) ?_
  refine g_pu rfl rfl rfl (pu_assign rfl rfl) ?_
  refine g_pu rfl rfl rfl (pu_assign rfl rfl) ?_
  refine g_nil ?_
  (repeat refine g_seq ?_)
  refine g_region ?_
  refine g_pu rfl rfl rfl (pu_move rfl rfl) ?_
  first | refine g_pu rfl rfl rfl (pu_neq_t rfl rfl rfl (by omega)) ?_ | refine g_pu rfl rfl rfl (pu_neq_f rfl rfl rfl (by omega)) ?_ | refine g_pu rfl rfl rfl (pu_neq rfl rfl rfl) ?_
  refine g_pu rfl rfl rfl (pu_move rfl rfl) ?_
  first | refine g_pass rfl rfl rfl ?_ | refine g_pu rfl rfl rfl (pu_move rfl rfl) ?_
  first | (refine g_pass rfl rfl rfl ?_) | (refine g_lo [19] rfl rfl rfl rfl (lo_buildSlice rfl rfl (by decide) (by decide) rfl rfl) (fun b19 hb19 => ?_))
  first | (refine g_pass rfl rfl rfl ?_) | (refine g_lo [20] rfl rfl rfl rfl (lo_buildSlice0 rfl) (fun b20 hb20 => ?_))
  first | (refine g_pass rfl rfl rfl ?_) | (refine g_lo [21] rfl rfl rfl rfl (lo_buildSlice rfl rfl (by decide) (by decide) rfl rfl) (fun b21 hb21 => ?_))
  first | (refine g_pass rfl rfl rfl ?_) | (refine g_lo [22] rfl rfl rfl rfl (lo_buildSlice rfl rfl (by decide) (by decide) rfl rfl) (fun b22 hb22 => ?_))
  refine g_call [] rfl rfl rfl rfl rfl rfl (fun w' hm => Equals_b w' _ _ (ls := [[1#8], [], [2#8, 3#8]]) (L' := [.slice (some ⟨b19, 0, none⟩) 1 1, .slice (some ⟨b20, 0, none⟩) 0 0, .slice (some ⟨b21, 0, none⟩) 2 2]) (ls' := [[1#8], [], [2#8, 3#8]]) (Owl.by 12 112 rfl rfl hm h12.1 (by decide)) ⟨hm.rowA 22 rfl, rfl, All2.cons (IsB.full 19 rfl hm rfl (by omega)) (All2.cons (IsB.full 20 rfl hm rfl (by omega)) (All2.cons (IsB.full 21 rfl hm rfl (by omega)) All2.nil)), by omega⟩) (fun _ _ => ?_)
  first | refine g_pass rfl rfl rfl ?_ | refine g_pu rfl rfl rfl (pu_not rfl rfl) ?_
  first | refine g_pu rfl rfl rfl (pu_pick_t rfl rfl rfl) ?_ | refine g_pu rfl rfl rfl (pu_pick_f rfl rfl rfl) ?_
  refine g_pu rfl rfl rfl (pu_move rfl rfl) ?_
  refine g_call [] rfl rfl rfl rfl rfl rfl (fun w' hm => awake_b w') (fun _ _ => ?_)
  first | refine g_pass rfl rfl rfl ?_ | refine g_pu rfl rfl rfl (pu_not rfl rfl) ?_
  first | refine g_pu rfl rfl rfl (pu_pick_t rfl rfl rfl) ?_ | refine g_pu rfl rfl rfl (pu_pick_f rfl rfl rfl) ?_
  refine g_nil ?_
  (repeat refine g_seq ?_)
  refine g_cond_f rfl (g_skip ?_)
  (repeat refine g_seq ?_)
  refine g_region ?_
  refine g_pu rfl rfl rfl (pu_move rfl rfl) ?_
  refine g_call [32] rfl rfl rfl rfl rfl rfl (fun w' hm => Copy_b w' c (ha.m hm)) (fun x32 _ => ?_)
  refine g_lo [33] rfl rfl rfl rfl (lo_buildSlice0 rfl) (fun b33 hb33 => ?_)
  refine g_own 33 (L := []) (J := []) (c := 0) (s := 1) rfl (by simp) (by omega) ?_
  refine g_pu rfl rfl rfl (pu_move rfl rfl) ?_
  refine g_append1 33 (is ns) rfl rfl rfl rfl rfl rfl rfl rfl rfl (fun w' hm => hq.mem0 hm) (by omega) (oneCell_is ns) (by omega) (by omega) (fun p35 c35 => ?_)
  refine g_call [36, 136] rfl rfl rfl rfl rfl rfl (fun w' hm => Cut_b w' _ _ ns (By.ow 32 rfl hm ha.len ha.big) (by have := Own.le (hm.holds 32 _ rfl); rw [bs_length] at this; omega) (Own.rd (hm.holds 33 _ rfl)) (by omega) (by omega)) (fun x36 h36 => ?_)
  refine g_pu rfl rfl rfl (pu_move rfl rfl) ?_
  refine g_pu rfl rfl rfl (pu_extract rfl rfl rfl) ?_
  refine g_pu rfl rfl rfl (pu_extract rfl rfl rfl) ?_
  refine g_pu rfl rfl rfl (pu_assign rfl rfl) ?_
  refine g_pu rfl rfl rfl (pu_assign rfl rfl) ?_
  refine g_nil ?_
  (repeat refine g_seq ?_)
  refine g_region ?_
  refine g_pu rfl rfl rfl (pu_move rfl rfl) ?_
  refine g_pu rfl rfl rfl (pu_move rfl rfl) ?_
  refine g_call [42, 142] rfl rfl rfl rfl rfl rfl (fun w' hm => RCut_b w' c d ns (ha.m hm) hc (hq.mem0 hm) hm' hbm) (fun x42 h42 => ?_)
  refine g_pu rfl rfl rfl (pu_move rfl rfl) ?_
  refine g_pu rfl rfl rfl (pu_extract rfl rfl rfl) ?_
  refine g_pu rfl rfl rfl (pu_extract rfl rfl rfl) ?_
  refine g_pu rfl rfl rfl (pu_assign rfl rfl) ?_
  refine g_pu rfl rfl rfl (pu_assign rfl rfl) ?_
  refine g_nil ?_
  (repeat refine g_seq ?_)
  refine g_region ?_
  refine g_pu rfl rfl rfl (pu_move rfl rfl) ?_
  refine g_pu rfl rfl rfl (pu_move rfl rfl) ?_
  first | refine g_pu rfl rfl rfl (pu_neq_t rfl rfl rfl (by omega)) ?_ | refine g_pu rfl rfl rfl (pu_neq_f rfl rfl rfl (by omega)) ?_ | refine g_pu rfl rfl rfl (pu_neq rfl rfl rfl) ?_
  refine g_pu rfl rfl rfl (pu_move rfl rfl) ?_
  first | refine g_pass rfl rfl rfl ?_ | refine g_pu rfl rfl rfl (pu_move rfl rfl) ?_
  first | refine g_pass rfl rfl rfl ?_ | refine g_pu rfl rfl rfl (pu_move rfl rfl) ?_
  refine g_call [] rfl rfl rfl rfl rfl rfl (fun w' hm => Equals_b w' _ _ (Owl.by 36 136 rfl rfl hm h36.1 (by omega)) (Owl.by 42 142 rfl rfl hm h42.1 (by omega))) (fun _ _ => ?_)
  refine g_as (t := 51) (u := .bool true) rfl (by simp) rfl ?_
  first | refine g_pass rfl rfl rfl ?_ | refine g_pu rfl rfl rfl (pu_not rfl rfl) ?_
  first | refine g_pu rfl rfl rfl (pu_pick_t rfl rfl rfl) ?_ | refine g_pu rfl rfl rfl (pu_pick_f rfl rfl rfl) ?_
  refine g_nil ?_
  (repeat refine g_seq ?_)
  refine g_cond_f rfl (g_skip ?_)
  by_cases hE : cutE l ns = 0
  · have hfl : (cutV l ns).flatten = l := by
      rw [flat_cutV, if_pos hE, cutE_zero hE, List.take_length]
    rw [hE]
    (repeat refine g_seq ?_)
    refine g_region ?_
    refine g_pu rfl rfl rfl (pu_move rfl rfl) ?_
    first | refine g_pu rfl rfl rfl (pu_neq_t rfl rfl rfl (by omega)) ?_ | refine g_pu rfl rfl rfl (pu_neq_f rfl rfl rfl (by omega)) ?_ | refine g_pu rfl rfl rfl (pu_neq rfl rfl rfl) ?_
    refine g_pu rfl rfl rfl (pu_move rfl rfl) ?_
    first | refine g_pass rfl rfl rfl ?_ | refine g_pu rfl rfl rfl (pu_move rfl rfl) ?_
    refine g_call [58] rfl rfl rfl rfl rfl rfl (fun w' hm => Join_b w' _ (Owl.by 36 136 rfl rfl hm h36.1 (by omega)) (by rw [← h36.1]; exact Owl.le 36 rfl hm) (by rw [hfl]; omega)) (fun x58 _ => ?_)
    rw [hfl]
    first | refine g_pass rfl rfl rfl ?_ | refine g_pu rfl rfl rfl (pu_move rfl rfl) ?_
    refine g_call [] rfl rfl rfl rfl rfl rfl (fun w' hm => Equal_b w' _ _ (By.ow 58 rfl hm rfl (by omega)) (ha.m hm)) (fun _ _ => ?_)
    first | refine g_pu rfl rfl rfl (pu_pick_t rfl rfl rfl) ?_ | refine g_pu rfl rfl rfl (pu_pick_f rfl rfl rfl) ?_
    refine g_pu rfl rfl rfl (pu_assign rfl rfl) ?_
    refine g_nil ?_
    exact g_ret1 rfl rfl (fun w' hm => ⟨(), trivial, by simp, hm.grows [] trivial rfl⟩)
  · (repeat refine g_seq ?_)
    refine g_region ?_
    refine g_pu rfl rfl rfl (pu_move rfl rfl) ?_
    refine g_pu rfl rfl rfl (pu_neq_t rfl rfl rfl hE) ?_
    refine g_pu rfl rfl rfl (pu_move rfl rfl) ?_
    first | refine g_pass rfl rfl rfl ?_ | refine g_pu rfl rfl rfl (pu_move rfl rfl) ?_
    refine g_pass rfl rfl rfl ?_
    first | refine g_pass rfl rfl rfl ?_ | refine g_pu rfl rfl rfl (pu_move rfl rfl) ?_
    refine g_pass rfl rfl rfl ?_
    first | refine g_pu rfl rfl rfl (pu_pick_t rfl rfl rfl) ?_ | refine g_pu rfl rfl rfl (pu_pick_f rfl rfl rfl) ?_
    refine g_pu rfl rfl rfl (pu_assign rfl rfl) ?_
    refine g_nil ?_
    exact g_ret1 rfl rfl (fun w' hm => ⟨(), trivial, by simp, hm.grows [] trivial rfl⟩)
end Go.Sx
