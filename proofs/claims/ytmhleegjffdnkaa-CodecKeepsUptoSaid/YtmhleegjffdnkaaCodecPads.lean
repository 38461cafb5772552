/-
  Proves CodecPads: noughts are put behind bytes up to just the length that is asked for. No condition.
-/
import Derived.Test.YtmhleegjffdnkaaC1
set_option linter.unusedVariables false
set_option linter.unusedSimpArgs false
namespace Go.Sx
open Go Go.Proofs

theorem padL_le (l : List (BitVec 8)) (z : Int) : (padL l z).length ≤ 16777216 := by
  unfold padL
  split
  · rename_i h
    unfold padE at h
    split at h
    · cases h
    · split at h
      · cases h
      · simp; omega
  · simp

theorem told_spec (w : World) (p q : Option Addr) (n c n' c' : Nat) (a b : Int) (l l' : List (BitVec 8)) (hr : RdV w p (bs l)) (hn : l.length = n) (hr' : RdV w q (bs l')) (hn' : l'.length = n') (hbig : n ≤ 140737488355328) (hbig' : n' ≤ 140737488355328) :
    Spec Try.prog 13 #[.slice p n c, .int .i64 a, .slice q n' c', .int .i64 b] w (σ := Unit) (fun _ => True) (fun _ => .bool (decide (l = l' ∧ a = b))) Nob (fun _ => []) := by
  refine enter Try.func13 rfl rfl (Mem.start w) ?_
  (repeat refine g_seq ?_)
  refine g_region ?_
  refine g_pu rfl rfl rfl (pu_assign rfl rfl) ?_
  refine g_nil ?_
  by_cases heq : l = l'
  · (repeat refine g_seq ?_)
    refine g_region ?_
    refine g_pu rfl rfl rfl (pu_move rfl rfl) ?_
    refine g_pu rfl rfl rfl (pu_move rfl rfl) ?_
    refine g_call [] rfl rfl rfl rfl rfl rfl (fun w' hm => Equal_spec w' p q n c n' c' l l' (hr.mem0 hm) hn (hr'.mem0 hm) hn' hbig hbig') (fun _ _ => ?_)
    refine g_as (t := 11) (u := .bool true) rfl (by rw [decide_eq_true heq]) rfl ?_
    refine g_pu rfl rfl rfl (pu_move rfl rfl) ?_
    first | refine g_pass rfl rfl rfl ?_ | refine g_pu rfl rfl rfl (pu_move rfl rfl) ?_
    first | refine g_pass rfl rfl rfl ?_ | refine g_pu rfl rfl rfl (pu_move rfl rfl) ?_
    first | refine g_pass rfl rfl rfl ?_ | refine g_pu rfl rfl rfl (pu_eql_t rfl rfl rfl (by omega)) ?_ | refine g_pu rfl rfl rfl (pu_eql_f rfl rfl rfl (by omega)) ?_ | refine g_pu rfl rfl rfl (pu_eql rfl rfl rfl) ?_
    first | refine g_pu rfl rfl rfl (pu_pick_t rfl rfl rfl) ?_ | refine g_pu rfl rfl rfl (pu_pick_f rfl rfl rfl) ?_
    refine g_pu rfl rfl rfl (pu_assign rfl rfl) ?_
    refine g_nil ?_
    exact g_ret1 rfl rfl (fun w' hm => ⟨(), trivial, by simp [heq], hm.grows [] trivial rfl⟩)
  · (repeat refine g_seq ?_)
    refine g_region ?_
    refine g_pu rfl rfl rfl (pu_move rfl rfl) ?_
    refine g_pu rfl rfl rfl (pu_move rfl rfl) ?_
    refine g_call [] rfl rfl rfl rfl rfl rfl (fun w' hm => Equal_spec w' p q n c n' c' l l' (hr.mem0 hm) hn (hr'.mem0 hm) hn' hbig hbig') (fun _ _ => ?_)
    refine g_as (t := 11) (u := .bool false) rfl (by rw [decide_eq_false heq]) rfl ?_
    refine g_pu rfl rfl rfl (pu_move rfl rfl) ?_
    first | refine g_pass rfl rfl rfl ?_ | refine g_pu rfl rfl rfl (pu_move rfl rfl) ?_
    first | refine g_pass rfl rfl rfl ?_ | refine g_pu rfl rfl rfl (pu_move rfl rfl) ?_
    first | refine g_pass rfl rfl rfl ?_ | refine g_pu rfl rfl rfl (pu_eql_t rfl rfl rfl (by omega)) ?_ | refine g_pu rfl rfl rfl (pu_eql_f rfl rfl rfl (by omega)) ?_ | refine g_pu rfl rfl rfl (pu_eql rfl rfl rfl) ?_
    first | refine g_pu rfl rfl rfl (pu_pick_t rfl rfl rfl) ?_ | refine g_pu rfl rfl rfl (pu_pick_f rfl rfl rfl) ?_
    refine g_pu rfl rfl rfl (pu_assign rfl rfl) ?_
    refine g_nil ?_
    exact g_ret1 rfl rfl (fun w' hm => ⟨(), trivial, by simp [heq], hm.grows [] trivial rfl⟩)

theorem CodecPads_spec (w : World) (p : Option Addr) (n c : Nat) (l : List (BitVec 8)) (z : Int) (hr : RdV w p (bs l)) (hn : l.length = n) (hbig : n ≤ 140737488355328) :
    Spec Try.prog 3 #[.slice p n c, .int .i64 z] w (σ := Unit) (fun _ => True) (fun _ => .bool true) Nob (fun _ => []) := by
  refine enter Try.func3 rfl rfl (Mem.start w) ?_
  (repeat refine g_seq ?_)
  refine g_region ?_
  refine g_pu rfl rfl rfl (pu_assign rfl rfl) ?_
  refine g_nil ?_
  (repeat refine g_seq ?_)
  refine g_region ?_
  refine g_lo [10] rfl rfl rfl rfl (lo_buildSlice rfl rfl (by decide) (by decide) rfl rfl) (fun b10 hb10 => ?_)
  refine g_call [11] rfl rfl rfl rfl rfl rfl (fun w' hm => Pad_spec w' _ 1 1 [7#8] 3 (hm.row 10 (J := []) rfl) rfl (by omega)) (fun x11 _ => ?_)
  refine g_pu rfl rfl rfl (pu_move rfl rfl) ?_
  refine g_pu rfl rfl rfl (pu_extract rfl rfl rfl) ?_
  refine g_pu rfl rfl rfl (pu_extract rfl rfl rfl) ?_
  refine g_pu rfl rfl rfl (pu_assign rfl rfl) ?_
  refine g_pu rfl rfl rfl (pu_assign rfl rfl) ?_
  refine g_nil ?_
  (repeat refine g_seq ?_)
  refine g_region ?_
  refine g_pu rfl rfl rfl (pu_move rfl rfl) ?_
  refine g_pu rfl rfl rfl (pu_move rfl rfl) ?_
  refine g_lo [16] rfl rfl rfl rfl (lo_buildSlice rfl rfl (by decide) (by decide) rfl rfl) (fun b16 hb16 => ?_)
  refine g_call [] rfl rfl rfl rfl rfl rfl (fun w' hm => told_spec w' _ _ _ _ 3 3 _ 0 (padL [7#8] 3) [7#8, 0#8, 0#8] (Ow.rd (t := 11) rfl hm) rfl (hm.row 16 (J := []) rfl) rfl (Nat.le_trans (padL_le _ _) (by omega)) (by omega)) (fun _ _ => ?_)
  refine g_pu rfl rfl rfl (pu_not rfl rfl) ?_
  refine g_nil ?_
  refine g_ifn rfl (fun h => absurd (by decide) h) (fun _ => g_skip ?_)
  refine g_seq ?_
  refine g_join (σ := Int) (fun z' => [(0, .slice p n c), (1, .int .i64 z')]) (fun _ => []) (fun _ => True) ?_ (fun z' _ => ?_)
  · by_cases h1 : z > 100000
    · by_cases h2 : z ≤ 16777216
      · (repeat refine g_seq ?_)
        refine g_region ?_
        refine g_pu rfl rfl rfl (pu_move rfl rfl) ?_
        first | refine g_pu rfl rfl rfl (pu_gtr_t rfl rfl rfl (by omega)) ?_ | refine g_pu rfl rfl rfl (pu_gtr_f rfl rfl rfl (by omega)) ?_ | refine g_pu rfl rfl rfl (pu_gtr rfl rfl rfl) ?_
        refine g_pu rfl rfl rfl (pu_move rfl rfl) ?_
        first | refine g_pass rfl rfl rfl ?_ | refine g_pu rfl rfl rfl (pu_move rfl rfl) ?_
        first | refine g_pass rfl rfl rfl ?_ | refine g_pu rfl rfl rfl (pu_leq_t rfl rfl rfl (by omega)) ?_ | refine g_pu rfl rfl rfl (pu_leq_f rfl rfl rfl (by omega)) ?_ | refine g_pu rfl rfl rfl (pu_leq rfl rfl rfl) ?_
        first | refine g_pu rfl rfl rfl (pu_pick_t rfl rfl rfl) ?_ | refine g_pu rfl rfl rfl (pu_pick_f rfl rfl rfl) ?_
        refine g_nil ?_
        refine g_cond_t rfl ?_
        (repeat refine g_seq ?_)
        refine g_region ?_
        refine g_pu rfl rfl rfl (pu_move rfl rfl) ?_
        refine g_pu rfl rfl rfl (pu_remI rfl rfl rfl (by omega)) ?_
        refine g_pu rfl rfl rfl (pu_assign rfl rfl) ?_
        refine g_nil ?_
        exact g_meet (z % 100000) trivial ⟨rfl, rfl, trivial⟩ trivial
      · (repeat refine g_seq ?_)
        refine g_region ?_
        refine g_pu rfl rfl rfl (pu_move rfl rfl) ?_
        first | refine g_pu rfl rfl rfl (pu_gtr_t rfl rfl rfl (by omega)) ?_ | refine g_pu rfl rfl rfl (pu_gtr_f rfl rfl rfl (by omega)) ?_ | refine g_pu rfl rfl rfl (pu_gtr rfl rfl rfl) ?_
        refine g_pu rfl rfl rfl (pu_move rfl rfl) ?_
        first | refine g_pass rfl rfl rfl ?_ | refine g_pu rfl rfl rfl (pu_move rfl rfl) ?_
        first | refine g_pass rfl rfl rfl ?_ | refine g_pu rfl rfl rfl (pu_leq_t rfl rfl rfl (by omega)) ?_ | refine g_pu rfl rfl rfl (pu_leq_f rfl rfl rfl (by omega)) ?_ | refine g_pu rfl rfl rfl (pu_leq rfl rfl rfl) ?_
        first | refine g_pu rfl rfl rfl (pu_pick_t rfl rfl rfl) ?_ | refine g_pu rfl rfl rfl (pu_pick_f rfl rfl rfl) ?_
        refine g_nil ?_
        refine g_cond_f rfl (g_skip ?_)
        exact g_meet z trivial ⟨rfl, rfl, trivial⟩ trivial
    · (repeat refine g_seq ?_)
      refine g_region ?_
      refine g_pu rfl rfl rfl (pu_move rfl rfl) ?_
      first | refine g_pu rfl rfl rfl (pu_gtr_t rfl rfl rfl (by omega)) ?_ | refine g_pu rfl rfl rfl (pu_gtr_f rfl rfl rfl (by omega)) ?_ | refine g_pu rfl rfl rfl (pu_gtr rfl rfl rfl) ?_
      refine g_pu rfl rfl rfl (pu_move rfl rfl) ?_
      first | refine g_pass rfl rfl rfl ?_ | refine g_pu rfl rfl rfl (pu_move rfl rfl) ?_
      first | refine g_pass rfl rfl rfl ?_ | refine g_pu rfl rfl rfl (pu_leq_t rfl rfl rfl (by omega)) ?_ | refine g_pu rfl rfl rfl (pu_leq_f rfl rfl rfl (by omega)) ?_ | refine g_pu rfl rfl rfl (pu_leq rfl rfl rfl) ?_
      first | refine g_pu rfl rfl rfl (pu_pick_t rfl rfl rfl) ?_ | refine g_pu rfl rfl rfl (pu_pick_f rfl rfl rfl) ?_
      refine g_nil ?_
      refine g_cond_f rfl (g_skip ?_)
      exact g_meet z trivial ⟨rfl, rfl, trivial⟩ trivial
  · (repeat refine g_seq ?_)
    refine g_region ?_
    refine g_pu rfl rfl rfl (pu_move rfl rfl) ?_
    refine g_call [29] rfl rfl rfl rfl rfl rfl (fun w' hm => Copy_spec w' p n c l (hr.mem0 hm) hn hbig) (fun x29 _ => ?_)
    refine g_pu rfl rfl rfl (pu_move rfl rfl) ?_
    refine g_call [31] rfl rfl rfl rfl rfl rfl (fun w' hm => Pad_spec w' _ n _ l z' (Ow.rd (t := 29) rfl hm) hn hbig) (fun x31 _ => ?_)
    refine g_pu rfl rfl rfl (pu_move rfl rfl) ?_
    refine g_pu rfl rfl rfl (pu_extract rfl rfl rfl) ?_
    refine g_pu rfl rfl rfl (pu_extract rfl rfl rfl) ?_
    refine g_pu rfl rfl rfl (pu_assign rfl rfl) ?_
    refine g_pu rfl rfl rfl (pu_assign rfl rfl) ?_
    refine g_nil ?_
    (repeat refine g_seq ?_)
    refine g_region ?_
    refine g_pu rfl rfl rfl (pu_move rfl rfl) ?_
    refine g_pu rfl rfl rfl (pu_move rfl rfl) ?_
    refine g_call [37] rfl rfl rfl rfl rfl rfl (fun w' hm => RPad_spec w' _ n _ l z' (hr.mem0 hm) hn hbig) (fun x37 _ => ?_)
    refine g_pu rfl rfl rfl (pu_move rfl rfl) ?_
    refine g_pu rfl rfl rfl (pu_extract rfl rfl rfl) ?_
    refine g_pu rfl rfl rfl (pu_extract rfl rfl rfl) ?_
    refine g_pu rfl rfl rfl (pu_assign rfl rfl) ?_
    refine g_pu rfl rfl rfl (pu_assign rfl rfl) ?_
    refine g_nil ?_
    (repeat refine g_seq ?_)
    refine g_region ?_
    refine g_pu rfl rfl rfl (pu_move rfl rfl) ?_
    refine g_pu rfl rfl rfl (pu_move rfl rfl) ?_
    refine g_pu rfl rfl rfl (pu_move rfl rfl) ?_
    refine g_pu rfl rfl rfl (pu_move rfl rfl) ?_
    refine g_call [] rfl rfl rfl rfl rfl rfl (fun w' hm => told_spec w' _ _ _ _ _ _ _ _ (padL l z') (padL l z') (Ow.rd (t := 31) rfl hm) rfl (Ow.rd (t := 37) rfl hm) rfl (Nat.le_trans (padL_le _ _) (by omega)) (Nat.le_trans (padL_le _ _) (by omega))) (fun _ _ => ?_)
    refine g_pu rfl rfl rfl (pu_assign rfl rfl) ?_
    refine g_nil ?_
    exact g_ret1 rfl rfl (fun w' hm => ⟨(), trivial, by simp, hm.grows [] trivial rfl⟩)
end Go.Sx
