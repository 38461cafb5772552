/-
  CommandPaths: each hop of a route is told to hand on to the next one, and the last one what is at the end. Each mark has 16 bytes, each key 32.
-/
import Derived.Test.YtbnfocnhmpegjaaCM10
set_option linter.unusedVariables false
set_option linter.unusedSimpArgs false
namespace Go.Sx
open Go Go.Proofs

theorem pathL_16 {x : Cmd} (h16 : x.m.length = 16) {hs : List Hop} : ∀ y ∈ pathL x hs, y.m.length = 16 := by
  unfold pathL
  split
  · exact pcmds_16 h16
  · intro y hy; simp at hy
theorem pathL_len {x : Cmd} {hs : List Hop} : (pathL x hs).length ≤ hs.length := by
  unfold pathL
  split
  · rw [pcmds_length]; exact Nat.le_refl _
  · exact Nat.zero_le _

theorem CommandPaths_spec (w : World) (x : Cmd) (h16 : x.m.length = 16) {q : Option Addr} {m : Nat} (d : Nat) {hs : List Hop} (hq : RdV w q (hopsC hs)) (hn : hs.length = m) (ho : ∀ h ∈ hs, h.ok) (hmb : m ≤ 1353245080300) :
    Spec Try.prog 4 #[.agg (cmdC x).toArray, .slice q m d] w (σ := Unit) (fun _ => True) (fun _ => .bool true) Nob (fun _ => []) := by
  refine enter Try.func4 rfl rfl (Mem.start w) ?_
  have hcl := cmdC_length h16
  have hll := pathL_len (x := x) (hs := hs)
  (repeat refine g_seq ?_)
  refine g_region ?_
  refine g_lo [2] rfl rfl rfl rfl (lo_box rfl rfl) (fun b2 hb2 => ?_)
  refine g_pu rfl rfl rfl (pu_assign rfl rfl) ?_
  refine g_nil ?_
  (repeat refine g_seq ?_)
  refine g_region ?_
  refine g_call [] rfl rfl rfl rfl rfl rfl (fun w' hm => awake10_b w') (fun _ _ => ?_)
  refine g_pu rfl rfl rfl (pu_not rfl rfl) ?_
  refine g_nil ?_
  (repeat refine g_seq ?_)
  refine g_cond_f rfl (g_skip ?_)
  (repeat refine g_seq ?_)
  refine g_any (9, []) ?_
  refine a_pu 0 rfl rfl rfl rfl (pu_loadW 2 (L := cmdC x) rfl rfl rfl hcl) rfl rfl (by kernel_rfl) ?_
  refine a_pu 1 rfl rfl rfl rfl (pu_move rfl rfl) rfl rfl (by kernel_rfl) ?_
  refine a_do 2 14 [14] (does_call rfl rfl rfl rfl rfl (fun w' hm => Hops_b w' d (hq.mem0 hm) hn ho hmb)) rfl rfl (by kernel_rfl) rfl rfl (by kernel_rfl) (by kernel_rfl) (by kernel_rfl) rfl (fun p hp => by cases hp) ?_; rintro v_ cs_ ⟨x14, _, rfl, rfl⟩
  refine a_do 3 15 [15] (does_call rfl rfl rfl rfl rfl (fun w' hm => Path_b w' x h16 x14.c (Own.rd (hm.holds 14 _ rfl)) hn ho hmb)) rfl rfl (by kernel_rfl) rfl rfl (by kernel_rfl) (by kernel_rfl) (by kernel_rfl) rfl (fun p hp => by cases hp) ?_; rintro v_ cs_ ⟨x15, _, rfl, rfl⟩
  refine a_pu 4 rfl rfl rfl rfl (pu_move rfl rfl) rfl rfl (by kernel_rfl) ?_
  refine a_pu 5 rfl rfl rfl rfl (pu_extract rfl rfl rfl) rfl rfl (by kernel_rfl) ?_
  refine a_pu 6 rfl rfl rfl rfl (pu_extract rfl rfl rfl) rfl rfl (by kernel_rfl) ?_
  refine a_pu 7 rfl rfl rfl rfl (pu_assign rfl rfl) rfl rfl (by kernel_rfl) ?_
  refine a_pu 8 rfl rfl rfl rfl (pu_assign rfl rfl) rfl rfl (by kernel_rfl) ?_
  refine a_done (by kernel_rfl) ?_
  (repeat refine g_seq ?_)
  refine g_region ?_
  refine g_pu rfl rfl rfl (pu_loadW 2 (L := cmdC x) rfl rfl rfl hcl) ?_
  refine g_pu rfl rfl rfl (pu_move rfl rfl) ?_
  refine g_call [21] rfl rfl rfl rfl rfl rfl (fun w' hm => RPath_b w' x h16 d (hq.mem0 hm) hn ho hmb) (fun x21 _ => ?_)
  refine g_pu rfl rfl rfl (pu_move rfl rfl) ?_
  refine g_pu rfl rfl rfl (pu_extract rfl rfl rfl) ?_
  refine g_pu rfl rfl rfl (pu_extract rfl rfl rfl) ?_
  refine g_pu rfl rfl rfl (pu_assign rfl rfl) ?_
  refine g_pu rfl rfl rfl (pu_assign rfl rfl) ?_
  refine g_nil ?_
  (repeat refine g_seq ?_)
  refine g_region ?_
  refine g_pu rfl rfl rfl (pu_move rfl rfl) ?_
  refine g_pu rfl rfl rfl (pu_move rfl rfl) ?_
  refine g_pu rfl rfl rfl (pu_eql_t rfl rfl rfl rfl) ?_
  refine g_pu rfl rfl rfl (pu_move rfl rfl) ?_
  first | refine g_pass rfl rfl rfl ?_ | refine g_pu rfl rfl rfl (pu_move rfl rfl) ?_
  first | refine g_pass rfl rfl rfl ?_ | refine g_pu rfl rfl rfl (pu_move rfl rfl) ?_
  refine g_call [] rfl rfl rfl rfl rfl rfl (fun w' hm => CSame_b w' x15.c x21.c (cs := pathL x hs) (Own.rd (hm.holds 15 _ rfl)) (Own.rd (hm.holds 21 _ rfl)) rfl (pathL_16 h16) (by omega)) (fun _ _ => ?_)
  first | refine g_pu rfl rfl rfl (pu_pick_t rfl rfl rfl) ?_ | refine g_pu rfl rfl rfl (pu_pick_f rfl rfl rfl) ?_
  refine g_pu rfl rfl rfl (pu_assign rfl rfl) ?_
  refine g_nil ?_
  exact g_ret1 rfl rfl (fun w' hm => ⟨(), trivial, rfl, hm.grows [] trivial rfl⟩)
end Go.Sx
