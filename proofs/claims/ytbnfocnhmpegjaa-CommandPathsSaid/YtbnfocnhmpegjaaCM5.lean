/-
  The document's check and bytes of a command. The mark has 16 bytes.
-/
import Derived.Test.YtbnfocnhmpegjaaCM4
import Derived.Test.YtbnfocnhmpegjaaC9
set_option linter.unusedVariables false
set_option linter.unusedSimpArgs false
namespace Go.Sx
open Go Go.Proofs

theorem cmd_mark_get {x : Cmd} {i : Nat} {y : BitVec 8} (h : x.m[i]? = some y) : (cmdC x).toArray[0 + 4 + i]? = some (b8 y) := by
  rw [List.getElem?_toArray]
  unfold cmdC
  rw [List.getElem?_append_right (by simp)]
  rw [show 0 + 4 + i - [b8 x.k, b8 x.f, b32 x.d, b64 x.n].length = i by simp]
  exact bs_get h

theorem marked_b (w : World) (x : Cmd) (h16 : x.m.length = 16) : Spec Try.prog 27 #[.agg (cmdC x).toArray] w (σ := Unit) (fun _ => True) (fun _ => .bool (decide (x.m ≠ zero16))) Nob (fun _ => []) := by
  refine enter Try.func27 rfl rfl (Mem.start w) ?_
  (repeat refine g_seq ?_)
  refine g_region ?_
  refine g_lo [1] rfl rfl rfl rfl (lo_box rfl rfl) (fun b1 hb1 => ?_)
  refine g_pu rfl rfl rfl (pu_assign rfl rfl) ?_
  refine g_nil ?_
  (repeat refine g_seq ?_)
  refine g_region ?_
  refine g_pu rfl rfl rfl (pu_assign rfl rfl) ?_
  refine g_nil ?_
  refine g_block (g_loop (σ := Nat) (fun i => [(1, .pointer (some ⟨b1, 0, none⟩)), (3, .int .i64 (i : Int))]) (fun i => [(1, .pt b1 (.cells (cmdC x).toArray 28 (0, 0)))]) (fun i => i ≤ 16 ∧ x.m.take i = List.replicate i 0#8) (fun i => 16 - i) 0 ⟨rfl, rfl, trivial⟩ ⟨rfl, trivial⟩ ⟨by omega, rfl⟩ ?_)
  intro i ⟨hi, hz⟩
  by_cases hlt : i < 16
  · (repeat refine g_seq ?_)
    refine g_region ?_
    refine g_pu rfl rfl rfl (pu_move rfl rfl) ?_
    first | refine g_pu rfl rfl rfl (pu_lss_t rfl rfl rfl (by omega)) ?_ | refine g_pu rfl rfl rfl (pu_lss_f rfl rfl rfl (by omega)) ?_ | refine g_pu rfl rfl rfl (pu_lss rfl rfl rfl) ?_
    refine g_nil ?_
    (repeat refine g_seq ?_)
    refine g_cond_t rfl (g_skip ?_)
    have h1 : x.m[i]? = some x.m[i] := List.getElem?_eq_getElem (by omega)
    generalize x.m[i] = y at h1
    (repeat refine g_seq ?_); refine g_block ?_
    by_cases hy : y.toNat = 0
    · (repeat refine g_seq ?_)
      refine g_region ?_
      refine g_pu rfl rfl rfl (pu_move rfl rfl) ?_
      refine g_pu rfl rfl rfl (pu_fieldAddr (by decide) rfl rfl) ?_
      refine g_pu rfl rfl rfl (pu_atA1 i rfl rfl rfl rfl hlt) ?_
      refine g_pu rfl rfl rfl (pu_load 1 (v := b8 y) rfl rfl rfl (cmd_mark_get h1)) ?_
      refine g_pu rfl rfl rfl (pu_neq_f rfl rfl rfl (by omega)) ?_
      refine g_nil ?_
      (repeat refine g_seq ?_)
      refine g_cond_f rfl (g_skip ?_)
      refine g_blk ?_
      (repeat refine g_seq ?_)
      refine g_region ?_
      refine g_pu rfl rfl rfl (pu_move rfl rfl) ?_
      refine g_pu rfl rfl rfl (pu_addI rfl rfl rfl (by omega)) ?_
      refine g_pu rfl rfl rfl (pu_assign rfl rfl) ?_
      refine g_nil ?_
      have hy0 : y = 0#8 := BitVec.eq_of_toNat_eq hy
      exact g_round (i + 1) ⟨by omega, by rw [List.take_add_one, h1, hz, hy0, List.replicate_succ']; rfl⟩ (by omega) ⟨rfl, rfl, trivial⟩ ⟨rfl, trivial⟩
    · (repeat refine g_seq ?_)
      refine g_region ?_
      refine g_pu rfl rfl rfl (pu_move rfl rfl) ?_
      refine g_pu rfl rfl rfl (pu_fieldAddr (by decide) rfl rfl) ?_
      refine g_pu rfl rfl rfl (pu_atA1 i rfl rfl rfl rfl hlt) ?_
      refine g_pu rfl rfl rfl (pu_load 1 (v := b8 y) rfl rfl rfl (cmd_mark_get h1)) ?_
      refine g_pu rfl rfl rfl (pu_neq_t rfl rfl rfl (by omega)) ?_
      refine g_nil ?_
      (repeat refine g_seq ?_)
      refine g_cond_t rfl ?_
      (repeat refine g_seq ?_)
      refine g_region ?_
      refine g_pu rfl rfl rfl (pu_assign rfl rfl) ?_
      refine g_nil ?_
      have hne : x.m ≠ zero16 := fun he => by
        rw [he] at h1
        unfold zero16 at h1
        rw [List.getElem?_replicate, if_pos hlt] at h1
        cases h1
        exact hy rfl
      exact g_ret1 rfl rfl (fun w' hm => ⟨(), trivial, by rw [decide_eq_true hne], hm.grows [] trivial rfl⟩)
  · (repeat refine g_seq ?_)
    refine g_region ?_
    refine g_pu rfl rfl rfl (pu_move rfl rfl) ?_
    first | refine g_pu rfl rfl rfl (pu_lss_t rfl rfl rfl (by omega)) ?_ | refine g_pu rfl rfl rfl (pu_lss_f rfl rfl rfl (by omega)) ?_ | refine g_pu rfl rfl rfl (pu_lss rfl rfl rfl) ?_
    refine g_nil ?_
    (repeat refine g_seq ?_)
    refine g_cond_f rfl (g_exit rfl ?_)
    (repeat refine g_seq ?_)
    refine g_region ?_
    refine g_pu rfl rfl rfl (pu_assign rfl rfl) ?_
    refine g_nil ?_
    have e : i = 16 := by omega
    subst e
    rw [List.take_of_length_le (by omega)] at hz
    exact g_ret1 rfl rfl (fun w' hm => ⟨(), trivial, by rw [decide_eq_false (fun h => h hz)], hm.grows [] trivial rfl⟩)

theorem RCheck_b (w : World) (x : Cmd) (h16 : x.m.length = 16) : Spec Try.prog 20 #[.agg (cmdC x).toArray] w (σ := Unit) (fun _ => True) (fun _ => .int .i64 (chkE x)) Nob (fun _ => []) := by
  refine enter Try.func20 rfl rfl (Mem.start w) ?_
  have hcl := cmdC_length h16
  (repeat refine g_seq ?_)
  refine g_region ?_
  refine g_lo [1] rfl rfl rfl rfl (lo_box rfl rfl) (fun b1 hb1 => ?_)
  refine g_pu rfl rfl rfl (pu_assign rfl rfl) ?_
  refine g_nil ?_
  by_cases hk : x.k.toNat < 1 ∨ x.k.toNat > 4
  · have hE : chkE x = 1 := by unfold chkE; rw [if_pos hk]
    rw [hE]
    rcases hk with hk | hk
    · (repeat refine g_seq ?_)
      refine g_region ?_
      refine g_pu rfl rfl rfl (pu_fieldAddr (by decide) rfl rfl) ?_
      refine g_pu rfl rfl rfl (pu_load 1 rfl rfl rfl rfl) ?_
      refine g_pu rfl rfl rfl (pu_lss_t rfl rfl rfl (by omega)) ?_
      refine g_pu rfl rfl rfl (pu_move rfl rfl) ?_
      first | refine g_pass rfl rfl rfl ?_ | refine g_pu rfl rfl rfl (pu_fieldAddr (by decide) rfl rfl) ?_
      first | refine g_pass rfl rfl rfl ?_ | refine g_pu rfl rfl rfl (pu_load 1 rfl rfl rfl rfl) ?_
      first | refine g_pass rfl rfl rfl ?_ | refine g_pu rfl rfl rfl (pu_gtr rfl rfl rfl) ?_
      first | refine g_pu rfl rfl rfl (pu_pick_t rfl rfl rfl) ?_ | refine g_pu rfl rfl rfl (pu_pick_f rfl rfl rfl) ?_
      refine g_nil ?_
      (repeat refine g_seq ?_)
      refine g_cond_t rfl ?_
      (repeat refine g_seq ?_)
      refine g_region ?_
      refine g_pu rfl rfl rfl (pu_assign rfl rfl) ?_
      refine g_nil ?_
      exact g_ret1 rfl rfl (fun w' hm => ⟨(), trivial, rfl, hm.grows [] trivial rfl⟩)
    · (repeat refine g_seq ?_)
      refine g_region ?_
      refine g_pu rfl rfl rfl (pu_fieldAddr (by decide) rfl rfl) ?_
      refine g_pu rfl rfl rfl (pu_load 1 rfl rfl rfl rfl) ?_
      refine g_pu rfl rfl rfl (pu_lss_f rfl rfl rfl (by omega)) ?_
      refine g_pu rfl rfl rfl (pu_move rfl rfl) ?_
      first | refine g_pass rfl rfl rfl ?_ | refine g_pu rfl rfl rfl (pu_fieldAddr (by decide) rfl rfl) ?_
      first | refine g_pass rfl rfl rfl ?_ | refine g_pu rfl rfl rfl (pu_load 1 rfl rfl rfl rfl) ?_
      refine g_pu rfl rfl rfl (pu_gtr_t rfl rfl rfl (by omega)) ?_
      first | refine g_pu rfl rfl rfl (pu_pick_t rfl rfl rfl) ?_ | refine g_pu rfl rfl rfl (pu_pick_f rfl rfl rfl) ?_
      refine g_nil ?_
      (repeat refine g_seq ?_)
      refine g_cond_t rfl ?_
      (repeat refine g_seq ?_)
      refine g_region ?_
      refine g_pu rfl rfl rfl (pu_assign rfl rfl) ?_
      refine g_nil ?_
      exact g_ret1 rfl rfl (fun w' hm => ⟨(), trivial, rfl, hm.grows [] trivial rfl⟩)
  · (repeat refine g_seq ?_)
    refine g_region ?_
    refine g_pu rfl rfl rfl (pu_fieldAddr (by decide) rfl rfl) ?_
    refine g_pu rfl rfl rfl (pu_load 1 rfl rfl rfl rfl) ?_
    refine g_pu rfl rfl rfl (pu_lss_f rfl rfl rfl (by omega)) ?_
    refine g_pu rfl rfl rfl (pu_move rfl rfl) ?_
    first | refine g_pass rfl rfl rfl ?_ | refine g_pu rfl rfl rfl (pu_fieldAddr (by decide) rfl rfl) ?_
    first | refine g_pass rfl rfl rfl ?_ | refine g_pu rfl rfl rfl (pu_load 1 rfl rfl rfl rfl) ?_
    refine g_pu rfl rfl rfl (pu_gtr_f rfl rfl rfl (by omega)) ?_
    first | refine g_pu rfl rfl rfl (pu_pick_t rfl rfl rfl) ?_ | refine g_pu rfl rfl rfl (pu_pick_f rfl rfl rfl) ?_
    refine g_nil ?_
    (repeat refine g_seq ?_)
    refine g_cond_f rfl (g_skip ?_)
    by_cases hbad : (x.k.toNat = 1 ∧ x.n.toNat = 0) ∨ (x.k.toNat ≠ 1 ∧ x.n.toNat ≠ 0) ∨ (x.k.toNat ≠ 4 ∧ x.m ≠ zero16)
    · have hE : chkE x = 3 := by unfold chkE; rw [if_neg hk, if_pos hbad]
      rw [hE]
      by_cases h1 : x.k.toNat = 1 <;> by_cases h2 : x.n.toNat = 0 <;> by_cases h4 : x.k.toNat = 4 <;> by_cases hz : x.m = zero16 <;> first | (exfalso; rcases hbad with ⟨a, b⟩ | ⟨a, b⟩ | ⟨a, b⟩ <;> first | omega | exact b hz) | (
        (repeat refine g_seq ?_)
        refine g_region ?_
        refine g_pu rfl rfl rfl (pu_fieldAddr (by decide) rfl rfl) ?_
        refine g_pu rfl rfl rfl (pu_load 1 rfl rfl rfl rfl) ?_
        first | refine g_pu rfl rfl rfl (pu_eql_t rfl rfl rfl (by omega)) ?_ | refine g_pu rfl rfl rfl (pu_eql_f rfl rfl rfl (by omega)) ?_
        refine g_pu rfl rfl rfl (pu_move rfl rfl) ?_
        first | refine g_pass rfl rfl rfl ?_ | refine g_pu rfl rfl rfl (pu_fieldAddr (by decide) rfl rfl) ?_
        first | refine g_pass rfl rfl rfl ?_ | refine g_pu rfl rfl rfl (pu_load 1 rfl rfl rfl rfl) ?_
        first | refine g_pass rfl rfl rfl ?_ | refine g_pu rfl rfl rfl (pu_eql_t rfl rfl rfl (by omega)) ?_ | refine g_pu rfl rfl rfl (pu_eql_f rfl rfl rfl (by omega)) ?_
        first | refine g_pu rfl rfl rfl (pu_pick_t rfl rfl rfl) ?_ | refine g_pu rfl rfl rfl (pu_pick_f rfl rfl rfl) ?_
        refine g_pu rfl rfl rfl (pu_move rfl rfl) ?_
        first | refine g_pass rfl rfl rfl ?_ | refine g_pu rfl rfl rfl (pu_fieldAddr (by decide) rfl rfl) ?_
        first | refine g_pass rfl rfl rfl ?_ | refine g_pu rfl rfl rfl (pu_load 1 rfl rfl rfl rfl) ?_
        first | refine g_pass rfl rfl rfl ?_ | refine g_pu rfl rfl rfl (pu_neq_t rfl rfl rfl (by omega)) ?_ | refine g_pu rfl rfl rfl (pu_neq_f rfl rfl rfl (by omega)) ?_
        first | refine g_pass rfl rfl rfl ?_ | refine g_pu rfl rfl rfl (pu_move rfl rfl) ?_
        first | refine g_pass rfl rfl rfl ?_ | refine g_pu rfl rfl rfl (pu_fieldAddr (by decide) rfl rfl) ?_
        first | refine g_pass rfl rfl rfl ?_ | refine g_pu rfl rfl rfl (pu_load 1 rfl rfl rfl rfl) ?_
        first | refine g_pass rfl rfl rfl ?_ | refine g_pu rfl rfl rfl (pu_neq_t rfl rfl rfl (by omega)) ?_ | refine g_pu rfl rfl rfl (pu_neq_f rfl rfl rfl (by omega)) ?_
        first | refine g_pass rfl rfl rfl ?_ | refine g_pu rfl rfl rfl (pu_pick_t rfl rfl rfl) ?_ | refine g_pu rfl rfl rfl (pu_pick_f rfl rfl rfl) ?_
        first | refine g_pu rfl rfl rfl (pu_pick_t rfl rfl rfl) ?_ | refine g_pu rfl rfl rfl (pu_pick_f rfl rfl rfl) ?_
        refine g_pu rfl rfl rfl (pu_move rfl rfl) ?_
        first | refine g_pass rfl rfl rfl ?_ | refine g_pu rfl rfl rfl (pu_fieldAddr (by decide) rfl rfl) ?_
        first | refine g_pass rfl rfl rfl ?_ | refine g_pu rfl rfl rfl (pu_load 1 rfl rfl rfl rfl) ?_
        first | refine g_pass rfl rfl rfl ?_ | refine g_pu rfl rfl rfl (pu_neq_t rfl rfl rfl (by omega)) ?_ | refine g_pu rfl rfl rfl (pu_neq_f rfl rfl rfl (by omega)) ?_
        first | refine g_pass rfl rfl rfl ?_ | refine g_pu rfl rfl rfl (pu_move rfl rfl) ?_
        first | refine g_pass rfl rfl rfl ?_ | refine g_pu rfl rfl rfl (pu_loadW 1 (L := cmdC x) rfl rfl rfl hcl) ?_
        first | refine g_pass rfl rfl rfl ?_ | (refine g_call [] rfl rfl rfl rfl rfl rfl (fun w' hm => marked_b w' x h16) (fun _ _ => ?_); rw [decide_eq_true (show x.m ≠ zero16 from hz)])
        first | refine g_pass rfl rfl rfl ?_ | refine g_pu rfl rfl rfl (pu_pick_t rfl rfl rfl) ?_ | refine g_pu rfl rfl rfl (pu_pick_f rfl rfl rfl) ?_
        first | refine g_pu rfl rfl rfl (pu_pick_t rfl rfl rfl) ?_ | refine g_pu rfl rfl rfl (pu_pick_f rfl rfl rfl) ?_
        refine g_nil ?_
        (repeat refine g_seq ?_)
        refine g_cond_t rfl ?_
        (repeat refine g_seq ?_)
        refine g_region ?_
        refine g_pu rfl rfl rfl (pu_assign rfl rfl) ?_
        refine g_nil ?_
        exact g_ret1 rfl rfl (fun w' hm => ⟨(), trivial, rfl, hm.grows [] trivial rfl⟩))
    · have e1 : x.k.toNat = 1 → x.n.toNat ≠ 0 := fun h h' => hbad (.inl ⟨h, h'⟩)
      have e2 : x.k.toNat ≠ 1 → x.n.toNat = 0 := fun h => Classical.byContradiction fun h' => hbad (.inr (.inl ⟨h, h'⟩))
      have e3 : x.k.toNat ≠ 4 → x.m = zero16 := fun h => Classical.byContradiction fun h' => hbad (.inr (.inr ⟨h, h'⟩))
      by_cases h1 : x.k.toNat = 1 <;> by_cases h2 : x.n.toNat = 0 <;> by_cases h4 : x.k.toNat = 4 <;> first | (exfalso; first | omega | exact e1 h1 h2 | exact h2 (e2 h1)) | (
        (repeat refine g_seq ?_)
        refine g_region ?_
        refine g_pu rfl rfl rfl (pu_fieldAddr (by decide) rfl rfl) ?_
        refine g_pu rfl rfl rfl (pu_load 1 rfl rfl rfl rfl) ?_
        first | refine g_pu rfl rfl rfl (pu_eql_t rfl rfl rfl (by omega)) ?_ | refine g_pu rfl rfl rfl (pu_eql_f rfl rfl rfl (by omega)) ?_
        refine g_pu rfl rfl rfl (pu_move rfl rfl) ?_
        first | refine g_pass rfl rfl rfl ?_ | refine g_pu rfl rfl rfl (pu_fieldAddr (by decide) rfl rfl) ?_
        first | refine g_pass rfl rfl rfl ?_ | refine g_pu rfl rfl rfl (pu_load 1 rfl rfl rfl rfl) ?_
        first | refine g_pass rfl rfl rfl ?_ | refine g_pu rfl rfl rfl (pu_eql_t rfl rfl rfl (by omega)) ?_ | refine g_pu rfl rfl rfl (pu_eql_f rfl rfl rfl (by omega)) ?_
        first | refine g_pu rfl rfl rfl (pu_pick_t rfl rfl rfl) ?_ | refine g_pu rfl rfl rfl (pu_pick_f rfl rfl rfl) ?_
        refine g_pu rfl rfl rfl (pu_move rfl rfl) ?_
        first | refine g_pass rfl rfl rfl ?_ | refine g_pu rfl rfl rfl (pu_fieldAddr (by decide) rfl rfl) ?_
        first | refine g_pass rfl rfl rfl ?_ | refine g_pu rfl rfl rfl (pu_load 1 rfl rfl rfl rfl) ?_
        first | refine g_pass rfl rfl rfl ?_ | refine g_pu rfl rfl rfl (pu_neq_t rfl rfl rfl (by omega)) ?_ | refine g_pu rfl rfl rfl (pu_neq_f rfl rfl rfl (by omega)) ?_
        first | refine g_pass rfl rfl rfl ?_ | refine g_pu rfl rfl rfl (pu_move rfl rfl) ?_
        first | refine g_pass rfl rfl rfl ?_ | refine g_pu rfl rfl rfl (pu_fieldAddr (by decide) rfl rfl) ?_
        first | refine g_pass rfl rfl rfl ?_ | refine g_pu rfl rfl rfl (pu_load 1 rfl rfl rfl rfl) ?_
        first | refine g_pass rfl rfl rfl ?_ | refine g_pu rfl rfl rfl (pu_neq_t rfl rfl rfl (by omega)) ?_ | refine g_pu rfl rfl rfl (pu_neq_f rfl rfl rfl (by omega)) ?_
        first | refine g_pass rfl rfl rfl ?_ | refine g_pu rfl rfl rfl (pu_pick_t rfl rfl rfl) ?_ | refine g_pu rfl rfl rfl (pu_pick_f rfl rfl rfl) ?_
        first | refine g_pu rfl rfl rfl (pu_pick_t rfl rfl rfl) ?_ | refine g_pu rfl rfl rfl (pu_pick_f rfl rfl rfl) ?_
        refine g_pu rfl rfl rfl (pu_move rfl rfl) ?_
        first | refine g_pass rfl rfl rfl ?_ | refine g_pu rfl rfl rfl (pu_fieldAddr (by decide) rfl rfl) ?_
        first | refine g_pass rfl rfl rfl ?_ | refine g_pu rfl rfl rfl (pu_load 1 rfl rfl rfl rfl) ?_
        first | refine g_pass rfl rfl rfl ?_ | refine g_pu rfl rfl rfl (pu_neq_t rfl rfl rfl (by omega)) ?_ | refine g_pu rfl rfl rfl (pu_neq_f rfl rfl rfl (by omega)) ?_
        first | refine g_pass rfl rfl rfl ?_ | refine g_pu rfl rfl rfl (pu_move rfl rfl) ?_
        first | refine g_pass rfl rfl rfl ?_ | refine g_pu rfl rfl rfl (pu_loadW 1 (L := cmdC x) rfl rfl rfl hcl) ?_
        first | refine g_pass rfl rfl rfl ?_ | (refine g_call [] rfl rfl rfl rfl rfl rfl (fun w' hm => marked_b w' x h16) (fun _ _ => ?_); rw [decide_eq_false (show ¬ x.m ≠ zero16 from fun h => h (e3 (by omega)))])
        first | refine g_pass rfl rfl rfl ?_ | refine g_pu rfl rfl rfl (pu_pick_t rfl rfl rfl) ?_ | refine g_pu rfl rfl rfl (pu_pick_f rfl rfl rfl) ?_
        first | refine g_pu rfl rfl rfl (pu_pick_t rfl rfl rfl) ?_ | refine g_pu rfl rfl rfl (pu_pick_f rfl rfl rfl) ?_
        refine g_nil ?_
        (repeat refine g_seq ?_)
        refine g_cond_f rfl (g_skip ?_)
        by_cases hd : x.d.toNat > 1000000
        · have hE : chkE x = 11 := by unfold chkE; rw [if_neg hk, if_neg hbad, if_pos hd]
          rw [hE]
          (repeat refine g_seq ?_)
          refine g_region ?_
          refine g_pu rfl rfl rfl (pu_fieldAddr (by decide) rfl rfl) ?_
          refine g_pu rfl rfl rfl (pu_load 1 rfl rfl rfl rfl) ?_
          refine g_pu rfl rfl rfl (pu_gtr_t rfl rfl rfl (by omega)) ?_
          refine g_nil ?_
          (repeat refine g_seq ?_)
          refine g_cond_t rfl ?_
          (repeat refine g_seq ?_)
          refine g_region ?_
          refine g_pu rfl rfl rfl (pu_assign rfl rfl) ?_
          refine g_nil ?_
          exact g_ret1 rfl rfl (fun w' hm => ⟨(), trivial, rfl, hm.grows [] trivial rfl⟩)
        · have hE : chkE x = 0 := by unfold chkE; rw [if_neg hk, if_neg hbad, if_neg hd]
          rw [hE]
          (repeat refine g_seq ?_)
          refine g_region ?_
          refine g_pu rfl rfl rfl (pu_fieldAddr (by decide) rfl rfl) ?_
          refine g_pu rfl rfl rfl (pu_load 1 rfl rfl rfl rfl) ?_
          refine g_pu rfl rfl rfl (pu_gtr_f rfl rfl rfl (by omega)) ?_
          refine g_nil ?_
          (repeat refine g_seq ?_)
          refine g_cond_f rfl (g_skip ?_)
          (repeat refine g_seq ?_)
          refine g_region ?_
          refine g_pu rfl rfl rfl (pu_assign rfl rfl) ?_
          refine g_nil ?_
          exact g_ret1 rfl rfl (fun w' hm => ⟨(), trivial, rfl, hm.grows [] trivial rfl⟩))

theorem put4_get {d : BitVec 32} {j : Nat} (hj : j < 4) : (putL 2 4 (d.setWidth 64))[j]? = some ((d >>> (8 * (3 - j))).setWidth 8) := by
  unfold putL
  rw [if_pos (putE_4 d), if_pos rfl, List.getElem?_reverse (by rw [putW_length]; exact hj), putW_length]
  unfold putW
  rw [List.getElem?_map, List.getElem?_range (by show (4 : Int).toNat - 1 - j < (4 : Int).toNat; omega)]
  simp only [Option.map_some, Option.some.injEq]
  apply BitVec.eq_of_toNat_eq
  have hd := d.isLt
  simp only [BitVec.toNat_setWidth, BitVec.toNat_ushiftRight, Nat.mod_eq_of_lt (show d.toNat < 2 ^ 64 by omega)]
  rw [show (4 : Int).toNat - 1 - j = 3 - j from rfl]
theorem put8_get {n : BitVec 64} {j : Nat} (hj : j < 8) : (putL 2 8 n)[j]? = some ((n >>> (8 * (7 - j))).setWidth 8) := by
  unfold putL
  rw [if_pos (putE_8 n), if_pos rfl, List.getElem?_reverse (by rw [putW_length]; exact hj), putW_length]
  unfold putW
  rw [List.getElem?_map, List.getElem?_range (by show (8 : Int).toNat - 1 - j < (8 : Int).toNat; omega)]
  rfl

theorem REncode_e (w : World) (x : Cmd) (h16 : x.m.length = 16) (he : chkE x ≠ 0) : Spec Try.prog 17 #[.agg (cmdC x).toArray] w (σ := Unit) (fun _ => True) (fun _ => .tuple #[.slice none 0 0, .int .i64 (chkE x)]) Nob (fun _ => []) := by
  refine enter Try.func17 rfl rfl (Mem.start w) ?_
  have hcl := cmdC_length h16
  (repeat refine g_seq ?_)
  refine g_region ?_
  refine g_lo [1] rfl rfl rfl rfl (lo_box rfl rfl) (fun b1 hb1 => ?_)
  refine g_pu rfl rfl rfl (pu_assign rfl rfl) ?_
  refine g_pu rfl rfl rfl (pu_assign rfl rfl) ?_
  refine g_nil ?_
  (repeat refine g_seq ?_)
  refine g_region ?_
  refine g_pu rfl rfl rfl (pu_loadW 1 (L := cmdC x) rfl rfl rfl hcl) ?_
  refine g_call [] rfl rfl rfl rfl rfl rfl (fun w' hm => RCheck_b w' x h16) (fun _ _ => ?_)
  refine g_pu rfl rfl rfl (pu_assign rfl rfl) ?_
  refine g_nil ?_
  (repeat refine g_seq ?_)
  refine g_region ?_
  refine g_pu rfl rfl rfl (pu_move rfl rfl) ?_
  refine g_pu rfl rfl rfl (pu_neq_t rfl rfl rfl (by omega)) ?_
  refine g_nil ?_
  (repeat refine g_seq ?_)
  refine g_cond_t rfl ?_
  (repeat refine g_seq ?_)
  refine g_region ?_
  refine g_pu rfl rfl rfl (pu_move rfl rfl) ?_
  refine g_pu rfl rfl rfl (pu_assign rfl rfl) ?_
  refine g_pu rfl rfl rfl (pu_assign rfl rfl) ?_
  refine g_nil ?_
  exact g_ret2 rfl rfl rfl (fun w' hm => ⟨(), trivial, rfl, hm.grows [] trivial rfl⟩)

theorem REncode_b (w : World) (x : Cmd) (h16 : x.m.length = 16) (he : chkE x = 0) : Spec Try.prog 17 #[.agg (cmdC x).toArray] w (σ := Ow) (fun _ => True) (fun y => .tuple #[y.sl 32, .int .i64 0]) Nob (fun y => [y.ck 5 1 (bs (encL x))]) := by
  refine enter Try.func17 rfl rfl (Mem.start w) ?_
  have hcl := cmdC_length h16
  have hel := encL_length h16
  have h4 := put4_len x.d
  have h8 := put8_len x.n
  (repeat refine g_seq ?_)
  refine g_region ?_
  refine g_lo [1] rfl rfl rfl rfl (lo_box rfl rfl) (fun b1 hb1 => ?_)
  refine g_pu rfl rfl rfl (pu_assign rfl rfl) ?_
  refine g_pu rfl rfl rfl (pu_assign rfl rfl) ?_
  refine g_nil ?_
  (repeat refine g_seq ?_)
  refine g_region ?_
  refine g_pu rfl rfl rfl (pu_loadW 1 (L := cmdC x) rfl rfl rfl hcl) ?_
  refine g_call [] rfl rfl rfl rfl rfl rfl (fun w' hm => RCheck_b w' x h16) (fun _ _ => ?_)
  rw [he]
  refine g_pu rfl rfl rfl (pu_assign rfl rfl) ?_
  refine g_nil ?_
  (repeat refine g_seq ?_)
  refine g_region ?_
  refine g_pu rfl rfl rfl (pu_move rfl rfl) ?_
  refine g_pu rfl rfl rfl (pu_neq_f rfl rfl rfl (by omega)) ?_
  refine g_nil ?_
  (repeat refine g_seq ?_)
  refine g_cond_f rfl (g_skip ?_)
  (repeat refine g_seq ?_)
  refine g_region ?_
  refine g_pu rfl rfl rfl (pu_fieldAddr (by decide) rfl rfl) ?_
  refine g_pu rfl rfl rfl (pu_load 1 rfl rfl rfl rfl) ?_
  refine g_pu rfl rfl rfl (pu_fieldAddr (by decide) rfl rfl) ?_
  refine g_pu rfl rfl rfl (pu_load 1 rfl rfl rfl rfl) ?_
  refine g_lo [17] rfl rfl rfl rfl (lo_buildSlice rfl rfl (by decide) (by decide) rfl rfl) (fun b17 hb17 => ?_)
  refine g_own 17 (L := bs [x.k, x.f]) (J := []) (c := 2) (s := 1) rfl (by simp [bs]) (by omega) ?_
  refine g_pu rfl rfl rfl (pu_assign rfl rfl) ?_
  refine g_nil ?_
  (repeat refine g_seq ?_)
  refine g_region ?_
  refine g_pu rfl rfl rfl (pu_assign rfl rfl) ?_
  refine g_nil ?_
  refine g_block (g_loop2 (fun (j : Nat) (y : Ow) => [(1, .pointer (some ⟨b1, 0, none⟩)), (5, y.sl (2 + j)), (6, .int .i64 (3 - (j : Int)))]) (fun j y => [(1, .pt b1 (.cells (cmdC x).toArray 28 (0, 0))), (17, y.ck 5 1 (bs ([x.k, x.f] ++ (putL 2 4 (x.d.setWidth 64)).take j)))]) (fun j _ => j ≤ 4) (fun j _ => 4 - j) 0 ⟨some ⟨b17, 0, none⟩, 2⟩ ⟨rfl, rfl, rfl, trivial⟩ ⟨rfl, rfl, trivial⟩ (by omega) ?_)
  intro j y hj
  have hyl : ([x.k, x.f] ++ (putL 2 4 (x.d.setWidth 64)).take j).length = 2 + j := by rw [List.length_append, List.length_take, h4, Nat.min_eq_left hj]; rfl
  by_cases hlt : j < 4
  · (repeat refine g_seq ?_)
    refine g_region ?_
    refine g_pu rfl rfl rfl (pu_move rfl rfl) ?_
    refine g_pu rfl rfl rfl (pu_geq_t rfl rfl rfl (by omega)) ?_
    refine g_nil ?_
    (repeat refine g_seq ?_)
    refine g_cond_t rfl (g_skip ?_)
    have hg := put4_get (d := x.d) hlt
    (repeat refine g_seq ?_); refine g_block ?_
    (repeat refine g_seq ?_)
    refine g_region ?_
    refine g_pu rfl rfl rfl (pu_move rfl rfl) ?_
    refine g_pu rfl rfl rfl (pu_fieldAddr (by decide) rfl rfl) ?_
    refine g_pu rfl rfl rfl (pu_load 1 rfl rfl rfl rfl) ?_
    refine g_pu rfl rfl rfl (pu_move rfl rfl) ?_
    refine g_pu rfl rfl rfl (pu_mulI rfl rfl rfl (by omega)) ?_
    refine g_pu rfl rfl rfl (pu_shr32 rfl rfl rfl (by omega)) ?_
    rw [show (8 * (3 - (j : Int))).toNat = 8 * (3 - j) by omega]
    refine g_pu rfl rfl rfl (pu_conv32_8 rfl rfl) ?_
    refine g_lo [29] rfl rfl rfl rfl (lo_buildSlice rfl rfl (by decide) (by decide) rfl rfl) (fun b29 hb29 => ?_)
    refine g_append1 17 (bs [(x.d >>> (8 * (3 - j))).setWidth 8]) rfl rfl rfl rfl rfl rfl rfl rfl (by rw [bs_length, hyl]) (fun w' hm => hm.rowA 29 rfl) rfl (oneCell_bs _) (by omega) (by omega) (fun p' c' => ?_)
    rw [← bs_append, List.append_assoc, show (putL 2 4 (x.d.setWidth 64)).take j ++ [(x.d >>> (8 * (3 - j))).setWidth 8] = (putL 2 4 (x.d.setWidth 64)).take (j + 1) by rw [List.take_add_one, hg]; rfl]
    refine g_pu rfl rfl rfl (pu_assign rfl rfl) ?_
    refine g_nil ?_
    refine g_blk ?_
    (repeat refine g_seq ?_)
    refine g_region ?_
    refine g_pu rfl rfl rfl (pu_move rfl rfl) ?_
    refine g_pu rfl rfl rfl (pu_subI rfl rfl rfl (by omega)) ?_
    refine g_pu rfl rfl rfl (pu_assign rfl rfl) ?_
    refine g_nil ?_
    exact g_round2 (j + 1) (⟨p', c'⟩ : Ow) (by omega) (by omega) ⟨rfl, rfl, congrArg (fun z => some (Value.int .i64 z)) (by omega), trivial⟩ ⟨rfl, rfl, trivial⟩
  · (repeat refine g_seq ?_)
    refine g_region ?_
    refine g_pu rfl rfl rfl (pu_move rfl rfl) ?_
    refine g_pu rfl rfl rfl (pu_geq_f rfl rfl rfl (by omega)) ?_
    refine g_nil ?_
    (repeat refine g_seq ?_)
    refine g_cond_f rfl (g_exit rfl ?_)
    have e : j = 4 := by omega
    subst e
    rw [List.take_of_length_le (by omega)] at hyl ⊢
    generalize hA : [x.k, x.f] ++ putL 2 4 (x.d.setWidth 64) = A at hyl
    (repeat refine g_seq ?_)
    refine g_region ?_
    refine g_pu rfl rfl rfl (pu_assign rfl rfl) ?_
    refine g_nil ?_
    refine g_block (g_loop2 (fun (j : Nat) (z : Ow) => [(1, .pointer (some ⟨b1, 0, none⟩)), (5, z.sl (6 + j)), (7, .int .i64 (7 - (j : Int)))]) (fun j z => [(1, .pt b1 (.cells (cmdC x).toArray 28 (0, 0))), (17, z.ck 5 1 (bs (A ++ (putL 2 8 x.n).take j)))]) (fun j _ => j ≤ 8) (fun j _ => 8 - j) 0 y ⟨rfl, rfl, rfl, trivial⟩ ⟨rfl, by rw [List.take_zero, List.append_nil A]; rfl, trivial⟩ (by omega) ?_)
    intro j z hj
    have hzl : (A ++ (putL 2 8 x.n).take j).length = 6 + j := by rw [List.length_append, List.length_take, h8, Nat.min_eq_left hj, hyl]
    by_cases hlt : j < 8
    · (repeat refine g_seq ?_)
      refine g_region ?_
      refine g_pu rfl rfl rfl (pu_move rfl rfl) ?_
      refine g_pu rfl rfl rfl (pu_geq_t rfl rfl rfl (by omega)) ?_
      refine g_nil ?_
      (repeat refine g_seq ?_)
      refine g_cond_t rfl (g_skip ?_)
      have hg := put8_get (n := x.n) hlt
      (repeat refine g_seq ?_); refine g_block ?_
      (repeat refine g_seq ?_)
      refine g_region ?_
      refine g_pu rfl rfl rfl (pu_move rfl rfl) ?_
      refine g_pu rfl rfl rfl (pu_fieldAddr (by decide) rfl rfl) ?_
      refine g_pu rfl rfl rfl (pu_load 1 rfl rfl rfl rfl) ?_
      refine g_pu rfl rfl rfl (pu_move rfl rfl) ?_
      refine g_pu rfl rfl rfl (pu_mulI rfl rfl rfl (by omega)) ?_
      refine g_pu rfl rfl rfl (pu_shr64 rfl rfl rfl (by omega)) ?_
      rw [show (8 * (7 - (j : Int))).toNat = 8 * (7 - j) by omega]
      refine g_pu rfl rfl rfl (pu_conv64_8 rfl rfl) ?_
      refine g_lo [42] rfl rfl rfl rfl (lo_buildSlice rfl rfl (by decide) (by decide) rfl rfl) (fun b42 hb42 => ?_)
      refine g_append1 17 (bs [(x.n >>> (8 * (7 - j))).setWidth 8]) rfl rfl rfl rfl rfl rfl rfl rfl (by rw [bs_length, hzl]) (fun w' hm => hm.rowA 42 rfl) rfl (oneCell_bs _) (by omega) (by omega) (fun p' c' => ?_)
      rw [← bs_append, List.append_assoc, show (putL 2 8 x.n).take j ++ [(x.n >>> (8 * (7 - j))).setWidth 8] = (putL 2 8 x.n).take (j + 1) by rw [List.take_add_one, hg]; rfl]
      refine g_pu rfl rfl rfl (pu_assign rfl rfl) ?_
      refine g_nil ?_
      refine g_blk ?_
      (repeat refine g_seq ?_)
      refine g_region ?_
      refine g_pu rfl rfl rfl (pu_move rfl rfl) ?_
      refine g_pu rfl rfl rfl (pu_subI rfl rfl rfl (by omega)) ?_
      refine g_pu rfl rfl rfl (pu_assign rfl rfl) ?_
      refine g_nil ?_
      exact g_round2 (j + 1) (⟨p', c'⟩ : Ow) (by omega) (by omega) ⟨rfl, rfl, congrArg (fun z => some (Value.int .i64 z)) (by omega), trivial⟩ ⟨rfl, rfl, trivial⟩
    · (repeat refine g_seq ?_)
      refine g_region ?_
      refine g_pu rfl rfl rfl (pu_move rfl rfl) ?_
      refine g_pu rfl rfl rfl (pu_geq_f rfl rfl rfl (by omega)) ?_
      refine g_nil ?_
      (repeat refine g_seq ?_)
      refine g_cond_f rfl (g_exit rfl ?_)
      have e : j = 8 := by omega
      subst e
      rw [List.take_of_length_le (by omega)] at hzl ⊢
      (repeat refine g_seq ?_)
      refine g_region ?_
      refine g_pu rfl rfl rfl (pu_move rfl rfl) ?_
      refine g_pu rfl rfl rfl (pu_fieldAddr (by decide) rfl rfl) ?_
      refine g_pu rfl rfl rfl (pu_sliceA rfl rfl) ?_
      refine g_append1 17 (bs x.m) rfl rfl rfl rfl rfl rfl rfl rfl (by rw [bs_length, hzl]) (fun w' hm => (By.mark (hm.holds 1 _ rfl) h16).rd) (by rw [bs_length, h16]) (oneCell_bs _) (by omega) (by omega) (fun p1 c1 => ?_)
      rw [← bs_append]
      refine g_pu rfl rfl rfl (pu_assign rfl rfl) ?_
      refine g_nil ?_
      (repeat refine g_seq ?_)
      refine g_region ?_
      refine g_pu rfl rfl rfl (pu_move rfl rfl) ?_
      refine g_lo [49] rfl rfl rfl rfl (lo_buildSlice rfl rfl (by decide) (by decide) rfl rfl) (fun b49 hb49 => ?_)
      refine g_append1 17 (bs [0#8, 0#8]) rfl rfl rfl rfl rfl rfl rfl rfl (by rw [bs_length, List.length_append, hzl, h16]) (fun w' hm => hm.rowA 49 rfl) rfl (oneCell_bs _) (by omega) (by omega) (fun p2 c2 => ?_)
      rw [← bs_append, show A ++ putL 2 8 x.n ++ x.m ++ [0#8, 0#8] = encL x by rw [← hA]; simp [encL, encP]]
      refine g_pu rfl rfl rfl (pu_assign rfl rfl) ?_
      refine g_pu rfl rfl rfl (pu_assign rfl rfl) ?_
      refine g_nil ?_
      exact g_ret2 rfl rfl rfl (fun w' hm => ⟨⟨p2, c2⟩, trivial, rfl, hm.grows [17] ⟨rfl, trivial⟩ rfl⟩)
end Go.Sx
